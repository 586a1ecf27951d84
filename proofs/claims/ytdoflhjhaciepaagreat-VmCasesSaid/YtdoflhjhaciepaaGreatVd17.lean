/-
  Laws of walks, and walks.
-/
import Derived.Test.YtdoflhjhaciepaaGreatVd16
import Derived.Test.YtdoflhjhaciepaaGreatVd14
import Derived.Test.YtdoflhjhaciepaaGreatVd15
import Derived.Test.YtdoflhjhaciepaaGreatVd3
import Derived.Below
import Derived.Test.YtdoflhjhaciepaaGreatVd1
import Derived.Deep.CutRange
set_option linter.unusedVariables false
set_option linter.unusedSimpArgs false
set_option maxRecDepth 100000
set_option maxHeartbeats 16000000
namespace Go.Proofs.YtdoflhjhaciepaaGreat
section
open Go.RowKit Go.Shelf
attribute [local go_sem] Oper.semAt_some
theorem zEw (x:InstD) (v:Int):(zAY x).setIfInBounds 5 (.int .i64 v)=zAY {x with next:=v}:=rfl
theorem zE7 (x:InstD) (v:Int):(zAY x).setIfInBounds 6 (.int .i64 v)=zAY {x with other:=v}:=rfl
def zHS (w:World) (r:Except Nat (List InstD)) (e:Ending) (w':World):Prop:=match r with
 | .ok ps=>∃ q c F,e=.returned (.tuple #[.slice q ps.length c,.int .i64 0])∧InstsR F q c ps w'∧∀ b,F b→b<w'.heap.size∧w.heap.size≤b
 | .error k=>e=.returned (.tuple #[.slice none 0 0,.int .i64 k])
section
variable {M:Nat→Prop} {P:Program} {f:FuncId} {args:Array Value} {w w0:World} {l:List Res} {R:Ending→World→Prop}
theorem zR8 {t:Tree} (c:Calls P f args w fun e w'=>zQO w (.ok t) e w'∧Below w.heap.size w w') (H:HoldG M w0 w l)
  (k:∀ p n F w',(∀ b,F b→w0.heap.size≤b)→HoldG M w0 w' (l++[.kn F (fun V=>ForestR V F p n t.kids)])→R (.returned (.tuple #[zAc t.d (.slice p t.kids.length n),.int .i64 0])) w'):Calls P f args w R:=c.mono fun _ w' h=>by
 obtain⟨⟨p,n,F,rfl,hs,hF⟩,hb⟩:=h;exact k p n F w' (fun b h=>Nat.le_trans H.keep.size (hF b h).2) (H.learn hb Still.none (fun b h=>⟨(hF b h).1,.inl (hF b h).2⟩) (fun V hV=>hs.kept hV))
theorem zRG {x:Nat} (c:Calls P f args w fun e w'=>zQO w (.error x) e w'∧Below w.heap.size w w') (H:HoldG M w0 w l)
  (k:∀ w',HoldG M w0 w' l→R (.returned (.tuple #[zAc {kind:=0} nilS,.int .i64 x])) w'):Calls P f args w R:=c.mono fun _ w' h=>by
 obtain⟨rfl,hb⟩:=h;exact k w' (H.call hb)
end
section
variable {M:Nat→Prop} {ops:Array Oper} {dst:Option Tmp} {ty:TypeId} {pos:String} {aft:Array Edge} {grd:Option (Nat × Bool)} {rest:List Oper} {a:Act} {w w0:World} {l:List Res} {Q:Exit→Act→World→Prop}
theorem zN9 (W:World):(Instr.build 145 #[]).run Tryz.prog W=.ok (.agg #[.slice none 0 0]) W:=by kernel_rfl
theorem zSP (h:wpList Tryz.prog ops Q rest (a.put dst (.agg #[.slice none 0 0])) w) (hg:Region.wanted (⟨dst,.build 145 #[],ty,pos,aft,grd⟩:Oper) (yielded ops a.tmps)=true:=by first|rfl|exact zAO rfl (zAG rfl (by first|rfl|(simp only[pe];rfl)))):wpList Tryz.prog ops Q ((⟨dst,.build 145 #[],ty,pos,aft,grd⟩:Oper)::rest) a w :=
 zAZ hg (by
  simp only[execOp,List.map_toArray,List.map_nil,Sem.run_bind,zN9];rfl) h
end
theorem HoldG.rowInsts {M:Nat→Prop} {w0 w:World} {l:List Res} (H:HoldG M w0 w l) {i cap:Nat} {q:Option Addr} {xs:List InstD} (hi:At l i (.row (.slice q xs.length cap) 43 9 xs.length (zAP (xs.map zAY)))) :
  ∃ F:Nat→Prop,(∀ b,F b→(w0.heap.size≤b∨M b)∧b<w.heap.size)∧InstsR F q cap xs w:=by
 have ho:=H.all i _ hi.get;refine⟨fun b=>(Value.slice q xs.length cap).ownBlock=some b,fun b hb=>(ho.lt b hb),?_⟩
 exact RdN.of_own ho (zBX xs) (by rw[List.length_map]) (fun _ _=>rfl)
theorem zMI (m:Nat) (t:Tree) (p:Option Addr) (n c:Nat) (F:Nat→Prop) (w0:World) (hm:zAT t≤m) (hm2:m≤1000000000) (hF:∀ b,F b→b<w0.heap.size) (h:ForestR w0 F p c t.kids) (hn:n=t.kids.length) :
  Calls Tryz.prog 29 #[zAc t.d (.slice p n c)] w0 fun e w'=>zHS w0 (zFT t) e w'∧Below w0.heap.size w0 w':=by
 subst hn;have H:=(Hold.start w0).know F (fun V=>ForestR V F p c t.kids) hF (fun i r h=>by simp at h) (fun V hV=>h.kept hV)
 clear h;simp only[List.nil_append]at H;obtain⟨i0,hi0,hz0,hz1,hz2⟩:=info_parts zJU;have hsi:=fun w (h1:∀ b,F b→b<w.heap.size) (h2:ForestR w F p c t.kids)=>zJA m t p _ c F w hm hm2 h1 h2 rfl
 have hsp:∀ x,zCX t=.error x→x=2∨x=7:=fun x h=>by
  unfold zCX at h;split at h
  ·split at h<;>cases h;exact .inr rfl
  ·cases h;exact .inl rfl
 cases hs:zCX t with
 | error x =>
  rw[hs]at hsi;have hx:=hsp x hs;have E:=Lib.hid (show zFT t=.error x by unfold zFT;rw[hs])
  have dx:((x:Int) != 0)=true:=by rw[bne_iff_ne];omega
  clear hs hsp hx
  go_enter Tryz.func29,Tryz.ntmps29
  go_wp2_with (first|(first|((with_reducible refine gT ?_);(refine aT H ?_;clear H;intro w H;try simp only[nr]at H))|((with_reducible refine gL ?_);refine aD H ?_)|((with_reducible refine gX ?_);(refine bB H ?_;clear H;intro b w H;try simp only[nr]at H))|((with_reducible refine gA ?_);(refine bA H ?_;clear H;intro b w H;try simp only[nr]at H)))|(go_at_call 67;refine zRG (hsi _ (H.knlt .zero) (H.kn .zero)) H ?_;clear H;intro w H))
  go_ret2
  exact⟨by rw[E.out];rfl,H.below⟩
 | ok s =>
  rw[hs]at hsi;obtain⟨hks,hss⟩:=zLu hs;obtain⟨ar,har⟩:∃ a,layP s 1 zEZ=a:=⟨_,rfl⟩;obtain⟨a,ys⟩:=ar;have hyl:ys.length≤6100:=by
   have:=(zCk s 1 zEZ).2;rw[har]at this;simp only[zEZ,List.length_cons,List.length_nil]at this;omega
  have hlay:∀ M w0 w' bc v' q1 c1 F1,HoldG M w0 w' (zBU bc v' zEZ++[.kn F1 (fun V=>ForestR V F1 q1 c1 s.kids)])→Calls Tryz.prog 69 #[.pointer (some ⟨bc,0,none⟩),zAc s.d (.slice q1 s.kids.length c1),.int .i64 1] w' (LayB M w0 bc v' zEZ [.kn F1 (fun V=>ForestR V F1 q1 c1 s.kids)] w' (.int .i64 a) ys):=fun M w0 w' bc v' q1 c1 F1 h=>by
   have:=zOW 2000 s q1 s.kids.length c1 F1 bc v' zEZ 1 M w0 w' hss (Nat.le_refl _) hks (by simp only[zEZ,List.length_cons,List.length_nil];omega) rfl h
   rw[har]at this;exact this
  have E:=Lib.hid (show zFT t=if 4000≤ys.length then .error 7 else .ok (zCO (ys++[{kind:=3,next:=a}])) by
   unfold zFT zQH;rw[hs];simp only[har,List.length_append,List.length_cons,List.length_nil,Nat.add_sub_cancel])
  clear hs hsp har hks hss
  go_enter Tryz.func29,Tryz.ntmps29
  go_upto_region 5 with (first|((with_reducible refine gZ ?_);refine zSP ?_)|((first|((with_reducible refine kgA 1 ?_);refine kA 1 H ?_)|((with_reducible refine kgX 1 ?_);(first|refine kS 1 H ?_|refine kB 1 H ?_)));clear H;intro b1 w H;try simp only[nr]at H)|((first|((with_reducible refine kgA 4 ?_);refine kA 4 H ?_)|((with_reducible refine kgX 4 ?_);(first|refine kS 4 H ?_|refine kB 4 H ?_)));clear H;intro b4 w H;try simp only[nr]at H)|((first|((with_reducible refine kgA 28 ?_);refine kA 28 H ?_)|((with_reducible refine kgX 28 ?_);(first|refine kS 28 H ?_|refine kB 28 H ?_)));clear H;intro b28 w H;try simp only[nr]at H)|(first|((with_reducible refine gT ?_);(refine aT H ?_;clear H;intro w H;try simp only[nr]at H))|((with_reducible refine gL ?_);refine aD H ?_))|(go_at_call 67;refine zR8 (hsi _ (H.knlt .zero) (H.kn .zero)) H ?_;clear H;intro q1 c1 F1 w hF1 H;simp only[ca]at H))
  have H2:=(H.addNil 43 9).pick [4,5,2,0,1,3] [.blk b28 #[.slice none 0 0] 145,.row (.slice none 0 0) 43 9 ([]:List InstD).length (zAP (([]:List InstD).map zAY)),.kn F1 (fun V=>ForestR V F1 q1 c1 s.kids),.kn F (fun V=>ForestR V F p c t.kids),.blk b1 (zAU t.d (.slice p t.kids.length c)) 87,.blk b4 (zAU s.d (.slice q1 s.kids.length c1)) 87] (by decide) rfl
  clear H;have H:=H2;clear H2;have hput1:∀ (M:Nat→Prop) (w0 w:World) (bc:Nat) (v:Value),HoldG M w0 w (zBU bc v [])→Calls Tryz.prog 68 #[.pointer (some ⟨bc,0,none⟩),zAu {kind:=5}] w (LayB M w0 bc v [] [] w (.int .i64 0) [{kind:=5}]):=fun M w0 w bc v h=>zCm bc v [] _ h (by simp)
  have hput2:∀ (M:Nat→Prop) (w0 w:World) (bc:Nat) (v:Value),HoldG M w0 w (zBU bc v [{kind:=5}])→Calls Tryz.prog 68 #[.pointer (some ⟨bc,0,none⟩),zAu {kind:=3,slot:=1,next:=0}] w (LayB M w0 bc v [{kind:=5}] [] w (.int .i64 1) zEZ):=fun M w0 w bc v h=>zCm bc v [{kind:=5}] _ h (by simp)
  have hput3:∀ (M:Nat→Prop) (w0 w:World) (bc:Nat) (v:Value),HoldG M w0 w (zBU bc v ys)→Calls Tryz.prog 68 #[.pointer (some ⟨bc,0,none⟩),zAu {kind:=3,next:=a}] w (LayB M w0 bc v ys [] w (.int .i64 ys.length) (ys++[{kind:=3,next:=a}])):=fun M w0 w bc v h=>zCm bc v ys _ h (by omega)
  go_upto_region 6 with (first|((with_reducible refine gBi ?_);refine ib1 ?_)|(go_at_call 68;refine chP H (fun h=>hput1 _ _ _ _ _ h) ?_;clear H;intro v2 w H))
  go_upto_region 7 with (first|((with_reducible refine gBi ?_);refine ib4 ?_)|(go_at_call 68;refine chP H (fun h=>hput2 _ _ _ _ _ h) ?_;clear H;intro v2 w H))
  go_upto_region 8 with (first|((with_reducible refine gL ?_);refine aD H ?_)|(go_at_call 69;refine chL (F:=F1) (S:=fun V=>ForestR V F1 q1 c1 s.kids) H (Still.at (i:=2) i_2) (fun V hV=>(H.kn (i:=2) i_2).kept hV) (fun h=>hlay _ _ _ _ _ _ _ _ h) ?_;clear H;intro v3 w H))
  go_upto_region 9 with (first|((with_reducible refine gBi ?_);refine ib6 ?_)|(go_at_call 68;refine chP H (fun h=>hput3 _ _ _ _ _ h) ?_;clear H;intro v2 w H))
  clear hput1 hput2 hput3 hlay hsi;have hzk:(ys++[({kind:=3,next:=(a:Int)}:InstD)]).length=ys.length+1:=by simp
  generalize ys++[({kind:=3,next:=(a:Int)}:InstD)]=zs at H E hzk
  generalize ys.length=k at H E hzk hyl
  rw[hzk]at H;have HZ:=Lib.hid hzk;clear hzk;obtain⟨q2,c2,rfl,_,_,hq2⟩:=H.rowShape (i:=1) i_1;obtain⟨g2,rfl⟩:=hq2 (by omega)
  by_cases h4:4000≤k
  ·have d4:decide ((4000:Int)≤(k:Int))=true:=by simp;omega
   have E2:=Lib.hid (show zFT t=.error 7 by rw[E.out,if_pos h4])
   clear E h4
   go_wp2_with (first|((with_reducible refine gL ?_);refine aG H ?_))
   go_ret2
   exact⟨by rw[E2.out];rfl,H.below⟩
  ·have d4:decide ((4000:Int)≤(k:Int))=false:=by simp;omega
   have E2:=Lib.hid (show zFT t=.ok (zCO zs) by rw[E.out,if_neg h4])
   clear E;have hk4:k<4000:=by omega
   clear h4
   go_upto_region 13 with (first|((with_reducible refine gL ?_);refine aG H ?_))
   have H2:=(H.addNil 43 9).pick [0,1,6] [.blk b28 #[.slice (some ⟨g2,0,none⟩) (k+1) c2] 145,.row (.slice (some ⟨g2,0,none⟩) (k+1) c2) 43 9 (k+1) (zAP (zs.map zAY)),.row (.slice none 0 0) 43 9 0 (zAP (((zCO zs).take 0).map zAY))] (by decide) rfl
   clear H;have H:=H2;clear H2
   go_wp2_with (first|fail)
   go_loopw [11,12] (fun vo ix wr=>∃ (j:Nat) (z:Int) (vq:Option Addr) (vc:Nat),j≤k+1∧z=(j:Int) - 1∧vo=.slice vq (k+1 - j) vc∧ix=.int .i64 z∧Hold w0 wr [.blk b28 #[.slice (some ⟨g2,0,none⟩) (k+1) c2] 145,.row (.slice (some ⟨g2,0,none⟩) (k+1) c2) 43 9 (k+1) (zAP (zs.map zAY)),.row (.slice vq (k+1 - j) vc) 43 9 (k+1 - j) (zAP (((zCO zs).take (k+1 - j)).map zAY))]) (fun _ ix _=>(intOf ix+1).toNat)
   case atStart=>exact⟨k+1,_,none,0,Nat.le_refl _,by omega,by simp,rfl,by simpa using H⟩
   case round =>
    clear H;obtain⟨j,z,vq,vc,hj,hz,rfl,rfl,H⟩:=hrel
    by_cases h0:j=0
    ·subst h0;have dz:decide ((0:Int)≤z)=false:=by simp;omega
     have EL:(zCO zs).take (k+1 - 0)=zCO zs:=List.take_of_length_le (by rw[zIC,HZ.out];omega)
     rw[EL]at H;have hkk:k+1 - 0=k+1:=rfl;rw[hkk]at H ⊢;clear hz EL hkk
     go_wp2_with (first|fail)
     go_ret2
     refine⟨?_,H.below⟩;rw[E2.out];have hlen:(zCO zs).length=k+1:=by rw[zIC,HZ.out]
     rw[← hlen]at H;obtain⟨F9,hF9,hI⟩:=H.rowInsts (i:=2) i_2;exact⟨vq,vc,F9,by rw[hlen];rfl,hI,fun b h=>⟨(hF9 b h).2,(hF9 b h).1.elim id False.elim⟩⟩
    ·obtain⟨q,rfl⟩:∃ q,j=q+1:=⟨j - 1,by omega⟩
     have hzq:z=(q:Int):=by omega
     subst hzq;have dj:decide ((0:Int)≤(q:Int))=true:=by simp
     have hkq:k+1 - (q+1)=k - q:=by omega
     rw[hkq]at H ⊢;obtain⟨x,hx⟩:∃ x,zs[q]?=some x:=⟨_,List.getElem?_eq_getElem (by rw[HZ.out];omega)⟩
     have hxr:(zs.map zAY)[q]?=some (zAY x):=by rw[List.getElem?_map,hx];rfl
     have hzl:(zs.map zAY).length=k+1:=by rw[List.length_map,HZ.out]
     have hget:(zCO zs)[k - q]?=some (zMB k x):=zLn HZ.out (by omega) (by rw[show k - (k - q)=q by omega];exact hx)
     have ET:=Lib.hid (zCn hget);have HZL:=Lib.hid hzl;have HXR:=Lib.hid hxr;have hha:∀ w,Calls Tryz.prog 70 #[.int .i64 x.kind] w (Rt (.tuple #[.bool (x.kind == 1),.bool (x.kind == 1 || x.kind == 2 || x.kind == 3 || x.kind == 4),.bool (x.kind == 2),.bool (x.kind == 3),.bool (x.kind == 4)]) w):=zMy x.kind
     obtain⟨nx,hnx⟩:∃ nx,(if (x.kind == 1 || x.kind == 2 || x.kind == 3 || x.kind == 4) then wrap64 (k - x.next) else x.next)=nx:=⟨_,rfl⟩
     obtain⟨ox,hox⟩:∃ ox,(if x.kind == 2 then wrap64 (k - x.other) else x.other)=ox:=⟨_,rfl⟩
     have HT:=Lib.hid (show zMB k x={x with next:=nx,other:=ox} by unfold zMB;rw[hnx,hox])
     clear hx hxr hzl hget hkq h0 hz
     generalize (x.kind == 1 || x.kind == 2 || x.kind == 3 || x.kind == 4)=b2 at hha hnx
     generalize (x.kind == 2)=b3 at hha hox
     have hle:k - q≤4000:=by omega
     cases b2 with
     | true =>
      have hnx:wrap64 (k - x.next)=nx:=hnx
      cases b3 with
      | true =>
       have hox:wrap64 (k - x.other)=ox:=hox;have hT2:=HT.out;subst hnx hox;clear HT
       go_wp2_with (first|((with_reducible refine gL ?_);refine zAS wtd_ _ _ rfl rfl zAk rfl (H.rowCell (i:=1) i_1 (zBX _) HZL.out HXR.out rfl) ?_)|((with_reducible refine gT ?_);refine zAQ wtd_ _ _ _ rfl rfl evd_ H (i:=3) i_3 rfl (by show 5<9;omega) (by with_reducible exact zAI zAH) ?_;clear H;intro w H;(rw[zEw]at H);try simp only[nr]at H)|((with_reducible refine gT ?_);refine zAQ wtd_ _ _ _ rfl rfl evd_ H (i:=3) i_3 rfl (by show 6<9;omega) (by with_reducible exact zAI zAH) ?_;clear H;intro w H;(rw[zE7]at H);try simp only[nr]at H)|((with_reducible refine gBS ?_);refine zAL wtd_ _ _ _ rfl H (zAY ({x with next:=wrap64 ((k:Int) - x.next),other:=wrap64 ((k:Int) - x.other)})) 43 (by intro W;simp only[ml];(try simp only[pe]);exact zEo _ W) ?_;clear H;intro bk w H;try simp only[nr]at H)|(at_builtin;refine zAX rfl _ _ 22 rfl H (i:=2) (j:=4) evd_ rfl i_2 i_4 Tryz.underlying22 hi0 hz0 hz1 hz2 rfl (by decide) rfl rfl (by unfold maxLen;omega) (by omega) ?_;clear H;intro v2 w H;(try simp only[nr]at H);(obtain⟨q9,c9,rfl,_,_,_⟩:=H.rowShape (i:=2) i_2))|(first|((with_reducible refine gTi ?_);refine aTi H ?_;clear H;intro w H;try simp only[nr]at H)|((with_reducible refine gLi ?_);refine aLi H ?_)|((with_reducible refine gL ?_);refine aGi H ?_)|((with_reducible refine gL ?_);refine aG H ?_)|((with_reducible refine gA ?_);(refine bA H ?_;clear H;intro b w H;try simp only[nr]at H)))|((with_reducible refine ch (hha _) H ?_);clear H;intro w H))
       rw[zD2,← hT2,← ET.out,show k - q+1=k+1 - q by omega]at H
       go_roundw
       case rel=>exact⟨q,_,q9,c9,by omega,rfl,by rw[show k+1 - q=k - q+1 by omega],by go_num,by rw[show k+1 - q=k - q+1 by omega]at H ⊢;exact H.pick [0,1,2] _ (by decide) rfl⟩
       case measure=>simp[intOf]<;>omega
      | false =>
       have hox:x.other=ox:=hox;have hT2:=HT.out;subst hnx hox;clear HT
       go_wp2_with (first|((with_reducible refine gL ?_);refine zAS wtd_ _ _ rfl rfl zAk rfl (H.rowCell (i:=1) i_1 (zBX _) HZL.out HXR.out rfl) ?_)|((with_reducible refine gT ?_);refine zAQ wtd_ _ _ _ rfl rfl evd_ H (i:=3) i_3 rfl (by show 5<9;omega) (by with_reducible exact zAI zAH) ?_;clear H;intro w H;(rw[zEw]at H);try simp only[nr]at H)|((with_reducible refine gT ?_);refine zAQ wtd_ _ _ _ rfl rfl evd_ H (i:=3) i_3 rfl (by show 6<9;omega) (by with_reducible exact zAI zAH) ?_;clear H;intro w H;(rw[zE7]at H);try simp only[nr]at H)|((with_reducible refine gBS ?_);refine zAL wtd_ _ _ _ rfl H (zAY ({x with next:=wrap64 ((k:Int) - x.next),other:=x.other})) 43 (by intro W;simp only[ml];(try simp only[pe]);exact zEo _ W) ?_;clear H;intro bk w H;try simp only[nr]at H)|(at_builtin;refine zAX rfl _ _ 22 rfl H (i:=2) (j:=4) evd_ rfl i_2 i_4 Tryz.underlying22 hi0 hz0 hz1 hz2 rfl (by decide) rfl rfl (by unfold maxLen;omega) (by omega) ?_;clear H;intro v2 w H;(try simp only[nr]at H);(obtain⟨q9,c9,rfl,_,_,_⟩:=H.rowShape (i:=2) i_2))|(first|((with_reducible refine gTi ?_);refine aTi H ?_;clear H;intro w H;try simp only[nr]at H)|((with_reducible refine gLi ?_);refine aLi H ?_)|((with_reducible refine gL ?_);refine aGi H ?_)|((with_reducible refine gL ?_);refine aG H ?_)|((with_reducible refine gA ?_);(refine bA H ?_;clear H;intro b w H;try simp only[nr]at H)))|((with_reducible refine ch (hha _) H ?_);clear H;intro w H))
       rw[zD2,← hT2,← ET.out,show k - q+1=k+1 - q by omega]at H
       go_roundw
       case rel=>exact⟨q,_,q9,c9,by omega,rfl,by rw[show k+1 - q=k - q+1 by omega],by go_num,by rw[show k+1 - q=k - q+1 by omega]at H ⊢;exact H.pick [0,1,2] _ (by decide) rfl⟩
       case measure=>simp[intOf]<;>omega
     | false =>
      have hnx:x.next=nx:=hnx
      cases b3 with
      | true =>
       have hox:wrap64 (k - x.other)=ox:=hox;have hT2:=HT.out;subst hnx hox;clear HT
       go_wp2_with (first|((with_reducible refine gL ?_);refine zAS wtd_ _ _ rfl rfl zAk rfl (H.rowCell (i:=1) i_1 (zBX _) HZL.out HXR.out rfl) ?_)|((with_reducible refine gT ?_);refine zAQ wtd_ _ _ _ rfl rfl evd_ H (i:=3) i_3 rfl (by show 5<9;omega) (by with_reducible exact zAI zAH) ?_;clear H;intro w H;(rw[zEw]at H);try simp only[nr]at H)|((with_reducible refine gT ?_);refine zAQ wtd_ _ _ _ rfl rfl evd_ H (i:=3) i_3 rfl (by show 6<9;omega) (by with_reducible exact zAI zAH) ?_;clear H;intro w H;(rw[zE7]at H);try simp only[nr]at H)|((with_reducible refine gBS ?_);refine zAL wtd_ _ _ _ rfl H (zAY ({x with next:=x.next,other:=wrap64 ((k:Int) - x.other)})) 43 (by intro W;simp only[ml];(try simp only[pe]);exact zEo _ W) ?_;clear H;intro bk w H;try simp only[nr]at H)|(at_builtin;refine zAX rfl _ _ 22 rfl H (i:=2) (j:=4) evd_ rfl i_2 i_4 Tryz.underlying22 hi0 hz0 hz1 hz2 rfl (by decide) rfl rfl (by unfold maxLen;omega) (by omega) ?_;clear H;intro v2 w H;(try simp only[nr]at H);(obtain⟨q9,c9,rfl,_,_,_⟩:=H.rowShape (i:=2) i_2))|(first|((with_reducible refine gTi ?_);refine aTi H ?_;clear H;intro w H;try simp only[nr]at H)|((with_reducible refine gLi ?_);refine aLi H ?_)|((with_reducible refine gL ?_);refine aGi H ?_)|((with_reducible refine gL ?_);refine aG H ?_)|((with_reducible refine gA ?_);(refine bA H ?_;clear H;intro b w H;try simp only[nr]at H)))|((with_reducible refine ch (hha _) H ?_);clear H;intro w H))
       rw[zD2,← hT2,← ET.out,show k - q+1=k+1 - q by omega]at H
       go_roundw
       case rel=>exact⟨q,_,q9,c9,by omega,rfl,by rw[show k+1 - q=k - q+1 by omega],by go_num,by rw[show k+1 - q=k - q+1 by omega]at H ⊢;exact H.pick [0,1,2] _ (by decide) rfl⟩
       case measure=>simp[intOf]<;>omega
      | false =>
       have hox:x.other=ox:=hox;have hT2:=HT.out;subst hnx hox;clear HT
       go_wp2_with (first|((with_reducible refine gL ?_);refine zAS wtd_ _ _ rfl rfl zAk rfl (H.rowCell (i:=1) i_1 (zBX _) HZL.out HXR.out rfl) ?_)|((with_reducible refine gT ?_);refine zAQ wtd_ _ _ _ rfl rfl evd_ H (i:=3) i_3 rfl (by show 5<9;omega) (by with_reducible exact zAI zAH) ?_;clear H;intro w H;(rw[zEw]at H);try simp only[nr]at H)|((with_reducible refine gT ?_);refine zAQ wtd_ _ _ _ rfl rfl evd_ H (i:=3) i_3 rfl (by show 6<9;omega) (by with_reducible exact zAI zAH) ?_;clear H;intro w H;(rw[zE7]at H);try simp only[nr]at H)|((with_reducible refine gBS ?_);refine zAL wtd_ _ _ _ rfl H (zAY (x)) 43 (by intro W;simp only[ml];(try simp only[pe]);exact zEo _ W) ?_;clear H;intro bk w H;try simp only[nr]at H)|(at_builtin;refine zAX rfl _ _ 22 rfl H (i:=2) (j:=4) evd_ rfl i_2 i_4 Tryz.underlying22 hi0 hz0 hz1 hz2 rfl (by decide) rfl rfl (by unfold maxLen;omega) (by omega) ?_;clear H;intro v2 w H;(try simp only[nr]at H);(obtain⟨q9,c9,rfl,_,_,_⟩:=H.rowShape (i:=2) i_2))|(first|((with_reducible refine gTi ?_);refine aTi H ?_;clear H;intro w H;try simp only[nr]at H)|((with_reducible refine gLi ?_);refine aLi H ?_)|((with_reducible refine gL ?_);refine aGi H ?_)|((with_reducible refine gL ?_);refine aG H ?_)|((with_reducible refine gA ?_);(refine bA H ?_;clear H;intro b w H;try simp only[nr]at H)))|((with_reducible refine ch (hha _) H ?_);clear H;intro w H))
       have hT2:zMB k x=x:=hT2;rw[zD2,← hT2,← ET.out,show k - q+1=k+1 - q by omega]at H
       go_roundw
       case rel=>exact⟨q,_,q9,c9,by omega,rfl,by rw[show k+1 - q=k - q+1 by omega],by go_num,by rw[show k+1 - q=k - q+1 by omega]at H ⊢;exact H.pick [0,1,2] _ (by decide) rfl⟩
       case measure=>simp[intOf]<;>omega
def zPQ (L:Str) (f:zBB):Except Nat (List InstD):=match zFE L f with|.ok (t,_)=>zFT t|.error _=>zFT (zB6 0)
def zEe (L:Str):List InstD:=match zPQ L (false,false,false) with|.ok ps=>ps|.error _=>[]
theorem zRE {L:Str} {f:zBB} {ps:List InstD} (h:zPQ L f=.ok ps):∀ x ∈ ps,zAW x.set:=by
 unfold zPQ at h;split at h
 ·rename_i t g ht;exact zOX (zOc ht) h
 ·exact zOX (zCF 0) h
theorem zHV (L:Str):∀ x ∈ zEe L,zAW x.set:=by
 unfold zEe;split
 ·rename_i ps h;exact zRE h
 ·intro x hx;cases hx
def zIn (w:World) (ps:List InstD) (e:Ending) (w':World):Prop:=∃ q c F,e=.returned (.slice q ps.length c)∧InstsR F q c ps w'∧∀ b,F b→b<w'.heap.size∧w.heap.size≤b
section
variable {M:Nat→Prop} {P:Program} {f:FuncId} {args:Array Value} {w w0:World} {l:List Res} {R:Ending→World→Prop}
theorem zSI {t:Tree} {g:Nat} (c:Calls P f args w fun e w'=>ParseOut w (.ok (t,g)) e w'∧Below w.heap.size w w') (H:HoldG M w0 w l)
  (k:∀ p n F w',(∀ b,F b→w0.heap.size≤b)→HoldG M w0 w' (l++[.kn F (fun V=>ForestR V F p n t.kids)])→R (.returned (.tuple #[zAc t.d (.slice p t.kids.length n),.int .i64 g,.int .i64 0,.int .i64 0])) w'):Calls P f args w R:=c.mono fun _ w' h=>by
 obtain⟨⟨p,n,F,rfl,hs,hF⟩,hb⟩:=h;exact k p n F w' (fun b h=>Nat.le_trans H.keep.size (hF b h).2) (H.learn hb Still.none (fun b h=>⟨(hF b h).1,.inl (hF b h).2⟩) (fun V hV=>hs.kept hV))
theorem zP7 {a x:Nat} (c:Calls P f args w fun e w'=>ParseOut w (.error (a,x)) e w'∧Below w.heap.size w w') (H:HoldG M w0 w l)
  (k:∀ w',HoldG M w0 w' l→R (.returned (.tuple #[zAc {kind:=0} nilS,.int .i64 0,.int .i64 a,.int .i64 x])) w'):Calls P f args w R:=c.mono fun _ w' h=>by
 obtain⟨rfl,hb⟩:=h;exact k w' (H.call hb)
theorem zSA {ps:List InstD} (c:Calls P f args w fun e w'=>zHS w (.ok ps) e w'∧Below w.heap.size w w') (H:HoldG M w0 w l)
  (k:∀ q n F w',(∀ b,F b→w0.heap.size≤b)→HoldG M w0 w' (l++[.kn F (InstsR F q n ps)])→R (.returned (.tuple #[.slice q ps.length n,.int .i64 0])) w'):Calls P f args w R:=c.mono fun _ w' h=>by
 obtain⟨⟨q,n,F,rfl,hs,hF⟩,hb⟩:=h;exact k q n F w' (fun b h=>Nat.le_trans H.keep.size (hF b h).2) (H.learn hb Still.none (fun b h=>⟨(hF b h).1,.inl (hF b h).2⟩) (fun V hV=>hs.kept hV))
theorem zQD {x:Nat} (c:Calls P f args w fun e w'=>zHS w (.error x) e w'∧Below w.heap.size w w') (H:HoldG M w0 w l)
  (k:∀ w',HoldG M w0 w' l→R (.returned (.tuple #[.slice none 0 0,.int .i64 x])) w'):Calls P f args w R:=c.mono fun _ w' h=>by
 obtain⟨rfl,hb⟩:=h;exact k w' (H.call hb)
theorem zOK {ps:List InstD} (c:Calls P f args w fun e w'=>zIn w ps e w'∧Below w.heap.size w w') (H:HoldG M w0 w l)
  (k:∀ q n F w',(∀ b,F b→w0.heap.size≤b)→HoldG M w0 w' (l++[.kn F (InstsR F q n ps)])→R (.returned (.slice q ps.length n)) w'):Calls P f args w R:=c.mono fun _ w' h=>by
 obtain⟨⟨q,n,F,rfl,hs,hF⟩,hb⟩:=h;exact k q n F w' (fun b h=>Nat.le_trans H.keep.size (hF b h).2) (H.learn hb Still.none (fun b h=>⟨(hF b h).1,.inl (hF b h).2⟩) (fun V hV=>hs.kept hV))
end
theorem zI9 (t:Tree) (p:Option Addr) (c:Nat) (F:Nat→Prop) (w0:World) (hs:zAT t≤1000000000) (hF:∀ b,F b→b<w0.heap.size) (h:ForestR w0 F p c t.kids) :
  Calls Tryz.prog 29 #[zAc t.d (.slice p t.kids.length c)] w0 fun e w'=>zHS w0 (zFT t) e w'∧Below w0.heap.size w0 w':=zMI (zAT t) t p t.kids.length c F w0 (Nat.le_refl _) hs hF h rfl
theorem zLo (w0:World):Calls Tryz.prog 29 #[zAc {kind:=0} nilS] w0 fun e w'=>zHS w0 (zFT (zB6 0)) e w'∧Below w0.heap.size w0 w' :=
 zI9 (zB6 0) none 0 (fun _=>False) w0 (by rw[zDR];decide) (fun _ h=>h.elim) (ForestR.nil ..)
theorem zLq {L:Str} {f:zBB} {t:Tree} {g:Nat} (h:zFE L f=.ok (t,g)):zAT t≤2000:=by
 unfold zFE at h;split at h
 ·cases h
 split at h
 ·cases h
 split at h
 ·cases h
 split at h
 ·cases h
 split at h
 ·cases h
 simp only[Except.ok.injEq,Prod.mk.injEq]at h;obtain⟨rfl,_⟩:=h;omega
theorem zQ1 (W:World):(Instr.build 92 #[]).run Tryz.prog W=.ok (zC0 (false,false,false)) W:=by kernel_rfl
theorem fb0 {ops:Array Oper} {dst:Option Tmp} {ty:TypeId} {pos:String} {aft:Array Edge} {grd:Option (Nat × Bool)} {rest:List Oper} {a:Act} {w:World} {Q:Exit→Act→World→Prop} (h:wpList Tryz.prog ops Q rest (a.put dst (zC0 (false,false,false))) w) (hg:Region.wanted (⟨dst,.build 92 #[],ty,pos,aft,grd⟩:Oper) (yielded ops a.tmps)=true:=by first|rfl|exact zAO rfl (zAG rfl (by first|rfl|(simp only[pe];rfl)))):wpList Tryz.prog ops Q ((⟨dst,.build 92 #[],ty,pos,aft,grd⟩:Oper)::rest) a w :=
 zAZ hg (by simp only[execOp,List.map_toArray,List.map_nil,Sem.run_bind,zQ1];rfl) h
theorem zJo (L:Str) (hW:L.length≤1000→zJe L) (w0:World):Calls Tryz.prog 13 #[.string ⟨L.toArray⟩] w0 fun e w'=>zIn w0 (zEe L) e w'∧Below w0.heap.size w0 w':=by
 have H:=Hold.start w0;have hp:=fun w=>zL5 L hW (false,false,false) w
 clear hW;have E:zEe L=zEe L:=rfl
 conv at E=>rhs;unfold zEe zPQ
 cases hpr:zFE L (false,false,false) with
 | error x =>
  obtain⟨pa,px⟩:=x;rw[hpr]at hp E;clear hpr;have hm:=fun w=>zLo w
  simp only at E
  cases hmk:zFT (zB6 0) with
  | error y =>
   rw[hmk]at hm E;clear hmk;have E:=Lib.hid E
   go_enter Tryz.func13,Tryz.ntmps13
   go_wp2_with (first|((with_reducible refine gZ ?_);refine fb0 ?_)|(go_at_call 28;refine zP7 (hp _) H ?_;clear H;intro w H)|(go_at_call 29;refine zQD (hm _) H ?_;clear H;intro w H)|((first|((with_reducible refine kgA 3 ?_);refine kA 3 H ?_)|((with_reducible refine kgX 3 ?_);(first|refine kS 3 H ?_|refine kB 3 H ?_)));clear H;intro b3 w H;try simp only[nr]at H)|(first|((with_reducible refine gT ?_);(refine aT H ?_;clear H;intro w H;try simp only[nr]at H))|((with_reducible refine gL ?_);refine aD H ?_)))
   go_ret;rw[E.out];exact⟨⟨none,0,fun _=>False,rfl,RdN.nil ..,fun b h=>h.elim⟩,H.below⟩
  | ok ps =>
   rw[hmk]at hm E;clear hmk;have E:=Lib.hid E
   go_enter Tryz.func13,Tryz.ntmps13
   go_wp2_with (first|((with_reducible refine gZ ?_);refine fb0 ?_)|(go_at_call 28;refine zP7 (hp _) H ?_;clear H;intro w H)|(go_at_call 29;refine zSA (hm _) H ?_;clear H;intro q n F w hF H;simp only[ca]at H)|((first|((with_reducible refine kgA 3 ?_);refine kA 3 H ?_)|((with_reducible refine kgX 3 ?_);(first|refine kS 3 H ?_|refine kB 3 H ?_)));clear H;intro b3 w H;try simp only[nr]at H)|(first|((with_reducible refine gT ?_);(refine aT H ?_;clear H;intro w H;try simp only[nr]at H))|((with_reducible refine gL ?_);refine aD H ?_)))
   go_ret;rw[E.out];exact⟨⟨q,n,F,rfl,H.kn (i:=1) i_1,fun b h=>⟨H.knlt (i:=1) i_1 b h,hF b h⟩⟩,H.below⟩
 | ok x =>
  obtain⟨t,g⟩:=x;have hsz:=zLq hpr;rw[hpr]at hp E;clear hpr;have hm:=fun p c F w h1 h2=>zI9 t p c F w (Nat.le_trans hsz (by decide)) h1 h2
  clear hsz;simp only at E
  cases hmk:zFT t with
  | error y =>
   rw[hmk]at hm E;clear hmk;have E:=Lib.hid E
   go_enter Tryz.func13,Tryz.ntmps13
   go_wp2_with (first|((with_reducible refine gZ ?_);refine fb0 ?_)|(go_at_call 28;refine zSI (hp _) H ?_;clear H;intro p1 n1 F1 w hF1 H;clear hF1;simp only[ca]at H)|(go_at_call 29;refine zQD (hm _ _ _ _ (H.knlt (i:=0) .zero) (H.kn (i:=0) .zero)) H ?_;clear H;intro w H)|((first|((with_reducible refine kgA 3 ?_);refine kA 3 H ?_)|((with_reducible refine kgX 3 ?_);(first|refine kS 3 H ?_|refine kB 3 H ?_)));clear H;intro b3 w H;try simp only[nr]at H)|(first|((with_reducible refine gT ?_);(refine aT H ?_;clear H;intro w H;try simp only[nr]at H))|((with_reducible refine gL ?_);refine aD H ?_)))
   go_ret;rw[E.out];exact⟨⟨none,0,fun _=>False,rfl,RdN.nil ..,fun b h=>h.elim⟩,H.below⟩
  | ok ps =>
   rw[hmk]at hm E;clear hmk;have E:=Lib.hid E
   go_enter Tryz.func13,Tryz.ntmps13
   go_wp2_with (first|((with_reducible refine gZ ?_);refine fb0 ?_)|(go_at_call 28;refine zSI (hp _) H ?_;clear H;intro p1 n1 F1 w hF1 H;clear hF1;simp only[ca]at H)|(go_at_call 29;refine zSA (hm _ _ _ _ (H.knlt (i:=0) .zero) (H.kn (i:=0) .zero)) H ?_;clear H;intro q n F w hF H;simp only[ca]at H)|((first|((with_reducible refine kgA 3 ?_);refine kA 3 H ?_)|((with_reducible refine kgX 3 ?_);(first|refine kS 3 H ?_|refine kB 3 H ?_)));clear H;intro b3 w H;try simp only[nr]at H)|(first|((with_reducible refine gT ?_);(refine aT H ?_;clear H;intro w H;try simp only[nr]at H))|((with_reducible refine gL ?_);refine aD H ?_)))
   go_ret;rw[E.out];exact⟨⟨q,n,F,rfl,H.kn (i:=2) i_2,fun b h=>⟨H.knlt (i:=2) i_2 b h,hF b h⟩⟩,H.below⟩
end
section
open Go.RowKit
section
variable {p:List InstD} {s:Str}
inductive DfsD (p:List InstD) (s:Str) (D:Nat→Nat→Bool):List Ent→(Nat→Nat→Bool)→Option zA2→Prop
 | nil (S):DfsD p s D [] S none
 | seen (k i sl r S res) (h:S k i=true) (hr:DfsD p s D r S res):DfsD p s D ((k,i,sl)::r) S res
 | hit (k i sl r S) (h:S k i=false) (hk:(atI p k).kind=5):DfsD p s D ((k,i,sl)::r) S (some sl)
 | go (k i sl r S res) (h:S k i=false) (hk:(atI p k).kind≠5) (hr:DfsD p s D ((sucE p s k i sl).filter (fun e=>!D e.1 e.2.1)++r) (upS S k i) res):DfsD p s D ((k,i,sl)::r) S res
theorem Dfs.keeps {Q:Ent→Prop} (hQ:∀ k i sl,Q (k,i,sl)→(atI p k).kind≠5→∀ e ∈ sucE p s k i sl,Q e) {st:List Ent} {S:Nat→Nat→Bool} {res:Option zA2} (h:Dfs p s none st S res) (hst:∀ e ∈ st,Q e) {sl:zA2} (hr:res=some sl):∃ k i,Q (k,i,sl)∧(atI p k).kind=5:=by
 induction h with
 | nil S=>cases hr
 | seen k i sl' r S res hs hr' ih=>exact ih (fun e he=>hst e (List.mem_cons_of_mem _ he)) hr
 | hit k i sl' r S hs hk=>cases hr;exact⟨k,i,hst _ (List.mem_cons_self ..),hk⟩
 | go k i sl' r S res hs hk hr' ih =>
  exact ih (fun e he=>(List.mem_append.1 he).elim (hQ k i sl' (hst _ (List.mem_cons_self ..)) hk e) (fun he=>hst e (List.mem_cons_of_mem _ he))) hr
end
section
variable {p:List InstD} {s:Str}
theorem zLz {sl:zA2} {a n:Nat} {e:Ent} (h:e ∈ zCY sl none a n):e.1=0∧e.2.2=sl∧a≤e.2.1∧e.2.1<a+n:=by
 unfold zCY at h;obtain⟨j,hj,rfl⟩:=List.mem_map.1 h;rw[List.mem_range'_1]at hj;exact⟨rfl,rfl,hj.1,hj.2⟩
end
end
section
open Go.RowKit Go.Shelf
attribute [local go_sem] Oper.semAt_some
theorem zI8 (w:World) (b n:Nat):w.grownBy (w.freeze ⟨b,n,none⟩ 1) (some b):=by
 unfold World.freeze;rw[if_neg (by decide)]
 exact⟨rfl,rfl,rfl,by simp,fun j hj hne=>by
  show (w.heap.modify b _)[j]?=_
  rw[Array.getElem?_modify,if_neg (fun e=>hne (by rw[e]))]⟩
theorem zJp {w:World} {b n:Nat} {cs:Array Value} {T:TypeId} (h:w.heap[b]?=some (.cells cs T (0,0))):∃ f,(w.freeze ⟨b,n,none⟩ 1).heap[b]?=some (.cells cs T f):=by
 unfold World.freeze;rw[if_neg (by decide)]
 show ∃ f',(w.heap.modify b _)[b]?=_
 rw[Array.getElem?_modify,if_pos rfl,h];exact⟨_,rfl⟩
theorem zKf {V:World} {b:Nat} {L:Str} {cs:Array Value} {T:TypeId} {f:Nat × Nat} (h:V.heap[b]?=some (.cells cs T f)) (hc:cs=(L.map fun x=>Value.int .u8 x.toNat).toArray) (hl:L.length≤1000):BytesR (·=b) (some ⟨b,0,none⟩) L.length L V:=by
 refine⟨_,L.length,by rw[List.length_map],by simp,?_,(fun h=>by cases h),fun j r hr=>⟨b,0,rfl,rfl,?_,fun k hk=>?_⟩⟩
 ·unfold maxLen;omega
 ·rw[List.getElem?_map]at hr;obtain⟨x,_,rfl⟩:=Option.map_eq_some_iff.1 hr;rfl
 ·rw[List.getElem?_map]at hr;obtain⟨x,hx,rfl⟩:=Option.map_eq_some_iff.1 hr;obtain rfl:k=0:=by omega
  rw[cell_of_row V b _ cs T f h,hc];simp[hx]
section
variable {P:Program} {ops:Array Oper} {rest:List Oper} {o:Oper} {a:Act} {w w0:World} {Q:Exit→Act→World→Prop} {l:List Res} {M:Nat→Prop}
theorem zFk (hg:Region.wanted o (yielded ops a.tmps)=true) {TS T:TypeId} {x:Operand} (ho:o.op=Op.convert TS TS x) (ht:P.underlying TS=some (.slice T)) (he:P.underlying T=some (.int .u8)) (H:HoldG M w0 w l) {i b:Nat} {L:Str} {cs:Array Value} (hx:a.eval x=.slice (some ⟨b,0,none⟩) L.length L.length) (hi:At l i (.blk b cs T))
  (hc:cs=(L.map fun x=>Value.int .u8 x.toNat).toArray) (hl:L.length≤1000)
  (h:∀ w',HoldG M w0 w' (l.set i (.kn (·=b) (BytesR (·=b) (some ⟨b,0,none⟩) L.length L)))→wpList P ops Q rest (a.put o.dst (.slice (some ⟨b,0,none⟩) L.length L.length)) w'):wpList P ops Q (o::rest) a w :=
 zAx hg fun _ hK=>by
  have hb:=(H.blk hi).2;have hsz:cs.size=L.length:=by rw[hc];simp
  have hsh:w.shape? b=some (T,L.length):=by unfold World.shape?;rw[hb];simp[hsz]
  have hr:(convert TS TS (.slice (some ⟨b,0,none⟩) L.length L.length)).run P w=.ok (.slice (some ⟨b,0,none⟩) L.length L.length) (w.freeze ⟨b,L.length,none⟩ 1):=by
   simp[convert,run_underlying ht,run_underlying he,markStringish,hsh]
  unfold Oper.wp;have:(execOp a.eval o).run P w=.ok (.value (.slice (some ⟨b,0,none⟩) L.length L.length)) (w.freeze ⟨b,L.length,none⟩ 1):=by
   simp only[execOp,ho,hx];simp[hr]
  rw[this];obtain⟨f,hf⟩:=zJp (n:=L.length) hb;refine hK _ _ (h _ (H.upd hi.get (zI8 w b L.length) ⟨fun b' e=>by subst e;exact(Array.getElem?_eq_some_iff.1 hf).1,fun V hV=>zKf ((hV b rfl).trans hf) hc hl⟩ (fun b' e=>.inl (by subst e;rfl))))
theorem HoldG.blkInts (H:HoldG M w0 w l) {i b:Nat} {xs:List Int} {T:TypeId} {cs:Array Value} (hi:At l i (.blk b cs T)) (hc:cs=(xs.map (Value.int .i64)).toArray) (hn:xs.length≤1000):IntsR (·=b) (some ⟨b,0,none⟩) xs.length xs w:=by
 refine⟨_,xs.length,by rw[List.length_map],by simp,?_,(fun h=>by cases h),fun j r hr=>⟨b,0,rfl,rfl,?_,fun k hk=>?_⟩⟩
 ·unfold maxLen;omega
 ·rw[List.getElem?_map]at hr;obtain⟨x,_,rfl⟩:=Option.map_eq_some_iff.1 hr;rfl
 ·rw[List.getElem?_map]at hr;obtain⟨x,hx,rfl⟩:=Option.map_eq_some_iff.1 hr;obtain rfl:k=0:=by omega
  rw[H.cell hi,hc];simp[hx]
end
def exRegex:Str:=[40,97,124,97,98,41,40,99,124,98,99,100,41,63]
def zMv:Str:=[120,97,98,99,100]
theorem zG0:∀ i,i<14→byt exRegex i≠92∧byt exRegex i≠91∧byt exRegex i≠123∧atP exRegex i [40,63]=false:=by decide +kernel
theorem zP3 (_:exRegex.length≤1000):zJe exRegex:=fun i hi w=>zID (by decide) hi (zG0 i hi).1 (zG0 i hi).2.1 (zG0 i hi).2.2.1 (zG0 i hi).2.2.2 w
theorem zRt:runP (zEe exRegex) zMv 0=some [1,5,1,2,2,5]:=by decide +kernel
theorem zEl (w0:World):Calls Tryz.prog 5 #[] w0 (Rt (.bool true) w0):=by
 have H:=Hold.start w0;have hm:=fun w=>zJo exRegex zP3 w
 have hset:=zHV exRegex;have hv:=fun q n F G p c w h1 h2 h3 h4=>zQC q n (zEe exRegex) p c zMv 0 F G w hset (by decide) h1 h2 h3 h4
 rw[zRt]at hv;obtain⟨ps,hps⟩:∃ ps,zEe exRegex=ps:=⟨_,rfl⟩;rw[hps]at hm hv;clear hps hset
 go_enter Tryz.func5,Tryz.ntmps5
 go_wp2_with (first|(go_at_call 13;refine zOK (hm _) H ?_;clear H;intro q n F w hF H;clear hF;simp only[ca]at H)|((with_reducible refine gCV ?_);refine zFk wtd_ rfl Tryz.underlying23 Tryz.underlying5 H (L:=zMv) rfl i_1 rfl (by decide) ?_;clear H;intro w H;simp only[sc]at H)|(go_at_call 8;refine chRs (hv _ _ _ _ _ _ _ (H.knlt (i:=0) .zero) (H.knlt (i:=1) i_1) (H.kn (i:=0) .zero) (H.kn (i:=1) i_1)) H ?_;clear H;intro q1 n1 F1 w hF1 H;clear hF1;simp only[ca]at H)|(go_at_call 16;refine ch (zHI q1 _ n1 _ [1,5,1,2,2,5] F1 _ _ (H.knlt (i:=2) i_2) (fun b e=>by subst e;exact(Array.getElem?_eq_some_iff.1 (H.blk (i:=3) i_3).2).1) (H.kn (i:=2) i_2) (H.blkInts (i:=3) i_3 rfl (by decide))) H ?_;clear H;intro w H)|((with_reducible show @wpList _ _ _ ({dst:=_,op:=Op.buildSlice 23 _ _,type:=_,pos:=_,after:=_,guard:=_}::_) _ _);refine zAL wtd_ _ _ _ rfl H (#[.int .u8 120,.int .u8 97,.int .u8 98,.int .u8 99,.int .u8 100]) 5 (by intro W;simp only[ml];(try simp only[pe]);simp[go_sem]<;>rfl) ?_;clear H;intro b w H;simp only[ca]at H)|((with_reducible show @wpList _ _ _ ({dst:=_,op:=Op.buildSlice 27 _ _,type:=_,pos:=_,after:=_,guard:=_}::_) _ _);refine zAL wtd_ _ _ _ rfl H (#[.int .i64 1,.int .i64 5,.int .i64 1,.int .i64 2,.int .i64 2,.int .i64 5]) 3 (by intro W;simp only[ml];(try simp only[pe]);simp[go_sem]<;>rfl) ?_;clear H;intro b w H;simp only[ca]at H)|fail)
 go_ret;exact⟨rfl,H.below⟩
end
section

end
section
open Go.RowKit Go.Shelf
attribute [local go_sem] Oper.semAt_some
def i64s (xs:List Int):List Value:=xs.map (.int .i64)
def u8s (xs:List Int):List Value:=xs.map (.int .u8)
theorem Rd.i64 {w:World} {b0:Nat} {v:Value} {xs:List Int} (h:Rd w b0 v (i64s xs)) :
  ((∃ q,v=.slice q 0 0)∧xs=[])∨∃ b off cap,v=.slice (some ⟨b,off,none⟩) xs.length cap∧b<b0∧xs.length≤cap∧cap≤maxLen ∧
  ∀ j,(h:j<xs.length)→w.cell? ⟨b,off+j,none⟩=some (.int .i64 xs[j]):=by
 rcases h with ⟨h1,h2⟩|⟨b,off,cap,e,h1,h2,h3,h4⟩
 ·exact .inl ⟨h1,by simpa [i64s] using h2⟩
 ·refine .inr ⟨b,off,cap,by simpa [i64s] using e,h1,by simpa [i64s] using h2,h3,fun j hj=>?_⟩
  rw[h4 j (by simpa [i64s] using hj)];simp[i64s]
theorem Rd.u8 {w:World} {b0:Nat} {v:Value} {xs:List Int} (h:Rd w b0 v (u8s xs)) :
  ((∃ q,v=.slice q 0 0)∧xs=[])∨∃ b off cap,v=.slice (some ⟨b,off,none⟩) xs.length cap∧b<b0∧xs.length≤cap∧cap≤maxLen ∧
  ∀ j,(h:j<xs.length)→w.cell? ⟨b,off+j,none⟩=some (.int .u8 xs[j]):=by
 rcases h with ⟨h1,h2⟩|⟨b,off,cap,e,h1,h2,h3,h4⟩
 ·exact .inl ⟨h1,by simpa [u8s] using h2⟩
 ·refine .inr ⟨b,off,cap,by simpa [u8s] using e,h1,by simpa [u8s] using h2,h3,fun j hj=>?_⟩
  rw[h4 j (by simpa [u8s] using hj)];simp[u8s]

def zBM (k i:Int):Int:=1000003 * (k+7)+i
def zFd (k i:Int):Int:=((zBM k i).toNat * 11400714819323198485 % 2 ^ 64 / 2 ^ 56:Nat)
theorem zKw (k i:Int):0≤zFd k i∧zFd k i≤255:=by
 unfold zFd;have:((zBM k i).toNat * 11400714819323198485 % 2 ^ 64)<2 ^ 64:=Nat.mod_lt _ (by decide)
 omega
theorem zCo (k i:Int) (w:World) (hk:0≤k∧k≤1000000) (hi:0≤i∧i≤1000000000000):Calls Tryz.prog 30 #[.int .i64 k,.int .i64 i] w fun e w'=>e=.returned (.int .i64 (zBM k i))∧w=w':=by
 obtain⟨hk1,hk2⟩:=hk;obtain⟨hi1,hi2⟩:=hi
 go_enter Tryz.func30,Tryz.ntmps30
 go_wp2
 go_ret;refine⟨?_,rfl⟩;unfold zBM;rfl
theorem zGZ (k i:Int) (w:World) (hk:0≤k∧k≤1000000) (hi:0≤i∧i≤1000000000000):Calls Tryz.prog 18 #[.int .i64 k,.int .i64 i] w fun e w'=>e=.returned (.int .u8 (zFd k i))∧w=w':=by
 have hm:0≤zBM k i∧zBM k i≤3000000000000:=by unfold zBM;omega
 have hB:zFd k i=((zBM k i).toNat * 11400714819323198485 % 2 ^ 64 / 2 ^ 56:Nat):=rfl;have HB:=Lib.hid hB;clear hB;have HK:=Lib.hid hk;clear hk;have HI:=Lib.hid hi;clear hi
 go_enter Tryz.func18,Tryz.ntmps18
 go_wp2_with fail
 refine(zCo _ _ _ HK.out HI.out).mono ?_
 rintro e w' ⟨rfl,rfl⟩
 generalize zBM k i=m at hm HB
 obtain⟨m,rfl⟩:∃ n:Nat,m=n:=⟨m.toNat,by omega⟩
 go_wp2_with fail
 go_ret;refine⟨?_,rfl⟩;rw[HB.out]
 congr 2
 rw[IntKind.wrap_u64];simp;omega
def Lent (b0:Nat) (w:World) (v:Value) (cs extra:List Value):Prop :=
 ∃ g cap,v=.slice (some ⟨g,0,none⟩) cs.length cap∧b0≤g∧g<w.heap.size∧cs.length+12≤cap∧cap≤maxLen∧∀ j,j<cs.length+12→w.cell? ⟨g,j,none⟩=(cs++extra)[j]?
def zHl (i:Nat):InstD:={kind:=0,next:=zBM 1 i}
def zBs (k:Nat):List InstD:=(List.range k).map zHl
theorem zKX (k:Nat):zBs (k+1)=zBs k++[zHl k]:=by simp[zBs,List.range_succ]
theorem zGV (k:Nat):(zBs k).length=k:=by simp[zBs]
theorem zQa (k:Int) (W:World):(Instr.build 43 #[(2,.int .i64 k)]).run Tryz.prog W=.ok (zAu {kind:=0,next:=k}) W:=by simp[go_sem];rfl
theorem bMkI {ops:Array Oper} {dst:Option Tmp} {ty:TypeId} {pos:String} {aft:Array Edge} {grd:Option (Nat × Bool)} {rest:List Oper} {a:Act} {w:World} {Q:Exit→Act→World→Prop} {x:Operand} {k:Int} (h:wpList Tryz.prog ops Q rest (a.put dst (zAu {kind:=0,next:=k})) w) (hg:Region.wanted (⟨dst,.build 43 #[(2,x)],ty,pos,aft,grd⟩:Oper) (yielded ops a.tmps)=true:=by first|rfl|exact zAO rfl (zAG rfl (by first|rfl|(simp only[pe];rfl)))) (hx:a.eval x=.int .i64 k:=by first|(simp only[pe];done)|(simp only[pe];rfl)):wpList Tryz.prog ops Q ((⟨dst,.build 43 #[(2,x)],ty,pos,aft,grd⟩:Oper)::rest) a w :=
 zAZ hg (by simp only[execOp,List.map_toArray,List.map_cons,List.map_nil,hx,Sem.run_bind,zQa];rfl) h
theorem zOJ:(Tryz.prog.info? 43).map (fun i=>(i.zero.map (·.cells.size),i.size,i.bytes))=some (some 9,9,72):=by kernel_rfl
theorem zGl (i:Nat) (w0:World) (hi:i≤1000000):Calls Tryz.prog 17 #[.int .i64 1,.int .i64 i] w0 (Rt (zAu (zHl i)) w0):=by
 have H:=Hold.start w0;have hm:=fun w=>(zCo 1 i w (by omega) (by omega)).mono (R':=fun e w'=>e=.returned (.int .i64 (zBM 1 i))∧Below w.heap.size w w') (fun e w' h=>⟨h.1,by rw[← h.2];exact Below.refl _ _⟩)
 obtain⟨mk,hmk⟩:∃ mk,zBM 1 i=mk:=⟨_,rfl⟩;rw[hmk]at hm;have HM:=Lib.hid hmk;clear hmk
 go_enter Tryz.func17,Tryz.ntmps17
 go_wp2_with (first|((with_reducible refine gBd ?_);refine bMkI ?_)|((with_reducible refine ch (hm _) H ?_);clear H;intro w H)|((first|((with_reducible refine kgA 4 ?_);refine kA 4 H ?_)|((with_reducible refine kgX 4 ?_);(first|refine kS 4 H ?_|refine kB 4 H ?_)));clear H;intro b4 w H;try simp only[nr]at H)|((with_reducible refine gTi ?_);refine aTi H ?_;clear H;intro w H;try simp only[nr]at H))
 refine zKK Tryz.results17 rfl H (i:=0) .zero zAk rfl rfl ?_
 exact⟨by unfold zHl;rw[HM.out],H.below⟩
theorem zOI {P:Program} {ops:Array Oper} {rest:List Oper} {o:Oper} {a:Act} {w w0:World} {Q:Exit→Act→World→Prop} {l:List Res} {M:Nat→Prop} (hg:o.guard=none) (x c:Operand) (t:TypeId) (hop:o.op=Op.makeSlice t x c) (H:HoldG M w0 w l) {e:TypeId} {i:TypeInfo} {z:Value} {sz bytes:Nat}
  (h1:P.underlying t=some (.slice e)) (h2:P.info? e=some i) (h3:i.zero=some z) (h4:i.size=sz) (h5:i.bytes=bytes) {n:Nat} (hl:a.eval x=.int .i64 0) (hc:a.eval c=.int .i64 n) (b2:bytes * n≤281474976710656) (b3:n≤maxLen)
  (h:∀ g w',HoldG M w0 w' (l++[.row (.slice (some ⟨g,0,none⟩) 0 n) e sz 0 []])→wpList P ops Q rest (a.put o.dst (.slice (some ⟨g,0,none⟩) 0 n)) w'):wpList P ops Q (o::rest) a w:=by
 refine wpList_make_own w hg x c t hop w0.heap.size e i z sz h1 h2 h3 h4 .i64 .i64 n n hl hc rfl (by rw[h5];exact b2) b3 H.keep.size (fun w' r1 r2=>h w.heap.size w' ?_)
 exact H.add r2 r1 (fun b e=>by cases e;exact Nat.le_refl _)
theorem zNO:∃ (i:TypeInfo) (z:Value),Tryz.prog.info? 43=some i∧i.zero=some z∧i.size=9∧i.bytes=72∧z.cells.size=9:=by
 have h:=zOJ
 cases hu:Tryz.prog.info? 43 with
 | none=>rw[hu]at h;cases h
 | some i =>
  rw[hu]at h;simp only[Option.map_some,Option.some.injEq,Prod.mk.injEq]at h;obtain⟨h1,h2,h3⟩:=h;obtain⟨z,hz,hs⟩:=Option.map_eq_some_iff.1 h1;exact⟨i,z,rfl,hz,h2,h3,hs⟩
theorem zMz (d:InstD) (W:World):(Instr.buildSlice 22 1 #[(0,zAu d)]).run Tryz.prog W=.ok (.slice (some ⟨W.heap.size,0,none⟩) 1 1) (W.alloc (.cells (zAY d) 43)):=by kernel_rfl
theorem zLx (xs:List InstD):∀ u ∈ zAP (xs.map zAY),u.oneCell'=true:=by
 intro u hu;simp only[zAP,List.mem_flatten,List.mem_map]at hu;obtain⟨l,⟨r,⟨x,_,rfl⟩,rfl⟩,hu⟩:=hu;simp only[zAY]at hu;simp at hu;rcases hu with rfl|rfl|rfl|rfl|rfl|rfl|rfl|rfl|rfl<;>rfl
theorem zIJ (pp:Option Addr) (cp:Nat) (ps:List InstD) (Fp:Nat→Prop) (w0:World) (hn:ps.length≤1000) (hFp:∀ b,Fp b→b<w0.heap.size) (hp:InstsR Fp pp cp ps w0) :
  Calls Tryz.prog 6 #[.slice pp ps.length cp] w0 fun e w'=>∃ g cap,e=.returned (.slice (some ⟨g,0,none⟩) ps.length cap)∧w'.ownsRow w0.heap.size 43 9 (.slice (some ⟨g,0,none⟩) (ps.length+12) cap) (ps.length+12) (zAP ((ps++zBs 12).map zAY))∧Below w0.heap.size w0 w':=by
 have H:=Hold.insts hFp hp;have hbd:=hp.bound;clear hp;obtain⟨ii,iz,hii,hi0,hi1,hi2,hi3⟩:=zNO;obtain⟨n,hnn⟩:∃ n,ps.length=n:=⟨_,rfl⟩;have HN:=Lib.hid hnn;have hrd:∀ V,InstsR Fp pp cp ps V→RdN 9 V Fp (.slice pp n cp) (ps.map zAY):=fun V h=>by have:=HN.out;subst this;exact h
 rw[hnn]at hn hbd ⊢;clear hnn
 go_enter Tryz.func6,Tryz.ntmps6
 go_wp2_with (first|((with_reducible refine gMS ?_);refine zOI rfl _ _ 22 rfl H Tryz.underlying22 hii hi0 hi1 hi2 (n:=n+12) rfl rfl (by omega) (by unfold maxLen;omega) ?_;clear H;intro g w H;simp only[ca]at H)|(at_builtin;refine zDK rfl _ _ 22 rfl H (i:=1) evd_ evd_ i_1 (hrd _ (H.kn (i:=0) .zero)) (zBX ps) Tryz.underlying22 hii hi0 hi1 hi2 hi3 (by decide) (zLx ps) (by unfold maxLen;omega) (by omega) ?_;clear H;intro v2 w H;simp only[sc]at H)|fail)
 rw[Nat.zero_add,List.nil_append]at H;obtain⟨q0,c0,rfl,_,_,_⟩:=H.rowShape (i:=1) i_1
 go_loopw [3,4] (fun out k wr=>∃ (j:Nat) (q:Option Addr) (c:Nat),j≤12∧k=.int .i64 j∧out=.slice q (n+j) c∧Hold w0 wr [.kn Fp (InstsR Fp pp cp ps),.row (.slice q (n+j) c) 43 9 (n+j) (zAP ((ps++zBs j).map zAY))]) (fun _ k _=>12 - (intOf k).toNat)
 case atStart=>exact⟨0,q0,c0,by omega,rfl,rfl,by simpa [zBs] using H⟩
 case round =>
  clear H;obtain⟨j,q,c,hj,rfl,rfl,H⟩:=hrel
  by_cases hlt:j<12
  ·have dj:decide (j<12)=true:=decide_eq_true hlt;have dj2:decide ((j:Int)<12)=true:=decide_eq_true (by omega)
   have hap:zAP ((ps++zBs j).map zAY)++(zAY (zHl j)).toList=zAP ((ps++zBs (j+1)).map zAY):=by
    rw[zKX,← List.append_assoc,List.map_append (l₁:=ps++zBs j),zBH];simp[zAP]
   have HAP:=Lib.hid hap;clear hap;have hmk:=fun w=>zGl j w (by omega)
   go_wp2_with (first|((with_reducible refine ch (hmk _) H ?_);clear H;intro w H)|((with_reducible refine gBS ?_);refine zAL wtd_ _ _ _ rfl H (zAY (zHl j)) 43 (by intro W;simp only[ml];(try simp only[pe]);exact zMz _ W) ?_;clear H;intro bk w H;simp only[ca]at H)|(at_builtin;refine zAX rfl _ _ 22 rfl H (i:=1) (j:=2) evd_ rfl i_1 i_2 Tryz.underlying22 hii hi0 hi1 hi2 hi3 (by decide) rfl rfl (by unfold maxLen;omega) (by omega) ?_;clear H;intro v2 w H;simp only[sc]at H;(obtain⟨q2,c2,rfl,_,_,_⟩:=H.rowShape (i:=1) i_1))|fail)
   rw[HAP.out]at H;go_roundw
   case rel=>exact⟨j+1,q2,c2,by omega,by go_num,rfl,H.take 2⟩
   case measure=>simp[intOf];omega
  ·obtain rfl:j=12:=by omega
   have dj:decide ((12:Int)<12)=false:=by decide
   obtain⟨q2,c2,e2,hc1,_,hq2⟩:=H.rowShape (i:=1) i_1;obtain⟨g,rfl⟩:=hq2 (by omega)
   simp only[Value.slice.injEq]at e2;obtain⟨rfl,_,rfl⟩:=e2;have hcn:n≤c:=by omega
   go_wp2_with (first|((with_reducible refine gSl ?_);refine zAZ wtd_ (zIM (sz:=9) (m:=n) (by kernel_rfl) (fun w=>by kernel_rfl) rfl rfl rfl hcn) ?_)|fail)
   go_ret;rw[← HN.out]at H ⊢;exact⟨g,c,rfl,H.all 1 _ rfl,H.below⟩
theorem zHQ {o:Oper} {a:Act} {w:World} {x y:Operand} {U:TypeId} {d:InstD} (hop:o.op=.binOp .eql 43 x y U) (hx:a.eval x=zAu d) (hy:a.eval y=zAu d):(execOp a.eval o).run Tryz.prog w=.ok (.value (.bool true)) w:=by
 have he:=zIG d.set d.set w;have hs:eqS d.set d.set=true:=by simp[eqS]
 simp only[execOp,hop,hx,hy];unfold zAu zAY;simp[go_sem,he,hs]
theorem zIV (pp:Option Addr) (cp:Nat) (ps:List InstD) (g cap:Nat) (Fp G:Nat→Prop) (w0:World) (hn:ps.length≤1000) (hFp:∀ b,Fp b→b<w0.heap.size) (hG:∀ b,G b→b<w0.heap.size) (hp:InstsR Fp pp cp ps w0) (hk:InstsR G (some ⟨g,0,none⟩) cap (ps++zBs 12) w0) :
  Calls Tryz.prog 10 #[.slice (some ⟨g,0,none⟩) ps.length cap,.slice pp ps.length cp] w0 (Rt (.bool true) w0):=by
 have hbd:=hp.bound;have hbk:=hk.bound;have hat:=hp.at
 have H:=(Hold.insts hFp hp).know G (InstsR G (some ⟨g,0,none⟩) cap (ps++zBs 12)) hG (fun i r h=>by
  rcases i with _|i
  ·simp at h;subst h;intro b hb;cases hb
  ·simp at h) (fun V hV=>hk.kept hV)
 simp only[ca]at H;clear hp hk;rw[List.length_append,zGV]at hbk;obtain⟨n,hnn⟩:∃ n,ps.length=n:=⟨_,rfl⟩;have HN:=Lib.hid hnn;rw[hnn]at hn hbd hbk hat ⊢;clear hnn;have hne:((n:Int) != (n:Int))=false:=by simp
 have hsum:wrap64 ((n:Int)+12)=((n+12:Nat):Int):=by unfold wrap64;omega
 have HLK:=Lib.hid hbk.1
 go_enter Tryz.func10,Tryz.ntmps10
 go_wp2_with (first|((with_reducible refine gSl ?_);refine zAZ wtd_ (zIM (sz:=9) (m:=n+12) (by kernel_rfl) (fun w=>by kernel_rfl) rfl rfl rfl HLK.out) ?_)|fail)
 go_loopw [6] (fun ix wr=>∃ j:Nat,j≤n+12∧ix=.int .i64 j∧Hold w0 wr [.kn Fp (InstsR Fp pp cp ps),.kn G (InstsR G (some ⟨g,0,none⟩) cap (ps++zBs 12))]) (fun ix _=>n+13 - (intOf ix).toNat)
 case atStart=>exact⟨0,by omega,rfl,H⟩
 case round =>
  clear H;obtain⟨j,hj,rfl,H⟩:=hrel
  by_cases hlt:j<n+12
  ·have dj:decide (j<n+12)=true:=decide_eq_true hlt;have dj2:decide ((j:Int)<((n+12:Nat):Int))=true:=decide_eq_true (by omega)
   have dj3:decide ((j:Int)<(n:Int)+12)=true:=decide_eq_true (by omega)
   by_cases hjn:j<n
   ·obtain⟨x,hx⟩:∃ x,ps[j]?=some x:=⟨_,List.getElem?_eq_getElem (by rw[HN.out];exact hjn)⟩
    have hx2:(ps++zBs 12)[j]?=some x:=by rw[List.getElem?_append_left (by rw[HN.out];exact hjn)];exact hx
    obtain⟨bp,op,rfl⟩:=hat (by omega)
    have HC1:=Lib.hid (fun V (h:InstsR Fp (some ⟨bp,op,none⟩) cp ps V)=>h.cells hx rfl:∀ V,InstsR Fp (some ⟨bp,op,none⟩) cp ps V→∀ k,k<9→V.cell? ⟨bp,op+j * 9+k,none⟩=(zAY x)[k]?)
    have HC2:=Lib.hid (fun V (h:InstsR G (some ⟨g,0,none⟩) cap (ps++zBs 12) V)=>h.cells hx2 rfl:∀ V,InstsR G (some ⟨g,0,none⟩) cap (ps++zBs 12) V→∀ k,k<9→V.cell? ⟨g,0+j * 9+k,none⟩=(zAY x)[k]?)
    have d1:decide ((j:Int)<(n:Int))=true:=decide_eq_true (by omega)
    have d2:decide ((n:Int)≤(j:Int))=false:=decide_eq_false (by omega)
    clear hx hx2 hat
    go_upto_region 7 with fail
    refine wr_ 35 [fun v _=>v=.int .i64 (j:Int),fun v _=>v=.slice (some ⟨bp,op,none⟩) n cp,fun v _=>v=.int .i64 ((n:Nat):Int),fun v _=>v=.bool true,fun v _=>v=.bool true,fun v _=>v=.slice (some ⟨g,0,none⟩) (n+12) cap,fun v _=>v=.int .i64 (j:Int),fun v _=>v=.pointer (some ⟨g,0+j * 9,none⟩),fun v _=>v=zAu x,fun v _=>v=.slice (some ⟨bp,op,none⟩) n cp,fun v _=>v=.int .i64 (j:Int),fun v _=>v=.pointer (some ⟨bp,op+j * 9,none⟩),fun v _=>v=zAu x,fun v _=>v=.bool true,fun v _=>v=.bool false,fun v _=>v=.bool false,fun v _=>v=.bool false,fun v _=>v=.int .i64 (j:Int),fun v _=>v=.slice (some ⟨bp,op,none⟩) n cp,fun v _=>v=.int .i64 ((n:Nat):Int),fun v _=>v=.bool false,fun v _=>v=.bool false,fun v _=>v=undef,fun v _=>v=undef,fun v _=>v=undef,fun v _=>v=undef,fun v _=>v=undef,fun v _=>v=undef,fun v _=>v=undef,fun v _=>v=undef,fun v _=>v=undef,fun v _=>v=undef,fun v _=>v=undef,fun v _=>v=Value.bool false,fun v _=>v=Value.bool false] ?ob ?en
    case ob =>
     refine⟨?_,?_,?_,?_,?_,?_,?_,?_,?_,?_,?_,?_,?_,?_,?_,?_,?_,?_,?_,?_,?_,?_,?_,?_,?_,?_,?_,?_,?_,?_,?_,?_,?_,?_,?_,trivial⟩<;>intro A W h
     ·exact zAB rfl rfl (h.f 6)
     ·exact zAB rfl rfl (h.f 1)
     ·exact zBb Tryz.underlying22 rfl rfl (h.d 1 24)
     ·(have e23:A.eval (.tmp 23)=.int .i64 (j:Int):=h.d 0 23;have e25:A.eval (.tmp 25)=.int .i64 ((n:Nat):Int):=h.d 2 25;refine zAA rfl ?_;simp only[execOp,e23,e25];simp[go_sem]<;>omega)
     ·exact zAB rfl rfl (h.d 3 26)
     ·exact zAB (wg (h.d 4 27)) rfl (h.f 5)
     ·exact zAB (wg (h.d 4 27)) rfl (h.f 6)
     ·exact zAo (sz:=9) Tryz.underlying22 (fun w=>by kernel_rfl) (wg (h.d 4 27)) rfl (h.d 5 28) (h.d 6 29) hlt rfl (by decide)
     ·exact zAA (wg (h.d 4 27)) (zAb rfl (h.d 7 30) zAk rfl (HC2.out _ ((H.call h.below).kn (i:=1) i_1))) (by decide)
     ·exact zAB (wg (h.d 4 27)) rfl (h.f 1)
     ·exact zAB (wg (h.d 4 27)) rfl (h.f 6)
     ·exact zAo (sz:=9) Tryz.underlying22 (fun w=>by kernel_rfl) (wg (h.d 4 27)) rfl (h.d 9 32) (h.d 10 33) hjn rfl (by decide)
     ·exact zAA (wg (h.d 4 27)) (zAb rfl (h.d 11 34) zAk rfl (HC1.out _ ((H.call h.below).kn (i:=0) .zero))) (by decide)
     ·exact zAA (wg (h.d 4 27)) (zHQ rfl (h.d 8 31) (h.d 12 35)) (by decide)
     ·(have e36:A.eval (.tmp 36)=.bool true:=h.d 13 36;refine zAA (wg (h.d 4 27)) ?_;simp only[execOp,e36];(simp[go_sem]<;>first|done|omega|(rw[IntKind.wrap_i64];omega)|(rw[IntKind.wrap_u8];omega)|(rw[IntKind.wrap_u64];omega)))
     ·exact zA8 rfl rfl (h.d 4 27) (h.d 14 37)
     ·exact zAB rfl rfl (h.d 15 38)
     ·exact zAB (wg (h.d 16 39)) rfl (h.f 6)
     ·exact zAB (wg (h.d 16 39)) rfl (h.f 1)
     ·exact zBb Tryz.underlying22 (wg (h.d 16 39)) rfl (h.d 18 41)
     ·(have e40:A.eval (.tmp 40)=.int .i64 (j:Int):=h.d 17 40;have e42:A.eval (.tmp 42)=.int .i64 ((n:Nat):Int):=h.d 19 42;refine zAA (wg (h.d 16 39)) ?_;simp only[execOp,e40,e42];simp[go_sem]<;>omega)
     ·exact zAB (wg (h.d 16 39)) rfl (h.d 20 43)
     ·exact rsk (h.d 21 44)
     ·exact rsk (h.d 21 44)
     ·exact rsk (h.d 21 44)
     ·exact rsk (h.d 21 44)
     ·exact rsk (h.d 21 44)
     ·exact rsk (h.d 21 44)
     ·exact rsk (h.d 21 44)
     ·exact rsk (h.d 21 44)
     ·exact rsk (h.d 21 44)
     ·exact rsk (h.d 21 44)
     ·exact rsk (h.d 21 44)
     ·exact zA8 (wg (h.d 16 39)) rfl (h.d 21 44) (rfl)
     ·exact zA8 rfl rfl (h.d 16 39) (h.d 33 56)
    case en =>
     intro vals W hbw hv _;simp only[fa,Nat.reduceAdd];rw[e_ hv 0,e_ hv 1,e_ hv 2,e_ hv 3,e_ hv 4,e_ hv 5,e_ hv 6,e_ hv 7,e_ hv 8,e_ hv 9,e_ hv 10,e_ hv 11,e_ hv 12,e_ hv 13,e_ hv 14,e_ hv 15,e_ hv 16,e_ hv 17,e_ hv 18,e_ hv 19,e_ hv 20,e_ hv 21,e_ hv 22,e_ hv 23,e_ hv 24,e_ hv 25,e_ hv 26,e_ hv 27,e_ hv 28,e_ hv 29,e_ hv 30,e_ hv 31,e_ hv 32,e_ hv 33,e_ hv 34];clear hv
     try simp only[pl]
     replace H:=H.call hbw;clear hbw
     go_wp2_with fail
     go_roundw
     case rel=>exact⟨j+1,by omega,by go_num,H⟩
     case measure=>simp[intOf];omega
   ·obtain⟨k,hk⟩:∃ k,j - n=k:=⟨_,rfl⟩;have hk12:k<12:=by omega
    have hx2:(ps++zBs 12)[j]?=some (zHl k):=by
     rw[List.getElem?_append_right (by rw[HN.out];omega),HN.out,hk]
     simp[zBs,hk12]
    have HC2:=Lib.hid (fun V (h:InstsR G (some ⟨g,0,none⟩) cap (ps++zBs 12) V)=>h.cells hx2 rfl:∀ V,InstsR G (some ⟨g,0,none⟩) cap (ps++zBs 12) V→∀ q,q<9→V.cell? ⟨g,0+j * 9+q,none⟩=(zAY (zHl k))[q]?)
    have d1:decide ((j:Int)<(n:Int))=false:=decide_eq_false (by omega)
    have d2:decide ((n:Int)≤(j:Int))=true:=decide_eq_true (by omega)
    have hsb:((j:Nat):Int) - ((n:Nat):Int)=((k:Nat):Int):=by omega
    have hsb1:(-9223372036854775808:Int)≤((k:Nat):Int):=by omega
    have hsb2:((k:Nat):Int)≤9223372036854775807:=by omega
    have hmk:=fun w=>zGl k w (by omega)
    clear hx2 hat hk
    go_upto_region 7 with fail
    refine wr_ 35 [fun v _=>v=.int .i64 (j:Int),fun v _=>v=.slice pp n cp,fun v _=>v=.int .i64 ((n:Nat):Int),fun v _=>v=.bool false,fun v _=>v=.bool false,fun v _=>v=undef,fun v _=>v=undef,fun v _=>v=undef,fun v _=>v=undef,fun v _=>v=undef,fun v _=>v=undef,fun v _=>v=undef,fun v _=>v=undef,fun v _=>v=undef,fun v _=>v=undef,fun v _=>v=Value.bool false,fun v _=>v=Value.bool false,fun v _=>v=.int .i64 (j:Int),fun v _=>v=.slice pp n cp,fun v _=>v=.int .i64 ((n:Nat):Int),fun v _=>v=.bool true,fun v _=>v=.bool true,fun v _=>v=.slice (some ⟨g,0,none⟩) (n+12) cap,fun v _=>v=.int .i64 (j:Int),fun v _=>v=.pointer (some ⟨g,0+j * 9,none⟩),fun v _=>v=zAu (zHl k),fun v _=>v=.int .i64 (j:Int),fun v _=>v=.slice pp n cp,fun v _=>v=.int .i64 ((n:Nat):Int),fun v _=>v=.int .i64 (k:Nat),fun v _=>v=zAu (zHl k),fun v _=>v=.bool true,fun v _=>v=.bool false,fun v _=>v=.bool false,fun v _=>v=.bool false] ?ob ?en
    case ob =>
     refine⟨?_,?_,?_,?_,?_,?_,?_,?_,?_,?_,?_,?_,?_,?_,?_,?_,?_,?_,?_,?_,?_,?_,?_,?_,?_,?_,?_,?_,?_,?_,?_,?_,?_,?_,?_,trivial⟩<;>intro A W h
     ·exact zAB rfl rfl (h.f 6)
     ·exact zAB rfl rfl (h.f 1)
     ·exact zBb Tryz.underlying22 rfl rfl (h.d 1 24)
     ·(have e23:A.eval (.tmp 23)=.int .i64 (j:Int):=h.d 0 23;have e25:A.eval (.tmp 25)=.int .i64 ((n:Nat):Int):=h.d 2 25;refine zAA rfl ?_;simp only[execOp,e23,e25];simp[go_sem]<;>omega)
     ·exact zAB rfl rfl (h.d 3 26)
     ·exact rsk (h.d 4 27)
     ·exact rsk (h.d 4 27)
     ·exact rsk (h.d 4 27)
     ·exact rsk (h.d 4 27)
     ·exact rsk (h.d 4 27)
     ·exact rsk (h.d 4 27)
     ·exact rsk (h.d 4 27)
     ·exact rsk (h.d 4 27)
     ·exact rsk (h.d 4 27)
     ·exact rsk (h.d 4 27)
     ·exact zA8 rfl rfl (h.d 4 27) (rfl)
     ·exact zAB rfl rfl (h.d 15 38)
     ·exact zAB (wg (h.d 16 39)) rfl (h.f 6)
     ·exact zAB (wg (h.d 16 39)) rfl (h.f 1)
     ·exact zBb Tryz.underlying22 (wg (h.d 16 39)) rfl (h.d 18 41)
     ·(have e40:A.eval (.tmp 40)=.int .i64 (j:Int):=h.d 17 40;have e42:A.eval (.tmp 42)=.int .i64 ((n:Nat):Int):=h.d 19 42;refine zAA (wg (h.d 16 39)) ?_;simp only[execOp,e40,e42];simp[go_sem]<;>omega)
     ·exact zAB (wg (h.d 16 39)) rfl (h.d 20 43)
     ·exact zAB (wg (h.d 21 44)) rfl (h.f 5)
     ·exact zAB (wg (h.d 21 44)) rfl (h.f 6)
     ·exact zAo (sz:=9) Tryz.underlying22 (fun w=>by kernel_rfl) (wg (h.d 21 44)) rfl (h.d 22 45) (h.d 23 46) hlt rfl (by decide)
     ·exact zAA (wg (h.d 21 44)) (zAb rfl (h.d 24 47) zAk rfl (HC2.out _ ((H.call h.below).kn (i:=1) i_1))) (by decide)
     ·exact zAB (wg (h.d 21 44)) rfl (h.f 6)
     ·exact zAB (wg (h.d 21 44)) rfl (h.f 1)
     ·exact zBb Tryz.underlying22 (wg (h.d 21 44)) rfl (h.d 27 50)
     ·exact zAA (wg (h.d 21 44)) (zIW rfl (h.d 26 49) (h.d 28 51) hsb hsb1 hsb2) (by decide)
     ·exact zAm (wg (h.d 21 44)) rfl (enters_of Tryz.func17 (by kernel_rfl) rfl) (zBz ⟨rfl,(h.d 29 52)⟩) (hmk W)
     ·exact zAA (wg (h.d 21 44)) (zHQ rfl (h.d 25 48) (h.d 30 53)) (by decide)
     ·(have e54:A.eval (.tmp 54)=.bool true:=h.d 31 54;refine zAA (wg (h.d 21 44)) ?_;simp only[execOp,e54];(simp[go_sem]<;>first|done|omega|(rw[IntKind.wrap_i64];omega)|(rw[IntKind.wrap_u8];omega)|(rw[IntKind.wrap_u64];omega)))
     ·exact zA8 (wg (h.d 16 39)) rfl (h.d 21 44) (h.d 32 55)
     ·exact zA8 rfl rfl (h.d 16 39) (h.d 33 56)
    case en =>
     intro vals W hbw hv _;simp only[fa,Nat.reduceAdd];rw[e_ hv 0,e_ hv 1,e_ hv 2,e_ hv 3,e_ hv 4,e_ hv 5,e_ hv 6,e_ hv 7,e_ hv 8,e_ hv 9,e_ hv 10,e_ hv 11,e_ hv 12,e_ hv 13,e_ hv 14,e_ hv 15,e_ hv 16,e_ hv 17,e_ hv 18,e_ hv 19,e_ hv 20,e_ hv 21,e_ hv 22,e_ hv 23,e_ hv 24,e_ hv 25,e_ hv 26,e_ hv 27,e_ hv 28,e_ hv 29,e_ hv 30,e_ hv 31,e_ hv 32,e_ hv 33,e_ hv 34];clear hv
     try simp only[pl]
     replace H:=H.call hbw;clear hbw
     go_wp2_with fail
     go_roundw
     case rel=>exact⟨j+1,by omega,by go_num,H⟩
     case measure=>simp[intOf];omega
  ·obtain rfl:j=n+12:=by omega
   have dj:decide (n+12<n+12)=false:=by simp
   have dj2:decide (((n+12:Nat):Int)<((n+12:Nat):Int))=false:=by simp
   have dj3:decide ((n:Int)+12<(n:Int)+12)=false:=by simp
   go_wp2_with fail
   go_ret;exact⟨rfl,H.below⟩
def zBE (k:Nat):List Value:=(List.range k).map (fun i:Nat=>.int .u8 (zFd 1 i))
theorem zHR (k:Nat):zBE (k+1)=zBE k++[.int .u8 (zFd 1 k)]:=by simp[zBE,List.range_succ]
theorem zHj (k:Nat):(zBE k).length=k:=by simp[zBE]
theorem zHg {k j:Nat} (h:j<k):(zBE k)[j]?=some (.int .u8 (zFd 1 j)):=by simp[zBE,h]
theorem zH9:(Tryz.prog.info? 5).map (fun i=>(i.zero,i.size,i.bytes))=some (some (.int .u8 0),1,1):=by kernel_rfl
theorem zFp (v:Value) (B:List Int) (w:World) (hB:B.length≤4194304) (hr:Rd w w.heap.size v (u8s B)) :
  Calls Tryz.prog 7 #[v] w fun e w'=>∃ r,e=.returned r∧Lent w.heap.size w' r (u8s B) (zBE 12)∧Below w.heap.size w w':=by
 obtain⟨i0,hi,hz0,hz1,hz2⟩:=info_parts zH9;have hv:∃ pa ca,v=.slice pa B.length ca:=by rcases hr.u8 with ⟨⟨q,h⟩,rfl⟩|⟨b,off,cap,h,_⟩<;>exact⟨_,_,h⟩
 obtain⟨pa,ca,rfl⟩:=hv;have hl:(u8s B).length=B.length:=by simp[u8s]
 have h1c:∀ c ∈ u8s B,c.oneCell'=true:=by intro c hc;obtain⟨x,_,rfl⟩:=List.mem_map.1 hc;rfl
 have HR:=Lib.hid hr;clear hr;have HL:=Lib.hid hl;clear hl;have H1:=Lib.hid h1c;clear h1c;have hsum:IntKind.i64.wrap ((B.length:Int)+12)=(B.length:Int)+12:=by rw[IntKind.wrap_i64];omega
 go_enter Tryz.func7,Tryz.ntmps7
 go_wp2_with (first
  | (at_make;refine wpList_make_own _ rfl _ _ 23 rfl w.heap.size 5 i0 (.int .u8 0) 1 Tryz.underlying23 hi hz0 hz1 .i64 .i64 _ (B.length+12) rfl rfl (by omega) (by rw[hz2];omega) (by unfold maxLen;omega) (Nat.le_refl _) ?_;intro w1 own1 grow1;have bel1:Below w.heap.size w w1:=(Below.refl _ w).grown grow1 (Nat.le_refl _) (fun k hk=>by cases hk);have hs1:=bel1.size;clear hsum;have OWN1:=Lib.hid own1;clear own1)
  | (at_builtin;refine zGu w1 rfl _ _ 23 rfl w.heap.size 5 i0 (.int .u8 0) 1 Tryz.underlying23 hi hz0 hz1 hz2 rfl (.slice (some ⟨w.heap.size,0,none⟩) 0 (B.length+12)) 0 [] rfl OWN1.out (.slice pa B.length ca) (u8s B) rfl (HR.out.below bel1) H1.out (by rw[HL.out];unfold maxLen;omega) (by rw[HL.out];omega) hs1 ?_;intro v2 w2 own2 grow2 _;have bel2:Below w.heap.size w w2:=bel1.grown grow2 hs1 (fun k hk=>(OWN1.out.lt k hk).1);rw[HL.out,Nat.zero_add,List.nil_append]at own2;have O2:=Lib.hid own2;have B2:=Lib.hid bel2;clear OWN1 own2 grow1 grow2 bel1 bel2 hs1))
 go_loopw [3,4] (fun out k wr=>∃ j:Nat,j≤12∧k=.int .i64 j∧Hid (wr.ownsRow w.heap.size 5 1 out (B.length+j) (u8s B++zBE j)∧Below w.heap.size w wr)) (fun _ k _=>12 - (intOf k).toNat)
 case atStart=>exact⟨0,by omega,rfl,by simpa [zBE] using O2.out,B2.out⟩
 case round =>
  clear O2 B2;obtain⟨j,hj,rfl,H⟩:=hrel;have ⟨hown,hbel⟩:=H.out;have hsz:=hbel.size
  by_cases hlt:j<12
  ·have HB:=Lib.hid hbel;clear hbel;have HM:=Lib.hid (zHR j);have hmk:=zKw 1 j
   go_wp2_with (first
    | (go_at_call 18;refine(zGZ 1 j wr (by omega) (by omega)).mono ?_;rintro e w' ⟨rfl,rfl⟩)
    | (at_builtin;refine wpList_append_own_at _ rfl _ _ 23 rfl w.heap.size 5 i0 (.int .u8 0) 1 1 Tryz.underlying23 hi hz0 hz1 hz2 rfl (by decide) _ _ _ rfl (hown.alloc _) ⟨wr.heap.size,0,none⟩ 1 1 [.int .u8 (zFd 1 j)] rfl rfl (cell_one_new _ _ _) (by simp[Value.oneCell']) (by unfold maxLen;omega) (by omega) (by simp;omega) ?_;intro v3 w3 hown3 hgrow3 _ _))
   have own3:w3.ownsRow w.heap.size 5 1 v3 (B.length+(j+1)) (u8s B++zBE (j+1)):=by rw[HM.out,← List.append_assoc];exact hown3
   have bel3:Below w.heap.size w w3:=(HB.out.alloc hsz _).grown hgrow3 (by simp;omega) (fun k hk=>(hown.lt k hk).1)
   clear hown hown3 hgrow3 H HB hmk;have O3:=Lib.hid own3;clear own3;have B3:=Lib.hid bel3;clear bel3;go_roundw
   case rel=>exact⟨j+1,by omega,by go_num,O3.out,B3.out⟩
   case measure=>simp[intOf];omega
  ·obtain rfl:j=12:=by omega
   obtain⟨g,cap,rfl,hg0,hg1,hcap,hm,hcell⟩:=zPG hown (by omega)
   have hsl:∀ W,(Instr.slice 23 (.slice (some ⟨g,0,none⟩) (B.length+12) cap) (some (.int .i64 ((0:Nat):Int))) (some (.int .i64 (B.length:Int))) none).run Tryz.prog W=.ok (.slice (some ⟨g,0,none⟩) B.length cap) W:=fun W=>by
    have:=zIj (P:=Tryz.prog) 23 5 Tryz.underlying23 (fun w=>by kernel_rfl) (some ⟨g,0,none⟩) (B.length+12) cap 0 B.length (by omega) (by omega) W
    rw[this];simp[offA,Addr.add]
   have hle:((B.length:Int)≤(cap:Int)):=by omega
   have hcap0:¬ cap=0:=by omega
   have HC:=Lib.hid hcell;clear hcell;clear H;unfold maxLen at hm;have HBel:=Lib.hid hbel;clear hbel;clear hsl hown
   go_wp2
   go_ret;refine⟨.slice (some ⟨g,0,none⟩) B.length cap,rfl,⟨g,cap,by rw[HL.out],hg0,hg1,by rw[HL.out];omega,by unfold maxLen;omega,fun j hj=>?_⟩,HBel.out⟩
   rw[HC.out j (by simp[HL.out,zHj]at hj ⊢;omega),List.getElem?_eq_getElem]
theorem zFZ (v v2:Value) (B:List Int) (b0:Nat) (w:World) (hB:B.length≤4194304) (hv:Lent b0 w v (u8s B) (zBE 12)) (hr:Rd w w.heap.size v2 (u8s B)) :
  Calls Tryz.prog 11 #[v,v2] w fun e w'=>e=.returned (.bool true)∧Below w.heap.size w w':=by
 have hl:(u8s B).length=B.length:=by simp[u8s]
 obtain⟨g,cap,rfl,hg0,hg1,hcap,hm,hcell⟩:=hv;rw[hl]at hcap hcell;rw[hl];have hv2:∃ p c,v2=.slice p B.length c:=by rcases hr.u8 with ⟨⟨q,h⟩,rfl⟩|⟨b,off,cap,h,_⟩<;>exact⟨_,_,h⟩
 obtain⟨p2,c2,rfl⟩:=hv2;have hc1:∀ j,(hj:j<B.length)→w.cell? ⟨g,j,none⟩=some (.int .u8 B[j]):=fun j hj=>by
  rw[hcell j (by omega),List.getElem?_append_left (by omega)];simp[u8s,hj]
 have hc2:∀ j,j<12→w.cell? ⟨g,B.length+j,none⟩=some (.int .u8 (zFd 1 j)):=fun j hj=>by
  rw[hcell (B.length+j) (by omega),List.getElem?_append_right (by omega),hl,show B.length+j - B.length=j from by omega,zHg hj]
 have HC1:=Lib.hid hc1;clear hc1;have HC2:=Lib.hid hc2;clear hc2;have HR:=Lib.hid hr;clear hr;clear hcell hl;unfold maxLen at hm;have hcap0:¬ cap=0:=by omega
 have hbb:((B.length:Int) != (B.length:Int))=false:=by simp
 have hsum:IntKind.i64.wrap ((B.length:Int)+12)=(B.length:Int)+12:=by rw[IntKind.wrap_i64];omega
 have hle:((B.length:Int)+12≤(cap:Int)):=by omega
 go_enter Tryz.func11,Tryz.ntmps11
 go_wp2_with fail
 go_loopw [6] (fun i wr=>∃ j:Nat,j≤B.length+12∧i=.int .i64 j∧Hid (Below w.heap.size w wr)) (fun i _=>B.length+12 - (intOf i).toNat)
 case atStart=>exact⟨0,by omega,rfl,Below.refl _ _⟩
 case round =>
  obtain⟨j,hj,rfl,H⟩:=hrel
  by_cases hlt:j<B.length+12
  ·by_cases hin:j<B.length
   ·obtain⟨b2,off2,rfl,hb2,hcell2⟩:∃ b2 off2,p2=some ⟨b2,off2,none⟩∧b2<w.heap.size∧∀ i,(hi:i<B.length)→w.cell? ⟨b2,off2+i,none⟩=some (.int .u8 B[i]):=by
     rcases HR.out.u8 with ⟨⟨q,h⟩,h'⟩|⟨b,off,cap,h,h1,_,_,h4⟩
     ·subst h';simp at hin
     ·injection h with h2 _ _;exact⟨b,off,h2,h1,h4⟩
    have k1:=HC1.out j hin;have k2:=hcell2 j hin;clear hcell2
    generalize B[j]=x at k1 k2
    have K1:=Lib.hid k1;clear k1;have K2:=Lib.hid k2;clear k2
    go_upto_region 7 with fail
    refine wr_ 35 [fun v _=>v=.int .i64 (j:Int),fun v _=>v=.slice (some ⟨b2,off2,none⟩) B.length c2,fun v _=>v=.int .i64 ((B.length:Nat):Int),fun v _=>v=.bool true,fun v _=>v=.bool true,fun v _=>v=.slice (some ⟨g,0,none⟩) (B.length+12) cap,fun v _=>v=.int .i64 (j:Int),fun v _=>v=.pointer (some ⟨g,j,none⟩),fun v _=>v=.int .u8 x,fun v _=>v=.slice (some ⟨b2,off2,none⟩) B.length c2,fun v _=>v=.int .i64 (j:Int),fun v _=>v=.pointer (some ⟨b2,off2+j,none⟩),fun v _=>v=.int .u8 x,fun v _=>v=.bool true,fun v _=>v=.bool false,fun v _=>v=.bool false,fun v _=>v=.bool false,fun v _=>v=.int .i64 (j:Int),fun v _=>v=.slice (some ⟨b2,off2,none⟩) B.length c2,fun v _=>v=.int .i64 ((B.length:Nat):Int),fun v _=>v=.bool false,fun v _=>v=.bool false,fun v _=>v=undef,fun v _=>v=undef,fun v _=>v=undef,fun v _=>v=undef,fun v _=>v=undef,fun v _=>v=undef,fun v _=>v=undef,fun v _=>v=undef,fun v _=>v=undef,fun v _=>v=undef,fun v _=>v=undef,fun v _=>v=Value.bool false,fun v _=>v=Value.bool false] ?ob ?en
    case ob =>
     refine⟨?_,?_,?_,?_,?_,?_,?_,?_,?_,?_,?_,?_,?_,?_,?_,?_,?_,?_,?_,?_,?_,?_,?_,?_,?_,?_,?_,?_,?_,?_,?_,?_,?_,?_,?_,trivial⟩<;>intro A W h
     ·exact zAB rfl rfl (h.f 6)
     ·exact zAB rfl rfl (h.f 1)
     ·exact zBb Tryz.underlying23 rfl rfl (h.d 1 24)
     ·(have e23:A.eval (.tmp 23)=.int .i64 (j:Int):=h.d 0 23;have e25:A.eval (.tmp 25)=.int .i64 ((B.length:Nat):Int):=h.d 2 25;refine zAA rfl ?_;simp only[execOp,e23,e25];(simp[go_sem]<;>omega))
     ·exact zAB rfl rfl (h.d 3 26)
     ·exact zAB (wg (h.d 4 27)) rfl (h.f 5)
     ·exact zAB (wg (h.d 4 27)) rfl (h.f 6)
     ·exact zAo (sz:=1) Tryz.underlying23 (fun w=>by kernel_rfl) (wg (h.d 4 27)) rfl (h.d 5 28) (h.d 6 29) (by omega) (by omega)
     ·(have e30:A.eval (.tmp 30)=.pointer (some ⟨g,j,none⟩):=h.d 7 30;refine zAA (wg (h.d 4 27)) ?_;simp only[execOp,e30];(have q:=((H.out.trans (h.below.mono H.out.size)).cell (p:=⟨g,j,none⟩) hg1).trans K1.out;simp[go_sem,q]))
     ·exact zAB (wg (h.d 4 27)) rfl (h.f 1)
     ·exact zAB (wg (h.d 4 27)) rfl (h.f 6)
     ·exact zAo (sz:=1) Tryz.underlying23 (fun w=>by kernel_rfl) (wg (h.d 4 27)) rfl (h.d 9 32) (h.d 10 33) (by omega) (by omega)
     ·(have e34:A.eval (.tmp 34)=.pointer (some ⟨b2,off2+j,none⟩):=h.d 11 34;refine zAA (wg (h.d 4 27)) ?_;simp only[execOp,e34];(have q:=((H.out.trans (h.below.mono H.out.size)).cell (p:=⟨b2,off2+j,none⟩) hb2).trans K2.out;simp[go_sem,q]))
     ·(have e31:A.eval (.tmp 31)=.int .u8 x:=h.d 8 31;have e35:A.eval (.tmp 35)=.int .u8 x:=h.d 12 35;refine zAA (wg (h.d 4 27)) ?_;simp only[execOp,e31,e35];simp[go_sem])
     ·(have e36:A.eval (.tmp 36)=.bool true:=h.d 13 36;refine zAA (wg (h.d 4 27)) ?_;simp only[execOp,e36];simp[go_sem])
     ·exact zA8 rfl rfl (h.d 4 27) (h.d 14 37)
     ·exact zAB rfl rfl (h.d 15 38)
     ·exact zAB (wg (h.d 16 39)) rfl (h.f 6)
     ·exact zAB (wg (h.d 16 39)) rfl (h.f 1)
     ·exact zBb Tryz.underlying23 (wg (h.d 16 39)) rfl (h.d 18 41)
     ·(have e40:A.eval (.tmp 40)=.int .i64 (j:Int):=h.d 17 40;have e42:A.eval (.tmp 42)=.int .i64 ((B.length:Nat):Int):=h.d 19 42;refine zAA (wg (h.d 16 39)) ?_;simp only[execOp,e40,e42];(simp[go_sem]<;>omega))
     ·exact zAB (wg (h.d 16 39)) rfl (h.d 20 43)
     ·exact rsk (h.d 21 44)
     ·exact rsk (h.d 21 44)
     ·exact rsk (h.d 21 44)
     ·exact rsk (h.d 21 44)
     ·exact rsk (h.d 21 44)
     ·exact rsk (h.d 21 44)
     ·exact rsk (h.d 21 44)
     ·exact rsk (h.d 21 44)
     ·exact rsk (h.d 21 44)
     ·exact rsk (h.d 21 44)
     ·exact rsk (h.d 21 44)
     ·exact zA8 (wg (h.d 16 39)) rfl (h.d 21 44) (rfl)
     ·exact zA8 rfl rfl (h.d 16 39) (h.d 33 56)
    case en =>
     intro vals W hbw hv _;simp only[fa,Nat.reduceAdd];rw[e_ hv 0,e_ hv 1,e_ hv 2,e_ hv 3,e_ hv 4,e_ hv 5,e_ hv 6,e_ hv 7,e_ hv 8,e_ hv 9,e_ hv 10,e_ hv 11,e_ hv 12,e_ hv 13,e_ hv 14,e_ hv 15,e_ hv 16,e_ hv 17,e_ hv 18,e_ hv 19,e_ hv 20,e_ hv 21,e_ hv 22,e_ hv 23,e_ hv 24,e_ hv 25,e_ hv 26,e_ hv 27,e_ hv 28,e_ hv 29,e_ hv 30,e_ hv 31,e_ hv 32,e_ hv 33,e_ hv 34];clear hv
     try simp only[pl]
     have BZ:=Lib.hid (H.out.trans (hbw.mono H.out.size));clear hbw H
     go_wp2_with fail
     go_roundw
     case rel=>exact⟨j+1,by omega,by go_num,BZ.out⟩
     case measure=>simp[intOf];omega
   ·have k1:=HC2.out (j - B.length) (by omega)
    rw[show B.length+(j - B.length)=j from by omega]at k1
    have K1:=Lib.hid k1;clear k1
    go_upto_region 7 with fail
    refine wr_ 35 [fun v _=>v=.int .i64 (j:Int),fun v _=>v=.slice p2 B.length c2,fun v _=>v=.int .i64 ((B.length:Nat):Int),fun v _=>v=.bool false,fun v _=>v=.bool false,fun v _=>v=undef,fun v _=>v=undef,fun v _=>v=undef,fun v _=>v=undef,fun v _=>v=undef,fun v _=>v=undef,fun v _=>v=undef,fun v _=>v=undef,fun v _=>v=undef,fun v _=>v=undef,fun v _=>v=Value.bool false,fun v _=>v=Value.bool false,fun v _=>v=.int .i64 (j:Int),fun v _=>v=.slice p2 B.length c2,fun v _=>v=.int .i64 ((B.length:Nat):Int),fun v _=>v=.bool true,fun v _=>v=.bool true,fun v _=>v=.slice (some ⟨g,0,none⟩) (B.length+12) cap,fun v _=>v=.int .i64 (j:Int),fun v _=>v=.pointer (some ⟨g,j,none⟩),fun v _=>v=.int .u8 (zFd 1 ((j - B.length:Nat):Int)),fun v _=>v=.int .i64 (j:Int),fun v _=>v=.slice p2 B.length c2,fun v _=>v=.int .i64 ((B.length:Nat):Int),fun v _=>v=.int .i64 ((j - B.length:Nat):Int),fun v _=>v=.int .u8 (zFd 1 ((j - B.length:Nat):Int)),fun v _=>v=.bool true,fun v _=>v=.bool false,fun v _=>v=.bool false,fun v _=>v=.bool false] ?ob ?en
    case ob =>
     refine⟨?_,?_,?_,?_,?_,?_,?_,?_,?_,?_,?_,?_,?_,?_,?_,?_,?_,?_,?_,?_,?_,?_,?_,?_,?_,?_,?_,?_,?_,?_,?_,?_,?_,?_,?_,trivial⟩<;>intro A W h
     ·exact zAB rfl rfl (h.f 6)
     ·exact zAB rfl rfl (h.f 1)
     ·exact zBb Tryz.underlying23 rfl rfl (h.d 1 24)
     ·(have e23:A.eval (.tmp 23)=.int .i64 (j:Int):=h.d 0 23;have e25:A.eval (.tmp 25)=.int .i64 ((B.length:Nat):Int):=h.d 2 25;refine zAA rfl ?_;simp only[execOp,e23,e25];(simp[go_sem]<;>omega))
     ·exact zAB rfl rfl (h.d 3 26)
     ·exact rsk (h.d 4 27)
     ·exact rsk (h.d 4 27)
     ·exact rsk (h.d 4 27)
     ·exact rsk (h.d 4 27)
     ·exact rsk (h.d 4 27)
     ·exact rsk (h.d 4 27)
     ·exact rsk (h.d 4 27)
     ·exact rsk (h.d 4 27)
     ·exact rsk (h.d 4 27)
     ·exact rsk (h.d 4 27)
     ·exact zA8 rfl rfl (h.d 4 27) (rfl)
     ·exact zAB rfl rfl (h.d 15 38)
     ·exact zAB (wg (h.d 16 39)) rfl (h.f 6)
     ·exact zAB (wg (h.d 16 39)) rfl (h.f 1)
     ·exact zBb Tryz.underlying23 (wg (h.d 16 39)) rfl (h.d 18 41)
     ·(have e40:A.eval (.tmp 40)=.int .i64 (j:Int):=h.d 17 40;have e42:A.eval (.tmp 42)=.int .i64 ((B.length:Nat):Int):=h.d 19 42;refine zAA (wg (h.d 16 39)) ?_;simp only[execOp,e40,e42];(simp[go_sem]<;>omega))
     ·exact zAB (wg (h.d 16 39)) rfl (h.d 20 43)
     ·exact zAB (wg (h.d 21 44)) rfl (h.f 5)
     ·exact zAB (wg (h.d 21 44)) rfl (h.f 6)
     ·exact zAo (sz:=1) Tryz.underlying23 (fun w=>by kernel_rfl) (wg (h.d 21 44)) rfl (h.d 22 45) (h.d 23 46) (by omega) (by omega)
     ·(have e47:A.eval (.tmp 47)=.pointer (some ⟨g,j,none⟩):=h.d 24 47;refine zAA (wg (h.d 21 44)) ?_;simp only[execOp,e47];(have q:=((H.out.trans (h.below.mono H.out.size)).cell (p:=⟨g,j,none⟩) hg1).trans K1.out;simp[go_sem,q]))
     ·exact zAB (wg (h.d 21 44)) rfl (h.f 6)
     ·exact zAB (wg (h.d 21 44)) rfl (h.f 1)
     ·exact zBb Tryz.underlying23 (wg (h.d 21 44)) rfl (h.d 27 50)
     ·(have e49:A.eval (.tmp 49)=.int .i64 (j:Int):=h.d 26 49;have e51:A.eval (.tmp 51)=.int .i64 ((B.length:Nat):Int):=h.d 28 51;refine zAA (wg (h.d 21 44)) ?_;simp only[execOp,e49,e51];(simp[go_sem]<;>(rw[IntKind.wrap_i64];omega)))
     ·exact zAm (wg (h.d 21 44)) rfl (enters_of Tryz.func18 (by kernel_rfl) rfl) (zBz ⟨rfl,(h.d 29 52)⟩) ((zGZ 1 _ W (by omega) (by omega)).mono fun _ _ h=>⟨h.1,h.2 ▸ Below.refl _ _⟩)
     ·(have e48:A.eval (.tmp 48)=.int .u8 (zFd 1 ((j - B.length:Nat):Int)):=h.d 25 48;have e53:A.eval (.tmp 53)=.int .u8 (zFd 1 ((j - B.length:Nat):Int)):=h.d 30 53;refine zAA (wg (h.d 21 44)) ?_;simp only[execOp,e48,e53];simp[go_sem])
     ·(have e54:A.eval (.tmp 54)=.bool true:=h.d 31 54;refine zAA (wg (h.d 21 44)) ?_;simp only[execOp,e54];simp[go_sem])
     ·exact zA8 (wg (h.d 16 39)) rfl (h.d 21 44) (h.d 32 55)
     ·exact zA8 rfl rfl (h.d 16 39) (h.d 33 56)
    case en =>
     intro vals W hbw hv _;simp only[fa,Nat.reduceAdd];rw[e_ hv 0,e_ hv 1,e_ hv 2,e_ hv 3,e_ hv 4,e_ hv 5,e_ hv 6,e_ hv 7,e_ hv 8,e_ hv 9,e_ hv 10,e_ hv 11,e_ hv 12,e_ hv 13,e_ hv 14,e_ hv 15,e_ hv 16,e_ hv 17,e_ hv 18,e_ hv 19,e_ hv 20,e_ hv 21,e_ hv 22,e_ hv 23,e_ hv 24,e_ hv 25,e_ hv 26,e_ hv 27,e_ hv 28,e_ hv 29,e_ hv 30,e_ hv 31,e_ hv 32,e_ hv 33,e_ hv 34];clear hv
     try simp only[pl]
     have BZ:=Lib.hid (H.out.trans (hbw.mono H.out.size));clear hbw H
     go_wp2_with fail
     go_roundw
     case rel=>exact⟨j+1,by omega,by go_num,BZ.out⟩
     case measure=>simp[intOf];omega
  ·obtain rfl:j=B.length+12:=by omega
   go_wp2
   go_ret;exact⟨rfl,H.out⟩
end
end Go.Proofs.YtdoflhjhaciepaaGreat
