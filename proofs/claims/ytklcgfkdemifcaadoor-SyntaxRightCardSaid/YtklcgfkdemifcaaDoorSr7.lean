/-
  Laws of walks, and walks.
-/
import Derived.Test.YtklcgfkdemifcaaDoorSr6
set_option linter.unusedVariables false
set_option linter.unusedSimpArgs false
set_option maxRecDepth 100000
set_option maxHeartbeats 16000000
namespace Go.Proofs.YtklcgfkdemifcaaDoor
section
open Go.RowKit Go.Shelf
attribute [local go_sem] Oper.semAt_some
section
variable {M:Nat→Prop} {w0 w wc w':World} {l l1 l2 l3 ls:List Res}
theorem HoldG.callL (H:HoldG M w0 w (l1++l3)) (T:Turned M w0 w l1 l2 w'):HoldG M w0 w' (l2++l3):=by
 refine H.callIn T (List.range l1.length) ((List.range l3.length).map (·+l1.length)) ?_ ?_ ?_ ?_
 ·refine List.ext_getElem? fun i=>?_
  rw[List.getElem?_map,List.getElem?_map]
  by_cases h:i<l1.length
  ·rw[List.getElem?_range h,List.getElem?_eq_getElem h];simp[List.getElem?_append_left h,List.getElem?_eq_getElem h]
  ·simp[h]
 ·refine List.ext_getElem? fun i=>?_
  rw[List.getElem?_map,List.getElem?_map,List.getElem?_map]
  by_cases h:i<l3.length
  ·rw[List.getElem?_range h,List.getElem?_eq_getElem h];simp[List.getElem?_append_right,List.getElem?_eq_getElem h]
  ·simp[h]
 ·exact(List.nodup_range).map _ (fun a b e=>by simpa using e) |> fun h=>h
 ·intro j hj hk;rw[List.mem_range]at hj;obtain⟨i,_,rfl⟩:=List.mem_map.1 hk;omega
def NewF (w:World) (l1:List Res) (b:Nat):Prop:=(∃ s ∈ l1,s.foot b)∨w.heap.size≤b
theorem HoldG.newer (H:HoldG M w0 wc ls) {rF:Nat→Prop} {rS:World→Prop} {i:Nat} (hi:At ls i (.kn rF rS)) (e:zBN w l1=rF):∀ b,wc.heap.size≤b→NewF w l1 b:=fun b h=>by
 by_cases hb:b<w.heap.size
 ·by_cases hp:∃ s ∈ l1,s.place=some b
  ·obtain⟨s,hs,e⟩:=hp;exact .inl ⟨s,hs,Res.place_foot e⟩
  ·have:=H.knlt hi b (by rw[← e];exact⟨hb,fun r hr e=>hp ⟨r,hr,e⟩⟩)
   omega
 ·exact .inr (by omega)
theorem HoldG.ownN (H:HoldG M w0 wc ls) {rF:Nat→Prop} {rS:World→Prop} {i j:Nat} {r:Res} (hi:At ls i (.kn rF rS)) (hj:At ls j r) (hij:j≠i) (e:zBN w l1=rF):∀ b,r.place=some b→NewF w l1 b:=fun b h=>by
 by_cases hb:b<w.heap.size
 ·by_cases hp:∃ s ∈ l1,s.place=some b
  ·obtain⟨s,hs,e⟩:=hp;exact .inl ⟨s,hs,Res.place_foot e⟩
  ·exact(H.apart j i _ _ hij hj.get hi.get b h (by rw[← e];exact⟨hb,fun r hr e=>hp ⟨r,hr,e⟩⟩)).elim
 ·exact .inr (by omega)
theorem zNw {P:Program} {fn:FuncId} {args:Array Value} {R:Ending→World→Prop} {og oc:Nat} {pre:List LevM} {lv:LevM} {F:Nat→Prop} {zs:List TV}
  (c:HoldG M w0 wc (zBA og oc pre lv F zs)→Calls P fn args wc fun e w'=>e=.returned (.tuple #[])∧∃ p c aq ac F',(∀ b,F' b→F b∨(Value.slice lv.iq lv.items.length lv.ic).ownBlock=some b∨wc.heap.size≤b) ∧
   Turned M w0 wc (zBA og oc pre lv F zs) (zBA og oc pre {lv with all:=lv.all++[(rowT 4 (lv.items.map (·.1)),p,c)],aq:=aq,ac:=ac,items:=[],iq:=none,ic:=0} F' (zs++[(rowT 4 (lv.items.map (·.1)),p,c)])) w')
  (H:HoldG M w0 wc (zBA og oc pre lv F zs++l3)) {N:Nat→Prop} (hF:∀ b,F b→N b) (hO:∀ b,(Value.slice lv.iq lv.items.length lv.ic).ownBlock=some b→N b) (hN:∀ b,wc.heap.size≤b→N b)
  (k:∀ w' l4 x F',Hid (l4.all=lv.all++[x]∧x.1=rowT 4 (lv.items.map (·.1))∧l4.items=[]∧l4.group=lv.group∧l4.behind=lv.behind∧l4.place=lv.place)→Hid (∀ b,F' b→N b)→HoldG M w0 w' (zBA og oc pre l4 F' (zs++[x])++l3)→R (.returned (.tuple #[])) w'):Calls P fn args wc R :=
 (c (H.pick [0,1,2,3] _ (by decide) rfl)).mono fun e w' h=>by
  obtain⟨rfl,p,c,aq,ac,F',h2,T⟩:=h;exact k w' {lv with all:=lv.all++[(rowT 4 (lv.items.map (·.1)),p,c)],aq:=aq,ac:=ac,items:=[],iq:=none,ic:=0} _ F' (Lib.hid ⟨rfl,rfl,rfl,rfl,rfl,rfl⟩) (Lib.hid fun b hb=>(h2 b hb).elim (hF b) (fun h=>h.elim (hO b) (hN b))) (H.callL T)
theorem chTr {P:Program} {fn:FuncId} {args:Array Value} {R:Ending→World→Prop} {G:Nat→Prop} {t:Tree} (c:Calls P fn args wc fun e w'=>zIW wc G t e w'∧Below wc.heap.size wc w') (H:HoldG M w0 wc l) (hG:Still l G) {N:Nat→Prop} (hN:∀ b,wc.heap.size≤b→N b) (hGN:∀ b,G b→N b)
  (k:∀ w' p c F,Hid (∀ b,F b→N b)→HoldG M w0 w' (l++[knT F p c t.kids])→R (.returned (zAa t.d (.slice p t.kids.length c))) w'):Calls P fn args wc R:=c.mono fun e w' h=>by
 obtain⟨⟨p,c,F,rfl,h1,h2⟩,hb⟩:=h;exact k w' p c F (Lib.hid fun b hb=>(h2 b hb).2.elim (hN b) (hGN b)) (H.learn hb hG h2 (fun V hV=>h1.kept hV))
end
section
variable {M:Nat→Prop} {w0 w:World}
def zIT (M:Nat→Prop) (w0:World) (og oc:Nat) (pre:List LevM) (l:LevM) (F:Nat→Prop) (zs:List TV) (w:World) (e:Ending) (w':World):Prop :=
 ∃ q c F' Fx l',e=.returned (zAa (rowT 5 (l.all.map (·.1)++[rowT 4 (l.items.map (·.1))])).d (.slice q (rowT 5 (l.all.map (·.1)++[rowT 4 (l.items.map (·.1))])).kids.length c))∧l'.group=l.group∧l'.behind=l.behind ∧
  Turned M w0 w (zBA og oc pre l F zs) [rowL (some ⟨og,0,none⟩) (pre.length+1) oc (pre++[l']),knL F' zs,knT Fx q c (rowT 5 (l.all.map (·.1)++[rowT 4 (l.items.map (·.1))])).kids] w'
theorem zIc (og oc:Nat) (pre:List LevM) (l:LevM) (F:Nat→Prop) (zs:List TV) (hn:pre.length≤1000000) (ha:l.all.length≤1000000) (hsub:∀ x,x ∈ l.items∨x ∈ l.all→x ∈ zs) (H0:HoldG M w0 w (zBA og oc pre l F zs)) :
  Calls Tryd.prog 23 #[.pointer (some ⟨og,pre.length * 7,none⟩)] w (zIT M w0 og oc pre l F zs w):=by
 have H:=H0.framed;clear H0;obtain⟨l1,hl1⟩:∃ l1,zBA og oc pre l F zs=l1:=⟨_,rfl⟩;obtain⟨rF,hrF⟩:∃ rF,zBN w l1=rF:=⟨_,rfl⟩;obtain⟨rS,hrS⟩:∃ rS,zCB w l1=rS:=⟨_,rfl⟩;rw[hl1,hrF,hrS,← hl1]at H;simp only[zBA,List.cons_append,List.nil_append]at H;have HR:=Lib.hid (And.intro hl1 (And.intro hrF hrS));clear hl1 hrF hrS;have HS:=Lib.hid hsub;clear hsub;have HA:=Lib.hid ha;clear ha;obtain⟨N,hNe⟩:∃ N,NewF w l1=N:=⟨_,rfl⟩
 have HNW:=Lib.hid (show ∀ (wc:World) (ls:List Res) (i:Nat),HoldG M w0 wc ls→At ls i (.kn rF rS)→∀ b,wc.heap.size≤b→N b from fun wc ls i H hi=>hNe ▸ H.newer hi HR.out.2.1)
 have HNO:=Lib.hid (show ∀ (wc:World) (ls:List Res) (i j:Nat) (r:Res),HoldG M w0 wc ls→At ls i (.kn rF rS)→At ls j r→j≠i→∀ b,r.place=some b→N b from fun wc ls i j r H hi hj hij=>hNe ▸ H.ownN hi hj hij HR.out.2.1)
 have HNF:=Lib.hid (show ∀ s ∈ l1,∀ b,s.foot b→N b from fun s hs b hb=>hNe ▸ .inl ⟨s,hs,hb⟩)
 have HNE:=Lib.hid hNe;clear hNe;obtain⟨t,ht⟩:∃ t,rowT 5 (l.all.map (·.1)++[rowT 4 (l.items.map (·.1))])=t:=⟨_,rfl⟩;unfold zIT;rw[ht];have HT:=Lib.hid ht;clear ht
 go_enter Tryd.func23,Tryd.ntmps23
 go_upto_region 2 with (first|(go_at_call 39;refine zNw (fun h=>zM1 og oc pre l F zs hn HA.out HS.out h) (H:HoldG M w0 _ (zBA og oc pre l F zs++_)) (N:=N) (fun b hb=>HNF.out (knL F zs) (by rw[← HR.out.1];simp[zBA]) b hb) (fun b hb=>HNF.out (rowN l.iq l.ic l.items) (by rw[← HR.out.1];simp[zBA]) b hb) (HNW.out _ _ 4 H i_4) ?_;clear H;intro w l4 x F' HL HF H)|((with_reducible refine gA ?_);(refine bA H ?_;clear H;intro b w H;try simp only[nr]at H)))
 simp only[zBA,List.cons_append,List.nil_append]at H;have e4:rowT 5 (l4.all.map (·.1))=t:=by rw[HL.out.1,← HT.out,List.map_append,List.map_cons,List.map_nil,HL.out.2.1]
 have hys:∀ y ∈ l4.all,y ∈ zs++[x]:=fun y hy=>by
  rw[HL.out.1]at hy;rcases List.mem_append.1 hy with h|h
  ·exact List.mem_append_left _ (HS.out y (.inr h))
  ·exact List.mem_append_right _ h
 have hAN:∀ b,(Value.slice l4.aq l4.all.length l4.ac).ownBlock=some b→N b:=HNO.out _ _ 4 3 _ H i_4 i_3 (by decide)
 replace H:=H.rowForestO (i:=3) i_3 rfl (K:=F') (Still.at (i:=1) i_1) (fun y hy=>H.kn (i:=1) i_1 y (hys y hy))
 clear hys;simp only[sc]at H;obtain⟨Gi,hGi⟩:∃ Gi:Nat→Prop,(fun b=>(Value.slice l4.aq l4.all.length l4.ac).ownBlock=some b∨F' b)=Gi:=⟨_,rfl⟩
 have HGN:=Lib.hid (show ∀ b,Gi b→N b from fun b hb=>by rw[← hGi]at hb;exact hb.elim (hAN b) (HF.out b));clear hAN
 rw[hGi]at H;clear hGi;have hrow:=fun W h1 h2=>zM4 5 l4.aq l4.ac l4.all.length Gi (l4.all.map (·.1)) W h1 h2 (by simp)
 rw[e4]at hrow;clear e4
 go_wp2_with (first|((with_reducible refine gL ?_);refine zAH wtd_ _ _ rfl rfl zAV (zCc H (i:=0) .zero 5) ?_)|(go_at_call 41;refine chTr (hrow _ (H.knlt (i:=3) i_3) (H.kn (i:=3) i_3)) H (Still.at (i:=3) i_3) (N:=N) (HNW.out _ _ 4 H i_4) HGN.out ?_;clear H;intro w q c Fx HX H;simp only[ca]at H)|((first|((with_reducible refine kgA 2 ?_);refine kA 2 H ?_)|((with_reducible refine kgX 2 ?_);(first|refine kS 2 H ?_|refine kB 2 H ?_)));clear H;intro b2 w H;try simp only[nr]at H)|((with_reducible refine gT ?_);(refine aT H ?_;clear H;intro w H;try simp only[nr]at H)))
 (refine xc Tryd.results23 H ?_)
 have H2:=H.also F' (fun V=>ListR V F' zs) (Still.at (i:=1) i_1) (fun V hV=>(show ListR _ F' zs from fun y hy=>H.kn (i:=1) i_1 y (List.mem_append_left _ hy)).kept hV)
 simp only[ca]at H2;obtain⟨h1,h2,h3⟩:=HR.out;refine⟨q,c,F',Fx,l4,rfl,HL.out.2.2.2.1,HL.out.2.2.2.2.1,?_⟩
 rw[← h2,← h3]at H2;rw[h1];refine Turned.of H2 (i:=4) i_4 [0,7,6] (by decide) (by decide) rfl (fun F2 S2 hm b hb=>?_)
 simp only[List.mem_cons,List.not_mem_nil,or_false,reduceCtorEq,false_or,Res.kn.injEq]at hm;have hb2:N b:=by
  rcases hm with ⟨rfl,_⟩|⟨rfl,_⟩
  ·exact HF.out b hb
  ·exact HX.out b hb
 rw[← HNE.out]at hb2;exact hb2
end
def zKo (nd:NodeD) (n0:Nat) (cs:Array Value) (T:TypeId) (v:Value) (W:World):Prop:=∃ u,v=zAa nd u∧zDw n0 cs T u W
theorem zFE (nd:NodeD) (n0:Nat) (cs:Array Value) (T:TypeId):zDZ (zKo nd n0 cs T):=fun v w w' ⟨u,e,h⟩ hb=>⟨u,e,zCD n0 cs T u w w' h hb⟩
theorem zMM (p:Option Addr) (n c:Nat) (lo hi:Int) (z:Bool) (W:World):(Instr.build 31 #[(0,.int .i64 6),(2,.slice p n c),(3,.int .i64 lo),(4,.int .i64 hi),(5,.bool z)]).run Tryd.prog W=.ok (zAa {kind:=6,lo:=lo,hi:=hi,lazy:=z} (.slice p n c)) W:=by kernel_rfl
theorem zNx {ops:Array Oper} {o:Oper} {a:Act} {w:World} {n0:Nat} {cs:Array Value} {T:TypeId} {D:Prop} {x y z q:Operand} {lo hi:Int} {b:Bool} (hg:Region.wanted o (yielded ops a.tmps)=true) (hop:o.op=Op.build 31 #[(0,.const (.int .i64 6)),(2,x),(3,y),(4,z),(5,q)])
  (h1:zDw n0 cs T (a.eval x) w) (h2:a.eval y=.int .i64 lo) (h3:a.eval z=.int .i64 hi) (h4:a.eval q=.bool b) (hD:¬ D:=by decide):zBK Tryd.prog ops o a w (fun v w'=>zKo {kind:=6,lo:=lo,hi:=hi,lazy:=b} n0 cs T v w'∧(D→w.heap.size≤blk v)):=by
 obtain⟨bk,e1,h1⟩:=h1;refine zC1 hg (v:=zAa {kind:=6,lo:=lo,hi:=hi,lazy:=b} (.slice (some ⟨bk,0,none⟩) 1 1)) (w':=w) ?_ (Below.refl _ w) ⟨⟨_,rfl,bk,rfl,h1⟩,fun h=>(hD h).elim⟩
 simp only[execOp,hop,List.map_toArray,List.map_cons,List.map_nil,e1,h2,h3,h4,Sem.run_bind];have:a.eval (.const (.int .i64 6))=.int .i64 6:=rfl;rw[this,zMM];rfl
theorem RdN.oneS {V:World} {bk:Nat} {cs:Array Value} {T:TypeId} (h:V.heap[bk]?=some (.cells cs T (0,0))):RdN cs.size V (·=bk) (.slice (some ⟨bk,0,none⟩) 1 1) [cs]:=by
 refine⟨_,1,rfl,Nat.le_refl _,by unfold maxLen;omega,(fun h=>by cases h),fun j r hj=>?_⟩
 have hj0:j=0:=by
  have:=(List.getElem?_eq_some_iff.1 hj).1;simp at this;exact this
 subst hj0;simp at hj;subst hj;refine⟨bk,0,rfl,rfl,rfl,fun k hk=>?_⟩
 rw[cell_of_row V bk _ cs T (0,0) h];simp
theorem zG7 {V:World} {F:Nat→Prop} {bk:Nat} {x:TV} {T:TypeId} (h:V.heap[bk]?=some (.cells (zAo x) T (0,0))) (hx:ForestR V F x.2.1 x.2.2 x.1.kids):ForestR V (fun b=>b=bk∨F b) (some ⟨bk,0,none⟩) 1 [x.1] :=
 .mk _ _ _ [x] ((RdN.oneS h).mono fun _ h=>.inl h) (fun y hy=>by rw[List.mem_singleton]at hy;subst hy;exact hx.mono fun _ h=>.inr h) rfl
theorem zLu (ys:List TV) (x x':TV) {cs:Array Value} (h:cs=zAo x'):zAc (((ys++[x]).map zAo).set ys.length cs)=zAc ((ys++[x']).map zAo):=by
 subst h
 congr 1
 rw[List.map_append,List.map_append];have:ys.length=(ys.map zAo).length:=(List.length_map ..).symm;rw[this,List.set_append_right _ _ (Nat.le_refl _),Nat.sub_self];rfl
def zKl (M:Nat→Prop) (w0:World) (pb:Nat) (lq:Option Addr) (ln lc last:Nat) (f:zAU) (g og oc:Nat) (pre:List LevM) (l:LevM) (F:Nat→Prop) (zs:List TV) (ys:List TV) (x:TV) (d:WordD) (w:World) (e:Ending) (w':World):Prop :=
 e=.returned (.tuple #[])∧∃ q c F',Turned M w0 w (putL pb lq ln lc last f g og oc pre l F zs) (putL pb lq ln lc last f g og oc pre {l with items:=ys++[(repT d x.1,q,c)]} F' (zs++[(repT d x.1,q,c)])) w'
section
variable {M:Nat→Prop} {w0 w:World} {pb:Nat} {lq:Option Addr} {ln lc last:Nat} {f:zAU} {g og oc:Nat} {pre:List LevM} {F:Nat→Prop} {zs:List TV}
theorem zNb {w':World} {l:LevM} {ys:List TV} {x:TV} {d:WordD} {l1:List Res} {rF:Nat→Prop} {rS:World→Prop} {gI bk:Nat} {A:Res} {T:TypeId} (h1:putL pb lq ln lc last f g og oc pre l F zs=l1) (h2:zBN w l1=rF) (h3:zCB w l1=rS) (hit:l.items=ys++[x]) (hil:l.items.length=ys.length+1) (hiq:l.iq=some ⟨gI,0,none⟩) (hx:x ∈ zs)
  (H:HoldG M w0 w' [blkP pb lq ln lc last f g (some ⟨og,0,none⟩) (pre.length+1) oc,rowL (some ⟨og,0,none⟩) (pre.length+1) oc (pre++[l]),knL F zs,.row (.slice (some ⟨gI,0,none⟩) (ys.length+1) l.ic) 31 10 (ys.length+1) (zAc (((ys++[x]).map zAo).set ys.length (zAQ {kind:=6,lo:=d.lo,hi:=d.hi,lazy:=d.lazy} (.slice (some ⟨bk,0,none⟩) 1 1)))),.kn rF rS,A,.blk bk (zAo x) T]) :
  zKl M w0 pb lq ln lc last f g og oc pre l F zs ys x d w (.returned (.tuple #[])) w':=by
 refine⟨rfl,some ⟨bk,0,none⟩,1,fun b=>F b∨b=bk,?_⟩
 have hbk:=(H.blk (i:=6) i_6).2
 have H3:=H.restG (i:=6) i_6 (fun b=>F b∨b=bk) (fun V=>ListR V (fun b=>F b∨b=bk) (zs++[(repT d x.1,some ⟨bk,0,none⟩,1)])) (fun b hb=>hb.elim (fun h=>.inr ⟨2,_,rfl,rfl,h⟩) (fun h=>.inl (by subst h;rfl))) (fun V hV=>ListR.append (((H.kn (i:=2) i_2).kept (fun b hb=>hV b (.inl hb))).mono fun _ h=>.inl h)
  (ListR.one ((zG7 ((hV bk (.inr rfl)).trans hbk) ((H.kn (i:=2) i_2 x hx).kept (fun b hb=>hV b (.inl hb)))).mono fun _ h=>h.symm)))
 simp only[sc]at H3;obtain⟨l',hl'⟩:∃ l':LevM,{l with items:=ys++[(repT d x.1,some ⟨bk,0,none⟩,1)]}=l':=⟨_,rfl⟩
 have e1:levC l=levC l':=by rw[← hl'];simp[levC,hil]
 have e2:rowL (some ⟨og,0,none⟩) (pre.length+1) oc (pre++[l])=rowL (some ⟨og,0,none⟩) (pre.length+1) oc (pre++[l']):=by
  unfold rowL;rw[List.map_append,List.map_append,List.map_cons,List.map_cons,List.map_nil,e1]
 rw[e2,zLu ys x (repT d x.1,some ⟨bk,0,none⟩,1) (cs:=zAQ {kind:=6,lo:=d.lo,hi:=d.hi,lazy:=d.lazy} (.slice (some ⟨bk,0,none⟩) 1 1)) rfl,← hiq,show ys.length+1=(ys++[((repT d x.1,some ⟨bk,0,none⟩,1):TV)]).length by simp,← h2,← h3]at H3
 rw[h1,hl'];refine Turned.of H3 (i:=4) i_4 [0,1,6,3] (by decide) (by decide) (by rw[← hl'];rfl) (fun F2 S2 hm b hb=>?_)
 simp only[putL,List.mem_cons,List.not_mem_nil,or_false,reduceCtorEq,false_or,Res.kn.injEq]at hm;obtain⟨rfl,_⟩:=hm;rw[← h1];rcases hb with h|h
 ·exact .inl ⟨knL F zs,by simp[putL],h⟩
 ·have hlt:=H.apart 6 4 _ _ (by decide) rfl rfl b (by rw[h];rfl)
  by_cases hw:b<w.heap.size
  ·refine .inl (Classical.byContradiction fun hno=>hlt ?_)
   rw[← h2,← h1];exact⟨hw,fun r hr e=>hno ⟨r,hr,Res.place_foot e⟩⟩
  ·exact .inr (by omega)
theorem zKy (d:WordD) (l:LevM) (ys:List TV) (x:TV) (hit:l.items=ys++[x]) (hb:zB8 last=false) (hn:pre.length≤1000000) (hi:l.items.length≤1000000) (hsub:∀ x ∈ l.items,x ∈ zs) (H0:HoldG M w0 w (putL pb lq ln lc last f g og oc pre l F zs)) :
  Calls Tryd.prog 40 #[.pointer (some ⟨pb,0,none⟩),zAk d] w (zKl M w0 pb lq ln lc last f g og oc pre l F zs ys x d w):=by
 have H:=H0.framed;clear H0;obtain⟨l1,hl1⟩:∃ l1,putL pb lq ln lc last f g og oc pre l F zs=l1:=⟨_,rfl⟩;obtain⟨rF,hrF⟩:∃ rF,zBN w l1=rF:=⟨_,rfl⟩;obtain⟨rS,hrS⟩:∃ rS,zCB w l1=rS:=⟨_,rfl⟩;rw[hl1,hrF,hrS,← hl1]at H;simp only[putL,List.cons_append,List.nil_append]at H;have HR:=Lib.hid (And.intro hl1 (And.intro hrF hrS));clear hl1 hrF hrS;have hz:x ∈ zs:=hsub x (by rw[hit];simp)
 have HZ:=Lib.hid hz;clear hz hsub;have hil:l.items.length=ys.length+1:=by rw[hit];simp
 obtain⟨q,cap,e,_,hc2,hq⟩:=H.rowShape (i:=3) i_3;obtain⟨gI,rfl⟩:=hq (by omega)
 have hiq:l.iq=some ⟨gI,0,none⟩:=by injection e
 have hrow:rowN l.iq l.ic l.items=.row (.slice (some ⟨gI,0,none⟩) (ys.length+1) l.ic) 31 10 (ys.length+1) (zAc ((ys++[x]).map zAo)):=by
  unfold rowN;rw[hil,hiq,hit]
 rw[hrow]at H;clear hrow;have hcell:∀ (W:World) (ls:List Res),HoldG M w0 W ls→At ls 1 (rowL (some ⟨og,0,none⟩) (pre.length+1) oc (pre++[l]))→W.cell? ⟨og,pre.length * 7+6,none⟩=some (.slice (some ⟨gI,0,none⟩) (ys.length+1) l.ic):=fun W ls H hi=>by
  rw[zCc H hi 6];simp[levC,hil,hiq]
 have hx:((ys++[x]).map zAo)[ys.length]?=some (zAo x):=by simp
 have hlen:((ys++[x]).map zAo).length=ys.length+1:=by simp
 have hnode:∀ (W:World) (ls:List Res),HoldG M w0 W ls→At ls 3 (.row (.slice (some ⟨gI,0,none⟩) (ys.length+1) l.ic) 31 10 (ys.length+1) (zAc ((ys++[x]).map zAo)))→∀ k,k<10→W.cell? ⟨gI,ys.length * 10+k,none⟩=(zAo x)[k]?:=fun W ls H hi=>H.rowCell hi (zBh _) hlen hx rfl
 have HL:=Lib.hid hlen;clear hlen hx;have hy:ys.length≤1000000:=by omega
 have HIT:=Lib.hid hit;clear hit hi;have HIL:=Lib.hid hil;clear hil;have HIQ:=Lib.hid hiq;clear hiq e hq hc2;have hbare:∀ W:World,pb<W.heap.size→W.cell? ⟨pb,1,none⟩=some (.int .i64 last)→Calls Tryd.prog 49 #[.pointer (some ⟨pb,0,none⟩)] W fun e w'=>e=.returned (.bool false)∧Below W.heap.size W w':=fun W h1 h2=>hb ▸ zLN pb last W h1 h2
 clear hb
 go_enter Tryd.func40,Tryd.ntmps40
 go_upto_region 1 with (first|((first|((with_reducible refine kgA 3 ?_);refine kA 3 H ?_)|((with_reducible refine kgX 3 ?_);(first|refine kS 3 H ?_|refine kB 3 H ?_)));clear H;intro b3 w H;try simp only[nr]at H)|(first|((with_reducible refine gL (T:=57) ?_);refine zAX wtd_ _ _ rfl rfl H atd_ (by with_reducible exact zAD) rfl ?_)|((with_reducible refine gL (T:=85) ?_);refine zAX wtd_ _ _ rfl rfl H atd_ (by with_reducible exact zAE) rfl ?_)|((with_reducible refine gT (T:=57) ?_);refine zAK wtd_ _ _ _ rfl rfl evd_ H atd_ rfl (by first|(simp;done)|(simp[zAg,zAQ];done)) (by with_reducible exact zAC zAD) ?_;clear H;intro w H;try simp only[nr]at H)|((with_reducible refine gT (T:=85) ?_);refine zAK wtd_ _ _ _ rfl rfl evd_ H atd_ rfl (by first|(simp;done)|(simp[zAg,zAQ];done)) (by with_reducible exact zAC zAE) ?_;clear H;intro w H;try simp only[nr]at H)|((with_reducible refine gT ?_);(first|((first|refine aS H ?_|refine aW H ?_|refine aO H ?_|refine aT H ?_);clear H;intro w H;try simp only[nr]at H)|(refine aN H ?_;clear H;intro w H;(try simp only[nr]at H);try simp only[zBE,nrl]at H)))|((with_reducible refine gL ?_);(first|refine aV H ?_|refine aL H ?_|refine aVn H ?_|refine aGb H ?_|refine aG H ?_|refine aD H ?_))|((with_reducible refine gX ?_);((first|refine bS H ?_|refine bB H ?_);clear H;intro b w H;try simp only[nr]at H))|((with_reducible refine gA ?_);(refine bA H ?_;clear H;intro b w H;try simp only[nr]at H))|((with_reducible refine gZ ?_);refine nb0 ?_)|((with_reducible refine gZ ?_);refine nb1 ?_)|((with_reducible refine gZ ?_);(refine nbS ?_;(try simp only[pl])))|((with_reducible refine gZ ?_);refine nbK ?_)|((with_reducible refine gZ ?_);refine nbG ?_)|((with_reducible refine gZ ?_);refine nbR ?_)|((with_reducible refine gZ ?_);refine nbA ?_)|((with_reducible refine gZ ?_);refine fb3 ?_)|((with_reducible refine gES ?_);(refine qS ?_;(try simp only[pl])))|((with_reducible refine gNS ?_);(refine qN ?_;(try simp only[pl])))|((with_reducible refine gZ ?_);(refine aZ ?_;(try simp only[pl])))|((with_reducible refine gI ?_);refine aI ?_)|((with_reducible refine gC ?_);refine aC ?_)|((with_reducible refine gF ?_);refine aF ?_)|((with_reducible refine gU ?_);refine aU ?_)|((with_reducible refine gE ?_);(refine aE ?_;(try simp only[pl])))|((with_reducible refine gQ ?_);(refine aQ ?_;(try simp only[pl])))))
 refine wr_ 8 [fun v _=>v=pt pb 0,fun v _=>v=pt pb 0,fun v _=>v=pt pb 0,fun v _=>v=.bool false,fun v _=>v=.bool true,fun v _=>v=pt b3 1,fun v _=>v=.int .i64 d.place,fun v _=>v=.tuple #[]] ?ob ?en
 case ob =>
  refine⟨?_,?_,?_,?_,?_,?_,?_,?_,trivial⟩<;>intro A W h
  ·exact zAY rfl rfl (h.f 0)
  ·(have e5:A.eval (.tmp 5)=.pointer (some ⟨pb,0,none⟩):=h.d 0 5;refine zAB rfl ?_;simp only[execOp,e5];(simp[go_sem]<;>first|done|omega|(rw[IntKind.wrap_i64];omega)|(rw[IntKind.wrap_u8];omega)|(rw[IntKind.wrap_u64];omega)))
  ·(have e6:A.eval (.tmp 6)=.pointer (some ⟨pb,0,none⟩):=h.d 1 6;refine zAB rfl ?_;simp only[execOp,e6];(simp[go_sem]<;>first|done|omega|(rw[IntKind.wrap_i64];omega)|(rw[IntKind.wrap_u8];omega)|(rw[IntKind.wrap_u64];omega)))
  ·exact zCN rfl rfl (enters_of Tryd.func49 (by kernel_rfl) rfl) (zCC (h.d 2 7)) (hbare W (Array.getElem?_eq_some_iff.1 ((H.call h.below).blk .zero).2).1 ((H.call h.below).cell .zero 1))
  ·(have e8:A.eval (.tmp 8)=.bool false:=h.d 3 8;refine zAB rfl ?_;simp only[execOp,e8];(simp[go_sem]<;>first|done|omega|(rw[IntKind.wrap_i64];omega)|(rw[IntKind.wrap_u8];omega)|(rw[IntKind.wrap_u64];omega)))
  ·(have e3:A.eval (.tmp 3)=.pointer (some ⟨b3,0,none⟩):=h.f 3;refine zAB rfl ?_;simp only[execOp,e3];(simp[go_sem]<;>first|done|omega|(rw[IntKind.wrap_i64];omega)|(rw[IntKind.wrap_u8];omega)|(rw[IntKind.wrap_u64];omega)))
  ·exact zAB rfl (zAL rfl (h.d 5 10) (by first|(with_reducible exact zAJ)|(with_reducible exact one_u8)|(with_reducible exact zAZ)|(with_reducible exact zAh)|(with_reducible exact zAe)|(with_reducible exact one_u64)|(with_reducible exact zAV)|(with_reducible exact zAN)|(with_reducible exact zAR)|(with_reducible exact zAM)|(with_reducible exact zAD)|(with_reducible exact zAE)) ((H.call h.below).cell (i:=5) i_5 1)) (by decide)
  ·exact zCN rfl rfl (enters_of Tryd.func21 (by kernel_rfl) rfl) (zOI ⟨(h.d 4 9),(h.d 6 11),rfl⟩) (zCi _ _ W)
 case en =>
  intro vals W hbw hv _;simp only[fa,Nat.reduceAdd];rw[e_ hv 0,e_ hv 1,e_ hv 2,e_ hv 3,e_ hv 4,e_ hv 5,e_ hv 6,e_ hv 7];clear hv
  try simp only[pl]
  replace H:=H.call hbw;clear hbw
  go_upto_region 3 with (first|(go_at_call 22;refine zLh (zEr pb og pre.length oc _ (Array.getElem?_eq_some_iff.1 (H.blk .zero).2).1 hn (H.cell .zero 6)) H ?_;clear H;intro w H)|((with_reducible refine gL ?_);refine zAH wtd_ _ _ rfl rfl zAV (hcell _ _ H i_1) ?_)|(first|((with_reducible refine gL (T:=57) ?_);refine zAX wtd_ _ _ rfl rfl H atd_ (by with_reducible exact zAD) rfl ?_)|((with_reducible refine gL (T:=85) ?_);refine zAX wtd_ _ _ rfl rfl H atd_ (by with_reducible exact zAE) rfl ?_)|((with_reducible refine gT (T:=57) ?_);refine zAK wtd_ _ _ _ rfl rfl evd_ H atd_ rfl (by first|(simp;done)|(simp[zAg,zAQ];done)) (by with_reducible exact zAC zAD) ?_;clear H;intro w H;try simp only[nr]at H)|((with_reducible refine gT (T:=85) ?_);refine zAK wtd_ _ _ _ rfl rfl evd_ H atd_ rfl (by first|(simp;done)|(simp[zAg,zAQ];done)) (by with_reducible exact zAC zAE) ?_;clear H;intro w H;try simp only[nr]at H)|((with_reducible refine gT ?_);(first|((first|refine aS H ?_|refine aW H ?_|refine aO H ?_|refine aT H ?_);clear H;intro w H;try simp only[nr]at H)|(refine aN H ?_;clear H;intro w H;(try simp only[nr]at H);try simp only[zBE,nrl]at H)))|((with_reducible refine gL ?_);(first|refine aV H ?_|refine aL H ?_|refine aVn H ?_|refine aGb H ?_|refine aG H ?_|refine aD H ?_))|((with_reducible refine gX ?_);((first|refine bS H ?_|refine bB H ?_);clear H;intro b w H;try simp only[nr]at H))|((with_reducible refine gA ?_);(refine bA H ?_;clear H;intro b w H;try simp only[nr]at H))|((with_reducible refine gZ ?_);refine nb0 ?_)|((with_reducible refine gZ ?_);refine nb1 ?_)|((with_reducible refine gZ ?_);(refine nbS ?_;(try simp only[pl])))|((with_reducible refine gZ ?_);refine nbK ?_)|((with_reducible refine gZ ?_);refine nbG ?_)|((with_reducible refine gZ ?_);refine nbR ?_)|((with_reducible refine gZ ?_);refine nbA ?_)|((with_reducible refine gZ ?_);refine fb3 ?_)|((with_reducible refine gES ?_);(refine qS ?_;(try simp only[pl])))|((with_reducible refine gNS ?_);(refine qN ?_;(try simp only[pl])))|((with_reducible refine gZ ?_);(refine aZ ?_;(try simp only[pl])))|((with_reducible refine gI ?_);refine aI ?_)|((with_reducible refine gC ?_);refine aC ?_)|((with_reducible refine gF ?_);refine aF ?_)|((with_reducible refine gU ?_);refine aU ?_)|((with_reducible refine gE ?_);(refine aE ?_;(try simp only[pl])))|((with_reducible refine gQ ?_);(refine aQ ?_;(try simp only[pl])))))
  refine zCH 19 [fun v _=>v=.slice (some ⟨gI,0,none⟩) (ys.length+1) l.ic,fun v _=>v=.slice (some ⟨gI,0,none⟩) (ys.length+1) l.ic,fun v _=>v=.int .i64 ((ys.length+1:Nat):Int),fun v _=>v=.int .i64 (ys.length:Int),fun v _=>v=.slice (some ⟨gI,0,none⟩) (ys.length+1) l.ic,fun v _=>v=.slice (some ⟨gI,0,none⟩) (ys.length+1) l.ic,fun v _=>v=.int .i64 ((ys.length+1:Nat):Int),fun v _=>v=.int .i64 (ys.length:Int),fun v _=>v=.pointer (some ⟨gI,ys.length * 10,none⟩),fun v _=>v=.agg (zAo x),zDw w.heap.size (zAo x) 31,fun v _=>v=pt b3 8,fun v _=>v=.int .i64 d.lo,fun v _=>v=pt b3 9,fun v _=>v=.int .i64 d.hi,fun v _=>v=pt b3 10,fun v _=>v=.bool d.lazy,zKo {kind:=6,lo:=d.lo,hi:=d.hi,lazy:=d.lazy} w.heap.size (zAo x) 31,fun v _=>v=.pointer (some ⟨gI,ys.length * 10,none⟩)] (fun _=>false) (by kernel_rfl) (by kernel_rfl) (by kernel_rfl) (by repeat (first|exact trivial|refine⟨zBL _,?_⟩|refine⟨zCD _ _ _,?_⟩|refine⟨zFE _ _ _ _,?_⟩)) (fun _ _ h=>by cases h) ?ob ?en
  case ob =>
   refine⟨?_,?_,?_,?_,?_,?_,?_,?_,?_,?_,?_,?_,?_,?_,?_,?_,?_,?_,?_,trivial⟩<;>intro A W h
   ·exact zAY rfl rfl (h.f 4)
   ·exact zAY rfl rfl (h.f 4)
   ·exact zFJ Tryd.underlying29 rfl rfl (h.d 1 19)
   ·(have e20:A.eval (.tmp 20)=.int .i64 ((ys.length+1:Nat):Int):=h.d 2 20;refine zAB rfl ?_;simp only[execOp,e20];(simp[go_sem]<;>first|done|omega|(rw[IntKind.wrap_i64];omega)|(rw[IntKind.wrap_u8];omega)|(rw[IntKind.wrap_u64];omega)))
   ·exact zAY rfl rfl (h.f 4)
   ·exact zAY rfl rfl (h.f 4)
   ·exact zFJ Tryd.underlying29 rfl rfl (h.d 5 23)
   ·(have e24:A.eval (.tmp 24)=.int .i64 ((ys.length+1:Nat):Int):=h.d 6 24;refine zAB rfl ?_;simp only[execOp,e24];(simp[go_sem]<;>first|done|omega|(rw[IntKind.wrap_i64];omega)|(rw[IntKind.wrap_u8];omega)|(rw[IntKind.wrap_u64];omega)))
   ·exact zHy (sz:=10) Tryd.underlying29 (fun w=>by kernel_rfl) rfl rfl (h.d 4 22) (h.d 7 25) (by omega) (by omega)
   ·exact zAB rfl (zCI rfl (h.d 8 26) zAW (zBQ x) (hnode _ _ (H.call h.below) i_3)) (by decide)
   ·exact zHs rfl rfl (h.d 9 27) (fun W=>zEN _ _ W) h.below.size (by decide)
   ·(have e3:A.eval (.tmp 3)=.pointer (some ⟨b3,0,none⟩):=h.f 3;refine zAB rfl ?_;simp only[execOp,e3];(simp[go_sem]<;>first|done|omega|(rw[IntKind.wrap_i64];omega)|(rw[IntKind.wrap_u8];omega)|(rw[IntKind.wrap_u64];omega)))
   ·exact zAB rfl (zAL rfl (h.d 11 29) (by first|(with_reducible exact zAJ)|(with_reducible exact one_u8)|(with_reducible exact zAZ)|(with_reducible exact zAh)|(with_reducible exact zAe)|(with_reducible exact one_u64)|(with_reducible exact zAV)|(with_reducible exact zAN)|(with_reducible exact zAR)|(with_reducible exact zAM)|(with_reducible exact zAD)|(with_reducible exact zAE)) ((H.call h.below).cell (i:=5) i_5 8)) (by decide)
   ·(have e3:A.eval (.tmp 3)=.pointer (some ⟨b3,0,none⟩):=h.f 3;refine zAB rfl ?_;simp only[execOp,e3];(simp[go_sem]<;>first|done|omega|(rw[IntKind.wrap_i64];omega)|(rw[IntKind.wrap_u8];omega)|(rw[IntKind.wrap_u64];omega)))
   ·exact zAB rfl (zAL rfl (h.d 13 31) (by first|(with_reducible exact zAJ)|(with_reducible exact one_u8)|(with_reducible exact zAZ)|(with_reducible exact zAh)|(with_reducible exact zAe)|(with_reducible exact one_u64)|(with_reducible exact zAV)|(with_reducible exact zAN)|(with_reducible exact zAR)|(with_reducible exact zAM)|(with_reducible exact zAD)|(with_reducible exact zAE)) ((H.call h.below).cell (i:=5) i_5 9)) (by decide)
   ·(have e3:A.eval (.tmp 3)=.pointer (some ⟨b3,0,none⟩):=h.f 3;refine zAB rfl ?_;simp only[execOp,e3];(simp[go_sem]<;>first|done|omega|(rw[IntKind.wrap_i64];omega)|(rw[IntKind.wrap_u8];omega)|(rw[IntKind.wrap_u64];omega)))
   ·exact zAB rfl (zAL rfl (h.d 15 33) (by first|(with_reducible exact zAJ)|(with_reducible exact one_u8)|(with_reducible exact zAZ)|(with_reducible exact zAh)|(with_reducible exact zAe)|(with_reducible exact one_u64)|(with_reducible exact zAV)|(with_reducible exact zAN)|(with_reducible exact zAR)|(with_reducible exact zAM)|(with_reducible exact zAD)|(with_reducible exact zAE)) ((H.call h.below).cell (i:=5) i_5 10)) (by decide)
   ·exact zNx rfl rfl (h.d 10 28) (h.d 12 30) (h.d 14 32) (h.d 16 34) (by decide)
   ·exact zHy (sz:=10) Tryd.underlying29 (fun w=>by kernel_rfl) rfl rfl (h.d 0 18) (h.d 3 21) (by omega) (by omega)
  case en =>
   intro vals W hbw hv _;have x10:=hv 10 (by omega);simp only[zAq]at x10
   have x17:=hv 17 (by omega);simp only[zAq]at x17
   simp only[fa,Nat.reduceAdd];rw[e_ hv 0,e_ hv 1,e_ hv 2,e_ hv 3,e_ hv 4,e_ hv 5,e_ hv 6,e_ hv 7,e_ hv 8,e_ hv 9,e_ hv 11,e_ hv 12,e_ hv 13,e_ hv 14,e_ hv 15,e_ hv 16,e_ hv 18];clear hv
   try simp only[pl]
   obtain⟨u,e17,h17⟩:=x17;obtain⟨bk,rfl,H2⟩:=H.gainS hbw h17;rw[e17];clear x10 e17 h17 hbw H;have H:=H2;clear H2;simp only[ca]at H
   try simp only[pl]
   go_wp2_with (first|((with_reducible refine gT ?_);refine zBg wtd_ _ _ _ rfl rfl (i:=ys.length) rfl evd_ H (j:=3) i_3 (zBh _) HL.out (by with_reducible exact zA3 zAW) rfl rfl (by omega) ?_;clear H;intro w H;try simp only[nr]at H)|(first|((with_reducible refine gL (T:=57) ?_);refine zAX wtd_ _ _ rfl rfl H atd_ (by with_reducible exact zAD) rfl ?_)|((with_reducible refine gL (T:=85) ?_);refine zAX wtd_ _ _ rfl rfl H atd_ (by with_reducible exact zAE) rfl ?_)|((with_reducible refine gT (T:=57) ?_);refine zAK wtd_ _ _ _ rfl rfl evd_ H atd_ rfl (by first|(simp;done)|(simp[zAg,zAQ];done)) (by with_reducible exact zAC zAD) ?_;clear H;intro w H;try simp only[nr]at H)|((with_reducible refine gT (T:=85) ?_);refine zAK wtd_ _ _ _ rfl rfl evd_ H atd_ rfl (by first|(simp;done)|(simp[zAg,zAQ];done)) (by with_reducible exact zAC zAE) ?_;clear H;intro w H;try simp only[nr]at H)|((with_reducible refine gT ?_);(first|((first|refine aS H ?_|refine aW H ?_|refine aO H ?_|refine aT H ?_);clear H;intro w H;try simp only[nr]at H)|(refine aN H ?_;clear H;intro w H;(try simp only[nr]at H);try simp only[zBE,nrl]at H)))|((with_reducible refine gL ?_);(first|refine aV H ?_|refine aL H ?_|refine aVn H ?_|refine aGb H ?_|refine aG H ?_|refine aD H ?_))|((with_reducible refine gX ?_);((first|refine bS H ?_|refine bB H ?_);clear H;intro b w H;try simp only[nr]at H))|((with_reducible refine gA ?_);(refine bA H ?_;clear H;intro b w H;try simp only[nr]at H))|((with_reducible refine gZ ?_);refine nb0 ?_)|((with_reducible refine gZ ?_);refine nb1 ?_)|((with_reducible refine gZ ?_);(refine nbS ?_;(try simp only[pl])))|((with_reducible refine gZ ?_);refine nbK ?_)|((with_reducible refine gZ ?_);refine nbG ?_)|((with_reducible refine gZ ?_);refine nbR ?_)|((with_reducible refine gZ ?_);refine nbA ?_)|((with_reducible refine gZ ?_);refine fb3 ?_)|((with_reducible refine gES ?_);(refine qS ?_;(try simp only[pl])))|((with_reducible refine gNS ?_);(refine qN ?_;(try simp only[pl])))|((with_reducible refine gZ ?_);(refine aZ ?_;(try simp only[pl])))|((with_reducible refine gI ?_);refine aI ?_)|((with_reducible refine gC ?_);refine aC ?_)|((with_reducible refine gF ?_);refine aF ?_)|((with_reducible refine gU ?_);refine aU ?_)|((with_reducible refine gE ?_);(refine aE ?_;(try simp only[pl])))|((with_reducible refine gQ ?_);(refine aQ ?_;(try simp only[pl])))))
   exact⟨rfl,.tuple #[],resE rfl,zNb HR.out.1 HR.out.2.1 HR.out.2.2 HIT.out HIL.out HIQ.out HZ.out H⟩
end
theorem chP {M:Nat→Prop} {P:Program} {f:FuncId} {args:Array Value} {w w0:World} {l:List Res} {R:Ending→World→Prop} {p:List PanicEntry} (c:Calls P f args w fun e w'=>e=.panicked p∧Below w.heap.size w w') (H:HoldG M w0 w l) (k:∀ w',HoldG M w0 w' l→R (.panicked p) w'):Calls P f args w R:=c.mono fun _ w' h=>by
 obtain⟨rfl,hb⟩:=h;exact k w' (H.call hb)
theorem zJl (pb a:Nat) (og:Option Addr) (oc:Nat) (w0:World) (hpb:pb<w0.heap.size) (h:w0.cell? ⟨pb,6,none⟩=some (.slice og 1 oc)) :
  Calls Tryd.prog 38 #[.pointer (some ⟨pb,0,none⟩),.int .i64 a] w0 fun e w'=>e=.panicked (zCw a 4)∧Below w0.heap.size w0 w':=by
 have H:=(Hold.start w0).know (·=pb) (fun V=>V.cell? ⟨pb,6,none⟩=some (.slice og 1 oc)) (fun b hb=>by rw[hb];exact hpb) (fun i r h=>by simp at h) (fun V hV=>by rw[← h];simp[World.cell?,hV pb rfl])
 simp only[List.nil_append]at H;clear h
 go_enter Tryd.func38,Tryd.ntmps38
 go_wp2_with (first|((with_reducible refine gL ?_);refine zAH wtd_ _ _ rfl rfl zAD (H.kn (i:=0) .zero) ?_)|(go_at_call 21;refine chP (zDE a 4 _) H ?_;clear H;intro w H)|(first|((with_reducible refine gL (T:=57) ?_);refine zAX wtd_ _ _ rfl rfl H atd_ (by with_reducible exact zAD) rfl ?_)|((with_reducible refine gL (T:=85) ?_);refine zAX wtd_ _ _ rfl rfl H atd_ (by with_reducible exact zAE) rfl ?_)|((with_reducible refine gT (T:=57) ?_);refine zAK wtd_ _ _ _ rfl rfl evd_ H atd_ rfl (by first|(simp;done)|(simp[zAg,zAQ];done)) (by with_reducible exact zAC zAD) ?_;clear H;intro w H;try simp only[nr]at H)|((with_reducible refine gT (T:=85) ?_);refine zAK wtd_ _ _ _ rfl rfl evd_ H atd_ rfl (by first|(simp;done)|(simp[zAg,zAQ];done)) (by with_reducible exact zAC zAE) ?_;clear H;intro w H;try simp only[nr]at H)|((with_reducible refine gT ?_);(first|((first|refine aS H ?_|refine aW H ?_|refine aO H ?_|refine aT H ?_);clear H;intro w H;try simp only[nr]at H)|(refine aN H ?_;clear H;intro w H;(try simp only[nr]at H);try simp only[zBE,nrl]at H)))|((with_reducible refine gL ?_);(first|refine aV H ?_|refine aL H ?_|refine aVn H ?_|refine aGb H ?_|refine aG H ?_|refine aD H ?_))|((with_reducible refine gX ?_);((first|refine bS H ?_|refine bB H ?_);clear H;intro b w H;try simp only[nr]at H))|((with_reducible refine gA ?_);(refine bA H ?_;clear H;intro b w H;try simp only[nr]at H))|((with_reducible refine gZ ?_);refine nb0 ?_)|((with_reducible refine gZ ?_);refine nb1 ?_)|((with_reducible refine gZ ?_);(refine nbS ?_;(try simp only[pl])))|((with_reducible refine gZ ?_);refine nbK ?_)|((with_reducible refine gZ ?_);refine nbG ?_)|((with_reducible refine gZ ?_);refine nbR ?_)|((with_reducible refine gZ ?_);refine nbA ?_)|((with_reducible refine gZ ?_);refine fb3 ?_)|((with_reducible refine gES ?_);(refine qS ?_;(try simp only[pl])))|((with_reducible refine gNS ?_);(refine qN ?_;(try simp only[pl])))|((with_reducible refine gZ ?_);(refine aZ ?_;(try simp only[pl])))|((with_reducible refine gI ?_);refine aI ?_)|((with_reducible refine gC ?_);refine aC ?_)|((with_reducible refine gF ?_);refine aF ?_)|((with_reducible refine gU ?_);refine aU ?_)|((with_reducible refine gE ?_);(refine aE ?_;(try simp only[pl])))|((with_reducible refine gQ ?_);(refine aQ ?_;(try simp only[pl])))))
 exact⟨rfl,rfl,H.below⟩
theorem zH6 (pb last:Nat) (d:WordD) (w0:World) (hpb:pb<w0.heap.size) (hb:zB8 last=true) (h:w0.cell? ⟨pb,1,none⟩=some (.int .i64 last)) :
  Calls Tryd.prog 40 #[.pointer (some ⟨pb,0,none⟩),zAk d] w0 fun e w'=>e=.panicked (zCw d.place 4)∧Below w0.heap.size w0 w':=by
 have H:=(Hold.start w0).know (·=pb) (fun V=>V.cell? ⟨pb,1,none⟩=some (.int .i64 last)) (fun b hb=>by rw[hb];exact hpb) (fun i r h=>by simp at h) (fun V hV=>by rw[← h];simp[World.cell?,hV pb rfl])
 simp only[List.nil_append]at H;clear h;have hbare:∀ W:World,pb<W.heap.size→W.cell? ⟨pb,1,none⟩=some (.int .i64 last)→Calls Tryd.prog 49 #[.pointer (some ⟨pb,0,none⟩)] W fun e w'=>e=.returned (.bool true)∧Below W.heap.size W w':=fun W h1 h2=>hb ▸ zLN pb last W h1 h2
 clear hb
 go_enter Tryd.func40,Tryd.ntmps40
 go_upto_region 1 with (first|((first|((with_reducible refine kgA 3 ?_);refine kA 3 H ?_)|((with_reducible refine kgX 3 ?_);(first|refine kS 3 H ?_|refine kB 3 H ?_)));clear H;intro b3 w H;try simp only[nr]at H)|(first|((with_reducible refine gL (T:=57) ?_);refine zAX wtd_ _ _ rfl rfl H atd_ (by with_reducible exact zAD) rfl ?_)|((with_reducible refine gL (T:=85) ?_);refine zAX wtd_ _ _ rfl rfl H atd_ (by with_reducible exact zAE) rfl ?_)|((with_reducible refine gT (T:=57) ?_);refine zAK wtd_ _ _ _ rfl rfl evd_ H atd_ rfl (by first|(simp;done)|(simp[zAg,zAQ];done)) (by with_reducible exact zAC zAD) ?_;clear H;intro w H;try simp only[nr]at H)|((with_reducible refine gT (T:=85) ?_);refine zAK wtd_ _ _ _ rfl rfl evd_ H atd_ rfl (by first|(simp;done)|(simp[zAg,zAQ];done)) (by with_reducible exact zAC zAE) ?_;clear H;intro w H;try simp only[nr]at H)|((with_reducible refine gT ?_);(first|((first|refine aS H ?_|refine aW H ?_|refine aO H ?_|refine aT H ?_);clear H;intro w H;try simp only[nr]at H)|(refine aN H ?_;clear H;intro w H;(try simp only[nr]at H);try simp only[zBE,nrl]at H)))|((with_reducible refine gL ?_);(first|refine aV H ?_|refine aL H ?_|refine aVn H ?_|refine aGb H ?_|refine aG H ?_|refine aD H ?_))|((with_reducible refine gX ?_);((first|refine bS H ?_|refine bB H ?_);clear H;intro b w H;try simp only[nr]at H))|((with_reducible refine gA ?_);(refine bA H ?_;clear H;intro b w H;try simp only[nr]at H))|((with_reducible refine gZ ?_);refine nb0 ?_)|((with_reducible refine gZ ?_);refine nb1 ?_)|((with_reducible refine gZ ?_);(refine nbS ?_;(try simp only[pl])))|((with_reducible refine gZ ?_);refine nbK ?_)|((with_reducible refine gZ ?_);refine nbG ?_)|((with_reducible refine gZ ?_);refine nbR ?_)|((with_reducible refine gZ ?_);refine nbA ?_)|((with_reducible refine gZ ?_);refine fb3 ?_)|((with_reducible refine gES ?_);(refine qS ?_;(try simp only[pl])))|((with_reducible refine gNS ?_);(refine qN ?_;(try simp only[pl])))|((with_reducible refine gZ ?_);(refine aZ ?_;(try simp only[pl])))|((with_reducible refine gI ?_);refine aI ?_)|((with_reducible refine gC ?_);refine aC ?_)|((with_reducible refine gF ?_);refine aF ?_)|((with_reducible refine gU ?_);refine aU ?_)|((with_reducible refine gE ?_);(refine aE ?_;(try simp only[pl])))|((with_reducible refine gQ ?_);(refine aQ ?_;(try simp only[pl])))))
 refine wr_ 7 [fun v _=>v=pt pb 0,fun v _=>v=pt pb 0,fun v _=>v=pt pb 0,fun v _=>v=.bool true,fun v _=>v=.bool false,fun v _=>v=pt b3 1,fun v _=>v=.int .i64 d.place] ?ob ?en
 case ob =>
  refine⟨?_,?_,?_,?_,?_,?_,?_,trivial⟩<;>intro A W h
  ·exact zAY rfl rfl (h.f 0)
  ·(have e5:A.eval (.tmp 5)=.pointer (some ⟨pb,0,none⟩):=h.d 0 5;refine zAB rfl ?_;simp only[execOp,e5];(simp[go_sem]<;>first|done|omega|(rw[IntKind.wrap_i64];omega)|(rw[IntKind.wrap_u8];omega)|(rw[IntKind.wrap_u64];omega)))
  ·(have e6:A.eval (.tmp 6)=.pointer (some ⟨pb,0,none⟩):=h.d 1 6;refine zAB rfl ?_;simp only[execOp,e6];(simp[go_sem]<;>first|done|omega|(rw[IntKind.wrap_i64];omega)|(rw[IntKind.wrap_u8];omega)|(rw[IntKind.wrap_u64];omega)))
  ·exact zCN rfl rfl (enters_of Tryd.func49 (by kernel_rfl) rfl) (zCC (h.d 2 7)) (hbare W ((H.call h.below).knlt .zero pb rfl) ((H.call h.below).kn (i:=0) .zero))
  ·(have e8:A.eval (.tmp 8)=.bool true:=h.d 3 8;refine zAB rfl ?_;simp only[execOp,e8];(simp[go_sem]<;>first|done|omega|(rw[IntKind.wrap_i64];omega)|(rw[IntKind.wrap_u8];omega)|(rw[IntKind.wrap_u64];omega)))
  ·(have e3:A.eval (.tmp 3)=.pointer (some ⟨b3,0,none⟩):=h.f 3;refine zAB rfl ?_;simp only[execOp,e3];(simp[go_sem]<;>first|done|omega|(rw[IntKind.wrap_i64];omega)|(rw[IntKind.wrap_u8];omega)|(rw[IntKind.wrap_u64];omega)))
  ·exact zAB rfl (zAL rfl (h.d 5 10) (by first|(with_reducible exact zAJ)|(with_reducible exact one_u8)|(with_reducible exact zAZ)|(with_reducible exact zAh)|(with_reducible exact zAe)|(with_reducible exact one_u64)|(with_reducible exact zAV)|(with_reducible exact zAN)|(with_reducible exact zAR)|(with_reducible exact zAM)|(with_reducible exact zAD)|(with_reducible exact zAE)) ((H.call h.below).cell (i:=1) i_1 1)) (by decide)
 case en =>
  intro vals W hbw hv _;simp only[fa,Nat.reduceAdd];rw[e_ hv 0,e_ hv 1,e_ hv 2,e_ hv 3,e_ hv 4,e_ hv 5,e_ hv 6];clear hv
  try simp only[pl]
  replace H:=H.call hbw;clear hbw
  go_wp2_with (first|(go_at_call 21;refine chP (zDE d.place 4 _) H ?_;clear H;intro w H)|(first|((with_reducible refine gL (T:=57) ?_);refine zAX wtd_ _ _ rfl rfl H atd_ (by with_reducible exact zAD) rfl ?_)|((with_reducible refine gL (T:=85) ?_);refine zAX wtd_ _ _ rfl rfl H atd_ (by with_reducible exact zAE) rfl ?_)|((with_reducible refine gT (T:=57) ?_);refine zAK wtd_ _ _ _ rfl rfl evd_ H atd_ rfl (by first|(simp;done)|(simp[zAg,zAQ];done)) (by with_reducible exact zAC zAD) ?_;clear H;intro w H;try simp only[nr]at H)|((with_reducible refine gT (T:=85) ?_);refine zAK wtd_ _ _ _ rfl rfl evd_ H atd_ rfl (by first|(simp;done)|(simp[zAg,zAQ];done)) (by with_reducible exact zAC zAE) ?_;clear H;intro w H;try simp only[nr]at H)|((with_reducible refine gT ?_);(first|((first|refine aS H ?_|refine aW H ?_|refine aO H ?_|refine aT H ?_);clear H;intro w H;try simp only[nr]at H)|(refine aN H ?_;clear H;intro w H;(try simp only[nr]at H);try simp only[zBE,nrl]at H)))|((with_reducible refine gL ?_);(first|refine aV H ?_|refine aL H ?_|refine aVn H ?_|refine aGb H ?_|refine aG H ?_|refine aD H ?_))|((with_reducible refine gX ?_);((first|refine bS H ?_|refine bB H ?_);clear H;intro b w H;try simp only[nr]at H))|((with_reducible refine gA ?_);(refine bA H ?_;clear H;intro b w H;try simp only[nr]at H))|((with_reducible refine gZ ?_);refine nb0 ?_)|((with_reducible refine gZ ?_);refine nb1 ?_)|((with_reducible refine gZ ?_);(refine nbS ?_;(try simp only[pl])))|((with_reducible refine gZ ?_);refine nbK ?_)|((with_reducible refine gZ ?_);refine nbG ?_)|((with_reducible refine gZ ?_);refine nbR ?_)|((with_reducible refine gZ ?_);refine nbA ?_)|((with_reducible refine gZ ?_);refine fb3 ?_)|((with_reducible refine gES ?_);(refine qS ?_;(try simp only[pl])))|((with_reducible refine gNS ?_);(refine qN ?_;(try simp only[pl])))|((with_reducible refine gZ ?_);(refine aZ ?_;(try simp only[pl])))|((with_reducible refine gI ?_);refine aI ?_)|((with_reducible refine gC ?_);refine aC ?_)|((with_reducible refine gF ?_);refine aF ?_)|((with_reducible refine gU ?_);refine aU ?_)|((with_reducible refine gE ?_);(refine aE ?_;(try simp only[pl])))|((with_reducible refine gQ ?_);(refine aQ ?_;(try simp only[pl])))))
  exact⟨rfl,rfl,H.below⟩
section
variable {M:Nat→Prop} {w0 w wc w':World} {l l1 l2 l3 ls:List Res}
theorem zLc {P:Program} {fn:FuncId} {args:Array Value} {R:Ending→World→Prop} {og oc:Nat} {pre:List LevM} {lv:LevM} {F:Nat→Prop} {zs:List TV}
  (c:HoldG M w0 wc (zBA og oc pre lv F zs)→Calls P fn args wc (zIT M w0 og oc pre lv F zs wc))
  (H:HoldG M w0 wc (zBA og oc pre lv F zs++l3)) {N:Nat→Prop} (hF:∀ s ∈ zBA og oc pre lv F zs,∀ b,s.foot b→N b) (hN:∀ b,wc.heap.size≤b→N b) {t:Tree} (ht:rowT 5 (lv.all.map (·.1)++[rowT 4 (lv.items.map (·.1))])=t)
  (k:∀ w' q c F' Fx l',Hid (l'.group=lv.group∧l'.behind=lv.behind)→Hid (∀ b,F' b→N b)→Hid (∀ b,Fx b→N b)→HoldG M w0 w' ([rowL (some ⟨og,0,none⟩) (pre.length+1) oc (pre++[l']),knL F' zs,knT Fx q c t.kids]++l3)→R (.returned (zAa t.d (.slice q t.kids.length c))) w'):Calls P fn args wc R :=
 (c (H.pick [0,1,2,3] _ (by decide) rfl)).mono fun e w' h=>by
  obtain⟨q,c,F',Fx,l',rfl,h1,h2,T⟩:=h;have hk:∀ r ∈ [rowL (some ⟨og,0,none⟩) (pre.length+1) oc (pre++[l']),knL F' zs,knT Fx q c (rowT 5 (lv.all.map (·.1)++[rowT 4 (lv.items.map (·.1))])).kids],∀ b,r.foot b→N b:=fun r hr b hb=>(T.foot r hr b hb).elim (fun ⟨s,hs,h⟩=>hF s hs b h) (hN b)
  subst ht;exact k w' q c F' Fx l' (Lib.hid ⟨h1,h2⟩) (Lib.hid (hk (knL F' zs) (.tail _ (.head _)))) (Lib.hid (hk (knT Fx q c _) (.tail _ (.tail _ (.head _))))) (H.callL T)
theorem zM8 {P:Program} {fn:FuncId} {args:Array Value} {R:Ending→World→Prop} {pb:Nat} {lq:Option Addr} {ln lc last:Nat} {f:zAU} {g og oc:Nat} {pre:List LevM} {lv:LevM} {F Fn:Nat→Prop} {zs:List TV} {t:Tree} {q:Option Addr} {c:Nat}
  (cc:HoldG M w0 wc (putL pb lq ln lc last f g og oc pre lv F zs++[knT Fn q c t.kids])→Calls P fn args wc fun e w'=>e=.returned (.tuple #[])∧∃ iq ic F',(∀ b,F' b→F b∨Fn b)∧Turned M w0 wc (putL pb lq ln lc last f g og oc pre lv F zs++[knT Fn q c t.kids]) (putL pb lq ln lc last f g og oc pre {lv with items:=lv.items++[(t,q,c)],iq:=iq,ic:=ic} F' (zs++[(t,q,c)])) w')
  (H:HoldG M w0 wc ls) (js ks:List Nat) (h1:js.map (fun j=>ls[j]?)=(putL pb lq ln lc last f g og oc pre lv F zs++[knT Fn q c t.kids]).map some) (h3:ks.map (fun j=>ls[j]?)=l3.map some) (hn:(js++ks).Nodup)
  {N:Nat→Prop} (hF:∀ b,F b→N b) (hFn:∀ b,Fn b→N b)
  (k:∀ w' iq ic F',Hid (∀ b,F' b→N b)→HoldG M w0 w' (putL pb lq ln lc last f g og oc pre {lv with items:=lv.items++[(t,q,c)],iq:=iq,ic:=ic} F' (zs++[(t,q,c)])++l3)→R (.returned (.tuple #[])) w'):Calls P fn args wc R:=by
 have hn':=List.nodup_append.1 hn;exact(cc (H.pick js _ hn'.1 h1)).mono fun e w' h=>by
  obtain⟨rfl,iq,ic,F',h2,T⟩:=h;exact k w' iq ic F' (Lib.hid fun b hb=>(h2 b hb).elim (hF b) (hFn b)) (H.callIn T js ks h1 h3 hn'.2.1 (fun j hj hk=>hn'.2.2 j hj j hk rfl))
theorem zF9 (pp:List LevM) (l:LevM):(zAc ((pp++[l]).map levC)).take (pp.length * 7)=zAc (pp.map levC):=by
 have h:=zBj (zFu pp);rw[List.length_map]at h;rw[List.map_append,zBe,← h,List.take_left]
end
theorem zI2 {a:Act} {o:Oper} {W:World} {x y:Operand} {og n m oc:Nat} (ho:o.op=.slice 57 x none (some y) none) (hx:a.eval x=.slice (some ⟨og,0,none⟩) m oc) (hy:a.eval y=.int .i64 n) (hn:n≤oc):(execOp a.eval o).run Tryd.prog W=.ok (.value (.slice (some ⟨og,0,none⟩) n oc)) W:=by
 have h1:(0:Int)≤(n:Int)∧(n:Int)≤(oc:Int):=⟨by omega,by omega⟩
 simp only[execOp,ho,Option.map_some,Option.map_none,hx,hy];simp[go_sem,Instr.sliceBound,asIntOf,h1]
def zDl (pb:Nat) (lq:Option Addr) (ln lc last:Nat) (f:zAU) (g og oc:Nat) (pre:List LevM) (l2 l:LevM) (F:Nat→Prop) (zs:List TV):List Res :=
 [rowL (some ⟨og,0,none⟩) ((pre++[l2]).length+1) oc ((pre++[l2])++[l]),knL F zs,rowN l.iq l.ic l.items,rowN l.aq l.ac l.all,blkP pb lq ln lc last f g (some ⟨og,0,none⟩) ((pre++[l2]).length+1) oc,rowN l2.iq l2.ic l2.items]
def zHC (M:Nat→Prop) (w0:World) (pb:Nat) (lq:Option Addr) (ln lc last:Nat) (f:zAU) (g og oc:Nat) (pre:List LevM) (l2 l:LevM) (F:Nat→Prop) (zs:List TV) (w:World) (e:Ending) (w':World):Prop :=
 e=.returned (.tuple #[])∧∃ q c iq ic F',Turned M w0 w (zDl pb lq ln lc last f g og oc pre l2 l F zs) (putL pb lq ln lc last l.behind g og oc pre {l2 with items:=l2.items++[(zES l.plain,q,c)],iq:=iq,ic:=ic} F' (zs++[(zES l.plain,q,c)])) w'
section
variable {M:Nat→Prop} {w0 w:World} {pb:Nat} {lq:Option Addr} {ln lc last:Nat} {f:zAU} {g og oc:Nat} {pre:List LevM} {F:Nat→Prop} {zs:List TV}
theorem zMO (l2 l:LevM) (a:Nat) (h0:l.group=0) (hn:pre.length+1≤1000000) (hi:l2.items.length≤1000000) (ha:l.all.length≤1000000) (hsub:∀ x,x ∈ l.items∨x ∈ l.all→x ∈ zs) (hsub2:∀ x ∈ l2.items,x ∈ zs) (H0:HoldG M w0 w (zDl pb lq ln lc last f g og oc pre l2 l F zs)) :
  Calls Tryd.prog 38 #[.pointer (some ⟨pb,0,none⟩),.int .i64 a] w (zHC M w0 pb lq ln lc last f g og oc pre l2 l F zs w):=by
 have H:=H0.framed;clear H0;obtain⟨l1,hl1⟩:∃ l1,zDl pb lq ln lc last f g og oc pre l2 l F zs=l1:=⟨_,rfl⟩;obtain⟨rF,hrF⟩:∃ rF,zBN w l1=rF:=⟨_,rfl⟩;obtain⟨rS,hrS⟩:∃ rS,zCB w l1=rS:=⟨_,rfl⟩;rw[hl1,hrF,hrS,← hl1]at H;obtain⟨pp,hpp⟩:∃ pp,pre++[l2]=pp:=⟨_,rfl⟩;have hpl:pp.length=pre.length+1:=by rw[← hpp];simp
 have hp0:0<pp.length:=by omega
 have hp1:pp.length≤1000000:=by omega
 unfold zDl at H;rw[hpp]at H;simp only[ca]at H;have hoc:pp.length≤oc:=by
  obtain⟨q,cap,e,h1,_,_⟩:=H.rowShape (i:=0) .zero;have:oc=cap:=by injection e
  omega
 have HR:=Lib.hid (And.intro hl1 (And.intro hrF hrS));clear hl1 hrF hrS;have HS:=Lib.hid hsub;clear hsub;have HA:=Lib.hid ha;clear ha;have HI:=Lib.hid hi;clear hi;have HS2:=Lib.hid hsub2;clear hsub2;have HPP:=Lib.hid hpp;clear hpp;have HPL:=Lib.hid hpl;clear hpl;obtain⟨N,hNe⟩:∃ N,NewF w l1=N:=⟨_,rfl⟩;have HNW:=Lib.hid (show ∀ (wc:World) (ls:List Res) (i:Nat),HoldG M w0 wc ls→At ls i (.kn rF rS)→∀ b,wc.heap.size≤b→N b from fun wc ls i H hi=>hNe ▸ H.newer hi HR.out.2.1)
 have HNF:=Lib.hid (show ∀ s ∈ l1,∀ b,s.foot b→N b from fun s hs b hb=>hNe ▸ .inl ⟨s,hs,hb⟩)
 have HNE:=Lib.hid hNe;clear hNe;have hbl:∀ s ∈ zBA og oc pp l F zs,s ∈ l1:=fun s hs=>by
  rw[← HR.out.1];unfold zDl;rw[HPP.out];simp only[zBA,List.mem_cons,List.not_mem_nil,or_false]at hs;rcases hs with rfl|rfl|rfl|rfl<;>simp
 have HBL:=Lib.hid hbl;clear hbl;obtain⟨t,ht⟩:∃ t,rowT 5 (l.all.map (·.1)++[rowT 4 (l.items.map (·.1))])=t:=⟨_,rfl⟩;have HT:=Lib.hid ht;clear ht;have hgt:((pp.length:Int)+1 > 1):=by omega
 go_enter Tryd.func38,Tryd.ntmps38
 go_upto_region 3 with (first|((with_reducible refine gL ?_);refine zAH wtd_ _ _ rfl rfl zAD (H.cell (i:=4) i_4 6) ?_)|(go_at_call 21;refine ch (zCi a 4 _) H ?_;clear H;intro w H)|(go_at_call 22;refine zLh (zEr pb og pp.length oc _ (Array.getElem?_eq_some_iff.1 (H.blk (i:=4) i_4).2).1 hp1 (H.cell (i:=4) i_4 6)) H ?_;clear H;intro w H)|(go_at_call 23;refine zLc (fun h=>zIc og oc pp l F zs hp1 HA.out HS.out h) (H:HoldG M w0 _ (zBA og oc pp l F zs++_)) (N:=N) (fun s hs b hb=>HNF.out s (HBL.out s hs) b hb) (HNW.out _ _ 6 H i_6) HT.out ?_;clear H;intro w q c F' Fx l' HL HF HX H;simp only[ca]at H)|((first|((with_reducible refine kgA 5 ?_);refine kA 5 H ?_)|((with_reducible refine kgX 5 ?_);(first|refine kS 5 H ?_|refine kB 5 H ?_)));clear H;intro b5 w H;try simp only[nr]at H)|((with_reducible refine gT ?_);(refine aT H ?_;clear H;intro w H;try simp only[nr]at H)))
 have hfl:∀ (W:World) (ls:List Res),HoldG M w0 W ls→At ls 0 (rowL (some ⟨og,0,none⟩) (pp.length+1) oc (pp++[l']))→∀ j,j<3→W.cell? ⟨og,pp.length * 7+2+j,none⟩=(#[.bool l.behind.1,.bool l.behind.2.1,.bool l.behind.2.2]:Array Value)[j]?:=fun W ls H hi j hj=>by
  rw[Nat.add_assoc,zCc H hi (2+j) (by omega)]
  rw[← HL.out.2]
  match j,hj with
  | 0,_=>rfl
  | 1,_=>rfl
  | 2,_=>rfl
 have hgr:∀ (W:World) (ls:List Res),HoldG M w0 W ls→At ls 0 (rowL (some ⟨og,0,none⟩) (pp.length+1) oc (pp++[l']))→W.cell? ⟨og,pp.length * 7+1,none⟩=some (.int .i64 0):=fun W ls H hi=>by
  rw[zCc H hi 1 (by omega)]
  have:l'.group=0:=HL.out.1.trans h0;simp[levC,this]
 go_upto_region 6 with (first|((with_reducible refine gL ?_);refine zBb wtd_ _ _ rfl rfl zBC rfl (hfl _ _ H .zero) ?_)|((with_reducible refine gT ?_);refine zDC wtd_ _ _ _ rfl rfl evd_ H (i:=3) i_3 (by with_reducible exact zA3 zBC) rfl rfl (by decide) ?_;clear H;intro w H;try simp only[nr]at H)|((with_reducible refine gL ?_);refine zAH wtd_ _ _ rfl rfl zAJ (hgr _ _ H .zero) ?_)|((with_reducible refine gT ?_);(refine aN H ?_;clear H;intro w H;(try simp only[nr]at H);try simp only[zBE,nrl]at H)))
 clear hfl hgr;replace H:=H.cutRow (i:=0) .zero (m:=pp.length) (by omega)
 rw[zF9]at H;simp only[List.set_cons_zero]at H;refine wr_ 14 [fun v _=>v=pt pb 0,fun v _=>v=pt pb 0,fun v _=>v=pt pb 0,fun v _=>v=pt pb 6,fun v _=>v=.slice (some ⟨og,0,none⟩) (pp.length+1) oc,fun v _=>v=pt pb 0,fun v _=>v=pt pb 0,fun v _=>v=pt pb 6,fun v _=>v=.slice (some ⟨og,0,none⟩) (pp.length+1) oc,fun v _=>v=.int .i64 ((pp.length+1:Nat):Int),fun v _=>v=.int .i64 (pp.length:Int),fun v _=>v=.slice (some ⟨og,0,none⟩) pp.length oc,fun v _=>v=pt pb 0,fun v _=>v=pt pb 6] ?ob ?en
 case ob =>
  refine⟨?_,?_,?_,?_,?_,?_,?_,?_,?_,?_,?_,?_,?_,?_,trivial⟩<;>intro A W h
  ·exact zAY rfl rfl (h.f 0)
  ·exact zAY rfl rfl (h.f 0)
  ·(have e38:A.eval (.tmp 38)=.pointer (some ⟨pb,0,none⟩):=h.d 1 38;refine zAB rfl ?_;simp only[execOp,e38];(simp[go_sem]<;>first|done|omega|(rw[IntKind.wrap_i64];omega)|(rw[IntKind.wrap_u8];omega)|(rw[IntKind.wrap_u64];omega)))
  ·(have e39:A.eval (.tmp 39)=.pointer (some ⟨pb,0,none⟩):=h.d 2 39;refine zAB rfl ?_;simp only[execOp,e39];(simp[go_sem]<;>first|done|omega|(rw[IntKind.wrap_i64];omega)|(rw[IntKind.wrap_u8];omega)|(rw[IntKind.wrap_u64];omega)))
  ·exact zAB rfl (zAL rfl (h.d 3 40) (by first|(with_reducible exact zAJ)|(with_reducible exact one_u8)|(with_reducible exact zAZ)|(with_reducible exact zAh)|(with_reducible exact zAe)|(with_reducible exact one_u64)|(with_reducible exact zAV)|(with_reducible exact zAN)|(with_reducible exact zAR)|(with_reducible exact zAM)|(with_reducible exact zAD)|(with_reducible exact zAE)) ((H.call h.below).cell (i:=3) i_3 6)) (by decide)
  ·exact zAY rfl rfl (h.f 0)
  ·(have e42:A.eval (.tmp 42)=.pointer (some ⟨pb,0,none⟩):=h.d 5 42;refine zAB rfl ?_;simp only[execOp,e42];(simp[go_sem]<;>first|done|omega|(rw[IntKind.wrap_i64];omega)|(rw[IntKind.wrap_u8];omega)|(rw[IntKind.wrap_u64];omega)))
  ·(have e43:A.eval (.tmp 43)=.pointer (some ⟨pb,0,none⟩):=h.d 6 43;refine zAB rfl ?_;simp only[execOp,e43];(simp[go_sem]<;>first|done|omega|(rw[IntKind.wrap_i64];omega)|(rw[IntKind.wrap_u8];omega)|(rw[IntKind.wrap_u64];omega)))
  ·exact zAB rfl (zAL rfl (h.d 7 44) (by first|(with_reducible exact zAJ)|(with_reducible exact one_u8)|(with_reducible exact zAZ)|(with_reducible exact zAh)|(with_reducible exact zAe)|(with_reducible exact one_u64)|(with_reducible exact zAV)|(with_reducible exact zAN)|(with_reducible exact zAR)|(with_reducible exact zAM)|(with_reducible exact zAD)|(with_reducible exact zAE)) ((H.call h.below).cell (i:=3) i_3 6)) (by decide)
  ·exact zFJ Tryd.underlying57 rfl rfl (h.d 8 45)
  ·(have e46:A.eval (.tmp 46)=.int .i64 ((pp.length+1:Nat):Int):=h.d 9 46;refine zAB rfl ?_;simp only[execOp,e46];(simp[go_sem]<;>first|done|omega|(rw[IntKind.wrap_i64];omega)|(rw[IntKind.wrap_u8];omega)|(rw[IntKind.wrap_u64];omega)))
  ·exact zAB rfl (zI2 rfl (h.d 4 41) (h.d 10 47) hoc) (by decide)
  ·(have e37:A.eval (.tmp 37)=.pointer (some ⟨pb,0,none⟩):=h.d 0 37;refine zAB rfl ?_;simp only[execOp,e37];(simp[go_sem]<;>first|done|omega|(rw[IntKind.wrap_i64];omega)|(rw[IntKind.wrap_u8];omega)|(rw[IntKind.wrap_u64];omega)))
  ·(have e49:A.eval (.tmp 49)=.pointer (some ⟨pb,0,none⟩):=h.d 12 49;refine zAB rfl ?_;simp only[execOp,e49];(simp[go_sem]<;>first|done|omega|(rw[IntKind.wrap_i64];omega)|(rw[IntKind.wrap_u8];omega)|(rw[IntKind.wrap_u64];omega)))
 case en =>
  intro vals W hbw hv _;simp only[fa,Nat.reduceAdd];rw[e_ hv 0,e_ hv 1,e_ hv 2,e_ hv 3,e_ hv 4,e_ hv 5,e_ hv 6,e_ hv 7,e_ hv 8,e_ hv 9,e_ hv 10,e_ hv 11,e_ hv 12,e_ hv 13];clear hv
  try simp only[pl]
  replace H:=H.call hbw;clear hbw
  go_upto_region 7 with (first|((first|((with_reducible refine kgA 5 ?_);refine kA 5 H ?_)|((with_reducible refine kgX 5 ?_);(first|refine kS 5 H ?_|refine kB 5 H ?_)));clear H;intro b5 w H;try simp only[nr]at H)|((with_reducible refine gT (T:=57) ?_);refine zAK wtd_ _ _ _ rfl rfl evd_ H atd_ rfl (by first|(simp;done)|(simp[zAQ];done)) (by with_reducible exact zAC zAD) ?_;clear H;intro w H;try simp only[nr]at H))
  have hpl:=HPL.out;rw[HPL.out,← HPP.out]at H
  go_wp2_with (first|(go_at_call 36;(refine zM8 (fun h=>zKf pb lq ln lc last l.behind g og oc pre l2 F' Fx zs t q c t.kids.length (by omega) HI.out rfl HS2.out h) H (l3:=[.kn rF rS]) [3,0,1,4,2] [5] rfl rfl (by decide) (N:=N) HF.out HX.out ?_);clear H;intro w iq ic F2 HF2 H;simp only[putL,List.cons_append,List.nil_append]at H)|((first|((with_reducible refine kgA 5 ?_);refine kA 5 H ?_)|((with_reducible refine kgX 5 ?_);(first|refine kS 5 H ?_|refine kB 5 H ?_)));clear H;intro b5 w H;try simp only[nr]at H)|((with_reducible refine gL ?_);refine aD H ?_))
  have et:zES l.plain=t:=by rw[← HT.out];simp[zES,h0,zId,LevM.plain]
  obtain⟨h1,h2,h3⟩:=HR.out;rw[← h2,← h3]at H;refine⟨rfl,.tuple #[],resE rfl,rfl,q,c,iq,ic,F2,?_⟩
  rw[h1,et];refine Turned.of H (i:=4) i_4 [0,1,2,3] (by decide) (by decide) rfl (fun F3 S3 hm b hb=>?_)
  simp only[putL,List.mem_cons,List.not_mem_nil,or_false,reduceCtorEq,false_or,Res.kn.injEq]at hm;obtain⟨rfl,_⟩:=hm;have:=HF2.out b hb;rw[← HNE.out]at this;exact this
end
theorem zMe (p:Option Addr) (n c:Nat) (g:Int) (W:World):(Instr.build 31 #[(0,.int .i64 7),(2,.slice p n c),(6,.int .i64 g)]).run Tryd.prog W=.ok (zAa {kind:=7,group:=g} (.slice p n c)) W:=by kernel_rfl
theorem zN0 {ops:Array Oper} {o:Oper} {a:Act} {w:World} {n0:Nat} {cs:Array Value} {T:TypeId} {D:Prop} {x y:Operand} {g:Int} (hg:Region.wanted o (yielded ops a.tmps)=true) (hop:o.op=Op.build 31 #[(0,.const (.int .i64 7)),(2,x),(6,y)])
  (h1:zDw n0 cs T (a.eval x) w) (h2:a.eval y=.int .i64 g) (hD:¬ D:=by decide):zBK Tryd.prog ops o a w (fun v w'=>zKo {kind:=7,group:=g} n0 cs T v w'∧(D→w.heap.size≤blk v)):=by
 obtain⟨bk,e1,h1⟩:=h1;refine zC1 hg (v:=zAa {kind:=7,group:=g} (.slice (some ⟨bk,0,none⟩) 1 1)) (w':=w) ?_ (Below.refl _ w) ⟨⟨_,rfl,bk,rfl,h1⟩,fun h=>(hD h).elim⟩
 simp only[execOp,hop,List.map_toArray,List.map_cons,List.map_nil,e1,h2,Sem.run_bind];have:a.eval (.const (.int .i64 7))=.int .i64 7:=rfl;rw[this,zMe];rfl
section
variable {M:Nat→Prop} {w0 w:World} {pb:Nat} {lq:Option Addr} {ln lc last:Nat} {f:zAU} {g og oc:Nat} {pre:List LevM} {F:Nat→Prop} {zs:List TV}
theorem zMQ (l2 l:LevM) (a:Nat) (h0:0<l.group) (hn:pre.length+1≤1000000) (hi:l2.items.length≤1000000) (ha:l.all.length≤1000000) (hsub:∀ x,x ∈ l.items∨x ∈ l.all→x ∈ zs) (hsub2:∀ x ∈ l2.items,x ∈ zs) (H0:HoldG M w0 w (zDl pb lq ln lc last f g og oc pre l2 l F zs)) :
  Calls Tryd.prog 38 #[.pointer (some ⟨pb,0,none⟩),.int .i64 a] w (zHC M w0 pb lq ln lc last f g og oc pre l2 l F zs w):=by
 have H:=H0.framed;clear H0;obtain⟨l1,hl1⟩:∃ l1,zDl pb lq ln lc last f g og oc pre l2 l F zs=l1:=⟨_,rfl⟩;obtain⟨rF,hrF⟩:∃ rF,zBN w l1=rF:=⟨_,rfl⟩;obtain⟨rS,hrS⟩:∃ rS,zCB w l1=rS:=⟨_,rfl⟩;rw[hl1,hrF,hrS,← hl1]at H;obtain⟨pp,hpp⟩:∃ pp,pre++[l2]=pp:=⟨_,rfl⟩;have hpl:pp.length=pre.length+1:=by rw[← hpp];simp
 have hp0:0<pp.length:=by omega
 have hp1:pp.length≤1000000:=by omega
 unfold zDl at H;rw[hpp]at H;simp only[ca]at H;have hoc:pp.length≤oc:=by
  obtain⟨q,cap,e,h1,_,_⟩:=H.rowShape (i:=0) .zero;have:oc=cap:=by injection e
  omega
 have HR:=Lib.hid (And.intro hl1 (And.intro hrF hrS));clear hl1 hrF hrS;have HS:=Lib.hid hsub;clear hsub;have HA:=Lib.hid ha;clear ha;have HI:=Lib.hid hi;clear hi;have HS2:=Lib.hid hsub2;clear hsub2;have HPP:=Lib.hid hpp;clear hpp;have HPL:=Lib.hid hpl;clear hpl;obtain⟨N,hNe⟩:∃ N,NewF w l1=N:=⟨_,rfl⟩;have HNW:=Lib.hid (show ∀ (wc:World) (ls:List Res) (i:Nat),HoldG M w0 wc ls→At ls i (.kn rF rS)→∀ b,wc.heap.size≤b→N b from fun wc ls i H hi=>hNe ▸ H.newer hi HR.out.2.1)
 have HNF:=Lib.hid (show ∀ s ∈ l1,∀ b,s.foot b→N b from fun s hs b hb=>hNe ▸ .inl ⟨s,hs,hb⟩)
 have HNE:=Lib.hid hNe;clear hNe;have hbl:∀ s ∈ zBA og oc pp l F zs,s ∈ l1:=fun s hs=>by
  rw[← HR.out.1];unfold zDl;rw[HPP.out];simp only[zBA,List.mem_cons,List.not_mem_nil,or_false]at hs;rcases hs with rfl|rfl|rfl|rfl<;>simp
 have HBL:=Lib.hid hbl;clear hbl;obtain⟨t,ht⟩:∃ t,rowT 5 (l.all.map (·.1)++[rowT 4 (l.items.map (·.1))])=t:=⟨_,rfl⟩;have HT:=Lib.hid ht;clear ht;have HNO:=Lib.hid (show ∀ (wc:World) (ls:List Res) (i j:Nat) (r:Res),HoldG M w0 wc ls→At ls i (.kn rF rS)→At ls j r→j≠i→∀ b,r.place=some b→N b from fun wc ls i j r H hi hj hij=>HNE.out ▸ H.ownN hi hj hij HR.out.2.1)
 have hgt:((pp.length:Int)+1 > 1):=by omega
 go_enter Tryd.func38,Tryd.ntmps38
 go_upto_region 3 with (first|((with_reducible refine gL ?_);refine zAH wtd_ _ _ rfl rfl zAD (H.cell (i:=4) i_4 6) ?_)|(go_at_call 21;refine ch (zCi a 4 _) H ?_;clear H;intro w H)|(go_at_call 22;refine zLh (zEr pb og pp.length oc _ (Array.getElem?_eq_some_iff.1 (H.blk (i:=4) i_4).2).1 hp1 (H.cell (i:=4) i_4 6)) H ?_;clear H;intro w H)|(go_at_call 23;refine zLc (fun h=>zIc og oc pp l F zs hp1 HA.out HS.out h) (H:HoldG M w0 _ (zBA og oc pp l F zs++_)) (N:=N) (fun s hs b hb=>HNF.out s (HBL.out s hs) b hb) (HNW.out _ _ 6 H i_6) HT.out ?_;clear H;intro w q c F' Fx l' HL HF HX H;simp only[ca]at H)|((first|((with_reducible refine kgA 5 ?_);refine kA 5 H ?_)|((with_reducible refine kgX 5 ?_);(first|refine kS 5 H ?_|refine kB 5 H ?_)));clear H;intro b5 w H;try simp only[nr]at H)|((with_reducible refine gT ?_);(refine aT H ?_;clear H;intro w H;try simp only[nr]at H)))
 have hfl:∀ (W:World) (ls:List Res),HoldG M w0 W ls→At ls 0 (rowL (some ⟨og,0,none⟩) (pp.length+1) oc (pp++[l']))→∀ j,j<3→W.cell? ⟨og,pp.length * 7+2+j,none⟩=(#[.bool l.behind.1,.bool l.behind.2.1,.bool l.behind.2.2]:Array Value)[j]?:=fun W ls H hi j hj=>by
  rw[Nat.add_assoc,zCc H hi (2+j) (by omega)]
  rw[← HL.out.2]
  match j,hj with
  | 0,_=>rfl
  | 1,_=>rfl
  | 2,_=>rfl
 have hgr:∀ (W:World) (ls:List Res),HoldG M w0 W ls→At ls 0 (rowL (some ⟨og,0,none⟩) (pp.length+1) oc (pp++[l']))→W.cell? ⟨og,pp.length * 7+1,none⟩=some (.int .i64 l.group):=fun W ls H hi=>by
  rw[zCc H hi 1 (by omega)]
  have:l'.group=l.group:=HL.out.1;simp[levC,this]
 have hgt2:((l.group:Int) > 0):=by omega
 go_upto_region 5 with (first|((with_reducible refine gL ?_);refine zBb wtd_ _ _ rfl rfl zBC rfl (hfl _ _ H .zero) ?_)|((with_reducible refine gT ?_);refine zDC wtd_ _ _ _ rfl rfl evd_ H (i:=3) i_3 (by with_reducible exact zA3 zBC) rfl rfl (by decide) ?_;clear H;intro w H;try simp only[nr]at H)|((with_reducible refine gL ?_);refine zAH wtd_ _ _ rfl rfl zAJ (hgr _ _ H .zero) ?_)|((with_reducible refine gT ?_);(refine aN H ?_;clear H;intro w H;(try simp only[nr]at H);try simp only[zBE,nrl]at H)))
 refine zCH 7 [fun v _=>v=.agg (zAQ (t.d) (.slice q t.kids.length c)),zDw w.heap.size (zAQ t.d (.slice q t.kids.length c)) 31,fun v _=>v=.pointer (some ⟨og,pp.length * 7,none⟩),fun v _=>v=.pointer (some ⟨og,pp.length * 7,none⟩),fun v _=>v=.pointer (some ⟨og,pp.length * 7+1,none⟩),fun v _=>v=.int .i64 l.group,zKo {kind:=7,group:=l.group} w.heap.size (zAQ t.d (.slice q t.kids.length c)) 31] (fun _=>false) (by kernel_rfl) (by kernel_rfl) (by kernel_rfl) (by repeat (first|exact trivial|refine⟨zBL _,?_⟩|refine⟨zCD _ _ _,?_⟩|refine⟨zFE _ _ _ _,?_⟩)) (fun _ _ h=>by cases h) ?ob ?en
 case ob =>
  refine⟨?_,?_,?_,?_,?_,?_,?_,trivial⟩<;>intro A W h
  ·exact zAB rfl (zCI (n:=10) rfl (h.f 5) (by first|(with_reducible exact zAW)|(with_reducible exact zAf)|(with_reducible exact zBC)|(with_reducible exact zB1)) rfl (fun k _=>by rw[Nat.zero_add];exact(H.call h.below).cell (i:=6) i_6 k)) (by decide)
  ·exact zHs rfl rfl (h.d 0 30) (fun W=>zEN _ _ W) h.below.size (by decide)
  ·exact zAY rfl rfl (h.f 4)
  ·(have e32:A.eval (.tmp 32)=.pointer (some ⟨og,pp.length * 7,none⟩):=h.d 2 32;refine zAB rfl ?_;simp only[execOp,e32];(simp[go_sem]<;>first|done|omega|(rw[IntKind.wrap_i64];omega)|(rw[IntKind.wrap_u8];omega)|(rw[IntKind.wrap_u64];omega)))
  ·(have e33:A.eval (.tmp 33)=.pointer (some ⟨og,pp.length * 7,none⟩):=h.d 3 33;refine zAB rfl ?_;simp only[execOp,e33];(simp[go_sem]<;>first|done|omega|(rw[IntKind.wrap_i64];omega)|(rw[IntKind.wrap_u8];omega)|(rw[IntKind.wrap_u64];omega)))
  ·exact zAB rfl (zAL rfl (h.d 4 34) zAJ (hgr _ _ (H.call h.below) .zero)) (by decide)
  ·exact zN0 rfl rfl (h.d 1 31) (h.d 5 35) (by decide)
 case en =>
  intro vals W hbw hv _;have x1:=hv 1 (by omega);simp only[zAq]at x1
  have x6:=hv 6 (by omega);simp only[zAq]at x6
  simp only[fa,Nat.reduceAdd];rw[e_ hv 0,e_ hv 2,e_ hv 3,e_ hv 4,e_ hv 5];clear hv
  try simp only[pl]
  obtain⟨u,e6,h6⟩:=x6;obtain⟨bk,rfl,H2⟩:=H.gainS hbw h6;rw[e6];clear x1 e6 h6 hbw H;have H:=H2;clear H2;simp only[ca]at H
  try simp only[pl]
  go_upto_region 6 with (first|((first|((with_reducible refine kgA 5 ?_);refine kA 5 H ?_)|((with_reducible refine kgX 5 ?_);(first|refine kS 5 H ?_|refine kB 5 H ?_)));clear H;intro b5 w H;try simp only[nr]at H)|((with_reducible refine gT ?_);(refine aT H ?_;clear H;intro w H;try simp only[nr]at H)))
  have HBN:=Lib.hid (HNO.out _ _ 5 7 _ H i_5 i_7 (by decide))
  have hbk:=(H.blk (i:=7) i_7).2;replace H:=H.restG (i:=7) i_7 (fun b=>b=bk∨Fx b) (fun V=>ForestR V (fun b=>b=bk∨Fx b) (some ⟨bk,0,none⟩) 1 [t]) (fun b hb=>hb.elim (fun h=>.inl (by subst h;rfl)) (fun h=>.inr ⟨2,_,rfl,rfl,h⟩)) (fun V hV=>zG7 (x:=(t,q,c)) ((hV bk (.inl rfl)).trans hbk) ((H.kn (i:=2) i_2).kept (fun b hb=>hV b (.inr hb))))
  clear hbk;simp only[sc]at H;clear hfl hgr;replace H:=H.cutRow (i:=0) .zero (m:=pp.length) (by omega)
  rw[zF9]at H;simp only[List.set_cons_zero]at H;refine wr_ 14 [fun v _=>v=pt pb 0,fun v _=>v=pt pb 0,fun v _=>v=pt pb 0,fun v _=>v=pt pb 6,fun v _=>v=.slice (some ⟨og,0,none⟩) (pp.length+1) oc,fun v _=>v=pt pb 0,fun v _=>v=pt pb 0,fun v _=>v=pt pb 6,fun v _=>v=.slice (some ⟨og,0,none⟩) (pp.length+1) oc,fun v _=>v=.int .i64 ((pp.length+1:Nat):Int),fun v _=>v=.int .i64 (pp.length:Int),fun v _=>v=.slice (some ⟨og,0,none⟩) pp.length oc,fun v _=>v=pt pb 0,fun v _=>v=pt pb 6] ?ob ?en
  case ob =>
   refine⟨?_,?_,?_,?_,?_,?_,?_,?_,?_,?_,?_,?_,?_,?_,trivial⟩<;>intro A W h
   ·exact zAY rfl rfl (h.f 0)
   ·exact zAY rfl rfl (h.f 0)
   ·(have e38:A.eval (.tmp 38)=.pointer (some ⟨pb,0,none⟩):=h.d 1 38;refine zAB rfl ?_;simp only[execOp,e38];(simp[go_sem]<;>first|done|omega|(rw[IntKind.wrap_i64];omega)|(rw[IntKind.wrap_u8];omega)|(rw[IntKind.wrap_u64];omega)))
   ·(have e39:A.eval (.tmp 39)=.pointer (some ⟨pb,0,none⟩):=h.d 2 39;refine zAB rfl ?_;simp only[execOp,e39];(simp[go_sem]<;>first|done|omega|(rw[IntKind.wrap_i64];omega)|(rw[IntKind.wrap_u8];omega)|(rw[IntKind.wrap_u64];omega)))
   ·exact zAB rfl (zAL rfl (h.d 3 40) (by first|(with_reducible exact zAJ)|(with_reducible exact one_u8)|(with_reducible exact zAZ)|(with_reducible exact zAh)|(with_reducible exact zAe)|(with_reducible exact one_u64)|(with_reducible exact zAV)|(with_reducible exact zAN)|(with_reducible exact zAR)|(with_reducible exact zAM)|(with_reducible exact zAD)|(with_reducible exact zAE)) ((H.call h.below).cell (i:=3) i_3 6)) (by decide)
   ·exact zAY rfl rfl (h.f 0)
   ·(have e42:A.eval (.tmp 42)=.pointer (some ⟨pb,0,none⟩):=h.d 5 42;refine zAB rfl ?_;simp only[execOp,e42];(simp[go_sem]<;>first|done|omega|(rw[IntKind.wrap_i64];omega)|(rw[IntKind.wrap_u8];omega)|(rw[IntKind.wrap_u64];omega)))
   ·(have e43:A.eval (.tmp 43)=.pointer (some ⟨pb,0,none⟩):=h.d 6 43;refine zAB rfl ?_;simp only[execOp,e43];(simp[go_sem]<;>first|done|omega|(rw[IntKind.wrap_i64];omega)|(rw[IntKind.wrap_u8];omega)|(rw[IntKind.wrap_u64];omega)))
   ·exact zAB rfl (zAL rfl (h.d 7 44) (by first|(with_reducible exact zAJ)|(with_reducible exact one_u8)|(with_reducible exact zAZ)|(with_reducible exact zAh)|(with_reducible exact zAe)|(with_reducible exact one_u64)|(with_reducible exact zAV)|(with_reducible exact zAN)|(with_reducible exact zAR)|(with_reducible exact zAM)|(with_reducible exact zAD)|(with_reducible exact zAE)) ((H.call h.below).cell (i:=3) i_3 6)) (by decide)
   ·exact zFJ Tryd.underlying57 rfl rfl (h.d 8 45)
   ·(have e46:A.eval (.tmp 46)=.int .i64 ((pp.length+1:Nat):Int):=h.d 9 46;refine zAB rfl ?_;simp only[execOp,e46];(simp[go_sem]<;>first|done|omega|(rw[IntKind.wrap_i64];omega)|(rw[IntKind.wrap_u8];omega)|(rw[IntKind.wrap_u64];omega)))
   ·exact zAB rfl (zI2 rfl (h.d 4 41) (h.d 10 47) hoc) (by decide)
   ·(have e37:A.eval (.tmp 37)=.pointer (some ⟨pb,0,none⟩):=h.d 0 37;refine zAB rfl ?_;simp only[execOp,e37];(simp[go_sem]<;>first|done|omega|(rw[IntKind.wrap_i64];omega)|(rw[IntKind.wrap_u8];omega)|(rw[IntKind.wrap_u64];omega)))
   ·(have e49:A.eval (.tmp 49)=.pointer (some ⟨pb,0,none⟩):=h.d 12 49;refine zAB rfl ?_;simp only[execOp,e49];(simp[go_sem]<;>first|done|omega|(rw[IntKind.wrap_i64];omega)|(rw[IntKind.wrap_u8];omega)|(rw[IntKind.wrap_u64];omega)))
  case en =>
   intro vals W hbw hv _;simp only[fa,Nat.reduceAdd];rw[e_ hv 0,e_ hv 1,e_ hv 2,e_ hv 3,e_ hv 4,e_ hv 5,e_ hv 6,e_ hv 7,e_ hv 8,e_ hv 9,e_ hv 10,e_ hv 11,e_ hv 12,e_ hv 13];clear hv
   try simp only[pl]
   replace H:=H.call hbw;clear hbw
   go_upto_region 7 with (first|((first|((with_reducible refine kgA 5 ?_);refine kA 5 H ?_)|((with_reducible refine kgX 5 ?_);(first|refine kS 5 H ?_|refine kB 5 H ?_)));clear H;intro b5 w H;try simp only[nr]at H)|((with_reducible refine gT (T:=57) ?_);refine zAK wtd_ _ _ _ rfl rfl evd_ H atd_ rfl (by first|(simp;done)|(simp[zAQ];done)) (by with_reducible exact zAC zAD) ?_;clear H;intro w H;try simp only[nr]at H))
   have hpl:=HPL.out;rw[HPL.out,← HPP.out]at H
   go_wp2_with (first|(go_at_call 36;(refine zM8 (fun h=>zKf pb lq ln lc last l.behind g og oc pre l2 F' (fun b=>b=bk∨Fx b) zs (zFO l.group t) (some ⟨bk,0,none⟩) 1 1 (by omega) HI.out rfl HS2.out h) H (l3:=[.kn rF rS]) [3,0,1,4,7] [5] rfl rfl (by decide) (N:=N) HF.out (fun b hb=>hb.elim (fun e=>HBN.out b (by subst e;rfl)) (HX.out b)) ?_);clear H;intro w iq ic F2 HF2 H;simp only[putL,List.cons_append,List.nil_append]at H)|((first|((with_reducible refine kgA 5 ?_);refine kA 5 H ?_)|((with_reducible refine kgX 5 ?_);(first|refine kS 5 H ?_|refine kB 5 H ?_)));clear H;intro b5 w H;try simp only[nr]at H)|((with_reducible refine gL ?_);refine aD H ?_))
   have et:zES l.plain=zFO l.group t:=by rw[← HT.out];simp[zES,h0,zId,LevM.plain]
   obtain⟨h1,h2,h3⟩:=HR.out;rw[← h2,← h3]at H;refine⟨rfl,.tuple #[],resE rfl,rfl,some ⟨bk,0,none⟩,1,iq,ic,F2,?_⟩
   rw[h1,et];refine Turned.of H (i:=4) i_4 [0,1,2,3] (by decide) (by decide) rfl (fun F3 S3 hm b hb=>?_)
   simp only[putL,List.mem_cons,List.not_mem_nil,or_false,reduceCtorEq,false_or,Res.kn.injEq]at hm;obtain⟨rfl,_⟩:=hm;have:=HF2.out b hb;rw[← HNE.out]at this;exact this
end
section
variable {M:Nat→Prop} {w0 w wc w':World} {ls:List Res} {pb:Nat} {lq:Option Addr} {ln lc last:Nat} {f:zAU} {g og oc:Nat} {pre:List LevM} {l:LevM} {F:Nat→Prop} {zs:List TV}
theorem zGr {P:Program} {fn:FuncId} {args:Array Value} {R:Ending→World→Prop} {t:Tree} {l1:List Res} {rF:Nat→Prop} {rS:World→Prop} (c:HoldG M w0 wc (putL pb lq ln lc last f g og oc pre l F zs)→Calls P fn args wc (zBa M w0 pb lq ln lc last f g og oc pre l F zs t wc)) (H:HoldG M w0 wc ls)
  (h:[0,1,2,3].map (fun j=>ls[j]?)=(putL pb lq ln lc last f g og oc pre l F zs).map some) {i:Nat} (hi:At ls i (.kn rF rS)) (e1:putL pb lq ln lc last f g og oc pre l F zs=l1) (e2:zBN w l1=rF) (e3:zCB w l1=rS)
  (k:∀ w',zBa M w0 pb lq ln lc last f g og oc pre l F zs t w (.returned (.tuple #[])) w'→R (.returned (.tuple #[])) w'):Calls P fn args wc R:=by
 subst e2 e3 e1;exact zHQ (c (H.pick [0,1,2,3] _ (by decide) h)) H hi k
theorem zNG (w:World):Calls Tryd.prog 34 #[setV zAF] w (Rt (setV (zAm 0 256)) w):=by
 have e:setV (notS zAF)=setV (zAm 0 256):=by kernel_rfl
 rw[← e];exact zCO zAF zBX w
theorem zBS {d:WordD} {k b:Nat} {T:TypeId} (hk:d.kind=k) {W:World} {ls:List Res} (H:HoldG M w0 W ls) {i:Nat} (hi:At ls i (.blk b (zAg d) T)):W.cell? ⟨b,0,none⟩=some (.int .i64 k):=by
 rw[H.cell hi 0];simp[zAg,hk]
theorem zKP {d:WordD} {b:Nat} {T:TypeId} {W:World} {ls:List Res} (H:HoldG M w0 W ls) {i:Nat} (hi:At ls i (.blk b (zAg d) T)):W.cell? ⟨b,7,none⟩=some (.int .i64 d.spot):=by
 rw[H.cell hi 7];simp[zAg]
theorem zME (d:WordD) (hk:d.kind=1) (hs:zAs d.set) (hn:pre.length≤1000000) (hi:l.items.length≤1000000) (hsub:∀ x ∈ l.items,x ∈ zs) (H0:HoldG M w0 w (putL pb lq ln lc last f g og oc pre l F zs)) :
  Calls Tryd.prog 20 #[.pointer (some ⟨pb,0,none⟩),zAk d] w (zBa M w0 pb lq ln lc last f g og oc pre l F zs (setT (if d.neg then notS (if f.1 then zDK d.set else d.set) else if f.1 then zDK d.set else d.set)) w):=by
 have H:=H0.framed;clear H0;obtain⟨l1,hl1⟩:∃ l1,putL pb lq ln lc last f g og oc pre l F zs=l1:=⟨_,rfl⟩;obtain⟨rF,hrF⟩:∃ rF,zBN w l1=rF:=⟨_,rfl⟩;obtain⟨rS,hrS⟩:∃ rS,zCB w l1=rS:=⟨_,rfl⟩;rw[hl1,hrF,hrS,← hl1]at H;simp only[putL,List.cons_append,List.nil_append]at H;have HR:=Lib.hid (And.intro hl1 (And.intro hrF hrS));clear hl1 hrF hrS;have HS:=Lib.hid hsub;clear hsub;have HI:=Lib.hid hi;clear hi
 have HK:=Lib.hid hk;clear hk;have hc:=fun (wc:World) (h:HoldG M w0 wc (putL pb lq ln lc last f g og oc pre l F zs))=>zOG d hs hn HI.out HS.out h
 obtain⟨t,ht⟩:∃ t,(setT (if d.neg then notS (if f.1 then zDK d.set else d.set) else if f.1 then zDK d.set else d.set))=t:=⟨_,rfl⟩
 simp only[ht]at hc;rw[ht];clear ht
 go_enter Tryd.func20,Tryd.ntmps20
 go_wp2_with (first|((with_reducible refine gL ?_);refine zAH wtd_ _ _ rfl rfl zAN (zBS HK.out H (i:=5) i_5) ?_)|(go_at_call 32;refine zGr (fun h=>hc _ h) H rfl i_4 HR.out.1 HR.out.2.1 HR.out.2.2 ?_;clear H;intro wp hP)|((first|((with_reducible refine kgA 3 ?_);refine kA 3 H ?_)|((with_reducible refine kgX 3 ?_);(first|refine kS 3 H ?_|refine kB 3 H ?_)));clear H;intro b3 w H;try simp only[nr]at H)|((with_reducible refine gL ?_);refine aD H ?_))
 exact⟨rfl,.tuple #[],resE rfl,hP⟩
theorem zLY (d:WordD) (hk:d.kind=2) (h2:f.2.2=true) (hn:pre.length≤1000000) (hi:l.items.length≤1000000) (hsub:∀ x ∈ l.items,x ∈ zs) (H0:HoldG M w0 w (putL pb lq ln lc last f g og oc pre l F zs)) :
  Calls Tryd.prog 20 #[.pointer (some ⟨pb,0,none⟩),zAk d] w (zBa M w0 pb lq ln lc last f g og oc pre l F zs (setT (zAm 0 256)) w):=by
 have H:=H0.framed;clear H0;obtain⟨l1,hl1⟩:∃ l1,putL pb lq ln lc last f g og oc pre l F zs=l1:=⟨_,rfl⟩;obtain⟨rF,hrF⟩:∃ rF,zBN w l1=rF:=⟨_,rfl⟩;obtain⟨rS,hrS⟩:∃ rS,zCB w l1=rS:=⟨_,rfl⟩;rw[hl1,hrF,hrS,← hl1]at H;simp only[putL,List.cons_append,List.nil_append]at H;have HR:=Lib.hid (And.intro hl1 (And.intro hrF hrS));clear hl1 hrF hrS;have HS:=Lib.hid hsub;clear hsub;have HI:=Lib.hid hi;clear hi
 have HK:=Lib.hid hk;clear hk;have hfc:∀ (W:World) (ls:List Res),HoldG M w0 W ls→At ls 0 (blkP pb lq ln lc last f g (some ⟨og,0,none⟩) (pre.length+1) oc)→W.cell? ⟨pb,4,none⟩=some (.bool true):=fun W ls H hi=>by rw[H.cell hi 4,← h2];rfl
 clear h2
 go_enter Tryd.func20,Tryd.ntmps20
 go_wp2_with (first|((with_reducible refine gL ?_);refine zAH wtd_ _ _ rfl rfl zAN (zBS HK.out H (i:=5) i_5) ?_)|((with_reducible refine gL ?_);refine zAH wtd_ _ _ rfl rfl zAZ (hfc _ _ H .zero) ?_)|((with_reducible refine ch (zNG _) H ?_);clear H;intro w H)|(go_at_call 33;refine zGr (fun h=>zER (zAm 0 256) hn HI.out HS.out h) H rfl i_4 HR.out.1 HR.out.2.1 HR.out.2.2 ?_;clear H;intro wp hP)|((first|((with_reducible refine kgA 3 ?_);refine kA 3 H ?_)|((with_reducible refine kgX 3 ?_);(first|refine kS 3 H ?_|refine kB 3 H ?_)));clear H;intro b3 w H;try simp only[nr]at H)|((with_reducible refine gZ ?_);(refine aZ ?_;(try simp only[pl]))))
 exact⟨rfl,.tuple #[],resE rfl,hP⟩
theorem zLP (d:WordD) (hk:d.kind=2) (h2:f.2.2=false) (hn:pre.length≤1000000) (hi:l.items.length≤1000000) (hsub:∀ x ∈ l.items,x ∈ zs) (H0:HoldG M w0 w (putL pb lq ln lc last f g og oc pre l F zs)) :
  Calls Tryd.prog 20 #[.pointer (some ⟨pb,0,none⟩),zAk d] w (zBa M w0 pb lq ln lc last f g og oc pre l F zs (setT (notS (ofS [10]))) w):=by
 have H:=H0.framed;clear H0;obtain⟨l1,hl1⟩:∃ l1,putL pb lq ln lc last f g og oc pre l F zs=l1:=⟨_,rfl⟩;obtain⟨rF,hrF⟩:∃ rF,zBN w l1=rF:=⟨_,rfl⟩;obtain⟨rS,hrS⟩:∃ rS,zCB w l1=rS:=⟨_,rfl⟩;rw[hl1,hrF,hrS,← hl1]at H;simp only[putL,List.cons_append,List.nil_append]at H;have HR:=Lib.hid (And.intro hl1 (And.intro hrF hrS));clear hl1 hrF hrS;have HS:=Lib.hid hsub;clear hsub;have HI:=Lib.hid hi;clear hi
 have HK:=Lib.hid hk;clear hk;have hfc:∀ (W:World) (ls:List Res),HoldG M w0 W ls→At ls 0 (blkP pb lq ln lc last f g (some ⟨og,0,none⟩) (pre.length+1) oc)→W.cell? ⟨pb,4,none⟩=some (.bool false):=fun W ls H hi=>by rw[H.cell hi 4,← h2];rfl
 clear h2;have hno:=fun w=>zCO (ofS [10]) (zBv _) w
 go_enter Tryd.func20,Tryd.ntmps20
 go_wp2_with (first|((with_reducible refine gL ?_);refine zAH wtd_ _ _ rfl rfl zAN (zBS HK.out H (i:=5) i_5) ?_)|((with_reducible refine gL ?_);refine zAH wtd_ _ _ rfl rfl zAZ (hfc _ _ H .zero) ?_)|((with_reducible refine gBS ?_);refine zCA wtd_ _ _ _ rfl H (#[.int .u8 10]) 5 (by intro W;simp only[ml];(try simp only[pe]);(try unfold setV);simp[go_sem]<;>rfl) ?_;clear H;intro b w H;try simp only[nr]at H)|((with_reducible first|refine ch (zFD _ [10] (by simp) _ (H.rdn (cs:=[.int .u8 10]) atd_ (by simp) (by simp[maxLen]))) H ?_|refine ch (hno _) H ?_);clear H;intro w H)|(go_at_call 33;refine zGr (fun h=>zER (notS (ofS [10])) hn HI.out HS.out h) H rfl i_4 HR.out.1 HR.out.2.1 HR.out.2.2 ?_;clear H;intro wp hP)|((first|((with_reducible refine kgA 3 ?_);refine kA 3 H ?_)|((with_reducible refine kgX 3 ?_);(first|refine kS 3 H ?_|refine kB 3 H ?_)));clear H;intro b3 w H;try simp only[nr]at H)|fail)
 exact⟨rfl,.tuple #[],resE rfl,hP⟩
theorem zMA (d:WordD) (hk:d.kind=3) (hn:pre.length≤1000000) (hi:l.items.length≤1000000) (hsub:∀ x ∈ l.items,x ∈ zs) (H0:HoldG M w0 w (putL pb lq ln lc last f g og oc pre l F zs)) :
  Calls Tryd.prog 20 #[.pointer (some ⟨pb,0,none⟩),zAk d] w (zBa M w0 pb lq ln lc last f g og oc pre l F zs (zFX f 8 10) w):=by
 have H:=H0.framed;clear H0;obtain⟨l1,hl1⟩:∃ l1,putL pb lq ln lc last f g og oc pre l F zs=l1:=⟨_,rfl⟩;obtain⟨rF,hrF⟩:∃ rF,zBN w l1=rF:=⟨_,rfl⟩;obtain⟨rS,hrS⟩:∃ rS,zCB w l1=rS:=⟨_,rfl⟩;rw[hl1,hrF,hrS,← hl1]at H;simp only[putL,List.cons_append,List.nil_append]at H;have HR:=Lib.hid (And.intro hl1 (And.intro hrF hrS));clear hl1 hrF hrS;have HS:=Lib.hid hsub;clear hsub;have HI:=Lib.hid hi;clear hi
 have HK:=Lib.hid hk;clear hk
 go_enter Tryd.func20,Tryd.ntmps20
 go_wp2_with (first|((with_reducible refine gL ?_);refine zAH wtd_ _ _ rfl rfl zAN (zBS HK.out H (i:=5) i_5) ?_)|(go_at_call 35;refine zGr (fun h=>zLO 8 10 hn HI.out HS.out h) H rfl i_4 HR.out.1 HR.out.2.1 HR.out.2.2 ?_;clear H;intro wp hP)|((first|((with_reducible refine kgA 3 ?_);refine kA 3 H ?_)|((with_reducible refine kgX 3 ?_);(first|refine kS 3 H ?_|refine kB 3 H ?_)));clear H;intro b3 w H;try simp only[nr]at H)|fail)
 exact⟨rfl,.tuple #[],resE rfl,hP⟩
theorem zMF (d:WordD) (hk:d.kind=4) (hn:pre.length≤1000000) (hi:l.items.length≤1000000) (hsub:∀ x ∈ l.items,x ∈ zs) (H0:HoldG M w0 w (putL pb lq ln lc last f g og oc pre l F zs)) :
  Calls Tryd.prog 20 #[.pointer (some ⟨pb,0,none⟩),zAk d] w (zBa M w0 pb lq ln lc last f g og oc pre l F zs (zFX f 9 11) w):=by
 have H:=H0.framed;clear H0;obtain⟨l1,hl1⟩:∃ l1,putL pb lq ln lc last f g og oc pre l F zs=l1:=⟨_,rfl⟩;obtain⟨rF,hrF⟩:∃ rF,zBN w l1=rF:=⟨_,rfl⟩;obtain⟨rS,hrS⟩:∃ rS,zCB w l1=rS:=⟨_,rfl⟩;rw[hl1,hrF,hrS,← hl1]at H;simp only[putL,List.cons_append,List.nil_append]at H;have HR:=Lib.hid (And.intro hl1 (And.intro hrF hrS));clear hl1 hrF hrS;have HS:=Lib.hid hsub;clear hsub;have HI:=Lib.hid hi;clear hi
 have HK:=Lib.hid hk;clear hk
 go_enter Tryd.func20,Tryd.ntmps20
 go_wp2_with (first|((with_reducible refine gL ?_);refine zAH wtd_ _ _ rfl rfl zAN (zBS HK.out H (i:=5) i_5) ?_)|(go_at_call 35;refine zGr (fun h=>zLO 9 11 hn HI.out HS.out h) H rfl i_4 HR.out.1 HR.out.2.1 HR.out.2.2 ?_;clear H;intro wp hP)|((first|((with_reducible refine kgA 3 ?_);refine kA 3 H ?_)|((with_reducible refine kgX 3 ?_);(first|refine kS 3 H ?_|refine kB 3 H ?_)));clear H;intro b3 w H;try simp only[nr]at H)|fail)
 exact⟨rfl,.tuple #[],resE rfl,hP⟩
theorem zLw (d:WordD) (hk:d.kind=5) (hn:pre.length≤1000000) (hi:l.items.length≤1000000) (hsub:∀ x ∈ l.items,x ∈ zs) (H0:HoldG M w0 w (putL pb lq ln lc last f g og oc pre l F zs)) :
  Calls Tryd.prog 20 #[.pointer (some ⟨pb,0,none⟩),zAk d] w (zBa M w0 pb lq ln lc last f g og oc pre l F zs (zDV d.spot) w):=by
 have H:=H0.framed;clear H0;obtain⟨l1,hl1⟩:∃ l1,putL pb lq ln lc last f g og oc pre l F zs=l1:=⟨_,rfl⟩;obtain⟨rF,hrF⟩:∃ rF,zBN w l1=rF:=⟨_,rfl⟩;obtain⟨rS,hrS⟩:∃ rS,zCB w l1=rS:=⟨_,rfl⟩;rw[hl1,hrF,hrS,← hl1]at H;simp only[putL,List.cons_append,List.nil_append]at H;have HR:=Lib.hid (And.intro hl1 (And.intro hrF hrS));clear hl1 hrF hrS;have HS:=Lib.hid hsub;clear hsub;have HI:=Lib.hid hi;clear hi
 have HK:=Lib.hid hk;clear hk
 go_enter Tryd.func20,Tryd.ntmps20
 go_wp2_with (first|((with_reducible refine gL ?_);refine zAH wtd_ _ _ rfl rfl zAN (zBS HK.out H (i:=5) i_5) ?_)|((with_reducible refine gL ?_);refine zAH wtd_ _ _ rfl rfl zAe (zKP H (i:=5) i_5) ?_)|(go_at_call 36;refine zGr (fun h=>zF4 (zDV d.spot) rfl hn HI.out HS.out h) H rfl i_4 HR.out.1 HR.out.2.1 HR.out.2.2 ?_;clear H;intro wp hP)|((first|((with_reducible refine kgA 3 ?_);refine kA 3 H ?_)|((with_reducible refine kgX 3 ?_);(first|refine kS 3 H ?_|refine kB 3 H ?_)));clear H;intro b3 w H;try simp only[nr]at H)|((with_reducible refine gZ ?_);refine nb1 ?_))
 exact⟨rfl,.tuple #[],resE rfl,hP⟩
end
end
end Go.Proofs.YtklcgfkdemifcaaDoor
