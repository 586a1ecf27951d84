/-
  Laws of walks, and walks.
-/
import Derived.Test.YtalggmbdpmdcbaaGreatPf16
import Derived.Test.YtalggmbdpmdcbaaGreatPf9
import Derived.Test.YtalggmbdpmdcbaaGreatPf8
set_option linter.unusedVariables false
set_option linter.unusedSimpArgs false
set_option maxRecDepth 100000
set_option maxHeartbeats 16000000
namespace Go.Proofs.YtalggmbdpmdcbaaGreat
section
open Go.RowKit Go.Shelf
attribute [local go_sem] Oper.semAt_some
abbrev zAp (bc:Nat) (v:Value) (xs:List InstD):List Res:=[.blk bc #[v] 61,.row v 47 9 xs.length (zAG (xs.map zAJ))]
def LayO (M:Nat->Prop) (w0:World) (bc:Nat) (v:Value) (xs:List InstD) (K:List Res) (w:World) (o:Option (Int × List InstD)) (e:Ending) (w':World):Prop:=match o with
 | some r=>∃ v',e=.returned (.int .i64 r.1)/\Turned M w0 w (zAp bc v xs++K) (zAp bc v' r.2++K) w'
 | none=>e=.panicked (zCH 7)/\∃ v' ys,Turned M w0 w (zAp bc v xs++K) (zAp bc v' ys++K) w'
def putQ (xs zs:List InstD):Option (Int × List InstD):=if xs.length+zs.length<=4000 then some ((xs.length:Int)+zs.length - 1,xs++zs) else none
theorem zAX {M:Nat->Prop} {w0 w W:World} {l:List Res} {bc:Nat} {v v':Value} {xs ys:List InstD} {F:Nat->Prop} {S:World->Prop} (H:HoldG M w0 W l) {i:Nat} (hi:At l i (.kn (zCb w (zAp bc v xs++[.kn F S])) (zCl w (zAp bc v xs++[.kn F S])))) (hi3:2<i) (h:[0,1,2].map (fun j=>l[j]?)=(zAp bc v' ys++[Res.kn F S]).map some) :
  Turned M w0 w (zAp bc v xs++[.kn F S]) (zAp bc v' ys++[.kn F S]) W :=
 Turned.of H hi [0,1,2] (by decide) (by simp;omega) h (fun F' S' hm b hb=>by
  simp at hm;obtain⟨rfl,rfl⟩:=hm
  exact .inl ⟨.kn F' S',by simp,hb⟩)
theorem zIQ (xs zs:List InstD):zAG (xs.map zAJ)++zAG (zs.map zAJ)=zAG ((xs++zs).map zAJ):=by rw[List.map_append,zBI]
theorem zIo (xs:List InstD):∀ u ∈ zAG (xs.map zAJ),u.oneCell'=true:=by
 intro u hu;simp only[zAG,List.map_map,List.mem_flatten,List.mem_map]at hu;obtain⟨l,⟨x,_,rfl⟩,hu⟩:=hu;have:(zAJ x).toList.all (·.oneCell')=true:=rfl;exact List.all_eq_true.1 this u hu
theorem zMB {M:Nat->Prop} {w0 w:World} (bc:Nat) (v:Value) (xs zs:List InstD) (q:Option Addr) (c:Nat) (F:Nat->Prop) (H0:HoldG M w0 w (zAp bc v xs++[.kn F (InstsR F q c zs)])) (hn:xs.length<=4000) (hz:zs.length<=2) (hz0:0<zs.length) :
  Calls Tryz.prog 26 #[.pointer (some ⟨bc,0,none⟩),.slice q zs.length c] w (LayO M w0 bc v xs [.kn F (InstsR F q c zs)] w (putQ xs zs)):=by
 obtain⟨i0,hi0,hz0',hz1,hz2⟩:=info_parts zK6;have H:=H0.framed;clear H0;obtain⟨rF,hrF⟩:∃ rF,zCb w (zAp bc v xs++[.kn F (InstsR F q c zs)])=rF:=⟨_,rfl⟩;obtain⟨rS,hrS⟩:∃ rS,zCl w (zAp bc v xs++[.kn F (InstsR F q c zs)])=rS:=⟨_,rfl⟩;rw[hrF,hrS]at H;simp only[zAp,List.cons_append,List.nil_append]at H;obtain⟨n,hnn⟩:∃ n,xs.length=n:=⟨_,rfl⟩;obtain⟨m,hmm⟩:∃ m,zs.length=m:=⟨_,rfl⟩;have hrd:∀ V,InstsR F q c zs V->RdN 9 V F (.slice q m c) (zs.map zAJ):=fun V h=>by rw[← hmm];exact h
 rw[hnn]at H hn;rw[hmm]at hz hz0 ⊢;have EQ:putQ xs zs=if n+m<=4000 then some ((n:Int)+m - 1,xs++zs) else none:=by unfold putQ;rw[hnn,hmm]
 have HN:=Lib.hid hnn;have HM:=Lib.hid hmm;clear hnn hmm
 by_cases hle:n+m<=4000
 ·rw[if_pos hle]at EQ;have d1:decide (((n:Int)+m) > 4000)=false:=by simp;omega
  have d2:decide (((n+m:Nat):Int) > 4000)=false:=by simp;omega
  rw[EQ];clear EQ
  go_enter Tryz.func26,Tryz.ntmps26
  go_wp2_with (first|(at_builtin;refine zBC rfl _ _ 32 rfl H (i:=1) evd_ evd_ i_1 (hrd _ (H.kn (i:=2) i_2)) (zAW _) Tryz.underlying32 hi0 hz0' hz1 hz2 rfl (by decide) (zIo _) (by unfold maxLen;omega) (by omega) ?_;clear H;intro v2 w2 H;(try simp only[nr]at H);(obtain⟨q2,c2,rfl,_,_,_⟩:=H.rowShape (i:=1) i_1))|(first|((with_reducible refine gT ?_);(refine aO H ?_;clear H;intro w H;try simp only[nr]at H))|((with_reducible refine gL ?_);refine aG H ?_)))
  go_ret;rw[zIQ,show n+m=(xs++zs).length by rw[List.length_append,HN.out,HM.out],← hrF,← hrS]at H
  exact⟨_,rfl,zAX H (i:=3) i_3 (by decide) (by rfl)⟩
 ·rw[if_neg hle]at EQ;have d1:decide (((n:Int)+m) > 4000)=true:=by simp;omega
  have d2:decide (((n+m:Nat):Int) > 4000)=true:=by simp;omega
  rw[EQ];clear EQ
  go_enter Tryz.func26,Tryz.ntmps26
  go_wp2_with (first|(at_builtin;refine zBC rfl _ _ 32 rfl H (i:=1) evd_ evd_ i_1 (hrd _ (H.kn (i:=2) i_2)) (zAW _) Tryz.underlying32 hi0 hz0' hz1 hz2 rfl (by decide) (zIo _) (by unfold maxLen;omega) (by omega) ?_;clear H;intro v2 w2 H;(try simp only[nr]at H);(obtain⟨q2,c2,rfl,_,_,_⟩:=H.rowShape (i:=1) i_1))|(first|((with_reducible refine gT ?_);(refine aO H ?_;clear H;intro w H;try simp only[nr]at H))|((with_reducible refine gL ?_);refine aG H ?_)))
  rw[zIQ,show n+m=(xs++zs).length by rw[List.length_append,HN.out,HM.out],← hrF,← hrS]at H
  exact⟨rfl,rfl,_,_,zAX H (i:=3) i_3 (by decide) (by rfl)⟩
section
variable {M:Nat->Prop} {P:Program} {f:FuncId} {args:Array Value} {w w0:World} {l3:List Res} {R:Ending->World->Prop} {bc:Nat} {v:Value} {xs ys:List InstD} {F:Nat->Prop} {S:World->Prop}
theorem HoldG.oneInst {l:List Res} (H:HoldG M w0 w l) {i b:Nat} {x:InstD} {T:TypeId} (hi:At l i (.blk b (zAJ x) T)) :
  ∃ F:Nat->Prop,HoldG M w0 w (l.set i (.kn F (InstsR F (some ⟨b,0,none⟩) 1 [x]))):=by
 refine⟨_,H.rest hi (InstsR (Res.foot (.blk b (zAJ x) T)) (some ⟨b,0,none⟩) 1 [x]) fun V hV=>?_⟩
 refine⟨_,_,rfl,Nat.le_refl _,by simp[maxLen],(fun h=>by cases h),fun j r hj=>?_⟩
 cases j with
 | zero =>
  simp at hj;subst hj;refine⟨b,0,rfl,rfl,rfl,fun k hk=>?_⟩
  have:=hV b rfl;rw[(H.blk hi).2]at this;simp[World.cell?,this]
 | succ j=>simp at hj
theorem zON {l:List Res}:∀ (n:Nat) (pre:List Res),pre.length=n->(List.range' n l.length).map (fun j=>(pre++l)[j]?)=l.map some:=by
 intro n pre hn;apply List.ext_getElem?;intro i;simp only[List.getElem?_map,List.getElem?_range']
 by_cases h:i<l.length
 ·simp[h,List.getElem?_append,hn]
 ·simp[h]
theorem zI1 {o:Option (Int × List InstD)} (H:HoldG M w0 w (.blk bc #[v] 61::.row v 47 9 xs.length (zAG (xs.map zAJ))::l3)) (hF:Still (.blk bc #[v] 61::.row v 47 9 xs.length (zAG (xs.map zAJ))::l3) F)
  (hS:∀ V:World,(∀ b,F b->V.heap[b]?=w.heap[b]?)->S V)
  (c:HoldG M w0 w (zAp bc v xs++[.kn F S])->Calls P f args w (LayO M w0 bc v xs [.kn F S] w o))
  (k:∀ e v' ys w',HoldG M w0 w' (.blk bc #[v'] 61::.row v' 47 9 ys.length (zAG (ys.map zAJ))::l3)->(match o with|some r=>e=.returned (.int .i64 r.1)/\ys=r.2|none=>e=.panicked (zCH 7))->Turned M w0 w (zAp bc v xs++[.kn F S]) (zAp bc v' ys++[.kn F S]) w'->R e w'):Calls P f args w R:=by
 have H2:HoldG M w0 w (zAp bc v xs++(l3++[Res.kn F S])):=H.also F S hF hS;have e:∀ (u:Value) (zs:List InstD) (k:List Res) (j:Nat),(zAp bc u zs++k)[j+2]?=k[j]?:=fun u zs k j=>rfl
 have hlast:(zAp bc v xs++(l3++[Res.kn F S]))[l3.length+2]?=some (Res.kn F S):=by rw[e];simp
 have hp:[0,1,l3.length+2].map (fun j=>(zAp bc v xs++(l3++[Res.kn F S]))[j]?)=(zAp bc v xs++[Res.kn F S]).map some:=by
  simp only[List.map_cons,List.map_nil,hlast];rfl
 have hq:(List.range' 2 l3.length).map (fun j=>(zAp bc v xs++(l3++[Res.kn F S]))[j]?)=l3.map some:=by
  have:=zON (l:=l3) 2 (zAp bc v xs) rfl;rw[← this];apply List.map_congr_left;intro j hj;rw[List.mem_range'_1]at hj;obtain⟨q,rfl⟩:∃ q,j=q+2:=⟨j - 2,by omega⟩
  rw[e,e,List.getElem?_append_left (by omega)]
 refine(c (H2.pick [0,1,l3.length+2] _ (by simp) hp)).mono ?_
 have key:∀ v' ys w',Turned M w0 w (zAp bc v xs++[.kn F S]) (zAp bc v' ys++[.kn F S]) w'->HoldG M w0 w' (.blk bc #[v'] 61::.row v' 47 9 ys.length (zAG (ys.map zAJ))::l3):=by
  intro v' ys w' T
  have H3:=H2.callIn T [0,1,l3.length+2] (List.range' 2 l3.length) (l3:=l3) hp hq List.nodup_range' (fun j hj h=>by
   rw[List.mem_range'_1]at h
   simp at hj;omega)
  refine H3.pick ([0,1]++List.range' 3 l3.length) _ ?_ ?_
  ·rw[List.nodup_append];refine⟨by decide,List.nodup_range',fun a ha b hb=>?_⟩
   rw[List.mem_range'_1]at hb;simp at ha;omega
  ·have:=zON (l:=l3) 3 (zAp bc v' ys++[Res.kn F S]) rfl;rw[List.map_append,this];rfl
 intro e' w' h
 cases o with
 | some r =>
  obtain⟨v',rfl,T⟩:=h;exact k _ v' r.2 w' (key _ _ _ T) ⟨rfl,rfl⟩ T
 | none =>
  obtain⟨rfl,v',ys,T⟩:=h;exact k _ v' ys w' (key _ _ _ T) rfl T
theorem zDm {i b:Nat} {x:InstD} (H:HoldG M w0 w (.blk bc #[v] 61::.row v 47 9 xs.length (zAG (xs.map zAJ))::l3)) (hn:xs.length<=4000) (hi:At l3 i (.kn F (InstsR F (some ⟨b,0,none⟩) 1 [x]))) (hl:xs.length<4000)
  (k:∀ (v':Value) (ys:List InstD) w',HoldG M w0 w' (.blk bc #[v'] 61::.row v' 47 9 ys.length (zAG (ys.map zAJ))::l3)->Hid (ys=xs++[x])->R (.returned (.int .i64 xs.length)) w') :
  Calls Tryz.prog 26 #[.pointer (some ⟨bc,0,none⟩),.slice (some ⟨b,0,none⟩) 1 1] w R:=by
 refine zI1 H (Still.at (i:=i+2) (.succ (.succ hi))) (fun V hV=>(H.kn (i:=i+2) (.succ (.succ hi))).kept hV) (fun h=>zMB bc v xs [x] _ 1 F h hn (by simp) (by simp)) ?_
 intro e v' ys w' H' h _;unfold putQ at h;rw[if_pos (by simp;omega)]at h
 obtain⟨rfl,rfl⟩:=h;have:((xs.length:Int)+([x].length:Nat) - 1)=xs.length:=by simp
 rw[this];exact k _ _ _ H' (Lib.hid rfl)
theorem zEo {i b:Nat} {x:InstD} (H:HoldG M w0 w (.blk bc #[v] 61::.row v 47 9 xs.length (zAG (xs.map zAJ))::l3)) (hn:xs.length<=4000) (hi:At l3 i (.kn F (InstsR F (some ⟨b,0,none⟩) 1 [x]))) (hl:¬ xs.length<4000)
  (k:∀ (v':Value) (ys:List InstD) w',HoldG M w0 w' (.blk bc #[v'] 61::.row v' 47 9 ys.length (zAG (ys.map zAJ))::l3)->R (.panicked (zCH 7)) w') :
  Calls Tryz.prog 26 #[.pointer (some ⟨bc,0,none⟩),.slice (some ⟨b,0,none⟩) 1 1] w R:=by
 refine zI1 H (Still.at (i:=i+2) (.succ (.succ hi))) (fun V hV=>(H.kn (i:=i+2) (.succ (.succ hi))).kept hV) (fun h=>zMB bc v xs [x] _ 1 F h hn (by simp) (by simp)) ?_
 intro e v' ys w' H' h _;unfold putQ at h;rw[if_neg (by simp;omega)]at h
 subst h;exact k _ _ _ H'
end
theorem zNr (d:NodeD) (s:Value) (i o:Int) (w0:World):Calls Tryz.prog 117 #[zAV d s,.int .i64 i,.int .i64 o] w0 (Rt (zA2 (zCK d i o)) w0):=by
 have H:=Hold.start w0
 cases hl:d.lazy with
 | true =>
  have E:=Lib.hid (show zCK d i o={kind:=2,next:=o,other:=i} by unfold zCK;rw[hl];rfl)
  go_enter Tryz.func117,Tryz.ntmps117
  go_wp2_with (first|(first|((with_reducible refine gTi ?_);refine aTi H ?_;clear H;intro w H;try simp only[nr]at H)|((with_reducible refine gBi ?_);refine ib3 ?_)|((with_reducible refine gL ?_);refine aGb H ?_)|((with_reducible refine gX ?_);(refine bB H ?_;clear H;intro b w H;try simp only[nr]at H))|((with_reducible refine gA ?_);(refine bA H ?_;clear H;intro b w H;try simp only[nr]at H))))
  (refine xc Tryz.results117 H ?_ (hT:=zAj))
  exact⟨by rw[E.out],H.below⟩
 | false =>
  have E:=Lib.hid (show zCK d i o={kind:=2,next:=i,other:=o} by unfold zCK;rw[hl];rfl)
  go_enter Tryz.func117,Tryz.ntmps117
  go_wp2_with (first|(first|((with_reducible refine gTi ?_);refine aTi H ?_;clear H;intro w H;try simp only[nr]at H)|((with_reducible refine gBi ?_);refine ib3 ?_)|((with_reducible refine gL ?_);refine aGb H ?_)|((with_reducible refine gX ?_);(refine bB H ?_;clear H;intro b w H;try simp only[nr]at H))|((with_reducible refine gA ?_);(refine bA H ?_;clear H;intro b w H;try simp only[nr]at H))))
  (refine xc Tryz.results117 H ?_ (hT:=zAj))
  exact⟨by rw[E.out],H.below⟩
def capQ (r:LayR):Option (Int × List InstD):=if r.2.length<=4000 then some ((r.1:Int),r.2) else none
def oneQ (d:NodeD) (out:Nat) (xs:List InstD):LayR :=
 if d.kind=1 then (out,xs) else (xs.length,xs++[if d.kind=2 then {kind:=6} else if d.kind=3 then {kind:=1,set:=d.set,next:=out} else {kind:=4,spot:=d.kind,next:=out}])
theorem zHr {d:NodeD} {out:Nat} {xs:List InstD} {x:InstD} (h:oneQ d out xs=(xs.length,xs++[x])):(xs.length<4000->capQ (oneQ d out xs)=some ((xs.length:Int),xs++[x]))/\(¬ xs.length<4000->capQ (oneQ d out xs)=none):=by
 rw[h];unfold capQ;refine⟨fun hl=>if_pos (by simp;omega),fun hl=>if_neg (by simp;omega)⟩
theorem zPr {M:Nat->Prop} {w0 w:World} (bc:Nat) (v:Value) (xs:List InstD) (d:NodeD) (s:Value) (out:Nat) (F:Nat->Prop) (S:World->Prop) (H0:HoldG M w0 w (zAp bc v xs++[.kn F S])) (hn:xs.length<=4000) :
  Calls Tryz.prog 59 #[.pointer (some ⟨bc,0,none⟩),zAV d s,.int .i64 out] w (LayO M w0 bc v xs [.kn F S] w (capQ (oneQ d out xs))):=by
 have H:=H0.framed;clear H0;obtain⟨rF,hrF⟩:∃ rF,zCb w (zAp bc v xs++[.kn F S])=rF:=⟨_,rfl⟩;obtain⟨rS,hrS⟩:∃ rS,zCl w (zAp bc v xs++[.kn F S])=rS:=⟨_,rfl⟩;rw[hrF,hrS]at H;simp only[zAp,List.cons_append,List.nil_append]at H
 by_cases k1:d.kind=1
 ·have d1:(d.kind == 1)=true:=by rw[beq_iff_eq];exact k1
  have E:=Lib.hid (show capQ (oneQ d out xs)=some ((out:Int),xs) by unfold oneQ capQ;rw[if_pos k1];simp[hn])
  clear k1
  go_enter Tryz.func59,Tryz.ntmps59
  go_wp2_with (first|(first|((with_reducible refine gTi ?_);refine aTi H ?_;clear H;intro w H;try simp only[nr]at H)|((with_reducible refine gBi ?_);refine ib5 ?_)|((with_reducible refine gL ?_);refine aG H ?_)|((with_reducible refine gX ?_);(refine bB H ?_;clear H;intro b w H;try simp only[nr]at H))|((with_reducible refine gA ?_);(refine bA H ?_;clear H;intro b w H;try simp only[nr]at H))))
  go_ret;rw[E.out];rw[← hrF,← hrS]at H;exact⟨_,rfl,zAX H (i:=3) i_3 (by decide) (by rfl)⟩
 have d1:(d.kind == 1)=false:=by rw[beq_eq_false_iff_ne];exact k1
 by_cases k2:d.kind=2
 ·have d2:(d.kind == 2)=true:=by rw[beq_iff_eq];exact k2
  have E:=Lib.hid (zHr (d:=d) (out:=out) (xs:=xs) (x:={kind:=6}) (by unfold oneQ;rw[if_neg k1,if_pos k2]))
  clear k1 k2
  go_enter Tryz.func59,Tryz.ntmps59
  go_upto_region 9 with (first|(first|((with_reducible refine gTi ?_);refine aTi H ?_;clear H;intro w H;try simp only[nr]at H)|((with_reducible refine gBi ?_);refine ib1 ?_)|((with_reducible refine gBi ?_);refine ib5 ?_)|((with_reducible refine gL ?_);refine aG H ?_)|((with_reducible refine gX ?_);(refine bB H ?_;clear H;intro b w H;try simp only[nr]at H))|((with_reducible refine gA ?_);(refine bA H ?_;clear H;intro b w H;try simp only[nr]at H))))
  refine zAg 5 [fun v _=>v=pt bc 0,fun v _=>v=pt bc 0,fun v _=>v=pt bc 0,fun v _=>v=zA2 {kind:=6},zCo w.heap.size (zAJ {kind:=6}) 47] (fun _=>false) (by kernel_rfl) (by kernel_rfl) (by kernel_rfl) (by repeat (first|exact trivial|refine⟨zAL _,?_⟩|refine⟨zA1 _ _ _,?_⟩)) (fun _ _ h=>by cases h) ?ob ?en
  case ob =>
   refine⟨?_,?_,?_,?_,?_,trivial⟩<;>intro A W h
   ·exact zAH rfl rfl (h.f 0)
   ·(have e26:A.eval (.tmp 26)=.pointer (some ⟨bc,0,none⟩):=h.d 0 26;refine zAA rfl ?_;simp only[execOp,e26];simp[go_sem])
   ·(have e27:A.eval (.tmp 27)=.pointer (some ⟨bc,0,none⟩):=h.d 1 27;refine zAA rfl ?_;simp only[execOp,e27];simp[go_sem])
   ·exact zAA rfl (zAb rfl (h.f 7) zAj rfl (fun k _=>by rw[Nat.zero_add];exact(H.call h.below).cell (i:=5) i_5 k)) (by decide)
   ·exact zCU rfl rfl (h.d 3 29) h.below.size (by decide)
  case en =>
   intro vals W hbw hv _;have x4:=hv 4 (by omega);simp only[zAe]at x4
   simp only[fa,Nat.reduceAdd];rw[e_ hv 0,e_ hv 1,e_ hv 2,e_ hv 3];clear hv
   try simp only[pl]
   obtain⟨bk,e4,H2⟩:=H.gainS hbw x4;rw[e4];clear x4 e4 hbw H;have H:=H2;clear H2;simp only[ca]at H;obtain⟨Fk,H2⟩:=H.oneInst (i:=6) i_6;clear H;have H:=H2;clear H2;simp only[sc]at H
   by_cases hl:xs.length<4000
   ·go_wp2_with (first|(go_at_call 26;refine zDm H hn (i:=4) i_4 hl ?_;clear H;intro v2 ys w H hys)|fail)
    go_ret;rw[(E.out).1 hl,← hys.out];rw[← hrF,← hrS]at H;exact⟨_,rfl,zAX H (i:=3) i_3 (by decide) (by rfl)⟩
   ·go_wp2_with (first|(go_at_call 26;refine zEo H hn (i:=4) i_4 hl ?_;clear H;intro v2 ys w H)|fail)
    rw[(E.out).2 hl];rw[← hrF,← hrS]at H;exact⟨rfl,rfl,_,_,zAX H (i:=3) i_3 (by decide) (by rfl)⟩
 have d2:(d.kind == 2)=false:=by rw[beq_eq_false_iff_ne];exact k2
 by_cases k3:d.kind=3
 ·have d3:(d.kind == 3)=true:=by rw[beq_iff_eq];exact k3
  have E:=Lib.hid (zHr (d:=d) (out:=out) (xs:=xs) (x:={kind:=1,set:=d.set,next:=out}) (by unfold oneQ;rw[if_neg k1,if_neg k2,if_pos k3]))
  clear k1 k2 k3
  go_enter Tryz.func59,Tryz.ntmps59
  go_upto_region 9 with (first|(first|((with_reducible refine gTi ?_);refine aTi H ?_;clear H;intro w H;try simp only[nr]at H)|((with_reducible refine gBi ?_);refine ib2 ?_)|((with_reducible refine gBi ?_);refine ib5 ?_)|((with_reducible refine gL ?_);(first|refine aVn H ?_|refine aG H ?_))|((with_reducible refine gX ?_);(refine bB H ?_;clear H;intro b w H;try simp only[nr]at H))|((with_reducible refine gA ?_);(refine bA H ?_;clear H;intro b w H;try simp only[nr]at H))))
  refine zAg 5 [fun v _=>v=pt bc 0,fun v _=>v=pt bc 0,fun v _=>v=pt bc 0,fun v _=>v=zA2 {kind:=1,set:=d.set,next:=out},zCo w.heap.size (zAJ {kind:=1,set:=d.set,next:=out}) 47] (fun _=>false) (by kernel_rfl) (by kernel_rfl) (by kernel_rfl) (by repeat (first|exact trivial|refine⟨zAL _,?_⟩|refine⟨zA1 _ _ _,?_⟩)) (fun _ _ h=>by cases h) ?ob ?en
  case ob =>
   refine⟨?_,?_,?_,?_,?_,trivial⟩<;>intro A W h
   ·exact zAH rfl rfl (h.f 0)
   ·(have e26:A.eval (.tmp 26)=.pointer (some ⟨bc,0,none⟩):=h.d 0 26;refine zAA rfl ?_;simp only[execOp,e26];simp[go_sem])
   ·(have e27:A.eval (.tmp 27)=.pointer (some ⟨bc,0,none⟩):=h.d 1 27;refine zAA rfl ?_;simp only[execOp,e27];simp[go_sem])
   ·exact zAA rfl (zAb rfl (h.f 7) zAj rfl (fun k _=>by rw[Nat.zero_add];exact(H.call h.below).cell (i:=5) i_5 k)) (by decide)
   ·exact zCU rfl rfl (h.d 3 29) h.below.size (by decide)
  case en =>
   intro vals W hbw hv _;have x4:=hv 4 (by omega);simp only[zAe]at x4
   simp only[fa,Nat.reduceAdd];rw[e_ hv 0,e_ hv 1,e_ hv 2,e_ hv 3];clear hv
   try simp only[pl]
   obtain⟨bk,e4,H2⟩:=H.gainS hbw x4;rw[e4];clear x4 e4 hbw H;have H:=H2;clear H2;simp only[ca]at H;obtain⟨Fk,H2⟩:=H.oneInst (i:=6) i_6;clear H;have H:=H2;clear H2;simp only[sc]at H
   by_cases hl:xs.length<4000
   ·go_wp2_with (first|(go_at_call 26;refine zDm H hn (i:=4) i_4 hl ?_;clear H;intro v2 ys w H hys)|fail)
    go_ret;rw[(E.out).1 hl,← hys.out];rw[← hrF,← hrS]at H;exact⟨_,rfl,zAX H (i:=3) i_3 (by decide) (by rfl)⟩
   ·go_wp2_with (first|(go_at_call 26;refine zEo H hn (i:=4) i_4 hl ?_;clear H;intro v2 ys w H)|fail)
    rw[(E.out).2 hl];rw[← hrF,← hrS]at H;exact⟨rfl,rfl,_,_,zAX H (i:=3) i_3 (by decide) (by rfl)⟩
 have d3:(d.kind == 3)=false:=by rw[beq_eq_false_iff_ne];exact k3
 ·have E:=Lib.hid (zHr (d:=d) (out:=out) (xs:=xs) (x:={kind:=4,next:=out,spot:=d.kind}) (by unfold oneQ;rw[if_neg k1,if_neg k2,if_neg k3]))
  clear k1 k2 k3
  go_enter Tryz.func59,Tryz.ntmps59
  go_upto_region 9 with (first|(first|((with_reducible refine gTi ?_);refine aTi H ?_;clear H;intro w H;try simp only[nr]at H)|((with_reducible refine gBi ?_);refine ib5 ?_)|((with_reducible refine gL ?_);refine aG H ?_)|((with_reducible refine gX ?_);(refine bB H ?_;clear H;intro b w H;try simp only[nr]at H))|((with_reducible refine gA ?_);(refine bA H ?_;clear H;intro b w H;try simp only[nr]at H))))
  refine zAg 5 [fun v _=>v=pt bc 0,fun v _=>v=pt bc 0,fun v _=>v=pt bc 0,fun v _=>v=zA2 {kind:=4,next:=out,spot:=d.kind},zCo w.heap.size (zAJ {kind:=4,next:=out,spot:=d.kind}) 47] (fun _=>false) (by kernel_rfl) (by kernel_rfl) (by kernel_rfl) (by repeat (first|exact trivial|refine⟨zAL _,?_⟩|refine⟨zA1 _ _ _,?_⟩)) (fun _ _ h=>by cases h) ?ob ?en
  case ob =>
   refine⟨?_,?_,?_,?_,?_,trivial⟩<;>intro A W h
   ·exact zAH rfl rfl (h.f 0)
   ·(have e26:A.eval (.tmp 26)=.pointer (some ⟨bc,0,none⟩):=h.d 0 26;refine zAA rfl ?_;simp only[execOp,e26];simp[go_sem])
   ·(have e27:A.eval (.tmp 27)=.pointer (some ⟨bc,0,none⟩):=h.d 1 27;refine zAA rfl ?_;simp only[execOp,e27];simp[go_sem])
   ·exact zAA rfl (zAb rfl (h.f 7) zAj rfl (fun k _=>by rw[Nat.zero_add];exact(H.call h.below).cell (i:=5) i_5 k)) (by decide)
   ·exact zCU rfl rfl (h.d 3 29) h.below.size (by decide)
  case en =>
   intro vals W hbw hv _;have x4:=hv 4 (by omega);simp only[zAe]at x4
   simp only[fa,Nat.reduceAdd];rw[e_ hv 0,e_ hv 1,e_ hv 2,e_ hv 3];clear hv
   try simp only[pl]
   obtain⟨bk,e4,H2⟩:=H.gainS hbw x4;rw[e4];clear x4 e4 hbw H;have H:=H2;clear H2;simp only[ca]at H;obtain⟨Fk,H2⟩:=H.oneInst (i:=6) i_6;clear H;have H:=H2;clear H2;simp only[sc]at H
   by_cases hl:xs.length<4000
   ·go_wp2_with (first|(go_at_call 26;refine zDm H hn (i:=4) i_4 hl ?_;clear H;intro v2 ys w H hys)|fail)
    go_ret;rw[(E.out).1 hl,← hys.out];rw[← hrF,← hrS]at H;exact⟨_,rfl,zAX H (i:=3) i_3 (by decide) (by rfl)⟩
   ·go_wp2_with (first|(go_at_call 26;refine zEo H hn (i:=4) i_4 hl ?_;clear H;intro v2 ys w H)|fail)
    rw[(E.out).2 hl];rw[← hrF,← hrS]at H;exact⟨rfl,rfl,_,_,zAX H (i:=3) i_3 (by decide) (by rfl)⟩
def BelR (w w':World):Prop:=Below w.heap.size w w'
theorem BelR.refl (w:World):BelR w w:=Below.refl _ w
theorem BelR.trans (u v w:World) (h:BelR u v) (k:BelR v w):BelR u w:=Below.trans h (k.mono h.size)
theorem BelR.drew (w:World):BelR w {w with drawn:=w.drawn+1}:=⟨rfl,rfl,rfl,Nat.le_refl _,fun _ _=>rfl⟩
def ownD (bc:Nat) (w:World) (k:Nat):Prop:=k=bc\/∃ v,w.cell? ⟨bc,0,none⟩=some v/\v.ownBlock=some k
structure PutR (bc n0:Nat) (u v:World):Prop where
 old:bc<u.heap.size->∀ k,k<u.heap.size->¬ ownD bc u k->k<v.heap.size/\v.heap[k]?=u.heap[k]?
 bclt:bc<u.heap.size->bc<v.heap.size
 own:bc<u.heap.size->∀ k,ownD bc v k->ownD bc u k\/u.heap.size<=k
 lt:bc<u.heap.size->(∀ k,ownD bc u k->k<u.heap.size)->∀ k,ownD bc v k->k<v.heap.size
 base:n0<=u.heap.size->n0<=v.heap.size
theorem zFE {bc:Nat} {u v:World} (h:Below u.heap.size u v) (hb:bc<u.heap.size) (k:Nat):ownD bc v k↔ownD bc u k:=by
 unfold ownD World.cell?;simp only[h.block bc hb]
theorem PutR.bel (bc n0:Nat) (u v:World) (h:BelR u v):PutR bc n0 u v :=
 ⟨fun _ k hk _=>⟨Nat.lt_of_lt_of_le hk h.size,h.block k hk⟩,fun hb=>Nat.lt_of_lt_of_le hb h.size,fun hb k hk=>.inl ((zFE h hb k).1 hk),fun hb ha k hk=>Nat.lt_of_lt_of_le (ha k ((zFE h hb k).1 hk)) h.size,fun hn=>Nat.le_trans hn h.size⟩
theorem PutR.trans (bc n0:Nat) (u v w:World) (h:PutR bc n0 u v) (k:PutR bc n0 v w):PutR bc n0 u w:=by
 have hD:bc<u.heap.size->∀ z,z<u.heap.size->¬ ownD bc u z->¬ ownD bc v z:=fun hb z hz hn hv=>(h.own hb z hv).elim hn (fun h=>by omega)
 refine⟨fun hb z hz hn=>?_,fun hb=>k.bclt (h.bclt hb),fun hb z hz=>?_,fun hb ha=>k.lt (h.bclt hb) (h.lt hb ha),fun hn=>k.base (h.base hn)⟩
 ·obtain⟨h1,h2⟩:=h.old hb z hz hn;obtain⟨k1,k2⟩:=k.old (h.bclt hb) z h1 (hD hb z hz hn);exact⟨k1,k2.trans h2⟩
 ·rcases k.own (h.bclt hb) z hz with h1|h1
  ·exact h.own hb z h1
  ·refine Classical.byContradiction fun hno=>?_
   rw[not_or]at hno;have:=(h.old hb z (by omega) hno.1).1
   omega
def zGz (bc n0:Nat) (w0:World) (cs:Array Value) (T:TypeId) (v:Value) (W:World):Prop :=
 bc<W.heap.size/\∃ b,v=.slice (some ⟨b,0,none⟩) 1 1/\n0<=b/\W.heap[b]?=some (.cells cs T (0,0))/\¬ ownD bc W b/\¬ (b<w0.heap.size/\¬ ownD bc w0 b)
theorem zDa {bc n0:Nat} (w0:World) (cs:Array Value) (T:TypeId):zFC (PutR bc n0) (zGz bc n0 w0 cs T):=fun v u w ⟨hb,b,e,h0,h1,h2,h3⟩ hr=>by
 have hlt:=(Array.getElem?_eq_some_iff.1 h1).1;refine⟨hr.bclt hb,b,e,h0,((hr.old hb b hlt h2).2).trans h1,fun hd=>?_,h3⟩
 rcases hr.own hb b hd with h|h
 ·exact h2 h
 ·omega
section
variable {M:Nat->Prop} {P:Program} {w0 w W:World} {l3:List Res} {bc:Nat} {v:Value} {xs:List InstD} {F:Nat->Prop} {S:World->Prop}
theorem zCZ {l:List Res} (H:HoldG M w0 w (.blk bc #[v] 61::l)) (k:Nat):ownD bc w k↔k=bc\/v.ownBlock=some k:=by
 have hc:w.cell? ⟨bc,0,none⟩=some v:=H.cell (i:=0) .zero 0;unfold ownD;rw[hc];constructor
 ·rintro(h|⟨v',h1,h2⟩)
  ·exact .inl h
  ·cases h1;exact .inr h2
 ·rintro(h|h)
  ·exact .inl h
  ·exact .inr ⟨v,rfl,h⟩
theorem zEU {l:List Res} (H:HoldG M w0 w (.blk bc #[v] 61::l)):bc<w.heap.size:=(Array.getElem?_eq_some_iff.1 (H.blk (i:=0) .zero).2).1
theorem zFi (H:HoldG M w0 w (.blk bc #[v] 61::.row v 47 9 xs.length (zAG (xs.map zAJ))::l3)) (k:Nat) (h:ownD bc w k):k<w.heap.size:=by
 rcases(zCZ H k).1 h with rfl|h
 ·exact zEU H
 ·exact((H.all 1 _ rfl).lt k h).2
theorem PutR.turned {v':Value} {ys:List InstD} {l:List Res} (H:HoldG M w0 w (.blk bc #[v] 61::.row v 47 9 xs.length (zAG (xs.map zAJ))::l3)) (T:Turned M w0 w (zAp bc v xs++[.kn F S]) (zAp bc v' ys++[.kn F S]) W):PutR bc w0.heap.size w W:=by
 have H':=T.hold;simp only[zAp,List.cons_append,List.nil_append]at H';refine⟨fun hb k hk hn=>?_,fun _=>zEU H',fun hb k hk=>?_,fun _ _ k hk=>zFi H' k hk,fun _=>T.hold.keep.size⟩
 ·have hr:zCb w (zAp bc v xs++[.kn F S]) k:=by
   refine⟨hk,fun r hr hp=>hn ((zCZ H k).2 ?_)⟩
   simp only[zAp,List.cons_append,List.nil_append,List.mem_cons,List.not_mem_nil,or_false]at hr;rcases hr with rfl|rfl|rfl
   ·cases hp;exact .inl rfl
   ·exact .inr hp
   ·cases hp
  exact⟨T.lt k hr,T.rest k hr⟩
 ·rcases(zCZ H' k).1 hk with rfl|h
  ·exact .inl ((zCZ H k).2 (.inl rfl))
  ·rcases T.place _ (by simp:Res.row v' 47 9 ys.length (zAG (ys.map zAJ)) ∈ zAp bc v' ys++[.kn F S]) k h with ⟨s,hs,hp⟩|h
   ·refine .inl ((zCZ H k).2 ?_);simp only[zAp,List.cons_append,List.nil_append,List.mem_cons,List.not_mem_nil,or_false]at hs;rcases hs with rfl|rfl|rfl
    ·cases hp;exact .inl rfl
    ·exact .inr hp
    ·cases hp
   ·exact .inr h
theorem zEm (H:HoldG M w0 w (.blk bc #[v] 61::.row v 47 9 xs.length (zAG (xs.map zAJ))::l3)) {i:Nat} {r:Res} (hi:l3[i]?=some r) (k:Nat) (hk:r.foot k):k<w.heap.size/\¬ ownD bc w k:=by
 refine⟨(H.all (i+2) r (by simpa using hi)).ltf k hk,fun hd=>?_⟩
 rcases(zCZ H k).1 hd with rfl|h
 ·exact H.apart 0 (i+2) _ r (by omega) rfl (by simpa using hi) k rfl hk
 ·exact H.apart 1 (i+2) _ r (by omega) rfl (by simpa using hi) k h hk
theorem zNj (H:HoldG M w0 w (.blk bc #[v] 61::.row v 47 9 xs.length (zAG (xs.map zAJ))::l3)) (hr:PutR bc w0.heap.size w W) {i b:Nat} {cs:Array Value} {T:TypeId} (hi:At l3 i (.blk b cs T)):W.heap[b]?=some (.cells cs T (0,0)):=by
 obtain⟨h1,h2⟩:=zEm H hi.get b rfl;exact(hr.old (zEU H) b h1 h2).2.trans (H.blk (i:=i+2) (.succ (.succ hi))).2
theorem zB6 (H:HoldG M w0 w (.blk bc #[v] 61::.row v 47 9 xs.length (zAG (xs.map zAJ))::l3)) (hr:PutR bc w0.heap.size w W) {i b:Nat} {cs:Array Value} {T:TypeId} (hi:At l3 i (.blk b cs T)) (k:Nat):W.cell? ⟨b,k,none⟩=cs[k]?:=cell_of_row W b k cs T (0,0) (zNj H hr hi)
theorem zHT (H:HoldG M w0 w (.blk bc #[v] 61::.row v 47 9 xs.length (zAG (xs.map zAJ))::l3)) (hr:PutR bc w0.heap.size w W) {i:Nat} (hi:At l3 i (.kn F S)):S W:=by
 have h:(Res.kn F S).Holds M w0.heap.size w:=H.all (i+2) _ (by simpa using hi.get)
 exact h.2 W fun b hb=>(hr.old (zEU H) b (zEm H hi.get b hb).1 (zEm H hi.get b hb).2).2
theorem zGP {v':Value} {ys:List InstD} (H:HoldG M w0 w (.blk bc #[v] 61::.row v 47 9 xs.length (zAG (xs.map zAJ))::l3)) (H2:HoldG M w0 W (.blk bc #[v'] 61::.row v' 47 9 ys.length (zAG (ys.map zAJ))::l3)) {x:Value} {cs:Array Value} {T:TypeId} (h:zGz bc w0.heap.size w cs T x W) :
  ∃ b,x=.slice (some ⟨b,0,none⟩) 1 1/\HoldG M w0 W (.blk bc #[v'] 61::.row v' 47 9 ys.length (zAG (ys.map zAJ))::(l3++[.blk b cs T])):=by
 obtain⟨hb,b,e,h0,h1,h2,h3⟩:=h;refine⟨b,e,?_⟩
 have key:∀ (j:Nat) (s:Res),(Res.blk bc #[v'] 61::.row v' 47 9 ys.length (zAG (ys.map zAJ))::l3)[j]?=some s->¬ s.foot b:=by
  intro j s hs hf
  match j,hs with
  | 0,hs=>cases hs;exact h2 ((zCZ H2 b).2 (.inl (by cases hf;rfl)))
  | 1,hs=>cases hs;exact h2 ((zCZ H2 b).2 (.inr hf))
  | j+2,hs=>exact h3 (zEm H (i:=j) (by simpa using hs) b hf)
 have hl:(Res.blk bc #[v'] 61::.row v' 47 9 ys.length (zAG (ys.map zAJ))::(l3++[.blk b cs T]))=(Res.blk bc #[v'] 61::.row v' 47 9 ys.length (zAG (ys.map zAJ))::l3)++[.blk b cs T]:=by simp
 rw[hl];clear hl
 generalize (Res.blk bc #[v'] 61::.row v' 47 9 ys.length (zAG (ys.map zAJ))::l3)=L at H2 key ⊢
 refine⟨H2.keep,?_,?_⟩
 ·intro j s hs;rw[List.getElem?_append]at hs;split at hs
  ·exact H2.all j s hs
  ·rcases List.getElem?_eq_some_iff.1 hs with ⟨h3,h4⟩
   simp at h3;simp[h3]at h4;subst h4;exact⟨.inl h0,h1⟩
 ·intro j k s t hjk hs ht;rw[List.getElem?_append]at hs ht;split at hs
  ·split at ht
   ·exact H2.apart j k s t hjk hs ht
   ·rcases List.getElem?_eq_some_iff.1 ht with ⟨h3,h4⟩
    simp at h3;simp[h3]at h4;subst h4;intro z hz1 hz2;have e:some b=some z:=hz2
    cases e;exact key j s hs (Res.place_foot hz1)
  ·rcases List.getElem?_eq_some_iff.1 hs with ⟨h3,h4⟩
   simp at h3;simp[h3]at h4;subst h4;split at ht
   ·intro z hz1 hz2
    cases hz1;exact key k t ht hz2
   ·rcases List.getElem?_eq_some_iff.1 ht with ⟨h5,h6⟩
    simp at h5;omega
end
section
variable {M:Nat->Prop} {P:Program} {ops:Array Oper} {o:Oper} {a:Act} {w w0:World} {Q:Exit->Act->World->Prop} {l3:List Res} {bc:Nat} {v:Value} {xs:List InstD} {F:Nat->Prop} {S:World->Prop}
theorem zMl {f:FuncId} {ar:Array Operand} {ts:Array TypeId} {vs:Array Value} {r:Int × List InstD} (hg:Region.wanted o (yielded ops a.tmps)=true)
  (hop:o.op=Op.call {callee:=Callee.value (Operand.func f),args:=ar,argTypes:=ts}) (hf:∀ args w,(callFunc f args).run P w=.ok (.enter f args) w) (hx:ar.map a.eval=vs)
  (H:HoldG M w0 w (.blk bc #[v] 61::.row v 47 9 xs.length (zAG (xs.map zAJ))::l3)) (hF:Still (.blk bc #[v] 61::.row v 47 9 xs.length (zAG (xs.map zAJ))::l3) F)
  (hS:∀ V:World,(∀ b,F b->V.heap[b]?=w.heap[b]?)->S V)
  (hc:HoldG M w0 w (zAp bc v xs++[.kn F S])->Calls P f vs w (LayO M w0 bc v xs [.kn F S] w (some r))) :
  zFT P ops (PutR bc w0.heap.size) Q o a w (fun v' w'=>v'=.int .i64 r.1/\∃ v2,HoldG M w0 w' (.blk bc #[v2] 61::.row v2 47 9 r.2.length (zAG (r.2.map zAJ))::l3)):=by
 unfold zFT;rw[if_pos hg];unfold Oper.wp;have hr:(execOp a.eval o).run P w=.ok (.enter f vs) w:=by
  simp only[execOp,hop];simp[resolve,hx];rw[show a.eval (Operand.func f)=.func (.func f) #[] #[] from rfl]
  simp[go_sem];exact hf _ _
 rw[hr];simp only[Oper.upon];refine zI1 H hF hS hc ?_
 intro e v2 ys w' H2 he T;obtain⟨rfl,rfl⟩:=he;exact⟨_,rfl,PutR.turned (l:=[]) H T,rfl,v2,H2⟩
theorem zJR {f:FuncId} {ar:Array Operand} {ts:Array TypeId} {vs:Array Value} {S':Value->World->Prop} (hg:Region.wanted o (yielded ops a.tmps)=true)
  (hop:o.op=Op.call {callee:=Callee.value (Operand.func f),args:=ar,argTypes:=ts}) (hf:∀ args w,(callFunc f args).run P w=.ok (.enter f args) w) (hx:ar.map a.eval=vs)
  (H:HoldG M w0 w (.blk bc #[v] 61::.row v 47 9 xs.length (zAG (xs.map zAJ))::l3)) (hF:Still (.blk bc #[v] 61::.row v 47 9 xs.length (zAG (xs.map zAJ))::l3) F)
  (hS:∀ V:World,(∀ b,F b->V.heap[b]?=w.heap[b]?)->S V)
  (hc:HoldG M w0 w (zAp bc v xs++[.kn F S])->Calls P f vs w (LayO M w0 bc v xs [.kn F S] w none))
  (hQ:∀ (v2:Value) (ys:List InstD) w',HoldG M w0 w' (.blk bc #[v2] 61::.row v2 47 9 ys.length (zAG (ys.map zAJ))::l3)->Q (.panic (zCH 7)) a w') :
  zFT P ops (PutR bc w0.heap.size) Q o a w S':=by
 unfold zFT;rw[if_pos hg];unfold Oper.wp;have hr:(execOp a.eval o).run P w=.ok (.enter f vs) w:=by
  simp only[execOp,hop];simp[resolve,hx];rw[show a.eval (Operand.func f)=.func (.func f) #[] #[] from rfl]
  simp[go_sem];exact hf _ _
 rw[hr];simp only[Oper.upon];refine zI1 H hF hS hc ?_
 intro e v2 ys w' H2 he T;subst he;exact hQ v2 ys w' H2
theorem zHo {x:Value} (h:zBZ P ops o a w (fun v' _=>v'=x/\(False->w.heap.size<=blk v'))):zB3 P ops BelR o a w (fun v' _=>v'=x):=by
 have h2:=zNQ (R:=BelR) (fun _ hb=>hb) h
 unfold zB3 at h2 ⊢;split
 ·rename_i hw;rw[if_pos hw]at h2;exact Oper.wp_mono (fun a' w' ⟨u,e,hb,h3⟩=>⟨u,e,hb,h3.1⟩) h2
 ·rename_i hw;rw[if_neg hw]at h2;exact h2.1
theorem zHn {x:Operand} {d:InstD} {n0:Nat} {w1:World} (hg:Region.wanted o (yielded ops a.tmps)=true) (hop:o.op=Op.buildSlice 32 1 #[(0,x)]) (hx:a.eval x=zA2 d)
  (hR:PutR bc n0 w1 w) (hb:bc<w1.heap.size) (hn:n0<=w1.heap.size) (hD:∀ k,ownD bc w1 k->k<w1.heap.size):zB3 Tryz.prog ops BelR o a w (zGz bc n0 w1 (zAJ d) 47):=by
 unfold zB3;rw[if_pos hg];unfold Oper.wp;have hr:(execOp a.eval o).run Tryz.prog w=.ok (.value (.slice (some ⟨w.heap.size,0,none⟩) 1 1)) (w.alloc (.cells (zAJ d) 47)):=by
  simp only[execOp,hop,List.map_toArray,List.map_cons,List.map_nil,hx,Sem.run_bind,zH3];rfl
 rw[hr];simp only[Oper.upon];have hbel:Below w.heap.size w (w.alloc (.cells (zAJ d) 47)):=(Below.refl _ w).alloc (Nat.le_refl _) _;have hb2:=hR.bclt hb;refine⟨_,rfl,hbel,Nat.lt_of_lt_of_le hb2 hbel.size,w.heap.size,rfl,hR.base hn,World.alloc_heap_new w _,fun hd=>?_,fun ⟨h1,h2⟩=>?_⟩
 ·have:=hR.lt hb hD _ ((zFE hbel hb2 _).1 hd);omega
 ·have:=(hR.old hb _ h1 h2).1;omega
end
def zJK (m:Nat):Prop:=∀ (t:Tree) (p:Option Addr) (n c:Nat) (F:Nat->Prop) (bc:Nat) (v:Value) (xs:List InstD) (out:Nat) (M:Nat->Prop) (w0 w:World),zAB t<=m->zAk t=true->n=t.kids.length->xs.length<=4000->HoldG M w0 w (zAp bc v xs++[.kn F (fun V=>ForestR V F p c t.kids)]) ->
  Calls Tryz.prog 27 #[.pointer (some ⟨bc,0,none⟩),zAV t.d (.slice p n c),.int .i64 out] w (LayO M w0 bc v xs [.kn F (fun V=>ForestR V F p c t.kids)] w (capQ (layP t out xs)))
theorem zBw {r:LayR} (h:r.2.length<=4000):capQ r=some ((r.1:Int),r.2):=if_pos h
theorem zBE {r:LayR} (h:¬ r.2.length<=4000):capQ r=none:=if_neg h
theorem zNx (m:Nat) (IH:zJK m) {M:Nat->Prop} {w0 w:World} (bc:Nat) (v:Value) (xs:List InstD) (d:NodeD) (ts:List Tree) (p:Option Addr) (n c:Nat) (out:Nat) (F:Nat->Prop) (hm:zAF ts<=m) (hkd:zAu d ts.length=true) (hkt:zAU ts=true) (k7:d.kind=7) (hn:n=ts.length) (H0:HoldG M w0 w (zAp bc v xs++[.kn F (fun V=>ForestR V F p c ts)])) (hxl:xs.length<=4000) :
  Calls Tryz.prog 57 #[.pointer (some ⟨bc,0,none⟩),zAV d (.slice p n c),.int .i64 out] w (LayO M w0 bc v xs [.kn F (fun V=>ForestR V F p c ts)] w (capQ (layP (.mk d ts) out xs))):=by
 have H:=H0.framed;clear H0;obtain⟨rF,hrF⟩:∃ rF,zCb w (zAp bc v xs++[.kn F (fun V=>ForestR V F p c ts)])=rF:=⟨_,rfl⟩
 obtain⟨rS,hrS⟩:∃ rS,zCl w (zAp bc v xs++[.kn F (fun V=>ForestR V F p c ts)])=rS:=⟨_,rfl⟩
 rw[hrF,hrS]at H;simp only[zAp,List.cons_append,List.nil_append]at H;obtain⟨kx,h1,h2,hts⟩:=ForestR.open (H.kn (i:=2) i_2);have hn':n=kx.length:=by rw[hn,hts,List.length_map]
 have hK:Knows F p n c kx w:=⟨by rw[hn'];exact h1,h2⟩
 replace H:=H.also F (Knows F p n c kx) (Still.at (i:=2) i_2) (fun V hV=>hK.kept hV)
 simp only[ca]at H;have hc1:=hK.bound.2.1;have hc2:=hK.bound.2.2;have hp:=hK.at;clear hK h1 h2;obtain⟨y,rfl⟩:∃ y,kx=[y]:=by
  have h1:ts.length=1:=ok_7 hkd k7;have h2:=congrArg List.length hts;rw[List.length_map,h1]at h2;exact List.length_eq_one_iff.1 h2.symm
 have hts1:ts=[y.1]:=hts;have hn1:n=1:=hn';subst hn1;obtain⟨g,off,rfl⟩:=hp (by simp)
 have hmem:y ∈ [y]:=List.mem_singleton.2 rfl;have hky:zAk y.1=true:=by rw[hts1]at hkt;simpa [zAU] using hkt
 have hsy:zAB y.1<=m:=by rw[hts1]at hm;simp only[zAF]at hm;omega
 have hcell:∀ V,Knows F (some ⟨g,off,none⟩) 1 c [y] V->∀ k,k<10->V.cell? ⟨g,off+k,none⟩=(zAT y)[k]?:=fun V h=>h.cells (j:=0) rfl rfl
 have hg:=zP9 hkd k7;have hw1:IntKind.i64.wrap (2 * d.group)=2 * d.group:=by rw[IntKind.wrap_i64];omega
 have hw2:IntKind.i64.wrap (2 * d.group+1)=2 * d.group+1:=by rw[IntKind.wrap_i64];omega
 have hL:=zCk y.1 xs.length (xs++[{kind:=3,slot:=2 * d.group+1,next:=out}]);have hlay:=fun v' w'=>IH y.1 y.2.1 y.1.kids.length y.2.2 F bc v' (xs++[{kind:=3,slot:=2 * d.group+1,next:=out}]) xs.length M w0 w' hsy hky rfl
 have EL:layP (.mk d ts) out xs=((layP y.1 xs.length (xs++[{kind:=3,slot:=2 * d.group+1,next:=out}])).2.length,(layP y.1 xs.length (xs++[{kind:=3,slot:=2 * d.group+1,next:=out}])).2++[{kind:=3,slot:=2 * d.group,next:=(layP y.1 xs.length (xs++[{kind:=3,slot:=2 * d.group+1,next:=out}])).1}]):=by
  rw[layP,if_neg (by omega),if_neg (by omega),if_neg (by omega),if_neg (by omega),if_neg (by omega),if_pos k7,hts1];rfl
 obtain⟨ar,hal⟩:∃ a,layP y.1 xs.length (xs++[{kind:=3,slot:=2 * d.group+1,next:=out}])=a:=⟨_,rfl⟩;obtain⟨a,ys⟩:=ar;rw[hal]at EL hlay hL;simp only[List.length_append,List.length_cons,List.length_nil]at hL hlay EL;clear k7 IH hal hts1 hky hsy hkd hkt hm hn hn' hts hp
 by_cases hl:xs.length<4000
 ·by_cases hy:ys.length<=4000
  ·rw[zBw (by simpa using hy)]at hlay
   go_enter Tryz.func57,Tryz.ntmps57
   go_upto_region 1 with (first|((with_reducible refine gX ?_);(refine bB H ?_;clear H;intro b w H;try simp only[nr]at H)))
   refine zAg 10 [fun v _=>v=pt bc 0,fun v _=>v=pt bc 0,fun v _=>v=pt bc 0,fun v _=>v=pt b 9,fun v _=>v=.int .i64 d.group,fun v _=>v=.int .i64 (2 * d.group),fun v _=>v=.int .i64 (2 * d.group+1),fun v _=>v=.int .i64 (out:Int),fun v _=>v=zA2 {kind:=3,slot:=2 * d.group+1,next:=out},zCo w.heap.size (zAJ {kind:=3,slot:=2 * d.group+1,next:=out}) 47] (fun _=>false) (by kernel_rfl) (by kernel_rfl) (by kernel_rfl) (by repeat (first|exact trivial|refine⟨zAL _,?_⟩|refine⟨zA1 _ _ _,?_⟩)) (fun _ _ h=>by cases h) ?ob ?en
   case ob =>
    refine⟨?_,?_,?_,?_,?_,?_,?_,?_,?_,?_,trivial⟩<;>intro A W h
    ·exact zAH rfl rfl (h.f 0)
    ·(have e8:A.eval (.tmp 8)=.pointer (some ⟨bc,0,none⟩):=h.d 0 8;refine zAA rfl ?_;simp only[execOp,e8];simp[go_sem])
    ·(have e9:A.eval (.tmp 9)=.pointer (some ⟨bc,0,none⟩):=h.d 1 9;refine zAA rfl ?_;simp only[execOp,e9];simp[go_sem])
    ·(have e4:A.eval (.tmp 4)=.pointer (some ⟨b,0,none⟩):=h.f 4;refine zAA rfl ?_;simp only[execOp,e4];simp[go_sem])
    ·exact zAA rfl (zAD rfl (h.d 3 11) (by first|(with_reducible exact zAC)|(with_reducible exact one_u8)|(with_reducible exact zA9)|(with_reducible exact one_str)|(with_reducible exact zAh)|(with_reducible exact one_u64)|(with_reducible exact zAz)|(with_reducible exact zAd)|(with_reducible exact zBW)) ((H.call h.below).cell (i:=5) i_5 9)) (by decide)
    ·(have e12:A.eval (.tmp 12)=.int .i64 d.group:=h.d 4 12;refine zAA rfl ?_;simp only[execOp,e12];(simp[go_sem]<;>omega))
    ·(have e13:A.eval (.tmp 13)=.int .i64 (2 * d.group):=h.d 5 13;refine zAA rfl ?_;simp only[execOp,e13];(simp[go_sem]<;>omega))
    ·exact zAH rfl rfl (h.f 2)
    ·(have e14:A.eval (.tmp 14)=.int .i64 (2 * d.group+1):=h.d 6 14;have e15:A.eval (.tmp 15)=.int .i64 (out:Int):=h.d 7 15;refine zAA rfl ?_;simp only[execOp,e14,e15];(simp only[List.map_toArray,List.map_cons,List.map_nil,e14,e15,Sem.run_bind,zB0,zGF];rfl))
    ·exact zCU rfl rfl (h.d 8 16) h.below.size (by decide)
   case en =>
    intro vals W hbw hv _;have x9:=hv 9 (by omega);simp only[zAe]at x9
    simp only[fa,Nat.reduceAdd];rw[e_ hv 0,e_ hv 1,e_ hv 2,e_ hv 3,e_ hv 4,e_ hv 5,e_ hv 6,e_ hv 7,e_ hv 8];clear hv
    try simp only[pl]
    obtain⟨bk,e9,H2⟩:=H.gainS hbw x9;rw[e9];clear x9 e9 hbw H;have H:=H2;clear H2;simp only[ca]at H;obtain⟨Fk,H2⟩:=H.oneInst (i:=6) i_6;clear H;have H:=H2;clear H2;simp only[sc]at H
    go_upto_region 2 with (first|(go_at_call 26;refine zDm H hxl (i:=4) i_4 hl ?_;clear H;intro v2 zs w H hys)|fail)
    obtain rfl:=hys.out;clear hys;have hrefl:∀ W,BelR W W:=BelR.refl;refine zBd BelR (PutR bc w0.heap.size) [12] (fun r W=>match r with|0=>HoldG M w0 W ([.blk bc #[v2] 61,.row v2 47 9 (xs++[{kind:=3,slot:=2 * d.group+1,next:=out}]:List InstD).length (zAG ((xs++[{kind:=3,slot:=2 * d.group+1,next:=out}]:List InstD).map zAJ)),.kn F (fun V=>ForestR V F (some ⟨g,off,none⟩) c ts),.kn rF rS,.kn F (Knows F (some ⟨g,off,none⟩) 1 c [y]),.blk b (zAR d (.slice (some ⟨g,off,none⟩) 1 c)) 28,.kn Fk (InstsR Fk (some ⟨bk,0,none⟩) 1 [{kind:=3,slot:=2 * d.group+1,next:=out}])])|_=>∃ v3,HoldG M w0 W ([.blk bc #[v3] 61,.row v3 47 9 (ys).length (zAG ((ys).map zAJ)),.kn F (fun V=>ForestR V F (some ⟨g,off,none⟩) c ts),.kn rF rS,.kn F (Knows F (some ⟨g,off,none⟩) 1 c [y]),.blk b (zAR d (.slice (some ⟨g,off,none⟩) 1 c)) 28,.kn Fk (InstsR Fk (some ⟨bk,0,none⟩) 1 [{kind:=3,slot:=2 * d.group+1,next:=out}])])) (PutR.bel _ _) (fun r u v h hb=>match r,h with|0,h=>HoldG.call h hb|_+1,⟨v3,h⟩=>⟨v3,HoldG.call h hb⟩) BelR.drew BelR.refl (PutR.trans _ _) 15 [fun v _=>v=pt bc 0,fun v _=>v=pt bc 0,fun v _=>v=pt bc 0,fun v _=>v=pt b 9,fun v _=>v=.int .i64 d.group,fun v _=>v=.int .i64 (2 * d.group),fun v _=>v=pt bc 0,fun v _=>v=pt b 5,fun v _=>v=.slice (some ⟨g,off,none⟩) 1 c,fun v _=>v=.pointer (some ⟨g,off,none⟩),fun v _=>v=.agg (zAT y),fun v _=>v=.int .i64 (xs.length:Int),fun v _=>v=.int .i64 (a:Int),fun v _=>v=zA2 {kind:=3,slot:=2 * d.group,next:=a},zGz bc w0.heap.size w (zAJ {kind:=3,slot:=2 * d.group,next:=a}) 47] (by repeat (first|exact trivial|refine⟨zAy _,?_⟩|refine⟨zDa _ _ _,?_⟩)) (by kernel_rfl) (H) (by kernel_rfl) (by kernel_rfl) (by kernel_rfl) ?ob ?en
    case ob =>
     refine⟨?_,?_,?_,?_,?_,?_,?_,?_,?_,?_,?_,?_,?_,?_,?_,trivial⟩
     ·intro A W h;exact zBa hrefl rfl rfl (h.f 0)
     ·intro A W h;(have e19:A.eval (.tmp 19)=.pointer (some ⟨bc,0,none⟩):=h.d 0 19;refine zAS hrefl rfl ?_;simp only[execOp,e19];simp[go_sem])
     ·intro A W h;(have e20:A.eval (.tmp 20)=.pointer (some ⟨bc,0,none⟩):=h.d 1 20;refine zAS hrefl rfl ?_;simp only[execOp,e20];simp[go_sem])
     ·intro A W h;(have e4:A.eval (.tmp 4)=.pointer (some ⟨b,0,none⟩):=h.f 4;refine zAS hrefl rfl ?_;simp only[execOp,e4];simp[go_sem])
     ·intro A W h;exact zAS hrefl rfl (zAD rfl (h.d 3 22) zAC (zB6 H h.rel (i:=3) i_3 9))
     ·intro A W h;(have e23:A.eval (.tmp 23)=.int .i64 d.group:=h.d 4 23;refine zAS hrefl rfl ?_;simp only[execOp,e23];(simp[go_sem]<;>omega))
     ·intro A W h;exact zBa hrefl rfl rfl (h.f 0)
     ·intro A W h;(have e4:A.eval (.tmp 4)=.pointer (some ⟨b,0,none⟩):=h.f 4;refine zAS hrefl rfl ?_;simp only[execOp,e4];simp[go_sem])
     ·intro A W h;exact zAS hrefl rfl (zAD rfl (h.d 7 26) zAz (zB6 H h.rel (i:=3) i_3 5))
     ·intro A W h;exact zHo (zBr (i:=0) (n:=1) (off:=off) (q:=off) (sz:=10) (D:=False) Tryz.underlying26 (fun w=>by kernel_rfl) rfl rfl (h.d 8 27) rfl (by omega) (by omega))
     ·intro A W h;exact zAS hrefl rfl (zAb rfl (h.d 9 28) zAP (zAl y) (hcell _ (zHT H h.rel (i:=2) i_2)))
     ·intro A W h;exact zBa hrefl rfl rfl (h.f 7)
     ·intro A W h hst;exact zMl rfl rfl (enters_of Tryz.func27 (by kernel_rfl) rfl) (zH7 ⟨h.d 6 25,h.d 10 29,h.d 11 30⟩) hst (Still.at (i:=4) i_4) (fun V hV=>((HoldG.kn hst (i:=4) i_4).2 y hmem).kept hV) (fun h=>hlay _ _ (by omega) h)
     ·intro A W h;(have e24:A.eval (.tmp 24)=.int .i64 (2 * d.group):=h.d 5 24;have e31:A.eval (.tmp 31)=.int .i64 (a:Int):=h.d 12 31;refine zAS hrefl rfl ?_;simp only[execOp,e24,e31];(simp only[List.map_toArray,List.map_cons,List.map_nil,e24,e31,Sem.run_bind,zB0,zGF];rfl))
     ·intro A W h;exact zHn rfl rfl (h.d 13 32) h.rel (zEU H) H.keep.size (zFi H)
    case en =>
     intro vals W hbw hv hst;have x14:=hv 14 (by omega);simp only[zAe]at x14
     simp only[fa,Nat.reduceAdd];rw[e_ hv 0,e_ hv 1,e_ hv 2,e_ hv 3,e_ hv 4,e_ hv 5,e_ hv 6,e_ hv 7,e_ hv 8,e_ hv 9,e_ hv 10,e_ hv 11,e_ hv 12,e_ hv 13];clear hv
     try simp only[pl]
     obtain⟨v3,H2⟩:=hst;obtain⟨bq,e14,H3⟩:=zGP H H2 x14;rw[e14];clear x14 e14 hbw H H2;have H:=H3;clear H3;simp only[ca]at H;obtain⟨Fq,H2⟩:=H.oneInst (i:=7) i_7;clear H;have H:=H2;clear H2;simp only[sc]at H
     by_cases hl2:ys.length<4000
     ·have E:capQ (layP (.mk d ts) out xs)=some ((ys.length:Int),ys++[{kind:=3,slot:=2 * d.group,next:=a}]):=by rw[EL];exact zBw (by simp only[List.length_append,List.length_cons,List.length_nil];omega)
      have E:=Lib.hid E;clear EL
      go_wp2_with (first|(go_at_call 26;refine zDm H hy (i:=5) i_5 hl2 ?_;clear H;intro v4 zs w H hys)|fail)
      go_ret;rw[E.out,← hys.out];rw[← hrF,← hrS]at H;exact⟨_,rfl,zAX H (i:=3) i_3 (by decide) (by rfl)⟩
     ·have E:=Lib.hid (show capQ (layP (.mk d ts) out xs)=none from zBE (by rw[EL];simp only[List.length_append,List.length_cons,List.length_nil];omega))
      clear EL
      go_wp2_with (first|(go_at_call 26;refine zEo H hy (i:=5) i_5 hl2 ?_;clear H;intro v4 zs w H)|fail)
      rw[E.out];rw[← hrF,← hrS]at H;exact⟨rfl,rfl,_,_,zAX H (i:=3) i_3 (by decide) (by rfl)⟩
  ·rw[zBE (by simpa using hy)]at hlay
   have E:=Lib.hid (show capQ (layP (.mk d ts) out xs)=none from zBE (by rw[EL];simp only[List.length_append,List.length_cons,List.length_nil];omega))
   rw[E.out];clear EL E
   go_enter Tryz.func57,Tryz.ntmps57
   go_upto_region 1 with (first|((with_reducible refine gX ?_);(refine bB H ?_;clear H;intro b w H;try simp only[nr]at H)))
   refine zAg 10 [fun v _=>v=pt bc 0,fun v _=>v=pt bc 0,fun v _=>v=pt bc 0,fun v _=>v=pt b 9,fun v _=>v=.int .i64 d.group,fun v _=>v=.int .i64 (2 * d.group),fun v _=>v=.int .i64 (2 * d.group+1),fun v _=>v=.int .i64 (out:Int),fun v _=>v=zA2 {kind:=3,slot:=2 * d.group+1,next:=out},zCo w.heap.size (zAJ {kind:=3,slot:=2 * d.group+1,next:=out}) 47] (fun _=>false) (by kernel_rfl) (by kernel_rfl) (by kernel_rfl) (by repeat (first|exact trivial|refine⟨zAL _,?_⟩|refine⟨zA1 _ _ _,?_⟩)) (fun _ _ h=>by cases h) ?ob ?en
   case ob =>
    refine⟨?_,?_,?_,?_,?_,?_,?_,?_,?_,?_,trivial⟩<;>intro A W h
    ·exact zAH rfl rfl (h.f 0)
    ·(have e8:A.eval (.tmp 8)=.pointer (some ⟨bc,0,none⟩):=h.d 0 8;refine zAA rfl ?_;simp only[execOp,e8];simp[go_sem])
    ·(have e9:A.eval (.tmp 9)=.pointer (some ⟨bc,0,none⟩):=h.d 1 9;refine zAA rfl ?_;simp only[execOp,e9];simp[go_sem])
    ·(have e4:A.eval (.tmp 4)=.pointer (some ⟨b,0,none⟩):=h.f 4;refine zAA rfl ?_;simp only[execOp,e4];simp[go_sem])
    ·exact zAA rfl (zAD rfl (h.d 3 11) (by first|(with_reducible exact zAC)|(with_reducible exact one_u8)|(with_reducible exact zA9)|(with_reducible exact one_str)|(with_reducible exact zAh)|(with_reducible exact one_u64)|(with_reducible exact zAz)|(with_reducible exact zAd)|(with_reducible exact zBW)) ((H.call h.below).cell (i:=5) i_5 9)) (by decide)
    ·(have e12:A.eval (.tmp 12)=.int .i64 d.group:=h.d 4 12;refine zAA rfl ?_;simp only[execOp,e12];(simp[go_sem]<;>omega))
    ·(have e13:A.eval (.tmp 13)=.int .i64 (2 * d.group):=h.d 5 13;refine zAA rfl ?_;simp only[execOp,e13];(simp[go_sem]<;>omega))
    ·exact zAH rfl rfl (h.f 2)
    ·(have e14:A.eval (.tmp 14)=.int .i64 (2 * d.group+1):=h.d 6 14;have e15:A.eval (.tmp 15)=.int .i64 (out:Int):=h.d 7 15;refine zAA rfl ?_;simp only[execOp,e14,e15];(simp only[List.map_toArray,List.map_cons,List.map_nil,e14,e15,Sem.run_bind,zB0,zGF];rfl))
    ·exact zCU rfl rfl (h.d 8 16) h.below.size (by decide)
   case en =>
    intro vals W hbw hv _;have x9:=hv 9 (by omega);simp only[zAe]at x9
    simp only[fa,Nat.reduceAdd];rw[e_ hv 0,e_ hv 1,e_ hv 2,e_ hv 3,e_ hv 4,e_ hv 5,e_ hv 6,e_ hv 7,e_ hv 8];clear hv
    try simp only[pl]
    obtain⟨bk,e9,H2⟩:=H.gainS hbw x9;rw[e9];clear x9 e9 hbw H;have H:=H2;clear H2;simp only[ca]at H;obtain⟨Fk,H2⟩:=H.oneInst (i:=6) i_6;clear H;have H:=H2;clear H2;simp only[sc]at H
    go_upto_region 2 with (first|(go_at_call 26;refine zDm H hxl (i:=4) i_4 hl ?_;clear H;intro v2 zs w H hys)|fail)
    obtain rfl:=hys.out;clear hys;have hrefl:∀ W,BelR W W:=BelR.refl;refine zBd BelR (PutR bc w0.heap.size) [12] (fun _ W=>HoldG M w0 W ([.blk bc #[v2] 61,.row v2 47 9 (xs++[{kind:=3,slot:=2 * d.group+1,next:=out}]:List InstD).length (zAG ((xs++[{kind:=3,slot:=2 * d.group+1,next:=out}]:List InstD).map zAJ)),.kn F (fun V=>ForestR V F (some ⟨g,off,none⟩) c ts),.kn rF rS,.kn F (Knows F (some ⟨g,off,none⟩) 1 c [y]),.blk b (zAR d (.slice (some ⟨g,off,none⟩) 1 c)) 28,.kn Fk (InstsR Fk (some ⟨bk,0,none⟩) 1 [{kind:=3,slot:=2 * d.group+1,next:=out}])])) (PutR.bel _ _) (fun r u v h hb=>HoldG.call h hb) BelR.drew BelR.refl (PutR.trans _ _) 15 [fun v _=>v=pt bc 0,fun v _=>v=pt bc 0,fun v _=>v=pt bc 0,fun v _=>v=pt b 9,fun v _=>v=.int .i64 d.group,fun v _=>v=.int .i64 (2 * d.group),fun v _=>v=pt bc 0,fun v _=>v=pt b 5,fun v _=>v=.slice (some ⟨g,off,none⟩) 1 c,fun v _=>v=.pointer (some ⟨g,off,none⟩),fun v _=>v=.agg (zAT y),fun v _=>v=.int .i64 (xs.length:Int),fun _ _=>False,fun _ _=>False,fun _ _=>False] (by repeat (first|exact trivial|refine⟨zAy _,?_⟩|refine⟨fun _ _ _ h _=>h,?_⟩)) (by kernel_rfl) (H) (by kernel_rfl) (by kernel_rfl) (by kernel_rfl) ?ob ?en
    case ob =>
     refine⟨?_,?_,?_,?_,?_,?_,?_,?_,?_,?_,?_,?_,?_,?_,?_,trivial⟩
     ·intro A W h;exact zBa hrefl rfl rfl (h.f 0)
     ·intro A W h;(have e19:A.eval (.tmp 19)=.pointer (some ⟨bc,0,none⟩):=h.d 0 19;refine zAS hrefl rfl ?_;simp only[execOp,e19];simp[go_sem])
     ·intro A W h;(have e20:A.eval (.tmp 20)=.pointer (some ⟨bc,0,none⟩):=h.d 1 20;refine zAS hrefl rfl ?_;simp only[execOp,e20];simp[go_sem])
     ·intro A W h;(have e4:A.eval (.tmp 4)=.pointer (some ⟨b,0,none⟩):=h.f 4;refine zAS hrefl rfl ?_;simp only[execOp,e4];simp[go_sem])
     ·intro A W h;exact zAS hrefl rfl (zAD rfl (h.d 3 22) zAC (zB6 H h.rel (i:=3) i_3 9))
     ·intro A W h;(have e23:A.eval (.tmp 23)=.int .i64 d.group:=h.d 4 23;refine zAS hrefl rfl ?_;simp only[execOp,e23];(simp[go_sem]<;>omega))
     ·intro A W h;exact zBa hrefl rfl rfl (h.f 0)
     ·intro A W h;(have e4:A.eval (.tmp 4)=.pointer (some ⟨b,0,none⟩):=h.f 4;refine zAS hrefl rfl ?_;simp only[execOp,e4];simp[go_sem])
     ·intro A W h;exact zAS hrefl rfl (zAD rfl (h.d 7 26) zAz (zB6 H h.rel (i:=3) i_3 5))
     ·intro A W h;exact zHo (zBr (i:=0) (n:=1) (off:=off) (q:=off) (sz:=10) (D:=False) Tryz.underlying26 (fun w=>by kernel_rfl) rfl rfl (h.d 8 27) rfl (by omega) (by omega))
     ·intro A W h;exact zAS hrefl rfl (zAb rfl (h.d 9 28) zAP (zAl y) (hcell _ (zHT H h.rel (i:=2) i_2)))
     ·intro A W h;exact zBa hrefl rfl rfl (h.f 7)
     ·intro A W h hst;exact zJR rfl rfl (enters_of Tryz.func27 (by kernel_rfl) rfl) (zH7 ⟨h.d 6 25,h.d 10 29,h.d 11 30⟩) hst (Still.at (i:=4) i_4) (fun V hV=>((HoldG.kn hst (i:=4) i_4).2 y hmem).kept hV) (fun h=>hlay _ _ (by omega) h) (fun v3 zs w' H2=>⟨h.defers,rfl,v3,zs,by rw[← hrF,← hrS]at H2;exact zAX H2 (i:=3) i_3 (by decide) (by rfl)⟩)
     ·intro A W h;exact(show False from h.d 12 31).elim
     ·intro A W h;exact(show False from h.d 13 32).elim
    case en =>
     intro vals W hbw hv hst;exact(show False from hv 12 (by omega)).elim
 ·have E:=Lib.hid (show capQ (layP (.mk d ts) out xs)=none from zBE (by rw[EL];simp only[List.length_append,List.length_cons,List.length_nil];omega))
  clear EL hlay hL
  go_enter Tryz.func57,Tryz.ntmps57
  go_upto_region 1 with (first|((with_reducible refine gX ?_);(refine bB H ?_;clear H;intro b w H;try simp only[nr]at H)))
  refine zAg 10 [fun v _=>v=pt bc 0,fun v _=>v=pt bc 0,fun v _=>v=pt bc 0,fun v _=>v=pt b 9,fun v _=>v=.int .i64 d.group,fun v _=>v=.int .i64 (2 * d.group),fun v _=>v=.int .i64 (2 * d.group+1),fun v _=>v=.int .i64 (out:Int),fun v _=>v=zA2 {kind:=3,slot:=2 * d.group+1,next:=out},zCo w.heap.size (zAJ {kind:=3,slot:=2 * d.group+1,next:=out}) 47] (fun _=>false) (by kernel_rfl) (by kernel_rfl) (by kernel_rfl) (by repeat (first|exact trivial|refine⟨zAL _,?_⟩|refine⟨zA1 _ _ _,?_⟩)) (fun _ _ h=>by cases h) ?ob ?en
  case ob =>
   refine⟨?_,?_,?_,?_,?_,?_,?_,?_,?_,?_,trivial⟩<;>intro A W h
   ·exact zAH rfl rfl (h.f 0)
   ·(have e8:A.eval (.tmp 8)=.pointer (some ⟨bc,0,none⟩):=h.d 0 8;refine zAA rfl ?_;simp only[execOp,e8];simp[go_sem])
   ·(have e9:A.eval (.tmp 9)=.pointer (some ⟨bc,0,none⟩):=h.d 1 9;refine zAA rfl ?_;simp only[execOp,e9];simp[go_sem])
   ·(have e4:A.eval (.tmp 4)=.pointer (some ⟨b,0,none⟩):=h.f 4;refine zAA rfl ?_;simp only[execOp,e4];simp[go_sem])
   ·exact zAA rfl (zAD rfl (h.d 3 11) (by first|(with_reducible exact zAC)|(with_reducible exact one_u8)|(with_reducible exact zA9)|(with_reducible exact one_str)|(with_reducible exact zAh)|(with_reducible exact one_u64)|(with_reducible exact zAz)|(with_reducible exact zAd)|(with_reducible exact zBW)) ((H.call h.below).cell (i:=5) i_5 9)) (by decide)
   ·(have e12:A.eval (.tmp 12)=.int .i64 d.group:=h.d 4 12;refine zAA rfl ?_;simp only[execOp,e12];(simp[go_sem]<;>omega))
   ·(have e13:A.eval (.tmp 13)=.int .i64 (2 * d.group):=h.d 5 13;refine zAA rfl ?_;simp only[execOp,e13];(simp[go_sem]<;>omega))
   ·exact zAH rfl rfl (h.f 2)
   ·(have e14:A.eval (.tmp 14)=.int .i64 (2 * d.group+1):=h.d 6 14;have e15:A.eval (.tmp 15)=.int .i64 (out:Int):=h.d 7 15;refine zAA rfl ?_;simp only[execOp,e14,e15];(simp only[List.map_toArray,List.map_cons,List.map_nil,e14,e15,Sem.run_bind,zB0,zGF];rfl))
   ·exact zCU rfl rfl (h.d 8 16) h.below.size (by decide)
  case en =>
   intro vals W hbw hv _;have x9:=hv 9 (by omega);simp only[zAe]at x9
   simp only[fa,Nat.reduceAdd];rw[e_ hv 0,e_ hv 1,e_ hv 2,e_ hv 3,e_ hv 4,e_ hv 5,e_ hv 6,e_ hv 7,e_ hv 8];clear hv
   try simp only[pl]
   obtain⟨bk,e9,H2⟩:=H.gainS hbw x9;rw[e9];clear x9 e9 hbw H;have H:=H2;clear H2;simp only[ca]at H;obtain⟨Fk,H2⟩:=H.oneInst (i:=6) i_6;clear H;have H:=H2;clear H2;simp only[sc]at H
   go_wp2_with (first|(go_at_call 26;refine zEo H hxl (i:=4) i_4 hl ?_;clear H;intro v2 ys w H)|fail)
   rw[E.out];rw[← hrF,← hrS]at H;exact⟨rfl,rfl,_,_,zAX H (i:=3) i_3 (by decide) (by rfl)⟩
end
end Go.Proofs.YtalggmbdpmdcbaaGreat
