/-
  Laws of walks, and walks.
-/
import Derived.Test.YtalggmbdpmdcbaaGreatPf19
import Derived.Test.YtalggmbdpmdcbaaGreatPf13
import Derived.Test.YtalggmbdpmdcbaaGreatPf11
set_option linter.unusedVariables false
set_option linter.unusedSimpArgs false
set_option maxRecDepth 100000
set_option maxHeartbeats 16000000
namespace Go.Proofs.YtalggmbdpmdcbaaGreat
section
open Go.RowKit Go.Shelf
attribute [local go_sem] Oper.semAt_some
def zCA (L:Str):Tree:=match zFz L (false,false,false) with|.ok (t,_)=>t|.error _=>zBs 0
section
variable {M:Nat->Prop} {P:Program} {f:FuncId} {args:Array Value} {w w0:World} {l:List Res} {R:Ending->World->Prop}
theorem zOc {t:Tree} {g:Nat} (c:Calls P f args w fun e w'=>ParseOut w (.ok (t,g)) e w'/\Below w.heap.size w w') (H:HoldG M w0 w l)
  (k:∀ p n F w',(∀ b,F b->w0.heap.size<=b)->HoldG M w0 w' (l++[.kn F (fun V=>ForestR V F p n t.kids)])->R (.returned (.tuple #[zAV t.d (.slice p t.kids.length n),.int .i64 g,.int .i64 0,.int .i64 0])) w'):Calls P f args w R:=c.mono fun _ w' h=>by
 obtain⟨⟨p,n,F,rfl,hs,hF⟩,hb⟩:=h;exact k p n F w' (fun b h=>Nat.le_trans H.keep.size (hF b h).2) (H.learn hb Still.none (fun b h=>⟨(hF b h).1,.inl (hF b h).2⟩) (fun V hV=>hs.kept hV))
theorem zOt {a x:Nat} (c:Calls P f args w fun e w'=>ParseOut w (.error (a,x)) e w'/\Below w.heap.size w w') (H:HoldG M w0 w l)
  (k:∀ w',HoldG M w0 w' l->R (.returned (.tuple #[zAV {kind:=0} nilS,.int .i64 0,.int .i64 a,.int .i64 x])) w'):Calls P f args w R:=c.mono fun _ w' h=>by
 obtain⟨rfl,hb⟩:=h;exact k w' (H.call hb)
end
theorem zLq (W:World):(Instr.build 104 #[]).run Tryz.prog W=.ok (zCN (false,false,false)) W:=by kernel_rfl
theorem zKe (L:Str) (hW:L.length<=1000->zJg L) (w0:World):Calls Tryz.prog 18 #[.string ⟨L.toArray⟩] w0 fun e w'=>zCf w0 (fun _=>False) (zCA L) e w'/\Below w0.heap.size w0 w':=by
 have H:=Hold.start w0;have hp:=fun w=>zKU L hW (false,false,false) w
 clear hW;have E:zCA L=zCA L:=rfl
 conv at E=>rhs;unfold zCA
 cases hpr:zFz L (false,false,false) with
 | error x =>
  obtain⟨pa,px⟩:=x;rw[hpr]at hp E;clear hpr;have E:=Lib.hid E
  go_enter Tryz.func18,Tryz.ntmps18
  go_wp2_with (first|((with_reducible refine gBd ?_);refine zAK rfl (v:=zCN (false,false,false)) (by simp only[execOp,List.map_toArray,List.map_nil,Sem.run_bind,zLq];rfl) ?_)|(go_at_call 43;refine zOt (hp _) H ?_;clear H;intro w H)|((with_reducible refine kg 2 ?_);(first|refine kA 2 H ?_|refine kS 2 H ?_|refine kB 2 H ?_);clear H;intro b2 w H;try simp only[nr]at H)|((with_reducible refine kg 3 ?_);(first|refine kA 3 H ?_|refine kS 3 H ?_|refine kB 3 H ?_);clear H;intro b3 w H;try simp only[nr]at H)|(first|((with_reducible refine gT ?_);(refine aT H ?_;clear H;intro w H;try simp only[nr]at H))|((with_reducible refine gL ?_);refine aD H ?_)))
  refine zLU Tryz.results18 rfl H (i:=0) .zero zAP rfl rfl ?_
  rw[E.out];exact⟨⟨none,0,fun _=>False,rfl,ForestR.nil ..,fun b h=>h.elim⟩,H.below⟩
 | ok x =>
  obtain⟨t,g⟩:=x;rw[hpr]at hp E;clear hpr;have E:=Lib.hid (show zCA L=t from E)
  go_enter Tryz.func18,Tryz.ntmps18
  go_wp2_with (first|((with_reducible refine gBd ?_);refine zAK rfl (v:=zCN (false,false,false)) (by simp only[execOp,List.map_toArray,List.map_nil,Sem.run_bind,zLq];rfl) ?_)|(go_at_call 43;refine zOc (hp _) H ?_;clear H;intro q n F w hF H;simp only[ca]at H)|((with_reducible refine kg 2 ?_);(first|refine kA 2 H ?_|refine kS 2 H ?_|refine kB 2 H ?_);clear H;intro b2 w H;try simp only[nr]at H)|((with_reducible refine kg 3 ?_);(first|refine kA 3 H ?_|refine kS 3 H ?_|refine kB 3 H ?_);clear H;intro b3 w H;try simp only[nr]at H)|(first|((with_reducible refine gT ?_);(refine aT H ?_;clear H;intro w H;try simp only[nr]at H))|((with_reducible refine gL ?_);refine aD H ?_)))
  refine zLU Tryz.results18 rfl H (i:=0) .zero zAP rfl rfl ?_
  rw[E.out];exact⟨⟨q,n,F,rfl,H.kn (i:=1) i_1,fun b h=>⟨H.knlt (i:=1) i_1 b h,.inl (hF b h)⟩⟩,H.below⟩
theorem zI6 (L:Str):zAB (zCA L)<=2000:=by
 unfold zCA;split
 ·rename_i h;unfold zFz at h
  repeat (split at h;cases h)
  simp only[Except.ok.injEq,Prod.mk.injEq]at h;obtain⟨rfl,_⟩:=h;omega
 ·simp[zBs,zAB,zAF]
def exL:Str:=[97,42]
theorem zEb:∀ i,i<2->byt exL i≠92/\byt exL i≠91/\byt exL i≠123/\atP exL i [40,63]=false:=by decide +kernel
theorem zLb (_:exL.length<=1000):zJg exL:=fun i hi w=>zKY (by decide) hi (zEb i hi).1 (zEb i hi).2.1 (zEb i hi).2.2.1 (zEb i hi).2.2.2 w
def exP:List InstD:=match zCh (zCA exL) with|.ok p=>p|.error _=>[]
def wantP:List InstD:=[{kind:=3,next:=2},{kind:=1,set:=ofS [97],next:=2},{kind:=2,next:=1,other:=3},{kind:=3,slot:=1,next:=4},{kind:=5}]
theorem zNU:zCh (zCA exL)=.ok exP:=by
 have h:(match zCh (zCA exL) with|.ok _=>true|.error _=>false)=true:=by kernel_rfl
 unfold exP
 cases hm:zCh (zCA exL) with
 | ok p=>rfl
 | error x=>rw[hm]at h;cases h
theorem exP_want:exP.map zAJ=wantP.map zAJ:=by kernel_rfl
theorem zI9:exP.length=5:=by kernel_rfl
theorem zLo:zFY exP=true:=by kernel_rfl
theorem zK7:zH0 exP=2:=by kernel_rfl
theorem zNC (a b c d e:InstD) (W:World):(Instr.buildSlice 32 5 #[(0,zA2 a),(1,zA2 b),(2,zA2 c),(3,zA2 d),(4,zA2 e)]).run Tryz.prog W=.ok (.slice (some ⟨W.heap.size,0,none⟩) 5 5) (W.alloc (.cells (zAG ([a,b,c,d,e].map zAJ)).toArray 47)):=by kernel_rfl
theorem zLn {V:World} {b n:Nat} {xs:List InstD} {T:TypeId} {f:Nat × Nat} (h:V.heap[b]?=some (.cells (zAG (xs.map zAJ)).toArray T f)) (hn:xs.length=n) (hl:n<=1000):InstsR (·=b) (some ⟨b,0,none⟩) n xs V:=by
 subst hn;refine⟨_,xs.length,by rw[List.length_map],by rw[List.length_map];exact Nat.le_refl _,by unfold maxLen;omega,(fun h=>by cases h),fun j r hr=>⟨b,0,rfl,rfl,zAW xs r (List.mem_of_getElem? hr),fun k hk=>?_⟩⟩
 rw[cell_of_row V b _ _ T f h,List.getElem?_toArray,Nat.zero_add];exact zCE (zAW xs) hr hk
theorem InstsR.same {F:Nat->Prop} {p:Option Addr} {c:Nat} {xs ys:List InstD} {V:World} (h:InstsR F p c xs V) (e:xs.map zAJ=ys.map zAJ):InstsR F p c ys V:=by
 have hl:=congrArg List.length e;rw[List.length_map,List.length_map]at hl;unfold InstsR at h ⊢;rw[← e,← hl];exact h
theorem zEX (w0:World):Calls Tryz.prog 7 #[] w0 (Rt (.bool true) w0):=by
 have H:=Hold.start w0;have hpa:∀ w,Calls Tryz.prog 18 #[.string {data:=#[97,42]}] w fun e w'=>zCf w (fun _=>False) (zCA exL) e w'/\Below w.heap.size w w':=fun w=>zKe exL zLb w
 have hmk:=fun {q m F1} w (h1:∀ b,F1 b->b<w.heap.size) (h2:ForestR w F1 q m (zCA exL).kids)=>zJa (zCA exL) q _ m F1 w (Nat.le_trans (zI6 exL) (by decide)) h1 h2 rfl
 rw[zNU]at hmk;have hof:∀ v w,Rd w w.heap.size v [.int .u8 97]->Calls Tryz.prog 22 #[v] w (Rt (setV (ofS [97])) w):=fun v w h=>zPb v [97] (by simp) w h
 have hri:=fun q c F w (h1:∀ b,F b->b<w.heap.size) h2=>zND q c exP F w h1 h2
 have hsl:=fun q c F w (h1:∀ b,F b->b<w.heap.size) h2=>zJ5 q c exP F w h1 h2
 have hsm:=fun q1 q2 c1 c2 F G w (h1:∀ b,F b->b<w.heap.size) (h2:∀ b,G b->b<w.heap.size) h3 (h4:InstsR G q2 c2 wantP w)=>zE1 q1 q2 c1 c2 exP F G w h1 h2 h3 (h4.same exP_want.symm)
 rw[zLo]at hri;rw[zK7]at hsl;rw[zI9]at hri hsl hsm;obtain⟨u,hu⟩:∃ u,ofS [97]=u:=⟨_,rfl⟩;have HW:=Lib.hid (show wantP=[{kind:=3,next:=2},{kind:=1,set:=u,next:=2},{kind:=2,next:=1,other:=3},{kind:=3,slot:=1,next:=4},{kind:=5}] by rw[← hu];rfl)
 rw[hu]at hof;clear hu
 generalize zCA exL=t0 at hpa hmk
 go_enter Tryz.func7,Tryz.ntmps7
 go_upto_region 2 with (first|(go_at_call 18;(with_reducible refine cht (hpa _) H Still.none ?_);clear H;intro q1 m1 F1 w hF1 H)|(go_at_call 9;refine zPQ (hmk _ (H.knlt .zero) (H.kn .zero)) H ?_;clear H;intro q3 m3 w H;simp only[ca]at H;rw[zI9]at H ⊢)|fail)
 obtain⟨F3,H2⟩:=H.restInsts (i:=1) i_1 zI9;simp only[sc]at H2;clear H;have H:=H2;clear H2
 go_upto_region 3 with (first|((with_reducible show @wpList _ _ _ ({dst:=_,op:=Op.buildSlice _ 1 _,type:=_,pos:=_,after:=_,guard:=_}::_) _ _);refine zAY wtd_ _ _ _ rfl H #[.int .u8 97] 5 (by intro W;kernel_rfl) ?_;clear H;intro bs w H;simp only[ca]at H)|((with_reducible show @wpList _ _ _ ({dst:=_,op:=Op.buildSlice _ 5 _,type:=_,pos:=_,after:=_,guard:=_}::_) _ _);refine zAY wtd_ _ _ _ rfl H (zAG ([{kind:=3,next:=2},{kind:=1,set:=u,next:=2},{kind:=2,next:=1,other:=3},{kind:=3,slot:=1,next:=4},{kind:=5}].map zAJ)).toArray 47 (by intro W;simp only[ml];(try simp only[pe]);exact zNC _ _ _ _ _ W) ?_;clear H;intro bw w H;simp only[ca]at H)|((with_reducible refine ch (hof _ _ (H.rdn (cs:=[.int .u8 97]) atd_ (by simp) (by simp[maxLen]))) H ?_);clear H;intro w H)|(first|((with_reducible refine gBi ?_);refine ib1 ?_)|((with_reducible refine gBi ?_);refine ib2 ?_)|((with_reducible refine gBi ?_);refine ib3 ?_)|((with_reducible refine gBi ?_);refine ib4 ?_)|((with_reducible refine gBi ?_);refine ib6 ?_)))
 rw[← HW.out]at H;have H2:=H.rest (i:=3) i_3 (InstsR (Res.foot (.blk bw (zAG (wantP.map zAJ)).toArray 47)) (some ⟨bw,0,none⟩) 5 wantP) (fun V hV=>RdN.mono (zLn ((hV bw rfl).trans (H.blk (i:=3) i_3).2) rfl (by decide)) (fun b hb=>by subst hb;rfl))
 simp only[sc]at H2;clear H;have H:=H2;clear H2 HW
 generalize Res.foot (.blk bw (zAG (wantP.map zAJ)).toArray 47)=F4 at H
 go_wp2_with (first|((with_reducible first|refine ch (hsm _ _ _ _ F3 F4 _ (H.knlt (i:=1) i_1) (H.knlt (i:=3) i_3) (H.kn (i:=1) i_1) (H.kn (i:=3) i_3)) H ?_|refine ch (hri _ _ F3 _ (H.knlt (i:=1) i_1) (H.kn (i:=1) i_1)) H ?_|refine ch (hsl _ _ F3 _ (H.knlt (i:=1) i_1) (H.kn (i:=1) i_1)) H ?_);clear H;intro w H)|fail)
 go_ret;exact⟨rfl,H.below⟩
theorem zLv:(Tryz.prog.info? 3).map (fun i=>(i.zero,i.size,i.bytes))=some (some (.int .i64 0),1,8):=by kernel_rfl
def cntL (ps:List InstD):List Value:=(List.range 42).map fun j:Nat=>.int .i64 (cnt j ps:Nat)
theorem zE4 (ps:List InstD) {j:Nat} (h:j<42):(cntL ps)[j]?=some (.int .i64 (cnt j ps:Nat)):=by simp[cntL,h]
theorem zFf (ps:List InstD):(cntL ps).length=42:=by simp[cntL]
theorem zOA:zAG (List.replicate 42 (Value.int .i64 0).cells)=cntL []:=by
 unfold cntL;simp only[zE5];rfl
theorem zJ0 (j:Int) (l:List InstD) (x:InstD):cnt j (l++[x])=cnt j l+(if x.kind=3/\x.slot=j then 1 else 0):=by rw[zBe,zCj,zE5,Nat.add_zero]
theorem zLt {l:List InstD} {x:InstD} (h:x.kind≠3):cntL (l++[x])=cntL l:=by
 unfold cntL
 congr 1;funext j
 rw[zJ0,if_neg (fun e=>h e.1),Nat.add_zero]
theorem zNp {l:List InstD} {x:InstD} {s:Nat} (h:x.kind=3) (hs:x.slot=s) (h42:s<42):(cntL l).set s (.int .i64 ((cnt s l:Nat)+1))=cntL (l++[x]):=by
 apply List.ext_getElem?;intro j;rw[List.getElem?_set]
 by_cases hj:j<42
 ·rw[zE4 _ hj,zE4 _ hj,zJ0]
  by_cases e:s=j
  ·subst e;rw[if_pos rfl,if_pos (by rw[zFf];exact hj),if_pos ⟨h,hs⟩]
   simp
  ·rw[if_neg e,if_neg (fun q=>e (by have:=q.2;omega)),Nat.add_zero]
 ·rw[List.getElem?_eq_none (l:=cntL (l++[x])) (by rw[zFf];omega)]
  split
  ·rw[if_neg (by rw[zFf];omega)]
  ·rw[List.getElem?_eq_none (by rw[zFf];omega)]
theorem zH4 {t:Tree} {x:Nat} (h:zCh t=.error x):x=2\/x=7:=by
 unfold zCh at h;split at h
 ·rename_i e hs
  cases h
  unfold zBB at hs;split at hs
  ·split at hs<;>cases hs;exact .inr rfl
  ·cases hs;exact .inl rfl
 ·split at h<;>cases h;exact .inr rfl
theorem zII {t:Tree} {ps:List InstD} (h:zCh t=.ok ps):∃ s,zBB t=.ok s:=by
 unfold zCh at h;split at h
 ·cases h
 ·rename_i s hs;exact⟨s,hs⟩
theorem zIN {t s:Tree} (h:zBB t=.ok s):zAB t<=2000:=by
 unfold zBB at h;split at h
 ·rename_i hk;exact hk.2
 ·cases h
theorem zJn (l:List InstD) (g:Int):zFI l<=g↔1<=g/\∀ x ∈ l,x.slot<=g:=by
 have key:∀ (l:List InstD) (a:Int),l.foldl (fun m x=>max m x.slot) a<=g↔a<=g/\∀ x ∈ l,x.slot<=g:=by
  intro l
  induction l with
  | nil=>intro a;simp
  | cons x r ih =>
   intro a;simp only[List.foldl_cons,ih,List.mem_cons,forall_eq_or_imp];constructor
   ·rintro⟨h1,h2⟩;exact⟨by omega,by omega,h2⟩
   ·rintro⟨h1,h2,h3⟩;exact⟨by omega,h3⟩
 exact key l 1
theorem zKu {s:Tree} {ps:List InstD} (h:FormOk s ps):zH0 ps=2 * grpT s+2/\0<=grpT s/\grpT s<=20:=by
 have h0:=zEa s;obtain⟨x,hx,hxs⟩:=h.found;have hm:zFI ps=2 * grpT s+1:=by
  have h1:zFI ps<=2 * grpT s+1:=(zJn ps _).2 ⟨by omega,h.above⟩
  have h2:=((zJn ps _).1 (Int.le_refl _)).2 x hx;omega
 have hg:grpT s<=20:=by
  by_cases hk:x.kind=3
  ·have:=(h.slot x hx hk).2;omega
  ·have:=h.none x hx hk;omega
 refine⟨?_,h0,hg⟩;unfold zH0;rw[hm];have e:(2 * grpT s+1).tdiv 2=grpT s:=by rw[Int.tdiv_eq_ediv_of_nonneg (by omega)];omega
 rw[e];unfold wrap64;omega
theorem zIF (t:Tree) (p:Option Addr) (n c:Nat) (F:Nat->Prop) (w0:World) (hm:zAB t<=100000000) (hF:∀ b,F b->b<w0.heap.size) (h:ForestR w0 F p c t.kids) (hn:n=t.kids.length) :
  Calls Tryz.prog 4 #[zAV t.d (.slice p n c)] w0 (Rt (.bool true) w0):=by
 subst hn;have H:=(Hold.start w0).know F (fun V=>ForestR V F p c t.kids) hF (fun i r h=>by simp at h) (fun V hV=>h.kept hV)
 clear h;simp only[List.nil_append]at H;obtain⟨ii,hii,hi0,hi1,hi2⟩:=info_parts zLv;have hno:=fun w (h1:∀ b,F b->b<w.heap.size) (h2:ForestR w F p c t.kids)=>zF2 (zAB t) t p _ c F w 4200 (Nat.le_refl _) (by omega) (by omega) h1 h2 rfl
 have hmk:=fun w (h1:∀ b,F b->b<w.heap.size) (h2:ForestR w F p c t.kids)=>zJa t p _ c F w (by omega) h1 h2 rfl
 cases hs:zCh t with
 | error x =>
  rw[hs]at hmk;have hx0:((x:Int) != 0)=true:=by rcases zH4 hs with rfl|rfl<;>rfl
  have hx1:((x:Int) == 0)=false:=by rcases zH4 hs with rfl|rfl<;>rfl
  clear hs
  by_cases hbig:4200<zAB t
  ·skip
   go_enter Tryz.func4,Tryz.ntmps4
   go_wp2_with (first|((with_reducible refine ch (zEX _) H ?_);clear H;intro w H)|(go_at_call 9;refine zOF (hmk _ (H.knlt .zero) (H.kn .zero)) H ?_;clear H;intro w H)|(go_at_call 6;refine(hno _ (H.knlt .zero) (H.kn .zero)).mono (fun e w' hc=>?_);obtain⟨⟨r,rfl,hr⟩,hb⟩:=hc;replace H:=H.call hb;clear hb;have dr:decide ((4200:Int)<(r:Int))=true:=decide_eq_true (by have:=hr.2.1 hbig;omega))|((with_reducible refine kg 1 ?_);(first|refine kA 1 H ?_|refine kS 1 H ?_|refine kB 1 H ?_);clear H;intro b1 w H;try simp only[nr]at H)|(first|((with_reducible refine gTi ?_);refine aTi H ?_;clear H;intro w H;try simp only[nr]at H)|((with_reducible refine gLi ?_);refine aLi H ?_)|((with_reducible refine gL ?_);refine aGi H ?_)|((with_reducible refine gBi ?_);refine ib1 ?_)|((with_reducible refine gBi ?_);refine ib2 ?_)|((with_reducible refine gBi ?_);refine ib3 ?_)|((with_reducible refine gBi ?_);refine ib4 ?_)|((with_reducible refine gBi ?_);refine ib5 ?_)|((with_reducible refine gBi ?_);refine ib6 ?_)|((with_reducible refine gBi ?_);refine ib7 ?_)|((with_reducible refine gBi ?_);refine ib0 ?_)|((with_reducible refine gT ?_);(first|((first|refine aS H ?_|refine aW H ?_|refine aO H ?_|refine aT H ?_);clear H;intro w H;try simp only[nr]at H)|(refine aN H ?_;clear H;intro w H;(try simp only[nr]at H);try simp only[zBS,nrl]at H)))|((with_reducible refine gL ?_);(first|refine aV H ?_|refine aL H ?_|refine aVn H ?_|refine aGb H ?_|refine aG H ?_|refine aD H ?_))|((with_reducible refine gX ?_);((first|refine bS H ?_|refine bB H ?_);clear H;intro b w H;try simp only[nr]at H))|((with_reducible refine gA ?_);(refine bA H ?_;clear H;intro b w H;try simp only[nr]at H))|((with_reducible refine gZ ?_);refine nb0 ?_)|((with_reducible refine gZ ?_);refine nb1 ?_)|((with_reducible refine gZ ?_);refine nbS ?_)|((with_reducible refine gZ ?_);refine nbK ?_)|((with_reducible refine gZ ?_);refine nbG ?_)|((with_reducible refine gZ ?_);refine nbR ?_)|((with_reducible refine gZ ?_);refine nbA ?_)|((with_reducible refine gZ ?_);refine fb3 ?_)|((with_reducible refine gES ?_);refine qS ?_)|((with_reducible refine gNS ?_);refine qN ?_)|((with_reducible refine gZ ?_);refine aZ ?_)|((with_reducible refine gI ?_);refine aI ?_)|((with_reducible refine gC ?_);refine aC ?_)|((with_reducible refine gF ?_);refine aF ?_)|((with_reducible refine gU ?_);refine aU ?_)|((with_reducible refine gE ?_);refine aE ?_)|((with_reducible refine gQ ?_);refine aQ ?_)))
   go_ret;exact⟨rfl,H.below⟩
  ·have hle:zAB t<=4200:=by omega
   go_enter Tryz.func4,Tryz.ntmps4
   go_wp2_with (first|((with_reducible refine ch (zEX _) H ?_);clear H;intro w H)|(go_at_call 9;refine zOF (hmk _ (H.knlt .zero) (H.kn .zero)) H ?_;clear H;intro w H)|(go_at_call 6;refine(hno _ (H.knlt .zero) (H.kn .zero)).mono (fun e w' hc=>?_);obtain⟨⟨r,rfl,hr⟩,hb⟩:=hc;replace H:=H.call hb;clear hb;have dr:decide ((4200:Int)<(r:Int))=false:=decide_eq_false (by have:=hr.1 hle;omega))|((with_reducible refine kg 1 ?_);(first|refine kA 1 H ?_|refine kS 1 H ?_|refine kB 1 H ?_);clear H;intro b1 w H;try simp only[nr]at H)|(first|((with_reducible refine gTi ?_);refine aTi H ?_;clear H;intro w H;try simp only[nr]at H)|((with_reducible refine gLi ?_);refine aLi H ?_)|((with_reducible refine gL ?_);refine aGi H ?_)|((with_reducible refine gBi ?_);refine ib1 ?_)|((with_reducible refine gBi ?_);refine ib2 ?_)|((with_reducible refine gBi ?_);refine ib3 ?_)|((with_reducible refine gBi ?_);refine ib4 ?_)|((with_reducible refine gBi ?_);refine ib5 ?_)|((with_reducible refine gBi ?_);refine ib6 ?_)|((with_reducible refine gBi ?_);refine ib7 ?_)|((with_reducible refine gBi ?_);refine ib0 ?_)|((with_reducible refine gT ?_);(first|((first|refine aS H ?_|refine aW H ?_|refine aO H ?_|refine aT H ?_);clear H;intro w H;try simp only[nr]at H)|(refine aN H ?_;clear H;intro w H;(try simp only[nr]at H);try simp only[zBS,nrl]at H)))|((with_reducible refine gL ?_);(first|refine aV H ?_|refine aL H ?_|refine aVn H ?_|refine aGb H ?_|refine aG H ?_|refine aD H ?_))|((with_reducible refine gX ?_);((first|refine bS H ?_|refine bB H ?_);clear H;intro b w H;try simp only[nr]at H))|((with_reducible refine gA ?_);(refine bA H ?_;clear H;intro b w H;try simp only[nr]at H))|((with_reducible refine gZ ?_);refine nb0 ?_)|((with_reducible refine gZ ?_);refine nb1 ?_)|((with_reducible refine gZ ?_);refine nbS ?_)|((with_reducible refine gZ ?_);refine nbK ?_)|((with_reducible refine gZ ?_);refine nbG ?_)|((with_reducible refine gZ ?_);refine nbR ?_)|((with_reducible refine gZ ?_);refine nbA ?_)|((with_reducible refine gZ ?_);refine fb3 ?_)|((with_reducible refine gES ?_);refine qS ?_)|((with_reducible refine gNS ?_);refine qN ?_)|((with_reducible refine gZ ?_);refine aZ ?_)|((with_reducible refine gI ?_);refine aI ?_)|((with_reducible refine gC ?_);refine aC ?_)|((with_reducible refine gF ?_);refine aF ?_)|((with_reducible refine gU ?_);refine aU ?_)|((with_reducible refine gE ?_);refine aE ?_)|((with_reducible refine gQ ?_);refine aQ ?_)))
   go_ret;exact⟨rfl,H.below⟩
 | ok ps =>
  obtain⟨s,hss⟩:=zII hs;have hle:zAB t<=4200:=by have:=zIN hss;omega
  have hok:=zD7 hss;have hform:=zOf hss hs;have hs2:zCh s=.ok ps:=(zKa hss).trans hs;have hsl:=zKu hform;rw[hs]at hmk;have hsi:=fun w (h1:∀ b,F b->b<w.heap.size) (h2:ForestR w F p c t.kids)=>zIJ t p _ c F w (by omega) h1 h2 rfl
  rw[hss]at hsi;have hmk2:=fun {q m F1} w (h1:∀ b,F1 b->b<w.heap.size) (h2:ForestR w F1 q m s.kids)=>zJa s q _ m F1 w (by omega) h1 h2 rfl
  rw[hs2]at hmk2;have hsz:=fun {q m F1} w (h1:∀ b,F1 b->b<w.heap.size) (h2:ForestR w F1 q m s.kids)=>zJb (zAB s) s q _ m F1 w (by omega) (Nat.le_refl _) hok.1 h1 h2 rfl
  have hgr:=fun {q m F1} w (h1:∀ b,F1 b->b<w.heap.size) (h2:ForestR w F1 q m s.kids)=>zL0 s q m F1 w (by omega) h1 h2
  rw[zKN]at hgr;obtain⟨gg,hgg⟩:∃ gg,grpT s=gg:=⟨_,rfl⟩;obtain⟨z,hz⟩:∃ z,zCw s=z:=⟨_,rfl⟩;have hlen:=hform.len;have hmost:=hform.most;rw[hgg]at hgr hsl;rw[hz]at hsz hlen;obtain⟨N,hN⟩:∃ N,ps.length=N:=⟨_,rfl⟩;have hN3:3<=N/\N<=4000:=by omega
  have hzb:z<=4000:=by omega
  have dz:((N:Int) != (z:Int)+3)=false:=by rw[← hN,hlen];simp
  have dl:decide ((N:Int) - 1<2)=false:=decide_eq_false (by omega)
  have HLAST:=Lib.hid (show ∀ (i:Nat) (x:InstD),ps[i]?=some x->(x.kind=5↔i+1=N) from fun i x h=>hN ▸ hform.last i x h)
  have HSLOT:=Lib.hid hform.slot;have HF:=Lib.hid hform;have HSL:=Lib.hid hsl;have HN:=Lib.hid hN;have hsame:=fun q1 q2 c1 c2 F G w (h1:∀ b,F b->b<w.heap.size) (h2:∀ b,G b->b<w.heap.size) h3 h4=>zE1 q1 q2 c1 c2 ps F G w h1 h2 h3 h4
  have hslo:=fun q c F w (h1:∀ b,F b->b<w.heap.size) h2=>zJ5 q c ps F w h1 h2
  rw[hN]at hsame hslo;rw[hsl.1]at hslo;clear hs hss hok hs2 hgg hz hlen hform hmost hsl hN
  go_enter Tryz.func4,Tryz.ntmps4
  go_upto_region 4 with (first|((with_reducible refine ch (zEX _) H ?_);clear H;intro w H)|(go_at_call 9;refine zPQ (hmk _ (H.knlt .zero) (H.kn .zero)) H ?_;clear H;intro q3 m3 w H;simp only[ca]at H;rw[HN.out]at H ⊢)|((with_reducible refine kg 1 ?_);(first|refine kA 1 H ?_|refine kS 1 H ?_|refine kB 1 H ?_);clear H;intro b1 w H;try simp only[nr]at H)|(first|((with_reducible refine gTi ?_);refine aTi H ?_;clear H;intro w H;try simp only[nr]at H)|((with_reducible refine gLi ?_);refine aLi H ?_)|((with_reducible refine gL ?_);refine aGi H ?_)|((with_reducible refine gBi ?_);refine ib1 ?_)|((with_reducible refine gBi ?_);refine ib2 ?_)|((with_reducible refine gBi ?_);refine ib3 ?_)|((with_reducible refine gBi ?_);refine ib4 ?_)|((with_reducible refine gBi ?_);refine ib5 ?_)|((with_reducible refine gBi ?_);refine ib6 ?_)|((with_reducible refine gBi ?_);refine ib7 ?_)|((with_reducible refine gBi ?_);refine ib0 ?_)|((with_reducible refine gT ?_);(first|((first|refine aS H ?_|refine aW H ?_|refine aO H ?_|refine aT H ?_);clear H;intro w H;try simp only[nr]at H)|(refine aN H ?_;clear H;intro w H;(try simp only[nr]at H);try simp only[zBS,nrl]at H)))|((with_reducible refine gL ?_);(first|refine aV H ?_|refine aL H ?_|refine aVn H ?_|refine aGb H ?_|refine aG H ?_|refine aD H ?_))|((with_reducible refine gX ?_);((first|refine bS H ?_|refine bB H ?_);clear H;intro b w H;try simp only[nr]at H))|((with_reducible refine gA ?_);(refine bA H ?_;clear H;intro b w H;try simp only[nr]at H))|((with_reducible refine gZ ?_);refine nb0 ?_)|((with_reducible refine gZ ?_);refine nb1 ?_)|((with_reducible refine gZ ?_);refine nbS ?_)|((with_reducible refine gZ ?_);refine nbK ?_)|((with_reducible refine gZ ?_);refine nbG ?_)|((with_reducible refine gZ ?_);refine nbR ?_)|((with_reducible refine gZ ?_);refine nbA ?_)|((with_reducible refine gZ ?_);refine fb3 ?_)|((with_reducible refine gES ?_);refine qS ?_)|((with_reducible refine gNS ?_);refine qN ?_)|((with_reducible refine gZ ?_);refine aZ ?_)|((with_reducible refine gI ?_);refine aI ?_)|((with_reducible refine gC ?_);refine aC ?_)|((with_reducible refine gF ?_);refine aF ?_)|((with_reducible refine gU ?_);refine aU ?_)|((with_reducible refine gE ?_);refine aE ?_)|((with_reducible refine gQ ?_);refine aQ ?_)))
  obtain⟨F3,H2⟩:=H.restInsts (i:=2) i_2 HN.out;simp only[sc]at H2;clear H;have H:=H2;clear H2
  go_upto_region 8 with (first|(go_at_call 6;refine(hno _ (H.knlt .zero) (H.kn .zero)).mono (fun e w' hc=>?_);obtain⟨⟨r,rfl,hr⟩,hb⟩:=hc;replace H:=H.call hb;clear hb;have dr:decide ((4200:Int)<(r:Int))=false:=decide_eq_false (by have:=hr.1 hle;omega))|(go_at_call 13;refine zOI (hsi _ (H.knlt .zero) (H.kn .zero)) H ?_;clear H;intro q5 m5 F5 w hF5 H;simp only[ca]at H)|(go_at_call 9;refine zPQ (hmk2 _ (H.knlt (i:=3) i_3) (H.kn (i:=3) i_3)) H ?_;clear H;intro q7 m7 w H;simp only[ca]at H;rw[HN.out]at H ⊢)|((with_reducible refine kg 1 ?_);(first|refine kA 1 H ?_|refine kS 1 H ?_|refine kB 1 H ?_);clear H;intro b1 w H;try simp only[nr]at H)|((with_reducible refine kg 5 ?_);(first|refine kA 5 H ?_|refine kS 5 H ?_|refine kB 5 H ?_);clear H;intro b5 w H;try simp only[nr]at H)|(first|((with_reducible refine gTi ?_);refine aTi H ?_;clear H;intro w H;try simp only[nr]at H)|((with_reducible refine gLi ?_);refine aLi H ?_)|((with_reducible refine gL ?_);refine aGi H ?_)|((with_reducible refine gBi ?_);refine ib1 ?_)|((with_reducible refine gBi ?_);refine ib2 ?_)|((with_reducible refine gBi ?_);refine ib3 ?_)|((with_reducible refine gBi ?_);refine ib4 ?_)|((with_reducible refine gBi ?_);refine ib5 ?_)|((with_reducible refine gBi ?_);refine ib6 ?_)|((with_reducible refine gBi ?_);refine ib7 ?_)|((with_reducible refine gBi ?_);refine ib0 ?_)|((with_reducible refine gT ?_);(first|((first|refine aS H ?_|refine aW H ?_|refine aO H ?_|refine aT H ?_);clear H;intro w H;try simp only[nr]at H)|(refine aN H ?_;clear H;intro w H;(try simp only[nr]at H);try simp only[zBS,nrl]at H)))|((with_reducible refine gL ?_);(first|refine aV H ?_|refine aL H ?_|refine aVn H ?_|refine aGb H ?_|refine aG H ?_|refine aD H ?_))|((with_reducible refine gX ?_);((first|refine bS H ?_|refine bB H ?_);clear H;intro b w H;try simp only[nr]at H))|((with_reducible refine gA ?_);(refine bA H ?_;clear H;intro b w H;try simp only[nr]at H))|((with_reducible refine gZ ?_);refine nb0 ?_)|((with_reducible refine gZ ?_);refine nb1 ?_)|((with_reducible refine gZ ?_);refine nbS ?_)|((with_reducible refine gZ ?_);refine nbK ?_)|((with_reducible refine gZ ?_);refine nbG ?_)|((with_reducible refine gZ ?_);refine nbR ?_)|((with_reducible refine gZ ?_);refine nbA ?_)|((with_reducible refine gZ ?_);refine fb3 ?_)|((with_reducible refine gES ?_);refine qS ?_)|((with_reducible refine gNS ?_);refine qN ?_)|((with_reducible refine gZ ?_);refine aZ ?_)|((with_reducible refine gI ?_);refine aI ?_)|((with_reducible refine gC ?_);refine aC ?_)|((with_reducible refine gF ?_);refine aF ?_)|((with_reducible refine gU ?_);refine aU ?_)|((with_reducible refine gE ?_);refine aE ?_)|((with_reducible refine gQ ?_);refine aQ ?_)))
  obtain⟨F7,H2⟩:=H.restInsts (i:=5) i_5 HN.out;simp only[sc]at H2;clear H;have H:=H2;clear H2
  go_wp2_with (first|((with_reducible first|refine ch (hsame q3 q7 m3 m7 F3 F7 _ (H.knlt (i:=2) i_2) (H.knlt (i:=5) i_5) (H.kn (i:=2) i_2) (H.kn (i:=5) i_5)) H ?_|refine ch (hsz _ (H.knlt (i:=3) i_3) (H.kn (i:=3) i_3)) H ?_);clear H;intro w H)|((with_reducible refine gMS ?_);refine zIR rfl _ _ 44 rfl H Tryz.underlying44 hii hi0 hi1 hi2 rfl (by decide) (n:=42) rfl rfl (by decide) (by decide) ?_;clear H;intro g w H;simp only[ca]at H;rw[zOA]at H)|((with_reducible refine kg 1 ?_);(first|refine kA 1 H ?_|refine kS 1 H ?_|refine kB 1 H ?_);clear H;intro b1 w H;try simp only[nr]at H)|((with_reducible refine kg 5 ?_);(first|refine kA 5 H ?_|refine kS 5 H ?_|refine kB 5 H ?_);clear H;intro b5 w H;try simp only[nr]at H)|(first|((with_reducible refine gTi ?_);refine aTi H ?_;clear H;intro w H;try simp only[nr]at H)|((with_reducible refine gLi ?_);refine aLi H ?_)|((with_reducible refine gL ?_);refine aGi H ?_)|((with_reducible refine gBi ?_);refine ib1 ?_)|((with_reducible refine gBi ?_);refine ib2 ?_)|((with_reducible refine gBi ?_);refine ib3 ?_)|((with_reducible refine gBi ?_);refine ib4 ?_)|((with_reducible refine gBi ?_);refine ib5 ?_)|((with_reducible refine gBi ?_);refine ib6 ?_)|((with_reducible refine gBi ?_);refine ib7 ?_)|((with_reducible refine gBi ?_);refine ib0 ?_)|((with_reducible refine gT ?_);(first|((first|refine aS H ?_|refine aW H ?_|refine aO H ?_|refine aT H ?_);clear H;intro w H;try simp only[nr]at H)|(refine aN H ?_;clear H;intro w H;(try simp only[nr]at H);try simp only[zBS,nrl]at H)))|((with_reducible refine gL ?_);(first|refine aV H ?_|refine aL H ?_|refine aVn H ?_|refine aGb H ?_|refine aG H ?_|refine aD H ?_))|((with_reducible refine gX ?_);((first|refine bS H ?_|refine bB H ?_);clear H;intro b w H;try simp only[nr]at H))|((with_reducible refine gA ?_);(refine bA H ?_;clear H;intro b w H;try simp only[nr]at H))|((with_reducible refine gZ ?_);refine nb0 ?_)|((with_reducible refine gZ ?_);refine nb1 ?_)|((with_reducible refine gZ ?_);refine nbS ?_)|((with_reducible refine gZ ?_);refine nbK ?_)|((with_reducible refine gZ ?_);refine nbG ?_)|((with_reducible refine gZ ?_);refine nbR ?_)|((with_reducible refine gZ ?_);refine nbA ?_)|((with_reducible refine gZ ?_);refine fb3 ?_)|((with_reducible refine gES ?_);refine qS ?_)|((with_reducible refine gNS ?_);refine qN ?_)|((with_reducible refine gZ ?_);refine aZ ?_)|((with_reducible refine gI ?_);refine aI ?_)|((with_reducible refine gC ?_);refine aC ?_)|((with_reducible refine gF ?_);refine aF ?_)|((with_reducible refine gU ?_);refine aU ?_)|((with_reducible refine gE ?_);refine aE ?_)|((with_reducible refine gQ ?_);refine aQ ?_)))
  have H2:Hold w0 _ [.kn F3 (InstsR F3 q3 m3 ps),.kn F5 (fun V=>ForestR V F5 q5 m5 s.kids),.blk b5 (zAR s.d (.slice q5 s.kids.length m5)) 28,.row (.slice (some ⟨g,0,none⟩) 42 42) 3 1 42 (cntL [])]:=H.pick [2,3,4,6] _ (by decide) rfl
  clear H;have H:=H2;clear H2;have hq3:=fun h=>(H.kn (i:=0) .zero).at (by rw[HN.out];exact h:0<ps.length)
  obtain⟨b3,o3,rfl⟩:=hq3 (by omega)
  clear hq3
  go_loopw [11] (fun i wr=>∃ k:Nat,k<=N/\i=.int .i64 k/\Hold w0 wr [.kn F3 (InstsR F3 (some ⟨b3,o3,none⟩) m3 ps),.kn F5 (fun V=>ForestR V F5 q5 m5 s.kids),.blk b5 (zAR s.d (.slice q5 s.kids.length m5)) 28,.row (.slice (some ⟨g,0,none⟩) 42 42) 3 1 42 (cntL (ps.take k))]) (fun i _=>N+1 - (intOf i).toNat)
  case atStart=>exact⟨0,by omega,rfl,H⟩
  case round =>
   clear H;obtain⟨k,hk,rfl,H⟩:=hrel
   by_cases hlt:k<N
   ·have dk:decide ((k:Int)<=(N:Int) - 1)=true:=decide_eq_true (by omega)
    obtain⟨x,hx⟩:∃ x,ps[k]?=some x:=⟨_,List.getElem?_eq_getElem (by rw[HN.out];exact hlt)⟩
    have HC:=Lib.hid (fun V (h:InstsR F3 (some ⟨b3,o3,none⟩) m3 ps V)=>h.cells hx rfl:∀ V,InstsR F3 (some ⟨b3,o3,none⟩) m3 ps V->∀ q,q<9->V.cell? ⟨b3,o3+k * 9+q,none⟩=(zAJ x)[q]?)
    have hl5:=HLAST.out k x hx;have hsl3:=HSLOT.out x (List.mem_of_getElem? hx);have HTK:=Lib.hid (zBb hx);obtain⟨q,e5,e6⟩:∃ q,(x.kind == 5)=q/\((k:Int) == (N:Int) - 1)=q:=by
     refine⟨_,rfl,?_⟩
     rw[Bool.eq_iff_iff,beq_iff_eq,beq_iff_eq,hl5];omega
    have eqq:(q != q)=false:=by cases q<;>rfl
    clear hl5 hx
    by_cases h3:x.kind=3
    ·have e3:(x.kind == 3)=true:=by rw[h3];rfl
     obtain⟨sl,hsl0⟩:=Int.eq_ofNat_of_zero_le (hsl3 h3).1;have h42:sl<42:=by have:=(hsl3 h3).2;omega
     have d0:decide ((sl:Int)<0)=false:=decide_eq_false (by omega)
     have d42:decide ((sl:Int) ≥ 42)=false:=decide_eq_false (by omega)
     have HS:=Lib.hid hsl0;have hput:=Lib.hid (zNp (l:=ps.take k) h3 hsl0 h42);obtain⟨cv,hcv⟩:∃ cv,cnt sl (ps.take k)=cv:=⟨_,rfl⟩;have hcv4:cv<=4000:=by
      have h1:cnt sl (ps.take k)<=(ps.take k).length:=List.length_filter_le ..;rw[List.length_take,hcv]at h1;omega
     rw[hcv]at hput;have HCV:=Lib.hid (show (cntL (ps.take k))[sl]?=some (.int .i64 (cv:Nat)) by rw[← hcv];exact zE4 _ h42)
     clear hcv;clear h3 hsl0 hsl3
     go_wp2_with (first|((with_reducible refine gL ?_);refine zAM wtd_ _ _ rfl rfl zAd ((HC.out _ (H.kn (i:=0) .zero) 0 (by decide)).trans (ig0 x)) ?_)|((with_reducible refine gL ?_);refine zAM wtd_ _ _ rfl rfl zAC ((HC.out _ (H.kn (i:=0) .zero) 7 (by decide)).trans ((ig7 x).trans (by rw[HS.out]))) ?_)|((with_reducible refine gL ?_);refine zAM wtd_ _ _ rfl rfl zAC ((zDE (H.all 3 _ (At.get i_3)) (by omega)).trans HCV.out) ?_)|((with_reducible refine gT ?_);refine zAt wtd_ _ _ _ rfl rfl (v:=.int .i64 ((cv:Int)+1)) rfl H (j:=3) i_3 (zAE zAC) rfl (by omega) ?_;clear H;intro w H;simp only[sc]at H;rw[hput.out]at H)|((with_reducible refine kg 1 ?_);(first|refine kA 1 H ?_|refine kS 1 H ?_|refine kB 1 H ?_);clear H;intro b1 w H;try simp only[nr]at H)|((with_reducible refine kg 5 ?_);(first|refine kA 5 H ?_|refine kS 5 H ?_|refine kB 5 H ?_);clear H;intro b5 w H;try simp only[nr]at H)|(first|((with_reducible refine gTi ?_);refine aTi H ?_;clear H;intro w H;try simp only[nr]at H)|((with_reducible refine gLi ?_);refine aLi H ?_)|((with_reducible refine gL ?_);refine aGi H ?_)|((with_reducible refine gBi ?_);refine ib1 ?_)|((with_reducible refine gBi ?_);refine ib2 ?_)|((with_reducible refine gBi ?_);refine ib3 ?_)|((with_reducible refine gBi ?_);refine ib4 ?_)|((with_reducible refine gBi ?_);refine ib5 ?_)|((with_reducible refine gBi ?_);refine ib6 ?_)|((with_reducible refine gBi ?_);refine ib7 ?_)|((with_reducible refine gBi ?_);refine ib0 ?_)|((with_reducible refine gT ?_);(first|((first|refine aS H ?_|refine aW H ?_|refine aO H ?_|refine aT H ?_);clear H;intro w H;try simp only[nr]at H)|(refine aN H ?_;clear H;intro w H;(try simp only[nr]at H);try simp only[zBS,nrl]at H)))|((with_reducible refine gL ?_);(first|refine aV H ?_|refine aL H ?_|refine aVn H ?_|refine aGb H ?_|refine aG H ?_|refine aD H ?_))|((with_reducible refine gX ?_);((first|refine bS H ?_|refine bB H ?_);clear H;intro b w H;try simp only[nr]at H))|((with_reducible refine gA ?_);(refine bA H ?_;clear H;intro b w H;try simp only[nr]at H))|((with_reducible refine gZ ?_);refine nb0 ?_)|((with_reducible refine gZ ?_);refine nb1 ?_)|((with_reducible refine gZ ?_);refine nbS ?_)|((with_reducible refine gZ ?_);refine nbK ?_)|((with_reducible refine gZ ?_);refine nbG ?_)|((with_reducible refine gZ ?_);refine nbR ?_)|((with_reducible refine gZ ?_);refine nbA ?_)|((with_reducible refine gZ ?_);refine fb3 ?_)|((with_reducible refine gES ?_);refine qS ?_)|((with_reducible refine gNS ?_);refine qN ?_)|((with_reducible refine gZ ?_);refine aZ ?_)|((with_reducible refine gI ?_);refine aI ?_)|((with_reducible refine gC ?_);refine aC ?_)|((with_reducible refine gF ?_);refine aF ?_)|((with_reducible refine gU ?_);refine aU ?_)|((with_reducible refine gE ?_);refine aE ?_)|((with_reducible refine gQ ?_);refine aQ ?_)))
     go_roundw
     case rel=>exact⟨k+1,by omega,by go_num,by rw[HTK.out];exact H⟩
     case measure=>simp[intOf];omega
    ·have e3:(x.kind == 3)=false:=by rw[beq_eq_false_iff_ne];exact h3
     have hput:=Lib.hid (zLt (l:=ps.take k) h3);clear h3 hsl3
     go_wp2_with (first|((with_reducible refine gL ?_);refine zAM wtd_ _ _ rfl rfl zAd ((HC.out _ (H.kn (i:=0) .zero) 0 (by decide)).trans (ig0 x)) ?_)|((with_reducible refine kg 1 ?_);(first|refine kA 1 H ?_|refine kS 1 H ?_|refine kB 1 H ?_);clear H;intro b1 w H;try simp only[nr]at H)|((with_reducible refine kg 5 ?_);(first|refine kA 5 H ?_|refine kS 5 H ?_|refine kB 5 H ?_);clear H;intro b5 w H;try simp only[nr]at H)|(first|((with_reducible refine gTi ?_);refine aTi H ?_;clear H;intro w H;try simp only[nr]at H)|((with_reducible refine gLi ?_);refine aLi H ?_)|((with_reducible refine gL ?_);refine aGi H ?_)|((with_reducible refine gBi ?_);refine ib1 ?_)|((with_reducible refine gBi ?_);refine ib2 ?_)|((with_reducible refine gBi ?_);refine ib3 ?_)|((with_reducible refine gBi ?_);refine ib4 ?_)|((with_reducible refine gBi ?_);refine ib5 ?_)|((with_reducible refine gBi ?_);refine ib6 ?_)|((with_reducible refine gBi ?_);refine ib7 ?_)|((with_reducible refine gBi ?_);refine ib0 ?_)|((with_reducible refine gT ?_);(first|((first|refine aS H ?_|refine aW H ?_|refine aO H ?_|refine aT H ?_);clear H;intro w H;try simp only[nr]at H)|(refine aN H ?_;clear H;intro w H;(try simp only[nr]at H);try simp only[zBS,nrl]at H)))|((with_reducible refine gL ?_);(first|refine aV H ?_|refine aL H ?_|refine aVn H ?_|refine aGb H ?_|refine aG H ?_|refine aD H ?_))|((with_reducible refine gX ?_);((first|refine bS H ?_|refine bB H ?_);clear H;intro b w H;try simp only[nr]at H))|((with_reducible refine gA ?_);(refine bA H ?_;clear H;intro b w H;try simp only[nr]at H))|((with_reducible refine gZ ?_);refine nb0 ?_)|((with_reducible refine gZ ?_);refine nb1 ?_)|((with_reducible refine gZ ?_);refine nbS ?_)|((with_reducible refine gZ ?_);refine nbK ?_)|((with_reducible refine gZ ?_);refine nbG ?_)|((with_reducible refine gZ ?_);refine nbR ?_)|((with_reducible refine gZ ?_);refine nbA ?_)|((with_reducible refine gZ ?_);refine fb3 ?_)|((with_reducible refine gES ?_);refine qS ?_)|((with_reducible refine gNS ?_);refine qN ?_)|((with_reducible refine gZ ?_);refine aZ ?_)|((with_reducible refine gI ?_);refine aI ?_)|((with_reducible refine gC ?_);refine aC ?_)|((with_reducible refine gF ?_);refine aF ?_)|((with_reducible refine gU ?_);refine aU ?_)|((with_reducible refine gE ?_);refine aE ?_)|((with_reducible refine gQ ?_);refine aQ ?_)))
     go_roundw
     case rel=>exact⟨k+1,by omega,by go_num,by rw[HTK.out,hput.out];exact H⟩
     case measure=>simp[intOf];omega
   ·obtain rfl:N=k:=by omega
    have dk:decide ((N:Int)<=(N:Int) - 1)=false:=decide_eq_false (by omega)
    have hps:ps.take N=ps:=List.take_of_length_le (by rw[HN.out];exact Nat.le_refl _)
    rw[hps]at H;clear hps
    go_wp2_with (first|((with_reducible refine kg 1 ?_);(first|refine kA 1 H ?_|refine kS 1 H ?_|refine kB 1 H ?_);clear H;intro b1 w H;try simp only[nr]at H)|((with_reducible refine kg 5 ?_);(first|refine kA 5 H ?_|refine kS 5 H ?_|refine kB 5 H ?_);clear H;intro b5 w H;try simp only[nr]at H)|(first|((with_reducible refine gTi ?_);refine aTi H ?_;clear H;intro w H;try simp only[nr]at H)|((with_reducible refine gLi ?_);refine aLi H ?_)|((with_reducible refine gL ?_);refine aGi H ?_)|((with_reducible refine gBi ?_);refine ib1 ?_)|((with_reducible refine gBi ?_);refine ib2 ?_)|((with_reducible refine gBi ?_);refine ib3 ?_)|((with_reducible refine gBi ?_);refine ib4 ?_)|((with_reducible refine gBi ?_);refine ib5 ?_)|((with_reducible refine gBi ?_);refine ib6 ?_)|((with_reducible refine gBi ?_);refine ib7 ?_)|((with_reducible refine gBi ?_);refine ib0 ?_)|((with_reducible refine gT ?_);(first|((first|refine aS H ?_|refine aW H ?_|refine aO H ?_|refine aT H ?_);clear H;intro w H;try simp only[nr]at H)|(refine aN H ?_;clear H;intro w H;(try simp only[nr]at H);try simp only[zBS,nrl]at H)))|((with_reducible refine gL ?_);(first|refine aV H ?_|refine aL H ?_|refine aVn H ?_|refine aGb H ?_|refine aG H ?_|refine aD H ?_))|((with_reducible refine gX ?_);((first|refine bS H ?_|refine bB H ?_);clear H;intro b w H;try simp only[nr]at H))|((with_reducible refine gA ?_);(refine bA H ?_;clear H;intro b w H;try simp only[nr]at H))|((with_reducible refine gZ ?_);refine nb0 ?_)|((with_reducible refine gZ ?_);refine nb1 ?_)|((with_reducible refine gZ ?_);refine nbS ?_)|((with_reducible refine gZ ?_);refine nbK ?_)|((with_reducible refine gZ ?_);refine nbG ?_)|((with_reducible refine gZ ?_);refine nbR ?_)|((with_reducible refine gZ ?_);refine nbA ?_)|((with_reducible refine gZ ?_);refine fb3 ?_)|((with_reducible refine gES ?_);refine qS ?_)|((with_reducible refine gNS ?_);refine qN ?_)|((with_reducible refine gZ ?_);refine aZ ?_)|((with_reducible refine gI ?_);refine aI ?_)|((with_reducible refine gC ?_);refine aC ?_)|((with_reducible refine gF ?_);refine aF ?_)|((with_reducible refine gU ?_);refine aU ?_)|((with_reducible refine gE ?_);refine aE ?_)|((with_reducible refine gQ ?_);refine aQ ?_)))
    go_loopw [12] (fun i wr=>∃ j:Nat,j<=42/\j % 2=0/\i=.int .i64 (j:Int)/\Hold w0 wr [.kn F3 (InstsR F3 (some ⟨b3,o3,none⟩) m3 ps),.kn F5 (fun V=>ForestR V F5 q5 m5 s.kids),.blk b5 (zAR s.d (.slice q5 s.kids.length m5)) 28,.row (.slice (some ⟨g,0,none⟩) 42 42) 3 1 42 (cntL ps)]) (fun i _=>43 - (intOf i).toNat)
    case atStart=>exact⟨0,by omega,rfl,rfl,H⟩
    case round =>
     clear H;obtain⟨j,hj,hj2,rfl,H⟩:=hrel
     by_cases hlt:j<42
     ·have dj:decide ((j:Int)<42)=true:=decide_eq_true (by omega)
      have hev:=HF.out.even ((j / 2:Nat):Int);rw[show 2 * ((j / 2:Nat):Int)=(j:Int) by omega]at hev
      obtain⟨cv,hcv⟩:∃ cv,cnt (j:Int) ps=cv:=⟨_,rfl⟩;have HC0:=Lib.hid (show (cntL ps)[0+j * 1]?=some (.int .i64 (cv:Nat)) by rw[Nat.mul_one,Nat.zero_add,zE4 _ hlt,hcv])
      have HC1:=Lib.hid (show (cntL ps)[0+(j+1) * 1]?=some (.int .i64 (cv:Nat)) by rw[Nat.mul_one,Nat.zero_add,zE4 _ (by omega),← hcv,hev];rfl)
      have hc1:j=0->cv=1:=fun h=>by rw[← hcv,h];exact HF.out.zero
      clear hev hcv
      by_cases hj0:j=0
      ·replace hc1:=hc1 hj0
       go_upto_region 24 with fail
       refine wr_ 21 [fun v _=>v=.slice (some ⟨g,0,none⟩) 42 42,fun v _=>v=.int .i64 (j:Int),fun v _=>v=.pointer (some ⟨g,0+j * 1,none⟩),fun v _=>v=.int .i64 (cv:Int),fun v _=>v=.slice (some ⟨g,0,none⟩) 42 42,fun v _=>v=.int .i64 (j:Int),fun v _=>v=.int .i64 ((j+1:Nat):Int),fun v _=>v=.pointer (some ⟨g,0+(j+1) * 1,none⟩),fun v _=>v=.int .i64 (cv:Int),fun v _=>v=.bool false,fun v _=>v=.bool false,fun v _=>v=.int .i64 (j:Int),fun v _=>v=.bool true,fun v _=>v=.bool true,fun v _=>v=.slice (some ⟨g,0,none⟩) 42 42,fun v _=>v=.int .i64 (j:Int),fun v _=>v=.pointer (some ⟨g,0+j * 1,none⟩),fun v _=>v=.int .i64 (cv:Int),fun v _=>v=.bool false,fun v _=>v=.bool false,fun v _=>v=.bool false] ?ob ?en
       case ob =>
        refine⟨?_,?_,?_,?_,?_,?_,?_,?_,?_,?_,?_,?_,?_,?_,?_,?_,?_,?_,?_,?_,?_,trivial⟩<;>intro A W h
        ·exact zAH rfl rfl (h.f 10)
        ·exact zAH rfl rfl (h.f 12)
        ·exact zBr (sz:=1) Tryz.underlying44 (fun w=>by kernel_rfl) rfl rfl (h.d 0 129) (h.d 1 130) (by omega) (by omega)
        ·exact zAA rfl (zAD rfl (h.d 2 131) zAC ((zDE ((H.call h.below).all 3 _ (At.get i_3)) (by omega)).trans HC0.out)) (by decide)
        ·exact zAH rfl rfl (h.f 10)
        ·exact zAH rfl rfl (h.f 12)
        ·(have e134:A.eval (.tmp 134)=.int .i64 (j:Int):=h.d 5 134;refine zAA rfl ?_;simp only[execOp,e134];(simp[go_sem]<;>first|done|omega|(rw[IntKind.wrap_i64];omega)|(rw[IntKind.wrap_u8];omega)|(rw[IntKind.wrap_u64];omega)))
        ·exact zBr (sz:=1) Tryz.underlying44 (fun w=>by kernel_rfl) rfl rfl (h.d 4 133) (h.d 6 135) (by omega) (by omega)
        ·exact zAA rfl (zAD rfl (h.d 7 136) zAC ((zDE ((H.call h.below).all 3 _ (At.get i_3)) (by omega)).trans HC1.out)) (by decide)
        ·(have e132:A.eval (.tmp 132)=.int .i64 (cv:Int):=h.d 3 132;have e137:A.eval (.tmp 137)=.int .i64 (cv:Int):=h.d 8 137;refine zAA rfl ?_;simp only[execOp,e132,e137];(simp[go_sem]<;>first|done|omega|(rw[IntKind.wrap_i64];omega)|(rw[IntKind.wrap_u8];omega)|(rw[IntKind.wrap_u64];omega)))
        ·exact zAH rfl rfl (h.d 9 138)
        ·exact zAH (wg (h.d 10 139)) rfl (h.f 12)
        ·(have e140:A.eval (.tmp 140)=.int .i64 (j:Int):=h.d 11 140;refine zAA (wg (h.d 10 139)) ?_;simp only[execOp,e140];simp[go_sem,hj0])
        ·exact zAH (wg (h.d 10 139)) rfl (h.d 12 141)
        ·exact zAH (wg (h.d 13 142)) rfl (h.f 10)
        ·exact zAH (wg (h.d 13 142)) rfl (h.f 12)
        ·exact zBr (sz:=1) Tryz.underlying44 (fun w=>by kernel_rfl) (wg (h.d 13 142)) rfl (h.d 14 143) (h.d 15 144) (by omega) (by omega)
        ·exact zAA (wg (h.d 13 142)) (zAD rfl (h.d 16 145) zAC ((zDE ((H.call h.below).all 3 _ (At.get i_3)) (by omega)).trans HC0.out)) (by decide)
        ·(have e146:A.eval (.tmp 146)=.int .i64 (cv:Int):=h.d 17 146;refine zAA (wg (h.d 13 142)) ?_;simp only[execOp,e146];simp[go_sem,hc1])
        ·exact zDV (wg (h.d 10 139)) rfl (h.d 13 142) (h.d 18 147)
        ·exact zDV rfl rfl (h.d 10 139) (h.d 19 148)
       case en =>
        intro vals W hbw hv _;simp only[fa,Nat.reduceAdd];rw[e_ hv 0,e_ hv 1,e_ hv 2,e_ hv 3,e_ hv 4,e_ hv 5,e_ hv 6,e_ hv 7,e_ hv 8,e_ hv 9,e_ hv 10,e_ hv 11,e_ hv 12,e_ hv 13,e_ hv 14,e_ hv 15,e_ hv 16,e_ hv 17,e_ hv 18,e_ hv 19,e_ hv 20];clear hv
        try simp only[pl]
        replace H:=H.call hbw;clear hbw
        go_wp2_with fail
        go_roundw
        case rel=>exact⟨j+2,by omega,by omega,by go_num,H⟩
        case measure=>simp[intOf];omega
      ·clear hc1
       go_upto_region 24 with fail
       refine wr_ 21 [fun v _=>v=.slice (some ⟨g,0,none⟩) 42 42,fun v _=>v=.int .i64 (j:Int),fun v _=>v=.pointer (some ⟨g,0+j * 1,none⟩),fun v _=>v=.int .i64 (cv:Int),fun v _=>v=.slice (some ⟨g,0,none⟩) 42 42,fun v _=>v=.int .i64 (j:Int),fun v _=>v=.int .i64 ((j+1:Nat):Int),fun v _=>v=.pointer (some ⟨g,0+(j+1) * 1,none⟩),fun v _=>v=.int .i64 (cv:Int),fun v _=>v=.bool false,fun v _=>v=.bool false,fun v _=>v=.int .i64 (j:Int),fun v _=>v=.bool false,fun v _=>v=.bool false,fun v _=>v=undef,fun v _=>v=undef,fun v _=>v=undef,fun v _=>v=undef,fun v _=>v=undef,fun v _=>v=Value.bool false,fun v _=>v=Value.bool false] ?ob ?en
       case ob =>
        refine⟨?_,?_,?_,?_,?_,?_,?_,?_,?_,?_,?_,?_,?_,?_,?_,?_,?_,?_,?_,?_,?_,trivial⟩<;>intro A W h
        ·exact zAH rfl rfl (h.f 10)
        ·exact zAH rfl rfl (h.f 12)
        ·exact zBr (sz:=1) Tryz.underlying44 (fun w=>by kernel_rfl) rfl rfl (h.d 0 129) (h.d 1 130) (by omega) (by omega)
        ·exact zAA rfl (zAD rfl (h.d 2 131) zAC ((zDE ((H.call h.below).all 3 _ (At.get i_3)) (by omega)).trans HC0.out)) (by decide)
        ·exact zAH rfl rfl (h.f 10)
        ·exact zAH rfl rfl (h.f 12)
        ·(have e134:A.eval (.tmp 134)=.int .i64 (j:Int):=h.d 5 134;refine zAA rfl ?_;simp only[execOp,e134];(simp[go_sem]<;>first|done|omega|(rw[IntKind.wrap_i64];omega)|(rw[IntKind.wrap_u8];omega)|(rw[IntKind.wrap_u64];omega)))
        ·exact zBr (sz:=1) Tryz.underlying44 (fun w=>by kernel_rfl) rfl rfl (h.d 4 133) (h.d 6 135) (by omega) (by omega)
        ·exact zAA rfl (zAD rfl (h.d 7 136) zAC ((zDE ((H.call h.below).all 3 _ (At.get i_3)) (by omega)).trans HC1.out)) (by decide)
        ·(have e132:A.eval (.tmp 132)=.int .i64 (cv:Int):=h.d 3 132;have e137:A.eval (.tmp 137)=.int .i64 (cv:Int):=h.d 8 137;refine zAA rfl ?_;simp only[execOp,e132,e137];(simp[go_sem]<;>first|done|omega|(rw[IntKind.wrap_i64];omega)|(rw[IntKind.wrap_u8];omega)|(rw[IntKind.wrap_u64];omega)))
        ·exact zAH rfl rfl (h.d 9 138)
        ·exact zAH (wg (h.d 10 139)) rfl (h.f 12)
        ·(have e140:A.eval (.tmp 140)=.int .i64 (j:Int):=h.d 11 140;refine zAA (wg (h.d 10 139)) ?_;simp only[execOp,e140];simp[go_sem,hj0])
        ·exact zAH (wg (h.d 10 139)) rfl (h.d 12 141)
        ·exact rsk (h.d 13 142)
        ·exact rsk (h.d 13 142)
        ·exact rsk (h.d 13 142)
        ·exact rsk (h.d 13 142)
        ·exact rsk (h.d 13 142)
        ·exact zDV (wg (h.d 10 139)) rfl (h.d 13 142) (rfl)
        ·exact zDV rfl rfl (h.d 10 139) (h.d 19 148)
       case en =>
        intro vals W hbw hv _;simp only[fa,Nat.reduceAdd];rw[e_ hv 0,e_ hv 1,e_ hv 2,e_ hv 3,e_ hv 4,e_ hv 5,e_ hv 6,e_ hv 7,e_ hv 8,e_ hv 9,e_ hv 10,e_ hv 11,e_ hv 12,e_ hv 13,e_ hv 14,e_ hv 15,e_ hv 16,e_ hv 17,e_ hv 18,e_ hv 19,e_ hv 20];clear hv
        try simp only[pl]
        replace H:=H.call hbw;clear hbw
        go_wp2_with fail
        go_roundw
        case rel=>exact⟨j+2,by omega,by omega,by go_num,H⟩
        case measure=>simp[intOf];omega
     ·obtain rfl:j=42:=by omega
      clear hj hj2 hlt;obtain⟨xa,hxa,hxk,hxs⟩:=HF.out.first
      obtain⟨xb,hxb,hbk,hbs,hbn⟩:=HF.out.save;rw[HN.out]at hxb hbn;have HA:=Lib.hid (fun V (h:InstsR F3 (some ⟨b3,o3,none⟩) m3 ps V)=>h.cells hxa rfl:∀ V,InstsR F3 (some ⟨b3,o3,none⟩) m3 ps V->∀ q,q<9->V.cell? ⟨b3,o3+0 * 9+q,none⟩=(zAJ xa)[q]?)
      have HB:=Lib.hid (fun V (h:InstsR F3 (some ⟨b3,o3,none⟩) m3 ps V)=>h.cells hxb rfl:∀ V,InstsR F3 (some ⟨b3,o3,none⟩) m3 ps V->∀ q,q<9->V.cell? ⟨b3,o3+(N - 2) * 9+q,none⟩=(zAJ xb)[q]?)
      have HAX:=Lib.hid (And.intro hxk hxs);have HBX:=Lib.hid (And.intro hbk (And.intro hbs (hbn.trans (show ((N - 1:Nat):Int)=(N:Int) - 1 by omega))))
      have hgb:=HSL.out.2;clear hxa hxb hxk hxs hbk hbs hbn
      go_upto_region 26 with fail
      refine wr_ 50 [fun v _=>v=.slice (some ⟨b3,o3,none⟩) N m3,fun v _=>v=.pointer (some ⟨b3,o3+0 * 9,none⟩),fun v _=>v=.pointer (some ⟨b3,o3+0 * 9,none⟩),fun v _=>v=.int .i64 3,fun v _=>v=.bool true,fun v _=>v=.bool true,fun v _=>v=.slice (some ⟨b3,o3,none⟩) N m3,fun v _=>v=.pointer (some ⟨b3,o3+0 * 9,none⟩),fun v _=>v=.pointer (some ⟨b3,o3+0 * 9+7,none⟩),fun v _=>v=.int .i64 0,fun v _=>v=.bool true,fun v _=>v=.bool true,fun v _=>v=.bool true,fun v _=>v=.slice (some ⟨b3,o3,none⟩) N m3,fun v _=>v=.int .i64 ((N:Int) - 1),fun v _=>v=.int .i64 ((N - 2:Nat):Int),fun v _=>v=.pointer (some ⟨b3,o3+(N - 2) * 9,none⟩),fun v _=>v=.pointer (some ⟨b3,o3+(N - 2) * 9,none⟩),fun v _=>v=.int .i64 3,fun v _=>v=.bool true,fun v _=>v=.bool true,fun v _=>v=.bool true,fun v _=>v=.slice (some ⟨b3,o3,none⟩) N m3,fun v _=>v=.int .i64 ((N:Int) - 1),fun v _=>v=.int .i64 ((N - 2:Nat):Int),fun v _=>v=.pointer (some ⟨b3,o3+(N - 2) * 9,none⟩),fun v _=>v=.pointer (some ⟨b3,o3+(N - 2) * 9+7,none⟩),fun v _=>v=.int .i64 1,fun v _=>v=.bool true,fun v _=>v=.bool true,fun v _=>v=.bool true,fun v _=>v=.slice (some ⟨b3,o3,none⟩) N m3,fun v _=>v=.int .i64 ((N:Int) - 1),fun v _=>v=.int .i64 ((N - 2:Nat):Int),fun v _=>v=.pointer (some ⟨b3,o3+(N - 2) * 9,none⟩),fun v _=>v=.pointer (some ⟨b3,o3+(N - 2) * 9+5,none⟩),fun v _=>v=.int .i64 ((N:Int) - 1),fun v _=>v=.int .i64 ((N:Int) - 1),fun v _=>v=.bool true,fun v _=>v=.bool true,fun v _=>v=.bool true,fun v _=>v=.slice (some ⟨b3,o3,none⟩) N m3,fun v _=>v=.int .i64 (2 * gg+2),fun v _=>v=.agg (zAR (s.d) (.slice q5 s.kids.length m5)),fun v _=>v=.int .i64 gg,fun v _=>v=.int .i64 (2 * gg),fun v _=>v=.int .i64 (2 * gg+2),fun v _=>v=.bool true,fun v _=>v=.bool true,fun v _=>v=.bool true] ?ob ?en
      case ob =>
       refine⟨?_,?_,?_,?_,?_,?_,?_,?_,?_,?_,?_,?_,?_,?_,?_,?_,?_,?_,?_,?_,?_,?_,?_,?_,?_,?_,?_,?_,?_,?_,?_,?_,?_,?_,?_,?_,?_,?_,?_,?_,?_,?_,?_,?_,?_,?_,?_,?_,?_,?_,trivial⟩<;>intro A W h
       ·exact zAH rfl rfl (h.f 3)
       ·exact zBr (sz:=9) Tryz.underlying32 (fun w=>by kernel_rfl) rfl rfl (h.d 0 150) (rfl:A.eval (.const (.int .i64 0))=.int .i64 ((0:Nat):Int)) (Nat.lt_of_lt_of_le (Nat.zero_lt_succ 2) hN3.1) rfl
       ·(have e151:A.eval (.tmp 151)=.pointer (some ⟨b3,o3+0 * 9,none⟩):=h.d 1 151;refine zAA rfl ?_;simp only[execOp,e151];(simp[go_sem]<;>first|done|omega|(rw[IntKind.wrap_i64];omega)|(rw[IntKind.wrap_u8];omega)|(rw[IntKind.wrap_u64];omega)))
       ·exact zAA rfl (zAD rfl (h.d 2 152) zAd ((HA.out _ ((H.call h.below).kn (i:=0) .zero) 0 (by decide)).trans ((ig0 xa).trans (by rw[HAX.out.1])))) (by decide)
       ·(have e153:A.eval (.tmp 153)=.int .i64 3:=h.d 3 153;refine zAA rfl ?_;simp only[execOp,e153];(simp[go_sem]<;>first|done|omega|(rw[IntKind.wrap_i64];omega)|(rw[IntKind.wrap_u8];omega)|(rw[IntKind.wrap_u64];omega)))
       ·exact zAH rfl rfl (h.d 4 154)
       ·exact zAH (wg (h.d 5 155)) rfl (h.f 3)
       ·exact zBr (sz:=9) Tryz.underlying32 (fun w=>by kernel_rfl) (wg (h.d 5 155)) rfl (h.d 6 156) (rfl:A.eval (.const (.int .i64 0))=.int .i64 ((0:Nat):Int)) (Nat.lt_of_lt_of_le (Nat.zero_lt_succ 2) hN3.1) rfl
       ·(have e157:A.eval (.tmp 157)=.pointer (some ⟨b3,o3+0 * 9,none⟩):=h.d 7 157;refine zAA (wg (h.d 5 155)) ?_;simp only[execOp,e157];(simp[go_sem]<;>first|done|omega|(rw[IntKind.wrap_i64];omega)|(rw[IntKind.wrap_u8];omega)|(rw[IntKind.wrap_u64];omega)))
       ·exact zAA (wg (h.d 5 155)) (zAD rfl (h.d 8 158) zAC ((HA.out _ ((H.call h.below).kn (i:=0) .zero) 7 (by decide)).trans ((ig7 xa).trans (by rw[HAX.out.2])))) (by decide)
       ·(have e159:A.eval (.tmp 159)=.int .i64 0:=h.d 9 159;refine zAA (wg (h.d 5 155)) ?_;simp only[execOp,e159];(simp[go_sem]<;>first|done|omega|(rw[IntKind.wrap_i64];omega)|(rw[IntKind.wrap_u8];omega)|(rw[IntKind.wrap_u64];omega)))
       ·exact zDV rfl rfl (h.d 5 155) (h.d 10 160)
       ·exact zAH rfl rfl (h.d 11 161)
       ·exact zAH (wg (h.d 12 162)) rfl (h.f 3)
       ·exact zAH (wg (h.d 12 162)) rfl (h.f 9)
       ·(have e164:A.eval (.tmp 164)=.int .i64 ((N:Int) - 1):=h.d 14 164;refine zAA (wg (h.d 12 162)) ?_;simp only[execOp,e164];(simp[go_sem]<;>first|done|omega|(rw[IntKind.wrap_i64];omega)|(rw[IntKind.wrap_u8];omega)|(rw[IntKind.wrap_u64];omega)))
       ·exact zBr (sz:=9) Tryz.underlying32 (fun w=>by kernel_rfl) (wg (h.d 12 162)) rfl (h.d 13 163) (h.d 15 165) (by omega) (by omega)
       ·(have e166:A.eval (.tmp 166)=.pointer (some ⟨b3,o3+(N - 2) * 9,none⟩):=h.d 16 166;refine zAA (wg (h.d 12 162)) ?_;simp only[execOp,e166];(simp[go_sem]<;>first|done|omega|(rw[IntKind.wrap_i64];omega)|(rw[IntKind.wrap_u8];omega)|(rw[IntKind.wrap_u64];omega)))
       ·exact zAA (wg (h.d 12 162)) (zAD rfl (h.d 17 167) zAd ((HB.out _ ((H.call h.below).kn (i:=0) .zero) 0 (by decide)).trans ((ig0 xb).trans (by rw[HBX.out.1])))) (by decide)
       ·(have e168:A.eval (.tmp 168)=.int .i64 3:=h.d 18 168;refine zAA (wg (h.d 12 162)) ?_;simp only[execOp,e168];(simp[go_sem]<;>first|done|omega|(rw[IntKind.wrap_i64];omega)|(rw[IntKind.wrap_u8];omega)|(rw[IntKind.wrap_u64];omega)))
       ·exact zDV rfl rfl (h.d 12 162) (h.d 19 169)
       ·exact zAH rfl rfl (h.d 20 170)
       ·exact zAH (wg (h.d 21 171)) rfl (h.f 3)
       ·exact zAH (wg (h.d 21 171)) rfl (h.f 9)
       ·(have e173:A.eval (.tmp 173)=.int .i64 ((N:Int) - 1):=h.d 23 173;refine zAA (wg (h.d 21 171)) ?_;simp only[execOp,e173];(simp[go_sem]<;>first|done|omega|(rw[IntKind.wrap_i64];omega)|(rw[IntKind.wrap_u8];omega)|(rw[IntKind.wrap_u64];omega)))
       ·exact zBr (sz:=9) Tryz.underlying32 (fun w=>by kernel_rfl) (wg (h.d 21 171)) rfl (h.d 22 172) (h.d 24 174) (by omega) (by omega)
       ·(have e175:A.eval (.tmp 175)=.pointer (some ⟨b3,o3+(N - 2) * 9,none⟩):=h.d 25 175;refine zAA (wg (h.d 21 171)) ?_;simp only[execOp,e175];(simp[go_sem]<;>first|done|omega|(rw[IntKind.wrap_i64];omega)|(rw[IntKind.wrap_u8];omega)|(rw[IntKind.wrap_u64];omega)))
       ·exact zAA (wg (h.d 21 171)) (zAD rfl (h.d 26 176) zAC ((HB.out _ ((H.call h.below).kn (i:=0) .zero) 7 (by decide)).trans ((ig7 xb).trans (by rw[HBX.out.2.1])))) (by decide)
       ·(have e177:A.eval (.tmp 177)=.int .i64 1:=h.d 27 177;refine zAA (wg (h.d 21 171)) ?_;simp only[execOp,e177];(simp[go_sem]<;>first|done|omega|(rw[IntKind.wrap_i64];omega)|(rw[IntKind.wrap_u8];omega)|(rw[IntKind.wrap_u64];omega)))
       ·exact zDV rfl rfl (h.d 21 171) (h.d 28 178)
       ·exact zAH rfl rfl (h.d 29 179)
       ·exact zAH (wg (h.d 30 180)) rfl (h.f 3)
       ·exact zAH (wg (h.d 30 180)) rfl (h.f 9)
       ·(have e182:A.eval (.tmp 182)=.int .i64 ((N:Int) - 1):=h.d 32 182;refine zAA (wg (h.d 30 180)) ?_;simp only[execOp,e182];(simp[go_sem]<;>first|done|omega|(rw[IntKind.wrap_i64];omega)|(rw[IntKind.wrap_u8];omega)|(rw[IntKind.wrap_u64];omega)))
       ·exact zBr (sz:=9) Tryz.underlying32 (fun w=>by kernel_rfl) (wg (h.d 30 180)) rfl (h.d 31 181) (h.d 33 183) (by omega) (by omega)
       ·(have e184:A.eval (.tmp 184)=.pointer (some ⟨b3,o3+(N - 2) * 9,none⟩):=h.d 34 184;refine zAA (wg (h.d 30 180)) ?_;simp only[execOp,e184];(simp[go_sem]<;>first|done|omega|(rw[IntKind.wrap_i64];omega)|(rw[IntKind.wrap_u8];omega)|(rw[IntKind.wrap_u64];omega)))
       ·exact zAA (wg (h.d 30 180)) (zAD rfl (h.d 35 185) zAC ((HB.out _ ((H.call h.below).kn (i:=0) .zero) 5 (by decide)).trans ((ig5 xb).trans (by rw[HBX.out.2.2])))) (by decide)
       ·exact zAH (wg (h.d 30 180)) rfl (h.f 9)
       ·(have e186:A.eval (.tmp 186)=.int .i64 ((N:Int) - 1):=h.d 36 186;have e187:A.eval (.tmp 187)=.int .i64 ((N:Int) - 1):=h.d 37 187;refine zAA (wg (h.d 30 180)) ?_;simp only[execOp,e186,e187];(simp[go_sem]<;>first|done|omega|(rw[IntKind.wrap_i64];omega)|(rw[IntKind.wrap_u8];omega)|(rw[IntKind.wrap_u64];omega)))
       ·exact zDV rfl rfl (h.d 30 180) (h.d 38 188)
       ·exact zAH rfl rfl (h.d 39 189)
       ·exact zAH (wg (h.d 40 190)) rfl (h.f 3)
       ·exact zD6 (wg (h.d 40 190)) rfl (enters_of Tryz.func16 (by kernel_rfl) rfl) (zNX (h.d 41 191)) (hslo _ _ F3 W ((H.call h.below).knlt (i:=0) .zero) ((H.call h.below).kn (i:=0) .zero))
       ·exact zAA (wg (h.d 40 190)) (zAb (n:=10) rfl (h.f 5) (by first|(with_reducible exact zAP)|(with_reducible exact zBY)|(with_reducible exact zCL)|(with_reducible exact zBQ)|(with_reducible exact zAj)) rfl (fun k _=>by rw[Nat.zero_add];exact(H.call h.below).cell (i:=2) i_2 k)) (by decide)
       ·exact zD6 (wg (h.d 40 190)) rfl (enters_of Tryz.func17 (by kernel_rfl) rfl) (zNX (h.d 43 193)) (hgr W ((H.call h.below).knlt (i:=1) i_1) ((H.call h.below).kn (i:=1) i_1))
       ·(have e194:A.eval (.tmp 194)=.int .i64 gg:=h.d 44 194;refine zAA (wg (h.d 40 190)) ?_;simp only[execOp,e194];(simp[go_sem]<;>first|done|omega|(rw[IntKind.wrap_i64];omega)|(rw[IntKind.wrap_u8];omega)|(rw[IntKind.wrap_u64];omega)))
       ·(have e195:A.eval (.tmp 195)=.int .i64 (2 * gg):=h.d 45 195;refine zAA (wg (h.d 40 190)) ?_;simp only[execOp,e195];(simp[go_sem]<;>first|done|omega|(rw[IntKind.wrap_i64];omega)|(rw[IntKind.wrap_u8];omega)|(rw[IntKind.wrap_u64];omega)))
       ·(have e192:A.eval (.tmp 192)=.int .i64 (2 * gg+2):=h.d 42 192;have e196:A.eval (.tmp 196)=.int .i64 (2 * gg+2):=h.d 46 196;refine zAA (wg (h.d 40 190)) ?_;simp only[execOp,e192,e196];(simp[go_sem]<;>first|done|omega|(rw[IntKind.wrap_i64];omega)|(rw[IntKind.wrap_u8];omega)|(rw[IntKind.wrap_u64];omega)))
       ·exact zDV rfl rfl (h.d 40 190) (h.d 47 197)
       ·exact zBm rfl rfl (h.d 48 198)
      case en =>
       intro vals W hbw hv _;simp only[fa,Nat.reduceAdd];rw[e_ hv 0,e_ hv 1,e_ hv 2,e_ hv 3,e_ hv 4,e_ hv 5,e_ hv 6,e_ hv 7,e_ hv 8,e_ hv 9,e_ hv 10,e_ hv 11,e_ hv 12,e_ hv 13,e_ hv 14,e_ hv 15,e_ hv 16,e_ hv 17,e_ hv 18,e_ hv 19,e_ hv 20,e_ hv 21,e_ hv 22,e_ hv 23,e_ hv 24,e_ hv 25,e_ hv 26,e_ hv 27,e_ hv 28,e_ hv 29,e_ hv 30,e_ hv 31,e_ hv 32,e_ hv 33,e_ hv 34,e_ hv 35,e_ hv 36,e_ hv 37,e_ hv 38,e_ hv 39,e_ hv 40,e_ hv 41,e_ hv 42,e_ hv 43,e_ hv 44,e_ hv 45,e_ hv 46,e_ hv 47,e_ hv 48,e_ hv 49]
       clear hv
       try simp only[pl]
       replace H:=H.call hbw;clear hbw
       go_wp2_with fail
       go_ret;exact⟨rfl,H.below⟩
end
end Go.Proofs.YtalggmbdpmdcbaaGreat
