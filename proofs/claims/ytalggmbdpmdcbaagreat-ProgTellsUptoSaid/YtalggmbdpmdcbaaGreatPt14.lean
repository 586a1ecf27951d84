/-
  Laws of walks, and walks.
-/
import Derived.Test.YtalggmbdpmdcbaaGreatPt13
import Derived.Test.YtalggmbdpmdcbaaGreatPt5
import Derived.Test.YtalggmbdpmdcbaaGreatPt1
import Derived.Test.YtalggmbdpmdcbaaGreatPt7
import Derived.Test.YtalggmbdpmdcbaaGreatPt11
import Derived.Test.YtalggmbdpmdcbaaGreatPt9
import Derived.Test.YtalggmbdpmdcbaaGreatPt10
set_option linter.unusedVariables false
set_option linter.unusedSimpArgs false
set_option maxRecDepth 100000
set_option maxHeartbeats 16000000
namespace Go.Proofs.YtalggmbdpmdcbaaGreat
section
open Go.RowKit Go.Shelf
attribute [local go_sem] Oper.semAt_some
theorem zKA (m:Nat) (t:Tree) (p:Option Addr) (n c:Nat) (F:Nat->Prop) (w0:World) (hm:zAC t<=m) (hm2:m<=1000000000) (hF:∀ b,F b->b<w0.heap.size) (h:ForestR w0 F p c t.kids) (hn:n=t.kids.length) :
  Calls Tryz.prog 118 #[zAQ t.d (.slice p n c)] w0 fun e w'=>e=.returned (.bool (zAi t&&decide ((zAC t:Int)<=2000)))/\Below w0.heap.size w0 w':=by
 subst hn;have H:=(Hold.start w0).know F (fun V=>ForestR V F p c t.kids) hF (fun i r h=>by simp at h) (fun V hV=>h.kept hV)
 clear h;simp only[List.nil_append]at H;have hki:=fun w (h1:∀ b,F b->b<w.heap.size) (h2:ForestR w F p c t.kids)=>zJT m t p _ c F w hm (by omega) h1 h2 rfl
 have hsz:=fun w (h1:∀ b,F b->b<w.heap.size) (h2:ForestR w F p c t.kids)=>zGk m t p _ c F w hm (by omega) h1 h2 rfl
 cases hk:zAi t with
 | true =>
  rw[hk]at hki
  go_enter Tryz.func118,Tryz.ntmps118
  go_wp2_with (first|(first|((with_reducible refine gL ?_);refine aD H ?_)|((with_reducible refine gX ?_);(refine bB H ?_;clear H;intro b w H;try simp only[nr]at H)))|((with_reducible first|refine ch (hki _ (H.knlt .zero) (H.kn .zero)) H ?_|refine ch (hsz _ (H.knlt .zero) (H.kn .zero)) H ?_);clear H;intro w H))
  go_ret;exact⟨rfl,H.below⟩
 | false =>
  rw[hk]at hki
  go_enter Tryz.func118,Tryz.ntmps118
  go_wp2_with (first|(first|((with_reducible refine gL ?_);refine aD H ?_)|((with_reducible refine gX ?_);(refine bB H ?_;clear H;intro b w H;try simp only[nr]at H)))|((with_reducible first|refine ch (hki _ (H.knlt .zero) (H.kn .zero)) H ?_|refine ch (hsz _ (H.knlt .zero) (H.kn .zero)) H ?_);clear H;intro w H))
  go_ret;exact⟨rfl,H.below⟩
def zO2 (w:World) (r:Except Nat Tree) (e:Ending) (w':World):Prop:=match r with
 | .ok t=>∃ p c F,e=.returned (.tuple #[zAQ t.d (.slice p t.kids.length c),.int .i64 0])/\ForestR w' F p c t.kids/\∀ b,F b->b<w'.heap.size/\w.heap.size<=b
 | .error k=>e=.returned (.tuple #[zAQ {kind:=0} nilS,.int .i64 k])
theorem zI5 (m:Nat) (t:Tree) (p:Option Addr) (n c:Nat) (F:Nat->Prop) (w0:World) (hm:zAC t<=m) (hm2:m<=1000000000) (hF:∀ b,F b->b<w0.heap.size) (h:ForestR w0 F p c t.kids) (hn:n=t.kids.length) :
  Calls Tryz.prog 61 #[zAQ t.d (.slice p n c)] w0 fun e w'=>zO2 w0 (zBa t) e w'/\Below w0.heap.size w0 w':=by
 subst hn;have H:=(Hold.start w0).know F (fun V=>ForestR V F p c t.kids) hF (fun i r h=>by simp at h) (fun V hV=>h.kept hV)
 clear h;simp only[List.nil_append]at H;have hri:=fun w (h1:∀ b,F b->b<w.heap.size) (h2:ForestR w F p c t.kids)=>zKA m t p _ c F w hm hm2 h1 h2 rfl
 by_cases hr:zAi t=true/\zAC t<=2000
 ·have er:(zAi t&&decide ((zAC t:Int)<=2000))=true:=by rw[hr.1];simp;omega
  rw[er]at hri;have hsi:=fun w (h1:∀ b,F b->b<w.heap.size) (h2:ForestR w F p c t.kids)=>zHu (zAC t) t p _ c F w (Nat.le_refl _) hr.2 hr.1 h1 h2 rfl
  cases hs:zAv t with
  | none =>
   rw[hs]at hsi;have E2:=Lib.hid (show zBa t=.error 7 by unfold zBa;rw[if_pos hr,hs])
   clear hr er hs
   go_enter Tryz.func61,Tryz.ntmps61
   go_wp2_with (first|(first|((with_reducible refine gT ?_);(refine aT H ?_;clear H;intro w H;try simp only[nr]at H))|((with_reducible refine gL ?_);refine aD H ?_)|((with_reducible refine gX ?_);(refine bB H ?_;clear H;intro b w H;try simp only[nr]at H))|((with_reducible refine gA ?_);(refine bA H ?_;clear H;intro b w H;try simp only[nr]at H))|((with_reducible refine gZ ?_);refine nb0 ?_))|((with_reducible refine ch (hri _ (H.knlt .zero) (H.kn .zero)) H ?_);clear H;intro w H)|(go_at_call 119;refine zLM (hsi _ (H.knlt .zero) (H.kn .zero)) H ?_;clear H;intro d1 q1 k1 m1 w H))
   (refine xct Tryz.results61 H ?_)
   rw[E2.out];exact⟨rfl,H.below⟩
  | some s =>
   rw[hs]at hsi;have E2:=Lib.hid (show zBa t=.ok s by unfold zBa;rw[if_pos hr,hs])
   have hsl:=zD0 hs;have hco:=fun w q1 m1 F1 (h1:∀ b,F1 b->b<w.heap.size) (h2:ForestR w F1 q1 m1 s.kids)=>zHv (zAC s) s q1 s.kids.length m1 F1 w (Nat.le_refl _) (by omega) h1 h2 rfl
   clear hr er hs
   go_enter Tryz.func61,Tryz.ntmps61
   go_wp2_with (first|(first|((with_reducible refine gT ?_);(refine aT H ?_;clear H;intro w H;try simp only[nr]at H))|((with_reducible refine gL ?_);refine aD H ?_)|((with_reducible refine gX ?_);(refine bB H ?_;clear H;intro b w H;try simp only[nr]at H))|((with_reducible refine gA ?_);(refine bA H ?_;clear H;intro b w H;try simp only[nr]at H)))|((with_reducible refine ch (hri _ (H.knlt .zero) (H.kn .zero)) H ?_);clear H;intro w H)|(go_at_call 119;refine zLN (hsi _ (H.knlt .zero) (H.kn .zero)) H (Still.at (i:=0) .zero) ?_;clear H;intro q1 m1 F1 w hF1 H;simp only[ca]at H)|(go_at_call 120;refine cht (hco _ _ _ _ (H.knlt (i:=3) i_3) (H.kn (i:=3) i_3)) H Still.none ?_;clear H;intro q2 m2 F2 w hF2 H;simp only[ca]at H))
   (refine xct Tryz.results61 H ?_)
   rw[E2.out];exact⟨⟨q2,m2,F2,rfl,H.kn (i:=5) i_5,fun b h=>⟨H.knlt (i:=5) i_5 b h,(hF2 b h).elim id False.elim⟩⟩,H.below⟩
 ·have er:(zAi t&&decide ((zAC t:Int)<=2000))=false:=by
   cases hk:zAi t
   ·rfl
   ·simp only[Bool.true_and,decide_eq_false_iff_not];intro h;exact hr ⟨hk,by omega⟩
  rw[er]at hri;have E2:=Lib.hid (show zBa t=.error 2 by unfold zBa;rw[if_neg hr])
  clear hr er
  go_enter Tryz.func61,Tryz.ntmps61
  go_wp2_with (first|(first|((with_reducible refine gT ?_);(refine aT H ?_;clear H;intro w H;try simp only[nr]at H))|((with_reducible refine gL ?_);refine aD H ?_)|((with_reducible refine gX ?_);(refine bB H ?_;clear H;intro b w H;try simp only[nr]at H))|((with_reducible refine gA ?_);(refine bA H ?_;clear H;intro b w H;try simp only[nr]at H))|((with_reducible refine gZ ?_);refine nb0 ?_))|((with_reducible refine ch (hri _ (H.knlt .zero) (H.kn .zero)) H ?_);clear H;intro w H))
  (refine xct Tryz.results61 H ?_)
  rw[E2.out];exact⟨rfl,H.below⟩
end
section
open Go.RowKit
structure RCtxU (C:List Nat) (hd l:List Oper) (e i:Nat) (Ss:Nat->Value->World->Prop) (S1:Value->World->Prop) (a0:Act) (w0:World) (o:Oper) (a:Act) (w:World):Prop where
 st:Below w0.heap.size w0 w\/∃ v,S1 v w
 frame:∀ t,hd.any (fun o=>o.dst == some t)=false->a.eval (.tmp t)=a0.eval (.tmp t)
 dep:∀ j d,(i=e\/j ∉ C)->o.after.toList.any (fun e=>Region.binds .any e&&e.on == j)=true->(hd[j]?).bind (·.dst)=some d->Ss j (a.eval (.tmp d)) w
 ahead:∀ oe,l[e]?=some oe->oe.after.toList.any (fun x=>Region.binds .any x&&x.on == i)=true->Below w0.heap.size w0 w
def OblU (P:Program) (C:List Nat) (l hd:List Oper) (e:Nat) (L:List (Value->World->Prop)) (T:World->World->Prop) (S1:Value->World->Prop) (a0:Act) (w0:World):List Oper->Nat->Prop
 | [],_=>True
 | o::r,i=>(if i=e then ∀ a w,RCtxU C hd l e i (zAn L) S1 a0 w0 o a w->Below w0.heap.size w0 w->o.wp P a w (fun a' w'=>∃ v,a'=a.put o.dst v/\T w w'/\S1 v w') (fun _ _ _=>False)
   else ∀ a w,RCtxU C hd l e i (zAn L) S1 a0 w0 o a w->zBU P l.toArray o a w (fun v w'=>zAn L i v w'/\(false=true->w.heap.size<=blk v)))/\OblU P C l hd e L T S1 a0 w0 r (i+1)
theorem OblU.get {P:Program} {C:List Nat} {l hd:List Oper} {e:Nat} {L:List (Value->World->Prop)} {T:World->World->Prop} {S1:Value->World->Prop} {a0:Act} {w0:World}:∀ (r:List Oper) (k:Nat),OblU P C l hd e L T S1 a0 w0 r k->∀ i o,r[i]?=some o ->
  if k+i=e then ∀ a w,RCtxU C hd l e (k+i) (zAn L) S1 a0 w0 o a w->Below w0.heap.size w0 w->o.wp P a w (fun a' w'=>∃ v,a'=a.put o.dst v/\T w w'/\S1 v w') (fun _ _ _=>False)
   else ∀ a w,RCtxU C hd l e (k+i) (zAn L) S1 a0 w0 o a w->zBU P l.toArray o a w (fun v w'=>zAn L (k+i) v w'/\(false=true->w.heap.size<=blk v))
 | [],_,_,_,_,h=>by simp at h
 | o::r,k,h,0,o',h'=>by simp at h';subst h';exact h.1
 | o::r,k,h,i+1,o',h'=>by
  have:=OblU.get r (k+1) h.2 i o' (by simpa using h')
  rwa [show k+1+i=k+(i+1) from by omega]at this
end
section
open Go.RowKit Go.Shelf
attribute [local go_sem] Oper.semAt_some
theorem zDw (d:InstD) (W:World):(Instr.buildSlice 32 1 #[(0,zAm d)]).run Tryz.prog W=.ok (.slice (some ⟨W.heap.size,0,none⟩) 1 1) (W.alloc (.cells (zAL d) 47)):=by kernel_rfl
theorem zCX {ops:Array Oper} {o:Oper} {a:Act} {w:World} {x:Operand} {d:InstD} {n0:Nat} {D:Prop} (hg:Region.wanted o (yielded ops a.tmps)=true) (hop:o.op=Op.buildSlice 32 1 #[(0,x)]) (hx:a.eval x=zAm d) (hn:n0<=w.heap.size) (hD:¬ D) :
  zBU Tryz.prog ops o a w (fun v w'=>zCk n0 (zAL d) 47 v w'/\(D->w.heap.size<=blk v)):=by
 refine zC7 hg (v:=.slice (some ⟨w.heap.size,0,none⟩) 1 1) (w':=w.alloc (.cells (zAL d) 47)) ?_ ((Below.refl _ w).alloc (Nat.le_refl _) _) ⟨⟨w.heap.size,rfl,hn,World.alloc_heap_new w _⟩,fun h=>(hD h).elim⟩
 simp only[execOp,hop,List.map_toArray,List.map_cons,List.map_nil,hx,Sem.run_bind,zDw];rfl
theorem zFc:(Tryz.prog.info? 47).map (fun i=>(i.zero,i.size,i.bytes))=some (some (.agg (zAL {kind:=0})),9,72):=by kernel_rfl
theorem zDy (xs:List InstD) (y:InstD):zAE (xs.map zAL)++(zAL y).toList=zAE ((xs++[y]).map zAL):=by
 rw[List.map_append,zAo];simp[zAE]
section
variable {M:Nat->Prop} {w0 w:World}
abbrev zBi (bc:Nat) (v:Value) (xs:List InstD):List Res:=[.blk bc #[v] 132,.row v 47 9 xs.length (zAE (xs.map zAL))]
theorem zQa (bc:Nat) (v:Value) (xs:List InstD) (x:InstD) (H0:HoldG M w0 w (zBi bc v xs)) (hn:xs.length<=1000000000) :
  Calls Tryz.prog 62 #[.pointer (some ⟨bc,0,none⟩),zAm x] w fun e w'=>∃ v',e=.returned (.int .i64 xs.length)/\Turned M w0 w (zBi bc v xs) (zBi bc v' (xs++[x])) w':=by
 obtain⟨i0,hi0,hz0,hz1,hz2⟩:=info_parts zFc;have H:=H0.framed;clear H0;simp only[zBi,List.cons_append,List.nil_append]at H;have hsz0:w.heap.size<=w.heap.size:=Nat.le_refl _;obtain⟨ws,hws⟩:∃ ws,w.heap.size=ws:=⟨_,rfl⟩;obtain⟨rF,hrF⟩:∃ rF,zCz w (zBi bc v xs)=rF:=⟨_,rfl⟩;obtain⟨rS,hrS⟩:∃ rS,zDG w (zBi bc v xs)=rS:=⟨_,rfl⟩;simp only[zBi]at hrF hrS;rw[hrF,hrS]at H;obtain⟨n,hnn⟩:∃ n,xs.length=n:=⟨_,rfl⟩
 rw[hnn]at H hn;have HN:=Lib.hid hnn
 go_enter Tryz.func62,Tryz.ntmps62
 go_upto_region 1 with (first|((with_reducible refine kg 3 ?_);(first|refine kA 3 H ?_|refine kS 3 H ?_|refine kB 3 H ?_);clear H;intro b3 w H;try simp only[nr]at H)|fail)
 refine zDl 7 0 [fun u _=>u=pt bc 0,fun u _=>u=pt bc 0,fun u _=>u=pt bc 0,fun u _=>u=pt bc 0,fun u _=>u=v,fun u _=>u=zAm x,zCk w.heap.size (zAL x) 47] (fun _=>false) (by kernel_rfl) (by kernel_rfl) (by kernel_rfl) ⟨zAJ _,zAJ _,zAJ _,zAJ _,zAJ _,zAJ _,zA3 _ _ _,trivial⟩ (fun _ _ h=>by cases h) ?ob ?en ?en2
 case ob =>
  refine⟨?_,?_,?_,?_,?_,?_,?_,trivial⟩<;>intro A W h
  ·exact zAB rfl rfl (h.f 0) (by decide)
  ·exact zAB rfl rfl (h.f 0) (by decide)
  ·(have e:A.eval (.tmp 6)=.pointer (some ⟨bc,0,none⟩):=h.d 1 6;refine zAA rfl ?_ (by decide);simp only[execOp,e];simp[go_sem])
  ·(have e:A.eval (.tmp 7)=.pointer (some ⟨bc,0,none⟩):=h.d 2 7;refine zAA rfl ?_ (by decide);simp only[execOp,e];simp[go_sem])
  ·exact zAA rfl (zAG rfl (h.d 3 8) zBW ((H.call h.below).cell (i:=0) .zero 0)) (by decide)
  ·exact zAA rfl (zAV rfl (h.f 3) zAg rfl (fun k _=>by rw[Nat.zero_add];exact(H.call h.below).cell (i:=3) i_3 k)) (by decide)
  ·exact zCX rfl rfl (h.d 5 10) h.below.size (by decide)
 case en =>
  intro vals W hbw hv _;have v0:vals 0=.pointer (some ⟨bc,0,none⟩):=hv 0 (by omega)
  have v1:vals 1=.pointer (some ⟨bc,0,none⟩):=hv 1 (by omega)
  have v2:vals 2=.pointer (some ⟨bc,0,none⟩):=hv 2 (by omega)
  have v3:vals 3=.pointer (some ⟨bc,0,none⟩):=hv 3 (by omega)
  have v4:vals 4=v:=hv 4 (by omega)
  have v5:vals 5=zAm x:=hv 5 (by omega)
  obtain⟨bk,v6,H2⟩:=H.gainS hbw (show zCk w.heap.size (zAL x) 47 (vals 6) W from hv 6 (by omega))
  simp only[fa,Nat.reduceAdd];rw[v0,v1,v2,v3,v4,v5,v6];clear hv v0 v1 v2 v3 v4 v5 v6 H;have hbz:=hbw.size;clear hbw;have H:=H2;clear H2;simp only[ca]at H;simp only[pl]
  go_wp2_with (first|(at_builtin;refine zAk rfl _ _ 32 rfl H (i:=1) (j:=4) evd_ rfl i_1 i_4 Tryz.underlying32 hi0 hz0 hz1 hz2 rfl (by decide) rfl rfl (by unfold maxLen;omega) (by omega) ?_;clear H;intro v2 w H;(try simp only[nr]at H);(obtain⟨q2,c2,rfl,_,_,_⟩:=H.rowShape (i:=1) i_1))|(first|((with_reducible refine gT ?_);(refine aO H ?_;clear H;intro w H;try simp only[nr]at H))|((with_reducible refine gL ?_);refine aG H ?_)))
  go_ret;refine⟨.slice q2 (n+1) c2,by rw[HN.out];rfl,?_⟩
  rw[← hrF,← hrS]at H;refine Turned.of H (i:=2) i_2 [0,1] (by decide) (by decide) ?_ (fun F S h=>by simp at h)
  simp only[zBi,List.map_cons,List.map_nil,List.length_append,List.length_cons,List.length_nil];rw[← zDy,HN.out];rfl
 case en2 =>
  intro vals W hbw hv2 _;have hv:∀ i,i<7->0<i->zAn _ i (vals i) W:=fun i h1 h2=>hv2 i h1 (by omega)
  have v1:vals 1=.pointer (some ⟨bc,0,none⟩):=hv 1 (by omega) (by omega)
  have v2:vals 2=.pointer (some ⟨bc,0,none⟩):=hv 2 (by omega) (by omega)
  have v3:vals 3=.pointer (some ⟨bc,0,none⟩):=hv 3 (by omega) (by omega)
  have v4:vals 4=v:=hv 4 (by omega) (by omega)
  have v5:vals 5=zAm x:=hv 5 (by omega) (by omega)
  obtain⟨bk,v6,H2⟩:=H.gainS hbw (show zCk w.heap.size (zAL x) 47 (vals 6) W from hv 6 (by omega) (by omega))
  simp only[List.take_succ_cons,List.take_zero,List.drop_succ_cons,List.drop_zero,List.drop_nil,List.take_nil,zEZ,zLz,List.cons_append,List.nil_append,Nat.reduceEqDiff,if_true,if_false,reduceCtorEq,Nat.zero_add,Nat.reduceAdd];rw[v1,v2,v3,v4,v5,v6];clear hv hv2 v1 v2 v3 v4 v5 v6 H;have hbz:=hbw.size;clear hbw;have H:=H2;clear H2;simp only[ca]at H;simp only[pl]
  go_wp2_with (first|(at_builtin;refine zAk rfl _ _ 32 rfl H (i:=1) (j:=4) evd_ rfl i_1 i_4 Tryz.underlying32 hi0 hz0 hz1 hz2 rfl (by decide) rfl rfl (by unfold maxLen;omega) (by omega) ?_;clear H;intro v2 w H;(try simp only[nr]at H);(obtain⟨q2,c2,rfl,_,_,_⟩:=H.rowShape (i:=1) i_1))|(first|((with_reducible refine gT ?_);(refine aO H ?_;clear H;intro w H;try simp only[nr]at H))|((with_reducible refine gL ?_);refine aG H ?_)))
  go_ret;refine⟨.slice q2 (n+1) c2,by rw[HN.out];rfl,?_⟩
  rw[← hrF,← hrS]at H;refine Turned.of H (i:=2) i_2 [0,1] (by decide) (by decide) ?_ (fun F S h=>by simp at h)
  simp only[zBi,List.map_cons,List.map_nil,List.length_append,List.length_cons,List.length_nil];rw[← zDy,HN.out];rfl
end
theorem zNz (d:NodeD) (s:Value) (i o:Int) (w0:World):Calls Tryz.prog 121 #[zAQ d s,.int .i64 i,.int .i64 o] w0 (Rt (zAm (zB0 d i o)) w0):=by
 have H:=Hold.start w0
 cases hl:d.lazy with
 | true =>
  have E:=Lib.hid (show zB0 d i o={kind:=2,next:=o,other:=i} by unfold zB0;rw[hl];rfl)
  go_enter Tryz.func121,Tryz.ntmps121
  go_wp2_with (first|(first|((with_reducible refine gTi ?_);refine aTi H ?_;clear H;intro w H;try simp only[nr]at H)|((with_reducible refine gBi ?_);refine ib3 ?_)|((with_reducible refine gL ?_);refine aGb H ?_)|((with_reducible refine gX ?_);(refine bB H ?_;clear H;intro b w H;try simp only[nr]at H))|((with_reducible refine gA ?_);(refine bA H ?_;clear H;intro b w H;try simp only[nr]at H))))
  (refine zHi Tryz.results121 rfl H atd_ zAg (by rfl) rfl ?_)
  exact⟨by rw[E.out],H.below⟩
 | false =>
  have E:=Lib.hid (show zB0 d i o={kind:=2,next:=i,other:=o} by unfold zB0;rw[hl];rfl)
  go_enter Tryz.func121,Tryz.ntmps121
  go_wp2_with (first|(first|((with_reducible refine gTi ?_);refine aTi H ?_;clear H;intro w H;try simp only[nr]at H)|((with_reducible refine gBi ?_);refine ib3 ?_)|((with_reducible refine gL ?_);refine aGb H ?_)|((with_reducible refine gX ?_);(refine bB H ?_;clear H;intro b w H;try simp only[nr]at H))|((with_reducible refine gA ?_);(refine bA H ?_;clear H;intro b w H;try simp only[nr]at H))))
  (refine zHi Tryz.results121 rfl H atd_ zAg (by rfl) rfl ?_)
  exact⟨by rw[E.out],H.below⟩
section
variable {M:Nat->Prop} {P:Program} {f:FuncId} {args:Array Value} {w w0:World} {l3:List Res} {R:Ending->World->Prop} {bc:Nat} {v r:Value} {xs ys:List InstD} {F:Nat->Prop} {S:World->Prop}
def LayB (M:Nat->Prop) (w0:World) (bc:Nat) (v:Value) (xs:List InstD) (K:List Res) (w:World) (r:Value) (ys:List InstD) (e:Ending) (w':World):Prop :=
 ∃ v',e=.returned r/\Turned M w0 w (zBi bc v xs++K) (zBi bc v' ys++K) w'
theorem zQm {l:List Res}:∀ (n:Nat) (pre:List Res),pre.length=n->(List.range' n l.length).map (fun j=>(pre++l)[j]?)=l.map some:=by
 intro n pre hn;apply List.ext_getElem?;intro i;simp only[List.getElem?_map,List.getElem?_range']
 by_cases h:i<l.length
 ·simp[h,List.getElem?_append,hn]
 ·simp[h]
theorem chP (H:HoldG M w0 w (.blk bc #[v] 132::.row v 47 9 xs.length (zAE (xs.map zAL))::l3))
  (c:HoldG M w0 w (zBi bc v xs)->Calls P f args w (LayB M w0 bc v xs [] w r ys))
  (k:∀ v' w',HoldG M w0 w' (.blk bc #[v'] 132::.row v' 47 9 ys.length (zAE (ys.map zAL))::l3)->R (.returned r) w'):Calls P f args w R:=by
 refine(c (H.pick [0,1] _ (by decide) rfl)).mono ?_
 rintro e w' ⟨v',rfl,T⟩;simp only[List.append_nil]at T;refine k v' w' (H.callIn T [0,1] (List.range' 2 l3.length) rfl (zQm 2 [_,_] rfl) List.nodup_range' (fun j hj h=>?_))
 rw[List.mem_range'_1]at h;simp at hj;omega
theorem chL (H:HoldG M w0 w (.blk bc #[v] 132::.row v 47 9 xs.length (zAE (xs.map zAL))::l3)) (hF:Still (.blk bc #[v] 132::.row v 47 9 xs.length (zAE (xs.map zAL))::l3) F)
  (hS:∀ V:World,(∀ b,F b->V.heap[b]?=w.heap[b]?)->S V)
  (c:HoldG M w0 w (zBi bc v xs++[.kn F S])->Calls P f args w (LayB M w0 bc v xs [.kn F S] w r ys))
  (k:∀ v' w',HoldG M w0 w' (.blk bc #[v'] 132::.row v' 47 9 ys.length (zAE (ys.map zAL))::l3)->R (.returned r) w'):Calls P f args w R:=by
 have H2:HoldG M w0 w (zBi bc v xs++(l3++[Res.kn F S])):=H.also F S hF hS;have e:∀ (u:Value) (zs:List InstD) (k:List Res) (j:Nat),(zBi bc u zs++k)[j+2]?=k[j]?:=fun u zs k j=>rfl
 have hlast:(zBi bc v xs++(l3++[Res.kn F S]))[l3.length+2]?=some (Res.kn F S):=by rw[e];simp
 have hp:[0,1,l3.length+2].map (fun j=>(zBi bc v xs++(l3++[Res.kn F S]))[j]?)=(zBi bc v xs++[Res.kn F S]).map some:=by
  simp only[List.map_cons,List.map_nil,hlast];rfl
 have hq:(List.range' 2 l3.length).map (fun j=>(zBi bc v xs++(l3++[Res.kn F S]))[j]?)=l3.map some:=by
  have:=zQm (l:=l3) 2 (zBi bc v xs) rfl;rw[← this];apply List.map_congr_left;intro j hj;rw[List.mem_range'_1]at hj;obtain⟨q,rfl⟩:∃ q,j=q+2:=⟨j - 2,by omega⟩
  rw[e,e,List.getElem?_append_left (by omega)]
 refine(c (H2.pick [0,1,l3.length+2] _ (by simp) hp)).mono ?_
 rintro e' w' ⟨v',rfl,T⟩
 have H3:=H2.callIn T [0,1,l3.length+2] (List.range' 2 l3.length) (l3:=l3) hp hq List.nodup_range' (fun j hj h=>by
  rw[List.mem_range'_1]at h
  simp at hj;omega)
 refine k v' w' (H3.pick ([0,1]++List.range' 3 l3.length) _ ?_ ?_)
 ·rw[List.nodup_append];refine⟨by decide,List.nodup_range',fun a ha b hb=>?_⟩
  rw[List.mem_range'_1]at hb;simp at ha;omega
 ·have:=zQm (l:=l3) 3 (zBi bc v' ys++[Res.kn F S]) rfl;rw[List.map_append,this];rfl
end
theorem zC1 {M:Nat->Prop} {w0 w:World} (bc:Nat) (v:Value) (xs:List InstD) (x:InstD) (H0:HoldG M w0 w (zBi bc v xs)) (hn:xs.length<=1000000000) :
  Calls Tryz.prog 62 #[.pointer (some ⟨bc,0,none⟩),zAm x] w (LayB M w0 bc v xs [] w (.int .i64 xs.length) (xs++[x])) :=
 (zQa bc v xs x H0 hn).mono fun e w' ⟨v',e1,T⟩=>⟨v',e1,by simpa only[List.append_nil] using T⟩
theorem zQW {M:Nat->Prop} {w0 w W:World} {l:List Res} {bc:Nat} {v v':Value} {xs ys:List InstD} {F:Nat->Prop} {S:World->Prop} (H:HoldG M w0 W l) {i:Nat} (hi:At l i (.kn (zCz w (zBi bc v xs++[.kn F S])) (zDG w (zBi bc v xs++[.kn F S])))) (hi3:2<i) (h:[0,1,2].map (fun j=>l[j]?)=(zBi bc v' ys++[Res.kn F S]).map some) :
  Turned M w0 w (zBi bc v xs++[.kn F S]) (zBi bc v' ys++[.kn F S]) W :=
 Turned.of H hi [0,1,2] (by decide) (by simp;omega) h (fun F' S' hm b hb=>by
  simp at hm;obtain⟨rfl,rfl⟩:=hm
  exact .inl ⟨.kn F' S',by simp,hb⟩)
theorem zRd {d:NodeD} {k:Nat} (h:zA7 d k=true) (h7:d.kind=7):0<d.group/\d.group<=20:=by
 simp[zA7,zAf,h7]at h;omega
theorem ok_5 {d:NodeD} {k:Nat} (h:zA7 d k=true) (h5:d.kind=5):1<k:=by
 simp[zA7,zAf,h5]at h;omega
theorem zED {M:Nat->Prop} {w0 w W:World} {l:List Res} {bc:Nat} {v v' r:Value} {xs ys:List InstD} {F:Nat->Prop} {S:World->Prop} {e:Ending} (H:HoldG M w0 W l) {i:Nat} (hi:At l i (.kn (zCz w (zBi bc v xs++[.kn F S])) (zDG w (zBi bc v xs++[.kn F S])))) (hi3:2<i) (h:[0,1,2].map (fun j=>l[j]?)=(zBi bc v' ys++[Res.kn F S]).map some) (he:e=.returned r):LayB M w0 bc v xs [.kn F S] w r ys e W :=
 ⟨v',he,zQW H hi hi3 h⟩
theorem zN1:∀ (m:Nat) (t:Tree) (p:Option Addr) (n c:Nat) (F:Nat->Prop) (bc:Nat) (v:Value) (xs:List InstD) (out:Nat) (M:Nat->Prop) (w0 w:World),zAC t<=m->m<=2000->zAi t=true->xs.length+3 * zAC t<=1000000->n=t.kids.length->HoldG M w0 w (zBi bc v xs++[.kn F (fun V=>ForestR V F p c t.kids)]) ->
  Calls Tryz.prog 63 #[.pointer (some ⟨bc,0,none⟩),zAQ t.d (.slice p n c),.int .i64 out] w (LayB M w0 bc v xs [.kn F (fun V=>ForestR V F p c t.kids)] w (.int .i64 (layP t out xs).1) (layP t out xs).2)
 | 0,t,_,_,_,_,_,_,_,_,_,_,_,hm,_,_,_,_,_=>by have:=zAy t;omega
 | m+1,.mk d ts,p,n,c,F,bc,v,xs,out,M,w0,w,hm,hm2,hkd,hxl,hn,H0=>by
  have IH:=zN1 m;simp only[Tree.kids,Tree.d]at hn H0 ⊢;simp only[zAi,Bool.and_eq_true]at hkd;have H:=H0.framed;clear H0;obtain⟨rF,hrF⟩:∃ rF,zCz w (zBi bc v xs++[.kn F (fun V=>ForestR V F p c ts)])=rF:=⟨_,rfl⟩
  obtain⟨rS,hrS⟩:∃ rS,zDG w (zBi bc v xs++[.kn F (fun V=>ForestR V F p c ts)])=rS:=⟨_,rfl⟩
  rw[hrF,hrS]at H;simp only[zBi,List.cons_append,List.nil_append]at H;obtain⟨kx,h1,h2,hts⟩:=ForestR.open (H.kn (i:=2) i_2);have hn':n=kx.length:=by rw[hn,hts,List.length_map]
  have hK:Knows F p n c kx w:=⟨by rw[hn'];exact h1,h2⟩
  replace H:=H.also F (Knows F p n c kx) (Still.at (i:=2) i_2) (fun V hV=>hK.kept hV)
  simp only[ca]at H;have hc1:=hK.bound.2.1;have hc2:=hK.bound.2.2;have hp:=hK.at;clear hK h1 h2;simp only[zAC]at hm hxl;have hnl:n<=2000:=by have:=zBP ts;omega
  have HN:=Lib.hid hn';have HN2:=Lib.hid hn;clear hn hn';have HKD:=Lib.hid hkd;clear hkd;have HTS:=Lib.hid hts;clear hts;have hspl:=zNz d (.slice p n c)
  by_cases k1:d.kind=1
  ·have d1:(d.kind == 1)=true:=by rw[beq_iff_eq];exact k1
   have E:=Lib.hid (show layP (.mk d ts) out xs=(out,xs) by rw[layP,if_pos k1])
   clear k1 IH
   go_enter Tryz.func63,Tryz.ntmps63
   go_wp2_with (first|(first|((with_reducible refine gL ?_);refine aG H ?_)|((with_reducible refine gX ?_);(refine bB H ?_;clear H;intro b w H;try simp only[nr]at H))))
   go_ret;rw[E.out];rw[← hrF,← hrS]at H;exact zED H (i:=3) i_3 (by decide) rfl rfl
  have d1:(d.kind == 1)=false:=by rw[beq_eq_false_iff_ne];exact k1
  by_cases k2:d.kind=2
  ·have d2:(d.kind == 2)=true:=by rw[beq_iff_eq];exact k2
   have E:=Lib.hid (show layP (.mk d ts) out xs=(xs.length,xs++[{kind:=6}]) by rw[layP,if_neg k1,if_pos k2])
   clear k1 k2 IH
   go_enter Tryz.func63,Tryz.ntmps63
   go_wp2_with (first|(first|((with_reducible refine gBi ?_);refine ib1 ?_)|((with_reducible refine gL ?_);refine aG H ?_)|((with_reducible refine gX ?_);(refine bB H ?_;clear H;intro b w H;try simp only[nr]at H)))|(go_at_call 62;refine chP H (fun h=>zC1 _ _ _ _ h (by first|omega|(simp only[List.length_append,List.length_cons,List.length_nil];omega))) ?_;clear H;intro v2 w H))
   go_ret;rw[E.out];rw[← hrF,← hrS]at H;exact zED H (i:=3) i_3 (by decide) rfl rfl
  have d2:(d.kind == 2)=false:=by rw[beq_eq_false_iff_ne];exact k2
  by_cases k3:d.kind=3
  ·have d3:(d.kind == 3)=true:=by rw[beq_iff_eq];exact k3
   have E:=Lib.hid (show layP (.mk d ts) out xs=(xs.length,xs++[{kind:=1,set:=d.set,next:=out}]) by rw[layP,if_neg k1,if_neg k2,if_pos k3])
   clear k1 k2 k3 IH
   go_enter Tryz.func63,Tryz.ntmps63
   go_wp2_with (first|(first|((with_reducible refine gBi ?_);refine ib2 ?_)|((with_reducible refine gL ?_);(first|refine aVn H ?_|refine aG H ?_))|((with_reducible refine gX ?_);(refine bB H ?_;clear H;intro b w H;try simp only[nr]at H)))|(go_at_call 62;refine chP H (fun h=>zC1 _ _ _ _ h (by first|omega|(simp only[List.length_append,List.length_cons,List.length_nil];omega))) ?_;clear H;intro v2 w H))
   go_ret;rw[E.out];rw[← hrF,← hrS]at H;exact zED H (i:=3) i_3 (by decide) rfl rfl
  have d3:(d.kind == 3)=false:=by rw[beq_eq_false_iff_ne];exact k3
  by_cases k4:d.kind=4
  ·have d4:(d.kind == 4)=true:=by rw[beq_iff_eq];exact k4
   have E:=Lib.hid (show layP (.mk d ts) out xs=layC ts out xs by rw[layP,if_neg k1,if_neg k2,if_neg k3,if_pos k4])
   clear k1 k2 k3 k4
   go_enter Tryz.func63,Tryz.ntmps63
   go_wp2_with (first|((with_reducible refine kg 4 ?_);(first|refine kA 4 H ?_|refine kS 4 H ?_|refine kB 4 H ?_);clear H;intro b4 w H;try simp only[nr]at H)|((with_reducible refine gL ?_);refine aG H ?_))
   go_loopw [2,8] (fun vo ix wr=>∃ (j o:Nat) (z:Int) (ys:List InstD) (v':Value),j<=n/\z=(j:Int) - 1/\vo=.int .i64 o/\ix=.int .i64 z/\Hid (layC (ts.drop j) out xs=(o,ys))/\HoldG M w0 wr [.blk bc #[v'] 132,.row v' 47 9 ys.length (zAE (ys.map zAL)),.kn F (fun V=>ForestR V F p c ts),.kn rF rS,.kn F (Knows F p n c kx),.blk b4 (zAO d (.slice p n c)) 28]) (fun _ ix _=>(intOf ix+1).toNat)
   case atStart=>exact⟨n,out,_,xs,v,Nat.le_refl _,rfl,rfl,rfl,Lib.hid (by rw[List.drop_eq_nil_of_le (by rw[HN2.out];exact Nat.le_refl _)];rfl),H⟩
   case round =>
    clear H;obtain⟨j,o,z,ys,v',hj,hz,rfl,rfl,EC,H⟩:=hrel
    by_cases h0:j=0
    ·have hz0:z = -1:=by omega
     subst h0;have dz:decide ((0:Int)<=z)=false:=by simp;omega
     clear hz hz0;have E2:=Lib.hid (show layP (.mk d ts) out xs=(o,ys) by rw[E.out,← EC.out];rfl)
     clear IH EC E
     go_wp2_with (first|fail)
     go_ret;rw[E2.out];rw[← hrF,← hrS]at H;exact zED H (i:=3) i_3 (by decide) rfl rfl
    ·obtain⟨q,rfl⟩:∃ q,j=q+1:=⟨j - 1,by omega⟩
     have hzq:z=(q:Int):=by omega
     subst hzq;have dj:decide ((0:Int)<=(q:Int))=true:=by simp
     have hyl:ys.length<=xs.length+(3 * zAD (ts.drop (q+1)) - 1):=by
      have:=(zIV (ts.drop (q+1)) out xs).2
      rwa [EC.out]at this
     obtain⟨y,hy⟩:∃ y,kx[q]?=some y:=⟨_,List.getElem?_eq_getElem (by have:=HN.out;omega)⟩
     have hmem:y ∈ kx:=List.mem_of_getElem? hy;have hty:ts[q]?=some y.1:=by rw[HTS.out,List.getElem?_map,hy];rfl
     have hky:zAi y.1=true:=zCv HKD.out.2 hty;have hsz:=zCw hty;have hdr:ts.drop q=y.1::ts.drop (q+1):=by
      obtain⟨hlt,e⟩:=List.getElem?_eq_some_iff.1 hty;rw[← e];exact List.drop_eq_getElem_cons hlt
     have hsd:zAD (ts.drop (q+1))+zAC y.1<=zAD ts:=by
      have h1:zAD ts=zAD (ts.take q)+zAD (ts.drop q):=by rw[← zAc,List.take_append_drop]
      rw[h1,hdr];simp only[zAD];omega
     obtain⟨g,off,rfl⟩:=hp (by have:=HN.out;omega)
     have hcell:∀ V,Knows F (some ⟨g,off,none⟩) n c kx V->∀ k,k<10->V.cell? ⟨g,off+q * 10+k,none⟩=(zAR y)[k]?:=fun V h=>h.cells hy rfl
     obtain⟨ar,hal⟩:∃ a,layP y.1 o ys=a:=⟨_,rfl⟩;obtain⟨a,zs⟩:=ar;have hlay:∀ v' w',HoldG M w0 w' (zBi bc v' ys++[.kn F (fun V=>ForestR V F y.2.1 y.2.2 y.1.kids)])->Calls Tryz.prog 63 #[.pointer (some ⟨bc,0,none⟩),.agg (zAR y),.int .i64 (o:Nat)] w' (LayB M w0 bc v' ys [.kn F (fun V=>ForestR V F y.2.1 y.2.2 y.1.kids)] w' (.int .i64 a) zs):=fun v' w' h=>by
      have:=IH y.1 y.2.1 y.1.kids.length y.2.2 F bc v' ys o M w0 w' (by omega) (by omega) hky (by omega) rfl h
      rw[hal]at this;exact this
     have E3:=Lib.hid (show layC (ts.drop q) out xs=(a,zs) by rw[hdr,layC,EC.out];exact hal)
     clear IH hal hdr hty hky hsz hsd hz EC hp hy h0
     go_wp2_with (first|((with_reducible refine gL ?_);refine zAM wtd_ _ _ rfl rfl zAK (zAW y) (hcell _ (H.kn (i:=4) i_4)) ?_)|((with_reducible refine gL ?_);refine aG H ?_)|(go_at_call 63;refine chL (F:=F) (S:=fun V=>ForestR V F y.2.1 y.2.2 y.1.kids) H (Still.at (i:=4) i_4) (fun V hV=>((H.kn (i:=4) i_4).2 y hmem).kept hV) (fun h=>hlay _ _ h) ?_;clear H;intro v3 w H))
     go_roundw
     case rel=>exact⟨q,a,_,zs,v3,by omega,by first|rfl|omega,rfl,by go_num,E3,H⟩
     case measure=>simp[intOf]<;>omega
  have d4:(d.kind == 4)=false:=by rw[beq_eq_false_iff_ne];exact k4
  by_cases k5:d.kind=5
  ·have d5:(d.kind == 5)=true:=by rw[beq_iff_eq];exact k5
   have E:=Lib.hid (show layP (.mk d ts) out xs=layA ts out xs by rw[layP,if_neg k1,if_neg k2,if_neg k3,if_neg k4,if_pos k5])
   have hn1:=ok_5 HKD.out.1 k5;clear k1 k2 k3 k4 k5;obtain⟨nn,hnn⟩:∃ nn,n=nn+1:=⟨n - 1,by have:=HN2.out;omega⟩
   subst hnn
   go_enter Tryz.func63,Tryz.ntmps63
   go_upto_region 16 with (first|((with_reducible refine kg 4 ?_);(first|refine kA 4 H ?_|refine kS 4 H ?_|refine kB 4 H ?_);clear H;intro b4 w H;try simp only[nr]at H)|((with_reducible refine gL ?_);refine aG H ?_))
   obtain⟨y,hy⟩:∃ y,kx[nn]?=some y:=⟨_,List.getElem?_eq_getElem (by have:=HN.out;omega)⟩
   have hmem:y ∈ kx:=List.mem_of_getElem? hy;have hty:ts[nn]?=some y.1:=by rw[HTS.out,List.getElem?_map,hy];rfl
   have hky:zAi y.1=true:=zCv HKD.out.2 hty;have hsz:=zCw hty;have hdr:ts.drop nn=y.1::ts.drop (nn+1):=by
    obtain⟨hlt,e⟩:=List.getElem?_eq_some_iff.1 hty;rw[← e];exact List.drop_eq_getElem_cons hlt
   have hsd:zAD (ts.drop (nn+1))+zAC y.1<=zAD ts:=by
    have h1:zAD ts=zAD (ts.take nn)+zAD (ts.drop nn):=by rw[← zAc,List.take_append_drop]
    rw[h1,hdr];simp only[zAD];omega
   obtain⟨g,off,rfl⟩:=hp (by have:=HN.out;omega)
   have hcell:∀ V,Knows F (some ⟨g,off,none⟩) (nn+1) c kx V->∀ k,k<10->V.cell? ⟨g,off+nn * 10+k,none⟩=(zAR y)[k]?:=fun V h=>h.cells hy rfl
   obtain⟨ar,hal⟩:∃ a,layP y.1 out xs=a:=⟨_,rfl⟩;obtain⟨a,zs⟩:=ar;have hlay:∀ v' w',HoldG M w0 w' (zBi bc v' xs++[.kn F (fun V=>ForestR V F y.2.1 y.2.2 y.1.kids)])->Calls Tryz.prog 63 #[.pointer (some ⟨bc,0,none⟩),.agg (zAR y),.int .i64 (out:Nat)] w' (LayB M w0 bc v' xs [.kn F (fun V=>ForestR V F y.2.1 y.2.2 y.1.kids)] w' (.int .i64 a) zs):=fun v' w' h=>by
    have:=IH y.1 y.2.1 y.1.kids.length y.2.2 F bc v' xs out M w0 w' (by omega) (by omega) hky (by omega) rfl h
    rw[hal]at this;exact this
   have EA:=Lib.hid (show layA (ts.drop nn) out xs=(a,zs) by
    rw[hdr,List.drop_eq_nil_of_le (by rw[← HN2.out];exact Nat.le_refl _),layA];exact hal)
   clear hal hdr hty hky hsz hsd hy
   go_wp2_with (first|((with_reducible refine gL ?_);refine zAM wtd_ _ _ rfl rfl zAK (zAW y) (hcell _ (H.kn (i:=4) i_4)) ?_)|((with_reducible refine gL ?_);refine aG H ?_)|(go_at_call 63;refine chL (F:=F) (S:=fun V=>ForestR V F y.2.1 y.2.2 y.1.kids) H (Still.at (i:=4) i_4) (fun V hV=>((H.kn (i:=4) i_4).2 y hmem).kept hV) (fun h=>hlay _ _ h) ?_;clear H;intro v3 w H))
   clear hcell hlay hmem
   go_loopw [9,10] (fun vo ix wr=>∃ (j o:Nat) (z:Int) (ys:List InstD) (v':Value),j<=nn/\z=(j:Int) - 1/\vo=.int .i64 o/\ix=.int .i64 z/\Hid (layA (ts.drop j) out xs=(o,ys))/\HoldG M w0 wr [.blk bc #[v'] 132,.row v' 47 9 ys.length (zAE (ys.map zAL)),.kn F (fun V=>ForestR V F (some ⟨g,off,none⟩) c ts),.kn rF rS,.kn F (Knows F (some ⟨g,off,none⟩) (nn+1) c kx),.blk b4 (zAO d (.slice (some ⟨g,off,none⟩) (nn+1) c)) 28]) (fun _ ix _=>(intOf ix+1).toNat)
   case atStart=>exact⟨nn,a,_,zs,v3,Nat.le_refl _,rfl,rfl,rfl,EA,H⟩
   case round =>
    clear H EA;obtain⟨j,o,z,ys,v',hj,hz,rfl,rfl,EC,H⟩:=hrel
    by_cases h0:j=0
    ·have hz0:z = -1:=by omega
     subst h0;have dz:decide ((0:Int)<=z)=false:=by simp;omega
     clear hz hz0;have E2:=Lib.hid (show layP (.mk d ts) out xs=(o,ys) by rw[E.out,← EC.out];rfl)
     clear IH EC E
     go_wp2_with (first|fail)
     go_ret;rw[E2.out];rw[← hrF,← hrS]at H;exact zED H (i:=3) i_3 (by decide) rfl rfl
    ·obtain⟨q,rfl⟩:∃ q,j=q+1:=⟨j - 1,by omega⟩
     have hzq:z=(q:Int):=by omega
     subst hzq;have dj:decide ((0:Int)<=(q:Int))=true:=by simp
     have hyl:ys.length<=xs.length+(3 * zAD (ts.drop (q+1)) - 1):=by
      have:=(zIi (ts.drop (q+1)) out xs).2
      rwa [EC.out]at this
     obtain⟨y,hy⟩:∃ y,kx[q]?=some y:=⟨_,List.getElem?_eq_getElem (by have:=HN.out;omega)⟩
     have hmem:y ∈ kx:=List.mem_of_getElem? hy;have hty:ts[q]?=some y.1:=by rw[HTS.out,List.getElem?_map,hy];rfl
     have hky:zAi y.1=true:=zCv HKD.out.2 hty;have hsz:=zCw hty;have hdr:ts.drop q=y.1::ts.drop (q+1):=by
      obtain⟨hlt,e⟩:=List.getElem?_eq_some_iff.1 hty;rw[← e];exact List.drop_eq_getElem_cons hlt
     have hsd:zAD (ts.drop (q+1))+zAC y.1<=zAD ts:=by
      have h1:zAD ts=zAD (ts.take q)+zAD (ts.drop q):=by rw[← zAc,List.take_append_drop]
      rw[h1,hdr];simp only[zAD];omega
     have hcell:∀ V,Knows F (some ⟨g,off,none⟩) (nn+1) c kx V->∀ k,k<10->V.cell? ⟨g,off+q * 10+k,none⟩=(zAR y)[k]?:=fun V h=>h.cells hy rfl
     obtain⟨ar,hal⟩:∃ a,layP y.1 out ys=a:=⟨_,rfl⟩;obtain⟨a,zs⟩:=ar;have hlay:∀ v' w',HoldG M w0 w' (zBi bc v' ys++[.kn F (fun V=>ForestR V F y.2.1 y.2.2 y.1.kids)])->Calls Tryz.prog 63 #[.pointer (some ⟨bc,0,none⟩),.agg (zAR y),.int .i64 (out:Nat)] w' (LayB M w0 bc v' ys [.kn F (fun V=>ForestR V F y.2.1 y.2.2 y.1.kids)] w' (.int .i64 a) zs):=fun v' w' h=>by
      have:=IH y.1 y.2.1 y.1.kids.length y.2.2 F bc v' ys out M w0 w' (by omega) (by omega) hky (by omega) rfl h
      rw[hal]at this;exact this
     have hzl:zs.length<=ys.length+(3 * zAC y.1 - 1):=by
      have:=(zBy y.1 out ys).2
      rwa [hal]at this
     have E3:=Lib.hid (show layA (ts.drop q) out xs=(zs.length,zs++[{kind:=2,next:=a,other:=o}]) by
      obtain⟨k2,hk2⟩:∃ k2,ts[q+1]?=some k2:=⟨_,List.getElem?_eq_getElem (by have:=HN2.out;omega)⟩
      have hd2:ts.drop (q+1)=k2::ts.drop (q+2):=by
       obtain⟨hlt,e⟩:=List.getElem?_eq_some_iff.1 hk2;rw[← e];exact List.drop_eq_getElem_cons hlt
      have hec:=EC.out;rw[hdr];rw[hd2]at hec ⊢;rw[layA]
      simp only[hec,hal])
     have hzl2:zs.length<=1000000:=by omega
     clear IH hal hdr hty hky hsz hsd hz EC hp hy h0 hyl hzl
     go_wp2_with (first|((with_reducible refine gL ?_);refine zAM wtd_ _ _ rfl rfl zAK (zAW y) (hcell _ (H.kn (i:=4) i_4)) ?_)|(first|((with_reducible refine gBi ?_);refine ib3 ?_)|((with_reducible refine gL ?_);refine aG H ?_))|(go_at_call 63;refine chL (F:=F) (S:=fun V=>ForestR V F y.2.1 y.2.2 y.1.kids) H (Still.at (i:=4) i_4) (fun V hV=>((H.kn (i:=4) i_4).2 y hmem).kept hV) (fun h=>hlay _ _ h) ?_;clear H;intro v3 w H)|(go_at_call 62;refine chP H (fun h=>zC1 _ _ _ _ h (by first|omega|(simp only[List.length_append,List.length_cons,List.length_nil];omega))) ?_;clear H;intro v2 w H))
     go_roundw
     case rel=>exact⟨q,_,_,_,v2,by omega,by first|rfl|omega,rfl,by go_num,E3,H⟩
     case measure=>simp[intOf]<;>omega
  have d5:(d.kind == 5)=false:=by rw[beq_eq_false_iff_ne];exact k5
  by_cases k7:d.kind=7
  ·have d7:(d.kind == 7)=true:=by rw[beq_iff_eq];exact k7
   obtain⟨y,rfl⟩:∃ y,kx=[y]:=by
    have h1:ts.length=1:=ok_7 HKD.out.1 k7;have h2:=congrArg List.length HTS.out;rw[List.length_map,h1]at h2;exact List.length_eq_one_iff.1 h2.symm
   have hts1:ts=[y.1]:=HTS.out;have hn1:n=1:=HN.out;subst hn1;obtain⟨g,off,rfl⟩:=hp (by simp)
   have hmem:y ∈ [y]:=List.mem_singleton.2 rfl;have hky:zAi y.1=true:=by have:=HKD.out.2;rw[hts1]at this;simpa [zAd] using this
   have hsy:zAC y.1<=m:=by rw[hts1]at hm;simp only[zAD]at hm;omega
   have hsy2:zAD ts=zAC y.1:=by rw[hts1];simp[zAD]
   have hcell:∀ V,Knows F (some ⟨g,off,none⟩) 1 c [y] V->∀ k,k<10->V.cell? ⟨g,off+k,none⟩=(zAR y)[k]?:=fun V h=>h.cells (j:=0) rfl rfl
   have hg:=zRd HKD.out.1 k7;have hw1:IntKind.i64.wrap (2 * d.group)=2 * d.group:=by rw[IntKind.wrap_i64];omega
   have hw2:IntKind.i64.wrap (2 * d.group+1)=2 * d.group+1:=by rw[IntKind.wrap_i64];omega
   obtain⟨ar,hal⟩:∃ a,layP y.1 xs.length (xs++[{kind:=3,slot:=2 * d.group+1,next:=out}])=a:=⟨_,rfl⟩;obtain⟨a,ys⟩:=ar;have hlay:∀ v' w',HoldG M w0 w' (zBi bc v' (xs++[{kind:=3,slot:=2 * d.group+1,next:=out}])++[.kn F (fun V=>ForestR V F y.2.1 y.2.2 y.1.kids)])->Calls Tryz.prog 63 #[.pointer (some ⟨bc,0,none⟩),.agg (zAR y),.int .i64 (xs.length:Nat)] w' (LayB M w0 bc v' (xs++[{kind:=3,slot:=2 * d.group+1,next:=out}]) [.kn F (fun V=>ForestR V F y.2.1 y.2.2 y.1.kids)] w' (.int .i64 a) ys):=fun v' w' h=>by
    have:=IH y.1 y.2.1 y.1.kids.length y.2.2 F bc v' (xs++[{kind:=3,slot:=2 * d.group+1,next:=out}]) xs.length M w0 w' hsy (by omega) hky (by simp only[List.length_append,List.length_cons,List.length_nil];omega) rfl h
    rw[hal]at this;exact this
   have hyl:ys.length<=xs.length+3 * zAD ts+1:=by
    have:=(zBy y.1 xs.length (xs++[{kind:=3,slot:=2 * d.group+1,next:=out}])).2;rw[hal]at this;have:=zAy y.1;simp only[List.length_append,List.length_cons,List.length_nil]at *;omega
   have E:=Lib.hid (show layP (.mk d ts) out xs=(ys.length,ys++[{kind:=3,slot:=2 * d.group,next:=a}]) by rw[layP,if_neg k1,if_neg k2,if_neg k3,if_neg k4,if_neg k5,if_pos k7,hts1];simp only[layH,hal])
   clear k1 k2 k3 k4 k5 k7 IH hal hts1 hky hsy hsy2
   go_enter Tryz.func63,Tryz.ntmps63
   go_wp2_with (first|((with_reducible refine gL ?_);refine zAM wtd_ _ _ rfl rfl zAK (zAW y) (hcell _ (H.kn (i:=4) i_4)) ?_)|(first|((with_reducible refine gBi ?_);refine ib4 ?_)|((with_reducible refine gL ?_);refine aG H ?_)|((with_reducible refine gX ?_);(refine bB H ?_;clear H;intro b w H;try simp only[nr]at H)))|(go_at_call 63;refine chL (F:=F) (S:=fun V=>ForestR V F y.2.1 y.2.2 y.1.kids) H (Still.at (i:=4) i_4) (fun V hV=>((H.kn (i:=4) i_4).2 y hmem).kept hV) (fun h=>hlay _ _ h) ?_;clear H;intro v3 w H)|(go_at_call 62;refine chP H (fun h=>zC1 _ _ _ _ h (by first|omega|(simp only[List.length_append,List.length_cons,List.length_nil];omega))) ?_;clear H;intro v2 w H))
   go_ret;rw[E.out];rw[← hrF,← hrS]at H;exact zED H (i:=3) i_3 (by decide) rfl rfl
  have d7:(d.kind == 7)=false:=by rw[beq_eq_false_iff_ne];exact k7
  by_cases k6:d.kind=6
  ·have d6:(d.kind == 6)=true:=by rw[beq_iff_eq];exact k6
   obtain⟨y,rfl⟩:∃ y,kx=[y]:=by
    have h1:ts.length=1:=(ok_6 HKD.out.1 k6).1;have h2:=congrArg List.length HTS.out;rw[List.length_map,h1]at h2;exact List.length_eq_one_iff.1 h2.symm
   have hts1:ts=[y.1]:=HTS.out;have hn1:n=1:=HN.out;subst hn1;obtain⟨g,off,rfl⟩:=hp (by simp)
   have hmem:y ∈ [y]:=List.mem_singleton.2 rfl;have hky:zAi y.1=true:=by have:=HKD.out.2;rw[hts1]at this;simpa [zAd] using this
   have hsy:zAC y.1<=m:=by rw[hts1]at hm;simp only[zAD]at hm;omega
   have hsy2:zAD ts=zAC y.1:=by rw[hts1];simp[zAD]
   have hcell:∀ V,Knows F (some ⟨g,off,none⟩) 1 c [y] V->∀ k,k<10->V.cell? ⟨g,off+k,none⟩=(zAR y)[k]?:=fun V h=>h.cells (j:=0) rfl rfl
   have d7:(d.kind == 7)=false:=by rw[beq_eq_false_iff_ne];exact k7
   by_cases h1:d.hi=1
   ·have dh:(d.hi == 1)=true:=by rw[beq_iff_eq];exact h1
    obtain⟨ar,hal⟩:∃ a,layP y.1 out xs=a:=⟨_,rfl⟩;obtain⟨a,ys⟩:=ar;have hlay:∀ v' w',HoldG M w0 w' (zBi bc v' xs++[.kn F (fun V=>ForestR V F y.2.1 y.2.2 y.1.kids)])->Calls Tryz.prog 63 #[.pointer (some ⟨bc,0,none⟩),.agg (zAR y),.int .i64 (out:Nat)] w' (LayB M w0 bc v' xs [.kn F (fun V=>ForestR V F y.2.1 y.2.2 y.1.kids)] w' (.int .i64 a) ys):=fun v' w' h=>by
     have:=IH y.1 y.2.1 y.1.kids.length y.2.2 F bc v' xs out M w0 w' hsy (by omega) hky (by omega) rfl h
     rw[hal]at this;exact this
    have hyl:ys.length<=xs.length+3 * zAD ts+1:=by
     have:=(zBy y.1 out xs).2;rw[hal]at this;have:=zAy y.1;simp only[List.length_append,List.length_cons,List.length_nil]at *;omega
    have E:=Lib.hid (show layP (.mk d ts) out xs=(ys.length,ys++[zB0 d a out]) by rw[layP,if_neg k1,if_neg k2,if_neg k3,if_neg k4,if_neg k5,if_neg k7,if_pos k6,if_pos h1,hts1];simp only[layH,hal])
    clear k1 k2 k3 k4 k5 k6 k7 IH hal hts1 hky hsy hsy2 h1
    go_enter Tryz.func63,Tryz.ntmps63
    go_wp2_with (first|((with_reducible refine gL ?_);refine zAM wtd_ _ _ rfl rfl zAK (zAW y) (hcell _ (H.kn (i:=4) i_4)) ?_)|(first|((with_reducible refine gL ?_);(first|refine aG H ?_|refine aD H ?_))|((with_reducible refine gX ?_);(refine bB H ?_;clear H;intro b w H;try simp only[nr]at H)))|(go_at_call 63;refine chL (F:=F) (S:=fun V=>ForestR V F y.2.1 y.2.2 y.1.kids) H (Still.at (i:=4) i_4) (fun V hV=>((H.kn (i:=4) i_4).2 y hmem).kept hV) (fun h=>hlay _ _ h) ?_;clear H;intro v3 w H)|(go_at_call 62;refine chP H (fun h=>zC1 _ _ _ _ h (by first|omega|(simp only[List.length_append,List.length_cons,List.length_nil];omega))) ?_;clear H;intro v2 w H)|((with_reducible refine ch (hspl _ _ _) H ?_);clear H;intro w H))
    go_ret;rw[E.out];rw[← hrF,← hrS]at H;exact zED H (i:=3) i_3 (by decide) rfl rfl
   ·have dh:(d.hi == 1)=false:=by rw[beq_eq_false_iff_ne];exact h1
    obtain⟨ar,hal⟩:∃ a,layP y.1 xs.length (xs++[{kind:=2}])=a:=⟨_,rfl⟩;obtain⟨a,ys⟩:=ar;have hlay:∀ v' w',HoldG M w0 w' (zBi bc v' (xs++[{kind:=2}])++[.kn F (fun V=>ForestR V F y.2.1 y.2.2 y.1.kids)])->Calls Tryz.prog 63 #[.pointer (some ⟨bc,0,none⟩),.agg (zAR y),.int .i64 (xs.length:Nat)] w' (LayB M w0 bc v' (xs++[{kind:=2}]) [.kn F (fun V=>ForestR V F y.2.1 y.2.2 y.1.kids)] w' (.int .i64 a) ys):=fun v' w' h=>by
     have:=IH y.1 y.2.1 y.1.kids.length y.2.2 F bc v' (xs++[{kind:=2}]) xs.length M w0 w' hsy (by omega) hky (by simp only[List.length_append,List.length_cons,List.length_nil];omega) rfl h
     rw[hal]at this;exact this
    have hyl:ys.length<=xs.length+3 * zAD ts+1:=by
     have:=(zBy y.1 xs.length (xs++[{kind:=2}])).2;rw[hal]at this;have:=zAy y.1;simp only[List.length_append,List.length_cons,List.length_nil]at *;omega
    have hyg:xs.length+1<=ys.length:=by
     have:=(zBy y.1 xs.length (xs++[{kind:=2}])).1;rw[hal]at this
     simpa using this
    have E:=Lib.hid (show layP (.mk d ts) out xs=(xs.length,ys.set xs.length (zB0 d a out)) by rw[layP,if_neg k1,if_neg k2,if_neg k3,if_neg k4,if_neg k5,if_neg k7,if_pos k6,if_neg h1,hts1];simp only[layH,hal])
    clear k1 k2 k3 k4 k5 k6 k7 IH hal hts1 hky hsy hsy2 h1
    go_enter Tryz.func63,Tryz.ntmps63
    go_upto_region 33 with (first|((with_reducible refine gL ?_);refine zAM wtd_ _ _ rfl rfl zAK (zAW y) (hcell _ (H.kn (i:=4) i_4)) ?_)|((with_reducible refine kg 4 ?_);(first|refine kA 4 H ?_|refine kS 4 H ?_|refine kB 4 H ?_);clear H;intro b4 w H;try simp only[nr]at H)|(first|((with_reducible refine gBi ?_);refine ib1 ?_)|((with_reducible refine gL ?_);refine aG H ?_))|(go_at_call 63;refine chL (F:=F) (S:=fun V=>ForestR V F y.2.1 y.2.2 y.1.kids) H (Still.at (i:=4) i_4) (fun V hV=>((H.kn (i:=4) i_4).2 y hmem).kept hV) (fun h=>hlay _ _ h) ?_;clear H;intro v3 w H)|(go_at_call 62;refine chP H (fun h=>zC1 _ _ _ _ h (by first|omega|(simp only[List.length_append,List.length_cons,List.length_nil];omega))) ?_;clear H;intro v2 w H))
    obtain⟨q2,c2,rfl,_,_,hq2⟩:=H.rowShape (i:=1) i_1;obtain⟨g2,rfl⟩:=hq2 (by omega)
    obtain⟨yl,hyl2⟩:∃ yl,ys.length=yl:=⟨_,rfl⟩;have HYL:=Lib.hid hyl2;rw[hyl2]at H hyl hyg;clear hyl2;refine zAp 10 [fun u _=>u=pt bc 0,fun u _=>u=pt bc 0,fun u _=>u=pt bc 0,fun u _=>u=.slice (some ⟨g2,0,none⟩) yl c2,fun u _=>u=.int .i64 (xs.length:Nat),fun u _=>u=zAQ d (.slice (some ⟨g,off,none⟩) 1 c),fun u _=>u=.int .i64 (a:Nat),fun u _=>u=.int .i64 (out:Nat),fun u _=>u=zAm (zB0 d a out),fun u _=>u=.pointer (some ⟨g2,xs.length * 9,none⟩)] (fun _=>false) (by kernel_rfl) (by kernel_rfl) (by kernel_rfl) ⟨zAJ _,zAJ _,zAJ _,zAJ _,zAJ _,zAJ _,zAJ _,zAJ _,zAJ _,zAJ _,trivial⟩ (fun _ _ h=>by cases h) ?ob ?en
    case ob =>
     refine⟨?_,?_,?_,?_,?_,?_,?_,?_,?_,?_,trivial⟩<;>intro A W h
     ·exact zAB rfl rfl (h.f 0) (by decide)
     ·(have e:A.eval (.tmp 137)=.pointer (some ⟨bc,0,none⟩):=h.d 0 137;refine zAA rfl ?_ (by decide);simp only[execOp,e];simp[go_sem])
     ·(have e:A.eval (.tmp 138)=.pointer (some ⟨bc,0,none⟩):=h.d 1 138;refine zAA rfl ?_ (by decide);simp only[execOp,e];simp[go_sem])
     ·exact zAA rfl (zAG rfl (h.d 2 139) zBW ((H.call h.below).cell (i:=0) .zero 0)) (by decide)
     ·exact zAB rfl rfl (h.f 15) (by decide)
     ·exact zAA rfl (zAV rfl (h.f 4) zAK rfl (fun k _=>by rw[Nat.zero_add];exact(H.call h.below).cell (i:=5) i_5 k)) (by decide)
     ·exact zAB rfl rfl (h.f 16) (by decide)
     ·exact zAB rfl rfl (h.f 2) (by decide)
     ·refine zDY rfl rfl (enters_of Tryz.func121 (by kernel_rfl) rfl) (zHD ⟨h.d 5 142,h.d 6 143,h.d 7 144⟩) ((hspl _ _ W).mono ?_)
      rintro e w' ⟨rfl,hb⟩;exact⟨_,rfl,hb,rfl,fun h=>by cases h⟩
     ·exact zA2 (sz:=9) Tryz.underlying32 (fun w=>by kernel_rfl) rfl rfl (h.d 3 140) (h.d 4 141) (by omega) (by omega) (by decide)
    case en =>
     intro vals W hbw hv _;have v0:vals 0=.pointer (some ⟨bc,0,none⟩):=hv 0 (by omega)
     have v1:vals 1=.pointer (some ⟨bc,0,none⟩):=hv 1 (by omega)
     have v2:vals 2=.pointer (some ⟨bc,0,none⟩):=hv 2 (by omega)
     have v3:vals 3=.slice (some ⟨g2,0,none⟩) yl c2:=hv 3 (by omega)
     have v4:vals 4=.int .i64 (xs.length:Nat):=hv 4 (by omega)
     have v5:vals 5=zAQ d (.slice (some ⟨g,off,none⟩) 1 c):=hv 5 (by omega)
     have v6:vals 6=.int .i64 (a:Nat):=hv 6 (by omega)
     have v7:vals 7=.int .i64 (out:Nat):=hv 7 (by omega)
     have v8:vals 8=zAm (zB0 d a out):=hv 8 (by omega)
     have v9:vals 9=.pointer (some ⟨g2,xs.length * 9,none⟩):=hv 9 (by omega)
     simp only[fa,Nat.reduceAdd];rw[v0,v1,v2,v3,v4,v5,v6,v7,v8,v9];clear hv v0 v1 v2 v3 v4 v5 v6 v7 v8 v9;simp only[pl];replace H:=H.call hbw
     go_wp2_with (first|((with_reducible refine gTi ?_);refine zBL wtd_ _ _ _ rfl rfl rfl evd_ H (j:=1) i_1 (zAX _) (by rw[List.length_map];exact HYL.out) (zAu zAg) rfl rfl (by omega) ?_;clear H;intro w H)|fail)
     simp only[sc]at H;rw[← List.map_set,show yl=(ys.set xs.length (zB0 d a out)).length by rw[List.length_set];exact HYL.out.symm]at H
     go_ret;rw[E.out];rw[← hrF,← hrS]at H;exact zED H (i:=3) i_3 (by decide) rfl rfl
  have d6:(d.kind == 6)=false:=by rw[beq_eq_false_iff_ne];exact k6
  have E:=Lib.hid (show layP (.mk d ts) out xs=(xs.length,xs++[{kind:=4,spot:=d.kind,next:=out}]) by rw[layP,if_neg k1,if_neg k2,if_neg k3,if_neg k4,if_neg k5,if_neg k7,if_neg k6])
  clear k1 k2 k3 k4 k5 k6 k7 IH
  go_enter Tryz.func63,Tryz.ntmps63
  go_wp2_with (first|(first|((with_reducible refine gBi ?_);refine ib5 ?_)|((with_reducible refine gL ?_);refine aG H ?_)|((with_reducible refine gX ?_);(refine bB H ?_;clear H;intro b w H;try simp only[nr]at H)))|(go_at_call 62;refine chP H (fun h=>zC1 _ _ _ _ h (by first|omega|(simp only[List.length_append,List.length_cons,List.length_nil];omega))) ?_;clear H;intro v2 w H))
  go_ret;rw[E.out];rw[← hrF,← hrS]at H;exact zED H (i:=3) i_3 (by decide) rfl rfl
theorem zEq (x:InstD) (v:Int):(zAL x).setIfInBounds 5 (.int .i64 v)=zAL {x with next:=v}:=rfl
theorem zEm (x:InstD) (v:Int):(zAL x).setIfInBounds 6 (.int .i64 v)=zAL {x with other:=v}:=rfl
def zKe (w:World) (r:Except Nat (List InstD)) (e:Ending) (w':World):Prop:=match r with
 | .ok ps=>∃ q c F,e=.returned (.tuple #[.slice q ps.length c,.int .i64 0])/\InstsR F q c ps w'/\∀ b,F b->b<w'.heap.size/\w.heap.size<=b
 | .error k=>e=.returned (.tuple #[.slice none 0 0,.int .i64 k])
section
variable {M:Nat->Prop} {P:Program} {f:FuncId} {args:Array Value} {w w0:World} {l:List Res} {R:Ending->World->Prop}
theorem zPx {t:Tree} (c:Calls P f args w fun e w'=>zO2 w (.ok t) e w'/\Below w.heap.size w w') (H:HoldG M w0 w l)
  (k:∀ p n F w',(∀ b,F b->w0.heap.size<=b)->HoldG M w0 w' (l++[.kn F (fun V=>ForestR V F p n t.kids)])->R (.returned (.tuple #[zAQ t.d (.slice p t.kids.length n),.int .i64 0])) w'):Calls P f args w R:=c.mono fun _ w' h=>by
 obtain⟨⟨p,n,F,rfl,hs,hF⟩,hb⟩:=h;exact k p n F w' (fun b h=>Nat.le_trans H.keep.size (hF b h).2) (H.learn hb Still.none (fun b h=>⟨(hF b h).1,.inl (hF b h).2⟩) (fun V hV=>hs.kept hV))
theorem zNZ {x:Nat} (c:Calls P f args w fun e w'=>zO2 w (.error x) e w'/\Below w.heap.size w w') (H:HoldG M w0 w l)
  (k:∀ w',HoldG M w0 w' l->R (.returned (.tuple #[zAQ {kind:=0} nilS,.int .i64 x])) w'):Calls P f args w R:=c.mono fun _ w' h=>by
 obtain⟨rfl,hb⟩:=h;exact k w' (H.call hb)
end
section
variable {M:Nat->Prop} {ops:Array Oper} {dst:Option Tmp} {ty:TypeId} {pos:String} {aft:Array Edge} {grd:Option (Nat × Bool)} {rest:List Oper} {a:Act} {w w0:World} {l:List Res} {Q:Exit->Act->World->Prop}
theorem zOi (W:World):(Instr.build 132 #[]).run Tryz.prog W=.ok (.agg #[.slice none 0 0]) W:=by kernel_rfl
theorem zSA (h:wpList Tryz.prog ops Q rest (a.put dst (.agg #[.slice none 0 0])) w) (hg:Region.wanted (⟨dst,.build 132 #[],ty,pos,aft,grd⟩:Oper) (yielded ops a.tmps)=true:=by first|rfl|exact zAZ rfl (zAN rfl (by first|rfl|(simp only[pe];rfl)))):wpList Tryz.prog ops Q ((⟨dst,.build 132 #[],ty,pos,aft,grd⟩:Oper)::rest) a w :=
 zAP hg (by
  simp only[execOp,List.map_toArray,List.map_nil,Sem.run_bind,zOi];rfl) h
end
theorem HoldG.rowInsts {M:Nat->Prop} {w0 w:World} {l:List Res} (H:HoldG M w0 w l) {i cap:Nat} {q:Option Addr} {xs:List InstD} (hi:At l i (.row (.slice q xs.length cap) 47 9 xs.length (zAE (xs.map zAL)))) :
  ∃ F:Nat->Prop,(∀ b,F b->(w0.heap.size<=b\/M b)/\b<w.heap.size)/\InstsR F q cap xs w:=by
 have ho:=H.all i _ hi.get;refine⟨fun b=>(Value.slice q xs.length cap).ownBlock=some b,fun b hb=>(ho.lt b hb),?_⟩
 exact RdN.of_own ho (zAX xs) (by rw[List.length_map]) (fun _ _=>rfl)
theorem zML (m:Nat) (t:Tree) (p:Option Addr) (n c:Nat) (F:Nat->Prop) (w0:World) (hm:zAC t<=m) (hm2:m<=1000000000) (hF:∀ b,F b->b<w0.heap.size) (h:ForestR w0 F p c t.kids) (hn:n=t.kids.length) :
  Calls Tryz.prog 29 #[zAQ t.d (.slice p n c)] w0 fun e w'=>zKe w0 (zDM t) e w'/\Below w0.heap.size w0 w':=by
 subst hn;have H:=(Hold.start w0).know F (fun V=>ForestR V F p c t.kids) hF (fun i r h=>by simp at h) (fun V hV=>h.kept hV)
 clear h;simp only[List.nil_append]at H;obtain⟨i0,hi0,hz0,hz1,hz2⟩:=info_parts zFc;have hsi:=fun w (h1:∀ b,F b->b<w.heap.size) (h2:ForestR w F p c t.kids)=>zI5 m t p _ c F w hm hm2 h1 h2 rfl
 have hsp:∀ x,zBa t=.error x->x=2\/x=7:=fun x h=>by
  unfold zBa at h;split at h
  ·split at h<;>cases h;exact .inr rfl
  ·cases h;exact .inl rfl
 cases hs:zBa t with
 | error x =>
  rw[hs]at hsi;have hx:=hsp x hs;have E:=Lib.hid (show zDM t=.error x by unfold zDM;rw[hs])
  have dx:((x:Int) != 0)=true:=by rw[bne_iff_ne];omega
  clear hs hsp hx
  go_enter Tryz.func29,Tryz.ntmps29
  go_wp2_with (first|(first|((with_reducible refine gT ?_);(refine aT H ?_;clear H;intro w H;try simp only[nr]at H))|((with_reducible refine gL ?_);refine aD H ?_)|((with_reducible refine gX ?_);(refine bB H ?_;clear H;intro b w H;try simp only[nr]at H))|((with_reducible refine gA ?_);(refine bA H ?_;clear H;intro b w H;try simp only[nr]at H)))|(go_at_call 61;refine zNZ (hsi _ (H.knlt .zero) (H.kn .zero)) H ?_;clear H;intro w H))
  go_ret2
  exact⟨by rw[E.out];rfl,H.below⟩
 | ok s =>
  rw[hs]at hsi;obtain⟨hks,hss⟩:=zIH hs;obtain⟨ar,har⟩:∃ a,layP s 1 zCf=a:=⟨_,rfl⟩;obtain⟨a,ys⟩:=ar;have hyl:ys.length<=6100:=by
   have:=(zBy s 1 zCf).2;rw[har]at this;simp only[zCf,List.length_cons,List.length_nil]at this;omega
  have hlay:∀ M w0 w' bc v' q1 c1 F1,HoldG M w0 w' (zBi bc v' zCf++[.kn F1 (fun V=>ForestR V F1 q1 c1 s.kids)])->Calls Tryz.prog 63 #[.pointer (some ⟨bc,0,none⟩),zAQ s.d (.slice q1 s.kids.length c1),.int .i64 1] w' (LayB M w0 bc v' zCf [.kn F1 (fun V=>ForestR V F1 q1 c1 s.kids)] w' (.int .i64 a) ys):=fun M w0 w' bc v' q1 c1 F1 h=>by
   have:=zN1 2000 s q1 s.kids.length c1 F1 bc v' zCf 1 M w0 w' hss (Nat.le_refl _) hks (by simp only[zCf,List.length_cons,List.length_nil];omega) rfl h
   rw[har]at this;exact this
  have E:=Lib.hid (show zDM t=if 4000<=ys.length then .error 7 else .ok (zBq (ys++[{kind:=3,next:=a}])) by
   unfold zDM zHS;rw[hs];simp only[har,List.length_append,List.length_cons,List.length_nil,Nat.add_sub_cancel])
  clear hs hsp har hks hss
  go_enter Tryz.func29,Tryz.ntmps29
  go_upto_region 5 with (first|((with_reducible refine gZ ?_);refine zSA ?_)|((with_reducible refine kg 1 ?_);(first|refine kA 1 H ?_|refine kS 1 H ?_|refine kB 1 H ?_);clear H;intro b1 w H;try simp only[nr]at H)|((with_reducible refine kg 4 ?_);(first|refine kA 4 H ?_|refine kS 4 H ?_|refine kB 4 H ?_);clear H;intro b4 w H;try simp only[nr]at H)|((with_reducible refine kg 28 ?_);(first|refine kA 28 H ?_|refine kS 28 H ?_|refine kB 28 H ?_);clear H;intro b28 w H;try simp only[nr]at H)|(first|((with_reducible refine gT ?_);(refine aT H ?_;clear H;intro w H;try simp only[nr]at H))|((with_reducible refine gL ?_);refine aD H ?_))|(go_at_call 61;refine zPx (hsi _ (H.knlt .zero) (H.kn .zero)) H ?_;clear H;intro q1 c1 F1 w hF1 H;simp only[ca]at H))
  have H2:=(H.addNil 47 9).pick [4,5,2,0,1,3] [.blk b28 #[.slice none 0 0] 132,.row (.slice none 0 0) 47 9 ([]:List InstD).length (zAE (([]:List InstD).map zAL)),.kn F1 (fun V=>ForestR V F1 q1 c1 s.kids),.kn F (fun V=>ForestR V F p c t.kids),.blk b1 (zAO t.d (.slice p t.kids.length c)) 28,.blk b4 (zAO s.d (.slice q1 s.kids.length c1)) 28] (by decide) rfl
  clear H;have H:=H2;clear H2;have hput1:∀ (M:Nat->Prop) (w0 w:World) (bc:Nat) (v:Value),HoldG M w0 w (zBi bc v [])->Calls Tryz.prog 62 #[.pointer (some ⟨bc,0,none⟩),zAm {kind:=5}] w (LayB M w0 bc v [] [] w (.int .i64 0) [{kind:=5}]):=fun M w0 w bc v h=>zC1 bc v [] _ h (by simp)
  have hput2:∀ (M:Nat->Prop) (w0 w:World) (bc:Nat) (v:Value),HoldG M w0 w (zBi bc v [{kind:=5}])->Calls Tryz.prog 62 #[.pointer (some ⟨bc,0,none⟩),zAm {kind:=3,slot:=1,next:=0}] w (LayB M w0 bc v [{kind:=5}] [] w (.int .i64 1) zCf):=fun M w0 w bc v h=>zC1 bc v [{kind:=5}] _ h (by simp)
  have hput3:∀ (M:Nat->Prop) (w0 w:World) (bc:Nat) (v:Value),HoldG M w0 w (zBi bc v ys)->Calls Tryz.prog 62 #[.pointer (some ⟨bc,0,none⟩),zAm {kind:=3,next:=a}] w (LayB M w0 bc v ys [] w (.int .i64 ys.length) (ys++[{kind:=3,next:=a}])):=fun M w0 w bc v h=>zC1 bc v ys _ h (by omega)
  go_upto_region 6 with (first|((with_reducible refine gBi ?_);refine ib1 ?_)|(go_at_call 62;refine chP H (fun h=>hput1 _ _ _ _ _ h) ?_;clear H;intro v2 w H))
  go_upto_region 7 with (first|((with_reducible refine gBi ?_);refine ib4 ?_)|(go_at_call 62;refine chP H (fun h=>hput2 _ _ _ _ _ h) ?_;clear H;intro v2 w H))
  go_upto_region 8 with (first|((with_reducible refine gL ?_);refine aD H ?_)|(go_at_call 63;refine chL (F:=F1) (S:=fun V=>ForestR V F1 q1 c1 s.kids) H (Still.at (i:=2) i_2) (fun V hV=>(H.kn (i:=2) i_2).kept hV) (fun h=>hlay _ _ _ _ _ _ _ _ h) ?_;clear H;intro v3 w H))
  go_upto_region 9 with (first|((with_reducible refine gBi ?_);refine ib6 ?_)|(go_at_call 62;refine chP H (fun h=>hput3 _ _ _ _ _ h) ?_;clear H;intro v2 w H))
  clear hput1 hput2 hput3 hlay hsi;have hzk:(ys++[({kind:=3,next:=(a:Int)}:InstD)]).length=ys.length+1:=by simp
  generalize ys++[({kind:=3,next:=(a:Int)}:InstD)]=zs at H E hzk
  generalize ys.length=k at H E hzk hyl
  rw[hzk]at H;have HZ:=Lib.hid hzk;clear hzk;obtain⟨q2,c2,rfl,_,_,hq2⟩:=H.rowShape (i:=1) i_1;obtain⟨g2,rfl⟩:=hq2 (by omega)
  by_cases h4:4000<=k
  ·have d4:decide ((4000:Int)<=(k:Int))=true:=by simp;omega
   have E2:=Lib.hid (show zDM t=.error 7 by rw[E.out,if_pos h4])
   clear E h4
   go_wp2_with (first|((with_reducible refine gL ?_);refine aG H ?_))
   go_ret2
   exact⟨by rw[E2.out];rfl,H.below⟩
  ·have d4:decide ((4000:Int)<=(k:Int))=false:=by simp;omega
   have E2:=Lib.hid (show zDM t=.ok (zBq zs) by rw[E.out,if_neg h4])
   clear E;have hk4:k<4000:=by omega
   clear h4
   go_upto_region 13 with (first|((with_reducible refine gL ?_);refine aG H ?_))
   have H2:=(H.addNil 47 9).pick [0,1,6] [.blk b28 #[.slice (some ⟨g2,0,none⟩) (k+1) c2] 132,.row (.slice (some ⟨g2,0,none⟩) (k+1) c2) 47 9 (k+1) (zAE (zs.map zAL)),.row (.slice none 0 0) 47 9 0 (zAE (((zBq zs).take 0).map zAL))] (by decide) rfl
   clear H;have H:=H2;clear H2
   go_wp2_with (first|fail)
   go_loopw [11,12] (fun vo ix wr=>∃ (j:Nat) (z:Int) (vq:Option Addr) (vc:Nat),j<=k+1/\z=(j:Int) - 1/\vo=.slice vq (k+1 - j) vc/\ix=.int .i64 z/\Hold w0 wr [.blk b28 #[.slice (some ⟨g2,0,none⟩) (k+1) c2] 132,.row (.slice (some ⟨g2,0,none⟩) (k+1) c2) 47 9 (k+1) (zAE (zs.map zAL)),.row (.slice vq (k+1 - j) vc) 47 9 (k+1 - j) (zAE (((zBq zs).take (k+1 - j)).map zAL))]) (fun _ ix _=>(intOf ix+1).toNat)
   case atStart=>exact⟨k+1,_,none,0,Nat.le_refl _,by omega,by simp,rfl,by simpa using H⟩
   case round =>
    clear H;obtain⟨j,z,vq,vc,hj,hz,rfl,rfl,H⟩:=hrel
    by_cases h0:j=0
    ·subst h0;have dz:decide ((0:Int)<=z)=false:=by simp;omega
     have EL:(zBq zs).take (k+1 - 0)=zBq zs:=List.take_of_length_le (by rw[zEn,HZ.out];omega)
     rw[EL]at H;have hkk:k+1 - 0=k+1:=rfl;rw[hkk]at H ⊢;clear hz EL hkk
     go_wp2_with (first|fail)
     go_ret2
     refine⟨?_,H.below⟩;rw[E2.out];have hlen:(zBq zs).length=k+1:=by rw[zEn,HZ.out]
     rw[← hlen]at H;obtain⟨F9,hF9,hI⟩:=H.rowInsts (i:=2) i_2;exact⟨vq,vc,F9,by rw[hlen];rfl,hI,fun b h=>⟨(hF9 b h).2,(hF9 b h).1.elim id False.elim⟩⟩
    ·obtain⟨q,rfl⟩:∃ q,j=q+1:=⟨j - 1,by omega⟩
     have hzq:z=(q:Int):=by omega
     subst hzq;have dj:decide ((0:Int)<=(q:Int))=true:=by simp
     have hkq:k+1 - (q+1)=k - q:=by omega
     rw[hkq]at H ⊢;obtain⟨x,hx⟩:∃ x,zs[q]?=some x:=⟨_,List.getElem?_eq_getElem (by rw[HZ.out];omega)⟩
     have hxr:(zs.map zAL)[q]?=some (zAL x):=by rw[List.getElem?_map,hx];rfl
     have hzl:(zs.map zAL).length=k+1:=by rw[List.length_map,HZ.out]
     have hget:(zBq zs)[k - q]?=some (zFF k x):=zL4 HZ.out (by omega) (by rw[show k - (k - q)=q by omega];exact hx)
     have ET:=Lib.hid (zBc hget);have HZL:=Lib.hid hzl;have HXR:=Lib.hid hxr;have hha:∀ w,Calls Tryz.prog 64 #[.int .i64 x.kind] w (Rt (.tuple #[.bool (x.kind == 1),.bool (x.kind == 1 || x.kind == 2 || x.kind == 3 || x.kind == 4),.bool (x.kind == 2),.bool (x.kind == 3),.bool (x.kind == 4)]) w):=zQD x.kind
     obtain⟨nx,hnx⟩:∃ nx,(if (x.kind == 1 || x.kind == 2 || x.kind == 3 || x.kind == 4) then wrap64 (k - x.next) else x.next)=nx:=⟨_,rfl⟩
     obtain⟨ox,hox⟩:∃ ox,(if x.kind == 2 then wrap64 (k - x.other) else x.other)=ox:=⟨_,rfl⟩
     have HT:=Lib.hid (show zFF k x={x with next:=nx,other:=ox} by unfold zFF;rw[hnx,hox])
     clear hx hxr hzl hget hkq h0 hz
     generalize (x.kind == 1 || x.kind == 2 || x.kind == 3 || x.kind == 4)=b2 at hha hnx
     generalize (x.kind == 2)=b3 at hha hox
     have hle:k - q<=4000:=by omega
     cases b2 with
     | true =>
      have hnx:wrap64 (k - x.next)=nx:=hnx
      cases b3 with
      | true =>
       have hox:wrap64 (k - x.other)=ox:=hox;have hT2:=HT.out;subst hnx hox;clear HT
       go_wp2_with (first|((with_reducible refine gL ?_);refine zAM wtd_ _ _ rfl rfl zAg rfl (H.rowCell (i:=1) i_1 (zAX _) HZL.out HXR.out rfl) ?_)|((with_reducible refine gT ?_);refine zAb wtd_ _ _ _ rfl rfl evd_ H (i:=3) i_3 rfl (by show 5<9;omega) (by with_reducible exact zAH zAI) ?_;clear H;intro w H;(rw[zEq]at H);try simp only[nr]at H)|((with_reducible refine gT ?_);refine zAb wtd_ _ _ _ rfl rfl evd_ H (i:=3) i_3 rfl (by show 6<9;omega) (by with_reducible exact zAH zAI) ?_;clear H;intro w H;(rw[zEm]at H);try simp only[nr]at H)|((with_reducible refine gBS ?_);refine zAY wtd_ _ _ _ rfl H (zAL ({x with next:=wrap64 ((k:Int) - x.next),other:=wrap64 ((k:Int) - x.other)})) 47 (by intro W;simp only[ml];(try simp only[pe]);exact zDw _ W) ?_;clear H;intro bk w H;try simp only[nr]at H)|(at_builtin;refine zAk rfl _ _ 32 rfl H (i:=2) (j:=4) evd_ rfl i_2 i_4 Tryz.underlying32 hi0 hz0 hz1 hz2 rfl (by decide) rfl rfl (by unfold maxLen;omega) (by omega) ?_;clear H;intro v2 w H;(try simp only[nr]at H);(obtain⟨q9,c9,rfl,_,_,_⟩:=H.rowShape (i:=2) i_2))|(first|((with_reducible refine gTi ?_);refine aTi H ?_;clear H;intro w H;try simp only[nr]at H)|((with_reducible refine gLi ?_);refine aLi H ?_)|((with_reducible refine gL ?_);refine aGi H ?_)|((with_reducible refine gL ?_);refine aG H ?_)|((with_reducible refine gA ?_);(refine bA H ?_;clear H;intro b w H;try simp only[nr]at H)))|((with_reducible refine ch (hha _) H ?_);clear H;intro w H))
       rw[zDy,← hT2,← ET.out,show k - q+1=k+1 - q by omega]at H
       go_roundw
       case rel=>exact⟨q,_,q9,c9,by omega,rfl,by rw[show k+1 - q=k - q+1 by omega],by go_num,by rw[show k+1 - q=k - q+1 by omega]at H ⊢;exact H.pick [0,1,2] _ (by decide) rfl⟩
       case measure=>simp[intOf]<;>omega
      | false =>
       have hox:x.other=ox:=hox;have hT2:=HT.out;subst hnx hox;clear HT
       go_wp2_with (first|((with_reducible refine gL ?_);refine zAM wtd_ _ _ rfl rfl zAg rfl (H.rowCell (i:=1) i_1 (zAX _) HZL.out HXR.out rfl) ?_)|((with_reducible refine gT ?_);refine zAb wtd_ _ _ _ rfl rfl evd_ H (i:=3) i_3 rfl (by show 5<9;omega) (by with_reducible exact zAH zAI) ?_;clear H;intro w H;(rw[zEq]at H);try simp only[nr]at H)|((with_reducible refine gT ?_);refine zAb wtd_ _ _ _ rfl rfl evd_ H (i:=3) i_3 rfl (by show 6<9;omega) (by with_reducible exact zAH zAI) ?_;clear H;intro w H;(rw[zEm]at H);try simp only[nr]at H)|((with_reducible refine gBS ?_);refine zAY wtd_ _ _ _ rfl H (zAL ({x with next:=wrap64 ((k:Int) - x.next),other:=x.other})) 47 (by intro W;simp only[ml];(try simp only[pe]);exact zDw _ W) ?_;clear H;intro bk w H;try simp only[nr]at H)|(at_builtin;refine zAk rfl _ _ 32 rfl H (i:=2) (j:=4) evd_ rfl i_2 i_4 Tryz.underlying32 hi0 hz0 hz1 hz2 rfl (by decide) rfl rfl (by unfold maxLen;omega) (by omega) ?_;clear H;intro v2 w H;(try simp only[nr]at H);(obtain⟨q9,c9,rfl,_,_,_⟩:=H.rowShape (i:=2) i_2))|(first|((with_reducible refine gTi ?_);refine aTi H ?_;clear H;intro w H;try simp only[nr]at H)|((with_reducible refine gLi ?_);refine aLi H ?_)|((with_reducible refine gL ?_);refine aGi H ?_)|((with_reducible refine gL ?_);refine aG H ?_)|((with_reducible refine gA ?_);(refine bA H ?_;clear H;intro b w H;try simp only[nr]at H)))|((with_reducible refine ch (hha _) H ?_);clear H;intro w H))
       rw[zDy,← hT2,← ET.out,show k - q+1=k+1 - q by omega]at H
       go_roundw
       case rel=>exact⟨q,_,q9,c9,by omega,rfl,by rw[show k+1 - q=k - q+1 by omega],by go_num,by rw[show k+1 - q=k - q+1 by omega]at H ⊢;exact H.pick [0,1,2] _ (by decide) rfl⟩
       case measure=>simp[intOf]<;>omega
     | false =>
      have hnx:x.next=nx:=hnx
      cases b3 with
      | true =>
       have hox:wrap64 (k - x.other)=ox:=hox;have hT2:=HT.out;subst hnx hox;clear HT
       go_wp2_with (first|((with_reducible refine gL ?_);refine zAM wtd_ _ _ rfl rfl zAg rfl (H.rowCell (i:=1) i_1 (zAX _) HZL.out HXR.out rfl) ?_)|((with_reducible refine gT ?_);refine zAb wtd_ _ _ _ rfl rfl evd_ H (i:=3) i_3 rfl (by show 5<9;omega) (by with_reducible exact zAH zAI) ?_;clear H;intro w H;(rw[zEq]at H);try simp only[nr]at H)|((with_reducible refine gT ?_);refine zAb wtd_ _ _ _ rfl rfl evd_ H (i:=3) i_3 rfl (by show 6<9;omega) (by with_reducible exact zAH zAI) ?_;clear H;intro w H;(rw[zEm]at H);try simp only[nr]at H)|((with_reducible refine gBS ?_);refine zAY wtd_ _ _ _ rfl H (zAL ({x with next:=x.next,other:=wrap64 ((k:Int) - x.other)})) 47 (by intro W;simp only[ml];(try simp only[pe]);exact zDw _ W) ?_;clear H;intro bk w H;try simp only[nr]at H)|(at_builtin;refine zAk rfl _ _ 32 rfl H (i:=2) (j:=4) evd_ rfl i_2 i_4 Tryz.underlying32 hi0 hz0 hz1 hz2 rfl (by decide) rfl rfl (by unfold maxLen;omega) (by omega) ?_;clear H;intro v2 w H;(try simp only[nr]at H);(obtain⟨q9,c9,rfl,_,_,_⟩:=H.rowShape (i:=2) i_2))|(first|((with_reducible refine gTi ?_);refine aTi H ?_;clear H;intro w H;try simp only[nr]at H)|((with_reducible refine gLi ?_);refine aLi H ?_)|((with_reducible refine gL ?_);refine aGi H ?_)|((with_reducible refine gL ?_);refine aG H ?_)|((with_reducible refine gA ?_);(refine bA H ?_;clear H;intro b w H;try simp only[nr]at H)))|((with_reducible refine ch (hha _) H ?_);clear H;intro w H))
       rw[zDy,← hT2,← ET.out,show k - q+1=k+1 - q by omega]at H
       go_roundw
       case rel=>exact⟨q,_,q9,c9,by omega,rfl,by rw[show k+1 - q=k - q+1 by omega],by go_num,by rw[show k+1 - q=k - q+1 by omega]at H ⊢;exact H.pick [0,1,2] _ (by decide) rfl⟩
       case measure=>simp[intOf]<;>omega
      | false =>
       have hox:x.other=ox:=hox;have hT2:=HT.out;subst hnx hox;clear HT
       go_wp2_with (first|((with_reducible refine gL ?_);refine zAM wtd_ _ _ rfl rfl zAg rfl (H.rowCell (i:=1) i_1 (zAX _) HZL.out HXR.out rfl) ?_)|((with_reducible refine gT ?_);refine zAb wtd_ _ _ _ rfl rfl evd_ H (i:=3) i_3 rfl (by show 5<9;omega) (by with_reducible exact zAH zAI) ?_;clear H;intro w H;(rw[zEq]at H);try simp only[nr]at H)|((with_reducible refine gT ?_);refine zAb wtd_ _ _ _ rfl rfl evd_ H (i:=3) i_3 rfl (by show 6<9;omega) (by with_reducible exact zAH zAI) ?_;clear H;intro w H;(rw[zEm]at H);try simp only[nr]at H)|((with_reducible refine gBS ?_);refine zAY wtd_ _ _ _ rfl H (zAL (x)) 47 (by intro W;simp only[ml];(try simp only[pe]);exact zDw _ W) ?_;clear H;intro bk w H;try simp only[nr]at H)|(at_builtin;refine zAk rfl _ _ 32 rfl H (i:=2) (j:=4) evd_ rfl i_2 i_4 Tryz.underlying32 hi0 hz0 hz1 hz2 rfl (by decide) rfl rfl (by unfold maxLen;omega) (by omega) ?_;clear H;intro v2 w H;(try simp only[nr]at H);(obtain⟨q9,c9,rfl,_,_,_⟩:=H.rowShape (i:=2) i_2))|(first|((with_reducible refine gTi ?_);refine aTi H ?_;clear H;intro w H;try simp only[nr]at H)|((with_reducible refine gLi ?_);refine aLi H ?_)|((with_reducible refine gL ?_);refine aGi H ?_)|((with_reducible refine gL ?_);refine aG H ?_)|((with_reducible refine gA ?_);(refine bA H ?_;clear H;intro b w H;try simp only[nr]at H)))|((with_reducible refine ch (hha _) H ?_);clear H;intro w H))
       have hT2:zFF k x=x:=hT2;rw[zDy,← hT2,← ET.out,show k - q+1=k+1 - q by omega]at H
       go_roundw
       case rel=>exact⟨q,_,q9,c9,by omega,rfl,by rw[show k+1 - q=k - q+1 by omega],by go_num,by rw[show k+1 - q=k - q+1 by omega]at H ⊢;exact H.pick [0,1,2] _ (by decide) rfl⟩
       case measure=>simp[intOf]<;>omega
end
end Go.Proofs.YtalggmbdpmdcbaaGreat
