/-
  Laws of walks, and walks.
-/
import Derived.Test.YtphjgfjbiimkjaaGreatEc8
import Derived.Test.YtphjgfjbiimkjaaGreatEc9
import Derived.Test.YtphjgfjbiimkjaaGreatEc4
import Derived.RangeFuncLeaves
import Derived.Deep.Onto
set_option linter.unusedVariables false
set_option linter.unusedSimpArgs false
set_option maxRecDepth 100000
set_option maxHeartbeats 16000000
namespace Go.Proofs.YtphjgfjbiimkjaaGreat
section
open Go.RowKit Go.Shelf
attribute [local go_sem] Oper.semAt_some
theorem zBV:oneB Tryz.prog 189=true:=by kernel_rfl
def memL (mb:Nat) (lv:Value) (gm mc:Nat) (pp:Option Addr) (cp:Nat) (ps:List InstD) (psl:Option Addr) (csl:Nat) (L:Str) (Fp Fs:Nat->Prop) (nq:Option Addr) (nc:Nat) (ys us:List WV) (marks:List Int):List Res :=
 [.blk mb #[lv,.slice (some ⟨gm,0,none⟩) ps.length mc,.slice pp ps.length cp,.slice psl L.length csl,.slice nq ys.length nc] 194,.row (.slice (some ⟨gm,0,none⟩) ps.length mc) 3 1 ps.length (marks.map (.int .i64)),.row (.slice nq ys.length nc) 197 2 ys.length (zAW (ys.map wayC)),
  .kn Fp (InstsR Fp pp cp ps),.kn Fs (BytesR Fs psl csl L),.kn (FW us) (WK us)]
def itL (mb bA bS bM bI:Nat) (e:WV) (i:Nat) (rF:Nat->Prop) (rS:World->Prop):List Res :=
 [.blk bM #[.pointer (some ⟨mb,0,none⟩)] 189,.blk bA #[.int .i64 e.1] 3,.blk bI #[.int .i64 i] 3,.blk bS #[.slice e.2.2.1 e.2.1.length e.2.2.2] 55,.kn rF rS]
def zP8 (mb:Nat) (lv:Value) (gm mc:Nat) (pp:Option Addr) (cp:Nat) (ps:List InstD) (psl:Option Addr) (csl:Nat) (L:Str) (Fp Fs:Nat->Prop) (bA bS bM bI:Nat) (e:WV) (i:Nat) (rF:Nat->Prop) (rS:World->Prop) (ms:Nat) (w0:World) (ys0 us0:List WV) (m0:List Int) (W:World):Prop :=
 ∃ nq nc ys us marks n,ItInv ps L i (plW e) m0 ys0 ms [] ys us marks n/\(∀ b,FW us b->FW us0 b\/bM<b)/\Hold w0 W (memL mb lv gm mc pp cp ps psl csl L Fp Fs nq nc ys us marks++itL mb bA bS bM bI e i rF rS)
theorem zNT (n:Nat):((n+1:Nat):Int) - 1=(n:Int):=by omega
theorem zQF (n:Nat):(-9223372036854775808:Int)<=(n:Int):=by omega
theorem zPy {n:Nat} (h:n<=1000000):(n:Int)<=9223372036854775807:=by omega
theorem zM4 (n:Nat):(-9223372036854775808:Int)<=(n:Int)+1:=by omega
theorem zMx {n:Nat} (h:n<=1000):(n:Int)+1<=9223372036854775807:=by omega
theorem zK4 (xs:List WV) (y:WV):(zAW ((xs++[y]).map wayC)).take (xs.length * 2)=zAW (xs.map wayC):=by
 rw[← zCJ,List.take_left'];rw[zDh (sz:=2) (zDm _),List.length_map]
theorem zEM {n m:Nat} (h:n<=1000000) (hm:m<=2):n+m<=maxLen:=by unfold maxLen;omega
theorem zDR {n m:Nat} (h:n<=1000000) (hm:m<=2):(n+m) * 32<=140737488355328:=by omega
theorem zPI {us:List WV} {V:World} (h:WK us V) {e1:WV} (he:∃ u ∈ us,e1.2=u.2):IntsR (FW us) e1.2.2.1 e1.2.2.2 e1.2.1 V:=by
 obtain⟨u,hu,e⟩:=he;rw[e];exact h.ints hu
theorem zNO {ps:List InstD} {L:Str} {i:Nat} {e0:Way} {m0:List Int} {ys0:List WV} {ms:Nat} {td ys us:List WV} {marks:List Int} {n:Nat} {e:WV} {x:InstD} (I:ItInv ps L i e0 m0 ys0 ms (td++[e]) ys us marks n) (hx:ps[e.1]?=some x) (hms:zBY ps=ms) (h2:ms<=42):e.2.1.length<=1000000/\x.slot.toNat<e.2.1.length:=by
 obtain⟨u,hu,he⟩:=I.known.2;have h1:=I.size u hu;have h3:=zLr hx;rw[he];omega
theorem zJv {B:Nat} {b1 b2 b3 b4 b7 b8:Nat} {c1 c2 c3 c4 c7 c8:Array Value} {t1 t2 t3 t4 t7 t8 t5:TypeId} {v:Value} {z n:Nat} {xs:List Value} :
  ∀ r ∈ [Res.blk b1 c1 t1,.blk b2 c2 t2,.blk b3 c3 t3,.blk b4 c4 t4,.row v t5 z n xs,.blk b7 c7 t7,.blk b8 c8 t8],zD1 B r:=by
 intro r hr;simp only[List.mem_cons,List.not_mem_nil,or_false]at hr;rcases hr with rfl|rfl|rfl|rfl|rfl|rfl|rfl<;>trivial
theorem zLK {n0:Nat} {w w':World} {xs:List Int} {e:Ending} {D:Prop} (hn:n0<=w.heap.size) (hD:¬ D) (h:zQG w xs e w'/\Below w.heap.size w w'):∃ v,e=.returned v/\Below w.heap.size w w'/\(zKT n0 xs v w'/\(D->w.heap.size<=blk v)):=by
 obtain⟨⟨q,c,F,e1,h1,h2⟩,hb⟩:=h;exact⟨_,e1,hb,⟨q,c,F,rfl,h1,fun b hb'=>⟨(h2 b hb').1,Nat.le_trans hn (h2 b hb').2⟩⟩,fun h=>(hD h).elim⟩
theorem zG5 {P:Nat->Prop} (h:∃ n,P n):∃ n,P n/\∀ m,P m->n<=m:=by
 obtain⟨n,hn⟩:=h
 induction n using Nat.strongRecOn with
 | _ n ih =>
  by_cases hc:∃ m,m<n/\P m
  ·obtain⟨m,hm,hp⟩:=hc;exact ih m hm hp
  ·exact⟨n,hn,fun m hm=>Classical.byContradiction fun hlt=>hc ⟨m,by omega,hm⟩⟩
open Classical in
noncomputable def leastN (P:Nat->Prop):Nat:=if h:∃ n,P n then (zG5 h).choose else 0
theorem zJS {P:Nat->Prop} (h:∃ n,P n):P (leastN P):=by unfold leastN;rw[dif_pos h];exact(zG5 h).choose_spec.1
theorem zM8 {P:Nat->Prop} {n:Nat} (h:P n):leastN P<=n:=by unfold leastN;rw[dif_pos ⟨n,h⟩];exact(zG5 ⟨n,h⟩).choose_spec.2 n h
def ItR (mb:Nat) (lv:Value) (gm mc:Nat) (pp:Option Addr) (cp:Nat) (ps:List InstD) (psl:Option Addr) (csl:Nat) (L:Str) (Fp Fs:Nat->Prop) (bA bS bM bI:Nat) (e:WV) (i:Nat) (rF:Nat->Prop) (rS:World->Prop) (ms:Nat) (w0:World) (ys0 us0:List WV) (m0:List Int) (B:World->Prop) (n:Nat) (ix:Value) (wr:World):Prop :=
 ∃ (td ys us:List WV) (marks:List Int) (nq tq:Option Addr) (nc tc:Nat) (nF:Nat->Prop) (nS:World->Prop),ix=.slice tq td.length tc/\Hid (ItInv ps L i (plW e) m0 ys0 ms td ys us marks n)/\Hid (∀ b,FW us b->FW us0 b\/bM<b)/\Hid (∀ V,nS V->B V) /\
   Hold w0 wr (memL mb lv gm mc pp cp ps psl csl L Fp Fs nq nc ys us marks++itL mb bA bS bM bI e i rF rS++[.row (.slice tq td.length tc) 197 2 td.length (zAW (td.map wayC)),.kn nF nS])
theorem HoldG.ncB {M:Nat->Prop} {w0 W:World} {l:List Res} (H:HoldG M w0 W l) (hl:∀ r ∈ l,∀ b es c,r≠.mp b es c) {B:World->Prop} {base:Nat} (hB:Hid (∀ W W',KeepsNC base W W'->B W->B W')) (hBW:B W):∃ nF nS,Hid (∀ V,nS V->B V)/\HoldG M w0 W (l++[.kn nF nS]) :=
 ⟨_,_,Lib.hid (fun V hV=>hB.out _ _ (ncS.keeps hV) hBW),H.knowNC hl base⟩
theorem zLd (mb:Nat) (lv:Value) (gm mc:Nat) (pp:Option Addr) (cp:Nat) (ps:List InstD) (psl:Option Addr) (csl:Nat) (L:Str) (Fp Fs:Nat->Prop) (bA bS bM bI:Nat) (e:WV) (i:Nat) (rF:Nat->Prop) (rS:World->Prop) (ms:Nat) (w0:World) (ys0 us0:List WV) (m0:List Int) (k:Nat)
  (hR:zAq ps=true) (hset:∀ x ∈ ps,zAb x.set) (hL:L.length<=1000) (hn4:ps.length<=4000) (hi:i<=L.length) (hms:zBY ps=ms) (hms2:ms<=42) (l:Nat) (B:World->Prop) (base:Nat) (hB:∀ W W',KeepsNC base W W'->B W->B W')
  (hw0:w0.heap.size<=base)
  (hY:∀ nq nc ys us marks (x:WV) (ext:List Res) W1,(∃ u ∈ us,x.2=u.2)->(∀ r ∈ ext,zD1 base r)->ys.length<ps.length->Hold w0 W1 (memL mb lv gm mc pp cp ps psl csl L Fp Fs nq nc ys us marks++.kn rF rS::ext)->B W1->YieldAt Fence.wide k Tryz.prog l #[.agg (wayC x)] W1 fun e W'=>e=.returned (.bool true)/\(∃ nq' nc',Hold w0 W' (memL mb lv gm mc pp cp ps psl csl L Fp Fs nq' nc' (ys++[x]) us marks++.kn rF rS::ext))/\B W')
  (W:World) (nq:Option Addr) (nc:Nat) (I0:ItInv ps L i (plW e) m0 ys0 ms [e] ys0 us0 m0 (zBv ps)) (H:Hold w0 W (memL mb lv gm mc pp cp ps psl csl L Fp Fs nq nc ys0 us0 m0++itL mb bA bS bM bI e i rF rS)) (hB0:B W) :
  CallsIn Fence.wide (k+1) Tryz.prog 168 #[.func (.yield l) #[] #[],.pointer (some ⟨bA,0,none⟩),.pointer (some ⟨bS,0,none⟩),.pointer (some ⟨bM,0,none⟩),.pointer (some ⟨bI,0,none⟩)] W fun r W'=>B W'/\(∃ v,r=.returned v) /\
   zP8 mb lv gm mc pp cp ps psl csl L Fp Fs bA bS bM bI e i rF rS ms w0 ys0 us0 m0 W':=by
 have HY:=Lib.hid hY;clear hY;have HB:=Lib.hid hB;clear hB;have HI:=Lib.hid I0;clear I0;obtain⟨iw,hiw,hi0,hi1,hi2⟩:=info_parts zFl;refine callsIn_of_wp Tryz.func168 rfl trivial ?_ rfl;simp only[Tryz.ntmps168,List.size_toArray,List.length_cons,List.length_nil,Nat.reduceAdd,Nat.reduceSub,Array.replicate_succ,Array.replicate_zero,List.push_toArray,List.append_toArray,List.nil_append,List.cons_append]
 rw[wpIn_wide];obtain⟨nF,nS,HN,H2⟩:=H.ncB (by intro r hr b es c e;subst e;simp[memL,itL]at hr) HB hB0
 clear H hB0;have H:=H2;clear H2;simp only[memL,itL,List.cons_append,List.nil_append]at H
 go_step3
 go_wp2_with (first|((with_reducible refine gBd ?_);refine bWay ?_)|((with_reducible refine gBS ?_);refine zAQ wtd_ _ _ _ rfl H (wayC e) 197 (by intro W;simp only[ml];(try simp only[pe]);exact zEV e W) ?_;clear H;intro bt w H;try simp only[ca]at H)|((with_reducible refine gL ?_);refine aG H ?_))
 go_step3
 have H2:=H.blkRowN (n:=1) (sz:=2) (i:=12) i_12 (fun h=>h) rfl (by unfold maxLen;omega)
 clear H;have H:=H2.pick [0,1,2,3,4,5,6,7,8,9,10,12,11] (memL mb lv gm mc pp cp ps psl csl L Fp Fs nq nc ys0 us0 m0++itL mb bA bS bM bI e i rF rS++[.row (.slice (some ⟨bt,0,none⟩) [e].length 1) 197 2 [e].length (zAW ([e].map wayC)),.kn nF nS]) (by decide) (by simp only[memL,itL,List.cons_append,List.nil_append];rfl)
 clear H2
 go_wp2_with fail
 obtain⟨R,hR0⟩:∃ R,ItR mb lv gm mc pp cp ps psl csl L Fp Fs bA bS bM bI e i rF rS ms w0 ys0 us0 m0 B=R:=⟨_,rfl⟩;have HR:=Lib.hid hR0;clear hR0
 go_loopw [6] (fun ix wr=>∃ n,Hid (R n ix wr)) (fun ix wr=>leastN (fun n=>Hid (R n ix wr)))
 case atStart =>
  refine⟨zBv ps,Lib.hid ?_⟩
  rw[← HR.out];exact⟨[e],ys0,us0,m0,nq,some ⟨bt,0,none⟩,nc,1,nF,nS,rfl,HI,Lib.hid (fun b h=>.inl h),HN,H⟩
 case round =>
  clear H HN HI nF nS;obtain⟨n,hn⟩:∃ n,leastN (fun n=>Hid (R n u6 wr))=n:=⟨_,rfl⟩
  have hrn:=zJS hrel;rw[hn]at hrn;have HNN:=Lib.hid hn;clear hrel hn;have hrn:=hrn.out;rw[← HR.out]at hrn;obtain⟨td,ys,us,marks,nq,tq,nc,tc,nF,nS,rfl,HI,HO,HN,H⟩:=hrn;have fin:∀ (td':List WV) (w':World) (nq' tq':Option Addr) (nc' tc':Nat) (ys' us':List WV) (marks':List Int) (nF':Nat->Prop) (nS':World->Prop) (m:Nat),td'.length=m->ItInv ps L i (plW e) m0 ys0 ms td' ys' us' marks' (n - 1)->n≠0->Hid (∀ b,FW us' b->FW us0 b\/bM<b)->Hid (∀ V,nS' V->B V)->Hold w0 w' (memL mb lv gm mc pp cp ps psl csl L Fp Fs nq' nc' ys' us' marks'++itL mb bA bS bM bI e i rF rS++[.row (.slice tq' m tc') 197 2 m (zAW (td'.map wayC)),.kn nF' nS']) ->
    (∃ n,Hid (R n (.slice tq' m tc') w'))/\leastN (fun n=>Hid (R n (.slice tq' m tc') w'))<leastN (fun n=>Hid (R n (.slice tq td.length tc) wr)):=by
   intro td' w' nq' tq' nc' tc' ys' us' marks' nF' nS' m hm hI hn0 hO hN hH;subst hm;have hr:R (n - 1) (.slice tq' td'.length tc') w':=by rw[← HR.out];exact⟨td',ys',us',marks',nq',tq',nc',tc',nF',nS',rfl,Lib.hid hI,hO,hN,hH⟩
   refine⟨⟨_,Lib.hid hr⟩,?_⟩
   have:=zM8 (P:=fun n=>Hid (R n (.slice tq' td'.length tc') w')) (Lib.hid hr)
   have h2:=HNN.out;omega
  have FIN:=Lib.hid fin;clear fin HNN;simp only[memL,itL,List.cons_append,List.nil_append]at H
  by_cases h0:0<td.length
  ·obtain⟨td',e1,rfl⟩:∃ td' e1,td=td'++[e1]:=⟨td.dropLast,td.getLast (by intro h;subst h;simp at h0),(List.dropLast_concat_getLast _).symm⟩
   obtain⟨tn,htn⟩:∃ tn,td'.length=tn:=⟨_,rfl⟩;have hl:(td'++[e1]).length=tn+1:=by rw[List.length_append,htn];rfl
   have htop:tn<=1000000:=by have h1:=HI.out.fuel;have h2:=HI.out.top;unfold zBv at h2;rw[hl]at h1;omega
   have hsub:((tn+1:Nat):Int) - 1=(tn:Int):=zNT tn;have hsb1:=zQF tn;have hsb2:=zPy htop;have HN0:=Lib.hid (show n≠0 by have:=HI.out.fuel;omega)
   have HK:=Lib.hid HI.out.known;have HIL:=Lib.hid (show i<=1000 by omega)
   have HC:=Lib.hid (show (zAW ((td'++[e1]).map wayC)).take (tn * 2)=zAW (td'.map wayC) by rw[← htn];exact zK4 td' e1)
   have HL:=Lib.hid (show ((td'++[e1]).map wayC).length=tn+1 by rw[List.length_map];exact hl)
   have HX:=Lib.hid (show ((td'++[e1]).map wayC)[tn]?=some (wayC e1) by rw[List.map_append,List.getElem?_append_right (by simp;omega)];simp[htn])
   rw[hl]at H FIN ⊢;have d1:decide ((0:Int)<((tn+1:Nat):Int))=true:=decide_eq_true (Int.natCast_pos.2 (Nat.succ_pos tn));have d2:decide ((0:Int)<(tn:Int)+1)=true:=decide_eq_true (Int.lt_add_one_of_le (Int.natCast_nonneg tn));obtain⟨q2,c2,e2,hc1,hc2,hq2⟩:=H.rowShape (i:=11) i_11;simp only[Value.slice.injEq]at e2;obtain⟨rfl,_,rfl⟩:=e2;obtain⟨gt,rfl⟩:=hq2 (Nat.succ_pos tn);have HTN:=Lib.hid htn;clear hl h0
   go_upto_region 2 with (first|fail)
   refine zB1 7 [fun v _=>v=.slice (some ⟨gt,0,none⟩) (tn+1) tc,fun v _=>v=.slice (some ⟨gt,0,none⟩) (tn+1) tc,fun v _=>v=.int .i64 ((tn+1:Nat):Int),fun v _=>v=.int .i64 (tn:Nat),fun v _=>v=.pointer (some ⟨gt,tn * 2,none⟩),fun v _=>v=.agg (wayC e1),zF4 wr.heap.size #[.int .i64 0,.slice none 0 0] 197] (fun _=>false) (by kernel_rfl) (by kernel_rfl) (by repeat (first|exact trivial|refine⟨zAI _,?_⟩|refine⟨zCl _ _ _,?_⟩)) (fun _ _ h=>by cases h) ?ob ?en
   case ob =>
    refine⟨?_,?_,?_,?_,?_,?_,?_,trivial⟩<;>intro A W h
    ·exact zAB rfl rfl (h.f 6)
    ·exact zAB rfl rfl (h.f 6)
    ·exact zBB Tryz.underlying190 rfl rfl (h.d 1 17)
    ·exact zAA rfl (zHl rfl (h.d 2 18) rfl hsub hsb1 hsb2) (by decide)
    ·exact zAU (sz:=2) Tryz.underlying190 (fun w=>by kernel_rfl) rfl rfl (h.d 0 16) (h.d 3 19) (Nat.lt_succ_self _) (Nat.zero_add _) (by decide)
    ·exact zAA rfl (zAk rfl (h.d 4 20) zEC (zC2 e1) ((H.call h.below).rowCell (i:=11) i_11 (zDm _) HL.out HX.out rfl)) (by decide)
    ·exact zFc rfl rfl (by kernel_rfl) zWay h.below.size (by decide)
   case en =>
    intro vals W hbw hv _;have x6:=hv 6 (by omega);simp only[zAO]at x6
    simp only[fa,Nat.reduceAdd];rw[e_ hv 0,e_ hv 1,e_ hv 2,e_ hv 3,e_ hv 4,e_ hv 5];clear hv
    try simp only[pl]
    try simp only[pl]
    obtain⟨b7,e7,H8⟩:=H.gainB hbw x6;rw[e7];clear x6 e7 H hbw;have H:=H8;clear H8;simp only[ca]at H
    go_upto_region 3 with (first|((with_reducible refine gTw ?_);refine aTw H ?_;clear H;intro w H;simp only[sc]at H))
    refine ws_ 5 [fun v _=>v=.slice (some ⟨gt,0,none⟩) (tn+1) tc,fun v _=>v=.slice (some ⟨gt,0,none⟩) (tn+1) tc,fun v _=>v=.int .i64 ((tn+1:Nat):Int),fun v _=>v=.int .i64 (tn:Nat),fun v _=>v=.slice (some ⟨gt,0,none⟩) tn tc] ?ob ?en
    case ob =>
     refine⟨?_,?_,?_,?_,?_,trivial⟩<;>intro A W h
     ·exact zAB rfl rfl (h.f 6)
     ·exact zAB rfl rfl (h.f 6)
     ·exact zBB Tryz.underlying190 rfl rfl (h.d 1 23)
     ·exact zAA rfl (zHl rfl (h.d 2 24) rfl hsub hsb1 hsb2) (by decide)
     ·exact zAA rfl (zHD (T:=190) (sz:=2) (by kernel_rfl) (fun w=>by kernel_rfl) rfl (h.d 0 22) (h.d 3 25) (Nat.le_of_succ_le hc1)) (by decide)
    case en =>
     intro vals W hbw hv _;simp only[fa,Nat.reduceAdd];rw[e_ hv 0,e_ hv 1,e_ hv 2,e_ hv 3,e_ hv 4];clear hv
     try simp only[pl]
     replace H:=H.call hbw;clear hbw;have H2:=H.cutRow (i:=11) (m:=tn) i_11 (Nat.le_succ tn);rw[HC.out]at H2;clear H;have H:=H2;clear H2;simp only[sc]at H
     go_upto_region 4 with fail
     obtain⟨mv,hmv⟩:∃ mv,marks[e1.1]?=some mv:=⟨_,List.getElem?_eq_getElem (by rw[HI.out.len];exact HK.out.1)⟩
     have HMV:=Lib.hid (show (marks.map (Value.int .i64))[e1.1]?=some (.int .i64 mv) by rw[List.getElem?_map,hmv];rfl)
     have HMD:=Lib.hid (show marks.getD e1.1 0=mv by rw[List.getD_eq_getElem?_getD,hmv];rfl)
     clear hmv;obtain⟨bv,hbv⟩:∃ bv,(mv == (i:Int)+1)=bv:=⟨_,rfl⟩;refine wr_ 12 [fun v _=>v=pt mb 0,fun v _=>v=pt mb 0,fun v _=>v=pt mb 0,fun v _=>v=pt mb 1,fun v _=>v=.slice (some ⟨gm,0,none⟩) ps.length mc,fun v _=>v=pt b7 0,fun v _=>v=.int .i64 (e1.1:Nat),fun v _=>v=.pointer (some ⟨gm,e1.1,none⟩),fun v _=>v=.int .i64 mv,fun v _=>v=.int .i64 (i:Nat),fun v _=>v=.int .i64 ((i:Int)+1),fun v _=>v=.bool bv] ?ob ?en
     case ob =>
      refine⟨?_,?_,?_,?_,?_,?_,?_,?_,?_,?_,?_,?_,trivial⟩<;>intro A W h
      ·exact zAA rfl (zAC rfl (h.f 3) zBV ((H.call h.below).cell (i:=6) i_6 0)) (by decide)
      ·(have e27:A.eval (.tmp 27)=.pointer (some ⟨mb,0,none⟩):=h.d 0 27;refine zAA rfl ?_;simp only[execOp,e27];simp[go_sem])
      ·(have e28:A.eval (.tmp 28)=.pointer (some ⟨mb,0,none⟩):=h.d 1 28;refine zAA rfl ?_;simp only[execOp,e28];simp[go_sem])
      ·(have e29:A.eval (.tmp 29)=.pointer (some ⟨mb,0,none⟩):=h.d 2 29;refine zAA rfl ?_;simp only[execOp,e29];simp[go_sem])
      ·exact zAA rfl (zAC rfl (h.d 3 30) zAv ((H.call h.below).cell (i:=0) .zero 1)) (by decide)
      ·(have e7:A.eval (.tmp 7)=.pointer (some ⟨b7,0,none⟩):=h.f 7;refine zAA rfl ?_;simp only[execOp,e7];simp[go_sem])
      ·exact zAA rfl (zAC rfl (h.d 5 32) zAF (((H.call h.below).cell (i:=13) i_13 0).trans (yg0 e1))) (by decide)
      ·exact zAU (sz:=1) Tryz.underlying55 (fun w=>by kernel_rfl) rfl rfl (h.d 4 31) (h.d 6 33) HK.out.1 (by rw[Nat.zero_add,Nat.mul_one]) (by decide)
      ·exact zAA rfl (zAC rfl (h.d 7 34) zAF ((H.call h.below).row1 (i:=1) i_1 HMV.out)) (by decide)
      ·exact zAA rfl (zAC rfl (h.f 4) zAF ((H.call h.below).cell (i:=8) i_8 0)) (by decide)
      ·exact zAA rfl (zJq rfl (h.d 9 36) rfl rfl (zM4 i) (zMx HIL.out)) (by decide)
      ·exact zAA rfl (zPG rfl (h.d 8 35) (h.d 10 37) hbv) (by decide)
     case en =>
      intro vals W hbw hv _;simp only[fa,Nat.reduceAdd];rw[e_ hv 0,e_ hv 1,e_ hv 2,e_ hv 3,e_ hv 4,e_ hv 5,e_ hv 6,e_ hv 7,e_ hv 8,e_ hv 9,e_ hv 10,e_ hv 11];clear hv
      try simp only[pl]
      replace H:=H.call hbw;clear hbw
      cases bv with
      | true =>
       have hbv:=beq_iff_eq.1 hbv;clear d1 d2
       go_wp2_with fail
       exact FIN.out td' _ _ _ _ _ _ _ _ _ _ tn htn (HI.out.seen (HMD.out.trans hbv)) HN0.out HO HN (H.take 13)
      | false =>
       have hbv:=beq_eq_false_iff_ne.1 hbv;have HNE:=Lib.hid (show marks.getD e1.1 0≠(i:Int)+1 by rw[HMD.out];exact hbv)
       have HMS:=Lib.hid (show (marks.map (Value.int .i64)).set e1.1 (.int .i64 ((i:Int)+1))=(marks.set e1.1 ((i:Int)+1)).map (.int .i64) by rw[List.map_set])
       have HML:=Lib.hid (show (marks.map (Value.int .i64)).length=ps.length by rw[List.length_map];exact HI.out.len)
       clear hbv d1 d2
       go_upto_region 5 with fail
       refine wr_ 10 [fun v _=>v=pt mb 0,fun v _=>v=pt mb 0,fun v _=>v=pt mb 0,fun v _=>v=pt mb 1,fun v _=>v=.slice (some ⟨gm,0,none⟩) ps.length mc,fun v _=>v=pt b7 0,fun v _=>v=.int .i64 (e1.1:Nat),fun v _=>v=.int .i64 (i:Nat),fun v _=>v=.int .i64 ((i:Int)+1),fun v _=>v=.pointer (some ⟨gm,e1.1,none⟩)] ?ob ?en
       case ob =>
        refine⟨?_,?_,?_,?_,?_,?_,?_,?_,?_,?_,trivial⟩<;>intro A W h
        ·exact zAA rfl (zAC rfl (h.f 3) zBV ((H.call h.below).cell (i:=6) i_6 0)) (by decide)
        ·(have e39:A.eval (.tmp 39)=.pointer (some ⟨mb,0,none⟩):=h.d 0 39;refine zAA rfl ?_;simp only[execOp,e39];simp[go_sem])
        ·(have e40:A.eval (.tmp 40)=.pointer (some ⟨mb,0,none⟩):=h.d 1 40;refine zAA rfl ?_;simp only[execOp,e40];simp[go_sem])
        ·(have e41:A.eval (.tmp 41)=.pointer (some ⟨mb,0,none⟩):=h.d 2 41;refine zAA rfl ?_;simp only[execOp,e41];simp[go_sem])
        ·exact zAA rfl (zAC rfl (h.d 3 42) zAv ((H.call h.below).cell (i:=0) (.zero) 1)) (by decide)
        ·(have e7:A.eval (.tmp 7)=.pointer (some ⟨b7,0,none⟩):=h.f 7;refine zAA rfl ?_;simp only[execOp,e7];simp[go_sem])
        ·exact zAA rfl (zAC rfl (h.d 5 44) zAF (((H.call h.below).cell (i:=13) i_13 0).trans (yg0 e1))) (by decide)
        ·exact zAA rfl (zAC rfl (h.f 4) zAF ((H.call h.below).cell (i:=8) i_8 0)) (by decide)
        ·exact zAA rfl (zJq rfl (h.d 7 46) rfl rfl (zM4 i) (zMx HIL.out)) (by decide)
        ·exact zAU (sz:=1) Tryz.underlying55 (fun w=>by kernel_rfl) rfl rfl (h.d 4 43) (h.d 6 45) HK.out.1 (by rw[Nat.zero_add,Nat.mul_one]) (by decide)
       case en =>
        intro vals W hbw hv _;simp only[fa,Nat.reduceAdd];rw[e_ hv 0,e_ hv 1,e_ hv 2,e_ hv 3,e_ hv 4,e_ hv 5,e_ hv 6,e_ hv 7,e_ hv 8,e_ hv 9];clear hv
        try simp only[pl]
        replace H:=H.call hbw;clear hbw
        go_upto_region 6 with (first|((with_reducible refine gT ?_);refine zB6 wtd_ _ _ _ rfl rfl (v:=.int .i64 ((i:Int)+1)) evd_ H (j:=1) i_1 HML.out (zAD zAF) rfl HK.out.1 ?_;clear H;intro w H;simp only[sc]at H))
        rw[HMS.out]at H;obtain⟨x,hx⟩:∃ x,ps[e1.1]?=some x:=⟨_,List.getElem?_eq_getElem HK.out.1⟩;have HX2:=Lib.hid hx;have HRI:=Lib.hid (zF8 hR hx);obtain⟨bp,op,hpp⟩:=(H.kn (i:=3) i_3).at (Nat.lt_of_le_of_lt (Nat.zero_le _) HK.out.1);subst hpp;have HCE:=Lib.hid (fun V (h:InstsR Fp (some ⟨bp,op,none⟩) cp ps V)=>(h.cells hx rfl:∀ q,q<9->V.cell? ⟨bp,op+e1.1 * 9+q,none⟩=(zAf x)[q]?))
        clear hx;refine zAd 9 [fun v _=>v=pt mb 0,fun v _=>v=pt mb 0,fun v _=>v=pt mb 2,fun v _=>v=.slice (some ⟨bp,op,none⟩) ps.length cp,fun v _=>v=pt b7 0,fun v _=>v=.int .i64 (e1.1:Nat),fun v _=>v=.pointer (some ⟨bp,op+e1.1 * 9,none⟩),fun v _=>v=zA8 x,zF4 w.heap.size (zAf {kind:=0}) 33] (fun _=>false) (by kernel_rfl) (by kernel_rfl) (by kernel_rfl) (by repeat (first|exact trivial|refine⟨zAI _,?_⟩|refine⟨zCl _ _ _,?_⟩)) (fun _ _ h=>by cases h) ?ob ?en
        case ob =>
         refine⟨?_,?_,?_,?_,?_,?_,?_,?_,?_,trivial⟩<;>intro A W h
         ·exact zAA rfl (zAC rfl (h.f 3) zBV ((H.call h.below).cell (i:=6) i_6 0)) (by decide)
         ·(have e49:A.eval (.tmp 49)=.pointer (some ⟨mb,0,none⟩):=h.d 0 49;refine zAA rfl ?_;simp only[execOp,e49];simp[go_sem])
         ·(have e50:A.eval (.tmp 50)=.pointer (some ⟨mb,0,none⟩):=h.d 1 50;refine zAA rfl ?_;simp only[execOp,e50];simp[go_sem])
         ·exact zAA rfl (zAC rfl (h.d 2 51) zCI ((H.call h.below).cell (i:=0) (.zero) 2)) (by decide)
         ·(have e7:A.eval (.tmp 7)=.pointer (some ⟨b7,0,none⟩):=h.f 7;refine zAA rfl ?_;simp only[execOp,e7];simp[go_sem])
         ·exact zAA rfl (zAC rfl (h.d 4 53) zAF (((H.call h.below).cell (i:=13) i_13 0).trans (yg0 e1))) (by decide)
         ·exact zAU (sz:=9) Tryz.underlying23 (fun w=>by kernel_rfl) rfl rfl (h.d 3 52) (h.d 5 54) HK.out.1 rfl (by decide)
         ·exact zAA rfl (zAk rfl (h.d 6 55) zAp rfl (HCE.out _ ((H.call h.below).kn (i:=3) i_3))) (by decide)
         ·exact zFc rfl rfl (by kernel_rfl) zHL h.below.size (by decide)
        case en =>
         intro vals W hbw hv _;have x8:=hv 8 (by omega);simp only[zAO]at x8
         simp only[fa,Nat.reduceAdd];rw[e_ hv 0,e_ hv 1,e_ hv 2,e_ hv 3,e_ hv 4,e_ hv 5,e_ hv 6,e_ hv 7];clear hv
         try simp only[pl]
         try simp only[pl]
         obtain⟨b8,e8,H8⟩:=H.gainB hbw x8;rw[e8];clear x8 e8 H hbw;have H:=H8;clear H8;simp only[ca]at H
         go_upto_region 8 with (first|(first|((with_reducible refine gTi ?_);refine aTi H ?_;clear H;intro w H;try simp only[nr]at H)|((with_reducible refine gL ?_);refine aGi H ?_)))
         have hnx:=fun h=>zCU HRI.out h
         have HINT:=Lib.hid (fun V (h:WK us V)=>zPI h HK.out.2)
         by_cases k2:x.kind=2
         ·have hot:=zGK HRI.out k2;have hnx:=hnx (.inr (.inl k2));have d2:(x.kind == 2)=true:=by rw[beq_iff_eq];exact k2
          have k2':=Lib.hid k2;clear k2;have k2:=k2';clear k2'
          go_upto_region 9 with fail
          refine ws_ 11 [fun v _=>v=.slice (some ⟨gt,0,none⟩) tn tc,fun v _=>v=pt b8 6,fun v _=>v=.int .i64 x.other,fun v _=>v=pt b7 1,fun v _=>v=.slice e1.2.2.1 e1.2.1.length e1.2.2.2,fun v _=>v=.agg (wayC (x.other.toNat,e1.2)),fun v _=>v=pt b8 5,fun v _=>v=.int .i64 x.next,fun v _=>v=pt b7 1,fun v _=>v=.slice e1.2.2.1 e1.2.1.length e1.2.2.2,fun v _=>v=.agg (wayC (x.next.toNat,e1.2))] ?ob ?en
          case ob =>
           refine⟨?_,?_,?_,?_,?_,?_,?_,?_,?_,?_,?_,trivial⟩<;>intro A W h
           ·exact zAB rfl rfl (h.f 6)
           ·(have e8:A.eval (.tmp 8)=.pointer (some ⟨b8,0,none⟩):=h.f 8;refine zAA rfl ?_;simp only[execOp,e8];simp[go_sem])
           ·exact zAA rfl (zAC rfl (h.d 1 62) zAF (((H.call h.below).cell (i:=14) i_14 6).trans (ig6 x))) (by decide)
           ·(have e7:A.eval (.tmp 7)=.pointer (some ⟨b7,0,none⟩):=h.f 7;refine zAA rfl ?_;simp only[execOp,e7];simp[go_sem])
           ·exact zAA rfl (zAC rfl (h.d 3 64) zAv (((H.call h.below).cell (i:=13) i_13 1).trans (yg1 e1))) (by decide)
           ·exact zAA rfl (zEL rfl (h.d 2 63) (h.d 4 65) hot.1) (by decide)
           ·(have e8:A.eval (.tmp 8)=.pointer (some ⟨b8,0,none⟩):=h.f 8;refine zAA rfl ?_;simp only[execOp,e8];simp[go_sem])
           ·exact zAA rfl (zAC rfl (h.d 6 67) zAF (((H.call h.below).cell (i:=14) i_14 5).trans (ig5 x))) (by decide)
           ·(have e7:A.eval (.tmp 7)=.pointer (some ⟨b7,0,none⟩):=h.f 7;refine zAA rfl ?_;simp only[execOp,e7];simp[go_sem])
           ·exact zAA rfl (zAC rfl (h.d 8 69) zAv (((H.call h.below).cell (i:=13) i_13 1).trans (yg1 e1))) (by decide)
           ·exact zAA rfl (zEL rfl (h.d 7 68) (h.d 9 70) hnx.1) (by decide)
          case en =>
           intro vals W hbw hv _;simp only[fa,Nat.reduceAdd];rw[e_ hv 0,e_ hv 1,e_ hv 2,e_ hv 3,e_ hv 4,e_ hv 5,e_ hv 6,e_ hv 7,e_ hv 8,e_ hv 9,e_ hv 10];clear hv
           try simp only[pl]
           replace H:=H.call hbw;clear hbw
           go_wp2_with (first|((with_reducible refine gBS ?_);refine zAQ wtd_ _ _ _ rfl H (wayC (x.other.toNat,e1.2)++wayC (x.next.toNat,e1.2)) 197 (by intro W;simp only[ml];(try simp only[pe]);exact zL5 _ _ W) ?_;clear H;intro bt2 w H;simp only[ca]at H)|(at_builtin;refine zAx rfl _ _ 190 rfl H (i:=11) (j:=15) evd_ rfl i_11 i_15 Tryz.underlying190 hiw hi0 hi1 hi2 rfl (by decide) rfl rfl (zEM htop (by decide)) (zDR htop (by decide)) ?_;clear H;intro v2 w H;simp only[sc]at H;(obtain⟨q3,c3,rfl,_,_,_⟩:=H.rowShape (i:=11) i_11))|fail)
           rw[zLI]at H;exact FIN.out (td'++[(x.other.toNat,e1.2),(x.next.toNat,e1.2)]) _ _ _ _ _ _ _ _ _ _ (tn+2) (by rw[List.length_append,htn];rfl) (HI.out.split HNE.out HX2.out k2.out hnx hot) HN0.out HO HN (H.take 13)
         ·have d2:(x.kind == 2)=false:=by rw[beq_eq_false_iff_ne];exact k2
          by_cases k3:x.kind=3
          ·have hsl:=zGl HRI.out k3;have hnx:=hnx (.inr (.inr (.inl k3)));have d3:(x.kind == 3)=true:=by rw[beq_iff_eq];exact k3
           have HSZ:=Lib.hid (show e1.2.1.length<=1000000/\x.slot.toNat<e1.2.1.length from zNO HI.out HX2.out hms hms2)
           have k3':=Lib.hid k3;clear k3;have k3:=k3';clear k3'
           go_upto_region 11 with fail
           have hbM:=(Array.getElem?_eq_some_iff.1 (H.blk (i:=6) i_6).2).1;refine zAd 11 [fun v _=>v=.slice (some ⟨gt,0,none⟩) tn tc,fun v _=>v=pt b8 5,fun v _=>v=.int .i64 x.next,fun v _=>v=.int .i64 (i:Nat),fun v _=>v=pt b8 7,fun v _=>v=.int .i64 (x.slot.toNat:Nat),fun v _=>v=pt b7 1,fun v _=>v=.slice e1.2.2.1 e1.2.1.length e1.2.2.2,zKT w.heap.size (e1.2.1.set x.slot.toNat (i:Int)),zJo w.heap.size x.next.toNat (e1.2.1.set x.slot.toNat (i:Int)),zJ6 w.heap.size x.next.toNat (e1.2.1.set x.slot.toNat (i:Int))] (fun _=>false) (by kernel_rfl) (by kernel_rfl) (by kernel_rfl) (by repeat (first|exact trivial|refine⟨zAI _,?_⟩|refine⟨zG7 _ _,?_⟩|refine⟨zHV _ _ _,?_⟩|refine⟨zHc _ _ _,?_⟩)) (fun _ _ h=>by cases h) ?ob ?en
           case ob =>
            refine⟨?_,?_,?_,?_,?_,?_,?_,?_,?_,?_,?_,trivial⟩<;>intro A W h
            ·exact zAB rfl rfl (h.f 6)
            ·(have e8:A.eval (.tmp 8)=.pointer (some ⟨b8,0,none⟩):=h.f 8;refine zAA rfl ?_;simp only[execOp,e8];simp[go_sem])
            ·exact zAA rfl (zAC rfl (h.d 1 77) zAF (((H.call h.below).cell (i:=14) i_14 5).trans (ig5 x))) (by decide)
            ·exact zAA rfl (zAC rfl (h.f 4) zAF ((H.call h.below).cell (i:=8) i_8 0)) (by decide)
            ·(have e8:A.eval (.tmp 8)=.pointer (some ⟨b8,0,none⟩):=h.f 8;refine zAA rfl ?_;simp only[execOp,e8];simp[go_sem])
            ·exact zAA rfl (zAC rfl (h.d 4 80) zAF (((H.call h.below).cell (i:=14) i_14 7).trans ((ig7 x).trans (by rw[Int.toNat_of_nonneg hsl.1])))) (by decide)
            ·(have e7:A.eval (.tmp 7)=.pointer (some ⟨b7,0,none⟩):=h.f 7;refine zAA rfl ?_;simp only[execOp,e7];simp[go_sem])
            ·exact zAA rfl (zAC rfl (h.d 6 82) zAv (((H.call h.below).cell (i:=13) i_13 1).trans (yg1 e1))) (by decide)
            ·exact zH7 rfl rfl (enters_of Tryz.func169 (by kernel_rfl) rfl) (zMz ⟨h.d 3 79,h.d 5 81,h.d 7 83⟩) ((zOj i x.slot.toNat _ _ e1.2.1 (FW us) W HSZ.out.1 HSZ.out.2 ((H.call h.below).knlt (i:=5) i_5) (HINT.out _ ((H.call h.below).kn (i:=5) i_5))).mono (fun e w' hh=>zLK h.below.size (fun h=>by cases h) hh))
            ·exact zMq rfl rfl (h.d 2 78) (h.d 8 84) hnx.1 (by decide)
            ·exact zNJ rfl rfl (h.d 9 85) h.below.size (by decide)
           case en =>
            intro vals W hbw hv _;have x8:=hv 8 (by omega);simp only[zAO]at x8
            have x9:=hv 9 (by omega);simp only[zAO]at x9
            have x10:=hv 10 (by omega);simp only[zAO]at x10
            simp only[fa,Nat.reduceAdd];rw[e_ hv 0,e_ hv 1,e_ hv 2,e_ hv 3,e_ hv 4,e_ hv 5,e_ hv 6,e_ hv 7];clear hv
            try simp only[pl]
            try simp only[pl]
            obtain⟨bk,q2,c2,e10,hus,H8⟩:=H.gainNoted hbw (i:=5) i_5 x10 (by rw[List.length_set];exact Nat.lt_of_le_of_lt (Nat.zero_le _) HSZ.out.2)
            rw[e10];clear x8 x9 x10 e10 H hbw;have H:=H8;clear H8;simp only[List.cons_append,List.nil_append,List.set_cons_succ,List.set_cons_zero]at H
            go_wp2_with (first|(at_builtin;refine zAx rfl _ _ 190 rfl H (i:=11) (j:=15) evd_ rfl i_11 i_15 Tryz.underlying190 hiw hi0 hi1 hi2 rfl (by decide) rfl rfl (zEM htop (by decide)) (zDR htop (by decide)) ?_;clear H;intro v2 w H;simp only[sc]at H;(obtain⟨q3,c3,rfl,_,_,_⟩:=H.rowShape (i:=11) i_11))|fail)
            rw[zCJ]at H;exact FIN.out (td'++[(x.next.toNat,e1.2.1.set x.slot.toNat (i:Int),q2,c2)]) _ _ _ _ _ _ _ _ _ _ (tn+1) (by rw[List.length_append,htn];rfl) (HI.out.save HNE.out HX2.out k3.out hnx q2 c2) HN0.out (Lib.hid (fun b h=>(hus b h).elim (HO.out b) (fun h=>.inr (Nat.lt_of_lt_of_le hbM h)))) HN (H.take 13)
          ·have d3:(x.kind == 3)=false:=by rw[beq_eq_false_iff_ne];exact k3
           by_cases k4:x.kind=4
           ·have hnx:=hnx (.inr (.inr (.inr k4)));have d4:(x.kind == 4)=true:=by rw[beq_iff_eq];exact k4
            have k4':=Lib.hid k4;clear k4;have k4:=k4';clear k4'
            cases hsp:zBz x.spot L i with
            | true =>
             have HSP:=Lib.hid (fun V (h1:∀ b,Fs b->b<V.heap.size) (h2:BytesR Fs psl csl L V)=>(by have:=zMQ psl csl L Fs V h1 h2 x.spot i;rw[hsp]at this;exact this:Calls Tryz.prog 170 #[.int .i64 x.spot,.slice psl L.length csl,.int .i64 i] V fun e w'=>e=.returned (.bool true)/\Below V.heap.size V w'))
             go_upto_region 13 with fail
             refine wr_ 8 [fun v _=>v=pt b8 8,fun v _=>v=.int .i64 x.spot,fun v _=>v=pt mb 0,fun v _=>v=pt mb 0,fun v _=>v=pt mb 3,fun v _=>v=.slice psl L.length csl,fun v _=>v=.int .i64 (i:Nat),fun v _=>v=.bool true] ?ob ?en
             case ob =>
              refine⟨?_,?_,?_,?_,?_,?_,?_,?_,trivial⟩<;>intro A W h
              ·(have e8:A.eval (.tmp 8)=.pointer (some ⟨b8,0,none⟩):=h.f 8;refine zAA rfl ?_;simp only[execOp,e8];simp[go_sem])
              ·exact zAA rfl (zAC rfl (h.d 0 90) zAo (((H.call h.below).cell (i:=14) i_14 8).trans (ig8 x))) (by decide)
              ·exact zAA rfl (zAC rfl (h.f 3) zBV ((H.call h.below).cell (i:=6) i_6 0)) (by decide)
              ·(have e92:A.eval (.tmp 92)=.pointer (some ⟨mb,0,none⟩):=h.d 2 92;refine zAA rfl ?_;simp only[execOp,e92];simp[go_sem])
              ·(have e93:A.eval (.tmp 93)=.pointer (some ⟨mb,0,none⟩):=h.d 3 93;refine zAA rfl ?_;simp only[execOp,e93];simp[go_sem])
              ·exact zAA rfl (zAC rfl (h.d 4 94) zA2 ((H.call h.below).cell (i:=0) (.zero) 3)) (by decide)
              ·exact zAA rfl (zAC rfl (h.f 4) zAF ((H.call h.below).cell (i:=8) i_8 0)) (by decide)
              ·exact zAc rfl rfl (enters_of Tryz.func170 (by kernel_rfl) rfl) (zMz ⟨(h.d 1 91),(h.d 5 95),(h.d 6 96)⟩) (HSP.out W ((H.call h.below).knlt (i:=4) i_4) ((H.call h.below).kn (i:=4) i_4))
             case en =>
              intro vals W hbw hv _;simp only[fa,Nat.reduceAdd];rw[e_ hv 0,e_ hv 1,e_ hv 2,e_ hv 3,e_ hv 4,e_ hv 5,e_ hv 6,e_ hv 7];clear hv
              try simp only[pl]
              try simp only[pl]
              replace H:=H.call hbw;clear hbw
              go_upto_region 14 with fail
              refine ws_ 6 [fun v _=>v=.slice (some ⟨gt,0,none⟩) tn tc,fun v _=>v=pt b8 5,fun v _=>v=.int .i64 x.next,fun v _=>v=pt b7 1,fun v _=>v=.slice e1.2.2.1 e1.2.1.length e1.2.2.2,fun v _=>v=.agg (wayC (x.next.toNat,e1.2))] ?ob ?en
              case ob =>
               refine⟨?_,?_,?_,?_,?_,?_,trivial⟩<;>intro A W h
               ·exact zAB rfl rfl (h.f 6)
               ·(have e8:A.eval (.tmp 8)=.pointer (some ⟨b8,0,none⟩):=h.f 8;refine zAA rfl ?_;simp only[execOp,e8];simp[go_sem])
               ·exact zAA rfl (zAC rfl (h.d 1 99) zAF (((H.call h.below).cell (i:=14) i_14 5).trans (ig5 x))) (by decide)
               ·(have e7:A.eval (.tmp 7)=.pointer (some ⟨b7,0,none⟩):=h.f 7;refine zAA rfl ?_;simp only[execOp,e7];simp[go_sem])
               ·exact zAA rfl (zAC rfl (h.d 3 101) zAv (((H.call h.below).cell (i:=13) i_13 1).trans (yg1 e1))) (by decide)
               ·exact zAA rfl (zEL rfl (h.d 2 100) (h.d 4 102) hnx.1) (by decide)
              case en =>
               intro vals W hbw hv _;simp only[fa,Nat.reduceAdd];rw[e_ hv 0,e_ hv 1,e_ hv 2,e_ hv 3,e_ hv 4,e_ hv 5];clear hv
               try simp only[pl]
               replace H:=H.call hbw;clear hbw
               go_wp2_with (first|((with_reducible refine gBS ?_);refine zAQ wtd_ _ _ _ rfl H (wayC (x.next.toNat,e1.2)) 197 (by intro W;simp only[ml];(try simp only[pe]);exact zEV _ W) ?_;clear H;intro bt2 w H;simp only[ca]at H)|(at_builtin;refine zAx rfl _ _ 190 rfl H (i:=11) (j:=15) evd_ rfl i_11 i_15 Tryz.underlying190 hiw hi0 hi1 hi2 rfl (by decide) rfl rfl (zEM htop (by decide)) (zDR htop (by decide)) ?_;clear H;intro v2 w H;simp only[sc]at H;(obtain⟨q3,c3,rfl,_,_,_⟩:=H.rowShape (i:=11) i_11))|fail)
               rw[zCJ]at H;exact FIN.out (td'++[(x.next.toNat,e1.2)]) _ _ _ _ _ _ _ _ _ _ (tn+1) (by rw[List.length_append,htn];rfl) (HI.out.spotT HNE.out HX2.out k4.out hnx hsp) HN0.out HO HN (H.take 13)
            | false =>
             have HSP:=Lib.hid (fun V (h1:∀ b,Fs b->b<V.heap.size) (h2:BytesR Fs psl csl L V)=>(by have:=zMQ psl csl L Fs V h1 h2 x.spot i;rw[hsp]at this;exact this:Calls Tryz.prog 170 #[.int .i64 x.spot,.slice psl L.length csl,.int .i64 i] V fun e w'=>e=.returned (.bool false)/\Below V.heap.size V w'))
             go_upto_region 13 with fail
             refine wr_ 8 [fun v _=>v=pt b8 8,fun v _=>v=.int .i64 x.spot,fun v _=>v=pt mb 0,fun v _=>v=pt mb 0,fun v _=>v=pt mb 3,fun v _=>v=.slice psl L.length csl,fun v _=>v=.int .i64 (i:Nat),fun v _=>v=.bool false] ?ob ?en
             case ob =>
              refine⟨?_,?_,?_,?_,?_,?_,?_,?_,trivial⟩<;>intro A W h
              ·(have e8:A.eval (.tmp 8)=.pointer (some ⟨b8,0,none⟩):=h.f 8;refine zAA rfl ?_;simp only[execOp,e8];simp[go_sem])
              ·exact zAA rfl (zAC rfl (h.d 0 90) zAo (((H.call h.below).cell (i:=14) i_14 8).trans (ig8 x))) (by decide)
              ·exact zAA rfl (zAC rfl (h.f 3) zBV ((H.call h.below).cell (i:=6) i_6 0)) (by decide)
              ·(have e92:A.eval (.tmp 92)=.pointer (some ⟨mb,0,none⟩):=h.d 2 92;refine zAA rfl ?_;simp only[execOp,e92];simp[go_sem])
              ·(have e93:A.eval (.tmp 93)=.pointer (some ⟨mb,0,none⟩):=h.d 3 93;refine zAA rfl ?_;simp only[execOp,e93];simp[go_sem])
              ·exact zAA rfl (zAC rfl (h.d 4 94) zA2 ((H.call h.below).cell (i:=0) (.zero) 3)) (by decide)
              ·exact zAA rfl (zAC rfl (h.f 4) zAF ((H.call h.below).cell (i:=8) i_8 0)) (by decide)
              ·exact zAc rfl rfl (enters_of Tryz.func170 (by kernel_rfl) rfl) (zMz ⟨(h.d 1 91),(h.d 5 95),(h.d 6 96)⟩) (HSP.out W ((H.call h.below).knlt (i:=4) i_4) ((H.call h.below).kn (i:=4) i_4))
             case en =>
              intro vals W hbw hv _;simp only[fa,Nat.reduceAdd];rw[e_ hv 0,e_ hv 1,e_ hv 2,e_ hv 3,e_ hv 4,e_ hv 5,e_ hv 6,e_ hv 7];clear hv
              try simp only[pl]
              try simp only[pl]
              replace H:=H.call hbw;clear hbw
              go_wp2_with fail
              exact FIN.out td' _ _ _ _ _ _ _ _ _ _ tn htn (HI.out.spotF HNE.out HX2.out k4.out hsp) HN0.out HO HN (H.take 13)
           ·have d4:(x.kind == 4)=false:=by rw[beq_eq_false_iff_ne];exact k4
            by_cases k1:x.kind=1
            ·have d1:(x.kind == 1)=true:=by rw[beq_iff_eq];exact k1
             have k15:x.kind=1\/x.kind=5:=.inl k1;have k15':=Lib.hid k15;clear k15 k1 hnx;have k15:=k15';clear k15'
             go_upto_region 17 with fail
             have I2:=Lib.hid (HI.out.out HNE.out HX2.out k15.out);rw[← wpIn_wide (n:=k+1)];refine wpIn_region_lit (zDk (v:=.func (.yield l) #[] #[]) rfl (zEI rfl rfl) (zDk rfl (zAk rfl rfl zEC (zC2 e1) (fun j _=>by rw[Nat.zero_add];exact H.cell (i:=13) i_13 j)) (zIn rfl rfl rfl rfl (HY.out nq nc ys us (marks.set e1.1 ((i:Int)+1)) e1 [.blk bM #[.pointer (some ⟨mb,0,none⟩)] 189,.blk bA #[.int .i64 e.1] 3,.blk bI #[.int .i64 i] 3,.blk bS #[.slice e.2.2.1 e.2.1.length e.2.2.2] 55,.row (.slice (some ⟨gt,0,none⟩) tn tc) 197 2 tn (zAW (td'.map wayC)),.blk b7 (wayC e1) 197,.blk b8 (zAf x) 33] _ HK.out.2 zJv (by have:=I2.out.room;rw[List.length_append]at this;exact Nat.lt_of_lt_of_le (Nat.lt_succ_self _) (Nat.le_trans (Nat.le_add_right _ _) this)) (H.pick [0,1,2,3,4,5,10,6,7,8,9,11,13,14] _ (by decide) rfl) (HN.out _ (H.kn (i:=12) i_12))) ?_)))
             rintro w' ⟨⟨nq',nc',H'⟩,hB'⟩;refine zDk (v:=.bool false) rfl (zLU (b:=true) rfl rfl) (wpListIn_nil ?_);simp only[pl];obtain⟨nF',nS',HN',H2⟩:=H'.ncB (by intro r hr b es c e;subst e;simp[memL]at hr) HB hB'
             clear H H' hB'
             go_wp2_with fail
             exact FIN.out td' _ _ _ _ _ _ _ _ _ _ tn htn I2.out HN0.out HO HN' (H2.pick [0,1,2,3,4,5,7,8,9,10,6,11,14] _ (by decide) rfl)
            ·have d1:(x.kind == 1)=false:=by rw[beq_eq_false_iff_ne];exact k1
             by_cases k5:x.kind=5
             ·have d5:(x.kind == 5)=true:=by rw[beq_iff_eq];exact k5
              have k15:x.kind=1\/x.kind=5:=.inr k5;have k15':=Lib.hid k15;clear k15 k5 hnx;have k15:=k15';clear k15'
              go_upto_region 17 with fail
              have I2:=Lib.hid (HI.out.out HNE.out HX2.out k15.out);rw[← wpIn_wide (n:=k+1)];refine wpIn_region_lit (zDk (v:=.func (.yield l) #[] #[]) rfl (zEI rfl rfl) (zDk rfl (zAk rfl rfl zEC (zC2 e1) (fun j _=>by rw[Nat.zero_add];exact H.cell (i:=13) i_13 j)) (zIn rfl rfl rfl rfl (HY.out nq nc ys us (marks.set e1.1 ((i:Int)+1)) e1 [.blk bM #[.pointer (some ⟨mb,0,none⟩)] 189,.blk bA #[.int .i64 e.1] 3,.blk bI #[.int .i64 i] 3,.blk bS #[.slice e.2.2.1 e.2.1.length e.2.2.2] 55,.row (.slice (some ⟨gt,0,none⟩) tn tc) 197 2 tn (zAW (td'.map wayC)),.blk b7 (wayC e1) 197,.blk b8 (zAf x) 33] _ HK.out.2 zJv (by have:=I2.out.room;rw[List.length_append]at this;exact Nat.lt_of_lt_of_le (Nat.lt_succ_self _) (Nat.le_trans (Nat.le_add_right _ _) this)) (H.pick [0,1,2,3,4,5,10,6,7,8,9,11,13,14] _ (by decide) rfl) (HN.out _ (H.kn (i:=12) i_12))) ?_)))
              rintro w' ⟨⟨nq',nc',H'⟩,hB'⟩;refine zDk (v:=.bool false) rfl (zLU (b:=true) rfl rfl) (wpListIn_nil ?_);simp only[pl];obtain⟨nF',nS',HN',H2⟩:=H'.ncB (by intro r hr b es c e;subst e;simp[memL]at hr) HB hB'
              clear H H' hB'
              go_wp2_with fail
              exact FIN.out td' _ _ _ _ _ _ _ _ _ _ tn htn I2.out HN0.out HO HN' (H2.pick [0,1,2,3,4,5,7,8,9,10,6,11,14] _ (by decide) rfl)
             ·have d5:(x.kind == 5)=false:=by rw[beq_eq_false_iff_ne];exact k5
              have KO:=Lib.hid (HI.out.other HNE.out HX2.out k2 k3 k4 k1 k5)
              go_wp2_with fail
              exact FIN.out td' _ _ _ _ _ _ _ _ _ _ tn htn KO.out HN0.out HO HN (H.take 13)
  ·obtain rfl:td=[]:=List.length_eq_zero_iff.1 (by omega)
   go_wp2_with (first|fail)
   rw[Exit.noGoto_normal]
   go_end0
   refine⟨HN.out _ (H.kn (i:=12) i_12),⟨_,rfl⟩,nq,nc,ys,us,marks,n,HI.out,HO.out,H.take 11⟩
end
section
open Go.RowKit
section
variable {M:Nat->Prop} {w0 w w':World} {l l' ls a a' ext:List Res}
theorem HoldG.gainAll (H:HoldG M w0 w l) (K:Hold w w' ls) (hk:∀ r ∈ ls,∀ F S,r≠.kn F S):HoldG M w0 w' (l++ls):=by
 have H':=H.call K.below;have hi:∀ (i:Nat) (r:Res),(l++ls)[i]?=some r->(i<l.length/\l[i]?=some r)\/(l.length<=i/\ls[i - l.length]?=some r):=by
  intro i r h;rw[List.getElem?_append]at h;split at h
  ·exact .inl ⟨by assumption,h⟩
  ·exact .inr ⟨by omega,h⟩
 have hp:∀ (i:Nat) (r:Res),ls[i]?=some r->∀ b,r.foot b->w.heap.size<=b:=by
  intro i r h b hb;have hpl:=zGW (hk r (List.mem_of_getElem? h)) hb;exact((K.all i r h).lt b hpl).1.elim id False.elim
 refine⟨H'.keep,fun i r h=>?_,fun i j r s hij h1 h2=>?_⟩
 ·rcases hi i r h with ⟨_,h⟩|⟨_,h⟩
  ·exact H'.all i r h
  ·have hA:=K.all _ r h;have hl:=hk r (List.mem_of_getElem? h);have hge:=H.keep.size
   cases r with
   | blk b cs T=>exact⟨.inl (Nat.le_trans hge (hA.1.elim id False.elim)),hA.2⟩
   | row v e sz n xs =>
    have h9:w'.ownsRow w.heap.size e sz v n xs:=hA;exact h9.mono hge
   | mp b es c=>exact⟨Nat.le_trans hge hA.1,hA.2⟩
   | kn F S=>exact absurd rfl (hl F S)
 ·rcases hi i r h1 with ⟨_,h1⟩|⟨e1,h1⟩
  ·rcases hi j s h2 with ⟨_,h2⟩|⟨e2,h2⟩
   ·exact H.apart i j r s hij h1 h2
   ·intro b hb hf;have a1:=((H.all i r h1).lt b hb).2;have a2:=hp _ s h2 b hf;omega
  ·rcases hi j s h2 with ⟨_,h2⟩|⟨e2,h2⟩
   ·intro b hb hf;have a1:=hp _ r h1 b (Res.place_foot hb);have a2:=(H.all j s h2).ltf b hf;omega
   ·exact K.apart _ _ r s (by omega) h1 h2
theorem HoldG.ofPairs (hk:KeepBut M w0.heap.size w0 w) (ha:∀ r ∈ l,r.Holds M w0.heap.size w) (hp:l.Pairwise (fun r s=>zHj r s/\zHj s r)):HoldG M w0 w l:=by
 refine⟨hk,fun i r h=>ha r (List.mem_of_getElem? h),fun i j r s hij h1 h2=>?_⟩
 rw[List.pairwise_iff_getElem]at hp;obtain⟨hi,rfl⟩:=List.getElem?_eq_some_iff.1 h1;obtain⟨hj,rfl⟩:=List.getElem?_eq_some_iff.1 h2;rcases Nat.lt_or_gt_of_ne hij with h|h
 ·exact(hp i j hi hj h).1
 ·exact(hp j i hj hi h).2
theorem HoldG.pairs (H:HoldG M w0 w l):l.Pairwise (fun r s=>zHj r s/\zHj s r):=by
 rw[List.pairwise_iff_getElem];intro i j hi hj hij;exact⟨H.apart i j _ _ (by omega) (List.getElem?_eq_getElem hi) (List.getElem?_eq_getElem hj),H.apart j i _ _ (by omega) (List.getElem?_eq_getElem hj) (List.getElem?_eq_getElem hi)⟩
theorem HoldG.permL (H:HoldG M w0 w l) (h:l.Perm l'):HoldG M w0 w l':=by
 refine HoldG.ofPairs H.keep (fun r hr=>?_) ((h.pairwise_iff (fun {x y} hxy=>⟨hxy.2,hxy.1⟩)).1 H.pairs)
 obtain⟨i,hi⟩:=List.getElem?_of_mem (h.mem_iff.2 hr);exact H.all i r hi
theorem HoldG.left (H:HoldG M w0 w (a++ext)):HoldG M w0 w a:=by
 have:=H.take a.length
 rwa [List.take_left']at this
 rfl
theorem HoldG.callL (H:HoldG M w0 w (a++ext)) (T:Turned M w0 w a a' w'):HoldG M w0 w' (a'++ext):=by
 refine H.callIn T (List.range a.length) (List.range' a.length ext.length) ?_ ?_ List.nodup_range' ?_
 ·apply List.ext_getElem?;intro i;rw[List.getElem?_map,List.getElem?_map]
  by_cases h:i<a.length
  ·rw[List.getElem?_range h];simp[List.getElem?_append_left h,List.getElem?_eq_getElem h]
  ·rw[List.getElem?_eq_none (by simp;omega),List.getElem?_eq_none (by omega)];rfl
 ·apply List.ext_getElem?;intro i;rw[List.getElem?_map,List.getElem?_map]
  by_cases h:i<ext.length
  ·rw[List.getElem?_range' h];simp[List.getElem?_append_right,List.getElem?_eq_getElem h]
  ·rw[List.getElem?_eq_none (by simp;omega),List.getElem?_eq_none (by omega)];rfl
 ·intro j hj hj';rw[List.mem_range]at hj;rw[List.mem_range']at hj';obtain⟨i,_,e⟩:=hj';omega
theorem HoldG.knowObj (H:HoldG M w0 w l) (hl:∀ r ∈ l,∀ b es c,r≠.mp b es c) {D:Nat} {o:Obj} (hD:w.heap[D]?=some o) (ho:o.isCells=false):HoldG M w0 w (l++[.kn (·=D) (fun V=>V.heap[D]?=some o)]):=by
 refine H.know _ _ (fun b hb=>by subst hb;exact(Array.getElem?_eq_some_iff.1 hD).1) (fun i r hi b hp hb=>?_) (fun V hV=>(hV D rfl).trans hD)
 subst hb;have hA:=H.all i r hi
 cases r with
 | blk b' cs U=>cases hp;rw[hA.2]at hD;cases hD;cases ho
 | row v e' sz n xs =>
  obtain⟨_,⟨hv,_⟩|⟨g,cap,cur,rfl,_,hg',_⟩⟩:=hA
  ·have h2:v.ownBlock=some b:=hp;rw[hv]at h2;cases h2
  ·have:g=b:=by simpa [Res.place,Value.ownBlock] using hp
   subst this;rw[hg']at hD;cases hD;cases ho
 | mp b' es c=>exact hl _ (List.mem_of_getElem? hi) _ _ _ rfl
 | kn F S=>cases hp
end
def zDa (Ds:List Nat) (V:World):Prop:=∀ D ∈ Ds,V.heap[D]?=some (.deferred (some []))
def zMR (Ds:List Nat):List Deferred:=Ds.map fun D=>{target:=.collected D,args:=#[]}
theorem zDQ {P:Program} {n:Nat} {fn:Func} {tmps:Array Value} {R:Ending->World->Prop} {B:Nat} {I:World->Prop} (hst:Stay B I):∀ (Ds:List Nat) (W:World),I W->Ds.Nodup->(∀ D ∈ Ds,B<=D)->zDa Ds W ->
  (∀ W',I W'->∃ v,(results fn tmps).run P W'=.ok v W'/\R (.returned v) W')->LeavesInM Fence.wide n P fn tmps R (zMR Ds) .returning W
 | [],W,hI,_,_,_,h=>h W hI
 | D::Ds,W,hI,hn,hB,hM,h=>by
  have hK:=hM D (List.mem_cons_self ..);have hBD:=hB D (List.mem_cons_self ..);refine⟨by simp,.inl ⟨D,_,rfl,run_takeDeferred hK,?_⟩⟩
  refine zDQ hst Ds _ (hst.putObj (.deferred none) hI hBD hK rfl) (List.nodup_cons.1 hn).2 (fun D' h'=>hB D' (List.mem_cons_of_mem _ h')) (fun D' h'=>?_) h
  have hne:D'≠D:=fun e=>(List.nodup_cons.1 hn).1 (e ▸ h')
  exact(World.putObj_heap_other hne).trans (hM D' (List.mem_cons_of_mem _ h'))
end
end Go.Proofs.YtphjgfjbiimkjaaGreat
