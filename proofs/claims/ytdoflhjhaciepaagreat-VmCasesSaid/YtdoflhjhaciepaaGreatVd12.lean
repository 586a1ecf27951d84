/-
  Laws of walks, and walks.
-/
import Derived.Test.YtdoflhjhaciepaaGreatVd11
import Derived.Test.YtdoflhjhaciepaaGreatVd4
import Derived.RangeFuncLeaves
import Derived.Deep.Onto
set_option linter.unusedVariables false
set_option linter.unusedSimpArgs false
set_option maxRecDepth 100000
set_option maxHeartbeats 16000000
namespace Go.Proofs.YtdoflhjhaciepaaGreat
section
open Go.RowKit Go.Shelf
attribute [local go_sem] Oper.semAt_some
theorem zBy:oneB Tryz.prog 49=true:=by kernel_rfl
def memL (mb:Nat) (lv:Value) (gm mc:Nat) (pp:Option Addr) (cp:Nat) (ps:List InstD) (psl:Option Addr) (csl:Nat) (L:Str) (Fp Fs:Nat→Prop) (nq:Option Addr) (nc:Nat) (ys us:List WV) (marks:List Int):List Res :=
 [.blk mb #[lv,.slice (some ⟨gm,0,none⟩) ps.length mc,.slice pp ps.length cp,.slice psl L.length csl,.slice nq ys.length nc] 54,.row (.slice (some ⟨gm,0,none⟩) ps.length mc) 3 1 ps.length (marks.map (.int .i64)),.row (.slice nq ys.length nc) 58 2 ys.length (zAP (ys.map wayC)),
  .kn Fp (InstsR Fp pp cp ps),.kn Fs (BytesR Fs psl csl L),.kn (FW us) (WK us)]
def itL (mb bA bS bM bI:Nat) (e:WV) (i:Nat) (rF:Nat→Prop) (rS:World→Prop):List Res :=
 [.blk bM #[.pointer (some ⟨mb,0,none⟩)] 49,.blk bA #[.int .i64 e.1] 3,.blk bI #[.int .i64 i] 3,.blk bS #[.slice e.2.2.1 e.2.1.length e.2.2.2] 27,.kn rF rS]
def zSG (mb:Nat) (lv:Value) (gm mc:Nat) (pp:Option Addr) (cp:Nat) (ps:List InstD) (psl:Option Addr) (csl:Nat) (L:Str) (Fp Fs:Nat→Prop) (bA bS bM bI:Nat) (e:WV) (i:Nat) (rF:Nat→Prop) (rS:World→Prop) (ms:Nat) (w0:World) (ys0 us0:List WV) (m0:List Int) (W:World):Prop :=
 ∃ nq nc ys us marks n,ItInv ps L i (plW e) m0 ys0 ms [] ys us marks n∧(∀ b,FW us b→FW us0 b∨bM<b)∧Hold w0 W (memL mb lv gm mc pp cp ps psl csl L Fp Fs nq nc ys us marks++itL mb bA bS bM bI e i rF rS)
theorem zPx (n:Nat):((n+1:Nat):Int) - 1=(n:Int):=by omega
theorem zRo (n:Nat):(-9223372036854775808:Int)≤(n:Int):=by omega
theorem zR1 {n:Nat} (h:n≤1000000):(n:Int)≤9223372036854775807:=by omega
theorem zMo (n:Nat):(-9223372036854775808:Int)≤(n:Int)+1:=by omega
theorem zNK {n:Nat} (h:n≤1000):(n:Int)+1≤9223372036854775807:=by omega
theorem zLp (xs:List WV) (y:WV):(zAP ((xs++[y]).map wayC)).take (xs.length * 2)=zAP (xs.map wayC):=by
 rw[← zCr,List.take_left'];rw[zBw (sz:=2) (zE1 _),List.length_map]
theorem zF2 {n m:Nat} (h:n≤1000000) (hm:m≤2):n+m≤maxLen:=by unfold maxLen;omega
theorem zEW {n m:Nat} (h:n≤1000000) (hm:m≤2):(n+m) * 32≤140737488355328:=by omega
theorem zRY {us:List WV} {V:World} (h:WK us V) {e1:WV} (he:∃ u ∈ us,e1.2=u.2):IntsR (FW us) e1.2.2.1 e1.2.2.2 e1.2.1 V:=by
 obtain⟨u,hu,e⟩:=he;rw[e];exact h.ints hu
theorem zNV {ps:List InstD} {L:Str} {i:Nat} {e0:Way} {m0:List Int} {ys0:List WV} {ms:Nat} {td ys us:List WV} {marks:List Int} {n:Nat} {e:WV} {x:InstD} (I:ItInv ps L i e0 m0 ys0 ms (td++[e]) ys us marks n) (hx:ps[e.1]?=some x) (hms:zCe ps=ms) (h2:ms≤42):e.2.1.length≤1000000∧x.slot.toNat<e.2.1.length:=by
 obtain⟨u,hu,he⟩:=I.known.2;have h1:=I.size u hu;have h3:=zM3 hx;rw[he];omega
theorem zK7 {B:Nat} {b1 b2 b3 b4 b7 b8:Nat} {c1 c2 c3 c4 c7 c8:Array Value} {t1 t2 t3 t4 t7 t8 t5:TypeId} {v:Value} {z n:Nat} {xs:List Value} :
  ∀ r ∈ [Res.blk b1 c1 t1,.blk b2 c2 t2,.blk b3 c3 t3,.blk b4 c4 t4,.row v t5 z n xs,.blk b7 c7 t7,.blk b8 c8 t8],zFG B r:=by
 intro r hr;simp only[List.mem_cons,List.not_mem_nil,or_false]at hr;rcases hr with rfl|rfl|rfl|rfl|rfl|rfl|rfl<;>trivial
theorem zMA {n0:Nat} {w w':World} {xs:List Int} {e:Ending} {D:Prop} (hn:n0≤w.heap.size) (hD:¬ D) (h:zRh w xs e w'∧Below w.heap.size w w'):∃ v,e=.returned v∧Below w.heap.size w w'∧(zLU n0 xs v w'∧(D→w.heap.size≤blk v)):=by
 obtain⟨⟨q,c,F,e1,h1,h2⟩,hb⟩:=h;exact⟨_,e1,hb,⟨q,c,F,rfl,h1,fun b hb'=>⟨(h2 b hb').1,Nat.le_trans hn (h2 b hb').2⟩⟩,fun h=>(hD h).elim⟩
theorem zIm {P:Nat→Prop} (h:∃ n,P n):∃ n,P n∧∀ m,P m→n≤m:=by
 obtain⟨n,hn⟩:=h
 induction n using Nat.strongRecOn with
 | _ n ih =>
  by_cases hc:∃ m,m<n∧P m
  ·obtain⟨m,hm,hp⟩:=hc;exact ih m hm hp
  ·exact⟨n,hn,fun m hm=>Classical.byContradiction fun hlt=>hc ⟨m,by omega,hm⟩⟩
open Classical in
noncomputable def leastN (P:Nat→Prop):Nat:=if h:∃ n,P n then (zIm h).choose else 0
theorem zKE {P:Nat→Prop} (h:∃ n,P n):P (leastN P):=by unfold leastN;rw[dif_pos h];exact(zIm h).choose_spec.1
theorem zOL {P:Nat→Prop} {n:Nat} (h:P n):leastN P≤n:=by unfold leastN;rw[dif_pos ⟨n,h⟩];exact(zIm ⟨n,h⟩).choose_spec.2 n h
def ItR (mb:Nat) (lv:Value) (gm mc:Nat) (pp:Option Addr) (cp:Nat) (ps:List InstD) (psl:Option Addr) (csl:Nat) (L:Str) (Fp Fs:Nat→Prop) (bA bS bM bI:Nat) (e:WV) (i:Nat) (rF:Nat→Prop) (rS:World→Prop) (ms:Nat) (w0:World) (ys0 us0:List WV) (m0:List Int) (B:World→Prop) (n:Nat) (ix:Value) (wr:World):Prop :=
 ∃ (td ys us:List WV) (marks:List Int) (nq tq:Option Addr) (nc tc:Nat) (nF:Nat→Prop) (nS:World→Prop),ix=.slice tq td.length tc∧Hid (ItInv ps L i (plW e) m0 ys0 ms td ys us marks n)∧Hid (∀ b,FW us b→FW us0 b∨bM<b)∧Hid (∀ V,nS V→B V) ∧
   Hold w0 wr (memL mb lv gm mc pp cp ps psl csl L Fp Fs nq nc ys us marks++itL mb bA bS bM bI e i rF rS++[.row (.slice tq td.length tc) 58 2 td.length (zAP (td.map wayC)),.kn nF nS])
theorem HoldG.ncB {M:Nat→Prop} {w0 W:World} {l:List Res} (H:HoldG M w0 W l) (hl:∀ r ∈ l,∀ b es c,r≠.mp b es c) {B:World→Prop} {base:Nat} (hB:Hid (∀ W W',KeepsNC base W W'→B W→B W')) (hBW:B W):∃ nF nS,Hid (∀ V,nS V→B V)∧HoldG M w0 W (l++[.kn nF nS]) :=
 ⟨_,_,Lib.hid (fun V hV=>hB.out _ _ (ncS.keeps hV) hBW),H.knowNC hl base⟩
theorem zNE (mb:Nat) (lv:Value) (gm mc:Nat) (pp:Option Addr) (cp:Nat) (ps:List InstD) (psl:Option Addr) (csl:Nat) (L:Str) (Fp Fs:Nat→Prop) (bA bS bM bI:Nat) (e:WV) (i:Nat) (rF:Nat→Prop) (rS:World→Prop) (ms:Nat) (w0:World) (ys0 us0:List WV) (m0:List Int) (k:Nat)
  (hR:zA3 ps=true) (hset:∀ x ∈ ps,zAW x.set) (hL:L.length≤1000) (hn4:ps.length≤4000) (hi:i≤L.length) (hms:zCe ps=ms) (hms2:ms≤42) (l:Nat) (B:World→Prop) (base:Nat) (hB:∀ W W',KeepsNC base W W'→B W→B W')
  (hw0:w0.heap.size≤base)
  (hY:∀ nq nc ys us marks (x:WV) (ext:List Res) W1,(∃ u ∈ us,x.2=u.2)→(∀ r ∈ ext,zFG base r)→ys.length<ps.length→Hold w0 W1 (memL mb lv gm mc pp cp ps psl csl L Fp Fs nq nc ys us marks++.kn rF rS::ext)→B W1→YieldAt Fence.wide k Tryz.prog l #[.agg (wayC x)] W1 fun e W'=>e=.returned (.bool true)∧(∃ nq' nc',Hold w0 W' (memL mb lv gm mc pp cp ps psl csl L Fp Fs nq' nc' (ys++[x]) us marks++.kn rF rS::ext))∧B W')
  (W:World) (nq:Option Addr) (nc:Nat) (I0:ItInv ps L i (plW e) m0 ys0 ms [e] ys0 us0 m0 (zCU ps)) (H:Hold w0 W (memL mb lv gm mc pp cp ps psl csl L Fp Fs nq nc ys0 us0 m0++itL mb bA bS bM bI e i rF rS)) (hB0:B W) :
  CallsIn Fence.wide (k+1) Tryz.prog 75 #[.func (.yield l) #[] #[],.pointer (some ⟨bA,0,none⟩),.pointer (some ⟨bS,0,none⟩),.pointer (some ⟨bM,0,none⟩),.pointer (some ⟨bI,0,none⟩)] W fun r W'=>B W'∧(∃ v,r=.returned v) ∧
   zSG mb lv gm mc pp cp ps psl csl L Fp Fs bA bS bM bI e i rF rS ms w0 ys0 us0 m0 W':=by
 have HY:=Lib.hid hY;clear hY;have HB:=Lib.hid hB;clear hB;have HI:=Lib.hid I0;clear I0;obtain⟨iw,hiw,hi0,hi1,hi2⟩:=info_parts zGz;refine callsIn_of_wp Tryz.func75 rfl trivial ?_ rfl;simp only[Tryz.ntmps75,List.size_toArray,List.length_cons,List.length_nil,Nat.reduceAdd,Nat.reduceSub,Array.replicate_succ,Array.replicate_zero,List.push_toArray,List.append_toArray,List.nil_append,List.cons_append]
 rw[wpIn_wide];obtain⟨nF,nS,HN,H2⟩:=H.ncB (by intro r hr b es c e;subst e;simp[memL,itL]at hr) HB hB0
 clear H hB0;have H:=H2;clear H2;simp only[memL,itL,List.cons_append,List.nil_append]at H
 go_step3
 go_wp2_with (first|((with_reducible refine gBd ?_);refine bWay ?_)|((with_reducible refine gBS ?_);refine zAL wtd_ _ _ _ rfl H (wayC e) 58 (by intro W;simp only[ml];(try simp only[pe]);exact zFy e W) ?_;clear H;intro bt w H;try simp only[ca]at H)|((with_reducible refine gL ?_);refine aG H ?_))
 go_step3
 have H2:=H.blkRowN (n:=1) (sz:=2) (i:=12) i_12 (fun h=>h) rfl (by unfold maxLen;omega)
 clear H;have H:=H2.pick [0,1,2,3,4,5,6,7,8,9,10,12,11] (memL mb lv gm mc pp cp ps psl csl L Fp Fs nq nc ys0 us0 m0++itL mb bA bS bM bI e i rF rS++[.row (.slice (some ⟨bt,0,none⟩) [e].length 1) 58 2 [e].length (zAP ([e].map wayC)),.kn nF nS]) (by decide) (by simp only[memL,itL,List.cons_append,List.nil_append];rfl)
 clear H2
 go_wp2_with fail
 obtain⟨R,hR0⟩:∃ R,ItR mb lv gm mc pp cp ps psl csl L Fp Fs bA bS bM bI e i rF rS ms w0 ys0 us0 m0 B=R:=⟨_,rfl⟩;have HR:=Lib.hid hR0;clear hR0
 go_loopw [6] (fun ix wr=>∃ n,Hid (R n ix wr)) (fun ix wr=>leastN (fun n=>Hid (R n ix wr)))
 case atStart =>
  refine⟨zCU ps,Lib.hid ?_⟩
  rw[← HR.out];exact⟨[e],ys0,us0,m0,nq,some ⟨bt,0,none⟩,nc,1,nF,nS,rfl,HI,Lib.hid (fun b h=>.inl h),HN,H⟩
 case round =>
  clear H HN HI nF nS;obtain⟨n,hn⟩:∃ n,leastN (fun n=>Hid (R n u6 wr))=n:=⟨_,rfl⟩
  have hrn:=zKE hrel;rw[hn]at hrn;have HNN:=Lib.hid hn;clear hrel hn;have hrn:=hrn.out;rw[← HR.out]at hrn;obtain⟨td,ys,us,marks,nq,tq,nc,tc,nF,nS,rfl,HI,HO,HN,H⟩:=hrn;have fin:∀ (td':List WV) (w':World) (nq' tq':Option Addr) (nc' tc':Nat) (ys' us':List WV) (marks':List Int) (nF':Nat→Prop) (nS':World→Prop) (m:Nat),td'.length=m→ItInv ps L i (plW e) m0 ys0 ms td' ys' us' marks' (n - 1)→n≠0→Hid (∀ b,FW us' b→FW us0 b∨bM<b)→Hid (∀ V,nS' V→B V)→Hold w0 w' (memL mb lv gm mc pp cp ps psl csl L Fp Fs nq' nc' ys' us' marks'++itL mb bA bS bM bI e i rF rS++[.row (.slice tq' m tc') 58 2 m (zAP (td'.map wayC)),.kn nF' nS']) →
    (∃ n,Hid (R n (.slice tq' m tc') w'))∧leastN (fun n=>Hid (R n (.slice tq' m tc') w'))<leastN (fun n=>Hid (R n (.slice tq td.length tc) wr)):=by
   intro td' w' nq' tq' nc' tc' ys' us' marks' nF' nS' m hm hI hn0 hO hN hH;subst hm;have hr:R (n - 1) (.slice tq' td'.length tc') w':=by rw[← HR.out];exact⟨td',ys',us',marks',nq',tq',nc',tc',nF',nS',rfl,Lib.hid hI,hO,hN,hH⟩
   refine⟨⟨_,Lib.hid hr⟩,?_⟩
   have:=zOL (P:=fun n=>Hid (R n (.slice tq' td'.length tc') w')) (Lib.hid hr)
   have h2:=HNN.out;omega
  have FIN:=Lib.hid fin;clear fin HNN;simp only[memL,itL,List.cons_append,List.nil_append]at H
  by_cases h0:0<td.length
  ·obtain⟨td',e1,rfl⟩:∃ td' e1,td=td'++[e1]:=⟨td.dropLast,td.getLast (by intro h;subst h;simp at h0),(List.dropLast_concat_getLast _).symm⟩
   obtain⟨tn,htn⟩:∃ tn,td'.length=tn:=⟨_,rfl⟩;have hl:(td'++[e1]).length=tn+1:=by rw[List.length_append,htn];rfl
   have htop:tn≤1000000:=by have h1:=HI.out.fuel;have h2:=HI.out.top;unfold zCU at h2;rw[hl]at h1;omega
   have hsub:((tn+1:Nat):Int) - 1=(tn:Int):=zPx tn;have hsb1:=zRo tn;have hsb2:=zR1 htop;have HN0:=Lib.hid (show n≠0 by have:=HI.out.fuel;omega)
   have HK:=Lib.hid HI.out.known;have HIL:=Lib.hid (show i≤1000 by omega)
   have HC:=Lib.hid (show (zAP ((td'++[e1]).map wayC)).take (tn * 2)=zAP (td'.map wayC) by rw[← htn];exact zLp td' e1)
   have HL:=Lib.hid (show ((td'++[e1]).map wayC).length=tn+1 by rw[List.length_map];exact hl)
   have HX:=Lib.hid (show ((td'++[e1]).map wayC)[tn]?=some (wayC e1) by rw[List.map_append,List.getElem?_append_right (by simp;omega)];simp[htn])
   rw[hl]at H FIN ⊢;have d1:decide ((0:Int)<((tn+1:Nat):Int))=true:=decide_eq_true (Int.natCast_pos.2 (Nat.succ_pos tn));have d2:decide ((0:Int)<(tn:Int)+1)=true:=decide_eq_true (Int.lt_add_one_of_le (Int.natCast_nonneg tn));obtain⟨q2,c2,e2,hc1,hc2,hq2⟩:=H.rowShape (i:=11) i_11;simp only[Value.slice.injEq]at e2;obtain⟨rfl,_,rfl⟩:=e2;obtain⟨gt,rfl⟩:=hq2 (Nat.succ_pos tn);have HTN:=Lib.hid htn;clear hl h0
   go_upto_region 2 with (first|fail)
   refine zCM 7 [fun v _=>v=.slice (some ⟨gt,0,none⟩) (tn+1) tc,fun v _=>v=.slice (some ⟨gt,0,none⟩) (tn+1) tc,fun v _=>v=.int .i64 ((tn+1:Nat):Int),fun v _=>v=.int .i64 (tn:Nat),fun v _=>v=.pointer (some ⟨gt,tn * 2,none⟩),fun v _=>v=.agg (wayC e1),zGc wr.heap.size #[.int .i64 0,.slice none 0 0] 58] (fun _=>false) (by kernel_rfl) (by kernel_rfl) (by repeat (first|exact trivial|refine⟨zAF _,?_⟩|refine⟨zCv _ _ _,?_⟩)) (fun _ _ h=>by cases h) ?ob ?en
   case ob =>
    refine⟨?_,?_,?_,?_,?_,?_,?_,trivial⟩<;>intro A W h
    ·exact zAB rfl rfl (h.f 6)
    ·exact zAB rfl rfl (h.f 6)
    ·exact zBb Tryz.underlying50 rfl rfl (h.d 1 17)
    ·exact zAA rfl (zIW rfl (h.d 2 18) rfl hsub hsb1 hsb2) (by decide)
    ·exact zAo (sz:=2) Tryz.underlying50 (fun w=>by kernel_rfl) rfl rfl (h.d 0 16) (h.d 3 19) (Nat.lt_succ_self _) (Nat.zero_add _) (by decide)
    ·exact zAA rfl (zAb rfl (h.d 4 20) zFL (zDr e1) ((H.call h.below).rowCell (i:=11) i_11 (zE1 _) HL.out HX.out rfl)) (by decide)
    ·exact zFx rfl rfl (by kernel_rfl) zWay h.below.size (by decide)
   case en =>
    intro vals W hbw hv _;have x6:=hv 6 (by omega);simp only[zAh]at x6
    simp only[fa,Nat.reduceAdd];rw[e_ hv 0,e_ hv 1,e_ hv 2,e_ hv 3,e_ hv 4,e_ hv 5];clear hv
    try simp only[pl]
    try simp only[pl]
    obtain⟨b7,e7,H8⟩:=H.gainB hbw x6;rw[e7];clear x6 e7 H hbw;have H:=H8;clear H8;simp only[ca]at H
    go_upto_region 3 with (first|((with_reducible refine gTw ?_);refine aTw H ?_;clear H;intro w H;simp only[sc]at H))
    refine ws_ 5 [fun v _=>v=.slice (some ⟨gt,0,none⟩) (tn+1) tc,fun v _=>v=.slice (some ⟨gt,0,none⟩) (tn+1) tc,fun v _=>v=.int .i64 ((tn+1:Nat):Int),fun v _=>v=.int .i64 (tn:Nat),fun v _=>v=.slice (some ⟨gt,0,none⟩) tn tc] ?ob ?en
    case ob =>
     refine⟨?_,?_,?_,?_,?_,trivial⟩<;>intro A W h
     ·exact zAB rfl rfl (h.f 6)
     ·exact zAB rfl rfl (h.f 6)
     ·exact zBb Tryz.underlying50 rfl rfl (h.d 1 23)
     ·exact zAA rfl (zIW rfl (h.d 2 24) rfl hsub hsb1 hsb2) (by decide)
     ·exact zAA rfl (zIM (T:=50) (sz:=2) (by kernel_rfl) (fun w=>by kernel_rfl) rfl (h.d 0 22) (h.d 3 25) (Nat.le_of_succ_le hc1)) (by decide)
    case en =>
     intro vals W hbw hv _;simp only[fa,Nat.reduceAdd];rw[e_ hv 0,e_ hv 1,e_ hv 2,e_ hv 3,e_ hv 4];clear hv
     try simp only[pl]
     replace H:=H.call hbw;clear hbw;have H2:=H.cutRow (i:=11) (m:=tn) i_11 (Nat.le_succ tn);rw[HC.out]at H2;clear H;have H:=H2;clear H2;simp only[sc]at H
     go_upto_region 4 with fail
     obtain⟨mv,hmv⟩:∃ mv,marks[e1.1]?=some mv:=⟨_,List.getElem?_eq_getElem (by rw[HI.out.len];exact HK.out.1)⟩
     have HMV:=Lib.hid (show (marks.map (Value.int .i64))[e1.1]?=some (.int .i64 mv) by rw[List.getElem?_map,hmv];rfl)
     have HMD:=Lib.hid (show marks.getD e1.1 0=mv by rw[List.getD_eq_getElem?_getD,hmv];rfl)
     clear hmv;obtain⟨bv,hbv⟩:∃ bv,(mv == (i:Int)+1)=bv:=⟨_,rfl⟩;refine wr_ 12 [fun v _=>v=pt mb 0,fun v _=>v=pt mb 0,fun v _=>v=pt mb 0,fun v _=>v=pt mb 1,fun v _=>v=.slice (some ⟨gm,0,none⟩) ps.length mc,fun v _=>v=pt b7 0,fun v _=>v=.int .i64 (e1.1:Nat),fun v _=>v=.pointer (some ⟨gm,e1.1,none⟩),fun v _=>v=.int .i64 mv,fun v _=>v=.int .i64 (i:Nat),fun v _=>v=.int .i64 ((i:Int)+1),fun v _=>v=.bool bv] ?ob ?en
     case ob =>
      refine⟨?_,?_,?_,?_,?_,?_,?_,?_,?_,?_,?_,?_,trivial⟩<;>intro A W h
      ·exact zAA rfl (zAC rfl (h.f 3) zBy ((H.call h.below).cell (i:=6) i_6 0)) (by decide)
      ·(have e27:A.eval (.tmp 27)=.pointer (some ⟨mb,0,none⟩):=h.d 0 27;refine zAA rfl ?_;simp only[execOp,e27];simp[go_sem])
      ·(have e28:A.eval (.tmp 28)=.pointer (some ⟨mb,0,none⟩):=h.d 1 28;refine zAA rfl ?_;simp only[execOp,e28];simp[go_sem])
      ·(have e29:A.eval (.tmp 29)=.pointer (some ⟨mb,0,none⟩):=h.d 2 29;refine zAA rfl ?_;simp only[execOp,e29];simp[go_sem])
      ·exact zAA rfl (zAC rfl (h.d 3 30) zBc ((H.call h.below).cell (i:=0) .zero 1)) (by decide)
      ·(have e7:A.eval (.tmp 7)=.pointer (some ⟨b7,0,none⟩):=h.f 7;refine zAA rfl ?_;simp only[execOp,e7];simp[go_sem])
      ·exact zAA rfl (zAC rfl (h.d 5 32) zAH (((H.call h.below).cell (i:=13) i_13 0).trans (yg0 e1))) (by decide)
      ·exact zAo (sz:=1) Tryz.underlying27 (fun w=>by kernel_rfl) rfl rfl (h.d 4 31) (h.d 6 33) HK.out.1 (by rw[Nat.zero_add,Nat.mul_one]) (by decide)
      ·exact zAA rfl (zAC rfl (h.d 7 34) zAH ((H.call h.below).row1 (i:=1) i_1 HMV.out)) (by decide)
      ·exact zAA rfl (zAC rfl (h.f 4) zAH ((H.call h.below).cell (i:=8) i_8 0)) (by decide)
      ·exact zAA rfl (zLI rfl (h.d 9 36) rfl rfl (zMo i) (zNK HIL.out)) (by decide)
      ·exact zAA rfl (zRO rfl (h.d 8 35) (h.d 10 37) hbv) (by decide)
     case en =>
      intro vals W hbw hv _;simp only[fa,Nat.reduceAdd];rw[e_ hv 0,e_ hv 1,e_ hv 2,e_ hv 3,e_ hv 4,e_ hv 5,e_ hv 6,e_ hv 7,e_ hv 8,e_ hv 9,e_ hv 10,e_ hv 11];clear hv
      try simp only[pl]
      replace H:=H.call hbw;clear hbw
      cases bv with
      | true =>
       have hbv:=beq_iff_eq.1 hbv;clear d1 d2
       go_wp2_with fail
       exact FIN.out td' _ _ _ _ _ _ _ _ _ _ tn htn (HI.out.seen (HMD.out.trans hbv)) HN0.out HO HN (H.take 13)
      | false =>
       have hbv:=beq_eq_false_iff_ne.1 hbv;have HNE:=Lib.hid (show marks.getD e1.1 0≠(i:Int)+1 by rw[HMD.out];exact hbv)
       have HMS:=Lib.hid (show (marks.map (Value.int .i64)).set e1.1 (.int .i64 ((i:Int)+1))=(marks.set e1.1 ((i:Int)+1)).map (.int .i64) by rw[List.map_set])
       have HML:=Lib.hid (show (marks.map (Value.int .i64)).length=ps.length by rw[List.length_map];exact HI.out.len)
       clear hbv d1 d2
       go_upto_region 5 with fail
       refine wr_ 10 [fun v _=>v=pt mb 0,fun v _=>v=pt mb 0,fun v _=>v=pt mb 0,fun v _=>v=pt mb 1,fun v _=>v=.slice (some ⟨gm,0,none⟩) ps.length mc,fun v _=>v=pt b7 0,fun v _=>v=.int .i64 (e1.1:Nat),fun v _=>v=.int .i64 (i:Nat),fun v _=>v=.int .i64 ((i:Int)+1),fun v _=>v=.pointer (some ⟨gm,e1.1,none⟩)] ?ob ?en
       case ob =>
        refine⟨?_,?_,?_,?_,?_,?_,?_,?_,?_,?_,trivial⟩<;>intro A W h
        ·exact zAA rfl (zAC rfl (h.f 3) zBy ((H.call h.below).cell (i:=6) i_6 0)) (by decide)
        ·(have e39:A.eval (.tmp 39)=.pointer (some ⟨mb,0,none⟩):=h.d 0 39;refine zAA rfl ?_;simp only[execOp,e39];simp[go_sem])
        ·(have e40:A.eval (.tmp 40)=.pointer (some ⟨mb,0,none⟩):=h.d 1 40;refine zAA rfl ?_;simp only[execOp,e40];simp[go_sem])
        ·(have e41:A.eval (.tmp 41)=.pointer (some ⟨mb,0,none⟩):=h.d 2 41;refine zAA rfl ?_;simp only[execOp,e41];simp[go_sem])
        ·exact zAA rfl (zAC rfl (h.d 3 42) zBc ((H.call h.below).cell (i:=0) (.zero) 1)) (by decide)
        ·(have e7:A.eval (.tmp 7)=.pointer (some ⟨b7,0,none⟩):=h.f 7;refine zAA rfl ?_;simp only[execOp,e7];simp[go_sem])
        ·exact zAA rfl (zAC rfl (h.d 5 44) zAH (((H.call h.below).cell (i:=13) i_13 0).trans (yg0 e1))) (by decide)
        ·exact zAA rfl (zAC rfl (h.f 4) zAH ((H.call h.below).cell (i:=8) i_8 0)) (by decide)
        ·exact zAA rfl (zLI rfl (h.d 7 46) rfl rfl (zMo i) (zNK HIL.out)) (by decide)
        ·exact zAo (sz:=1) Tryz.underlying27 (fun w=>by kernel_rfl) rfl rfl (h.d 4 43) (h.d 6 45) HK.out.1 (by rw[Nat.zero_add,Nat.mul_one]) (by decide)
       case en =>
        intro vals W hbw hv _;simp only[fa,Nat.reduceAdd];rw[e_ hv 0,e_ hv 1,e_ hv 2,e_ hv 3,e_ hv 4,e_ hv 5,e_ hv 6,e_ hv 7,e_ hv 8,e_ hv 9];clear hv
        try simp only[pl]
        replace H:=H.call hbw;clear hbw
        go_upto_region 6 with (first|((with_reducible refine gT ?_);refine zDs wtd_ _ _ _ rfl rfl (v:=.int .i64 ((i:Int)+1)) evd_ H (j:=1) i_1 HML.out (zAI zAH) rfl HK.out.1 ?_;clear H;intro w H;simp only[sc]at H))
        rw[HMS.out]at H;obtain⟨x,hx⟩:∃ x,ps[e1.1]?=some x:=⟨_,List.getElem?_eq_getElem HK.out.1⟩;have HX2:=Lib.hid hx;have HRI:=Lib.hid (zHB hR hx);obtain⟨bp,op,hpp⟩:=(H.kn (i:=3) i_3).at (Nat.lt_of_le_of_lt (Nat.zero_le _) HK.out.1);subst hpp;have HCE:=Lib.hid (fun V (h:InstsR Fp (some ⟨bp,op,none⟩) cp ps V)=>(h.cells hx rfl:∀ q,q<9→V.cell? ⟨bp,op+e1.1 * 9+q,none⟩=(zAY x)[q]?))
        clear hx;refine zAr 9 [fun v _=>v=pt mb 0,fun v _=>v=pt mb 0,fun v _=>v=pt mb 2,fun v _=>v=.slice (some ⟨bp,op,none⟩) ps.length cp,fun v _=>v=pt b7 0,fun v _=>v=.int .i64 (e1.1:Nat),fun v _=>v=.pointer (some ⟨bp,op+e1.1 * 9,none⟩),fun v _=>v=zAu x,zGc w.heap.size (zAY {kind:=0}) 43] (fun _=>false) (by kernel_rfl) (by kernel_rfl) (by kernel_rfl) (by repeat (first|exact trivial|refine⟨zAF _,?_⟩|refine⟨zCv _ _ _,?_⟩)) (fun _ _ h=>by cases h) ?ob ?en
        case ob =>
         refine⟨?_,?_,?_,?_,?_,?_,?_,?_,?_,trivial⟩<;>intro A W h
         ·exact zAA rfl (zAC rfl (h.f 3) zBy ((H.call h.below).cell (i:=6) i_6 0)) (by decide)
         ·(have e49:A.eval (.tmp 49)=.pointer (some ⟨mb,0,none⟩):=h.d 0 49;refine zAA rfl ?_;simp only[execOp,e49];simp[go_sem])
         ·(have e50:A.eval (.tmp 50)=.pointer (some ⟨mb,0,none⟩):=h.d 1 50;refine zAA rfl ?_;simp only[execOp,e50];simp[go_sem])
         ·exact zAA rfl (zAC rfl (h.d 2 51) zB7 ((H.call h.below).cell (i:=0) (.zero) 2)) (by decide)
         ·(have e7:A.eval (.tmp 7)=.pointer (some ⟨b7,0,none⟩):=h.f 7;refine zAA rfl ?_;simp only[execOp,e7];simp[go_sem])
         ·exact zAA rfl (zAC rfl (h.d 4 53) zAH (((H.call h.below).cell (i:=13) i_13 0).trans (yg0 e1))) (by decide)
         ·exact zAo (sz:=9) Tryz.underlying22 (fun w=>by kernel_rfl) rfl rfl (h.d 3 52) (h.d 5 54) HK.out.1 rfl (by decide)
         ·exact zAA rfl (zAb rfl (h.d 6 55) zAk rfl (HCE.out _ ((H.call h.below).kn (i:=3) i_3))) (by decide)
         ·exact zFx rfl rfl (by kernel_rfl) zIr h.below.size (by decide)
        case en =>
         intro vals W hbw hv _;have x8:=hv 8 (by omega);simp only[zAh]at x8
         simp only[fa,Nat.reduceAdd];rw[e_ hv 0,e_ hv 1,e_ hv 2,e_ hv 3,e_ hv 4,e_ hv 5,e_ hv 6,e_ hv 7];clear hv
         try simp only[pl]
         try simp only[pl]
         obtain⟨b8,e8,H8⟩:=H.gainB hbw x8;rw[e8];clear x8 e8 H hbw;have H:=H8;clear H8;simp only[ca]at H
         go_upto_region 8 with (first|(first|((with_reducible refine gTi ?_);refine aTi H ?_;clear H;intro w H;try simp only[nr]at H)|((with_reducible refine gL ?_);refine aGi H ?_)))
         have hnx:=fun h=>zDG HRI.out h
         have HINT:=Lib.hid (fun V (h:WK us V)=>zRY h HK.out.2)
         by_cases k2:x.kind=2
         ·have hot:=zG7 HRI.out k2;have hnx:=hnx (.inr (.inl k2));have d2:(x.kind == 2)=true:=by rw[beq_iff_eq];exact k2
          have k2':=Lib.hid k2;clear k2;have k2:=k2';clear k2'
          go_upto_region 9 with fail
          refine ws_ 11 [fun v _=>v=.slice (some ⟨gt,0,none⟩) tn tc,fun v _=>v=pt b8 6,fun v _=>v=.int .i64 x.other,fun v _=>v=pt b7 1,fun v _=>v=.slice e1.2.2.1 e1.2.1.length e1.2.2.2,fun v _=>v=.agg (wayC (x.other.toNat,e1.2)),fun v _=>v=pt b8 5,fun v _=>v=.int .i64 x.next,fun v _=>v=pt b7 1,fun v _=>v=.slice e1.2.2.1 e1.2.1.length e1.2.2.2,fun v _=>v=.agg (wayC (x.next.toNat,e1.2))] ?ob ?en
          case ob =>
           refine⟨?_,?_,?_,?_,?_,?_,?_,?_,?_,?_,?_,trivial⟩<;>intro A W h
           ·exact zAB rfl rfl (h.f 6)
           ·(have e8:A.eval (.tmp 8)=.pointer (some ⟨b8,0,none⟩):=h.f 8;refine zAA rfl ?_;simp only[execOp,e8];simp[go_sem])
           ·exact zAA rfl (zAC rfl (h.d 1 62) zAH (((H.call h.below).cell (i:=14) i_14 6).trans (ig6 x))) (by decide)
           ·(have e7:A.eval (.tmp 7)=.pointer (some ⟨b7,0,none⟩):=h.f 7;refine zAA rfl ?_;simp only[execOp,e7];simp[go_sem])
           ·exact zAA rfl (zAC rfl (h.d 3 64) zBc (((H.call h.below).cell (i:=13) i_13 1).trans (yg1 e1))) (by decide)
           ·exact zAA rfl (zFb rfl (h.d 2 63) (h.d 4 65) hot.1) (by decide)
           ·(have e8:A.eval (.tmp 8)=.pointer (some ⟨b8,0,none⟩):=h.f 8;refine zAA rfl ?_;simp only[execOp,e8];simp[go_sem])
           ·exact zAA rfl (zAC rfl (h.d 6 67) zAH (((H.call h.below).cell (i:=14) i_14 5).trans (ig5 x))) (by decide)
           ·(have e7:A.eval (.tmp 7)=.pointer (some ⟨b7,0,none⟩):=h.f 7;refine zAA rfl ?_;simp only[execOp,e7];simp[go_sem])
           ·exact zAA rfl (zAC rfl (h.d 8 69) zBc (((H.call h.below).cell (i:=13) i_13 1).trans (yg1 e1))) (by decide)
           ·exact zAA rfl (zFb rfl (h.d 7 68) (h.d 9 70) hnx.1) (by decide)
          case en =>
           intro vals W hbw hv _;simp only[fa,Nat.reduceAdd];rw[e_ hv 0,e_ hv 1,e_ hv 2,e_ hv 3,e_ hv 4,e_ hv 5,e_ hv 6,e_ hv 7,e_ hv 8,e_ hv 9,e_ hv 10];clear hv
           try simp only[pl]
           replace H:=H.call hbw;clear hbw
           go_wp2_with (first|((with_reducible refine gBS ?_);refine zAL wtd_ _ _ _ rfl H (wayC (x.other.toNat,e1.2)++wayC (x.next.toNat,e1.2)) 58 (by intro W;simp only[ml];(try simp only[pe]);exact zMj _ _ W) ?_;clear H;intro bt2 w H;simp only[ca]at H)|(at_builtin;refine zAX rfl _ _ 50 rfl H (i:=11) (j:=15) evd_ rfl i_11 i_15 Tryz.underlying50 hiw hi0 hi1 hi2 rfl (by decide) rfl rfl (zF2 htop (by decide)) (zEW htop (by decide)) ?_;clear H;intro v2 w H;simp only[sc]at H;(obtain⟨q3,c3,rfl,_,_,_⟩:=H.rowShape (i:=11) i_11))|fail)
           rw[zMC]at H;exact FIN.out (td'++[(x.other.toNat,e1.2),(x.next.toNat,e1.2)]) _ _ _ _ _ _ _ _ _ _ (tn+2) (by rw[List.length_append,htn];rfl) (HI.out.split HNE.out HX2.out k2.out hnx hot) HN0.out HO HN (H.take 13)
         ·have d2:(x.kind == 2)=false:=by rw[beq_eq_false_iff_ne];exact k2
          by_cases k3:x.kind=3
          ·have hsl:=zH8 HRI.out k3;have hnx:=hnx (.inr (.inr (.inl k3)));have d3:(x.kind == 3)=true:=by rw[beq_iff_eq];exact k3
           have HSZ:=Lib.hid (show e1.2.1.length≤1000000∧x.slot.toNat<e1.2.1.length from zNV HI.out HX2.out hms hms2)
           have k3':=Lib.hid k3;clear k3;have k3:=k3';clear k3'
           go_upto_region 11 with fail
           have hbM:=(Array.getElem?_eq_some_iff.1 (H.blk (i:=6) i_6).2).1;refine zAr 11 [fun v _=>v=.slice (some ⟨gt,0,none⟩) tn tc,fun v _=>v=pt b8 5,fun v _=>v=.int .i64 x.next,fun v _=>v=.int .i64 (i:Nat),fun v _=>v=pt b8 7,fun v _=>v=.int .i64 (x.slot.toNat:Nat),fun v _=>v=pt b7 1,fun v _=>v=.slice e1.2.2.1 e1.2.1.length e1.2.2.2,zLU w.heap.size (e1.2.1.set x.slot.toNat (i:Int)),zLP w.heap.size x.next.toNat (e1.2.1.set x.slot.toNat (i:Int)),zK5 w.heap.size x.next.toNat (e1.2.1.set x.slot.toNat (i:Int))] (fun _=>false) (by kernel_rfl) (by kernel_rfl) (by kernel_rfl) (by repeat (first|exact trivial|refine⟨zAF _,?_⟩|refine⟨zIu _ _,?_⟩|refine⟨zIc _ _ _,?_⟩|refine⟨zIg _ _ _,?_⟩)) (fun _ _ h=>by cases h) ?ob ?en
           case ob =>
            refine⟨?_,?_,?_,?_,?_,?_,?_,?_,?_,?_,?_,trivial⟩<;>intro A W h
            ·exact zAB rfl rfl (h.f 6)
            ·(have e8:A.eval (.tmp 8)=.pointer (some ⟨b8,0,none⟩):=h.f 8;refine zAA rfl ?_;simp only[execOp,e8];simp[go_sem])
            ·exact zAA rfl (zAC rfl (h.d 1 77) zAH (((H.call h.below).cell (i:=14) i_14 5).trans (ig5 x))) (by decide)
            ·exact zAA rfl (zAC rfl (h.f 4) zAH ((H.call h.below).cell (i:=8) i_8 0)) (by decide)
            ·(have e8:A.eval (.tmp 8)=.pointer (some ⟨b8,0,none⟩):=h.f 8;refine zAA rfl ?_;simp only[execOp,e8];simp[go_sem])
            ·exact zAA rfl (zAC rfl (h.d 4 80) zAH (((H.call h.below).cell (i:=14) i_14 7).trans ((ig7 x).trans (by rw[Int.toNat_of_nonneg hsl.1])))) (by decide)
            ·(have e7:A.eval (.tmp 7)=.pointer (some ⟨b7,0,none⟩):=h.f 7;refine zAA rfl ?_;simp only[execOp,e7];simp[go_sem])
            ·exact zAA rfl (zAC rfl (h.d 6 82) zBc (((H.call h.below).cell (i:=13) i_13 1).trans (yg1 e1))) (by decide)
            ·exact zDO rfl rfl (enters_of Tryz.func76 (by kernel_rfl) rfl) (zJi ⟨h.d 3 79,h.d 5 81,h.d 7 83⟩) ((zPK i x.slot.toNat _ _ e1.2.1 (FW us) W HSZ.out.1 HSZ.out.2 ((H.call h.below).knlt (i:=5) i_5) (HINT.out _ ((H.call h.below).kn (i:=5) i_5))).mono (fun e w' hh=>zMA h.below.size (fun h=>by cases h) hh))
            ·exact zM7 rfl rfl (h.d 2 78) (h.d 8 84) hnx.1 (by decide)
            ·exact zNj rfl rfl (h.d 9 85) h.below.size (by decide)
           case en =>
            intro vals W hbw hv _;have x8:=hv 8 (by omega);simp only[zAh]at x8
            have x9:=hv 9 (by omega);simp only[zAh]at x9
            have x10:=hv 10 (by omega);simp only[zAh]at x10
            simp only[fa,Nat.reduceAdd];rw[e_ hv 0,e_ hv 1,e_ hv 2,e_ hv 3,e_ hv 4,e_ hv 5,e_ hv 6,e_ hv 7];clear hv
            try simp only[pl]
            try simp only[pl]
            obtain⟨bk,q2,c2,e10,hus,H8⟩:=H.gainNoted hbw (i:=5) i_5 x10 (by rw[List.length_set];exact Nat.lt_of_le_of_lt (Nat.zero_le _) HSZ.out.2)
            rw[e10];clear x8 x9 x10 e10 H hbw;have H:=H8;clear H8;simp only[List.cons_append,List.nil_append,List.set_cons_succ,List.set_cons_zero]at H
            go_wp2_with (first|(at_builtin;refine zAX rfl _ _ 50 rfl H (i:=11) (j:=15) evd_ rfl i_11 i_15 Tryz.underlying50 hiw hi0 hi1 hi2 rfl (by decide) rfl rfl (zF2 htop (by decide)) (zEW htop (by decide)) ?_;clear H;intro v2 w H;simp only[sc]at H;(obtain⟨q3,c3,rfl,_,_,_⟩:=H.rowShape (i:=11) i_11))|fail)
            rw[zCr]at H;exact FIN.out (td'++[(x.next.toNat,e1.2.1.set x.slot.toNat (i:Int),q2,c2)]) _ _ _ _ _ _ _ _ _ _ (tn+1) (by rw[List.length_append,htn];rfl) (HI.out.save HNE.out HX2.out k3.out hnx q2 c2) HN0.out (Lib.hid (fun b h=>(hus b h).elim (HO.out b) (fun h=>.inr (Nat.lt_of_lt_of_le hbM h)))) HN (H.take 13)
          ·have d3:(x.kind == 3)=false:=by rw[beq_eq_false_iff_ne];exact k3
           by_cases k4:x.kind=4
           ·have hnx:=hnx (.inr (.inr (.inr k4)));have d4:(x.kind == 4)=true:=by rw[beq_iff_eq];exact k4
            have k4':=Lib.hid k4;clear k4;have k4:=k4';clear k4'
            cases hsp:zCS x.spot L i with
            | true =>
             have HSP:=Lib.hid (fun V (h1:∀ b,Fs b→b<V.heap.size) (h2:BytesR Fs psl csl L V)=>(by have:=zMt psl csl L Fs V h1 h2 x.spot i;rw[hsp]at this;exact this:Calls Tryz.prog 77 #[.int .i64 x.spot,.slice psl L.length csl,.int .i64 i] V fun e w'=>e=.returned (.bool true)∧Below V.heap.size V w'))
             go_upto_region 13 with fail
             refine wr_ 8 [fun v _=>v=pt b8 8,fun v _=>v=.int .i64 x.spot,fun v _=>v=pt mb 0,fun v _=>v=pt mb 0,fun v _=>v=pt mb 3,fun v _=>v=.slice psl L.length csl,fun v _=>v=.int .i64 (i:Nat),fun v _=>v=.bool true] ?ob ?en
             case ob =>
              refine⟨?_,?_,?_,?_,?_,?_,?_,?_,trivial⟩<;>intro A W h
              ·(have e8:A.eval (.tmp 8)=.pointer (some ⟨b8,0,none⟩):=h.f 8;refine zAA rfl ?_;simp only[execOp,e8];simp[go_sem])
              ·exact zAA rfl (zAC rfl (h.d 0 90) zAd (((H.call h.below).cell (i:=14) i_14 8).trans (ig8 x))) (by decide)
              ·exact zAA rfl (zAC rfl (h.f 3) zBy ((H.call h.below).cell (i:=6) i_6 0)) (by decide)
              ·(have e92:A.eval (.tmp 92)=.pointer (some ⟨mb,0,none⟩):=h.d 2 92;refine zAA rfl ?_;simp only[execOp,e92];simp[go_sem])
              ·(have e93:A.eval (.tmp 93)=.pointer (some ⟨mb,0,none⟩):=h.d 3 93;refine zAA rfl ?_;simp only[execOp,e93];simp[go_sem])
              ·exact zAA rfl (zAC rfl (h.d 4 94) zBI ((H.call h.below).cell (i:=0) (.zero) 3)) (by decide)
              ·exact zAA rfl (zAC rfl (h.f 4) zAH ((H.call h.below).cell (i:=8) i_8 0)) (by decide)
              ·exact zAm rfl rfl (enters_of Tryz.func77 (by kernel_rfl) rfl) (zJi ⟨(h.d 1 91),(h.d 5 95),(h.d 6 96)⟩) (HSP.out W ((H.call h.below).knlt (i:=4) i_4) ((H.call h.below).kn (i:=4) i_4))
             case en =>
              intro vals W hbw hv _;simp only[fa,Nat.reduceAdd];rw[e_ hv 0,e_ hv 1,e_ hv 2,e_ hv 3,e_ hv 4,e_ hv 5,e_ hv 6,e_ hv 7];clear hv
              try simp only[pl]
              try simp only[pl]
              replace H:=H.call hbw;clear hbw
              go_upto_region 14 with fail
              refine ws_ 6 [fun v _=>v=.slice (some ⟨gt,0,none⟩) tn tc,fun v _=>v=pt b8 5,fun v _=>v=.int .i64 x.next,fun v _=>v=pt b7 1,fun v _=>v=.slice e1.2.2.1 e1.2.1.length e1.2.2.2,fun v _=>v=.agg (wayC (x.next.toNat,e1.2))] ?ob ?en
              case ob =>
               refine⟨?_,?_,?_,?_,?_,?_,trivial⟩<;>intro A W h
               ·exact zAB rfl rfl (h.f 6)
               ·(have e8:A.eval (.tmp 8)=.pointer (some ⟨b8,0,none⟩):=h.f 8;refine zAA rfl ?_;simp only[execOp,e8];simp[go_sem])
               ·exact zAA rfl (zAC rfl (h.d 1 99) zAH (((H.call h.below).cell (i:=14) i_14 5).trans (ig5 x))) (by decide)
               ·(have e7:A.eval (.tmp 7)=.pointer (some ⟨b7,0,none⟩):=h.f 7;refine zAA rfl ?_;simp only[execOp,e7];simp[go_sem])
               ·exact zAA rfl (zAC rfl (h.d 3 101) zBc (((H.call h.below).cell (i:=13) i_13 1).trans (yg1 e1))) (by decide)
               ·exact zAA rfl (zFb rfl (h.d 2 100) (h.d 4 102) hnx.1) (by decide)
              case en =>
               intro vals W hbw hv _;simp only[fa,Nat.reduceAdd];rw[e_ hv 0,e_ hv 1,e_ hv 2,e_ hv 3,e_ hv 4,e_ hv 5];clear hv
               try simp only[pl]
               replace H:=H.call hbw;clear hbw
               go_wp2_with (first|((with_reducible refine gBS ?_);refine zAL wtd_ _ _ _ rfl H (wayC (x.next.toNat,e1.2)) 58 (by intro W;simp only[ml];(try simp only[pe]);exact zFy _ W) ?_;clear H;intro bt2 w H;simp only[ca]at H)|(at_builtin;refine zAX rfl _ _ 50 rfl H (i:=11) (j:=15) evd_ rfl i_11 i_15 Tryz.underlying50 hiw hi0 hi1 hi2 rfl (by decide) rfl rfl (zF2 htop (by decide)) (zEW htop (by decide)) ?_;clear H;intro v2 w H;simp only[sc]at H;(obtain⟨q3,c3,rfl,_,_,_⟩:=H.rowShape (i:=11) i_11))|fail)
               rw[zCr]at H;exact FIN.out (td'++[(x.next.toNat,e1.2)]) _ _ _ _ _ _ _ _ _ _ (tn+1) (by rw[List.length_append,htn];rfl) (HI.out.spotT HNE.out HX2.out k4.out hnx hsp) HN0.out HO HN (H.take 13)
            | false =>
             have HSP:=Lib.hid (fun V (h1:∀ b,Fs b→b<V.heap.size) (h2:BytesR Fs psl csl L V)=>(by have:=zMt psl csl L Fs V h1 h2 x.spot i;rw[hsp]at this;exact this:Calls Tryz.prog 77 #[.int .i64 x.spot,.slice psl L.length csl,.int .i64 i] V fun e w'=>e=.returned (.bool false)∧Below V.heap.size V w'))
             go_upto_region 13 with fail
             refine wr_ 8 [fun v _=>v=pt b8 8,fun v _=>v=.int .i64 x.spot,fun v _=>v=pt mb 0,fun v _=>v=pt mb 0,fun v _=>v=pt mb 3,fun v _=>v=.slice psl L.length csl,fun v _=>v=.int .i64 (i:Nat),fun v _=>v=.bool false] ?ob ?en
             case ob =>
              refine⟨?_,?_,?_,?_,?_,?_,?_,?_,trivial⟩<;>intro A W h
              ·(have e8:A.eval (.tmp 8)=.pointer (some ⟨b8,0,none⟩):=h.f 8;refine zAA rfl ?_;simp only[execOp,e8];simp[go_sem])
              ·exact zAA rfl (zAC rfl (h.d 0 90) zAd (((H.call h.below).cell (i:=14) i_14 8).trans (ig8 x))) (by decide)
              ·exact zAA rfl (zAC rfl (h.f 3) zBy ((H.call h.below).cell (i:=6) i_6 0)) (by decide)
              ·(have e92:A.eval (.tmp 92)=.pointer (some ⟨mb,0,none⟩):=h.d 2 92;refine zAA rfl ?_;simp only[execOp,e92];simp[go_sem])
              ·(have e93:A.eval (.tmp 93)=.pointer (some ⟨mb,0,none⟩):=h.d 3 93;refine zAA rfl ?_;simp only[execOp,e93];simp[go_sem])
              ·exact zAA rfl (zAC rfl (h.d 4 94) zBI ((H.call h.below).cell (i:=0) (.zero) 3)) (by decide)
              ·exact zAA rfl (zAC rfl (h.f 4) zAH ((H.call h.below).cell (i:=8) i_8 0)) (by decide)
              ·exact zAm rfl rfl (enters_of Tryz.func77 (by kernel_rfl) rfl) (zJi ⟨(h.d 1 91),(h.d 5 95),(h.d 6 96)⟩) (HSP.out W ((H.call h.below).knlt (i:=4) i_4) ((H.call h.below).kn (i:=4) i_4))
             case en =>
              intro vals W hbw hv _;simp only[fa,Nat.reduceAdd];rw[e_ hv 0,e_ hv 1,e_ hv 2,e_ hv 3,e_ hv 4,e_ hv 5,e_ hv 6,e_ hv 7];clear hv
              try simp only[pl]
              try simp only[pl]
              replace H:=H.call hbw;clear hbw
              go_wp2_with fail
              exact FIN.out td' _ _ _ _ _ _ _ _ _ _ tn htn (HI.out.spotF HNE.out HX2.out k4.out hsp) HN0.out HO HN (H.take 13)
           ·have d4:(x.kind == 4)=false:=by rw[beq_eq_false_iff_ne];exact k4
            by_cases k1:x.kind=1
            ·have d1:(x.kind == 1)=true:=by rw[beq_iff_eq];exact k1
             have k15:x.kind=1∨x.kind=5:=.inl k1;have k15':=Lib.hid k15;clear k15 k1 hnx;have k15:=k15';clear k15'
             go_upto_region 17 with fail
             have I2:=Lib.hid (HI.out.out HNE.out HX2.out k15.out);rw[← wpIn_wide (n:=k+1)];refine wpIn_region_lit (zE6 (v:=.func (.yield l) #[] #[]) rfl (zF4 rfl rfl) (zE6 rfl (zAb rfl rfl zFL (zDr e1) (fun j _=>by rw[Nat.zero_add];exact H.cell (i:=13) i_13 j)) (zJ6 rfl rfl rfl rfl (HY.out nq nc ys us (marks.set e1.1 ((i:Int)+1)) e1 [.blk bM #[.pointer (some ⟨mb,0,none⟩)] 49,.blk bA #[.int .i64 e.1] 3,.blk bI #[.int .i64 i] 3,.blk bS #[.slice e.2.2.1 e.2.1.length e.2.2.2] 27,.row (.slice (some ⟨gt,0,none⟩) tn tc) 58 2 tn (zAP (td'.map wayC)),.blk b7 (wayC e1) 58,.blk b8 (zAY x) 43] _ HK.out.2 zK7 (by have:=I2.out.room;rw[List.length_append]at this;exact Nat.lt_of_lt_of_le (Nat.lt_succ_self _) (Nat.le_trans (Nat.le_add_right _ _) this)) (H.pick [0,1,2,3,4,5,10,6,7,8,9,11,13,14] _ (by decide) rfl) (HN.out _ (H.kn (i:=12) i_12))) ?_)))
             rintro w' ⟨⟨nq',nc',H'⟩,hB'⟩;refine zE6 (v:=.bool false) rfl (zNv (b:=true) rfl rfl) (wpListIn_nil ?_);simp only[pl];obtain⟨nF',nS',HN',H2⟩:=H'.ncB (by intro r hr b es c e;subst e;simp[memL]at hr) HB hB'
             clear H H' hB'
             go_wp2_with fail
             exact FIN.out td' _ _ _ _ _ _ _ _ _ _ tn htn I2.out HN0.out HO HN' (H2.pick [0,1,2,3,4,5,7,8,9,10,6,11,14] _ (by decide) rfl)
            ·have d1:(x.kind == 1)=false:=by rw[beq_eq_false_iff_ne];exact k1
             by_cases k5:x.kind=5
             ·have d5:(x.kind == 5)=true:=by rw[beq_iff_eq];exact k5
              have k15:x.kind=1∨x.kind=5:=.inr k5;have k15':=Lib.hid k15;clear k15 k5 hnx;have k15:=k15';clear k15'
              go_upto_region 17 with fail
              have I2:=Lib.hid (HI.out.out HNE.out HX2.out k15.out);rw[← wpIn_wide (n:=k+1)];refine wpIn_region_lit (zE6 (v:=.func (.yield l) #[] #[]) rfl (zF4 rfl rfl) (zE6 rfl (zAb rfl rfl zFL (zDr e1) (fun j _=>by rw[Nat.zero_add];exact H.cell (i:=13) i_13 j)) (zJ6 rfl rfl rfl rfl (HY.out nq nc ys us (marks.set e1.1 ((i:Int)+1)) e1 [.blk bM #[.pointer (some ⟨mb,0,none⟩)] 49,.blk bA #[.int .i64 e.1] 3,.blk bI #[.int .i64 i] 3,.blk bS #[.slice e.2.2.1 e.2.1.length e.2.2.2] 27,.row (.slice (some ⟨gt,0,none⟩) tn tc) 58 2 tn (zAP (td'.map wayC)),.blk b7 (wayC e1) 58,.blk b8 (zAY x) 43] _ HK.out.2 zK7 (by have:=I2.out.room;rw[List.length_append]at this;exact Nat.lt_of_lt_of_le (Nat.lt_succ_self _) (Nat.le_trans (Nat.le_add_right _ _) this)) (H.pick [0,1,2,3,4,5,10,6,7,8,9,11,13,14] _ (by decide) rfl) (HN.out _ (H.kn (i:=12) i_12))) ?_)))
              rintro w' ⟨⟨nq',nc',H'⟩,hB'⟩;refine zE6 (v:=.bool false) rfl (zNv (b:=true) rfl rfl) (wpListIn_nil ?_);simp only[pl];obtain⟨nF',nS',HN',H2⟩:=H'.ncB (by intro r hr b es c e;subst e;simp[memL]at hr) HB hB'
              clear H H' hB'
              go_wp2_with fail
              exact FIN.out td' _ _ _ _ _ _ _ _ _ _ tn htn I2.out HN0.out HO HN' (H2.pick [0,1,2,3,4,5,7,8,9,10,6,11,14] _ (by decide) rfl)
             ·have d5:(x.kind == 5)=false:=by rw[beq_eq_false_iff_ne];exact k5
              have KO:=Lib.hid (HI.out.other HNE.out HX2.out k2 k3 k4 k1 k5)
              go_wp2_with fail
              exact FIN.out td' _ _ _ _ _ _ _ _ _ _ tn htn KO.out HN0.out HO HN (H.take 13)
  ·obtain rfl:td=[]:=List.length_eq_zero_iff.1 (by omega)
   go_wp2_with (first|fail)
   rw[Exit.noGoto_normal]
   go_end0
   refine⟨HN.out _ (H.kn (i:=12) i_12),⟨_,rfl⟩,nq,nc,ys,us,marks,n,HI.out,HO.out,H.take 11⟩
end
section
open Go.RowKit
section
variable {M:Nat→Prop} {w0 w w':World} {l l' ls a a' ext:List Res}
theorem HoldG.gainAll (H:HoldG M w0 w l) (K:Hold w w' ls) (hk:∀ r ∈ ls,∀ F S,r≠.kn F S):HoldG M w0 w' (l++ls):=by
 have H':=H.call K.below;have hi:∀ (i:Nat) (r:Res),(l++ls)[i]?=some r→(i<l.length∧l[i]?=some r)∨(l.length≤i∧ls[i - l.length]?=some r):=by
  intro i r h;rw[List.getElem?_append]at h;split at h
  ·exact .inl ⟨by assumption,h⟩
  ·exact .inr ⟨by omega,h⟩
 have hp:∀ (i:Nat) (r:Res),ls[i]?=some r→∀ b,r.foot b→w.heap.size≤b:=by
  intro i r h b hb;have hpl:=zHi (hk r (List.mem_of_getElem? h)) hb;exact((K.all i r h).lt b hpl).1.elim id False.elim
 refine⟨H'.keep,fun i r h=>?_,fun i j r s hij h1 h2=>?_⟩
 ·rcases hi i r h with ⟨_,h⟩|⟨_,h⟩
  ·exact H'.all i r h
  ·have hA:=K.all _ r h;have hl:=hk r (List.mem_of_getElem? h);have hge:=H.keep.size
   cases r with
   | blk b cs T=>exact⟨.inl (Nat.le_trans hge (hA.1.elim id False.elim)),hA.2⟩
   | row v e sz n xs =>
    have h9:w'.ownsRow w.heap.size e sz v n xs:=hA;exact h9.mono hge
   | mp b es c=>exact⟨Nat.le_trans hge hA.1,hA.2⟩
   | kn F S=>exact absurd rfl (hl F S)
 ·rcases hi i r h1 with ⟨_,h1⟩|⟨e1,h1⟩
  ·rcases hi j s h2 with ⟨_,h2⟩|⟨e2,h2⟩
   ·exact H.apart i j r s hij h1 h2
   ·intro b hb hf;have a1:=((H.all i r h1).lt b hb).2;have a2:=hp _ s h2 b hf;omega
  ·rcases hi j s h2 with ⟨_,h2⟩|⟨e2,h2⟩
   ·intro b hb hf;have a1:=hp _ r h1 b (Res.place_foot hb);have a2:=(H.all j s h2).ltf b hf;omega
   ·exact K.apart _ _ r s (by omega) h1 h2
theorem HoldG.ofPairs (hk:KeepBut M w0.heap.size w0 w) (ha:∀ r ∈ l,r.Holds M w0.heap.size w) (hp:l.Pairwise (fun r s=>zKR r s∧zKR s r)):HoldG M w0 w l:=by
 refine⟨hk,fun i r h=>ha r (List.mem_of_getElem? h),fun i j r s hij h1 h2=>?_⟩
 rw[List.pairwise_iff_getElem]at hp;obtain⟨hi,rfl⟩:=List.getElem?_eq_some_iff.1 h1;obtain⟨hj,rfl⟩:=List.getElem?_eq_some_iff.1 h2;rcases Nat.lt_or_gt_of_ne hij with h|h
 ·exact(hp i j hi hj h).1
 ·exact(hp j i hj hi h).2
theorem HoldG.pairs (H:HoldG M w0 w l):l.Pairwise (fun r s=>zKR r s∧zKR s r):=by
 rw[List.pairwise_iff_getElem];intro i j hi hj hij;exact⟨H.apart i j _ _ (by omega) (List.getElem?_eq_getElem hi) (List.getElem?_eq_getElem hj),H.apart j i _ _ (by omega) (List.getElem?_eq_getElem hj) (List.getElem?_eq_getElem hi)⟩
theorem HoldG.permL (H:HoldG M w0 w l) (h:l.Perm l'):HoldG M w0 w l':=by
 refine HoldG.ofPairs H.keep (fun r hr=>?_) ((h.pairwise_iff (fun {x y} hxy=>⟨hxy.2,hxy.1⟩)).1 H.pairs)
 obtain⟨i,hi⟩:=List.getElem?_of_mem (h.mem_iff.2 hr);exact H.all i r hi
theorem HoldG.left (H:HoldG M w0 w (a++ext)):HoldG M w0 w a:=by
 have:=H.take a.length
 rwa [List.take_left']at this
 rfl
theorem HoldG.callL (H:HoldG M w0 w (a++ext)) (T:Turned M w0 w a a' w'):HoldG M w0 w' (a'++ext):=by
 refine H.callIn T (List.range a.length) (List.range' a.length ext.length) ?_ ?_ List.nodup_range' ?_
 ·apply List.ext_getElem?;intro i;rw[List.getElem?_map,List.getElem?_map]
  by_cases h:i<a.length
  ·rw[List.getElem?_range h];simp[List.getElem?_append_left h,List.getElem?_eq_getElem h]
  ·rw[List.getElem?_eq_none (by simp;omega),List.getElem?_eq_none (by omega)];rfl
 ·apply List.ext_getElem?;intro i;rw[List.getElem?_map,List.getElem?_map]
  by_cases h:i<ext.length
  ·rw[List.getElem?_range' h];simp[List.getElem?_append_right,List.getElem?_eq_getElem h]
  ·rw[List.getElem?_eq_none (by simp;omega),List.getElem?_eq_none (by omega)];rfl
 ·intro j hj hj';rw[List.mem_range]at hj;rw[List.mem_range']at hj';obtain⟨i,_,e⟩:=hj';omega
theorem HoldG.knowObj (H:HoldG M w0 w l) (hl:∀ r ∈ l,∀ b es c,r≠.mp b es c) {D:Nat} {o:Obj} (hD:w.heap[D]?=some o) (ho:o.isCells=false):HoldG M w0 w (l++[.kn (·=D) (fun V=>V.heap[D]?=some o)]):=by
 refine H.know _ _ (fun b hb=>by subst hb;exact(Array.getElem?_eq_some_iff.1 hD).1) (fun i r hi b hp hb=>?_) (fun V hV=>(hV D rfl).trans hD)
 subst hb;have hA:=H.all i r hi
 cases r with
 | blk b' cs U=>cases hp;rw[hA.2]at hD;cases hD;cases ho
 | row v e' sz n xs =>
  obtain⟨_,⟨hv,_⟩|⟨g,cap,cur,rfl,_,hg',_⟩⟩:=hA
  ·have h2:v.ownBlock=some b:=hp;rw[hv]at h2;cases h2
  ·have:g=b:=by simpa [Res.place,Value.ownBlock] using hp
   subst this;rw[hg']at hD;cases hD;cases ho
 | mp b' es c=>exact hl _ (List.mem_of_getElem? hi) _ _ _ rfl
 | kn F S=>cases hp
end
def zEm (Ds:List Nat) (V:World):Prop:=∀ D ∈ Ds,V.heap[D]?=some (.deferred (some []))
def zOR (Ds:List Nat):List Deferred:=Ds.map fun D=>{target:=.collected D,args:=#[]}
theorem zGo {P:Program} {n:Nat} {fn:Func} {tmps:Array Value} {R:Ending→World→Prop} {B:Nat} {I:World→Prop} (hst:Stay B I):∀ (Ds:List Nat) (W:World),I W→Ds.Nodup→(∀ D ∈ Ds,B≤D)→zEm Ds W →
  (∀ W',I W'→∃ v,(results fn tmps).run P W'=.ok v W'∧R (.returned v) W')→LeavesInM Fence.wide n P fn tmps R (zOR Ds) .returning W
 | [],W,hI,_,_,_,h=>h W hI
 | D::Ds,W,hI,hn,hB,hM,h=>by
  have hK:=hM D (List.mem_cons_self ..);have hBD:=hB D (List.mem_cons_self ..);refine⟨by simp,.inl ⟨D,_,rfl,run_takeDeferred hK,?_⟩⟩
  refine zGo hst Ds _ (hst.putObj (.deferred none) hI hBD hK rfl) (List.nodup_cons.1 hn).2 (fun D' h'=>hB D' (List.mem_cons_of_mem _ h')) (fun D' h'=>?_) h
  have hne:D'≠D:=fun e=>(List.nodup_cons.1 hn).1 (e ▸ h')
  exact(World.putObj_heap_other hne).trans (hM D' (List.mem_cons_of_mem _ h'))
end
section
open Go.RowKit Go.Shelf
attribute [local go_sem] Oper.semAt_some
section
variable {p:List InstD} {s:Str}
theorem zJH (i:Nat):∀ (a:List Way) (e:Way) (m:List Int),zBt p s i (a++[e]) m=((zAl p s i (zCU p) [e] (zBt p s i a m).1).1,(zBt p s i a m).2++(zAl p s i (zCU p) [e] (zBt p s i a m).1).2)
 | [],e,m=>by simp[zBt]
 | x::a,e,m=>by
  simp only[List.cons_append,zBt];rw[zJH i a e];simp
theorem zCI (i:Nat):∀ (n:Nat) (l:List Way) (m:List Int),∀ e ∈ (zAl p s i n l m).2,(atI p e.1).kind=1∨(atI p e.1).kind=5
 | 0,_,_=>fun _ h=>by cases h
 | _+1,[],_=>fun _ h=>by cases h
 | n+1,(k,sl)::r,m=>by
  simp only[zAl];split
  ·exact zCI i n r m
  split
  ·exact zCI i n _ _
  split
  ·exact zCI i n _ _
  split
  ·split
   ·exact zCI i n _ _
   ·exact zCI i n _ _
  split
  ·rename_i h;intro e he;rcases List.mem_cons.1 he with rfl|he
   ·exact h
   ·exact zCI i n _ _ e he
  ·exact zCI i n _ _
theorem zJO (i:Nat):∀ (l:List Way) (m:List Int),∀ e ∈ (zBt p s i l m).2,(atI p e.1).kind=1∨(atI p e.1).kind=5
 | [],_=>fun _ h=>by cases h
 | x::r,m=>fun e he=>by
  simp only[zBt]at he;exact(List.mem_append.1 he).elim (zCI i _ _ _ e) (zJO i r _ e)
end
theorem ItInv.start {ps:List InstD} {L:Str} {i:Nat} {e:WV} {m0:List Int} {ys0 us0:List WV} {ms:Nat} (hlen:m0.length=ps.length) (he:e.1<ps.length∧∃ u ∈ us0,e.2=u.2) (hg:∀ y ∈ ys0,∃ u ∈ us0,y.2=u.2) (hs:∀ u ∈ us0,u.2.1.length=ms) (hr:ys0.length+unm i m0≤ps.length) :
  ItInv ps L i (plW e) m0 ys0 ms [e] ys0 us0 m0 (zCU ps):=by
 refine⟨⟨[],by simp,by simp⟩,?_,Nat.le_refl _,hlen,fun x hx=>by rw[List.mem_singleton]at hx;subst hx;exact he,hg,hs,hr⟩
 have:=zOZ i m0;simp only[List.length_cons,List.length_nil,zCU];omega
section
variable {M:Nat→Prop} {w0 w w':World} {l:List Res}
theorem WK.app {us ux:List WV} {V:World} (h1:WK us V) (h2:WK ux V):WK (us++ux) V:=by
 intro x hx;rcases List.mem_append.1 hx with hx|hx
 ·exact⟨(h1 x hx).1.mono (fun b ⟨y,hy,o,e⟩=>⟨y,List.mem_append_left _ hy,o,e⟩),(h1 x hx).2⟩
 ·exact⟨(h2 x hx).1.mono (fun b ⟨y,hy,o,e⟩=>⟨y,List.mem_append_right _ hy,o,e⟩),(h2 x hx).2⟩
theorem FW.app {us ux:List WV} {b:Nat} (h:FW (us++ux) b):FW us b∨FW ux b:=by
 obtain⟨x,hx,o,e⟩:=h;exact(List.mem_append.1 hx).imp (fun hx=>⟨x,hx,o,e⟩) (fun hx=>⟨x,hx,o,e⟩)
theorem HoldG.knApp (H:HoldG M w0 w l) {i j:Nat} {us ux:List WV} (hi:At l i (.kn (FW us) (WK us))) (hj:At l j (.kn (FW ux) (WK ux))):HoldG M w0 w (l.set i (.kn (FW (us++ux)) (WK (us++ux)))):=by
 have hil:i<l.length:=(List.getElem?_eq_some_iff.1 hi.get).1;have H1:=H.knBoth hi hj;have H2:=H1.knTo (i:=i) (F:=fun b=>FW us b∨FW ux b) (S:=fun V=>WK us V∧WK ux V) (G:=FW (us++ux)) (T:=WK (us++ux)) (At.of_get (by rw[List.getElem?_set,if_pos rfl,if_pos hil])) (fun b hb=>hb.app) (fun h=>h.1.app h.2) (fun V h hV=>h.kept hV)
 rwa [List.set_set]at H2
theorem zP0 {P:Program} {ops:Array Oper} {rest:List Oper} {o:Oper} {a:Act} {Q:Exit→Act→World→Prop} (hg:Region.wanted o (yielded ops a.tmps)=true) (T:TypeId) (x:Operand) (ho:o.op=.box T x) {v:Value} (hx:a.eval x=v) (H:HoldG M w0 w l)
  (h:∀ b w',w.heap.size≤b→HoldG M w0 w' (l++[.blk b v.cells T])→wpList P ops Q rest (a.put o.dst (.pointer (some ⟨b,0,none⟩))) w'):wpList P ops Q (o::rest) a w :=
 zAx hg fun _ hK=>by
  unfold Oper.wp execOp;simp[ho,hx,Instr.box,newVar,newRow];exact hK _ _ (h _ _ (Nat.le_refl _) (H.alloc _ T))
theorem HoldG.markD (H:HoldG M w0 w l) (hl:∀ r ∈ l,∀ b es c,r≠.mp b es c) {i D:Nat} {Ds:List Nat} (hi:At l i (.kn (· ∈ Ds) (zEm Ds))) (hD:w.heap[D]?=some (.deferred (some []))) :
  HoldG M w0 w (l.set i (.kn (· ∈ D::Ds) (zEm (D::Ds)))):=by
 have hil:i<l.length:=(List.getElem?_eq_some_iff.1 hi.get).1;have H1:=H.knowObj hl hD rfl;have H2:=H1.knBoth (i:=i) (j:=l.length) (F:=(· ∈ Ds)) (S:=zEm Ds) (G:=(·=D)) (T:=fun V=>V.heap[D]?=some (.deferred (some []))) (At.of_get (by rw[List.getElem?_append_left hil];exact hi.get)) (At.of_get (by rw[List.getElem?_append_right (Nat.le_refl _)];simp))
 have H3:=H2.knTo (i:=i) (F:=fun b=>b ∈ Ds∨b=D) (S:=fun V=>zEm Ds V∧V.heap[D]?=some (.deferred (some []))) (G:=(· ∈ D::Ds)) (T:=zEm (D::Ds)) (At.of_get (by rw[List.getElem?_set,if_pos rfl,if_pos (by simp;omega)])) (fun b hb=>(List.mem_cons.1 hb).elim (fun h=>.inr h) .inl) (fun h D' h'=>(List.mem_cons.1 h').elim (fun e=>by rw[e];exact h.2) (h.1 D')) (fun V h hV D' h'=>(hV D' h').trans (h D' h'))
 have H4:=H3.take l.length
 rwa [List.set_set,List.take_set,List.take_left]at H4
end
def zJf (mb bA bS bM bI:Nat) (e:WV) (i:Nat):List Res :=
 [.blk bM #[.pointer (some ⟨mb,0,none⟩)] 49,.blk bA #[.int .i64 e.1] 3,.blk bI #[.int .i64 i] 3,.blk bS #[.slice e.2.2.1 e.2.1.length e.2.2.2] 27]
theorem zPw (mb:Nat) (e:WV) (i:Nat) (w0:World) :
  Calls Tryz.prog 35 #[.pointer (some ⟨mb,0,none⟩),.int .i64 e.1,.int .i64 i,.slice e.2.2.1 e.2.1.length e.2.2.2] w0 fun r w'=>∃ bA bS bM bI,r=.returned (.func (.func 75) #[] #[.pointer (some ⟨bA,0,none⟩),.pointer (some ⟨bS,0,none⟩),.pointer (some ⟨bM,0,none⟩),.pointer (some ⟨bI,0,none⟩)])∧Hold w0 w' (zJf mb bA bS bM bI e i):=by
 have H:=Hold.start w0
 go_enter Tryz.func35,Tryz.ntmps35
 go_wp2_with (first|((first|((with_reducible refine kgA 4 ?_);refine kA 4 H ?_)|((with_reducible refine kgX 4 ?_);(first|refine kS 4 H ?_|refine kB 4 H ?_)));clear H;intro b4 w H;try simp only[nr]at H)|((first|((with_reducible refine kgA 5 ?_);refine kA 5 H ?_)|((with_reducible refine kgX 5 ?_);(first|refine kS 5 H ?_|refine kB 5 H ?_)));clear H;intro b5 w H;try simp only[nr]at H)|((first|((with_reducible refine kgA 6 ?_);refine kA 6 H ?_)|((with_reducible refine kgX 6 ?_);(first|refine kS 6 H ?_|refine kB 6 H ?_)));clear H;intro b6 w H;try simp only[nr]at H)|((first|((with_reducible refine kgA 7 ?_);refine kA 7 H ?_)|((with_reducible refine kgX 7 ?_);(first|refine kS 7 H ?_|refine kB 7 H ?_)));clear H;intro b7 w H;try simp only[nr]at H)|fail)
 go_ret;exact⟨_,_,_,_,rfl,H⟩
theorem Stay.exV {α:Type} {B:Nat} {I:α→World→Prop} (h:∀ x,Stay B (I x)):Stay B (fun W=>∃ x,I x W):=fun W W' row ⟨x,hx⟩ hg hr=>⟨x,h x W W' row hx hg hr⟩
theorem Stay.andV {B:Nat} {p:Prop} {I:World→Prop} (h:Stay B I):Stay B (fun W=>p∧I W):=fun W W' row ⟨h1,h2⟩ hg hr=>⟨h1,h W W' row h2 hg hr⟩
theorem Stay.ofOk {B:Nat} {p:Prop} {I:World→Prop} (h:p→Stay B I):Stay B (fun W=>p∧I W):=fun W W' row ⟨h1,h2⟩ hg hr=>⟨h1,h h1 W W' row h2 hg hr⟩
theorem zR6 (t:Array Value) (h:t.size=40):∃ x0 x1 x2 x3 x4 x5 x6 x7 x8 x9 x10 x11 x12 x13 x14 x15 x16 x17 x18 x19 x20 x21 x22 x23 x24 x25 x26 x27 x28 x29 x30 x31 x32 x33 x34 x35 x36 x37 x38 x39:Value,t=List.toArray (x0::x1::x2::x3::x4::x5::x6::x7::x8::x9::x10::x11::x12::x13::x14::x15::x16::x17::x18::x19::x20::x21::x22::x23::x24::x25::x26::x27::x28::x29::x30::x31::x32::x33::x34::x35::x36::x37::x38::x39::[]):=by
 rw[zIs t 40 h];exact⟨_,_,_,_,_,_,_,_,_,_,_,_,_,_,_,_,_,_,_,_,_,_,_,_,_,_,_,_,_,_,_,_,_,_,_,_,_,_,_,_,rfl⟩
def zCd (mb gm mc:Nat) (pp:Option Addr) (cp:Nat) (ps:List InstD) (psl:Option Addr) (csl:Nat) (L:Str) (Fp Fs:Nat→Prop) (lv:Value) (zs:List WV) (nv:Value) (ys us:List WV) (marks:List Int):List Res :=
 [.blk mb #[lv,.slice (some ⟨gm,0,none⟩) ps.length mc,.slice pp ps.length cp,.slice psl L.length csl,nv] 54,.row (.slice (some ⟨gm,0,none⟩) ps.length mc) 3 1 ps.length (marks.map (.int .i64)),.row nv 58 2 ys.length (zAP (ys.map wayC)),
  .kn Fp (InstsR Fp pp cp ps),.kn Fs (BytesR Fs psl csl L),.kn (FW us) (WK us),.row lv 58 2 zs.length (zAP (zs.map wayC))]
def zSS (mb gm mc:Nat) (pp:Option Addr) (cp:Nat) (ps:List InstD) (psl:Option Addr) (csl:Nat) (L:Str) (Fp Fs:Nat→Prop) (lq:Option Addr) (lc:Nat) (xs us:List WV) (m0:List Int) (ms i:Nat) (w0 w:World) (e:Ending) (w':World):Prop :=
 ∃ nq nc ys us' marks',zBt ps L i (xs.map plW) m0=(marks',ys.map plW)∧(∀ y ∈ ys,∃ u ∈ us',y.2=u.2)∧(∀ u ∈ us',u.2.1.length=ms)∧ys.length≤ps.length∧e=.returned (.tuple #[]) ∧
  Turned (fun _=>False) w0 w (zCd mb gm mc pp cp ps psl csl L Fp Fs (.slice lq xs.length lc) xs (.slice none 0 0) [] us m0) (zCd mb gm mc pp cp ps psl csl L Fp Fs (.slice lq 0 lc) [] (.slice nq ys.length nc) ys us' marks') w'
def zQi (mb b2 gm mc:Nat) (pp:Option Addr) (cp:Nat) (ps:List InstD) (psl:Option Addr) (csl:Nat) (L:Str) (Fp Fs:Nat→Prop) (lq:Option Addr) (lc:Nat) (xs ux:List WV) (m0:List Int) (ms i B:Nat) (w0:World) (rF:Nat→Prop) (rS:World→Prop) (j:Nat) (Ds:List Nat) (w:World):Prop :=
 ∃ nq nc ys us marks,Hid (zBt ps L i ((xs.take j).map plW) m0=(marks,ys.map plW)∧(∀ y ∈ ys,∃ u ∈ us,y.2=u.2)∧(∀ u ∈ us,u.2.1.length=ms)∧marks.length=ps.length∧ys.length+unm i marks≤ps.length∧(∀ b,FW us b→FW ux b∨B≤b)∧Ds.Nodup∧(∀ D ∈ Ds,B≤D)) ∧
  Hold w0 w (memL mb (.slice lq xs.length lc) gm mc pp cp ps psl csl L Fp Fs nq nc ys us marks++[.row (.slice lq xs.length lc) 58 2 xs.length (zAP (xs.map wayC)),.blk b2 #[.pointer (some ⟨mb,0,none⟩)] 49,.kn (FW ux) (WK ux),.kn rF rS,.kn (· ∈ Ds) (zEm Ds)])
theorem zPJ {P:Program} {fn:Func} {tmps:Array Value} {w:World} (h:fn.results=#[]):(results fn tmps).run P w=.ok (.tuple #[]) w:=by simp[results,h]
def tmpN (t:Array Value) (k:Nat):Nat:=match t[k]? with|some v=>(intOf v).toNat|none=>0
theorem zQn {n j:Nat} (h:j<n):n - (((j+1:Nat):Int)).toNat<n - ((j:Nat):Int).toNat:=by omega
theorem zKS {n j:Nat} (h:j<n) (hn:n≤1000000):wrap64 ((j:Int)+1)=((j+1:Nat):Int):=by unfold wrap64;omega
theorem zKp (t:Array Value) (k:Nat) (z:Int) (h:t[k]?=some (.int .i64 z)):tmpN t k=z.toNat:=by unfold tmpN;rw[h];rfl
theorem zQT (mb gm mc:Nat) (pp:Option Addr) (cp:Nat) (ps:List InstD) (psl:Option Addr) (csl:Nat) (L:Str) (Fp Fs:Nat→Prop) (lq:Option Addr) (lc:Nat) (xs ux:List WV) (m0:List Int) (ms i:Nat) (w0 wS:World)
  (hR:zA3 ps=true) (hset:∀ x ∈ ps,zAW x.set) (hL:L.length≤1000) (hn4:ps.length≤4000) (hi:i≤L.length) (hms:zCe ps=ms) (hms2:ms≤42)
  (hlen:m0.length=ps.length) (hx:∀ x ∈ xs,x.1<ps.length∧∃ u ∈ ux,x.2=u.2) (hus:∀ u ∈ ux,u.2.1.length=ms) (hxn:xs.length≤1000000)
  (H0:Hold w0 wS (zCd mb gm mc pp cp ps psl csl L Fp Fs (.slice lq xs.length lc) xs (.slice none 0 0) [] ux m0)) :
  Calls Tryz.prog 22 #[.pointer (some ⟨mb,0,none⟩),.int .i64 i] wS (zSS mb gm mc pp cp ps psl csl L Fp Fs lq lc xs ux m0 ms i w0 wS):=by
 have HW0:=Lib.hid H0.keep.size;have H:=H0.framed;clear H0;obtain⟨rF,hrF⟩:∃ rF,zDp wS (zCd mb gm mc pp cp ps psl csl L Fp Fs (.slice lq xs.length lc) xs (.slice none 0 0) [] ux m0)=rF:=⟨_,rfl⟩;obtain⟨rS,hrS⟩:∃ rS,zEf wS (zCd mb gm mc pp cp ps psl csl L Fp Fs (.slice lq xs.length lc) xs (.slice none 0 0) [] ux m0)=rS:=⟨_,rfl⟩;rw[hrF,hrS]at H;have hrFB:∀ b,rF b→b<wS.heap.size:=fun b hb=>by rw[← hrF]at hb;exact hb.1
 have HRF:=Lib.hid hrF;clear hrF;have HRS:=Lib.hid hrS;clear hrS;have HRB:=Lib.hid hrFB;clear hrFB;simp only[zCd,List.cons_append,List.nil_append]at H;have HFB:=Lib.hid (show (∀ b,Fp b→b<wS.heap.size)∧(∀ b,Fs b→b<wS.heap.size) from ⟨H.knlt (i:=3) i_3,H.knlt (i:=4) i_4⟩)
 have HX:=Lib.hid hx;clear hx;have HUS:=Lib.hid hus;clear hus;refine zIh ?_
 refine callsIn_of_wp_marks Tryz.func22 rfl trivial ?_ rfl;simp only[Tryz.ntmps22,List.size_toArray,List.length_cons,List.length_nil,Nat.reduceAdd,Nat.reduceSub,Array.replicate_succ,Array.replicate_zero,List.push_toArray,List.append_toArray,List.nil_append,List.cons_append];rw[wpIn_wide]
 go_wp2_with (first|((with_reducible show @wpList _ _ _ ({dst:=_,op:=Op.box _ _,type:=_,pos:=_,after:=_,guard:=_}::_) _ _);refine zP0 wtd_ _ _ rfl evd_ H ?_;clear H;intro b2 w hb2 H;simp only[Value.cells,List.cons_append,List.nil_append]at H)|((with_reducible refine gL ?_);(first|refine zAp wtd_ _ _ rfl rfl H atd_ zBy rfl ?_|refine zAp wtd_ _ _ rfl rfl H atd_ zBA rfl ?_))|fail)
 have H2:=H.also (FW ux) (WK ux) (Still.at (i:=5) (S:=WK ux) i_5) (fun V hV=>(H.kn (i:=5) i_5).kept hV)
 have H3:=H2.also (· ∈ ([]:List Nat)) (zEm []) (fun b hb=>by cases hb) (fun V hV D hD=>by cases hD)
 clear H H2;have H:=H3.pick [0,1,2,3,4,5,6,8,9,7,10] (memL mb (.slice lq xs.length lc) gm mc pp cp ps psl csl L Fp Fs none 0 [] ux m0++[.row (.slice lq xs.length lc) 58 2 xs.length (zAP (xs.map wayC)),.blk b2 #[.pointer (some ⟨mb,0,none⟩)] 49,.kn (FW ux) (WK ux),.kn rF rS,.kn (· ∈ ([]:List Nat)) (zEm [])]) (by decide) rfl
 clear H3;have HL0:=Lib.hid (show zQi mb b2 gm mc pp cp ps psl csl L Fp Fs lq lc xs ux m0 ms i wS.heap.size w0 rF rS 0 [] w from ⟨none,0,[],ux,m0,Lib.hid ⟨rfl,(fun y h=>by cases h),HUS.out,hlen,(by have:=zOZ i m0;simp only[List.length_nil];omega),(fun b h=>.inl h),List.nodup_nil,(fun D h=>by cases h)⟩,H⟩)
 clear H;refine wp_loop (fun a' w'=>∃ (t:Array Value) (Ds:List Nat) (j:Nat),a'={tmps:=t,defers:=zOR Ds}∧t.size=40∧t[1]?=some (.int .i64 i)∧t[2]?=some (.pointer (some ⟨b2,0,none⟩))∧t[11]?=some (.slice lq xs.length lc)∧t[12]?=some (.int .i64 xs.length)∧t[13]?=some (.int .i64 j)∧j≤xs.length∧Hid (zQi mb b2 gm mc pp cp ps psl csl L Fp Fs lq lc xs ux m0 ms i wS.heap.size w0 rF rS j Ds w')) (fun a' w'=>xs.length - tmpN a'.tmps 13) ?start ?round
 case start=>exact⟨_,[],0,rfl,rfl,rfl,rfl,rfl,rfl,rfl,Nat.zero_le _,HL0⟩
 case round =>
  clear HL0;rintro a' w' ⟨t,Ds,j,rfl,ht,e1,e2,e11,e12,e13,hj,HLR⟩;have hl:=zR6 t ht;clear ht;obtain⟨u0,u1,u2,u3,u4,u5,u6,u7,u8,u9,u10,u11,u12,u13,u14,u15,u16,u17,u18,u19,u20,u21,u22,u23,u24,u25,u26,u27,u28,u29,u30,u31,u32,u33,u34,u35,u36,u37,u38,u39,hl⟩:=hl;subst hl;replace e1:some u1=some (.int .i64 i):=e1;replace e2:some u2=some (.pointer (some ⟨b2,0,none⟩)):=e2;replace e11:some u11=some (.slice lq xs.length lc):=e11
  replace e12:some u12=some (.int .i64 xs.length):=e12;replace e13:some u13=some (.int .i64 j):=e13
  cases e1;cases e2;cases e11;cases e12;cases e13
  obtain⟨dl,hdl⟩:∃ dl,zOR Ds=dl:=⟨_,rfl⟩;rw[hdl];have HDL:=Lib.hid hdl;clear hdl;obtain⟨nq,nc,ys,us,marks,HP,H⟩:=HLR.out;clear HLR;simp only[memL,List.cons_append,List.nil_append]at H
  by_cases hlt:j<xs.length
  ·have dj:decide ((j:Int)<(xs.length:Int))=true:=decide_eq_true (by omega)
   have dj2:decide (j<xs.length)=true:=decide_eq_true hlt;obtain⟨n,hn⟩:∃ n,xs.length=n:=⟨_,rfl⟩;obtain⟨e,he⟩:∃ e,xs[j]?=some e:=⟨_,List.getElem?_eq_getElem hlt⟩;have HE:=Lib.hid he;have HXC:=Lib.hid (show (xs.map wayC)[j]?=some (wayC e) by rw[List.getElem?_map,he];rfl)
   have HXL:=Lib.hid (show (xs.map wayC).length=n by rw[List.length_map];exact hn)
   have HN:=Lib.hid hn;rw[hn]at H hlt dj dj2 ⊢;have HJ:=Lib.hid hj;clear hj hn he;obtain⟨q0,c0,e0,_,_,hq0⟩:=H.rowShape (i:=6) i_6;simp only[Value.slice.injEq]at e0;obtain⟨rfl,_,rfl⟩:=e0;obtain⟨lg,rfl⟩:=hq0 (by omega)
   go_upto_region 3 with (first|((with_reducible refine gL ?_);(first|refine zAp wtd_ _ _ rfl rfl H atd_ zBy rfl ?_|refine zAp wtd_ _ _ rfl rfl H atd_ zBA rfl ?_|refine zAp wtd_ _ _ rfl rfl H atd_ zAH (yg0 e) ?_|refine zAp wtd_ _ _ rfl rfl H atd_ zBc (yg1 e) ?_))|fail)
   refine zCM 3 [fun v _=>v=.pointer (some ⟨lg,j * 2,none⟩),fun v _=>v=.agg (wayC e),zGc w'.heap.size #[.int .i64 0,.slice none 0 0] 58] (fun _=>false) (by kernel_rfl) (by kernel_rfl) ⟨zAF _,zAF _,zCv _ _ _,trivial⟩ (fun _ _ h=>by cases h) ?ob ?en
   case ob =>
    refine⟨?_,?_,?_,trivial⟩<;>intro A W h
    ·exact zAo (sz:=2) Tryz.underlying50 (fun w=>by kernel_rfl) rfl rfl (h.f 11) (h.f 13) hlt (Nat.zero_add _) (by decide)
    ·exact zAA rfl (zAb rfl (h.d 0 15) zFL (zDr e) ((H.call h.below).rowCell (i:=6) i_6 (zE1 _) HXL.out HXC.out rfl)) (by decide)
    ·exact zFx rfl rfl (by kernel_rfl) zWay h.below.size (by decide)
   case en =>
    intro vals W hbw hv _;have x2:=hv 2 (by omega);simp only[zAh]at x2
    simp only[fa,Nat.reduceAdd];rw[e_ hv 0,e_ hv 1];clear hv
    try simp only[pl]
    try simp only[pl]
    obtain⟨b5,e5,H8⟩:=H.gainB hbw x2;rw[e5];clear x2 e5 H hbw;have H:=H8;clear H8;simp only[ca]at H
    go_wp2_with (first|((with_reducible refine gTw ?_);refine aTw H ?_;clear H;intro w H;simp only[sc]at H)|((with_reducible refine gL ?_);(first|refine zAp wtd_ _ _ rfl rfl H atd_ zBy rfl ?_|refine zAp wtd_ _ _ rfl rfl H atd_ zBA rfl ?_|refine zAp wtd_ _ _ rfl rfl H atd_ zAH (yg0 e) ?_|refine zAp wtd_ _ _ rfl rfl H atd_ zBc (yg1 e) ?_))|fail)
    refine(zPw mb e i _).mono ?_
    rintro r wB ⟨bA,bS,bM,bI,rfl,HB⟩
    go_wp2_with fail
    rename_i hKc hpz;rw[HN.out.symm]at H;have H1:=H.knApp (i:=5) (j:=8) i_5 i_8;simp only[sc]at H1;have HM:Hold w0 w (memL mb (.slice (some ⟨lg,0,none⟩) xs.length lc) gm mc pp cp ps psl csl L Fp Fs nq nc ys (us++ux) marks):=H1.take 6;obtain⟨mF,hmF⟩:∃ mF,zDp w (memL mb (.slice (some ⟨lg,0,none⟩) xs.length lc) gm mc pp cp ps psl csl L Fp Fs nq nc ys (us++ux) marks)=mF:=⟨_,rfl⟩;obtain⟨mS,hmS⟩:∃ mS,zEf w (memL mb (.slice (some ⟨lg,0,none⟩) xs.length lc) gm mc pp cp ps psl csl L Fp Fs nq nc ys (us++ux) marks)=mS:=⟨_,rfl⟩
    have HF:=HM.framed;rw[hmF,hmS]at HF;have hmFB:∀ b,mF b→b<w.heap.size:=fun b hb=>by rw[← hmF]at hb;exact hb.1
    have HG:=HF.gainAll HB (by intro r hr F S e;subst e;simp[zJf]at hr)
    have HI:Hold w0 wB (memL mb (.slice (some ⟨lg,0,none⟩) xs.length lc) gm mc pp cp ps psl csl L Fp Fs nq nc ys (us++ux) marks++itL mb bA bS bM bI e i mF mS):=HG.pick [0,1,2,3,4,5,7,8,9,10,6] _ (by decide) rfl
    have hbM:w.heap.size≤bM:=(HB.blk (i:=0) .zero).1.elim id False.elim;have hwB:w.heap.size≤wB.heap.size:=HB.below.size;have hw0:w0.heap.size≤wB.heap.size:=HI.keep.size;have hb2:b2<w.heap.size:=(Array.getElem?_eq_some_iff.1 (H1.blk (i:=7) i_7).2).1;have hokE:∀ (ys:List WV) (us:List WV) (marks:List Int) (nq:Option Addr) (nc:Nat) (ext:List Res),(∀ r ∈ ext,zFG wB.heap.size r)→∀ r ∈ memL mb (.slice (some ⟨lg,0,none⟩) xs.length lc) gm mc pp cp ps psl csl L Fp Fs nq nc ys us marks++.kn mF mS::ext,zFG wB.heap.size r:=by
     intro ys us marks nq nc ext hext r hr;simp only[memL,List.cons_append,List.nil_append,List.mem_cons]at hr;rcases hr with rfl|rfl|rfl|rfl|rfl|rfl|rfl|hr
     ·trivial
     ·trivial
     ·trivial
     ·exact fun V _ b hb=>.inl (by have:=HFB.out.1 b hb;omega)
     ·exact fun V _ b hb=>.inl (by have:=HFB.out.2 b hb;omega)
     ·exact zMl _ _
     ·exact fun V _ b hb=>.inl (by have:=hmFB b hb;omega)
     ·exact hext r hr
    have hokI:∀ (ys:List WV) (us:List WV) (marks:List Int) (nq:Option Addr) (nc:Nat),∀ r ∈ memL mb (.slice (some ⟨lg,0,none⟩) xs.length lc) gm mc pp cp ps psl csl L Fp Fs nq nc ys us marks++itL mb bA bS bM bI e i mF mS,zFG wB.heap.size r:=by
     intro ys us marks nq nc r hr;refine hokE ys us marks nq nc (zJf mb bA bS bM bI e i) (fun r hr=>?_) r ?_
     ·simp only[zJf,List.mem_cons,List.not_mem_nil,or_false]at hr;rcases hr with rfl|rfl|rfl|rfl<;>trivial
     ·simp only[itL,zJf,List.mem_append,List.mem_cons,List.not_mem_nil,or_false]at hr ⊢;rcases hr with h|h|h|h|h|h
      ·exact .inl h
      ·exact .inr (.inr (.inl h))
      ·exact .inr (.inr (.inr (.inl h)))
      ·exact .inr (.inr (.inr (.inr (.inl h))))
      ·exact .inr (.inr (.inr (.inr (.inr h))))
      ·exact .inr (.inl h)
    obtain⟨p1,p2,p3,p4,p5,p6,p7,p8⟩:=HP.out;have hxe:e ∈ xs:=List.mem_of_getElem? HE.out;have hxe2:=HX.out e hxe;have I0:ItInv ps L i (plW e) marks ys ms [e] ys (us++ux) marks (zCU ps):=ItInv.start p4 ⟨hxe2.1,by obtain⟨u,hu,h⟩:=hxe2.2;exact⟨u,List.mem_append_right _ hu,h⟩⟩ (fun y hy=>by obtain⟨u,hu,h⟩:=p2 y hy;exact⟨u,List.mem_append_left _ hu,h⟩) (fun u hu=>(List.mem_append.1 hu).elim (p3 u) (HUS.out u)) p5
    rw[← wpIn_wide (n:=9)];refine zGT (σ:=List WV × List WV × List Int × List Res) (α:=WV) rfl (by omega) (gf:=75) (lb:=#[.pointer (some ⟨bA,0,none⟩),.pointer (some ⟨bS,0,none⟩),.pointer (some ⟨bM,0,none⟩),.pointer (some ⟨bI,0,none⟩)]) rfl trivial (enters_of Tryz.func75 (by kernel_rfl) rfl) (encs:=fun x=>#[.agg (wayC x)]) (fun _=>rfl)
     (fun W=>Hold w0 W (memL mb (.slice (some ⟨lg,0,none⟩) xs.length lc) gm mc pp cp ps psl csl L Fp Fs nq nc ys (us++ux) marks++itL mb bA bS bM bI e i mF mS))
     (zSG mb (.slice (some ⟨lg,0,none⟩) xs.length lc) gm mc pp cp ps psl csl L Fp Fs bA bS bM bI e i mF mS ms w0 ys (us++ux) marks)
     (fun _ _=>False)
     (fun s x W=>((∃ u ∈ s.2.1,x.2=u.2)∧s.1.length<ps.length)∧(∀ r ∈ s.2.2.2,zFG wB.heap.size r)∧∃ nq nc,Hold w0 W (memL mb (.slice (some ⟨lg,0,none⟩) xs.length lc) gm mc pp cp ps psl csl L Fp Fs nq nc s.1 s.2.1 s.2.2.1++.kn mF mS::s.2.2.2))
     (fun s x W=>(∀ r ∈ s.2.2.2,zFG wB.heap.size r)∧∃ nq nc,Hold w0 W (memL mb (.slice (some ⟨lg,0,none⟩) xs.length lc) gm mc pp cp ps psl csl L Fp Fs nq nc (s.1++[x]) s.2.1 s.2.2.1++.kn mF mS::s.2.2.2))
     (fun s x a W=>(∀ r ∈ s.2.2.2,zFG wB.heap.size r)∧∃ nq nc b6 t,(a={tmps:=t,defers:=[]}∧t.size=40∧t[2]?=some (.pointer (some ⟨b2,0,none⟩))∧t[6]?=some (.pointer (some ⟨b6,0,none⟩))∧s.1.length<ps.length)∧Hold w0 W (memL mb (.slice (some ⟨lg,0,none⟩) xs.length lc) gm mc pp cp ps psl csl L Fp Fs nq nc s.1 s.2.1 s.2.2.1++[.kn mF mS,.blk b6 (wayC x) 58]++s.2.2.2))
     (HoldG.stayK (hokI ys (us++ux) marks nq nc) hw0) (Stay.exV fun nq=>Stay.exV fun nc=>Stay.exV fun ys=>Stay.exV fun us=>Stay.exV fun marks=>Stay.exV fun n=>Stay.andV (Stay.andV (HoldG.stayK (hokI ys us marks nq nc) hw0))) (fun _ W W' row h _ _=>h)
     (fun s x=>Stay.ofOk fun h=>Stay.exV fun nq=>Stay.exV fun nc=>HoldG.stayK (hokE _ _ _ _ _ _ h) hw0)
     (fun s x a=>Stay.ofOk fun h=>Stay.exV fun nq=>Stay.exV fun nc=>Stay.exV fun b6=>Stay.exV fun t=>Stay.andV (HoldG.stayK (fun r hr=>by
      rcases List.mem_append.1 hr with hr|hr
      ·rcases List.mem_append.1 hr with hr|hr
       ·exact hokE _ _ _ nq nc [] (fun r hr=>by cases hr) r (List.mem_append_left _ hr)
       ·simp only[List.mem_cons,List.not_mem_nil,or_false]at hr;rcases hr with rfl|rfl
        ·exact fun V _ b hb=>.inl (by have:=hmFB b hb;omega)
        ·trivial
      ·exact h r hr) hw0))
     ?iter HI ?assign ?body ?done ?pan
    case iter =>
     intro l B hB' hY W hI hBW;refine(zNE mb (.slice (some ⟨lg,0,none⟩) xs.length lc) gm mc pp cp ps psl csl L Fp Fs bA bS bM bI e i mF mS ms w0 ys (us++ux) marks 7 hR hset hL hn4 hi hms hms2 l B wB.heap.size hB' hw0 ?_ W nq nc I0 hI hBW).mono (fun r W' h=>⟨h.1,.inl (by obtain⟨v,hv⟩:=h.2.1;exact⟨v,hv,h.2.2⟩)⟩)
     intro nq1 nc1 ys1 us1 marks1 x ext1 W1 hx hext hlen hH hBW1;exact(hY (ys1,us1,marks1,ext1) x W1 ⟨⟨hx,hlen⟩,hext,nq1,nc1,hH⟩ hBW1).mono (fun e W' h=>⟨h.1,h.2.1.2,h.2.2⟩)
    case assign =>
     rintro l ⟨ys1,us1,marks1,ext1⟩ x W ⟨⟨hx,hlen1⟩,hext,nq1,nc1,HW⟩;simp only[List.zip_toArray,List.foldl_toArray,List.zip_cons_cons,List.zip_nil_right,List.zip_nil_left,List.foldl_cons,List.foldl_nil,List.setIfInBounds_toArray,List.set_cons_succ,List.set_cons_zero];refine wpIn_region_lit (zGe (by rintro⟨_,_,h⟩;exact h) _ _ _ rfl ?_)
     clear H HB H1 HM HF HG HI;have H:=Hold.start W
     go_wp2_with (first|((with_reducible refine gTw ?_);refine aTw H ?_;clear H;intro w H;simp only[sc]at H)|((first|((with_reducible refine kgA 6 ?_);refine kA 6 H ?_)|((with_reducible refine kgX 6 ?_);(first|refine kS 6 H ?_|refine kB 6 H ?_)));clear H;intro b6 w H;try simp only[nr]at H)|fail)
     refine⟨KeepsNC.of_below H.below,hext,nq1,nc1,?_⟩
     have H2:=HW.gainAll H (by intro r hr F S e;subst e;simp at hr)
     refine H2.permL ?_
     rw[List.append_assoc];exact List.Perm.append_left _ (.cons _ List.perm_append_comm)
    case body =>
     rintro l ⟨ys1,us1,marks1,ext1⟩ x a1 Wb ⟨hext,nq1,nc1,b6,t,⟨rfl,ht,f2,f6,hlen1⟩,HY⟩;have hl:=zR6 t ht;clear ht;obtain⟨v0,v1,v2,v3,v4,v5,v6,v7,v8,v9,v10,v11,v12,v13,v14,v15,v16,v17,v18,v19,v20,v21,v22,v23,v24,v25,v26,v27,v28,v29,v30,v31,v32,v33,v34,v35,v36,v37,v38,v39,hl⟩:=hl;subst hl;replace f2:some v2=some (.pointer (some ⟨b2,0,none⟩)):=f2;replace f6:some v6=some (.pointer (some ⟨b6,0,none⟩)):=f6
     cases f2;cases f6
     have hb2F:zDp w (memL mb (.slice (some ⟨lg,0,none⟩) xs.length lc) gm mc pp cp ps psl csl L Fp Fs nq nc ys (us++ux) marks) b2:=by
      refine⟨hb2,fun r hr h=>?_⟩
      obtain⟨k,hk⟩:=List.getElem?_of_mem hr;have hk6:k<6:=(List.getElem?_eq_some_iff.1 hk).1;exact H1.apart k 7 r _ (by omega) (by rw[← hk];match k,hk6 with|0,_=>rfl|1,_=>rfl|2,_=>rfl|3,_=>rfl|4,_=>rfl|5,_=>rfl) rfl b2 h rfl
     have hB2:∀ V,mS V→V.heap[b2]?=some (.cells #[.pointer (some ⟨mb,0,none⟩)] 49 (0,0)):=by
      intro V hV;rw[← hmS]at hV;exact(hV b2 hb2F).trans (H1.blk (i:=7) i_7).2
     clear H HB H1 HM HF HG HI;have HA:=HY.left;obtain⟨rF2,hrF2⟩:∃ zF,zDp Wb (memL mb (.slice (some ⟨lg,0,none⟩) xs.length lc) gm mc pp cp ps psl csl L Fp Fs nq1 nc1 ys1 us1 marks1++[.kn mF mS,.blk b6 (wayC x) 58])=zF:=⟨_,rfl⟩;obtain⟨rS2,hrS2⟩:∃ zF,zEf Wb (memL mb (.slice (some ⟨lg,0,none⟩) xs.length lc) gm mc pp cp ps psl csl L Fp Fs nq1 nc1 ys1 us1 marks1++[.kn mF mS,.blk b6 (wayC x) 58])=zF:=⟨_,rfl⟩
     have HA2:=HA.framed;rw[hrF2,hrS2]at HA2;have HA3:=HA2.knowNC (by intro r hr b es c e;subst e;simp[memL]at hr) wB.heap.size
     have HMS:=HA3.kn (i:=6) i_6;have hmb2:mF b2:=by rw[← hmF];exact hb2F
     have H:=HA3.also (·=b2) (fun V=>V.cell? ⟨b2,0,none⟩=some (.pointer (some ⟨mb,0,none⟩))) (fun b hb=>Still.at (i:=6) (S:=mS) i_6 b (by rw[hb];exact hmb2)) (fun V hV=>by have:=(hV b2 rfl).trans (hB2 _ HMS);exact cell_of_row V b2 0 _ _ _ this)
     clear HA HA2 HA3;simp only[memL,List.cons_append,List.nil_append]at H;obtain⟨iw,hiw,hi0,hi1,hi2⟩:=info_parts zGz;have hyl:ys1.length+1≤maxLen∧(ys1.length+1) * 32≤140737488355328:=⟨zF2 (Nat.le_of_lt (Nat.lt_of_lt_of_le hlen1 (Nat.le_trans hn4 (by decide)))) (by decide),zEW (Nat.le_of_lt (Nat.lt_of_lt_of_le hlen1 (Nat.le_trans hn4 (by decide)))) (by decide)⟩
     have HYL:=Lib.hid hyl;clear hyl;refine wpIn_block ?_
     clear dj dj2 hlt;refine zHc 7 0 [fun v _=>v=pt mb 0,fun v _=>v=pt mb 0,fun v _=>v=pt mb 0,fun v _=>v=pt mb 4,fun v _=>v=.slice nq1 ys1.length nc1,fun v _=>v=.agg (wayC x),FreshS Wb.heap.size (wayC x) 58] (fun _=>false) (by kernel_rfl) (by rintro⟨_,_,h⟩;exact h) rfl (by kernel_rfl) (by kernel_rfl) (by repeat (first|exact trivial|refine⟨zAF _,?_⟩|refine⟨zC8 _ _ _,?_⟩)) (fun _ _ h=>by cases h) ?ob ?en ?en2
     case ob =>
      refine⟨?_,?_,?_,?_,?_,?_,?_,trivial⟩<;>intro A W h
      ·exact zAA rfl (zAC rfl (h.f 2) zBy ((H.call h.below).kn (i:=10) i_10)) (by decide)
      ·exact zAA rfl (zAC rfl (h.f 2) zBy ((H.call h.below).kn (i:=10) i_10)) (by decide)
      ·(have e26:A.eval (.tmp 26)=.pointer (some ⟨mb,0,none⟩):=h.d 1 26;refine zAA rfl ?_;simp only[execOp,e26];simp[go_sem])
      ·(have e27:A.eval (.tmp 27)=.pointer (some ⟨mb,0,none⟩):=h.d 2 27;refine zAA rfl ?_;simp only[execOp,e27];simp[go_sem])
      ·exact zAA rfl (zAC rfl (h.d 3 28) zBA ((H.call h.below).cell (i:=0) .zero 4)) (by decide)
      ·exact zAA rfl (zAb rfl (h.f 6) zFL (zDr x) (fun j _=>by rw[Nat.zero_add];exact(H.call h.below).cell (i:=7) i_7 j)) (by decide)
      ·exact zN8 rfl rfl (h.d 5 30) h.below.size (by decide)
     case en =>
      intro vals W9 hbw hv _;have x6:=hv 6 (by omega);simp only[zAh]at x6
      simp only[fa,Nat.reduceAdd];rw[e_ hv 0,e_ hv 1,e_ hv 2,e_ hv 3,e_ hv 4,e_ hv 5];clear hv
      try simp only[pl]
      try simp only[pl]
      obtain⟨bk,e6,H8⟩:=H.gainS2 hbw x6;rw[e6];clear x6 e6 H hbw;have H:=H8;clear H8;simp only[ca]at H
      go_wp2_with (first|(at_builtin;refine zAX rfl _ _ 50 rfl H (i:=2) (j:=11) evd_ rfl i_2 i_11 Tryz.underlying50 hiw hi0 hi1 hi2 rfl (by decide) rfl rfl HYL.out.1 HYL.out.2 ?_;clear H;intro v2 w H;simp only[sc]at H;(obtain⟨q2,c2,rfl,_,_,_⟩:=H.rowShape (i:=2) i_2))|((with_reducible refine gL ?_);refine zAJ wtd_ _ _ rfl rfl zBy (H.kn (i:=10) i_10) ?_)|((with_reducible refine gT ?_);refine zAQ wtd_ _ _ _ rfl rfl evd_ H (i:=0) .zero rfl (by show 4<5;omega) (zAI zBA) ?_;clear H;intro w H;simp only[List.setIfInBounds_toArray,List.set_cons_succ,List.set_cons_zero]at H)|fail)
      rw[zCr,show ys1.length+1=(ys1++[x]).length by simp,← hrF2,← hrS2]at H
      have T:=Turned.of (l2:=memL mb (.slice (some ⟨lg,0,none⟩) xs.length lc) gm mc pp cp ps psl csl L Fp Fs q2 c2 (ys1++[x]) us1 marks1++[.kn mF mS]) H (i:=8) i_8 [0,1,2,3,4,5,6] (by decide) (by decide) rfl (by intro F S hm b hb;refine .inl ⟨.kn F S,?_,hb⟩;simp only[memL,List.cons_append,List.nil_append,List.mem_cons,List.not_mem_nil,or_false,reduceCtorEq,false_or]at hm ⊢;rcases hm with h|h|h|h<;>simp[h])
      have H2:=HY.callL T;rw[List.append_assoc]at H2;exact⟨(H.kn (i:=9) i_9).keeps,hext,q2,c2,H2⟩
     case en2 =>
      intro vals W9 hbw hv _;have v1:vals 1=_:=hv 1 (by omega) (by omega)
      have v2:vals 2=_:=hv 2 (by omega) (by omega)
      have v3:vals 3=_:=hv 3 (by omega) (by omega)
      have v4:vals 4=_:=hv 4 (by omega) (by omega)
      have v5:vals 5=_:=hv 5 (by omega) (by omega)
      have x6:=hv 6 (by omega) (by omega);simp only[zAh]at x6
      simp only[List.take_succ_cons,List.take_zero,List.drop_succ_cons,List.drop_zero,List.drop_nil,List.take_nil,zC1,zHd,List.cons_append,List.nil_append,Nat.reduceEqDiff,if_true,if_false,reduceCtorEq,Nat.zero_add,Nat.reduceAdd];rw[v1,v2,v3,v4,v5];clear hv v1 v2 v3 v4 v5
      try simp only[pl]
      try simp only[pl]
      obtain⟨bk,e6,H8⟩:=H.gainS2 hbw x6;rw[e6];clear x6 e6 H hbw;have H:=H8;clear H8;simp only[ca]at H
      go_wp2_with (first|(at_builtin;refine zAX rfl _ _ 50 rfl H (i:=2) (j:=11) evd_ rfl i_2 i_11 Tryz.underlying50 hiw hi0 hi1 hi2 rfl (by decide) rfl rfl HYL.out.1 HYL.out.2 ?_;clear H;intro v2 w H;simp only[sc]at H;(obtain⟨q2,c2,rfl,_,_,_⟩:=H.rowShape (i:=2) i_2))|((with_reducible refine gL ?_);refine zAJ wtd_ _ _ rfl rfl zBy (H.kn (i:=10) i_10) ?_)|((with_reducible refine gT ?_);refine zAQ wtd_ _ _ _ rfl rfl evd_ H (i:=0) .zero rfl (by show 4<5;omega) (zAI zBA) ?_;clear H;intro w H;simp only[List.setIfInBounds_toArray,List.set_cons_succ,List.set_cons_zero]at H)|fail)
      rw[zCr,show ys1.length+1=(ys1++[x]).length by simp,← hrF2,← hrS2]at H
      have T:=Turned.of (l2:=memL mb (.slice (some ⟨lg,0,none⟩) xs.length lc) gm mc pp cp ps psl csl L Fp Fs q2 c2 (ys1++[x]) us1 marks1++[.kn mF mS]) H (i:=8) i_8 [0,1,2,3,4,5,6] (by decide) (by decide) rfl (by intro F S hm b hb;refine .inl ⟨.kn F S,?_,hb⟩;simp only[memL,List.cons_append,List.nil_append,List.mem_cons,List.not_mem_nil,or_false,reduceCtorEq,false_or]at hm ⊢;rcases hm with h|h|h|h<;>simp[h])
      have H2:=HY.callL T;rw[List.append_assoc]at H2;exact⟨(H.kn (i:=9) i_9).keeps,hext,q2,c2,H2⟩
    case done =>
     rintro D W hD ⟨nq',nc',ys',us',marks',n',I,hFW,HW⟩ hK;rw[← hmF,← hmS]at HW;have T:Turned (fun _=>False) w0 w (memL mb (.slice (some ⟨lg,0,none⟩) xs.length lc) gm mc pp cp ps psl csl L Fp Fs nq nc ys (us++ux) marks) (memL mb (.slice (some ⟨lg,0,none⟩) xs.length lc) gm mc pp cp ps psl csl L Fp Fs nq' nc' ys' us' marks') W:=by
      refine Turned.of HW (i:=10) i_10 [0,1,2,3,4,5] (by decide) (by decide) rfl ?_
      intro F S hm b hb;simp only[memL,List.mem_cons,List.not_mem_nil,or_false,reduceCtorEq,false_or,Res.kn.injEq]at hm;rcases hm with ⟨e,_⟩|⟨e,_⟩|⟨e,_⟩<;>rw[e]at hb
      ·exact .inl ⟨.kn Fp (InstsR Fp pp cp ps),by simp[memL],hb⟩
      ·exact .inl ⟨.kn Fs (BytesR Fs psl csl L),by simp[memL],hb⟩
      ·exact(hFW b hb).imp (fun h=>⟨.kn (FW (us++ux)) (WK (us++ux)),by simp[memL],h⟩) (fun h=>by omega)
     have H2:=HoldG.callL (a:=memL mb (.slice (some ⟨lg,0,none⟩) xs.length lc) gm mc pp cp ps psl csl L Fp Fs nq nc ys (us++ux) marks) (ext:=[.row (.slice (some ⟨lg,0,none⟩) xs.length lc) 58 2 xs.length (zAP (xs.map wayC)),.blk b2 #[.pointer (some ⟨mb,0,none⟩)] 49,.kn (FW ux) (WK ux),.kn rF rS,.kn (· ∈ Ds) (zEm Ds),.blk b5 (wayC e) 58]) H1 T;simp only[memL,List.cons_append,List.nil_append]at H2
     have hMD:∀ D ∈ Ds,D<w.heap.size:=H1.knlt (i:=10) i_10;have H3:=H2.markD (by intro r hr b es c e;subst e;simp at hr) (i:=10) i_10 hK
     simp only[sc]at H3;have H4:=H3.take 11
     have hnx:Hid (zQi mb b2 gm mc pp cp ps psl csl L Fp Fs (some ⟨lg,0,none⟩) lc xs ux m0 ms i wS.heap.size w0 rF rS (j+1) (D::Ds) W):=Lib.hid ⟨nq',nc',ys',us',marks',Lib.hid (by
      obtain⟨d1,d2⟩:=I.done;refine⟨?_,I.got,I.size,I.len,I.room,fun b hb=>?_,List.nodup_cons.2 ⟨fun h=>by have:=hMD D h;omega,p7⟩,fun D' h=>(List.mem_cons.1 h).elim (fun h=>by omega) (p8 D')⟩
      ·have hj1:(xs.take (j+1))=xs.take j++[e]:=by rw[List.take_add_one,HE.out];rfl
       rw[hj1,List.map_append,List.map_cons,List.map_nil,zJH,p1,d1,d2]
      ·rcases hFW b hb with h|h
       ·exact h.app.elim (p6 b) .inl
       ·exact .inr (by omega)),H4⟩
     refine hKc _ _ ?_
     clear H HB H1 HM HF HG HI H2 H3 H4 T I hokE hokI I0 HW
     go_wp2_with fail
     have hn9:n≤1000000:=by rw[← HN.out];exact hxn
     have hw:=zKS hlt hn9;simp only[hw];refine⟨⟨_,D::Ds,j+1,by rw[← HDL.out];rfl,rfl,rfl,rfl,rfl,rfl,rfl,Nat.succ_le_of_lt hlt,hnx⟩,?_⟩
     rw[zKp _ 13 ((j+1:Nat):Int) rfl,zKp _ 13 (j:Int) rfl];exact zQn hlt
    case pan=>exact fun D ch W _ h _=>h.elim
  ·have dj:decide ((j:Int)<(xs.length:Int))=false:=decide_eq_false (by omega)
   have dj2:decide (j<xs.length)=false:=decide_eq_false hlt
   go_wp2_with (first|((with_reducible refine gL ?_);(first|refine zAp wtd_ _ _ rfl rfl H atd_ zBy rfl ?_|refine zAp wtd_ _ _ rfl rfl H atd_ zBA rfl ?_))|fail)
   refine(zO9 mb lq xs.length lc (.slice (some ⟨gm,0,none⟩) ps.length mc) (.slice pp ps.length cp) (.slice psl L.length csl) (.slice nq ys.length nc) (zAP (xs.map wayC)) (H.pick [0,6] _ (by decide) rfl)).mono ?_
   rintro e w ⟨rfl,T⟩;have H2:=H.callIn (l3:=[.row (.slice (some ⟨gm,0,none⟩) ps.length mc) 3 1 ps.length (marks.map (.int .i64)),.row (.slice nq ys.length nc) 58 2 ys.length (zAP (ys.map wayC)),.kn Fp (InstsR Fp pp cp ps),.kn Fs (BytesR Fs psl csl L),.kn (FW us) (WK us),.blk b2 #[.pointer (some ⟨mb,0,none⟩)] 49,.kn (FW ux) (WK ux),.kn rF rS,.kn (· ∈ Ds) (zEm Ds)]) T [0,6] [1,2,3,4,5,7,8,9,10] rfl rfl (by decide) (by decide)
   clear H T;have H:=H2;clear H2;simp only[ca]at H
   go_wp2_with fail
   rw[← HDL.out];obtain⟨p1,p2,p3,p4,p5,p6,p7,p8⟩:=HP.out;have hjn:xs.take j=xs:=List.take_of_length_le (by omega)
   rw[hjn]at p1;have HM:=H.kn (i:=10) i_10;have H2:=H.pick [0,2,3,4,5,6,1,9] (zCd mb gm mc pp cp ps psl csl L Fp Fs (.slice lq 0 lc) [] (.slice nq ys.length nc) ys us marks++[.kn rF rS]) (by decide) rfl
   refine zGo (B:=wS.heap.size) (I:=fun W=>Hold w0 W (zCd mb gm mc pp cp ps psl csl L Fp Fs (.slice lq 0 lc) [] (.slice nq ys.length nc) ys us marks++[.kn rF rS])) (HoldG.stayK (fun r hr=>?_) HW0.out) Ds _ H2 p7 p8 HM ?_
   ·simp only[zCd,List.cons_append,List.nil_append,List.mem_cons,List.not_mem_nil,or_false]at hr;rcases hr with rfl|rfl|rfl|rfl|rfl|rfl|rfl|rfl
    ·trivial
    ·trivial
    ·trivial
    ·exact fun V _ b hb=>.inl (HFB.out.1 b hb)
    ·exact fun V _ b hb=>.inl (HFB.out.2 b hb)
    ·exact zMl _ _
    ·trivial
    ·exact fun V _ b hb=>.inl (HRB.out b hb)
   ·intro W' H';refine⟨.tuple #[],zPJ rfl,nq,nc,ys,us,marks,p1,p2,p3,by omega,rfl,?_⟩
    rw[← HRF.out,← HRS.out]at H';refine Turned.of H' (i:=7) i_7 [0,1,2,3,4,5,6] (by decide) (by decide) rfl ?_
    intro F S hm b hb;simp only[zCd,List.mem_cons,List.not_mem_nil,or_false,reduceCtorEq,false_or,Res.kn.injEq]at hm;rcases hm with ⟨e,_⟩|⟨e,_⟩|⟨e,_⟩<;>rw[e]at hb
    ·exact .inl ⟨.kn Fp (InstsR Fp pp cp ps),by simp[zCd],hb⟩
    ·exact .inl ⟨.kn Fs (BytesR Fs psl csl L),by simp[zCd],hb⟩
    ·exact(p6 b hb).imp (fun h=>⟨.kn (FW ux) (WK ux),by simp[zCd],h⟩) id
end
end Go.Proofs.YtdoflhjhaciepaaGreat
