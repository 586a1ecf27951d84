/-
  Laws of walks, and walks.
-/
import Derived.Test.YtklcgfkdemifcaaDoorSr14
set_option linter.unusedVariables false
set_option linter.unusedSimpArgs false
set_option maxRecDepth 100000
set_option maxHeartbeats 16000000
namespace Go.Proofs.YtklcgfkdemifcaaDoor
section
open Go.RowKit Go.Shelf
attribute [local go_sem] Oper.semAt_some
theorem zA0:oneB Tryd.prog 53=true:=by kernel_rfl
theorem zPP:zB0 Tryd.prog 53=#[.pointer none]:=by kernel_rfl
theorem zJg (p:Option Addr) (n c:Nat) (W:World):(Instr.build 56 #[(0,.slice p n c)]).run Tryd.prog W=.ok (.agg #[.slice p n c,.int .i64 0]) W:=by kernel_rfl
theorem zIR (p:Option Addr) (n c:Nat) (f:zAU) (W:World):(Instr.build 59 #[(0,.agg #[.slice p n c,.int .i64 0]),(1,zDX f)]).run Tryd.prog W=.ok (.agg (psC p n c 0 f 0 (.slice none 0 0))) W:=by kernel_rfl
theorem zKF {ops:Array Oper} {o:Oper} {rest:List Oper} {a:Act} {w:World} {Q:Exit→Act→World→Prop} {x y:Operand} {p:Option Addr} {n c:Nat} {f:zAU} (hg:Region.wanted o (yielded ops a.tmps)=true) (ho:o.op=.build 59 #[(0,x),(1,y)]) (hx:a.eval x=.agg #[.slice p n c,.int .i64 0]) (hy:a.eval y=zDX f)
  (h:wpList Tryd.prog ops Q rest (a.put o.dst (.agg (psC p n c 0 f 0 (.slice none 0 0)))) w):wpList Tryd.prog ops Q (o::rest) a w :=
 zAx hg (by simp only[execOp,ho,List.map_toArray,List.map_cons,List.map_nil,hx,hy,Sem.run_bind,zIR];rfl) h
theorem zGg:∀ ws:List WordD,zHS ws=zAc (ws.map zAg)
 | []=>rfl
 | d::ws=>by
  have h:=zGg ws;simp only[zHS,zAc,List.flatMap_cons,List.map_cons,List.flatten_cons]at h ⊢;rw[h]
theorem HoldG.gainRow {M:Nat→Prop} {w0 w w':World} {l:List Res} (H:HoldG M w0 w l) (hb:Below w.heap.size w w') {T:TypeId} {sz n:Nat} {v:Value} {xs:List Value} (ho:w'.ownsRow w.heap.size T sz v n xs):HoldG M w0 w' (l++[.row v T sz n xs]):=by
 refine H.gain hb [.row v T sz n xs] (fun r hr=>?_) (List.pairwise_singleton _ _)
 simp only[List.mem_cons,List.not_mem_nil,or_false]at hr;subst hr;obtain⟨h1,h2|⟨g,cap,cur,rfl,h3,h4⟩⟩:=ho
 ·refine⟨⟨h1,.inl h2⟩,fun b e=>?_⟩
  have h5:v.ownBlock=some b:=e;rw[h2.1]at h5;cases h5
 ·refine⟨⟨h1,.inr ⟨g,cap,cur,rfl,Nat.le_trans H.keep.size h3,h4⟩⟩,fun b e=>?_⟩
  have h5:g=b:=by simpa [Res.place,Value.ownBlock] using e
  omega
def frS (L:Str) (f:zAU) (b3 b4 b5 b6 b7 b9 b29 xb:Nat) (p0:Option Addr) (n c:Nat) (t10:Value) (d:WordD):Array Value :=
 #[.string ⟨L.toArray⟩,zDX f,undef,.pointer (some ⟨b3,0,none⟩),.pointer (some ⟨b4,0,none⟩),.pointer (some ⟨b5,0,none⟩),.pointer (some ⟨b6,0,none⟩),.pointer (some ⟨b7,0,none⟩),.slice p0 n c,.pointer (some ⟨b9,0,none⟩),t10,undef,undef,
  .tuple #[.slice p0 n c,.int .i64 0,.int .i64 0],.string ⟨L.toArray⟩,.tuple #[.slice p0 n c,.int .i64 0,.int .i64 0],.slice p0 n c,.int .i64 0,.int .i64 0,.int .i64 0,.bool false,undef,undef,undef,
  .func (.func 17) #[] #[.pointer (some ⟨b4,0,none⟩),.pointer (some ⟨b5,0,none⟩),.pointer (some ⟨b6,0,none⟩),.pointer (some ⟨b7,0,none⟩)],.slice p0 n c,.agg #[.slice p0 n c,.int .i64 0],.agg (zF5 f),.agg (psC p0 n c 0 f 0 (.slice none 0 0)),
  .pointer (some ⟨b29,0,none⟩),.pointer (some ⟨b29,0,none⟩),.tuple #[],.pointer (some ⟨b29,0,none⟩),.pointer (some ⟨b29,0,none⟩),.pointer (some ⟨b29,0,none⟩),.func (.func 31) #[] #[.pointer (some ⟨xb,0,none⟩)],zAk d,undef,undef,undef,undef,undef,undef,undef,undef,undef,undef,undef,undef,undef,undef,undef,undef,undef,undef,undef,undef,undef,undef,undef,undef,undef,undef,undef,undef,undef,undef,undef,undef,undef,undef,undef,undef,undef,undef,undef,undef,undef]
theorem Jy.more {w0 W W':World} {xb pb:Nat} {p0:Option Addr} {c:Nat} {ws:List WordD} {R:List Res} {f:zAU} {i b:Nat} {d:WordD} {cs:Array Value} {T:TypeId} (hJ:Jy w0 xb pb p0 c ws R f i d W) (hb:Below W.heap.size W W') (hge:W.heap.size≤b) (hh:W'.heap[b]?=some (.cells cs T (0,0))):Jy w0 xb pb p0 c ws (.blk b cs T::R) f i d W':=by
 obtain⟨hd,x,a1,a2,a3,a4,H⟩:=hJ;have H2:=H.gain hb [.blk b cs T] (fun r hr=>by simp only[List.mem_cons,List.not_mem_nil,or_false]at hr;subst hr;exact⟨⟨.inl (Nat.le_trans H.keep.size hge),hh⟩,fun b' e=>by cases e;exact hge⟩) (List.pairwise_singleton _ _)
 refine⟨hd,x,a1,a2,a3,fun b' hb'=>?_,H2.perms ?_⟩
 ·obtain⟨⟨o,h1,h2⟩,h3⟩:=a4 b' hb';refine⟨⟨o,?_,h2⟩,h3⟩;exact((hb.block b' (Array.getElem?_eq_some_iff.1 h1).1).trans h1)
 ·unfold jL;simp only[List.cons_append,List.append_assoc];exact .cons _ (.cons _ ((List.perm_append_comm (l₁:=R) (l₂:=[.blk b cs T])).append_left _))
theorem Jq.less {w0 W:World} {xb pb:Nat} {p0:Option Addr} {c:Nat} {ws:List WordD} {R:List Res} {f:zAU} {i:Nat} {d:WordD} {r:Res} (hJ:Jq w0 xb pb p0 c ws (r::R) f i d W):Jq w0 xb pb p0 c ws R f i d W:=by
 obtain⟨hd,x,a1,a2,a3,a4,H⟩:=hJ;refine⟨hd,x,a1,a2,a3,a4,HoldG.left (R:=[r]) (H.perms ?_)⟩;unfold jL;simp only[List.cons_append,List.append_assoc];exact .cons _ (.cons _ ((List.perm_append_comm (l₁:=[r]) (l₂:=R)).append_left _))
theorem HoldG.blkMem {M:Nat→Prop} {w0 W:World} {l:List Res} (H:HoldG M w0 W l) {b:Nat} {cs:Array Value} {T:TypeId} (h:Res.blk b cs T ∈ l):W.heap[b]?=some (.cells cs T (0,0)):=by
 obtain⟨i,hi⟩:=List.getElem?_of_mem h;exact(H.all i _ hi).2
theorem zN1 {w0 W:World} {og oc:Nat} {pre:List LevM} {l:LevM} {F:Nat→Prop} {zs:List TV} {l3:List Res} (H:HoldG (fun _=>False) w0 W (zBA og oc pre l F zs++l3)) (hF:∀ b,F b→w0.heap.size≤b):∀ s ∈ zBA og oc pre l F zs,∀ b,s.foot b→w0.heap.size≤b:=fun s hs b hb=>by
 obtain⟨k,hk⟩:=List.getElem?_of_mem (List.mem_append_left l3 hs);have hA:=H.all k s hk;simp only[zBA,List.mem_cons,List.not_mem_nil,or_false]at hs;rcases hs with rfl|rfl|rfl|rfl
 ·exact(hA.lt b hb).1.resolve_right (fun h=>h)
 ·exact hF b hb
 ·exact(hA.lt b hb).1.resolve_right (fun h=>h)
 ·exact(hA.lt b hb).1.resolve_right (fun h=>h)
theorem HoldG.relZ1 {M:Nat→Prop} {w0 w W:World} {l:List Res} {b4:Nat} {c4 d4:Array Value} {T4:TypeId} (H:HoldG M w0 w l) {i:Nat} (hi:At l i (.blk b4 c4 T4)) (hr:RelZ [(b4,d4,T4)] w W) (h4:W.heap[b4]?=some (.cells d4 T4 (0,0))):HoldG M w0 W (l.set i (.blk b4 d4 T4)) :=
 H.upd hi.get ⟨hr.os,hr.tape,hr.output,hr.size,fun k h1 h2=>hr.old k h1 (fun z hz e=>h2 (by rw[List.mem_singleton]at hz;subst hz;rw[← e];rfl))⟩ ⟨(H.blk hi).1,h4⟩ (fun _ e=>.inl e)
theorem zIp (L:Str) (f:zAU) (ws:List WordD) (hw:zCt L=.ok ws) (w0:World) (hz:MaxL w0) :
  Calls Tryd.prog 6 #[.string ⟨L.toArray⟩,zDX f] w0 fun e w'=>ParseOut w0 (zCK L f) e w'∧Below w0.heap.size w0 w':=by
 have hwd:=fun w (hz:MaxL w)=>zI6 L w hz
 rw[hw]at hwd;simp only[WordsR]at hwd;have HW:=Lib.hid hw;clear hw;have HZ:=Lib.hid hz;clear hz;have H:=Hold.start w0;have hmf:=mkf;refine zDr (zHt (n:=9) Tryd.func6 rfl ?_);simp only[Tryd.ntmps6,List.size_toArray,List.length_cons,List.length_nil,Nat.reduceAdd,Nat.reduceSub,Array.replicate_succ,Array.replicate_zero,List.push_toArray,List.append_toArray,List.nil_append,List.cons_append]
 refine zB7 (zCp ?_)
 go_wp2_with (first|((first|((with_reducible refine kgA 3 ?_);refine kA 3 H ?_)|((with_reducible refine kgX 3 ?_);(first|refine kS 3 H ?_|refine kB 3 H ?_)));clear H;intro b3 w H;try simp only[nr]at H)|((first|((with_reducible refine kgA 4 ?_);refine kA 4 H ?_)|((with_reducible refine kgX 4 ?_);(first|refine kS 4 H ?_|refine kB 4 H ?_)));clear H;intro b4 w H;try simp only[nr]at H)|((first|((with_reducible refine kgA 5 ?_);refine kA 5 H ?_)|((with_reducible refine kgX 5 ?_);(first|refine kS 5 H ?_|refine kB 5 H ?_)));clear H;intro b5 w H;try simp only[nr]at H)|((first|((with_reducible refine kgA 6 ?_);refine kA 6 H ?_)|((with_reducible refine kgX 6 ?_);(first|refine kS 6 H ?_|refine kB 6 H ?_)));clear H;intro b6 w H;try simp only[nr]at H)|((first|((with_reducible refine kgA 7 ?_);refine kA 7 H ?_)|((with_reducible refine kgX 7 ?_);(first|refine kS 7 H ?_|refine kB 7 H ?_)));clear H;intro b7 w H;try simp only[nr]at H)|fail)
 refine zB7 (zCp ?_)
 go_wp2_with (first|(go_at_call 16;refine(hwd _ (HZ.out.below H.below)).mono ?_;rintro e w ⟨⟨v,rfl,ho⟩,hb⟩;have H2:=H.gainRow hb ho;clear H ho hb;have H:=H2;clear H2;simp only[ca]at H)|((with_reducible refine gT ?_);(refine aO H ?_;clear H;intro w H;try simp only[nr]at H)))
 refine zB7 (zCp ?_)
 go_wp2_with (first|((with_reducible refine gL ?_);refine aG H ?_))
 refine zB7 (zCp ?_)
 go_wp2_with (first|fail)
 obtain⟨p0,c,rfl,hcl,hcm,hp0⟩:=H.rowShape (i:=5) i_5;have HP:=Lib.hid (And.intro hcl (And.intro hcm hp0));clear hcl hcm hp0;have hwb:=zJg p0 ws.length c;refine zB7 (zCp ?_)
 go_wp2_with (first|((with_reducible show @wpList _ _ _ ({dst:=_,op:=Op.build 59 _,type:=_,pos:=_,after:=_,guard:=_}::_) _ _);refine zKF (f:=f) wtd_ rfl rfl rfl ?_)|((with_reducible refine kgA 9 ?_);refine kA 9 H ?_;clear H;intro b9 w H;rw[zPP]at H;simp only[ca]at H)|((with_reducible refine gT ?_);refine zAK wtd_ _ _ _ rfl rfl (v:=.pointer (some ⟨b29,0,none⟩)) rfl H (i:=7) i_7 rfl (show 0<1 from Nat.one_pos) (zAC zA0) ?_;clear H;intro w H;simp only[nrl]at H)|((first|((with_reducible refine kgA 29 ?_);refine kA 29 H ?_)|((with_reducible refine kgX 29 ?_);(first|refine kS 29 H ?_|refine kB 29 H ?_)));clear H;intro b29 w H;try simp only[nr]at H)|((with_reducible refine gL ?_);refine aD H ?_))
 replace H:=H.addNil 69 7;simp only[ca]at H;refine zB7 (zCp ?_)
 go_wp2_with (first|((with_reducible refine gL ?_);refine zAH wtd_ _ _ rfl rfl zA0 (H.cell (i:=7) i_7 0) ?_)|(go_at_call 18;refine chT (fun h=>zF7 (lq:=p0) (ln:=ws.length) (lc:=c) (last:=0) (f:=f) (g:=0) none 0 [] 0 0 (by simp) h) H (l3:=[.blk b4 (zAQ {kind:=0} nilS) 31,.blk b5 #[.int .i64 0] 3,.blk b6 #[.int .i64 0] 3,.blk b7 #[.int .i64 0] 32,.row (.slice p0 ws.length c) 65 17 ws.length (zHS ws),.blk b9 #[.pointer (some ⟨b29,0,none⟩)] 53]) [6,8] [1,2,3,4,5,7] rfl rfl (by decide) ?_;clear H;intro w xo H;simp only[zBH,List.cons_append,List.nil_append]at H)|fail)
 refine zB7 (zB7 (zCp ?_))
 go_wp2_with (first|((with_reducible refine gL ?_);refine zAH wtd_ _ _ rfl rfl zA0 (H.cell (i:=7) i_7 0) ?_)|(go_at_call 19;refine(zNZ b29 _).mono ?_;rintro e w ⟨⟨xb,rfl,hx1,hx2⟩,hb⟩;have H2:=H.gain hb [.blk xb #[ptrV b29] 85] (fun r hr=>by simp only[List.mem_cons,List.not_mem_nil,or_false]at hr;subst hr;exact⟨⟨.inl (Nat.le_trans H.keep.size hx1),hx2⟩,fun b e=>by cases e;exact hx1⟩) (List.pairwise_singleton _ _);clear H hb hx1 hx2;have H:=H2;clear H2;simp only[ca]at H)|fail)
 rw[zGg]at H;obtain⟨R,hR⟩:∃ R:List Res,R=[.blk b9 #[.pointer (some ⟨b29,0,none⟩)] 53,.blk b4 (zAQ {kind:=0} nilS) 31,.blk b5 #[.int .i64 0] 3,.blk b6 #[.int .i64 0] 3,.blk b7 #[.int .i64 0] 32]:=⟨_,rfl⟩;have hRk:R.all noKn=true:=by rw[hR];rfl
 have hlen:ws.length≤1000:=by
  have hw:=HW.out;unfold zCt at hw;split at hw
  ·cases hw
  ·have:=zEY _ _ _ hw;omega
 have hset:∀ d ∈ ws,zAs d.set:=by
  have hw:=HW.out;unfold zCt at hw;split at hw
  ·cases hw
  ·exact zFt _ _ _ hw
 have hfine:=zGc HW.out;have J0:Jw w0 xb b29 p0 c ws R f 0 w:=by
  have H1:=((H.also (fun _=>False) (fun V=>ListR V (fun _=>False) []) Still.none (fun V _=>ListR.nil _ _)).addNil 31 10).addNil 31 10
  refine⟨⟨p0,zCe f,xo.1,xo.2,[newL 0 0 f],fun _=>False,[]⟩,rfl,⟨rfl,by simp,⟨fun l hl x hx=>?_,by simp,fun l hl=>?_⟩,Nat.zero_le _⟩,fun h=>?_,fun _ h=>h.elim,?_⟩
  ·rw[List.mem_singleton]at hl;subst hl;simp[newL]at hx
  ·rw[List.mem_singleton]at hl;subst hl;simp[newL]
  ·obtain⟨g,e⟩:=HP.out.2.2 h;exact⟨g,e,by rw[e]⟩
  ·rw[hR];exact H1.pick [8,6,0,1,9,10,11,7,2,3,4,5] _ (by decide) rfl
 have hB:w0.heap.size≤w.heap.size:=H.keep.size;clear H;have HR:=Lib.hid hR;clear hR
 refine zLn (zK6 (σ:=Nat × Nat) (α:=WordD) (n:=8) (gf:=31) (lb:=#[.pointer (some ⟨xb,0,none⟩)]) rfl (enters_of Tryd.func31 (by kernel_rfl) rfl) (encs:=fun d=>#[zAk d]) (fun _=>rfl)
  (Jw w0 xb b29 p0 c ws R f 0) (fun j W=>j=none∧Jw w0 xb b29 p0 c ws R f ws.length W) (fun ch W=>∃ a,ch=zCw a 4∧zCG (zCe f) ws=.error a∧HoldG (fun _=>False) w0 W R)
  (fun s d W=>Jy w0 xb b29 p0 c ws (.blk s.2 (zAg d) 65::R) f s.1 d W)
  (fun s d j W=>j=none∧Jq w0 xb b29 p0 c ws (.blk s.2 (zAg d) 65::R) f s.1 d W)
  (fun s d ch W=>∃ a,ch=zCw a 4∧zCG (zCe f) ws=.error a∧HoldG (fun _=>False) w0 W R)
  (fun s d a1 W=>∃ b10,a1={tmps:=frS L f b3 b4 b5 b6 b7 b9 b29 xb p0 ws.length c (.pointer (some ⟨b10,0,none⟩)) d,defers:=[]}∧Jy w0 xb b29 p0 c ws (.blk b10 (zAg d) 65::.blk s.2 (zAg d) 65::R) f s.1 d W)
  (Jw.stay hRk hB 0) (fun j=>Stay.and (Jw.stay hRk hB _)) (fun s d j=>Stay.and (Jq.stay (by simp[noKn,hRk]) hB _ _)) (fun s d a1=>Stay.ex fun b10=>Stay.and (Jy.stay (by simp[noKn,hRk]) hB _ _)) ?iter J0 ?assign ?body ?done ?pan)
 case iter =>
  intro l B K hBs hKs hBK hY W hI hBW;refine(zNo w0 xb b29 p0 c ws R f HP.out.1 hlen (zEy hRk) l (B none) K w.heap.size (hBs none) (fun ch W=>∃ a,ch=zCw a 4∧zCG (zCe f) ws=.error a∧HoldG (fun _=>False) w0 W R) (fun i b3 d W1 hJ hB1=>?_) W hI hBW).mono (fun e W' h=>?_)
  ·refine(hY (i,b3) d W1 hJ hB1).mono (fun e W' h=>?_)
   rcases h with ⟨j,rfl,⟨rfl,hq⟩,hb⟩|h
   ·exact .inl ⟨rfl,hq,hb⟩
   ·exact .inr h
  ·rcases h with ⟨v,rfl,hj,hb⟩|h
   ·exact .inl ⟨v,none,rfl,⟨rfl,hj⟩,hb⟩
   ·exact .inr h
 case assign =>
  rintro l ⟨i,b3w⟩ d W hJ;simp only[List.zip_toArray,List.foldl_toArray,List.zip_cons_cons,List.zip_nil_right,List.zip_nil_left,List.foldl_cons,List.foldl_nil,List.setIfInBounds_toArray,List.set_cons_succ,List.set_cons_zero];refine wpIn_region_lit (zCU (by rintro⟨_,_,h⟩;exact h) _ _ _ rfl ?_)
  have H:=Hold.start W
  go_wp2_with (first|((first|((with_reducible refine kgA 10 ?_);refine kA 10 H ?_)|((with_reducible refine kgX 10 ?_);(first|refine kS 10 H ?_|refine kB 10 H ?_)));clear H;intro b10 w H;try simp only[nr]at H)|((with_reducible refine gT ?_);(refine aT H ?_;clear H;intro w H;try simp only[nr]at H)))
  have hge:W.heap.size≤b10:=by rcases(H.blk .zero).1 with h|h;exact h;exact h.elim
  exact⟨KeepsNC.of_below H.below,b10,rfl,hJ.more H.below hge (H.blk .zero).2⟩
 case body =>
  rintro l ⟨i,b3w⟩ d a1 W ⟨b10,rfl,hJ⟩;have hmem:=List.mem_of_getElem? hJ.1;have hword:=zKC (B:=w.heap.size) (by simp[noKn,hRk]) (hfine d hmem) (hset d hmem) hlen hJ
  obtain⟨_,x,_,_,_,_,H⟩:=hJ;have h10:=H.blkMem (b:=b10) (cs:=zAg d) (T:=65) (by simp[jL])
  have h9:=H.blkMem (b:=b9) (cs:=#[.pointer (some ⟨b29,0,none⟩)]) (T:=53) (by rw[HR.out];simp[jL])
  have h10c:∀ k,k<17→W.cell? ⟨b10,0+k,none⟩=(zAg d)[k]?:=fun k _=>by rw[Nat.zero_add];simp[World.cell?,h10]
  have h9c:W.cell? ⟨b9,0,none⟩=some (.pointer (some ⟨b29,0,none⟩)):=by simp[World.cell?,h9]
  clear H h9 h10 hmem;unfold frS;refine wpIn_block (wpIn_region_lit (zCU (by rintro⟨_,_,h⟩;exact h) _ _ _ rfl ?_))
  go_wp2_with (first|((with_reducible refine gL ?_);refine zAH wtd_ _ _ rfl rfl zA0 h9c ?_)|((with_reducible refine gL ?_);refine zBb wtd_ _ _ rfl rfl zB1 rfl h10c ?_)|(go_at_call 20;refine hword.mono ?_;rintro e W' ⟨hk,⟨rfl,hq⟩|⟨a,rfl,he,hR2⟩⟩))
  ·exact⟨hk,rfl,hq.less⟩
  ·refine⟨rfl,hk,a,?_⟩
   have hx:=HoldG.left (R:=[_,_]) (hR2.perms (List.perm_append_comm (l₁:=[_,_]) (l₂:=R)));exact⟨rfl,rfl,hx⟩
 case done =>
  rintro D j W hD ⟨rfl,x,a1,a2,a3,a4,H⟩ hK;have hD2:w0.heap.size≤D:=Nat.le_trans hB hD;have hpm:=zGq f (ws:=ws) (fun w hw=>by have:=(hfine w hw).1;omega)
  rw[List.take_of_length_le (Nat.le_refl _)]at a1;rw[a1]at hpm;obtain⟨pre,lm,hls⟩:∃ pre lm,x.ls=pre++[lm]:=⟨x.ls.dropLast,x.ls.getLast a2.ne,(List.dropLast_concat_getLast a2.ne).symm⟩;have hop:=a2.op;rw[hls,zBi]at hop;have hpre:pre.length≤1000:=by have:=a2.ok.len;rw[hls]at this;simp at this;omega
  obtain⟨og,hoq⟩:∃ og,x.oq=some ⟨og,0,none⟩:=by
   obtain⟨q,c',e,_,_,h⟩:=H.rowShape (i:=3) i_3;obtain⟨og,rfl⟩:=h (List.length_pos_iff.2 a2.ne);exact⟨og,by injection e⟩
  rw[HR.out]at H;have H1:=H.perms (List.perm_append_comm (l₁:=_::_::psL ..) (l₂:=[_,_,_,_,_]));unfold psL at H1;simp only[ca]at H1;rw[hoq,Nat.sub_self,show x.ls.length=pre.length+1 by rw[hls];simp,hls]at H1
  clear H;have hcl:∀ r ∈ zDT (pre++[lm]),zBs r=true:=fun r hr=>List.all_eq_true.1 (zGQ (pre++[lm])) r hr
  have H2:=(H1.know (·=D) (fun V=>V.heap[D]?=some (.deferred (some []))) (fun b hb=>by rw[hb];exact(Array.getElem?_eq_some_iff.1 hK).1) (fun i r hi b hb e=>by
   subst e;obtain⟨o,h1,h2⟩:=H1.placeCells (by simp only[List.all_cons,zBs,Bool.true_and];rw[List.all_eq_true];exact hcl) (List.mem_of_getElem? hi) hb
   rw[hK]at h1;cases h1;cases h2) (fun V hV=>(hV D rfl).trans hK)).perms List.perm_append_comm
  simp only[ca]at H2;clear H1 hcl;have H:=H2;clear H2;refine(show wpR _ _ _ _ _ from ?_)
  by_cases hp:pre=[]
  ·subst hp;obtain⟨l0,ls0,e1,_,e3⟩:=hpm;rw[hop]at e1
   cases e1
   obtain⟨hwr,hal⟩:=e3 rfl;obtain⟨t,ht⟩:∃ t,zId lm.plain=t:=⟨_,rfl⟩;rw[ht]at hal;have hsz:zAl t≤4000:=by
    have:=zGw _ _ _ _ _ _ _ _ _ hal;simp only[List.length_nil,zAO]at this;omega
   have E:zCK L f=if 20<x.s.groups∨2000<zAl t then .error (0,7) else if 50<zC8 t then .error (0,5) else .ok (t,x.s.groups):=by
    unfold zCK;rw[HW.out];simp only[hwr,hal]
   have E2:=Lib.hid E;clear E hwr hal;have hg:=a2.gr;have HOK:=Lib.hid a2.ok;rw[hls]at HOK;have HT:=Lib.hid ht;clear ht;have HF:=Lib.hid a4;clear a4;have HH:HoldG (fun _=>False) w0 W [.kn (·=D) (fun V=>V.heap[D]?=some (.deferred (some []))),.blk b9 #[.pointer (some ⟨b29,0,none⟩)] 53,.blk b4 (zAQ {kind:=0} nilS) 31,.blk b5 #[.int .i64 0] 3,.blk b6 #[.int .i64 0] 3,.blk b7 #[.int .i64 0] 32,.blk xb #[ptrV b29] 85,.row (.slice p0 ws.length c) 65 17 ws.length (zAc (ws.map zAg)),blkP b29 x.p 0 (c - ws.length) x.s.last x.s.fl x.s.groups (some ⟨og,0,none⟩) 1 x.oc,rowL (some ⟨og,0,none⟩) 1 x.oc [lm],knL x.F x.zs,rowN lm.iq lm.ic lm.items,rowN lm.aq lm.ac lm.all]:=H
   clear H a1 a3 hop hls hK hoq;have H:=HH.pick [9,10,11,12,2,3,4,5,1,0,8] [rowL (some ⟨og,0,none⟩) 1 x.oc [lm],knL x.F x.zs,rowN lm.iq lm.ic lm.items,rowN lm.aq lm.ac lm.all,.blk b4 (zAQ {kind:=0} nilS) 31,.blk b5 #[.int .i64 0] 3,.blk b6 #[.int .i64 0] 3,.blk b7 #[.int .i64 0] 32,.blk b9 #[.pointer (some ⟨b29,0,none⟩)] 53,.kn (·=D) (fun V=>V.heap[D]?=some (.deferred (some []))),blkP b29 x.p 0 (c - ws.length) x.s.last x.s.fl x.s.groups (some ⟨og,0,none⟩) 1 x.oc] (by decide) rfl
   clear HH;refine zB7 (zCp ?_);refine wr_ 12 [fun v _=>v=pt b29 0,fun v _=>v=pt b29 0,fun v _=>v=pt b29 6,fun v _=>v=.slice (some ⟨og,0,none⟩) 1 x.oc,fun v _=>v=.int .i64 ((1:Nat):Int),fun v _=>v=.bool true,fun v _=>v=pt b29 0,fun v _=>v=pt og 0,fun v _=>v=pt og 0,fun v _=>v=pt og 0,fun v _=>v=.int .i64 lm.place,fun v _=>v=.tuple #[]] ?ob ?en
   case ob =>
    refine⟨?_,?_,?_,?_,?_,?_,?_,?_,?_,?_,?_,?_,trivial⟩<;>intro A W h
    ·exact zAB rfl (zAL rfl (h.f 9) (by first|(with_reducible exact zAJ)|(with_reducible exact one_u8)|(with_reducible exact zAZ)|(with_reducible exact zAh)|(with_reducible exact zAe)|(with_reducible exact one_u64)|(with_reducible exact zAV)|(with_reducible exact zAN)|(with_reducible exact zAR)|(with_reducible exact zAM)|(with_reducible exact zAD)|(with_reducible exact zAE)|(with_reducible exact zA0)) ((H.call h.below).cell (i:=8) i_8 0)) (by decide)
    ·(have e40:A.eval (.tmp 40)=.pointer (some ⟨b29,0,none⟩):=h.d 0 40;refine zAB rfl ?_;simp only[execOp,e40];(simp[go_sem]<;>first|done|omega|(rw[IntKind.wrap_i64];omega)|(rw[IntKind.wrap_u8];omega)|(rw[IntKind.wrap_u64];omega)))
    ·(have e41:A.eval (.tmp 41)=.pointer (some ⟨b29,0,none⟩):=h.d 1 41;refine zAB rfl ?_;simp only[execOp,e41];(simp[go_sem]<;>first|done|omega|(rw[IntKind.wrap_i64];omega)|(rw[IntKind.wrap_u8];omega)|(rw[IntKind.wrap_u64];omega)))
    ·exact zAB rfl (zAL rfl (h.d 2 42) (by first|(with_reducible exact zAJ)|(with_reducible exact one_u8)|(with_reducible exact zAZ)|(with_reducible exact zAh)|(with_reducible exact zAe)|(with_reducible exact one_u64)|(with_reducible exact zAV)|(with_reducible exact zAN)|(with_reducible exact zAR)|(with_reducible exact zAM)|(with_reducible exact zAD)|(with_reducible exact zAE)|(with_reducible exact zA0)) ((H.call h.below).cell (i:=10) i_10 6)) (by decide)
    ·exact zFJ Tryd.underlying57 rfl rfl (h.d 3 43)
    ·(have e44:A.eval (.tmp 44)=.int .i64 ((1:Nat):Int):=h.d 4 44;refine zAB rfl ?_;simp only[execOp,e44];(simp[go_sem]<;>first|done|omega|(rw[IntKind.wrap_i64];omega)|(rw[IntKind.wrap_u8];omega)|(rw[IntKind.wrap_u64];omega)))
    ·exact zAB rfl (zAL rfl (h.f 9) (by first|(with_reducible exact zAJ)|(with_reducible exact one_u8)|(with_reducible exact zAZ)|(with_reducible exact zAh)|(with_reducible exact zAe)|(with_reducible exact one_u64)|(with_reducible exact zAV)|(with_reducible exact zAN)|(with_reducible exact zAR)|(with_reducible exact zAM)|(with_reducible exact zAD)|(with_reducible exact zAE)|(with_reducible exact zA0)) ((H.call h.below).cell (i:=8) i_8 0)) (by decide)
    ·exact zCN rfl rfl (enters_of Tryd.func22 (by kernel_rfl) rfl) (zCC (h.d 6 46)) (((zEr b29 og 0 x.oc W (Array.getElem?_eq_some_iff.1 ((H.call h.below).blk (i:=10) i_10).2).1 (by omega) ((H.call h.below).cell (i:=10) i_10 6))))
    ·(have e47:A.eval (.tmp 47)=.pointer (some ⟨og,0,none⟩):=h.d 7 47;refine zAB rfl ?_;simp only[execOp,e47];(simp[go_sem]<;>first|done|omega|(rw[IntKind.wrap_i64];omega)|(rw[IntKind.wrap_u8];omega)|(rw[IntKind.wrap_u64];omega)))
    ·(have e48:A.eval (.tmp 48)=.pointer (some ⟨og,0,none⟩):=h.d 8 48;refine zAB rfl ?_;simp only[execOp,e48];(simp[go_sem]<;>first|done|omega|(rw[IntKind.wrap_i64];omega)|(rw[IntKind.wrap_u8];omega)|(rw[IntKind.wrap_u64];omega)))
    ·exact zAB rfl (zAL rfl (h.d 9 49) zAJ (zCc (pre:=[]) (H.call h.below) (i:=0) .zero 0)) (by decide)
    ·exact zCN rfl rfl (enters_of Tryd.func21 (by kernel_rfl) rfl) (zOI ⟨(h.d 5 45),(h.d 10 50),rfl⟩) (zCi _ _ W)
   case en =>
    intro vals W hbw hv _;simp only[fa,Nat.reduceAdd];rw[e_ hv 0,e_ hv 1,e_ hv 2,e_ hv 3,e_ hv 4,e_ hv 5,e_ hv 6,e_ hv 7,e_ hv 8,e_ hv 9,e_ hv 10,e_ hv 11];clear hv
    try simp only[pl]
    replace H:=H.call hbw;clear hbw
    go_wp2_with fail
    refine zB7 (zCp ?_);have hall:lm.all.length≤1000000:=by have:=(HOK.out.cnt lm (by simp)).2;omega
    go_wp2_with (first|((with_reducible refine gL ?_);refine zAH wtd_ _ _ rfl rfl zA0 (H.cell (i:=8) i_8 0) ?_)|(go_at_call 22;refine zLh (zEr b29 og 0 x.oc _ (Array.getElem?_eq_some_iff.1 (H.blk (i:=10) i_10).2).1 (by omega) (H.cell (i:=10) i_10 6)) H ?_;clear H;intro w H)|(go_at_call 23;refine zLc (fun h=>zIc og x.oc [] lm x.F x.zs (by simp) hall (HOK.out.sub lm (by simp)) h) (H:HoldG (fun _=>False) w0 _ (zBA og x.oc [] lm x.F x.zs++_)) (N:=fun b=>w0.heap.size≤b) (zN1 H (fun b hb=>(HF.out b hb).2)) (fun b hb=>Nat.le_trans H.keep.size hb) HT.out ?_;clear H;intro w q c2 F2 Fx l' HL HF2 HX H;simp only[ca]at H)|((with_reducible refine gT ?_);(refine aT H ?_;clear H;intro w H;try simp only[nr]at H)))
    refine zB7 (zCp ?_)
    go_wp2_with (first|(go_at_call 24;refine ch (zMq t q t.kids.length c2 Fx _ hsz (H.knlt (i:=2) i_2) (H.kn (i:=2) i_2) rfl) H ?_;clear H;intro w H)|((with_reducible refine gL ?_);refine aD H ?_))
    by_cases h20:20<x.s.groups
    ·have dg:decide ((x.s.groups:Int)≤20)=false:=decide_eq_false (by omega)
     have E3:=Lib.hid (show zCK L f=.error (0,7) by rw[E2.out,if_pos (.inl h20)])
     clear E2;refine zB7 (zCp ?_)
     go_wp2_with (first|((with_reducible refine gL ?_);refine zAH wtd_ _ _ rfl rfl zA0 (H.cell (i:=7) i_7 0) ?_)|(go_at_call 21;refine chP (zDE 0 7 _) H ?_;clear H;intro w H)|((with_reducible refine gL ?_);refine aG H ?_))
     have hK3:=H.kn (i:=8) i_8;have H3:HoldG (fun _=>False) w0 w (resL b4 b5 b6 b7 (zAQ t.d (.slice q t.kids.length c2)) 0 0 0):=H.pick [3,4,5,6] _ (by decide) rfl
     refine⟨by simp,.inl ⟨D,_,rfl,run_takeDeferred hK3,?_⟩⟩
     have H4:=Stay.putObj (HoldG.stay rfl (Nat.le_refl _)) (.deferred none) H3 hD2 hK3 rfl;refine⟨by simp,.inr ⟨fun _=>by omega,_,_,_,_,rfl,by simp[go_sem],fun g hg=>trivial,(zCa 8 b4 b5 b6 b7 _ _ _ _ rfl 0 7 _ H4).mono ?_⟩⟩
     rintro e u' W' ⟨rfl,rfl,H5⟩;refine⟨_,zDm Tryd.results6 rfl rfl rfl rfl zAW zAJ zAJ zAM H5 (i:=0) .zero rfl ((H5.cell (i:=1) i_1 0).trans rfl) ((H5.cell (i:=2) i_2 0).trans rfl) ((H5.cell (i:=3) i_3 0).trans rfl),?_⟩
     exact⟨ParseOut.no E3.out,H5.below⟩
    ·have dg:decide ((x.s.groups:Int)≤20)=true:=decide_eq_true (by omega)
     by_cases h2k:2000<zAl t
     ·have dk:decide ((zAl t:Int)≤2000)=false:=decide_eq_false (by omega)
      have E3:=Lib.hid (show zCK L f=.error (0,7) by rw[E2.out,if_pos (.inr h2k)])
      clear E2;refine zB7 (zCp ?_)
      go_wp2_with (first|((with_reducible refine gL ?_);refine zAH wtd_ _ _ rfl rfl zA0 (H.cell (i:=7) i_7 0) ?_)|(go_at_call 21;refine chP (zDE 0 7 _) H ?_;clear H;intro w H)|((with_reducible refine gL ?_);refine aG H ?_))
      have hK3:=H.kn (i:=8) i_8;have H3:HoldG (fun _=>False) w0 w (resL b4 b5 b6 b7 (zAQ t.d (.slice q t.kids.length c2)) 0 0 0):=H.pick [3,4,5,6] _ (by decide) rfl
      refine⟨by simp,.inl ⟨D,_,rfl,run_takeDeferred hK3,?_⟩⟩
      have H4:=Stay.putObj (HoldG.stay rfl (Nat.le_refl _)) (.deferred none) H3 hD2 hK3 rfl;refine⟨by simp,.inr ⟨fun _=>by omega,_,_,_,_,rfl,by simp[go_sem],fun g hg=>trivial,(zCa 8 b4 b5 b6 b7 _ _ _ _ rfl 0 7 _ H4).mono ?_⟩⟩
      rintro e u' W' ⟨rfl,rfl,H5⟩;refine⟨_,zDm Tryd.results6 rfl rfl rfl rfl zAW zAJ zAJ zAM H5 (i:=0) .zero rfl ((H5.cell (i:=1) i_1 0).trans rfl) ((H5.cell (i:=2) i_2 0).trans rfl) ((H5.cell (i:=3) i_3 0).trans rfl),?_⟩
      exact⟨ParseOut.no E3.out,H5.below⟩
     ·have dk:decide ((zAl t:Int)≤2000)=true:=decide_eq_true (by omega)
      refine zB7 (zCp ?_)
      go_wp2_with (first|((with_reducible refine gL ?_);refine zAH wtd_ _ _ rfl rfl zA0 (H.cell (i:=7) i_7 0) ?_)|(go_at_call 21;refine ch (zCi 0 7 _) H ?_;clear H;intro w H)|((with_reducible refine gL ?_);refine aG H ?_))
      by_cases h50:50<zC8 t
      ·have dd:decide ((zC8 t:Int)≤50)=false:=decide_eq_false (by omega)
       have E3:=Lib.hid (show zCK L f=.error (0,5) by rw[E2.out,if_neg (by omega),if_pos h50])
       clear E2;refine zB7 (zCp ?_)
       go_wp2_with (first|(go_at_call 21;refine chP (zDE 0 5 _) H ?_;clear H;intro w H)|fail)
       have hK3:=H.kn (i:=8) i_8;have H3:HoldG (fun _=>False) w0 w (resL b4 b5 b6 b7 (zAQ t.d (.slice q t.kids.length c2)) 0 0 0):=H.pick [3,4,5,6] _ (by decide) rfl
       refine⟨by simp,.inl ⟨D,_,rfl,run_takeDeferred hK3,?_⟩⟩
       have H4:=Stay.putObj (HoldG.stay rfl (Nat.le_refl _)) (.deferred none) H3 hD2 hK3 rfl;refine⟨by simp,.inr ⟨fun _=>by omega,_,_,_,_,rfl,by simp[go_sem],fun g hg=>trivial,(zCa 8 b4 b5 b6 b7 _ _ _ _ rfl 0 5 _ H4).mono ?_⟩⟩
       rintro e u' W' ⟨rfl,rfl,H5⟩;refine⟨_,zDm Tryd.results6 rfl rfl rfl rfl zAW zAJ zAJ zAM H5 (i:=0) .zero rfl ((H5.cell (i:=1) i_1 0).trans rfl) ((H5.cell (i:=2) i_2 0).trans rfl) ((H5.cell (i:=3) i_3 0).trans rfl),?_⟩
       exact⟨ParseOut.no E3.out,H5.below⟩
      ·have dd:decide ((zC8 t:Int)≤50)=true:=decide_eq_true (by omega)
       have E3:=Lib.hid (show zCK L f=.ok (t,x.s.groups) by rw[E2.out,if_neg (by omega),if_neg h50])
       clear E2;refine zB7 (zCp ?_)
       go_wp2_with (first|(go_at_call 21;refine ch (zCi 0 5 _) H ?_;clear H;intro w H)|fail)
       refine zCp (wp_seq ?_);have h4:=(H.blk (i:=3) i_3).2;have h9:=(H.blk (i:=7) i_7).2;have h29:=(H.blk (i:=9) i_9).2;have n49:b4≠b9:=fun e=>H.apart 3 7 _ _ (by decide) rfl rfl b4 rfl (by rw[e];rfl)
       have n429:b4≠b29:=fun e=>H.apart 3 9 _ _ (by decide) rfl rfl b4 rfl (by rw[e];rfl)
       have hS:∀ W,RelZ [(b4,zAQ t.d (.slice q t.kids.length c2),31)] w W→W.heap[b4]?=some (.cells (zAQ t.d (.slice q t.kids.length c2)) 31 (0,0))∧W.cell? ⟨b9,0,none⟩=some (.pointer (some ⟨b29,0,none⟩))∧W.cell? ⟨b29,5,none⟩=some (.int .i64 x.s.groups):=fun W hr=>by
        have g4:=hr.blk h4 (fun z hz e=>by rw[List.mem_singleton]at hz;subst hz;exact⟨rfl,rfl⟩)
        have g9:=hr.blk h9 (fun z hz e=>by rw[List.mem_singleton]at hz;subst hz;exact absurd e n49)
        have g29:=hr.blk h29 (fun z hz e=>by rw[List.mem_singleton]at hz;subst hz;exact absurd e n429)
        exact⟨g4,by simp[World.cell?,g9],by simp[World.cell?,g29]⟩
       refine zBW (RelZ [(b4,zAQ t.d (.slice q t.kids.length c2),31)]) RelZ.refl RelZ.trans RelZ.drew 6 [fun v _=>v=zAa t.d (.slice q t.kids.length c2),fun v _=>v=pt b29 0,fun v _=>v=pt b29 0,fun v _=>v=pt b29 5,fun v _=>v=.int .i64 x.s.groups,zHb (b4,zAQ t.d (.slice q t.kids.length c2),31)]
        ⟨zAA _,zAA _,zAA _,zAA _,zAA _,zBz (.head _),trivial⟩ (by kernel_rfl) (by kernel_rfl) (by kernel_rfl) ?ob15 ?en15
       case ob15 =>
        refine⟨?_,?_,?_,?_,?_,?_,trivial⟩<;>intro A W h
        ·exact zAt rfl (zAG RelZ.refl rfl (zCI rfl (h.f 4) zAW rfl (fun k _=>by rw[Nat.zero_add];simp[World.cell?,(hS W h.rel).1])))
        ·exact zAt rfl (zAG RelZ.refl rfl (zAL rfl (h.f 9) zA0 (hS W h.rel).2.1))
        ·exact zAt rfl (zAG RelZ.refl rfl (by simp only[execOp,show A.eval (.tmp 74)=.pointer (some ⟨b29,0,none⟩) from h.d 1 74];simp[go_sem]))
        ·exact zAt rfl (zAG RelZ.refl rfl (by simp only[execOp,show A.eval (.tmp 75)=.pointer (some ⟨b29,0,none⟩) from h.d 2 75];simp[go_sem]))
        ·exact zAt rfl (zAG RelZ.refl rfl (zAL rfl (h.d 3 76) zAJ (hS W h.rel).2.2))
        ·exact zDq (.head _) (fun z hz e=>by rw[List.mem_singleton]at hz;exact hz) rfl rfl rfl (h.f 4) ⟨_,(hS W h.rel).1,rfl⟩ (fun hth=>zFs rfl (h.f 4) (h.d 0 73) (zA3 (n:=10) zAW) rfl hth)
       case en15 =>
        intro vals W1 hrel hv hlk;have v0:vals 0=zAa t.d (.slice q t.kids.length c2):=hv 0 (by omega)
        have v1:vals 1=.pointer (some ⟨b29,0,none⟩):=hv 1 (by omega)
        have v2:vals 2=.pointer (some ⟨b29,0,none⟩):=hv 2 (by omega)
        have v3:vals 3=.pointer (some ⟨b29,5,none⟩):=hv 3 (by omega)
        have v4:vals 4=.int .i64 x.s.groups:=hv 4 (by omega)
        have H2:=H.relZ1 (i:=3) i_3 hrel (hv 5 (by omega)).2
        simp only[fa,Nat.reduceAdd];rw[v0,v1,v2,v3,v4];clear hv v0 v1 v2 v3 v4 hlk hrel H hS h4 h9 h29;have H:=H2;clear H2;simp only[sc]at H;simp only[pl];refine zAK rfl 3 _ _ rfl (b:=b5) (k:=0) rfl (v:=.int .i64 x.s.groups) rfl H (i:=4) i_4 rfl (show 0<1 from Nat.one_pos) (zAC zAJ) ?_
        clear H;intro w H;refine zAK rfl 3 _ _ rfl (b:=b6) (k:=0) rfl (v:=.int .i64 0) rfl H (i:=5) i_5 rfl (show 0<1 from Nat.one_pos) (zAC zAJ) ?_
        clear H;intro w H;refine zAK rfl 32 _ _ rfl (b:=b7) (k:=0) rfl (v:=.int .i64 0) rfl H (i:=6) i_6 rfl (show 0<1 from Nat.one_pos) (zAC zAM) ?_
        clear H;intro w H;have hK3:=H.kn (i:=8) i_8;have H1:=H.restG (i:=2) i_2 (fun b=>Fx b∧CellsAt w b) (fun V=>ForestR V (fun b=>Fx b∧CellsAt w b) q c2 t.kids) (fun b hb=>.inl hb.1) (fun V hV=>((H.kn (i:=2) i_2).cells).kept hV)
        have H3:HoldG (fun _=>False) w0 w [.blk b4 (zAQ t.d (.slice q t.kids.length c2)) 31,.blk b5 #[.int .i64 x.s.groups] 3,.blk b6 #[.int .i64 0] 3,.blk b7 #[.int .i64 0] 32,.kn (fun b=>Fx b∧CellsAt w b) (fun V=>ForestR V (fun b=>Fx b∧CellsAt w b) q c2 t.kids)]:=H1.pick [3,4,5,6,2] _ (by decide) rfl
        clear H H1
        go_wp2_with fail
        refine⟨by simp,.inl ⟨D,_,rfl,run_takeDeferred hK3,?_⟩⟩
        obtain⟨_,_,_,H4⟩:=Stay.putObj (FootCells.stay (w0:=w0) (M:=fun _=>False) (B:=w0.heap.size) (X:=Unit) (fun _=>[.blk b4 (zAQ t.d (.slice q t.kids.length c2)) 31,.blk b5 #[.int .i64 x.s.groups] 3,.blk b6 #[.int .i64 0] 3,.blk b7 #[.int .i64 0] 32,.kn (fun b=>Fx b∧CellsAt w b) (fun V=>ForestR V (fun b=>Fx b∧CellsAt w b) q c2 t.kids)]) (fun _=>True) (fun _ _=>rfl) (Nat.le_refl _)) (.deferred none) ⟨(),trivial,(fun r hr F S e b hb=>by subst e;simp only[List.mem_cons,reduceCtorEq,false_or,List.not_mem_nil,or_false,Res.kn.injEq]at hr;obtain⟨rfl,_⟩:=hr;exact hb.2),H3⟩ hD2 hK3 rfl
        refine⟨by simp,.inr ⟨fun _=>by omega,_,_,_,_,rfl,by simp[go_sem],fun g hg=>trivial,(zIt 8 (.pointer (some ⟨b4,0,none⟩)) (.pointer (some ⟨b5,0,none⟩)) (.pointer (some ⟨b6,0,none⟩)) (.pointer (some ⟨b7,0,none⟩)) _).mono ?_⟩⟩
        rintro e u' W' ⟨rfl,rfl,rfl⟩;refine⟨_,zDm Tryd.results6 rfl rfl rfl rfl zAW zAJ zAJ zAM H4 (i:=0) .zero rfl ((H4.cell (i:=1) i_1 0).trans rfl) ((H4.cell (i:=2) i_2 0).trans rfl) ((H4.cell (i:=3) i_3 0).trans rfl),?_⟩
        refine⟨?_,H4.below⟩;rw[E3.out];exact⟨q,c2,_,rfl,H4.kn (i:=4) i_4,fun b hb=>⟨H4.knlt (i:=4) i_4 b hb,HX.out b hb.1⟩⟩
  ·have hl2:pre.length+1≠1:=fun h=>hp (List.length_eq_zero_iff.1 (by omega))
   have dl:(((pre.length:Int)+1) == 1)=false:=by rw[beq_eq_false_iff_ne];omega
   have E2:zCK L f=.error (lm.place,4):=by
    obtain⟨l0,ls0,e1,e2,_⟩:=hpm;rw[hop]at e1
    cases e1
    have hw:=e2 (fun h=>hp (by have:=congrArg List.length h;simp[opOf]at this;exact List.length_eq_zero_iff.1 (by simpa using this)))
    unfold zCK;rw[HW.out];simp only[hw];rfl
   refine zB7 (zCp ?_);clear hpm a1 a3 a4 hop hls hp hK hoq;refine wr_ 11 [fun v _=>v=pt b29 0,fun v _=>v=pt b29 0,fun v _=>v=pt b29 6,fun v _=>v=.slice (some ⟨og,0,none⟩) (pre.length+1) x.oc,fun v _=>v=.int .i64 ((pre.length+1:Nat):Int),fun v _=>v=.bool false,fun v _=>v=pt b29 0,fun v _=>v=.pointer (some ⟨og,pre.length * 7,none⟩),fun v _=>v=.pointer (some ⟨og,pre.length * 7,none⟩),fun v _=>v=.pointer (some ⟨og,pre.length * 7,none⟩),fun v _=>v=.int .i64 lm.place] ?ob ?en
   case ob =>
    refine⟨?_,?_,?_,?_,?_,?_,?_,?_,?_,?_,?_,trivial⟩<;>intro A W h
    ·exact zAB rfl (zAL rfl (h.f 9) (by first|(with_reducible exact zAJ)|(with_reducible exact one_u8)|(with_reducible exact zAZ)|(with_reducible exact zAh)|(with_reducible exact zAe)|(with_reducible exact one_u64)|(with_reducible exact zAV)|(with_reducible exact zAN)|(with_reducible exact zAR)|(with_reducible exact zAM)|(with_reducible exact zAD)|(with_reducible exact zAE)|(with_reducible exact zA0)) ((H.call h.below).cell (i:=1) i_1 0)) (by decide)
    ·(have e40:A.eval (.tmp 40)=.pointer (some ⟨b29,0,none⟩):=h.d 0 40;refine zAB rfl ?_;simp only[execOp,e40];(simp[go_sem]<;>first|done|omega|(rw[IntKind.wrap_i64];omega)|(rw[IntKind.wrap_u8];omega)|(rw[IntKind.wrap_u64];omega)))
    ·(have e41:A.eval (.tmp 41)=.pointer (some ⟨b29,0,none⟩):=h.d 1 41;refine zAB rfl ?_;simp only[execOp,e41];(simp[go_sem]<;>first|done|omega|(rw[IntKind.wrap_i64];omega)|(rw[IntKind.wrap_u8];omega)|(rw[IntKind.wrap_u64];omega)))
    ·exact zAB rfl (zAL rfl (h.d 2 42) (by first|(with_reducible exact zAJ)|(with_reducible exact one_u8)|(with_reducible exact zAZ)|(with_reducible exact zAh)|(with_reducible exact zAe)|(with_reducible exact one_u64)|(with_reducible exact zAV)|(with_reducible exact zAN)|(with_reducible exact zAR)|(with_reducible exact zAM)|(with_reducible exact zAD)|(with_reducible exact zAE)|(with_reducible exact zA0)) ((H.call h.below).cell (i:=8) i_8 6)) (by decide)
    ·exact zFJ Tryd.underlying57 rfl rfl (h.d 3 43)
    ·(have e44:A.eval (.tmp 44)=.int .i64 ((pre.length+1:Nat):Int):=h.d 4 44;refine zAB rfl ?_;simp only[execOp,e44];(simp[go_sem]<;>first|done|omega|(rw[IntKind.wrap_i64];omega)|(rw[IntKind.wrap_u8];omega)|(rw[IntKind.wrap_u64];omega)))
    ·exact zAB rfl (zAL rfl (h.f 9) (by first|(with_reducible exact zAJ)|(with_reducible exact one_u8)|(with_reducible exact zAZ)|(with_reducible exact zAh)|(with_reducible exact zAe)|(with_reducible exact one_u64)|(with_reducible exact zAV)|(with_reducible exact zAN)|(with_reducible exact zAR)|(with_reducible exact zAM)|(with_reducible exact zAD)|(with_reducible exact zAE)|(with_reducible exact zA0)) ((H.call h.below).cell (i:=1) i_1 0)) (by decide)
    ·exact zCN rfl rfl (enters_of Tryd.func22 (by kernel_rfl) rfl) (zCC (h.d 6 46)) (zEr b29 og pre.length x.oc W (Array.getElem?_eq_some_iff.1 ((H.call h.below).blk (i:=8) i_8).2).1 (by omega) ((H.call h.below).cell (i:=8) i_8 6))
    ·(have e47:A.eval (.tmp 47)=.pointer (some ⟨og,pre.length * 7,none⟩):=h.d 7 47;refine zAB rfl ?_;simp only[execOp,e47];(simp[go_sem]<;>first|done|omega|(rw[IntKind.wrap_i64];omega)|(rw[IntKind.wrap_u8];omega)|(rw[IntKind.wrap_u64];omega)))
    ·(have e48:A.eval (.tmp 48)=.pointer (some ⟨og,pre.length * 7,none⟩):=h.d 8 48;refine zAB rfl ?_;simp only[execOp,e48];(simp[go_sem]<;>first|done|omega|(rw[IntKind.wrap_i64];omega)|(rw[IntKind.wrap_u8];omega)|(rw[IntKind.wrap_u64];omega)))
    ·exact zAB rfl (zAL rfl (h.d 9 49) zAJ (zCc (H.call h.below) (i:=9) i_9 0)) (by decide)
   case en =>
    intro vals W hbw hv _;simp only[fa,Nat.reduceAdd];rw[e_ hv 0,e_ hv 1,e_ hv 2,e_ hv 3,e_ hv 4,e_ hv 5,e_ hv 6,e_ hv 7,e_ hv 8,e_ hv 9,e_ hv 10];clear hv
    try simp only[pl]
    replace H:=H.call hbw;clear hbw
    go_wp2_with (first|(go_at_call 21;refine chP (zDE lm.place 4 _) H ?_;clear H;intro w H)|fail)
    have hK3:=H.kn (i:=0) .zero;have H3:HoldG (fun _=>False) w0 w (resL b4 b5 b6 b7 (zAQ {kind:=0} nilS) 0 0 0):=H.pick [2,3,4,5] _ (by decide) rfl
    refine⟨by simp,.inl ⟨D,_,rfl,run_takeDeferred hK3,?_⟩⟩
    have H4:=Stay.putObj (HoldG.stay rfl (Nat.le_refl _)) (.deferred none) H3 hD2 hK3 rfl;refine⟨by simp,.inr ⟨fun _=>by omega,_,_,_,_,rfl,by simp[go_sem],fun g hg=>trivial,(zCa 8 b4 b5 b6 b7 _ _ _ _ rfl lm.place 4 _ H4).mono ?_⟩⟩
    rintro e u' W' ⟨rfl,rfl,H5⟩;refine⟨_,zDm Tryd.results6 rfl rfl rfl rfl zAW zAJ zAJ zAM H5 (i:=0) .zero rfl ((H5.cell (i:=1) i_1 0).trans rfl) ((H5.cell (i:=2) i_2 0).trans rfl) ((H5.cell (i:=3) i_3 0).trans rfl),?_⟩
    exact⟨rfl,H5.below⟩
 case pan =>
  rintro D ch W hD ⟨a,rfl,he,H⟩ hK;have E2:zCK L f=.error (a,4):=by
   have hm:=zGq f (fun w hw=>by have:=(hfine w hw).1;omega)
   rw[he]at hm;unfold zCK;rw[HW.out];simp only[hm]
  have hD2:w0.heap.size≤D:=Nat.le_trans hB hD;rw[HR.out]at H;refine⟨by simp,.inl ⟨D,_,rfl,run_takeDeferred hK,?_⟩⟩
  have H2:=Stay.putObj (HoldG.stay rfl (Nat.le_refl _)) (.deferred none) H hD2 hK rfl;have H3:HoldG (fun _=>False) w0 _ (resL b4 b5 b6 b7 (zAQ {kind:=0} nilS) 0 0 0):=H2.pick [1,2,3,4] _ (by decide) rfl
  refine⟨by simp,.inr ⟨fun _=>by omega,_,_,_,_,rfl,by simp[go_sem],fun g hg=>trivial,(zCa 8 b4 b5 b6 b7 _ _ _ _ rfl a 4 _ H3).mono ?_⟩⟩
  rintro e u' W' ⟨rfl,rfl,H4⟩;refine⟨_,zDm Tryd.results6 rfl rfl rfl rfl zAW zAJ zAJ zAM H4 (i:=0) .zero rfl ((H4.cell (i:=1) i_1 0).trans rfl) ((H4.cell (i:=2) i_2 0).trans rfl) ((H4.cell (i:=3) i_3 0).trans rfl),?_⟩
  exact⟨ParseOut.no E2,H4.below⟩
theorem zJT (L:Str) (f:zAU) (w0:World) (hz:MaxL w0):Calls Tryd.prog 6 #[.string ⟨L.toArray⟩,zDX f] w0 fun e w'=>ParseOut w0 (zCK L f) e w'∧Below w0.heap.size w0 w':=by
 cases hw:zCt L with
 | error x=>exact zIQ L f x.1 x.2 hw w0 hz
 | ok ws=>exact zIp L f ws hw w0 hz
theorem zJ7 {xs:List TV} {j:Nat} {x:TV} (h:xs[j]?=some x):zAO ((xs.map (·.1)).take (j+1))=zAO ((xs.map (·.1)).take j)+zAl x.1:=zFp (by rw[List.getElem?_map,h];rfl)
theorem zCV {xs:List TV} {j:Nat} {x:TV} (h:xs[j]?=some x):zAO ((xs.map (·.1)).take j)+zAl x.1≤zAO (xs.map (·.1)):=zKK (by rw[List.getElem?_map,h];rfl)
theorem zIx (m:Nat) (IH:∀ (t:Tree) (p:Option Addr) (n c:Nat) (F:Nat→Prop) (w0:World) (lim:Nat),zAl t≤m→zAl t≤lim→lim≤1000000000000→(∀ b,F b→b<w0.heap.size)→ForestR w0 F p c t.kids→n=t.kids.length →
   Calls Tryd.prog 9 #[zAa t.d (.slice p n c),.int .i64 lim] w0 (Rt (.int .i64 (zAl t)) w0))
  (ts:List Tree) (p:Option Addr) (n c:Nat) (F:Nat→Prop) (w0:World) (lim:Nat) (hm:zAO ts≤m) (hl:zAO ts≤lim) (hl2:lim≤1000000000000) (hF:∀ b,F b→b<w0.heap.size) (h:ForestR w0 F p c ts) (hn:n=ts.length) :
  Calls Tryd.prog 26 #[.slice p n c,.int .i64 lim] w0 (Rt (.int .i64 (zAO ts)) w0):=by
 obtain⟨xs,h1,h2,rfl⟩:=h.open;rw[List.length_map]at hn;rw[← hn]at h1;have hK:Knows F p n c xs w0:=⟨h1,h2⟩;clear h h1 h2;have H:=Hold.knows hF hK;have hc1:=hK.bound.2.1;have hc2:=hK.bound.2.2;have hp:=hK.at;clear hK;have HN:=Lib.hid hn;clear hn;have E2:=Lib.hid (rfl:zAO (xs.map (·.1))=zAO (xs.map (·.1)))
 go_enter Tryd.func26,Tryd.ntmps26
 go_wp2_with (first|fail)
 go_loopw [5,6] (fun k i wr=>∃ j:Nat,j≤n∧i=.int .i64 j∧k=.int .i64 ((zAO ((xs.map (·.1)).take j):Nat):Int)∧Hold w0 wr [.kn F (Knows F p n c xs)]) (fun _ i _=>n+1 - (intOf i).toNat)
 case atStart=>exact⟨0,by omega,rfl,by simp[zAO],H⟩
 case round =>
  clear H;obtain⟨j,hj,rfl,rfl,H⟩:=hrel
  by_cases hlt:j<n
  ·have dj:decide ((j:Int)<(n:Int))=true:=by simp;omega
   obtain⟨x,hx⟩:∃ x,xs[j]?=some x:=⟨_,List.getElem?_eq_getElem (by rw[← HN.out];exact hlt)⟩
   obtain⟨b,off,rfl⟩:=hp (by rw[← HN.out];omega)
   have hs1:=zCV hx;have HS:=Lib.hid (zJ7 hx);have hmem:=List.mem_of_getElem? hx;have hcell:∀ V,Knows F (some ⟨b,off,none⟩) n c xs V→∀ k,k<10→V.cell? ⟨b,off+j * 10+k,none⟩=(zAo x)[k]?:=fun V h=>h.cells hx rfl
   have ih:=fun w (hw:∀ b,F b→b<w.heap.size) (hk:Knows F (some ⟨b,off,none⟩) n c xs w)=>IH x.1 x.2.1 _ x.2.2 F w (lim - zAO ((xs.map (·.1)).take j)) (by omega) (by omega) (by omega) hw (hk.2 x hmem) rfl
   clear IH hx hmem hp
   generalize zAO ((xs.map (·.1)).take j)=S at *
   have hSl:S≤lim:=by omega
   rw[Int.ofNat_sub hSl]at ih;have ds:decide ((S:Int)≤(lim:Int))=true:=decide_eq_true (by omega)
   go_wp2_with (first|((with_reducible refine gL ?_);refine zBb wtd_ _ _ rfl rfl zAW (zBQ x) (hcell _ (H.kn .zero)) ?_)|fail|((with_reducible refine ch (ih _ (H.knlt .zero) (H.kn .zero)) H ?_);clear H;intro w H))
   go_roundw
   case rel=>exact⟨j+1,by omega,by go_num,by rw[HS.out];go_num,H⟩
   case measure=>simp[intOf];omega
  ·have dj:decide ((j:Int)<(n:Int))=false:=by simp;omega
   obtain rfl:j=n:=by omega
   go_wp2_with (first|fail)
   go_ret;exact⟨reti (by rw[List.take_of_length_le (by rw[List.length_map,← HN.out];exact Nat.le_refl _)]),H.below⟩
theorem zGd:∀ (m:Nat) (t:Tree) (p:Option Addr) (n c:Nat) (F:Nat→Prop) (w0:World) (lim:Nat),zAl t≤m→zAl t≤lim→lim≤1000000000000→(∀ b,F b→b<w0.heap.size)→ForestR w0 F p c t.kids→n=t.kids.length →
  Calls Tryd.prog 9 #[zAa t.d (.slice p n c),.int .i64 lim] w0 (Rt (.int .i64 (zAl t)) w0)
 | 0,t,_,_,_,_,_,_,hm,_,_,_,_,_=>by have:=zD4 t;omega
 | m+1,t,p,n,c,F,w0,lim,hm,hl,hl2,hF,h,hn=>by
  subst hn;have hs:=zEj t;have H:=(Hold.start w0).know F (fun V=>ForestR V F p c t.kids) hF (fun i r h=>by simp at h) (fun V hV=>h.kept hV)
  simp only[List.nil_append]at H;have ih:=fun w (hw:∀ b,F b→b<w.heap.size) (hk:ForestR w F p c t.kids)=>zIx m (zGd m) t.kids p _ c F w lim (by omega) (by omega) hl2 hw hk rfl
  clear h
  go_enter Tryd.func9,Tryd.ntmps9
  go_wp2_with (first|((first|((with_reducible refine kgA 2 ?_);refine kA 2 H ?_)|((with_reducible refine kgX 2 ?_);(first|refine kS 2 H ?_|refine kB 2 H ?_)));clear H;intro b2 w H;try simp only[nr]at H)|((with_reducible refine gL ?_);refine aG H ?_)|((with_reducible refine ch (ih _ (H.knlt .zero) (H.kn .zero)) H ?_);clear H;intro w H))
  go_ret;exact⟨reti (by rw[hs];omega),H.below⟩
theorem zJe {xs:List TV} {j:Nat} {x:TV} (h:xs[j]?=some x):zA5 ((xs.map (·.1)).take (j+1))=max (zA5 ((xs.map (·.1)).take j)) (zC8 x.1):=zIn (by rw[List.getElem?_map,h];rfl)
theorem zGo:∀ {ts:List Tree} {j:Nat} {t:Tree},ts[j]?=some t→zC8 t≤zA5 ts
 | t::r,0,u,h=>by cases h;simp only[zA5];omega
 | t::r,j+1,u,h=>by have:=zGo (ts:=r) (j:=j) (t:=u) (by simpa using h);simp only[zA5];omega
theorem zJD:∀ (m:Nat) (t:Tree) (p:Option Addr) (n c:Nat) (F:Nat→Prop) (w0:World) (lim:Nat),zAl t≤m→m≤1000000000000→zC8 t≤lim→lim≤1000000000000→(∀ b,F b→b<w0.heap.size)→ForestR w0 F p c t.kids→n=t.kids.length →
  Calls Tryd.prog 10 #[zAa t.d (.slice p n c),.int .i64 lim] w0 (Rt (.int .i64 (zC8 t)) w0)
 | 0,t,_,_,_,_,_,_,hm,_,_,_,_,_,_=>by have:=zD4 t;omega
 | m+1,.mk d ts,p,n,c,F,w0,lim,hm,hm2,hl,hl2,hF,h,hn=>by
  have IH:=zJD m;simp only[Tree.kids,Tree.d]at h hn ⊢;obtain⟨xs,h1,h2,rfl⟩:=h.open;rw[List.length_map]at hn;rw[← hn]at h1;have hK:Knows F p n c xs w0:=⟨h1,h2⟩;clear h h1 h2;have H:=Hold.knows hF hK;have hc1:=hK.bound.2.1;have hc2:=hK.bound.2.2;have hp:=hK.at;clear hK;have E:zC8 (.mk d (xs.map (·.1)))=zA5 (xs.map (·.1))+1:=by simp[zC8]
  have hd:=zFA (xs.map (·.1));simp only[zAl]at hm;rw[E]at hl;have dl:decide ((lim:Int) > 0)=true:=decide_eq_true (by omega)
  have E2:=Lib.hid E;clear E;have HN:=Lib.hid hn;clear hn
  go_enter Tryd.func10,Tryd.ntmps10
  go_wp2_with (first|((first|((with_reducible refine kgA 2 ?_);refine kA 2 H ?_)|((with_reducible refine kgX 2 ?_);(first|refine kS 2 H ?_|refine kB 2 H ?_)));clear H;intro b2 w H;try simp only[nr]at H)|fail)
  go_loopw [5,6] (fun k i wr=>∃ j:Nat,j≤n∧i=.int .i64 j∧k=.int .i64 ((zA5 ((xs.map (·.1)).take j):Nat):Int)∧zA5 ((xs.map (·.1)).take j)≤m∧Hold w0 wr [.kn F (Knows F p n c xs),.blk b2 (zAQ d (.slice p n c)) 31]) (fun _ i _=>n+1 - (intOf i).toNat)
  case atStart=>exact⟨0,by omega,rfl,by simp[zA5],by simp[zA5],H⟩
  case round =>
   clear H;obtain⟨j,hj,rfl,rfl,hS,H⟩:=hrel
   by_cases hlt:j<n
   ·have dj:decide ((j:Int)<(n:Int))=true:=by simp;omega
    obtain⟨x,hx⟩:∃ x,xs[j]?=some x:=⟨_,List.getElem?_eq_getElem (by rw[← HN.out];exact hlt)⟩
    obtain⟨b,off,rfl⟩:=hp (by rw[← HN.out];omega)
    have hs1:=zCV hx;have hs2:=zGD x.1;have hs3:=zGo (ts:=xs.map (·.1)) (j:=j) (t:=x.1) (by rw[List.getElem?_map,hx];rfl)
    have HS:=Lib.hid (zJe hx);have hmem:=List.mem_of_getElem? hx;have hcell:∀ V,Knows F (some ⟨b,off,none⟩) n c xs V→∀ k,k<10→V.cell? ⟨b,off+j * 10+k,none⟩=(zAo x)[k]?:=fun V h=>h.cells hx rfl
    have ih:=fun w (hw:∀ b,F b→b<w.heap.size) (hk:Knows F (some ⟨b,off,none⟩) n c xs w)=>IH x.1 x.2.1 _ x.2.2 F w (lim - 1) (by omega) (by omega) (by omega) (by omega) hw (hk.2 x hmem) rfl
    clear IH hx hmem hp
    generalize zA5 ((xs.map (·.1)).take j)=S at *
    have el:((lim - 1:Nat):Int)=(lim:Int) - 1:=by omega
    simp only[el]at ih;clear el
    go_wp2_with (first|((with_reducible refine gL ?_);refine zBb wtd_ _ _ rfl rfl zAW (zBQ x) (hcell _ (H.kn .zero)) ?_)|((with_reducible refine gL ?_);refine aG H ?_)|((with_reducible refine ch (ih _ (H.knlt .zero) (H.kn .zero)) H ?_);clear H;intro w H))
    go_roundw
    case rel=>exact⟨j+1,by omega,by go_num,by rw[HS.out];go_num,by rw[HS.out];omega,H⟩
    case measure=>simp[intOf];omega
   ·have dj:decide ((j:Int)<(n:Int))=false:=by simp;omega
    obtain rfl:j=n:=by omega
    go_wp2_with (first|((with_reducible refine gL ?_);refine aG H ?_))
    go_ret;exact⟨reti (by rw[E2.out,List.take_of_length_le (by rw[List.length_map,← HN.out];exact Nat.le_refl _)];omega),H.below⟩
theorem zKu (t:Tree) (p1 p2:Option Addr) (n c1 c2:Nat) (F1 F2:Nat→Prop) (w0:World) (hF1:∀ b,F1 b→b<w0.heap.size) (hF2:∀ b,F2 b→b<w0.heap.size) (h1:ForestR w0 F1 p1 c1 t.kids) (h2:ForestR w0 F2 p2 c2 t.kids) (hn:n=t.kids.length)
  (hN:∀ w:World,(∀ b,F1 b→b<w.heap.size)→(∀ b,F2 b→b<w.heap.size)→ForestR w F1 p1 c1 t.kids→ForestR w F2 p2 c2 t.kids→Calls Tryd.prog 25 #[.slice p1 n c1,.slice p2 n c2] w (Rt (.bool true) w)) :
  Calls Tryd.prog 7 #[zAa t.d (.slice p1 n c1),zAa t.d (.slice p2 n c2)] w0 (Rt (.bool true) w0):=by
 clear hn
 have H:=((Hold.start w0).know F1 (fun V=>ForestR V F1 p1 c1 t.kids) hF1 (fun i r h=>by simp at h) (fun V hV=>h1.kept hV)).know F2 (fun V=>ForestR V F2 p2 c2 t.kids) hF2 (fun i r h b hb=>by
  match i,h with
  | 0,h=>cases h;cases hb) (fun V hV=>h2.kept hV)
 simp only[List.nil_append,List.cons_append]at H;clear h1 h2;have hS:eqS t.d.set t.d.set=true:=by simp[eqS]
 obtain⟨d,ks⟩:=t;simp only[Tree.d,Tree.kids]at *
 go_enter Tryd.func7,Tryd.ntmps7
 go_wp2_with (first|((first|((with_reducible refine kgA 2 ?_);refine kA 2 H ?_)|((with_reducible refine kgX 2 ?_);(first|refine kS 2 H ?_|refine kB 2 H ?_)));clear H;intro b2 w H;try simp only[nr]at H)|((first|((with_reducible refine kgA 3 ?_);refine kA 3 H ?_)|((with_reducible refine kgX 3 ?_);(first|refine kS 3 H ?_|refine kB 3 H ?_)));clear H;intro b3 w H;try simp only[nr]at H)|(first|((with_reducible refine gL ?_);(first|refine aVn H ?_|refine aG H ?_))|((with_reducible refine gES ?_);refine qS ?_))|((with_reducible refine ch (hN _ (H.knlt (i:=0) .zero) (H.knlt (i:=1) i_1) (H.kn (i:=0) .zero) (H.kn (i:=1) i_1)) H ?_);clear H;intro w H))
 go_ret;exact⟨rfl,H.below⟩
theorem zHB (m:Nat) (IH:∀ (t:Tree) (p1 p2:Option Addr) (n c1 c2:Nat) (F1 F2:Nat→Prop) (w0:World),zAl t≤m→(∀ b,F1 b→b<w0.heap.size)→(∀ b,F2 b→b<w0.heap.size)→ForestR w0 F1 p1 c1 t.kids→ForestR w0 F2 p2 c2 t.kids→n=t.kids.length →
   Calls Tryd.prog 7 #[zAa t.d (.slice p1 n c1),zAa t.d (.slice p2 n c2)] w0 (Rt (.bool true) w0))
  (ts:List Tree) (p1 p2:Option Addr) (n c1 c2:Nat) (F1 F2:Nat→Prop) (w0:World) (hm:zAO ts≤m) (hF1:∀ b,F1 b→b<w0.heap.size) (hF2:∀ b,F2 b→b<w0.heap.size) (h1:ForestR w0 F1 p1 c1 ts) (h2:ForestR w0 F2 p2 c2 ts) (hn:n=ts.length) :
  Calls Tryd.prog 25 #[.slice p1 n c1,.slice p2 n c2] w0 (Rt (.bool true) w0):=by
 obtain⟨xs,a1,a2,rfl⟩:=h1.open;obtain⟨ys,e1,e2,e3⟩:=h2.open;have hxy:ys.length=xs.length:=by have:=congrArg List.length e3;simpa using this.symm
 rw[List.length_map]at hn;rw[← hn]at a1;rw[hxy,← hn]at e1;have hK1:Knows F1 p1 n c1 xs w0:=⟨a1,a2⟩;have hK2:Knows F2 p2 n c2 ys w0:=⟨e1,e2⟩;clear h1 h2 a1 a2 e1 e2
 have H:=((Hold.start w0).know F1 (Knows F1 p1 n c1 xs) hF1 (fun i r h=>by simp at h) (fun V hV=>hK1.kept hV)).know F2 (Knows F2 p2 n c2 ys) hF2 (fun i r h b hb=>by
  match i,h with
  | 0,h=>cases h;cases hb) (fun V hV=>hK2.kept hV)
 simp only[List.nil_append,List.cons_append]at H;have hc1:=hK1.bound.2.1;have hc2:=hK1.bound.2.2;have hc3:=hK2.bound.2.1;have hc4:=hK2.bound.2.2;have hp1:=hK1.at;have hp2:=hK2.at;clear hK1 hK2;have HN:=Lib.hid (And.intro hn (And.intro hxy e3));clear hn hxy e3
 go_enter Tryd.func25,Tryd.ntmps25
 go_wp2_with (first|fail)
 go_loopw [5] (fun i wr=>∃ j:Nat,j≤n∧i=.int .i64 j∧Hold w0 wr [.kn F1 (Knows F1 p1 n c1 xs),.kn F2 (Knows F2 p2 n c2 ys)]) (fun i _=>n+1 - (intOf i).toNat)
 case atStart=>exact⟨0,by omega,rfl,H⟩
 case round =>
  clear H;obtain⟨j,hj,rfl,H⟩:=hrel
  by_cases hlt:j<n
  ·have dj:decide ((j:Int)<(n:Int))=true:=by simp;omega
   obtain⟨x,hx⟩:∃ x,xs[j]?=some x:=⟨_,List.getElem?_eq_getElem (by rw[← HN.out.1];exact hlt)⟩
   obtain⟨y,hy⟩:∃ y,ys[j]?=some y:=⟨_,List.getElem?_eq_getElem (by rw[HN.out.2.1,← HN.out.1];exact hlt)⟩
   have hxye:x.1=y.1:=by
    have h3:(xs.map (·.1))[j]?=(ys.map (·.1))[j]?:=by rw[HN.out.2.2]
    rw[List.getElem?_map,List.getElem?_map,hx,hy]at h3
    simpa using h3
   obtain⟨b,off,rfl⟩:=hp1 (by rw[← HN.out.1];omega)
   obtain⟨bb,off2,rfl⟩:=hp2 (by rw[HN.out.2.1,← HN.out.1];omega)
   have hs1:=zCV hx;have hm1:=List.mem_of_getElem? hx;have hm2:=List.mem_of_getElem? hy;have hcell:∀ V,Knows F1 (some ⟨b,off,none⟩) n c1 xs V→∀ k,k<10→V.cell? ⟨b,off+j * 10+k,none⟩=(zAo x)[k]?:=fun V h=>h.cells hx rfl
   have hcell2:∀ V,Knows F2 (some ⟨bb,off2,none⟩) n c2 ys V→∀ k,k<10→V.cell? ⟨bb,off2+j * 10+k,none⟩=(zAo y)[k]?:=fun V h=>h.cells hy rfl
   have ih:=fun w (hw:∀ b,F1 b→b<w.heap.size) (hw2:∀ b,F2 b→b<w.heap.size) (hk:Knows F1 (some ⟨b,off,none⟩) n c1 xs w) (hk2:Knows F2 (some ⟨bb,off2,none⟩) n c2 ys w)=>(show Calls Tryd.prog 7 #[.agg (zAo x),.agg (zAo y)] w (Rt (.bool true) w) by
    have h3:=IH x.1 x.2.1 y.2.1 _ x.2.2 y.2.2 F1 F2 w (by omega) hw hw2 (hk.2 x hm1) (by rw[hxye];exact hk2.2 y hm2) rfl
    unfold zAo;rw[← hxye]
    exact h3)
   clear IH hx hy hm1 hm2 hp1 hp2 hxye
   go_upto_region 6 with (first|fail)
   refine wr_ 10 [fun v _=>v=.slice (some ⟨b,off,none⟩) n c1,fun v _=>v=.int .i64 (j:Int),fun v _=>v=.pointer (some ⟨b,off+j * 10,none⟩),fun v _=>v=.agg (zAo x),fun v _=>v=.slice (some ⟨bb,off2,none⟩) n c2,fun v _=>v=.int .i64 (j:Int),fun v _=>v=.pointer (some ⟨bb,off2+j * 10,none⟩),fun v _=>v=.agg (zAo y),fun v _=>v=.bool true,fun v _=>v=.bool false] ?ob ?en
   case ob =>
    refine⟨?_,?_,?_,?_,?_,?_,?_,?_,?_,?_,trivial⟩<;>intro A W h
    ·exact zAY rfl rfl (h.f 0)
    ·exact zAY rfl rfl (h.f 5)
    ·exact zHy (sz:=10) Tryd.underlying29 (fun w=>by kernel_rfl) rfl rfl (h.d 0 17) (h.d 1 18) (by omega) (by omega)
    ·exact zAB rfl (zCI rfl (h.d 2 19) zAW (zBQ x) (hcell _ ((H.call h.below).kn (i:=0) .zero))) (by decide)
    ·exact zAY rfl rfl (h.f 1)
    ·exact zAY rfl rfl (h.f 5)
    ·exact zHy (sz:=10) Tryd.underlying29 (fun w=>by kernel_rfl) rfl rfl (h.d 4 21) (h.d 5 22) (by omega) (by omega)
    ·exact zAB rfl (zCI rfl (h.d 6 23) zAW (zBQ y) (hcell2 _ ((H.call h.below).kn (i:=1) i_1))) (by decide)
    ·exact zCN rfl rfl (enters_of Tryd.func7 (by kernel_rfl) rfl) (zHO ⟨(h.d 3 20),(h.d 7 24)⟩) (ih W ((H.call h.below).knlt (i:=0) .zero) ((H.call h.below).knlt (i:=1) i_1) ((H.call h.below).kn (i:=0) .zero) ((H.call h.below).kn (i:=1) i_1))
    ·(have e25:A.eval (.tmp 25)=.bool true:=h.d 8 25;refine zAB rfl ?_;simp only[execOp,e25];(simp[go_sem]<;>first|done|omega|(rw[IntKind.wrap_i64];omega)|(rw[IntKind.wrap_u8];omega)|(rw[IntKind.wrap_u64];omega)))
   case en =>
    intro vals W hbw hv _;simp only[fa,Nat.reduceAdd];rw[e_ hv 0,e_ hv 1,e_ hv 2,e_ hv 3,e_ hv 4,e_ hv 5,e_ hv 6,e_ hv 7,e_ hv 8,e_ hv 9];clear hv
    try simp only[pl]
    replace H:=H.call hbw;clear hbw
    go_wp2_with (first|fail)
    go_roundw
    case rel=>exact⟨j+1,by omega,by go_num,H⟩
    case measure=>simp[intOf];omega
  ·have dj:decide ((j:Int)<(n:Int))=false:=by simp;omega
   obtain rfl:j=n:=by omega
   go_wp2_with (first|fail)
   go_ret;exact⟨rfl,H.below⟩
theorem zD8:∀ (m:Nat) (t:Tree) (p1 p2:Option Addr) (n c1 c2:Nat) (F1 F2:Nat→Prop) (w0:World),zAl t≤m→(∀ b,F1 b→b<w0.heap.size)→(∀ b,F2 b→b<w0.heap.size)→ForestR w0 F1 p1 c1 t.kids→ForestR w0 F2 p2 c2 t.kids→n=t.kids.length →
  Calls Tryd.prog 7 #[zAa t.d (.slice p1 n c1),zAa t.d (.slice p2 n c2)] w0 (Rt (.bool true) w0)
 | 0,t,_,_,_,_,_,_,_,_,hm,_,_,_,_,_=>by have:=zD4 t;omega
 | m+1,t,p1,p2,n,c1,c2,F1,F2,w0,hm,hF1,hF2,h1,h2,hn =>
  zKu t p1 p2 n c1 c2 F1 F2 w0 hF1 hF2 h1 h2 hn fun w g1 g2 k1 k2=>zHB m (zD8 m) t.kids p1 p2 n c1 c2 F1 F2 w (by have:=zEj t;omega) g1 g2 k1 k2 hn
theorem zD0 {ts:List Tree} {j:Nat} {t:Tree} {g g2:Int} (h:ts[j]?=some t) (hw:zAr (ts.drop j) g g2):∃ g1,zCR t g g1∧zAr (ts.drop (j+1)) g1 g2:=by
 have hlt:=(List.getElem?_eq_some_iff.1 h).1;have e:ts.drop j=t::ts.drop (j+1):=by
  rw[List.drop_eq_getElem_cons hlt]
  congr 1
  exact(List.getElem?_eq_some_iff.1 h).2
 rw[e]at hw;exact hw
theorem zJ8 (m:Nat) (IH:∀ (t:Tree) (p:Option Addr) (n c:Nat) (F:Nat→Prop) (w0:World) (g g2:Int),zAl t≤m→zCR t g g2→0≤g→g+zAl t≤1000000→(∀ b,F b→b<w0.heap.size)→ForestR w0 F p c t.kids→n=t.kids.length →
   Calls Tryd.prog 8 #[zAa t.d (.slice p n c),.int .i64 g] w0 (Rt (.tuple #[.int .i64 g2,.bool true]) w0))
  (hgr:∀ (t:Tree) (g g2:Int),zCR t g g2→g≤g2∧g2≤g+zAl t) (d:NodeD) (hk:d.kind=3) (hE:eqS d.set zAF=false) (hlo:d.lo=0) (hhi:d.hi=0) (hlz:d.lazy=false) (hgp:d.group=0) (xs:List TV) (p:Option Addr) (n c:Nat) (F:Nat→Prop) (w0:World) (g g2:Int) (hm:zAO (xs.map (·.1))≤m) (h0:0≤g) (hg:g+zAO (xs.map (·.1))+1≤1000000) (hw:zAr (xs.map (·.1)) (g) g2) (hF:∀ b,F b→b<w0.heap.size) (hK:Knows F p n c xs w0) (hn:n=0) :
  Calls Tryd.prog 8 #[zAa (d) (.slice p n c),.int .i64 g] w0 (Rt (.tuple #[.int .i64 g2,.bool true]) w0):=by
 have H:=Hold.knows hF hK;have hc1:=hK.bound.2.1;have hc2:=hK.bound.2.2;have hp:=hK.at;have HN:=Lib.hid hK.bound.1;clear hK;have k4:(d.kind == 4)=false:=by rw[hk];rfl
 have k5:(d.kind == 5)=false:=by rw[hk];rfl
 have k6:(d.kind == 6)=false:=by rw[hk];rfl
 have k7:(d.kind == 7)=false:=by rw[hk];rfl
 have k3:(d.kind == 3)=true:=by rw[hk];rfl
 clear hk;have z1:(d.lo == 0)=true:=by rw[hlo];rfl
 have z2:(d.hi == 0)=true:=by rw[hhi];rfl
 have z3:(d.group == 0)=true:=by rw[hgp];rfl
 clear hlo hhi hgp
 go_enter Tryd.func8,Tryd.ntmps8
 go_wp2_with (first|((first|((with_reducible refine kgA 2 ?_);refine kA 2 H ?_)|((with_reducible refine kgX 2 ?_);(first|refine kS 2 H ?_|refine kB 2 H ?_)));clear H;intro b2 w H;try simp only[nr]at H)|(first|((with_reducible refine gL ?_);(first|refine aVn H ?_|refine aGb H ?_|refine aG H ?_))|((with_reducible refine gNS ?_);refine qN ?_)|((with_reducible refine gZ ?_);refine aZ ?_)))
 go_loopw [1,7,8] (fun k ok i wr=>∃ (j:Nat) (gj:Int),j≤n∧i=.int .i64 j∧ok=.bool true∧k=.int .i64 gj∧0≤gj∧gj+zAO ((xs.map (·.1)).drop j)≤1000000∧Hid (zAr ((xs.map (·.1)).drop j) gj g2)∧Hold w0 wr [.kn F (Knows F p n c xs),.blk b2 (zAQ (d) (.slice p n c)) 31]) (fun _ _ i _=>n+1 - (intOf i).toNat)
 case atStart=>exact⟨0,g,by omega,rfl,rfl,rfl,by omega,by simp;omega,Lib.hid (by simpa using hw),H⟩
 case round =>
  clear H hw;obtain⟨j,gj,hj,rfl,rfl,rfl,hg0,hgs,hwj,H⟩:=hrel
  by_cases hlt:j<n
  ·omega
  ·have dj:decide ((j:Int)<(n:Int))=false:=by simp;omega
   obtain rfl:j=n:=by omega
   have e2:g2=gj:=by
    have h:=hwj.out;rw[List.drop_eq_nil_iff.2 (by rw[List.length_map,← HN.out];exact Nat.le_refl _)]at h
    simpa [zAr] using h
   go_wp2_with (first|((with_reducible refine gL ?_);refine aG H ?_))
   refine⟨rfl,.tuple #[.int .i64 gj,.bool true],(by simp[results,Tryd.results8,go_sem]),?_⟩
   exact⟨by rw[e2],H.below⟩
theorem zJm (m:Nat) (IH:∀ (t:Tree) (p:Option Addr) (n c:Nat) (F:Nat→Prop) (w0:World) (g g2:Int),zAl t≤m→zCR t g g2→0≤g→g+zAl t≤1000000→(∀ b,F b→b<w0.heap.size)→ForestR w0 F p c t.kids→n=t.kids.length →
   Calls Tryd.prog 8 #[zAa t.d (.slice p n c),.int .i64 g] w0 (Rt (.tuple #[.int .i64 g2,.bool true]) w0))
  (hgr:∀ (t:Tree) (g g2:Int),zCR t g g2→g≤g2∧g2≤g+zAl t) (d:NodeD) (hk:d.kind=4) (hE:eqS d.set zAF=true) (hlo:d.lo=0) (hhi:d.hi=0) (hlz:d.lazy=false) (hgp:d.group=0) (xs:List TV) (p:Option Addr) (n c:Nat) (F:Nat→Prop) (w0:World) (g g2:Int) (hm:zAO (xs.map (·.1))≤m) (h0:0≤g) (hg:g+zAO (xs.map (·.1))+1≤1000000) (hw:zAr (xs.map (·.1)) (g) g2) (hF:∀ b,F b→b<w0.heap.size) (hK:Knows F p n c xs w0) (hn:2≤n) :
  Calls Tryd.prog 8 #[zAa (d) (.slice p n c),.int .i64 g] w0 (Rt (.tuple #[.int .i64 g2,.bool true]) w0):=by
 have H:=Hold.knows hF hK;have hc1:=hK.bound.2.1;have hc2:=hK.bound.2.2;have hp:=hK.at;have HN:=Lib.hid hK.bound.1;clear hK;have k4:(d.kind == 4)=true:=by rw[hk];rfl
 have k5:(d.kind == 5)=false:=by rw[hk];rfl
 have k6:(d.kind == 6)=false:=by rw[hk];rfl
 have k7:(d.kind == 7)=false:=by rw[hk];rfl
 have k3:(d.kind == 3)=false:=by rw[hk];rfl
 clear hk;have z1:(d.lo == 0)=true:=by rw[hlo];rfl
 have z2:(d.hi == 0)=true:=by rw[hhi];rfl
 have z3:(d.group == 0)=true:=by rw[hgp];rfl
 clear hlo hhi hgp;have dm:max (n:Int) 2=(n:Int):=by omega
 go_enter Tryd.func8,Tryd.ntmps8
 go_wp2_with (first|((first|((with_reducible refine kgA 2 ?_);refine kA 2 H ?_)|((with_reducible refine kgX 2 ?_);(first|refine kS 2 H ?_|refine kB 2 H ?_)));clear H;intro b2 w H;try simp only[nr]at H)|(first|((with_reducible refine gL ?_);(first|refine aVn H ?_|refine aGb H ?_|refine aG H ?_))|((with_reducible refine gES ?_);refine qS ?_)|((with_reducible refine gZ ?_);refine aZ ?_)))
 go_loopw [1,7,8] (fun k ok i wr=>∃ (j:Nat) (gj:Int),j≤n∧i=.int .i64 j∧ok=.bool true∧k=.int .i64 gj∧0≤gj∧gj+zAO ((xs.map (·.1)).drop j)≤1000000∧Hid (zAr ((xs.map (·.1)).drop j) gj g2)∧Hold w0 wr [.kn F (Knows F p n c xs),.blk b2 (zAQ (d) (.slice p n c)) 31]) (fun _ _ i _=>n+1 - (intOf i).toNat)
 case atStart=>exact⟨0,g,by omega,rfl,rfl,rfl,by omega,by simp;omega,Lib.hid (by simpa using hw),H⟩
 case round =>
  clear H hw;obtain⟨j,gj,hj,rfl,rfl,rfl,hg0,hgs,hwj,H⟩:=hrel
  by_cases hlt:j<n
  ·have dj:decide ((j:Int)<(n:Int))=true:=by simp;omega
   obtain⟨x,hx⟩:∃ x,xs[j]?=some x:=⟨_,List.getElem?_eq_getElem (by rw[← HN.out];exact hlt)⟩
   obtain⟨b,off,rfl⟩:=hp (by rw[← HN.out];omega)
   have hxm:(xs.map (·.1))[j]?=some x.1:=by rw[List.getElem?_map,hx];rfl
   obtain⟨gx,hx1,hx2⟩:=zD0 hxm hwj.out;have hgx:=hgr x.1 gj gx hx1;have hdr:zAO ((xs.map (·.1)).drop j)=zAl x.1+zAO ((xs.map (·.1)).drop (j+1)):=by
    have hlt2:=(List.getElem?_eq_some_iff.1 hxm).1;rw[List.drop_eq_getElem_cons hlt2,(List.getElem?_eq_some_iff.1 hxm).2,zAO]
   have hs1:=zCV hx;have hmem:=List.mem_of_getElem? hx;have hcell:∀ V,Knows F (some ⟨b,off,none⟩) n c xs V→∀ k,k<10→V.cell? ⟨b,off+j * 10+k,none⟩=(zAo x)[k]?:=fun V h=>h.cells hx rfl
   have ih:=fun w (hw:∀ b,F b→b<w.heap.size) (hk:Knows F (some ⟨b,off,none⟩) n c xs w)=>IH x.1 x.2.1 _ x.2.2 F w gj gx (by omega) hx1 hg0 (by omega) hw (hk.2 x hmem) rfl
   have HX:=Lib.hid hx2;clear IH hx hmem hp hx1 hx2 hgr hxm hwj
   go_wp2_with (first|((with_reducible refine gL ?_);refine zBb wtd_ _ _ rfl rfl zAW (zBQ x) (hcell _ (H.kn .zero)) ?_)|((with_reducible refine gL ?_);refine aG H ?_)|((with_reducible refine ch (ih _ (H.knlt .zero) (H.kn .zero)) H ?_);clear H;intro w H))
   go_roundw
   case rel=>exact⟨j+1,gx,by omega,by go_num,rfl,rfl,by omega,by omega,HX,H⟩
   case measure=>simp[intOf];omega
  ·have dj:decide ((j:Int)<(n:Int))=false:=by simp;omega
   obtain rfl:j=n:=by omega
   have e2:g2=gj:=by
    have h:=hwj.out;rw[List.drop_eq_nil_iff.2 (by rw[List.length_map,← HN.out];exact Nat.le_refl _)]at h
    simpa [zAr] using h
   go_wp2_with (first|((with_reducible refine gL ?_);refine aG H ?_))
   refine⟨rfl,.tuple #[.int .i64 gj,.bool true],(by simp[results,Tryd.results8,go_sem]),?_⟩
   exact⟨by rw[e2],H.below⟩
theorem zKA (m:Nat) (IH:∀ (t:Tree) (p:Option Addr) (n c:Nat) (F:Nat→Prop) (w0:World) (g g2:Int),zAl t≤m→zCR t g g2→0≤g→g+zAl t≤1000000→(∀ b,F b→b<w0.heap.size)→ForestR w0 F p c t.kids→n=t.kids.length →
   Calls Tryd.prog 8 #[zAa t.d (.slice p n c),.int .i64 g] w0 (Rt (.tuple #[.int .i64 g2,.bool true]) w0))
  (hgr:∀ (t:Tree) (g g2:Int),zCR t g g2→g≤g2∧g2≤g+zAl t) (d:NodeD) (hk:d.kind=5) (hE:eqS d.set zAF=true) (hlo:d.lo=0) (hhi:d.hi=0) (hlz:d.lazy=false) (hgp:d.group=0) (xs:List TV) (p:Option Addr) (n c:Nat) (F:Nat→Prop) (w0:World) (g g2:Int) (hm:zAO (xs.map (·.1))≤m) (h0:0≤g) (hg:g+zAO (xs.map (·.1))+1≤1000000) (hw:zAr (xs.map (·.1)) (g) g2) (hF:∀ b,F b→b<w0.heap.size) (hK:Knows F p n c xs w0) (hn:2≤n) :
  Calls Tryd.prog 8 #[zAa (d) (.slice p n c),.int .i64 g] w0 (Rt (.tuple #[.int .i64 g2,.bool true]) w0):=by
 have H:=Hold.knows hF hK;have hc1:=hK.bound.2.1;have hc2:=hK.bound.2.2;have hp:=hK.at;have HN:=Lib.hid hK.bound.1;clear hK;have k4:(d.kind == 4)=false:=by rw[hk];rfl
 have k5:(d.kind == 5)=true:=by rw[hk];rfl
 have k6:(d.kind == 6)=false:=by rw[hk];rfl
 have k7:(d.kind == 7)=false:=by rw[hk];rfl
 have k3:(d.kind == 3)=false:=by rw[hk];rfl
 clear hk;have z1:(d.lo == 0)=true:=by rw[hlo];rfl
 have z2:(d.hi == 0)=true:=by rw[hhi];rfl
 have z3:(d.group == 0)=true:=by rw[hgp];rfl
 clear hlo hhi hgp;have dm:max (n:Int) 2=(n:Int):=by omega
 go_enter Tryd.func8,Tryd.ntmps8
 go_wp2_with (first|((first|((with_reducible refine kgA 2 ?_);refine kA 2 H ?_)|((with_reducible refine kgX 2 ?_);(first|refine kS 2 H ?_|refine kB 2 H ?_)));clear H;intro b2 w H;try simp only[nr]at H)|(first|((with_reducible refine gL ?_);(first|refine aVn H ?_|refine aGb H ?_|refine aG H ?_))|((with_reducible refine gES ?_);refine qS ?_)|((with_reducible refine gZ ?_);refine aZ ?_)))
 go_loopw [1,7,8] (fun k ok i wr=>∃ (j:Nat) (gj:Int),j≤n∧i=.int .i64 j∧ok=.bool true∧k=.int .i64 gj∧0≤gj∧gj+zAO ((xs.map (·.1)).drop j)≤1000000∧Hid (zAr ((xs.map (·.1)).drop j) gj g2)∧Hold w0 wr [.kn F (Knows F p n c xs),.blk b2 (zAQ (d) (.slice p n c)) 31]) (fun _ _ i _=>n+1 - (intOf i).toNat)
 case atStart=>exact⟨0,g,by omega,rfl,rfl,rfl,by omega,by simp;omega,Lib.hid (by simpa using hw),H⟩
 case round =>
  clear H hw;obtain⟨j,gj,hj,rfl,rfl,rfl,hg0,hgs,hwj,H⟩:=hrel
  by_cases hlt:j<n
  ·have dj:decide ((j:Int)<(n:Int))=true:=by simp;omega
   obtain⟨x,hx⟩:∃ x,xs[j]?=some x:=⟨_,List.getElem?_eq_getElem (by rw[← HN.out];exact hlt)⟩
   obtain⟨b,off,rfl⟩:=hp (by rw[← HN.out];omega)
   have hxm:(xs.map (·.1))[j]?=some x.1:=by rw[List.getElem?_map,hx];rfl
   obtain⟨gx,hx1,hx2⟩:=zD0 hxm hwj.out;have hgx:=hgr x.1 gj gx hx1;have hdr:zAO ((xs.map (·.1)).drop j)=zAl x.1+zAO ((xs.map (·.1)).drop (j+1)):=by
    have hlt2:=(List.getElem?_eq_some_iff.1 hxm).1;rw[List.drop_eq_getElem_cons hlt2,(List.getElem?_eq_some_iff.1 hxm).2,zAO]
   have hs1:=zCV hx;have hmem:=List.mem_of_getElem? hx;have hcell:∀ V,Knows F (some ⟨b,off,none⟩) n c xs V→∀ k,k<10→V.cell? ⟨b,off+j * 10+k,none⟩=(zAo x)[k]?:=fun V h=>h.cells hx rfl
   have ih:=fun w (hw:∀ b,F b→b<w.heap.size) (hk:Knows F (some ⟨b,off,none⟩) n c xs w)=>IH x.1 x.2.1 _ x.2.2 F w gj gx (by omega) hx1 hg0 (by omega) hw (hk.2 x hmem) rfl
   have HX:=Lib.hid hx2;clear IH hx hmem hp hx1 hx2 hgr hxm hwj
   go_wp2_with (first|((with_reducible refine gL ?_);refine zBb wtd_ _ _ rfl rfl zAW (zBQ x) (hcell _ (H.kn .zero)) ?_)|((with_reducible refine gL ?_);refine aG H ?_)|((with_reducible refine ch (ih _ (H.knlt .zero) (H.kn .zero)) H ?_);clear H;intro w H))
   go_roundw
   case rel=>exact⟨j+1,gx,by omega,by go_num,rfl,rfl,by omega,by omega,HX,H⟩
   case measure=>simp[intOf];omega
  ·have dj:decide ((j:Int)<(n:Int))=false:=by simp;omega
   obtain rfl:j=n:=by omega
   have e2:g2=gj:=by
    have h:=hwj.out;rw[List.drop_eq_nil_iff.2 (by rw[List.length_map,← HN.out];exact Nat.le_refl _)]at h
    simpa [zAr] using h
   go_wp2_with (first|((with_reducible refine gL ?_);refine aG H ?_))
   refine⟨rfl,.tuple #[.int .i64 gj,.bool true],(by simp[results,Tryd.results8,go_sem]),?_⟩
   exact⟨by rw[e2],H.below⟩
end
end Go.Proofs.YtklcgfkdemifcaaDoor
