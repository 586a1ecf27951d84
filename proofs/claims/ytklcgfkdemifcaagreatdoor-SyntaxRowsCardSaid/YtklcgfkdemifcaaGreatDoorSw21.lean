/-
  Laws of walks, and walks.
-/
import Derived.Test.YtklcgfkdemifcaaGreatDoorSw20
import Derived.Test.YtklcgfkdemifcaaGreatDoorSw11
import Derived.Test.YtklcgfkdemifcaaGreatDoorSw17
import Derived.Test.YtklcgfkdemifcaaGreatDoorSw15
set_option linter.unusedVariables false
set_option linter.unusedSimpArgs false
set_option maxRecDepth 100000
set_option maxHeartbeats 16000000
namespace Go.Proofs.YtklcgfkdemifcaaGreatDoor
section
open Go.RowKit Go.Shelf
attribute [local go_sem] Oper.semAt_some
theorem zBD:oneB Tryz.prog 45=true:=by kernel_rfl
theorem zPP:zB1 Tryz.prog 45=#[.pointer none]:=by kernel_rfl
theorem zLa (p:Option Addr) (n c:Nat) (W:World):(Instr.build 48 #[(0,.slice p n c)]).run Tryz.prog W=.ok (.agg #[.slice p n c,.int .i64 0]) W:=by kernel_rfl
theorem zJc (p:Option Addr) (n c:Nat) (f:zAP) (W:World):(Instr.build 51 #[(0,.agg #[.slice p n c,.int .i64 0]),(1,zBq f)]).run Tryz.prog W=.ok (.agg (psC p n c 0 f 0 (.slice none 0 0))) W:=by kernel_rfl
theorem zLI {ops:Array Oper} {o:Oper} {rest:List Oper} {a:Act} {w:World} {Q:Exit→Act→World→Prop} {x y:Operand} {p:Option Addr} {n c:Nat} {f:zAP} (hg:Region.wanted o (yielded ops a.tmps)=true) (ho:o.op=.build 51 #[(0,x),(1,y)]) (hx:a.eval x=.agg #[.slice p n c,.int .i64 0]) (hy:a.eval y=zBq f)
  (h:wpList Tryz.prog ops Q rest (a.put o.dst (.agg (psC p n c 0 f 0 (.slice none 0 0)))) w):wpList Tryz.prog ops Q (o::rest) a w :=
 zAi hg (by simp only[execOp,ho,List.map_toArray,List.map_cons,List.map_nil,hx,hy,Sem.run_bind,zJc];rfl) h
theorem zHk:∀ ws:List WordD,zF1 ws=zAb (ws.map zAY)
 | []=>rfl
 | d::ws=>by
  have h:=zHk ws;simp only[zF1,zAb,List.flatMap_cons,List.map_cons,List.flatten_cons]at h ⊢;rw[h]
theorem HoldG.gainRow {M:Nat→Prop} {w0 w w':World} {l:List Res} (H:HoldG M w0 w l) (hb:Below w.heap.size w w') {T:TypeId} {sz n:Nat} {v:Value} {xs:List Value} (ho:w'.ownsRow w.heap.size T sz v n xs):HoldG M w0 w' (l++[.row v T sz n xs]):=by
 refine H.gain hb [.row v T sz n xs] (fun r hr=>?_) (List.pairwise_singleton _ _)
 simp only[List.mem_cons,List.not_mem_nil,or_false]at hr;subst hr;obtain⟨h1,h2|⟨g,cap,cur,rfl,h3,h4⟩⟩:=ho
 ·refine⟨⟨h1,.inl h2⟩,fun b e=>?_⟩
  have h5:v.ownBlock=some b:=e;rw[h2.1]at h5;cases h5
 ·refine⟨⟨h1,.inr ⟨g,cap,cur,rfl,Nat.le_trans H.keep.size h3,h4⟩⟩,fun b e=>?_⟩
  have h5:g=b:=by simpa [Res.place,Value.ownBlock] using e
  omega
def frS (L:Str) (f:zAP) (b3 b4 b5 b6 b7 b9 b29 xb:Nat) (p0:Option Addr) (n c:Nat) (t10:Value) (d:WordD):Array Value :=
 #[.string ⟨L.toArray⟩,zBq f,undef,.pointer (some ⟨b3,0,none⟩),.pointer (some ⟨b4,0,none⟩),.pointer (some ⟨b5,0,none⟩),.pointer (some ⟨b6,0,none⟩),.pointer (some ⟨b7,0,none⟩),.slice p0 n c,.pointer (some ⟨b9,0,none⟩),t10,undef,undef,
  .tuple #[.slice p0 n c,.int .i64 0,.int .i64 0],.string ⟨L.toArray⟩,.tuple #[.slice p0 n c,.int .i64 0,.int .i64 0],.slice p0 n c,.int .i64 0,.int .i64 0,.int .i64 0,.bool false,undef,undef,undef,
  .func (.func 11) #[] #[.pointer (some ⟨b4,0,none⟩),.pointer (some ⟨b5,0,none⟩),.pointer (some ⟨b6,0,none⟩),.pointer (some ⟨b7,0,none⟩)],.slice p0 n c,.agg #[.slice p0 n c,.int .i64 0],.agg (zEA f),.agg (psC p0 n c 0 f 0 (.slice none 0 0)),
  .pointer (some ⟨b29,0,none⟩),.pointer (some ⟨b29,0,none⟩),.tuple #[],.pointer (some ⟨b29,0,none⟩),.pointer (some ⟨b29,0,none⟩),.pointer (some ⟨b29,0,none⟩),.func (.func 28) #[] #[.pointer (some ⟨xb,0,none⟩)],zAd d,undef,undef,undef,undef,undef,undef,undef,undef,undef,undef,undef,undef,undef,undef,undef,undef,undef,undef,undef,undef,undef,undef,undef,undef,undef,undef,undef,undef,undef,undef,undef,undef,undef,undef,undef,undef,undef,undef,undef,undef,undef]
theorem Jy.more {w0 W W':World} {xb pb:Nat} {p0:Option Addr} {c:Nat} {ws:List WordD} {R:List Res} {f:zAP} {i b:Nat} {d:WordD} {cs:Array Value} {T:TypeId} (hJ:Jy w0 xb pb p0 c ws R f i d W) (hb:Below W.heap.size W W') (hge:W.heap.size≤b) (hh:W'.heap[b]?=some (.cells cs T (0,0))):Jy w0 xb pb p0 c ws (.blk b cs T::R) f i d W':=by
 obtain⟨hd,x,a1,a2,a3,a4,H⟩:=hJ;have H2:=H.gain hb [.blk b cs T] (fun r hr=>by simp only[List.mem_cons,List.not_mem_nil,or_false]at hr;subst hr;exact⟨⟨.inl (Nat.le_trans H.keep.size hge),hh⟩,fun b' e=>by cases e;exact hge⟩) (List.pairwise_singleton _ _)
 refine⟨hd,x,a1,a2,a3,fun b' hb'=>?_,H2.perms ?_⟩
 ·obtain⟨⟨o,h1,h2⟩,h3⟩:=a4 b' hb';refine⟨⟨o,?_,h2⟩,h3⟩;exact((hb.block b' (Array.getElem?_eq_some_iff.1 h1).1).trans h1)
 ·unfold jL;simp only[List.cons_append,List.append_assoc];exact .cons _ (.cons _ ((List.perm_append_comm (l₁:=R) (l₂:=[.blk b cs T])).append_left _))
theorem Jq.less {w0 W:World} {xb pb:Nat} {p0:Option Addr} {c:Nat} {ws:List WordD} {R:List Res} {f:zAP} {i:Nat} {d:WordD} {r:Res} (hJ:Jq w0 xb pb p0 c ws (r::R) f i d W):Jq w0 xb pb p0 c ws R f i d W:=by
 obtain⟨hd,x,a1,a2,a3,a4,H⟩:=hJ;refine⟨hd,x,a1,a2,a3,a4,HoldG.left (R:=[r]) (H.perms ?_)⟩;unfold jL;simp only[List.cons_append,List.append_assoc];exact .cons _ (.cons _ ((List.perm_append_comm (l₁:=[r]) (l₂:=R)).append_left _))
theorem HoldG.blkMem {M:Nat→Prop} {w0 W:World} {l:List Res} (H:HoldG M w0 W l) {b:Nat} {cs:Array Value} {T:TypeId} (h:Res.blk b cs T ∈ l):W.heap[b]?=some (.cells cs T (0,0)):=by
 obtain⟨i,hi⟩:=List.getElem?_of_mem h;exact(H.all i _ hi).2
theorem zQo {w0 W:World} {og oc:Nat} {pre:List LevM} {l:LevM} {F:Nat→Prop} {zs:List TV} {l3:List Res} (H:HoldG (fun _=>False) w0 W (zBP og oc pre l F zs++l3)) (hF:∀ b,F b→w0.heap.size≤b):∀ s ∈ zBP og oc pre l F zs,∀ b,s.foot b→w0.heap.size≤b:=fun s hs b hb=>by
 obtain⟨k,hk⟩:=List.getElem?_of_mem (List.mem_append_left l3 hs);have hA:=H.all k s hk;simp only[zBP,List.mem_cons,List.not_mem_nil,or_false]at hs;rcases hs with rfl|rfl|rfl|rfl
 ·exact(hA.lt b hb).1.resolve_right (fun h=>h)
 ·exact hF b hb
 ·exact(hA.lt b hb).1.resolve_right (fun h=>h)
 ·exact(hA.lt b hb).1.resolve_right (fun h=>h)
theorem HoldG.relZ1 {M:Nat→Prop} {w0 w W:World} {l:List Res} {b4:Nat} {c4 d4:Array Value} {T4:TypeId} (H:HoldG M w0 w l) {i:Nat} (hi:At l i (.blk b4 c4 T4)) (hr:RelZ [(b4,d4,T4)] w W) (h4:W.heap[b4]?=some (.cells d4 T4 (0,0))):HoldG M w0 W (l.set i (.blk b4 d4 T4)) :=
 H.upd hi.get ⟨hr.os,hr.tape,hr.output,hr.size,fun k h1 h2=>hr.old k h1 (fun z hz e=>h2 (by rw[List.mem_singleton]at hz;subst hz;rw[← e];rfl))⟩ ⟨(H.blk hi).1,h4⟩ (fun _ e=>.inl e)
theorem zJt (L:Str) (f:zAP) (ws:List WordD) (hw:zBn L=.ok ws) (w0:World) (hz:MaxL w0) :
  Calls Tryz.prog 5 #[.string ⟨L.toArray⟩,zBq f] w0 fun e w'=>ParseOut w0 (zBv L f) e w'∧Below w0.heap.size w0 w':=by
 have hwd:=fun w (hz:MaxL w)=>zKL L w hz
 rw[hw]at hwd;simp only[WordsR]at hwd;have HW:=Lib.hid hw;clear hw;have HZ:=Lib.hid hz;clear hz;have H:=Hold.start w0;have hmf:=mkf;refine zEO (zIw (n:=9) Tryz.func5 rfl ?_);simp only[Tryz.ntmps5,List.size_toArray,List.length_cons,List.length_nil,Nat.reduceAdd,Nat.reduceSub,Array.replicate_succ,Array.replicate_zero,List.push_toArray,List.append_toArray,List.nil_append,List.cons_append]
 refine zCH (zDI ?_)
 go_wp2_with (first|((first|((with_reducible refine kgA 3 ?_);refine kA 3 H ?_)|((with_reducible refine kgX 3 ?_);(first|refine kS 3 H ?_|refine kB 3 H ?_)));clear H;intro b3 w H;try simp only[nr]at H)|((first|((with_reducible refine kgA 4 ?_);refine kA 4 H ?_)|((with_reducible refine kgX 4 ?_);(first|refine kS 4 H ?_|refine kB 4 H ?_)));clear H;intro b4 w H;try simp only[nr]at H)|((first|((with_reducible refine kgA 5 ?_);refine kA 5 H ?_)|((with_reducible refine kgX 5 ?_);(first|refine kS 5 H ?_|refine kB 5 H ?_)));clear H;intro b5 w H;try simp only[nr]at H)|((first|((with_reducible refine kgA 6 ?_);refine kA 6 H ?_)|((with_reducible refine kgX 6 ?_);(first|refine kS 6 H ?_|refine kB 6 H ?_)));clear H;intro b6 w H;try simp only[nr]at H)|((first|((with_reducible refine kgA 7 ?_);refine kA 7 H ?_)|((with_reducible refine kgX 7 ?_);(first|refine kS 7 H ?_|refine kB 7 H ?_)));clear H;intro b7 w H;try simp only[nr]at H)|fail)
 refine zCH (zDI ?_)
 go_wp2_with (first|(go_at_call 10;refine(hwd _ (HZ.out.below H.below)).mono ?_;rintro e w ⟨⟨v,rfl,ho⟩,hb⟩;have H2:=H.gainRow hb ho;clear H ho hb;have H:=H2;clear H2;simp only[ca]at H)|((with_reducible refine gT ?_);(refine aO H ?_;clear H;intro w H;try simp only[nr]at H)))
 refine zCH (zDI ?_)
 go_wp2_with (first|((with_reducible refine gL ?_);refine aG H ?_))
 refine zCH (zDI ?_)
 go_wp2_with (first|fail)
 obtain⟨p0,c,rfl,hcl,hcm,hp0⟩:=H.rowShape (i:=5) i_5;have HP:=Lib.hid (And.intro hcl (And.intro hcm hp0));clear hcl hcm hp0;have hwb:=zLa p0 ws.length c;refine zCH (zDI ?_)
 go_wp2_with (first|((with_reducible show @wpList _ _ _ ({dst:=_,op:=Op.build 51 _,type:=_,pos:=_,after:=_,guard:=_}::_) _ _);refine zLI (f:=f) wtd_ rfl rfl rfl ?_)|((with_reducible refine kgA 9 ?_);refine kA 9 H ?_;clear H;intro b9 w H;rw[zPP]at H;simp only[ca]at H)|((with_reducible refine gT ?_);refine zAM wtd_ _ _ _ rfl rfl (v:=.pointer (some ⟨b29,0,none⟩)) rfl H (i:=7) i_7 rfl (show 0<1 from Nat.one_pos) (zAD zBD) ?_;clear H;intro w H;simp only[nrl]at H)|((first|((with_reducible refine kgA 29 ?_);refine kA 29 H ?_)|((with_reducible refine kgX 29 ?_);(first|refine kS 29 H ?_|refine kB 29 H ?_)));clear H;intro b29 w H;try simp only[nr]at H)|((with_reducible refine gL ?_);refine aD H ?_))
 replace H:=H.addNil 61 7;simp only[ca]at H;refine zCH (zDI ?_)
 go_wp2_with (first|((with_reducible refine gL ?_);refine zAE wtd_ _ _ rfl rfl zBD (H.cell (i:=7) i_7 0) ?_)|(go_at_call 12;refine chT (fun h=>zHF (lq:=p0) (ln:=ws.length) (lc:=c) (last:=0) (f:=f) (g:=0) none 0 [] 0 0 (by simp) h) H (l3:=[.blk b4 (zAR {kind:=0} nilS) 30,.blk b5 #[.int .i64 0] 3,.blk b6 #[.int .i64 0] 3,.blk b7 #[.int .i64 0] 31,.row (.slice p0 ws.length c) 57 17 ws.length (zF1 ws),.blk b9 #[.pointer (some ⟨b29,0,none⟩)] 45]) [6,8] [1,2,3,4,5,7] rfl rfl (by decide) ?_;clear H;intro w xo H;simp only[zBZ,List.cons_append,List.nil_append]at H)|fail)
 refine zCH (zCH (zDI ?_))
 go_wp2_with (first|((with_reducible refine gL ?_);refine zAE wtd_ _ _ rfl rfl zBD (H.cell (i:=7) i_7 0) ?_)|(go_at_call 13;refine(zQG b29 _).mono ?_;rintro e w ⟨⟨xb,rfl,hx1,hx2⟩,hb⟩;have H2:=H.gain hb [.blk xb #[ptrV b29] 101] (fun r hr=>by simp only[List.mem_cons,List.not_mem_nil,or_false]at hr;subst hr;exact⟨⟨.inl (Nat.le_trans H.keep.size hx1),hx2⟩,fun b e=>by cases e;exact hx1⟩) (List.pairwise_singleton _ _);clear H hb hx1 hx2;have H:=H2;clear H2;simp only[ca]at H)|fail)
 rw[zHk]at H;obtain⟨R,hR⟩:∃ R:List Res,R=[.blk b9 #[.pointer (some ⟨b29,0,none⟩)] 45,.blk b4 (zAR {kind:=0} nilS) 30,.blk b5 #[.int .i64 0] 3,.blk b6 #[.int .i64 0] 3,.blk b7 #[.int .i64 0] 31]:=⟨_,rfl⟩;have hRk:R.all noKn=true:=by rw[hR];rfl
 have hlen:ws.length≤1000:=by
  have hw:=HW.out;unfold zBn at hw;split at hw
  ·cases hw
  ·have:=zDt _ _ _ hw;omega
 have hset:∀ d ∈ ws,zAf d.set:=by
  have hw:=HW.out;unfold zBn at hw;split at hw
  ·cases hw
  ·exact zFL _ _ _ hw
 have hfine:=zKr HW.out;have J0:Jw w0 xb b29 p0 c ws R f 0 w:=by
  have H1:=((H.also (fun _=>False) (fun V=>ListR V (fun _=>False) []) Still.none (fun V _=>ListR.nil _ _)).addNil 30 10).addNil 30 10
  refine⟨⟨p0,zC2 f,xo.1,xo.2,[newL 0 0 f],fun _=>False,[]⟩,rfl,⟨rfl,by simp,⟨fun l hl x hx=>?_,by simp,fun l hl=>?_⟩,Nat.zero_le _⟩,fun h=>?_,fun _ h=>h.elim,?_⟩
  ·rw[List.mem_singleton]at hl;subst hl;simp[newL]at hx
  ·rw[List.mem_singleton]at hl;subst hl;simp[newL]
  ·obtain⟨g,e⟩:=HP.out.2.2 h;exact⟨g,e,by rw[e]⟩
  ·rw[hR];exact H1.pick [8,6,0,1,9,10,11,7,2,3,4,5] _ (by decide) rfl
 have hB:w0.heap.size≤w.heap.size:=H.keep.size;clear H;have HR:=Lib.hid hR;clear hR
 refine zNQ (zMg (σ:=Nat × Nat) (α:=WordD) (n:=8) (gf:=28) (lb:=#[.pointer (some ⟨xb,0,none⟩)]) rfl (enters_of Tryz.func28 (by kernel_rfl) rfl) (encs:=fun d=>#[zAd d]) (fun _=>rfl)
  (Jw w0 xb b29 p0 c ws R f 0) (fun j W=>j=none∧Jw w0 xb b29 p0 c ws R f ws.length W) (fun ch W=>∃ a,ch=zDM a 4∧zCW (zC2 f) ws=.error a∧HoldG (fun _=>False) w0 W R)
  (fun s d W=>Jy w0 xb b29 p0 c ws (.blk s.2 (zAY d) 57::R) f s.1 d W)
  (fun s d j W=>j=none∧Jq w0 xb b29 p0 c ws (.blk s.2 (zAY d) 57::R) f s.1 d W)
  (fun s d ch W=>∃ a,ch=zDM a 4∧zCW (zC2 f) ws=.error a∧HoldG (fun _=>False) w0 W R)
  (fun s d a1 W=>∃ b10,a1={tmps:=frS L f b3 b4 b5 b6 b7 b9 b29 xb p0 ws.length c (.pointer (some ⟨b10,0,none⟩)) d,defers:=[]}∧Jy w0 xb b29 p0 c ws (.blk b10 (zAY d) 57::.blk s.2 (zAY d) 57::R) f s.1 d W)
  (Jw.stay hRk hB 0) (fun j=>Stay.and (Jw.stay hRk hB _)) (fun s d j=>Stay.and (Jq.stay (by simp[noKn,hRk]) hB _ _)) (fun s d a1=>Stay.ex fun b10=>Stay.and (Jy.stay (by simp[noKn,hRk]) hB _ _)) ?iter J0 ?assign ?body ?done ?pan)
 case iter =>
  intro l B K hBs hKs hBK hY W hI hBW;refine(zPX w0 xb b29 p0 c ws R f HP.out.1 hlen (zFr hRk) l (B none) K w.heap.size (hBs none) (fun ch W=>∃ a,ch=zDM a 4∧zCW (zC2 f) ws=.error a∧HoldG (fun _=>False) w0 W R) (fun i b3 d W1 hJ hB1=>?_) W hI hBW).mono (fun e W' h=>?_)
  ·refine(hY (i,b3) d W1 hJ hB1).mono (fun e W' h=>?_)
   rcases h with ⟨j,rfl,⟨rfl,hq⟩,hb⟩|h
   ·exact .inl ⟨rfl,hq,hb⟩
   ·exact .inr h
  ·rcases h with ⟨v,rfl,hj,hb⟩|h
   ·exact .inl ⟨v,none,rfl,⟨rfl,hj⟩,hb⟩
   ·exact .inr h
 case assign =>
  rintro l ⟨i,b3w⟩ d W hJ;simp only[List.zip_toArray,List.foldl_toArray,List.zip_cons_cons,List.zip_nil_right,List.zip_nil_left,List.foldl_cons,List.foldl_nil,List.setIfInBounds_toArray,List.set_cons_succ,List.set_cons_zero];refine wpIn_region_lit (zCj (by rintro⟨_,_,h⟩;exact h) _ _ _ rfl ?_)
  have H:=Hold.start W
  go_wp2_with (first|((first|((with_reducible refine kgA 10 ?_);refine kA 10 H ?_)|((with_reducible refine kgX 10 ?_);(first|refine kS 10 H ?_|refine kB 10 H ?_)));clear H;intro b10 w H;try simp only[nr]at H)|((with_reducible refine gT ?_);(refine aT H ?_;clear H;intro w H;try simp only[nr]at H)))
  have hge:W.heap.size≤b10:=by rcases(H.blk .zero).1 with h|h;exact h;exact h.elim
  exact⟨KeepsNC.of_below H.below,b10,rfl,hJ.more H.below hge (H.blk .zero).2⟩
 case body =>
  rintro l ⟨i,b3w⟩ d a1 W ⟨b10,rfl,hJ⟩;have hmem:=List.mem_of_getElem? hJ.1;have hword:=zKy (B:=w.heap.size) (by simp[noKn,hRk]) (hfine d hmem) (hset d hmem) hlen hJ
  obtain⟨_,x,_,_,_,_,H⟩:=hJ;have h10:=H.blkMem (b:=b10) (cs:=zAY d) (T:=57) (by simp[jL])
  have h9:=H.blkMem (b:=b9) (cs:=#[.pointer (some ⟨b29,0,none⟩)]) (T:=45) (by rw[HR.out];simp[jL])
  have h10c:∀ k,k<17→W.cell? ⟨b10,0+k,none⟩=(zAY d)[k]?:=fun k _=>by rw[Nat.zero_add];simp[World.cell?,h10]
  have h9c:W.cell? ⟨b9,0,none⟩=some (.pointer (some ⟨b29,0,none⟩)):=by simp[World.cell?,h9]
  clear H h9 h10 hmem;unfold frS;refine wpIn_block (wpIn_region_lit (zCj (by rintro⟨_,_,h⟩;exact h) _ _ _ rfl ?_))
  go_wp2_with (first|((with_reducible refine gL ?_);refine zAE wtd_ _ _ rfl rfl zBD h9c ?_)|((with_reducible refine gL ?_);refine zBL wtd_ _ _ rfl rfl zCM rfl h10c ?_)|(go_at_call 14;refine hword.mono ?_;rintro e W' ⟨hk,⟨rfl,hq⟩|⟨a,rfl,he,hR2⟩⟩))
  ·exact⟨hk,rfl,hq.less⟩
  ·refine⟨rfl,hk,a,?_⟩
   have hx:=HoldG.left (R:=[_,_]) (hR2.perms (List.perm_append_comm (l₁:=[_,_]) (l₂:=R)));exact⟨rfl,rfl,hx⟩
 case done =>
  rintro D j W hD ⟨rfl,x,a1,a2,a3,a4,H⟩ hK;have hD2:w0.heap.size≤D:=Nat.le_trans hB hD;have hpm:=zHx f (ws:=ws) (fun w hw=>by have:=(hfine w hw).1;omega)
  rw[List.take_of_length_le (Nat.le_refl _)]at a1;rw[a1]at hpm;obtain⟨pre,lm,hls⟩:∃ pre lm,x.ls=pre++[lm]:=⟨x.ls.dropLast,x.ls.getLast a2.ne,(List.dropLast_concat_getLast a2.ne).symm⟩;have hop:=a2.op;rw[hls,zBz]at hop;have hpre:pre.length≤1000:=by have:=a2.ok.len;rw[hls]at this;simp at this;omega
  obtain⟨og,hoq⟩:∃ og,x.oq=some ⟨og,0,none⟩:=by
   obtain⟨q,c',e,_,_,h⟩:=H.rowShape (i:=3) i_3;obtain⟨og,rfl⟩:=h (List.length_pos_iff.2 a2.ne);exact⟨og,by injection e⟩
  rw[HR.out]at H;have H1:=H.perms (List.perm_append_comm (l₁:=_::_::psL ..) (l₂:=[_,_,_,_,_]));unfold psL at H1;simp only[ca]at H1;rw[hoq,Nat.sub_self,show x.ls.length=pre.length+1 by rw[hls];simp,hls]at H1
  clear H;have hcl:∀ r ∈ zDz (pre++[lm]),zCB r=true:=fun r hr=>List.all_eq_true.1 (zGe (pre++[lm])) r hr
  have H2:=(H1.know (·=D) (fun V=>V.heap[D]?=some (.deferred (some []))) (fun b hb=>by rw[hb];exact(Array.getElem?_eq_some_iff.1 hK).1) (fun i r hi b hb e=>by
   subst e;obtain⟨o,h1,h2⟩:=H1.placeCells (by simp only[List.all_cons,zCB,Bool.true_and];rw[List.all_eq_true];exact hcl) (List.mem_of_getElem? hi) hb
   rw[hK]at h1;cases h1;cases h2) (fun V hV=>(hV D rfl).trans hK)).perms List.perm_append_comm
  simp only[ca]at H2;clear H1 hcl;have H:=H2;clear H2;refine(show wpR _ _ _ _ _ from ?_)
  by_cases hp:pre=[]
  ·subst hp;obtain⟨l0,ls0,e1,_,e3⟩:=hpm;rw[hop]at e1
   cases e1
   obtain⟨hwr,hal⟩:=e3 rfl;obtain⟨t,ht⟩:∃ t,zJ8 lm.plain=t:=⟨_,rfl⟩;rw[ht]at hal;have hsz:zBk t≤4000:=by
    have:=zFz _ _ _ _ _ _ _ _ _ hal;simp only[List.length_nil,zA2]at this;omega
   have E:zBv L f=if 20<x.s.groups∨2000<zBk t then .error (0,7) else if 50<zDa t then .error (0,5) else .ok (t,x.s.groups):=by
    unfold zBv;rw[HW.out];simp only[hwr,hal]
   have E2:=Lib.hid E;clear E hwr hal;have hg:=a2.gr;have HOK:=Lib.hid a2.ok;rw[hls]at HOK;have HT:=Lib.hid ht;clear ht;have HF:=Lib.hid a4;clear a4;have HH:HoldG (fun _=>False) w0 W [.kn (·=D) (fun V=>V.heap[D]?=some (.deferred (some []))),.blk b9 #[.pointer (some ⟨b29,0,none⟩)] 45,.blk b4 (zAR {kind:=0} nilS) 30,.blk b5 #[.int .i64 0] 3,.blk b6 #[.int .i64 0] 3,.blk b7 #[.int .i64 0] 31,.blk xb #[ptrV b29] 101,.row (.slice p0 ws.length c) 57 17 ws.length (zAb (ws.map zAY)),blkP b29 x.p 0 (c - ws.length) x.s.last x.s.fl x.s.groups (some ⟨og,0,none⟩) 1 x.oc,rowL (some ⟨og,0,none⟩) 1 x.oc [lm],knL x.F x.zs,rowN lm.iq lm.ic lm.items,rowN lm.aq lm.ac lm.all]:=H
   clear H a1 a3 hop hls hK hoq;have H:=HH.pick [9,10,11,12,2,3,4,5,1,0,8] [rowL (some ⟨og,0,none⟩) 1 x.oc [lm],knL x.F x.zs,rowN lm.iq lm.ic lm.items,rowN lm.aq lm.ac lm.all,.blk b4 (zAR {kind:=0} nilS) 30,.blk b5 #[.int .i64 0] 3,.blk b6 #[.int .i64 0] 3,.blk b7 #[.int .i64 0] 31,.blk b9 #[.pointer (some ⟨b29,0,none⟩)] 45,.kn (·=D) (fun V=>V.heap[D]?=some (.deferred (some []))),blkP b29 x.p 0 (c - ws.length) x.s.last x.s.fl x.s.groups (some ⟨og,0,none⟩) 1 x.oc] (by decide) rfl
   clear HH;refine zCH (zDI ?_);refine wr_ 12 [fun v _=>v=pt b29 0,fun v _=>v=pt b29 0,fun v _=>v=pt b29 6,fun v _=>v=.slice (some ⟨og,0,none⟩) 1 x.oc,fun v _=>v=.int .i64 ((1:Nat):Int),fun v _=>v=.bool true,fun v _=>v=pt b29 0,fun v _=>v=pt og 0,fun v _=>v=pt og 0,fun v _=>v=pt og 0,fun v _=>v=.int .i64 lm.place,fun v _=>v=.tuple #[]] ?ob ?en
   case ob =>
    refine⟨?_,?_,?_,?_,?_,?_,?_,?_,?_,?_,?_,?_,trivial⟩<;>intro A W h
    ·exact zAB rfl (zAK rfl (h.f 9) (by first|(with_reducible exact zAI)|(with_reducible exact zBU)|(with_reducible exact zAe)|(with_reducible exact zAk)|(with_reducible exact zAo)|(with_reducible exact one_u64)|(with_reducible exact zAa)|(with_reducible exact zAQ)|(with_reducible exact zAW)|(with_reducible exact zAN)|(with_reducible exact zAF)|(with_reducible exact zAG)|(with_reducible exact zBD)) ((H.call h.below).cell (i:=8) i_8 0)) (by decide)
    ·(have e40:A.eval (.tmp 40)=.pointer (some ⟨b29,0,none⟩):=h.d 0 40;refine zAB rfl ?_;simp only[execOp,e40];(simp[go_sem]<;>first|done|omega|(rw[IntKind.wrap_i64];omega)|(rw[IntKind.wrap_u8];omega)|(rw[IntKind.wrap_u64];omega)))
    ·(have e41:A.eval (.tmp 41)=.pointer (some ⟨b29,0,none⟩):=h.d 1 41;refine zAB rfl ?_;simp only[execOp,e41];(simp[go_sem]<;>first|done|omega|(rw[IntKind.wrap_i64];omega)|(rw[IntKind.wrap_u8];omega)|(rw[IntKind.wrap_u64];omega)))
    ·exact zAB rfl (zAK rfl (h.d 2 42) (by first|(with_reducible exact zAI)|(with_reducible exact zBU)|(with_reducible exact zAe)|(with_reducible exact zAk)|(with_reducible exact zAo)|(with_reducible exact one_u64)|(with_reducible exact zAa)|(with_reducible exact zAQ)|(with_reducible exact zAW)|(with_reducible exact zAN)|(with_reducible exact zAF)|(with_reducible exact zAG)|(with_reducible exact zBD)) ((H.call h.below).cell (i:=10) i_10 6)) (by decide)
    ·exact zGJ Tryz.underlying49 rfl rfl (h.d 3 43)
    ·(have e44:A.eval (.tmp 44)=.int .i64 ((1:Nat):Int):=h.d 4 44;refine zAB rfl ?_;simp only[execOp,e44];(simp[go_sem]<;>first|done|omega|(rw[IntKind.wrap_i64];omega)|(rw[IntKind.wrap_u8];omega)|(rw[IntKind.wrap_u64];omega)))
    ·exact zAB rfl (zAK rfl (h.f 9) (by first|(with_reducible exact zAI)|(with_reducible exact zBU)|(with_reducible exact zAe)|(with_reducible exact zAk)|(with_reducible exact zAo)|(with_reducible exact one_u64)|(with_reducible exact zAa)|(with_reducible exact zAQ)|(with_reducible exact zAW)|(with_reducible exact zAN)|(with_reducible exact zAF)|(with_reducible exact zAG)|(with_reducible exact zBD)) ((H.call h.below).cell (i:=8) i_8 0)) (by decide)
    ·exact zBB rfl rfl (enters_of Tryz.func16 (by kernel_rfl) rfl) (zBt (h.d 6 46)) (((zFT b29 og 0 x.oc W (Array.getElem?_eq_some_iff.1 ((H.call h.below).blk (i:=10) i_10).2).1 (by omega) ((H.call h.below).cell (i:=10) i_10 6))))
    ·(have e47:A.eval (.tmp 47)=.pointer (some ⟨og,0,none⟩):=h.d 7 47;refine zAB rfl ?_;simp only[execOp,e47];(simp[go_sem]<;>first|done|omega|(rw[IntKind.wrap_i64];omega)|(rw[IntKind.wrap_u8];omega)|(rw[IntKind.wrap_u64];omega)))
    ·(have e48:A.eval (.tmp 48)=.pointer (some ⟨og,0,none⟩):=h.d 8 48;refine zAB rfl ?_;simp only[execOp,e48];(simp[go_sem]<;>first|done|omega|(rw[IntKind.wrap_i64];omega)|(rw[IntKind.wrap_u8];omega)|(rw[IntKind.wrap_u64];omega)))
    ·exact zAB rfl (zAK rfl (h.d 9 49) zAI (zCr (pre:=[]) (H.call h.below) (i:=0) .zero 0)) (by decide)
    ·exact zBB rfl rfl (enters_of Tryz.func15 (by kernel_rfl) rfl) (zQ6 ⟨(h.d 5 45),(h.d 10 50),rfl⟩) (zC8 _ _ W)
   case en =>
    intro vals W hbw hv _;simp only[fa,Nat.reduceAdd];rw[e_ hv 0,e_ hv 1,e_ hv 2,e_ hv 3,e_ hv 4,e_ hv 5,e_ hv 6,e_ hv 7,e_ hv 8,e_ hv 9,e_ hv 10,e_ hv 11];clear hv
    try simp only[pl]
    replace H:=H.call hbw;clear hbw
    go_wp2_with fail
    refine zCH (zDI ?_);have hall:lm.all.length≤1000000:=by have:=(HOK.out.cnt lm (by simp)).2;omega
    go_wp2_with (first|((with_reducible refine gL ?_);refine zAE wtd_ _ _ rfl rfl zBD (H.cell (i:=8) i_8 0) ?_)|(go_at_call 16;refine zL9 (zFT b29 og 0 x.oc _ (Array.getElem?_eq_some_iff.1 (H.blk (i:=10) i_10).2).1 (by omega) (H.cell (i:=10) i_10 6)) H ?_;clear H;intro w H)|(go_at_call 17;refine zM3 (fun h=>zJn og x.oc [] lm x.F x.zs (by simp) hall (HOK.out.sub lm (by simp)) h) (H:HoldG (fun _=>False) w0 _ (zBP og x.oc [] lm x.F x.zs++_)) (N:=fun b=>w0.heap.size≤b) (zQo H (fun b hb=>(HF.out b hb).2)) (fun b hb=>Nat.le_trans H.keep.size hb) HT.out ?_;clear H;intro w q c2 F2 Fx l' HL HF2 HX H;simp only[ca]at H)|((with_reducible refine gT ?_);(refine aT H ?_;clear H;intro w H;try simp only[nr]at H)))
    refine zCH (zDI ?_)
    go_wp2_with (first|(go_at_call 18;refine ch (zOx t q t.kids.length c2 Fx _ hsz (H.knlt (i:=2) i_2) (H.kn (i:=2) i_2) rfl) H ?_;clear H;intro w H)|((with_reducible refine gL ?_);refine aD H ?_))
    by_cases h20:20<x.s.groups
    ·have dg:decide ((x.s.groups:Int)≤20)=false:=decide_eq_false (by omega)
     have E3:=Lib.hid (show zBv L f=.error (0,7) by rw[E2.out,if_pos (.inl h20)])
     clear E2;refine zCH (zDI ?_)
     go_wp2_with (first|((with_reducible refine gL ?_);refine zAE wtd_ _ _ rfl rfl zBD (H.cell (i:=7) i_7 0) ?_)|(go_at_call 15;refine chP (zDU 0 7 _) H ?_;clear H;intro w H)|((with_reducible refine gL ?_);refine aG H ?_))
     have hK3:=H.kn (i:=8) i_8;have H3:HoldG (fun _=>False) w0 w (resL b4 b5 b6 b7 (zAR t.d (.slice q t.kids.length c2)) 0 0 0):=H.pick [3,4,5,6] _ (by decide) rfl
     refine⟨by simp,.inl ⟨D,_,rfl,run_takeDeferred hK3,?_⟩⟩
     have H4:=Stay.putObj (HoldG.stay rfl (Nat.le_refl _)) (.deferred none) H3 hD2 hK3 rfl;refine⟨by simp,.inr ⟨fun _=>by omega,_,_,_,_,rfl,by simp[go_sem],fun g hg=>trivial,(zCo 8 b4 b5 b6 b7 _ _ _ _ rfl 0 7 _ H4).mono ?_⟩⟩
     rintro e u' W' ⟨rfl,rfl,H5⟩;refine⟨_,zEB Tryz.results5 rfl rfl rfl rfl zAX zAI zAI zAN H5 (i:=0) .zero rfl ((H5.cell (i:=1) i_1 0).trans rfl) ((H5.cell (i:=2) i_2 0).trans rfl) ((H5.cell (i:=3) i_3 0).trans rfl),?_⟩
     exact⟨ParseOut.no E3.out,H5.below⟩
    ·have dg:decide ((x.s.groups:Int)≤20)=true:=decide_eq_true (by omega)
     by_cases h2k:2000<zBk t
     ·have dk:decide ((zBk t:Int)≤2000)=false:=decide_eq_false (by omega)
      have E3:=Lib.hid (show zBv L f=.error (0,7) by rw[E2.out,if_pos (.inr h2k)])
      clear E2;refine zCH (zDI ?_)
      go_wp2_with (first|((with_reducible refine gL ?_);refine zAE wtd_ _ _ rfl rfl zBD (H.cell (i:=7) i_7 0) ?_)|(go_at_call 15;refine chP (zDU 0 7 _) H ?_;clear H;intro w H)|((with_reducible refine gL ?_);refine aG H ?_))
      have hK3:=H.kn (i:=8) i_8;have H3:HoldG (fun _=>False) w0 w (resL b4 b5 b6 b7 (zAR t.d (.slice q t.kids.length c2)) 0 0 0):=H.pick [3,4,5,6] _ (by decide) rfl
      refine⟨by simp,.inl ⟨D,_,rfl,run_takeDeferred hK3,?_⟩⟩
      have H4:=Stay.putObj (HoldG.stay rfl (Nat.le_refl _)) (.deferred none) H3 hD2 hK3 rfl;refine⟨by simp,.inr ⟨fun _=>by omega,_,_,_,_,rfl,by simp[go_sem],fun g hg=>trivial,(zCo 8 b4 b5 b6 b7 _ _ _ _ rfl 0 7 _ H4).mono ?_⟩⟩
      rintro e u' W' ⟨rfl,rfl,H5⟩;refine⟨_,zEB Tryz.results5 rfl rfl rfl rfl zAX zAI zAI zAN H5 (i:=0) .zero rfl ((H5.cell (i:=1) i_1 0).trans rfl) ((H5.cell (i:=2) i_2 0).trans rfl) ((H5.cell (i:=3) i_3 0).trans rfl),?_⟩
      exact⟨ParseOut.no E3.out,H5.below⟩
     ·have dk:decide ((zBk t:Int)≤2000)=true:=decide_eq_true (by omega)
      refine zCH (zDI ?_)
      go_wp2_with (first|((with_reducible refine gL ?_);refine zAE wtd_ _ _ rfl rfl zBD (H.cell (i:=7) i_7 0) ?_)|(go_at_call 15;refine ch (zC8 0 7 _) H ?_;clear H;intro w H)|((with_reducible refine gL ?_);refine aG H ?_))
      by_cases h50:50<zDa t
      ·have dd:decide ((zDa t:Int)≤50)=false:=decide_eq_false (by omega)
       have E3:=Lib.hid (show zBv L f=.error (0,5) by rw[E2.out,if_neg (by omega),if_pos h50])
       clear E2;refine zCH (zDI ?_)
       go_wp2_with (first|(go_at_call 15;refine chP (zDU 0 5 _) H ?_;clear H;intro w H)|fail)
       have hK3:=H.kn (i:=8) i_8;have H3:HoldG (fun _=>False) w0 w (resL b4 b5 b6 b7 (zAR t.d (.slice q t.kids.length c2)) 0 0 0):=H.pick [3,4,5,6] _ (by decide) rfl
       refine⟨by simp,.inl ⟨D,_,rfl,run_takeDeferred hK3,?_⟩⟩
       have H4:=Stay.putObj (HoldG.stay rfl (Nat.le_refl _)) (.deferred none) H3 hD2 hK3 rfl;refine⟨by simp,.inr ⟨fun _=>by omega,_,_,_,_,rfl,by simp[go_sem],fun g hg=>trivial,(zCo 8 b4 b5 b6 b7 _ _ _ _ rfl 0 5 _ H4).mono ?_⟩⟩
       rintro e u' W' ⟨rfl,rfl,H5⟩;refine⟨_,zEB Tryz.results5 rfl rfl rfl rfl zAX zAI zAI zAN H5 (i:=0) .zero rfl ((H5.cell (i:=1) i_1 0).trans rfl) ((H5.cell (i:=2) i_2 0).trans rfl) ((H5.cell (i:=3) i_3 0).trans rfl),?_⟩
       exact⟨ParseOut.no E3.out,H5.below⟩
      ·have dd:decide ((zDa t:Int)≤50)=true:=decide_eq_true (by omega)
       have E3:=Lib.hid (show zBv L f=.ok (t,x.s.groups) by rw[E2.out,if_neg (by omega),if_neg h50])
       clear E2;refine zCH (zDI ?_)
       go_wp2_with (first|(go_at_call 15;refine ch (zC8 0 5 _) H ?_;clear H;intro w H)|fail)
       refine zDI (wp_seq ?_);have h4:=(H.blk (i:=3) i_3).2;have h9:=(H.blk (i:=7) i_7).2;have h29:=(H.blk (i:=9) i_9).2;have n49:b4≠b9:=fun e=>H.apart 3 7 _ _ (by decide) rfl rfl b4 rfl (by rw[e];rfl)
       have n429:b4≠b29:=fun e=>H.apart 3 9 _ _ (by decide) rfl rfl b4 rfl (by rw[e];rfl)
       have hS:∀ W,RelZ [(b4,zAR t.d (.slice q t.kids.length c2),30)] w W→W.heap[b4]?=some (.cells (zAR t.d (.slice q t.kids.length c2)) 30 (0,0))∧W.cell? ⟨b9,0,none⟩=some (.pointer (some ⟨b29,0,none⟩))∧W.cell? ⟨b29,5,none⟩=some (.int .i64 x.s.groups):=fun W hr=>by
        have g4:=hr.blk h4 (fun z hz e=>by rw[List.mem_singleton]at hz;subst hz;exact⟨rfl,rfl⟩)
        have g9:=hr.blk h9 (fun z hz e=>by rw[List.mem_singleton]at hz;subst hz;exact absurd e n49)
        have g29:=hr.blk h29 (fun z hz e=>by rw[List.mem_singleton]at hz;subst hz;exact absurd e n429)
        exact⟨g4,by simp[World.cell?,g9],by simp[World.cell?,g29]⟩
       refine zBh (RelZ [(b4,zAR t.d (.slice q t.kids.length c2),30)]) RelZ.refl RelZ.trans RelZ.drew 6 [fun v _=>v=zAl t.d (.slice q t.kids.length c2),fun v _=>v=pt b29 0,fun v _=>v=pt b29 0,fun v _=>v=pt b29 5,fun v _=>v=.int .i64 x.s.groups,zIN (b4,zAR t.d (.slice q t.kids.length c2),30)]
        ⟨zAA _,zAA _,zAA _,zAA _,zAA _,zCL (.head _),trivial⟩ (by kernel_rfl) (by kernel_rfl) (by kernel_rfl) ?ob15 ?en15
       case ob15 =>
        refine⟨?_,?_,?_,?_,?_,?_,trivial⟩<;>intro A W h
        ·exact zAt rfl (zAH RelZ.refl rfl (zB0 rfl (h.f 4) zAX rfl (fun k _=>by rw[Nat.zero_add];simp[World.cell?,(hS W h.rel).1])))
        ·exact zAt rfl (zAH RelZ.refl rfl (zAK rfl (h.f 9) zBD (hS W h.rel).2.1))
        ·exact zAt rfl (zAH RelZ.refl rfl (by simp only[execOp,show A.eval (.tmp 74)=.pointer (some ⟨b29,0,none⟩) from h.d 1 74];simp[go_sem]))
        ·exact zAt rfl (zAH RelZ.refl rfl (by simp only[execOp,show A.eval (.tmp 75)=.pointer (some ⟨b29,0,none⟩) from h.d 2 75];simp[go_sem]))
        ·exact zAt rfl (zAH RelZ.refl rfl (zAK rfl (h.d 3 76) zAI (hS W h.rel).2.2))
        ·exact zEQ (.head _) (fun z hz e=>by rw[List.mem_singleton]at hz;exact hz) rfl rfl rfl (h.f 4) ⟨_,(hS W h.rel).1,rfl⟩ (fun hth=>zHH rfl (h.f 4) (h.d 0 73) (zAw (n:=10) zAX) rfl hth)
       case en15 =>
        intro vals W1 hrel hv hlk;have v0:vals 0=zAl t.d (.slice q t.kids.length c2):=hv 0 (by omega)
        have v1:vals 1=.pointer (some ⟨b29,0,none⟩):=hv 1 (by omega)
        have v2:vals 2=.pointer (some ⟨b29,0,none⟩):=hv 2 (by omega)
        have v3:vals 3=.pointer (some ⟨b29,5,none⟩):=hv 3 (by omega)
        have v4:vals 4=.int .i64 x.s.groups:=hv 4 (by omega)
        have H2:=H.relZ1 (i:=3) i_3 hrel (hv 5 (by omega)).2
        simp only[fa,Nat.reduceAdd];rw[v0,v1,v2,v3,v4];clear hv v0 v1 v2 v3 v4 hlk hrel H hS h4 h9 h29;have H:=H2;clear H2;simp only[sc]at H;simp only[pl];refine zAM rfl 3 _ _ rfl (b:=b5) (k:=0) rfl (v:=.int .i64 x.s.groups) rfl H (i:=4) i_4 rfl (show 0<1 from Nat.one_pos) (zAD zAI) ?_
        clear H;intro w H;refine zAM rfl 3 _ _ rfl (b:=b6) (k:=0) rfl (v:=.int .i64 0) rfl H (i:=5) i_5 rfl (show 0<1 from Nat.one_pos) (zAD zAI) ?_
        clear H;intro w H;refine zAM rfl 31 _ _ rfl (b:=b7) (k:=0) rfl (v:=.int .i64 0) rfl H (i:=6) i_6 rfl (show 0<1 from Nat.one_pos) (zAD zAN) ?_
        clear H;intro w H;have hK3:=H.kn (i:=8) i_8;have H1:=H.restG (i:=2) i_2 (fun b=>Fx b∧CellsAt w b) (fun V=>ForestR V (fun b=>Fx b∧CellsAt w b) q c2 t.kids) (fun b hb=>.inl hb.1) (fun V hV=>((H.kn (i:=2) i_2).cells).kept hV)
        have H3:HoldG (fun _=>False) w0 w [.blk b4 (zAR t.d (.slice q t.kids.length c2)) 30,.blk b5 #[.int .i64 x.s.groups] 3,.blk b6 #[.int .i64 0] 3,.blk b7 #[.int .i64 0] 31,.kn (fun b=>Fx b∧CellsAt w b) (fun V=>ForestR V (fun b=>Fx b∧CellsAt w b) q c2 t.kids)]:=H1.pick [3,4,5,6,2] _ (by decide) rfl
        clear H H1
        go_wp2_with fail
        refine⟨by simp,.inl ⟨D,_,rfl,run_takeDeferred hK3,?_⟩⟩
        obtain⟨_,_,_,H4⟩:=Stay.putObj (FootCells.stay (w0:=w0) (M:=fun _=>False) (B:=w0.heap.size) (X:=Unit) (fun _=>[.blk b4 (zAR t.d (.slice q t.kids.length c2)) 30,.blk b5 #[.int .i64 x.s.groups] 3,.blk b6 #[.int .i64 0] 3,.blk b7 #[.int .i64 0] 31,.kn (fun b=>Fx b∧CellsAt w b) (fun V=>ForestR V (fun b=>Fx b∧CellsAt w b) q c2 t.kids)]) (fun _=>True) (fun _ _=>rfl) (Nat.le_refl _)) (.deferred none) ⟨(),trivial,(fun r hr F S e b hb=>by subst e;simp only[List.mem_cons,reduceCtorEq,false_or,List.not_mem_nil,or_false,Res.kn.injEq]at hr;obtain⟨rfl,_⟩:=hr;exact hb.2),H3⟩ hD2 hK3 rfl
        refine⟨by simp,.inr ⟨fun _=>by omega,_,_,_,_,rfl,by simp[go_sem],fun g hg=>trivial,(zJr 8 (.pointer (some ⟨b4,0,none⟩)) (.pointer (some ⟨b5,0,none⟩)) (.pointer (some ⟨b6,0,none⟩)) (.pointer (some ⟨b7,0,none⟩)) _).mono ?_⟩⟩
        rintro e u' W' ⟨rfl,rfl,rfl⟩;refine⟨_,zEB Tryz.results5 rfl rfl rfl rfl zAX zAI zAI zAN H4 (i:=0) .zero rfl ((H4.cell (i:=1) i_1 0).trans rfl) ((H4.cell (i:=2) i_2 0).trans rfl) ((H4.cell (i:=3) i_3 0).trans rfl),?_⟩
        refine⟨?_,H4.below⟩;rw[E3.out];exact⟨q,c2,_,rfl,H4.kn (i:=4) i_4,fun b hb=>⟨H4.knlt (i:=4) i_4 b hb,HX.out b hb.1⟩⟩
  ·have hl2:pre.length+1≠1:=fun h=>hp (List.length_eq_zero_iff.1 (by omega))
   have dl:(((pre.length:Int)+1) == 1)=false:=by rw[beq_eq_false_iff_ne];omega
   have E2:zBv L f=.error (lm.place,4):=by
    obtain⟨l0,ls0,e1,e2,_⟩:=hpm;rw[hop]at e1
    cases e1
    have hw:=e2 (fun h=>hp (by have:=congrArg List.length h;simp[opOf]at this;exact List.length_eq_zero_iff.1 (by simpa using this)))
    unfold zBv;rw[HW.out];simp only[hw];rfl
   refine zCH (zDI ?_);clear hpm a1 a3 a4 hop hls hp hK hoq;refine wr_ 11 [fun v _=>v=pt b29 0,fun v _=>v=pt b29 0,fun v _=>v=pt b29 6,fun v _=>v=.slice (some ⟨og,0,none⟩) (pre.length+1) x.oc,fun v _=>v=.int .i64 ((pre.length+1:Nat):Int),fun v _=>v=.bool false,fun v _=>v=pt b29 0,fun v _=>v=.pointer (some ⟨og,pre.length * 7,none⟩),fun v _=>v=.pointer (some ⟨og,pre.length * 7,none⟩),fun v _=>v=.pointer (some ⟨og,pre.length * 7,none⟩),fun v _=>v=.int .i64 lm.place] ?ob ?en
   case ob =>
    refine⟨?_,?_,?_,?_,?_,?_,?_,?_,?_,?_,?_,trivial⟩<;>intro A W h
    ·exact zAB rfl (zAK rfl (h.f 9) (by first|(with_reducible exact zAI)|(with_reducible exact zBU)|(with_reducible exact zAe)|(with_reducible exact zAk)|(with_reducible exact zAo)|(with_reducible exact one_u64)|(with_reducible exact zAa)|(with_reducible exact zAQ)|(with_reducible exact zAW)|(with_reducible exact zAN)|(with_reducible exact zAF)|(with_reducible exact zAG)|(with_reducible exact zBD)) ((H.call h.below).cell (i:=1) i_1 0)) (by decide)
    ·(have e40:A.eval (.tmp 40)=.pointer (some ⟨b29,0,none⟩):=h.d 0 40;refine zAB rfl ?_;simp only[execOp,e40];(simp[go_sem]<;>first|done|omega|(rw[IntKind.wrap_i64];omega)|(rw[IntKind.wrap_u8];omega)|(rw[IntKind.wrap_u64];omega)))
    ·(have e41:A.eval (.tmp 41)=.pointer (some ⟨b29,0,none⟩):=h.d 1 41;refine zAB rfl ?_;simp only[execOp,e41];(simp[go_sem]<;>first|done|omega|(rw[IntKind.wrap_i64];omega)|(rw[IntKind.wrap_u8];omega)|(rw[IntKind.wrap_u64];omega)))
    ·exact zAB rfl (zAK rfl (h.d 2 42) (by first|(with_reducible exact zAI)|(with_reducible exact zBU)|(with_reducible exact zAe)|(with_reducible exact zAk)|(with_reducible exact zAo)|(with_reducible exact one_u64)|(with_reducible exact zAa)|(with_reducible exact zAQ)|(with_reducible exact zAW)|(with_reducible exact zAN)|(with_reducible exact zAF)|(with_reducible exact zAG)|(with_reducible exact zBD)) ((H.call h.below).cell (i:=8) i_8 6)) (by decide)
    ·exact zGJ Tryz.underlying49 rfl rfl (h.d 3 43)
    ·(have e44:A.eval (.tmp 44)=.int .i64 ((pre.length+1:Nat):Int):=h.d 4 44;refine zAB rfl ?_;simp only[execOp,e44];(simp[go_sem]<;>first|done|omega|(rw[IntKind.wrap_i64];omega)|(rw[IntKind.wrap_u8];omega)|(rw[IntKind.wrap_u64];omega)))
    ·exact zAB rfl (zAK rfl (h.f 9) (by first|(with_reducible exact zAI)|(with_reducible exact zBU)|(with_reducible exact zAe)|(with_reducible exact zAk)|(with_reducible exact zAo)|(with_reducible exact one_u64)|(with_reducible exact zAa)|(with_reducible exact zAQ)|(with_reducible exact zAW)|(with_reducible exact zAN)|(with_reducible exact zAF)|(with_reducible exact zAG)|(with_reducible exact zBD)) ((H.call h.below).cell (i:=1) i_1 0)) (by decide)
    ·exact zBB rfl rfl (enters_of Tryz.func16 (by kernel_rfl) rfl) (zBt (h.d 6 46)) (zFT b29 og pre.length x.oc W (Array.getElem?_eq_some_iff.1 ((H.call h.below).blk (i:=8) i_8).2).1 (by omega) ((H.call h.below).cell (i:=8) i_8 6))
    ·(have e47:A.eval (.tmp 47)=.pointer (some ⟨og,pre.length * 7,none⟩):=h.d 7 47;refine zAB rfl ?_;simp only[execOp,e47];(simp[go_sem]<;>first|done|omega|(rw[IntKind.wrap_i64];omega)|(rw[IntKind.wrap_u8];omega)|(rw[IntKind.wrap_u64];omega)))
    ·(have e48:A.eval (.tmp 48)=.pointer (some ⟨og,pre.length * 7,none⟩):=h.d 8 48;refine zAB rfl ?_;simp only[execOp,e48];(simp[go_sem]<;>first|done|omega|(rw[IntKind.wrap_i64];omega)|(rw[IntKind.wrap_u8];omega)|(rw[IntKind.wrap_u64];omega)))
    ·exact zAB rfl (zAK rfl (h.d 9 49) zAI (zCr (H.call h.below) (i:=9) i_9 0)) (by decide)
   case en =>
    intro vals W hbw hv _;simp only[fa,Nat.reduceAdd];rw[e_ hv 0,e_ hv 1,e_ hv 2,e_ hv 3,e_ hv 4,e_ hv 5,e_ hv 6,e_ hv 7,e_ hv 8,e_ hv 9,e_ hv 10];clear hv
    try simp only[pl]
    replace H:=H.call hbw;clear hbw
    go_wp2_with (first|(go_at_call 15;refine chP (zDU lm.place 4 _) H ?_;clear H;intro w H)|fail)
    have hK3:=H.kn (i:=0) .zero;have H3:HoldG (fun _=>False) w0 w (resL b4 b5 b6 b7 (zAR {kind:=0} nilS) 0 0 0):=H.pick [2,3,4,5] _ (by decide) rfl
    refine⟨by simp,.inl ⟨D,_,rfl,run_takeDeferred hK3,?_⟩⟩
    have H4:=Stay.putObj (HoldG.stay rfl (Nat.le_refl _)) (.deferred none) H3 hD2 hK3 rfl;refine⟨by simp,.inr ⟨fun _=>by omega,_,_,_,_,rfl,by simp[go_sem],fun g hg=>trivial,(zCo 8 b4 b5 b6 b7 _ _ _ _ rfl lm.place 4 _ H4).mono ?_⟩⟩
    rintro e u' W' ⟨rfl,rfl,H5⟩;refine⟨_,zEB Tryz.results5 rfl rfl rfl rfl zAX zAI zAI zAN H5 (i:=0) .zero rfl ((H5.cell (i:=1) i_1 0).trans rfl) ((H5.cell (i:=2) i_2 0).trans rfl) ((H5.cell (i:=3) i_3 0).trans rfl),?_⟩
    exact⟨rfl,H5.below⟩
 case pan =>
  rintro D ch W hD ⟨a,rfl,he,H⟩ hK;have E2:zBv L f=.error (a,4):=by
   have hm:=zHx f (fun w hw=>by have:=(hfine w hw).1;omega)
   rw[he]at hm;unfold zBv;rw[HW.out];simp only[hm]
  have hD2:w0.heap.size≤D:=Nat.le_trans hB hD;rw[HR.out]at H;refine⟨by simp,.inl ⟨D,_,rfl,run_takeDeferred hK,?_⟩⟩
  have H2:=Stay.putObj (HoldG.stay rfl (Nat.le_refl _)) (.deferred none) H hD2 hK rfl;have H3:HoldG (fun _=>False) w0 _ (resL b4 b5 b6 b7 (zAR {kind:=0} nilS) 0 0 0):=H2.pick [1,2,3,4] _ (by decide) rfl
  refine⟨by simp,.inr ⟨fun _=>by omega,_,_,_,_,rfl,by simp[go_sem],fun g hg=>trivial,(zCo 8 b4 b5 b6 b7 _ _ _ _ rfl a 4 _ H3).mono ?_⟩⟩
  rintro e u' W' ⟨rfl,rfl,H4⟩;refine⟨_,zEB Tryz.results5 rfl rfl rfl rfl zAX zAI zAI zAN H4 (i:=0) .zero rfl ((H4.cell (i:=1) i_1 0).trans rfl) ((H4.cell (i:=2) i_2 0).trans rfl) ((H4.cell (i:=3) i_3 0).trans rfl),?_⟩
  exact⟨ParseOut.no E2,H4.below⟩
theorem zKH (L:Str) (f:zAP) (w0:World) (hz:MaxL w0):Calls Tryz.prog 5 #[.string ⟨L.toArray⟩,zBq f] w0 fun e w'=>ParseOut w0 (zBv L f) e w'∧Below w0.heap.size w0 w':=by
 cases hw:zBn L with
 | error x=>exact zJ7 L f x.1 x.2 hw w0 hz
 | ok ws=>exact zJt L f ws hw w0 hz
theorem zKq {xs:List TV} {j:Nat} {x:TV} (h:xs[j]?=some x):zA2 ((xs.map (·.1)).take j)+zBk x.1≤zA2 (xs.map (·.1)):=zHj (by rw[List.getElem?_map,h];rfl)
theorem zMj (t:Tree) (p1 p2:Option Addr) (n c1 c2:Nat) (F1 F2:Nat→Prop) (w0:World) (hF1:∀ b,F1 b→b<w0.heap.size) (hF2:∀ b,F2 b→b<w0.heap.size) (h1:ForestR w0 F1 p1 c1 t.kids) (h2:ForestR w0 F2 p2 c2 t.kids) (hn:n=t.kids.length)
  (hN:∀ w:World,(∀ b,F1 b→b<w.heap.size)→(∀ b,F2 b→b<w.heap.size)→ForestR w F1 p1 c1 t.kids→ForestR w F2 p2 c2 t.kids→Calls Tryz.prog 45 #[.slice p1 n c1,.slice p2 n c2] w (Rt (.bool true) w)) :
  Calls Tryz.prog 20 #[zAl t.d (.slice p1 n c1),zAl t.d (.slice p2 n c2)] w0 (Rt (.bool true) w0):=by
 clear hn
 have H:=((Hold.start w0).know F1 (fun V=>ForestR V F1 p1 c1 t.kids) hF1 (fun i r h=>by simp at h) (fun V hV=>h1.kept hV)).know F2 (fun V=>ForestR V F2 p2 c2 t.kids) hF2 (fun i r h b hb=>by
  match i,h with
  | 0,h=>cases h;cases hb) (fun V hV=>h2.kept hV)
 simp only[List.nil_append,List.cons_append]at H;clear h1 h2;have hS:eqS t.d.set t.d.set=true:=by simp[eqS]
 obtain⟨d,ks⟩:=t;simp only[Tree.d,Tree.kids]at *
 go_enter Tryz.func20,Tryz.ntmps20
 go_wp2_with (first|((first|((with_reducible refine kgA 2 ?_);refine kA 2 H ?_)|((with_reducible refine kgX 2 ?_);(first|refine kS 2 H ?_|refine kB 2 H ?_)));clear H;intro b2 w H;try simp only[nr]at H)|((first|((with_reducible refine kgA 3 ?_);refine kA 3 H ?_)|((with_reducible refine kgX 3 ?_);(first|refine kS 3 H ?_|refine kB 3 H ?_)));clear H;intro b3 w H;try simp only[nr]at H)|(first|((with_reducible refine gL ?_);(first|refine aVn H ?_|refine aG H ?_))|((with_reducible refine gES ?_);refine qS ?_))|((with_reducible refine ch (hN _ (H.knlt (i:=0) .zero) (H.knlt (i:=1) i_1) (H.kn (i:=0) .zero) (H.kn (i:=1) i_1)) H ?_);clear H;intro w H))
 go_ret;exact⟨rfl,H.below⟩
theorem zIE (m:Nat) (IH:∀ (t:Tree) (p1 p2:Option Addr) (n c1 c2:Nat) (F1 F2:Nat→Prop) (w0:World),zBk t≤m→(∀ b,F1 b→b<w0.heap.size)→(∀ b,F2 b→b<w0.heap.size)→ForestR w0 F1 p1 c1 t.kids→ForestR w0 F2 p2 c2 t.kids→n=t.kids.length →
   Calls Tryz.prog 20 #[zAl t.d (.slice p1 n c1),zAl t.d (.slice p2 n c2)] w0 (Rt (.bool true) w0))
  (ts:List Tree) (p1 p2:Option Addr) (n c1 c2:Nat) (F1 F2:Nat→Prop) (w0:World) (hm:zA2 ts≤m) (hF1:∀ b,F1 b→b<w0.heap.size) (hF2:∀ b,F2 b→b<w0.heap.size) (h1:ForestR w0 F1 p1 c1 ts) (h2:ForestR w0 F2 p2 c2 ts) (hn:n=ts.length) :
  Calls Tryz.prog 45 #[.slice p1 n c1,.slice p2 n c2] w0 (Rt (.bool true) w0):=by
 obtain⟨xs,a1,a2,rfl⟩:=h1.open;obtain⟨ys,e1,e2,e3⟩:=h2.open;have hxy:ys.length=xs.length:=by have:=congrArg List.length e3;simpa using this.symm
 rw[List.length_map]at hn;rw[← hn]at a1;rw[hxy,← hn]at e1;have hK1:Knows F1 p1 n c1 xs w0:=⟨a1,a2⟩;have hK2:Knows F2 p2 n c2 ys w0:=⟨e1,e2⟩;clear h1 h2 a1 a2 e1 e2
 have H:=((Hold.start w0).know F1 (Knows F1 p1 n c1 xs) hF1 (fun i r h=>by simp at h) (fun V hV=>hK1.kept hV)).know F2 (Knows F2 p2 n c2 ys) hF2 (fun i r h b hb=>by
  match i,h with
  | 0,h=>cases h;cases hb) (fun V hV=>hK2.kept hV)
 simp only[List.nil_append,List.cons_append]at H;have hc1:=hK1.bound.2.1;have hc2:=hK1.bound.2.2;have hc3:=hK2.bound.2.1;have hc4:=hK2.bound.2.2;have hp1:=hK1.at;have hp2:=hK2.at;clear hK1 hK2;have HN:=Lib.hid (And.intro hn (And.intro hxy e3));clear hn hxy e3
 go_enter Tryz.func45,Tryz.ntmps45
 go_wp2_with (first|fail)
 go_loopw [5] (fun i wr=>∃ j:Nat,j≤n∧i=.int .i64 j∧Hold w0 wr [.kn F1 (Knows F1 p1 n c1 xs),.kn F2 (Knows F2 p2 n c2 ys)]) (fun i _=>n+1 - (intOf i).toNat)
 case atStart=>exact⟨0,by omega,rfl,H⟩
 case round =>
  clear H;obtain⟨j,hj,rfl,H⟩:=hrel
  by_cases hlt:j<n
  ·have dj:decide ((j:Int)<(n:Int))=true:=by simp;omega
   obtain⟨x,hx⟩:∃ x,xs[j]?=some x:=⟨_,List.getElem?_eq_getElem (by rw[← HN.out.1];exact hlt)⟩
   obtain⟨y,hy⟩:∃ y,ys[j]?=some y:=⟨_,List.getElem?_eq_getElem (by rw[HN.out.2.1,← HN.out.1];exact hlt)⟩
   have hxye:x.1=y.1:=by
    have h3:(xs.map (·.1))[j]?=(ys.map (·.1))[j]?:=by rw[HN.out.2.2]
    rw[List.getElem?_map,List.getElem?_map,hx,hy]at h3
    simpa using h3
   obtain⟨b,off,rfl⟩:=hp1 (by rw[← HN.out.1];omega)
   obtain⟨bb,off2,rfl⟩:=hp2 (by rw[HN.out.2.1,← HN.out.1];omega)
   have hs1:=zKq hx;have hm1:=List.mem_of_getElem? hx;have hm2:=List.mem_of_getElem? hy;have hcell:∀ V,Knows F1 (some ⟨b,off,none⟩) n c1 xs V→∀ k,k<10→V.cell? ⟨b,off+j * 10+k,none⟩=(zAn x)[k]?:=fun V h=>h.cells hx rfl
   have hcell2:∀ V,Knows F2 (some ⟨bb,off2,none⟩) n c2 ys V→∀ k,k<10→V.cell? ⟨bb,off2+j * 10+k,none⟩=(zAn y)[k]?:=fun V h=>h.cells hy rfl
   have ih:=fun w (hw:∀ b,F1 b→b<w.heap.size) (hw2:∀ b,F2 b→b<w.heap.size) (hk:Knows F1 (some ⟨b,off,none⟩) n c1 xs w) (hk2:Knows F2 (some ⟨bb,off2,none⟩) n c2 ys w)=>(show Calls Tryz.prog 20 #[.agg (zAn x),.agg (zAn y)] w (Rt (.bool true) w) by
    have h3:=IH x.1 x.2.1 y.2.1 _ x.2.2 y.2.2 F1 F2 w (by omega) hw hw2 (hk.2 x hm1) (by rw[hxye];exact hk2.2 y hm2) rfl
    unfold zAn;rw[← hxye]
    exact h3)
   clear IH hx hy hm1 hm2 hp1 hp2 hxye
   go_upto_region 6 with (first|fail)
   refine wr_ 10 [fun v _=>v=.slice (some ⟨b,off,none⟩) n c1,fun v _=>v=.int .i64 (j:Int),fun v _=>v=.pointer (some ⟨b,off+j * 10,none⟩),fun v _=>v=.agg (zAn x),fun v _=>v=.slice (some ⟨bb,off2,none⟩) n c2,fun v _=>v=.int .i64 (j:Int),fun v _=>v=.pointer (some ⟨bb,off2+j * 10,none⟩),fun v _=>v=.agg (zAn y),fun v _=>v=.bool true,fun v _=>v=.bool false] ?ob ?en
   case ob =>
    refine⟨?_,?_,?_,?_,?_,?_,?_,?_,?_,?_,trivial⟩<;>intro A W h
    ·exact zAL rfl rfl (h.f 0)
    ·exact zAL rfl rfl (h.f 5)
    ·exact zFi (sz:=10) Tryz.underlying28 (fun w=>by kernel_rfl) rfl rfl (h.d 0 17) (h.d 1 18) (by omega) (by omega)
    ·exact zAB rfl (zB0 rfl (h.d 2 19) zAX (zCT x) (hcell _ ((H.call h.below).kn (i:=0) .zero))) (by decide)
    ·exact zAL rfl rfl (h.f 1)
    ·exact zAL rfl rfl (h.f 5)
    ·exact zFi (sz:=10) Tryz.underlying28 (fun w=>by kernel_rfl) rfl rfl (h.d 4 21) (h.d 5 22) (by omega) (by omega)
    ·exact zAB rfl (zB0 rfl (h.d 6 23) zAX (zCT y) (hcell2 _ ((H.call h.below).kn (i:=1) i_1))) (by decide)
    ·exact zBB rfl rfl (enters_of Tryz.func20 (by kernel_rfl) rfl) (zE9 ⟨(h.d 3 20),(h.d 7 24)⟩) (ih W ((H.call h.below).knlt (i:=0) .zero) ((H.call h.below).knlt (i:=1) i_1) ((H.call h.below).kn (i:=0) .zero) ((H.call h.below).kn (i:=1) i_1))
    ·(have e25:A.eval (.tmp 25)=.bool true:=h.d 8 25;refine zAB rfl ?_;simp only[execOp,e25];(simp[go_sem]<;>first|done|omega|(rw[IntKind.wrap_i64];omega)|(rw[IntKind.wrap_u8];omega)|(rw[IntKind.wrap_u64];omega)))
   case en =>
    intro vals W hbw hv _;simp only[fa,Nat.reduceAdd];rw[e_ hv 0,e_ hv 1,e_ hv 2,e_ hv 3,e_ hv 4,e_ hv 5,e_ hv 6,e_ hv 7,e_ hv 8,e_ hv 9];clear hv
    try simp only[pl]
    replace H:=H.call hbw;clear hbw
    go_wp2_with (first|fail)
    go_roundw
    case rel=>exact⟨j+1,by omega,by go_num,H⟩
    case measure=>simp[intOf];omega
  ·have dj:decide ((j:Int)<(n:Int))=false:=by simp;omega
   obtain rfl:j=n:=by omega
   go_wp2_with (first|fail)
   go_ret;exact⟨rfl,H.below⟩
theorem zDl:∀ (m:Nat) (t:Tree) (p1 p2:Option Addr) (n c1 c2:Nat) (F1 F2:Nat→Prop) (w0:World),zBk t≤m→(∀ b,F1 b→b<w0.heap.size)→(∀ b,F2 b→b<w0.heap.size)→ForestR w0 F1 p1 c1 t.kids→ForestR w0 F2 p2 c2 t.kids→n=t.kids.length →
  Calls Tryz.prog 20 #[zAl t.d (.slice p1 n c1),zAl t.d (.slice p2 n c2)] w0 (Rt (.bool true) w0)
 | 0,t,_,_,_,_,_,_,_,_,hm,_,_,_,_,_=>by have:=zFf t;omega
 | m+1,t,p1,p2,n,c1,c2,F1,F2,w0,hm,hF1,hF2,h1,h2,hn =>
  zMj t p1 p2 n c1 c2 F1 F2 w0 hF1 hF2 h1 h2 hn fun w g1 g2 k1 k2=>zIE m (zDl m) t.kids p1 p2 n c1 c2 F1 F2 w (by have:=zGZ t;omega) g1 g2 k1 k2 hn


end
section
open Go.RowKit Go.Shelf

end
section
open Go.RowKit Go.Shelf
attribute [local go_sem] Oper.semAt_some
section
variable {M:Nat→Prop} {P:Program} {f:FuncId} {args:Array Value} {w w0:World} {l:List Res} {R:Ending→World→Prop}
theorem zPm {t:Tree} {g:Nat} (c:Calls P f args w fun e w'=>ParseOut w (.ok (t,g)) e w'∧Below w.heap.size w w') (H:HoldG M w0 w l)
  (k:∀ p n F w',(∀ b,F b→w0.heap.size≤b)→HoldG M w0 w' (l++[.kn F (fun V=>ForestR V F p n t.kids)])→R (.returned (.tuple #[zAl t.d (.slice p t.kids.length n),.int .i64 g,.int .i64 0,.int .i64 0])) w'):Calls P f args w R:=c.mono fun _ w' h=>by
 obtain⟨⟨p,n,F,rfl,hs,hF⟩,hb⟩:=h;exact k p n F w' (fun b h=>Nat.le_trans H.keep.size (hF b h).2) (H.learn hb Still.none (fun b h=>⟨(hF b h).1,.inl (hF b h).2⟩) (fun V hV=>hs.kept hV))
theorem zPB {a x:Nat} (c:Calls P f args w fun e w'=>ParseOut w (.error (a,x)) e w'∧Below w.heap.size w w') (H:HoldG M w0 w l)
  (k:∀ w',HoldG M w0 w' l→R (.returned (.tuple #[zAl {kind:=0} nilS,.int .i64 0,.int .i64 a,.int .i64 x])) w'):Calls P f args w R:=c.mono fun _ w' h=>by
 obtain⟨rfl,hb⟩:=h;exact k w' (H.call hb)
end
theorem zQn (k:Int) (p:Option Addr) (n c:Nat) (w0:World):Calls Tryz.prog 24 #[.int .i64 k,.slice p n c] w0 (Rt (zAl {kind:=k} (.slice p n c)) w0):=by
 have H:=Hold.start w0
 go_enter Tryz.func24,Tryz.ntmps24
 go_wp2_with (first|(first|((with_reducible refine gT ?_);(refine aT H ?_;clear H;intro w H;try simp only[nr]at H))|((with_reducible refine gA ?_);(refine bA H ?_;clear H;intro b w H;try simp only[nr]at H))|((with_reducible refine gZ ?_);refine nbK ?_)))
 (refine xc Tryz.results24 H ?_)
 exact⟨rfl,H.below⟩
theorem zEs (x:Nat) (hb:x<256) (w0:World):Calls Tryz.prog 23 #[.int .u8 x] w0 (Rt (zAl {kind:=3,set:=ofS [(x:Int)]} nilS) w0):=by
 have H:=Hold.start w0;have hof:=fun v w h=>of_1 x hb v w h
 clear hb
 go_enter Tryz.func23,Tryz.ntmps23
 go_wp2_with (first|((with_reducible refine gBS ?_);refine zAU wtd_ _ _ _ rfl H (#[.int .u8 (x:Int)]) 5 (by intro W;simp only[ml];(try simp only[pe]);(try unfold setV);simp[go_sem]<;>rfl) ?_;clear H;intro b w H;try simp only[nr]at H)|(go_at_call 32;(with_reducible refine ch (hof _ _ (H.rdn (cs:=[.int .u8 (x:Int)]) atd_ (by simp) (by simp[maxLen]))) H ?_);clear H;intro w H)|(first|((with_reducible refine gT ?_);(refine aT H ?_;clear H;intro w H;try simp only[nr]at H))|((with_reducible refine gA ?_);(refine bA H ?_;clear H;intro b w H;try simp only[nr]at H))|((with_reducible refine gZ ?_);refine nbS ?_)))
 (refine xc Tryz.results23 H ?_)
 exact⟨rfl,H.below⟩
def exL:Str:=[97,124,40,98,42,41,99]
def zFO (b:Int):NodeD:={kind:=3,set:=ofS [b]}
def zQp:NodeD:={kind:=6,hi := -1}
def grpD:NodeD:={kind:=7,group:=1}
def zKj:Tree:=.mk zQp [.mk (zFO 98) []]
def zQM:Tree:=.mk grpD [zKj]
def zP6:Tree:=.mk {kind:=4} [zQM,.mk (zFO 99) []]
def exWant:Tree:=.mk {kind:=5} [.mk (zFO 97) [],zP6]
theorem zN6:zBv exL (false,false,false)=.ok (exWant,1):=by kernel_rfl
theorem zRS (w0:World):Calls Tryz.prog 23 #[.int .u8 97] w0 (Rt (zAl (zFO 97) nilS) w0):=zEs 97 (by decide) w0
theorem zRG (w0:World):Calls Tryz.prog 23 #[.int .u8 98] w0 (Rt (zAl (zFO 98) nilS) w0):=zEs 98 (by decide) w0
theorem zRL (w0:World):Calls Tryz.prog 23 #[.int .u8 99] w0 (Rt (zAl (zFO 99) nilS) w0):=zEs 99 (by decide) w0
theorem zPw (W:World):(Instr.build 23 #[]).run Tryz.prog W=.ok (zBq (false,false,false)) W:=by kernel_rfl
theorem zQH (k hi:Int) (p:Option Addr) (n c:Nat) (W:World):(Instr.build 30 #[(0,.int .i64 k),(4,.int .i64 hi),(2,.slice p n c)]).run Tryz.prog W=.ok (zAl {kind:=k,hi:=hi} (.slice p n c)) W:=by simp[go_sem];rfl
theorem zPa (k g:Int) (p:Option Addr) (n c:Nat) (W:World):(Instr.build 30 #[(0,.int .i64 k),(6,.int .i64 g),(2,.slice p n c)]).run Tryz.prog W=.ok (zAl {kind:=k,group:=g} (.slice p n c)) W:=by simp[go_sem];rfl
section
variable {M:Nat→Prop} {ops:Array Oper} {dst:Option Tmp} {ty:TypeId} {pos:String} {aft:Array Edge} {grd:Option (Nat × Bool)} {rest:List Oper} {a:Act} {w w0:World} {l:List Res} {Q:Exit→Act→World→Prop} {o:Oper} {D:Prop} {A:Nat→Option Obj→Prop}
theorem fb0 (h:wpList Tryz.prog ops Q rest (a.put dst (zBq (false,false,false))) w) (hg:Region.wanted (⟨dst,.build 23 #[],ty,pos,aft,grd⟩:Oper) (yielded ops a.tmps)=true:=by first|rfl|exact zAm rfl (zAO rfl (by first|rfl|(simp only[pe];rfl)))):wpList Tryz.prog ops Q ((⟨dst,.build 23 #[],ty,pos,aft,grd⟩:Oper)::rest) a w :=
 zAi hg (by simp only[execOp,List.map_toArray,List.map_nil,Sem.run_bind,zPw];rfl) h
theorem nbH {x y z:Operand} {k hi:Int} {p:Option Addr} {n c:Nat} (h:wpList Tryz.prog ops Q rest (a.put dst (zAl {kind:=k,hi:=hi} (.slice p n c))) w) (hg:Region.wanted (⟨dst,.build 30 #[(0,x),(4,y),(2,z)],ty,pos,aft,grd⟩:Oper) (yielded ops a.tmps)=true:=by first|rfl|exact zAm rfl (zAO rfl (by first|rfl|(simp only[pe];rfl)))) (h0:a.eval x=.int .i64 k:=by first|(simp only[pe];done)|(simp only[pe];rfl)) (h1:a.eval y=.int .i64 hi:=by first|(simp only[pe];done)|(simp only[pe];rfl)) (h2:a.eval z=.slice p n c:=by first|(simp only[pe];done)|(simp only[pe];rfl)):wpList Tryz.prog ops Q ((⟨dst,.build 30 #[(0,x),(4,y),(2,z)],ty,pos,aft,grd⟩:Oper)::rest) a w :=
 zAi hg (by simp only[execOp,List.map_toArray,List.map_cons,List.map_nil,h0,h1,h2,Sem.run_bind,zQH];rfl) h
theorem zQZ {x y z:Operand} {k g:Int} {ts:List Tree} (hg:Region.wanted o (yielded ops a.tmps)=true) (hop:o.op=.build 30 #[(0,x),(6,y),(2,z)]) (h0:a.eval x=.int .i64 k) (h1:a.eval y=.int .i64 g) (h2:KW A ts (a.eval z) w) (hD:¬ D:=by decide):zBY Tryz.prog ops o a w (fun v w'=>NW A (.mk {kind:=k,group:=g} ts) v w'∧(D→w.heap.size≤blk v)):=by
 obtain⟨p,c,F,e,h⟩:=h2;refine zMQ hg (v:=zAl {kind:=k,group:=g} (.slice p ts.length c)) ?_ ⟨p,c,F,rfl,h⟩ hD;simp only[execOp,hop,List.map_toArray,List.map_cons,List.map_nil,h0,h1,e,Sem.run_bind,zPa];rfl
theorem zQl {x y:Operand} {ts2:Array TypeId} {k:Int} {ts:List Tree} (hg:Region.wanted o (yielded ops a.tmps)=true) (hop:o.op=.call {callee:=Callee.value (Operand.func 24),args:=#[x,y],argTypes:=ts2}) (h0:a.eval x=.int .i64 k) (h2:KW A ts (a.eval y) w) (hD:¬ D:=by decide):zBY Tryz.prog ops o a w (fun v w'=>NW A (.mk {kind:=k} ts) v w'∧(D→w.heap.size≤blk v)):=by
 obtain⟨p,c,F,e,h,hF⟩:=h2;exact zEg hg hop (enters_of Tryz.func24 (by kernel_rfl) rfl) (zE9 ⟨h0,e⟩) ((zQn k p ts.length c w).mono fun _ w' ⟨he,hb⟩=>⟨_,he,hb,NW.below (w:=w) ⟨p,c,F,rfl,h,hF⟩ hb,fun h=>(hD h).elim⟩)
end
def AW (n0 bk:Nat) (b:Nat) (c:Option Obj):Prop:=(n0≤b∨b=bk)∧c≠some (.cells (zAR {kind:=0} nilS) 30 (0,0))
theorem zQS {n0 bk:Nat} {w:World} {d:NodeD} (h:n0≤w.heap.size) (hk:d.kind≠0):∀ cs:Array Value,(∃ s,cs=zAR d s)→AW n0 bk w.heap.size (some (.cells cs 30 (0,0))):=by
 rintro _ ⟨s,rfl⟩;refine⟨.inl h,fun e=>hk ?_⟩
 simp only[Option.some.injEq,Obj.cells.injEq,and_true]at e;have:=congrArg (fun a=>a[0]?) e
 simpa [zAR] using this
theorem zPA {n0 bk:Nat} {w:World} (h:n0≤w.heap.size):∀ cs:Array Value,cs.size=20→AW n0 bk w.heap.size (some (.cells cs 30 (0,0))):=by
 intro cs hs;refine⟨.inl h,fun e=>?_⟩
 simp only[Option.some.injEq,Obj.cells.injEq,and_true]at e;rw[e]at hs;simp[zAR]at hs
theorem zNL (w0:World) (hz:MaxL w0):Calls Tryz.prog 8 #[] w0 (Rt (.bool true) w0):=by
 have H:=Hold.start w0;have hp:Calls Tryz.prog 5 #[.string ⟨#[97,124,40,98,42,41,99]⟩,zBq (false,false,false)] w0 fun e w'=>ParseOut w0 (.ok (exWant,1)) e w'∧Below w0.heap.size w0 w':=by
  have h:=zKH exL (false,false,false) w0 hz;rw[zN6]at h;exact h
 clear hz;have hsm:=fun p c F p2 c2 F2 w (hF1:∀ b,F b→b<w.heap.size) (hF2:∀ b,F2 b→b<w.heap.size) (h1:ForestR w F p c exWant.kids) (h2:ForestR w F2 p2 c2 exWant.kids)=>zDl 1000 exWant p p2 _ c c2 F F2 w (by decide) hF1 hF2 h1 h2 rfl
 obtain⟨tw,htw⟩:∃ tw,exWant=tw:=⟨_,rfl⟩;rw[htw]at hp hsm
 go_enter Tryz.func8,Tryz.ntmps8
 go_upto_region 3 with (first|((with_reducible refine gZ ?_);refine fb0 ?_)|((with_reducible refine gZ ?_);refine nbH ?_)|(go_at_call 5;(with_reducible refine zPm hp H ?_);clear H;intro q n F1 w hF1 H;simp only[ca]at H)|((with_reducible refine ch (zRG _) H ?_);clear H;intro w H)|((with_reducible refine gBS ?_);refine zAU wtd_ _ _ _ rfl H (zAR (zFO 98) (nilS)) 30 (by intro W;simp only[ml];(try simp only[pe]);exact zCQ _ _ W) ?_;clear H;intro bk w H;try simp only[nr]at H)|((first|((with_reducible refine kgA 1 ?_);refine kA 1 H ?_)|((with_reducible refine kgX 1 ?_);(first|refine kS 1 H ?_|refine kB 1 H ?_)));clear H;intro b1 w H;try simp only[nr]at H)|((first|((with_reducible refine kgA 5 ?_);refine kA 5 H ?_)|((with_reducible refine kgX 5 ?_);(first|refine kS 5 H ?_|refine kB 5 H ?_)));clear H;intro b5 w H;try simp only[nr]at H)|((with_reducible refine gT ?_);(refine aT H ?_;clear H;intro w H;try simp only[nr]at H)))
 have hz1:=H.apart 1 2 _ _ (by decide) rfl rfl b1 rfl
 have hz5:=H.apart 3 2 _ _ (by decide) rfl rfl b5 rfl
 have hkb:=(H.blk (i:=2) i_2).2;have hst:NW (AW w.heap.size bk) zKj (zAl zQp (.slice (some ⟨bk,0,none⟩) 1 1)) w:=by
  refine⟨_,1,fun b=>b=bk∨False,rfl,zFX (xs:=[(.mk (zFO 98) [],none,0)]) hkb rfl (by decide) (F:=fun _=>False) ?_,fun b hb=>?_⟩
  ·exact ListR.one (ForestR.nil ..)
  ·obtain rfl:b=bk:=hb.elim id False.elim;rw[hkb];refine⟨(Array.getElem?_eq_some_iff.1 hkb).1,.inr rfl,fun e=>?_⟩
   simp only[Option.some.injEq,Obj.cells.injEq,and_true]at e;have:=congrArg (fun a=>a[0]?) e
   simp[zAR,zFO]at this
 have H1:=H.pick [0,1,3] [_,_,_] (by decide) rfl
 clear H;have H:=H1;clear H1 hkb;have hl1:b1<w.heap.size:=(Array.getElem?_eq_some_iff.1 (H.blk (i:=1) i_1).2).1;have hl5:b5<w.heap.size:=(Array.getElem?_eq_some_iff.1 (H.blk (i:=2) i_2).2).1;refine zBd 10 [fun v _=>v=zAl (zFO 97) nilS,fun v W=>NW (AW w.heap.size bk) zKj v W,fun v W=>KW (AW w.heap.size bk) [zKj] v W,fun v W=>NW (AW w.heap.size bk) zQM v W,fun v _=>v=zAl (zFO 99) nilS,fun v W=>KW (AW w.heap.size bk) [zQM,.mk (zFO 99) []] v W,fun v W=>NW (AW w.heap.size bk) zP6 v W,fun v W=>KW (AW w.heap.size bk) [.mk (zFO 97) [],zP6] v W,fun v W=>NW (AW w.heap.size bk) exWant v W,zIg w.heap.size (zAR {kind:=0} nilS) 30] (fun _=>false) (by kernel_rfl) (by kernel_rfl) (by kernel_rfl) (by repeat (first|exact trivial|refine⟨zBN _,?_⟩|refine⟨zMS _,?_⟩|refine⟨zNJ _,?_⟩|refine⟨zGO _ _ _,?_⟩)) (fun _ _ h=>by cases h) ?ob ?en
 case ob =>
  refine⟨?_,?_,?_,?_,?_,?_,?_,?_,?_,?_,trivial⟩<;>intro A W h
  ·exact zBB rfl rfl (enters_of Tryz.func23 (by kernel_rfl) rfl) (zBt rfl) (zRS W)
  ·exact zMn rfl rfl (h.f 5) ((H.call h.below).blk (i:=2) i_2).2 (hst.below h.below)
  ·exact zOm rfl rfl (h.d 1 18) (zQS h.below.size (by decide))
  ·exact zQZ rfl rfl rfl rfl (h.d 2 19)
  ·exact zBB rfl rfl (enters_of Tryz.func23 (by kernel_rfl) rfl) (zBt rfl) (zRL W)
  ·exact zKT rfl rfl (h.d 3 20) (by rw[show A.eval (.tmp 21)=zAl (zFO 99) nilS from h.d 4 21];exact NW.leaf _ _) (zPA h.below.size)
  ·exact zQl rfl rfl rfl (h.d 5 22)
  ·exact zKT rfl rfl (by rw[show A.eval (.tmp 17)=zAl (zFO 97) nilS from h.d 0 17];exact NW.leaf _ _) (h.d 6 23) (zPA h.below.size)
  ·exact zQl rfl rfl rfl (h.d 7 24)
  ·exact zKl rfl rfl (by kernel_rfl) zQd h.below.size (by decide)
 case en =>
  intro vals W hbw hv _;have x1:=hv 1 (by omega);simp only[zAu]at x1
  have x2:=hv 2 (by omega);simp only[zAu]at x2
  have x3:=hv 3 (by omega);simp only[zAu]at x3
  have x5:=hv 5 (by omega);simp only[zAu]at x5
  have x6:=hv 6 (by omega);simp only[zAu]at x6
  have x7:=hv 7 (by omega);simp only[zAu]at x7
  have x8:=hv 8 (by omega);simp only[zAu]at x8
  have x9:=hv 9 (by omega);simp only[zAu]at x9
  simp only[fa,Nat.reduceAdd];rw[e_ hv 0,e_ hv 4];clear hv
  try simp only[pl]
  obtain⟨b6,e6,H6⟩:=H.gainB hbw x9;obtain⟨q8,c8,F8,e8,hf8,hF8⟩:=x8;rw[e6,e8]
  have H:=H6.know F8 (fun V=>ForestR V F8 q8 c8 exWant.kids) (fun b h=>(hF8 b h).1) (fun i r hi b hb hf=>by
   have hA:=(hF8 b hf).2
   match i,hi with
   | 0,hi=>cases hi;cases hb
   | 1,hi=>cases hi;cases hb;exact hA.1.elim (fun h=>absurd hl1 (Nat.not_lt.2 h)) (fun e=>hz1 (by subst e;rfl))
   | 2,hi=>cases hi;cases hb;exact hA.1.elim (fun h=>absurd hl5 (Nat.not_lt.2 h)) (fun e=>hz5 (by subst e;rfl))
   | 3,hi=>cases hi;cases hb;exact hA.2 (H6.blk (i:=3) i_3).2) (fun V hV=>hf8.kept hV)
  clear H6 x1 x2 x3 x5 x6 x7 x9 e6 e8 hf8 hF8 hst hz1 hz5 hl1 hl5 hbw;rw[htw]at H ⊢;simp only[ca]at H
  go_wp2_with (first|((with_reducible refine ch (hsm _ _ _ _ _ _ _ (H.knlt (i:=0) .zero) (H.knlt (i:=4) i_4) (H.kn (i:=0) .zero) (H.kn (i:=4) i_4)) H ?_);clear H;intro w H)|(first|((with_reducible refine gT ?_);(refine aT H ?_;clear H;intro w H;try simp only[nr]at H))|((with_reducible refine gL ?_);refine aD H ?_)))
  go_ret;exact⟨rfl,H.below⟩
theorem zJZ {L:Str} {f:zAP} {t:Tree} {g:Nat} (h:zBv L f=.ok (t,g)):zBk t≤2000:=by
 unfold zBv at h;split at h
 ·cases h
 split at h
 ·cases h
 split at h
 ·cases h
 split at h
 ·cases h
 split at h
 ·cases h
 simp only[Except.ok.injEq,Prod.mk.injEq]at h;obtain⟨rfl,_⟩:=h;omega
theorem zLp (w0:World):Calls Tryz.prog 20 #[zAl {kind:=0} nilS,zAl {kind:=0} nilS] w0 (Rt (.bool true) w0) :=
 zDl 1 (zDv 0) none none 0 0 0 (fun _=>False) (fun _=>False) w0 (by decide) (fun _ h=>h.elim) (fun _ h=>h.elim) (ForestR.nil ..) (ForestR.nil ..) rfl
theorem zJR (L:Str) (f:zAP) (w0:World) (hz:MaxL w0):Calls Tryz.prog 6 #[.string ⟨L.toArray⟩,zBq f] w0 (Rt (.bool true) w0):=by
 have H:=Hold.start w0;have HZ:=Lib.hid hz;clear hz;have hp:=fun w (hb:Below w0.heap.size w0 w)=>zKH L f w (HZ.out.below hb)
 have hr:=fun w=>zNW L f w
 cases hpr:zBv L f with
 | error y =>
  obtain⟨a,x⟩:=y;rw[hpr]at hp hr;have d1:((x:Int) == x)=true:=beq_self_eq_true _;have d2:((a:Int) == a)=true:=beq_self_eq_true _;clear hpr
  go_enter Tryz.func6,Tryz.ntmps6
  go_wp2_with (first|(go_at_call 5;refine zPB (hp _ H.below) H ?_;clear H;intro w H)|(go_at_call 19;refine zPB (hr _) H ?_;clear H;intro w H)|((with_reducible refine ch (zLp _) H ?_);clear H;intro w H)|((first|((with_reducible refine kgA 3 ?_);refine kA 3 H ?_)|((with_reducible refine kgX 3 ?_);(first|refine kS 3 H ?_|refine kB 3 H ?_)));clear H;intro b3 w H;try simp only[nr]at H)|((first|((with_reducible refine kgA 5 ?_);refine kA 5 H ?_)|((with_reducible refine kgX 5 ?_);(first|refine kS 5 H ?_|refine kB 5 H ?_)));clear H;intro b5 w H;try simp only[nr]at H)|((first|((with_reducible refine kgA 9 ?_);refine kA 9 H ?_)|((with_reducible refine kgX 9 ?_);(first|refine kS 9 H ?_|refine kB 9 H ?_)));clear H;intro b9 w H;try simp only[nr]at H)|(first|((with_reducible refine gT ?_);(refine aT H ?_;clear H;intro w H;try simp only[nr]at H))|((with_reducible refine gL ?_);refine aD H ?_)))
  go_ret;exact⟨rfl,H.below⟩
 | ok y =>
  obtain⟨t,g⟩:=y;rw[hpr]at hp hr;have hs:=zJZ hpr;have d1:((g:Int) == g)=true:=beq_self_eq_true _;have hsm:=fun p1 c1 F1 p2 c2 F2 w (h1:∀ b,F1 b→b<w.heap.size) (h2:∀ b,F2 b→b<w.heap.size) (h3:ForestR w F1 p1 c1 t.kids) (h4:ForestR w F2 p2 c2 t.kids)=>zDl 2000 t p1 p2 _ c1 c2 F1 F2 w hs h1 h2 h3 h4 rfl
  clear hpr hs
  go_enter Tryz.func6,Tryz.ntmps6
  go_wp2_with (first|(go_at_call 5;refine zPm (hp _ H.below) H ?_;clear H;intro q n F1 w hF1 H;simp only[ca]at H)|(go_at_call 19;refine zPm (hr _) H ?_;clear H;intro q2 n2 F2 w hF2 H;simp only[ca]at H)|((with_reducible refine ch (hsm _ _ _ _ _ _ _ (H.knlt (i:=1) i_1) (H.knlt (i:=3) i_3) (H.kn (i:=1) i_1) (H.kn (i:=3) i_3)) H ?_);clear H;intro w H)|((first|((with_reducible refine kgA 3 ?_);refine kA 3 H ?_)|((with_reducible refine kgX 3 ?_);(first|refine kS 3 H ?_|refine kB 3 H ?_)));clear H;intro b3 w H;try simp only[nr]at H)|((first|((with_reducible refine kgA 5 ?_);refine kA 5 H ?_)|((with_reducible refine kgX 5 ?_);(first|refine kS 5 H ?_|refine kB 5 H ?_)));clear H;intro b5 w H;try simp only[nr]at H)|((first|((with_reducible refine kgA 9 ?_);refine kA 9 H ?_)|((with_reducible refine kgX 9 ?_);(first|refine kS 9 H ?_|refine kB 9 H ?_)));clear H;intro b9 w H;try simp only[nr]at H)|(first|((with_reducible refine gT ?_);(refine aT H ?_;clear H;intro w H;try simp only[nr]at H))|((with_reducible refine gL ?_);refine aD H ?_)))
  go_ret;exact⟨rfl,H.below⟩
end
end Go.Proofs.YtklcgfkdemifcaaGreatDoor
