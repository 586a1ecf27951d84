/-
  Laws of walks, and walks.
-/
import Derived.Test.YtalggmbdpmdcbaaGreatPf8
import Derived.Test.YtalggmbdpmdcbaaGreatPf7
import Derived.LoopIn
import Derived.Test.YtalggmbdpmdcbaaGreatPf2
import Derived.Laws.CopyOwn
import Derived.Test.YtalggmbdpmdcbaaGreatPf5
import Derived.Test.YtalggmbdpmdcbaaGreatPf6
import Derived.Test.YtalggmbdpmdcbaaGreatPf1
set_option linter.unusedVariables false
set_option linter.unusedSimpArgs false
set_option maxRecDepth 100000
set_option maxHeartbeats 16000000
namespace Go.Proofs.YtalggmbdpmdcbaaGreat
section
open Go.RowKit
section
variable {P:Program} {ops:Array Oper} {Q:Exit->Act->World->Prop} {fuel:Nat} {listed:Array Bool} {a:Act} {w:World}
def anyK (P:Program) (ops:Array Oper) (Q:Exit->Act->World->Prop) (fuel:Nat) (listed:Array Bool):Exit->Act->World->Prop
 | .normal,a,w=>wpAny P .any ops Q fuel listed a w
 | .exit id,a,w=>Q (.exit id) a w
 | .goto l,a,w=>Q (.goto l) a w
 | .ret,a,w=>Q .ret a w
 | .panic c,a,w=>Q (.panic c) a w
 | .outgrown,a,w=>Q .outgrown a w
theorem zJs {o:Oper} {K:Act->World->Prop} {Q':Exit->Act->World->Prop} (h:o.wp P a w K Q') (h1:∀ c a w,Q' (.panic c) a w->Q (.panic c) a w) (h2:LetsOut Q'->LetsOut Q):o.wp P a w K Q:=by
 unfold Oper.wp at *
 generalize (execOp a.eval o).run P w=r at *
 cases r with
 | ok n w' =>
  cases n<;>simp only[Oper.upon]at h ⊢ <;>
   first
    | exact h
    | exact Calls.mono h (fun e w'' he=>by
      cases e with
      | returned v=>exact he
      | panicked c=>exact h1 _ _ _ he
      | outgrown=>exact h2 he)
    | exact h.elim
 | halt x w'=>cases x<;>simp only[Oper.upon]at h ⊢<;>first|exact h1 _ _ _ h|exact h|exact h.elim
theorem zGr {i:Nat} {o:Oper} (ho:ops[i]?=some o) (h:wpList P ops (anyK P ops Q fuel (listed.setIfInBounds i true)) [o] a w):wpOp P ops Q i (wpAny P .any ops Q fuel (listed.setIfInBounds i true)) a w:=by
 unfold wpOp;simp only[ho];unfold wpList at h;split at h
 ·rename_i hw;rw[if_pos hw];rcases h with h|⟨h1,h2⟩
  ·refine .inl ?_
   have key:∀ (a':Act) (w':World),wpList P ops (anyK P ops Q fuel (listed.setIfInBounds i true)) [] a' w'->wpAny P .any ops Q fuel (listed.setIfInBounds i true) a' w':=fun a' w' h'=>by
    unfold wpList at h';exact h'
   have h2:=Oper.wp_mono key h;exact zJs h2 (fun c a' w' h'=>h') (fun ⟨a1,w1,h'⟩=>⟨a1,w1,h'⟩)
  ·exact .inr ⟨h1,by
    obtain⟨a1,w1,h2⟩:=h2
    exact⟨a1,w1,h2⟩⟩
 ·rename_i hw;rw[if_neg hw];unfold wpList at h;exact h
theorem zQF (i:Nat) {o:Oper} (hr:Region.ready .any ops listed=[i]) (ho:ops[i]?=some o) (h:wpList P ops (anyK P ops Q fuel (listed.setIfInBounds i true)) [o] a w):wpAny P .any ops Q (fuel+1) listed a w :=
 ⟨fun e=>(by rw[hr]at e;cases e),fun k hk=>by
  rw[hr]at hk;obtain rfl:k=i:=by simpa using hk
  exact zGr ho h⟩
theorem zQO (i j:Nat) {o p:Oper} (hr:Region.ready .any ops listed=[i,j]) (ho:ops[i]?=some o) (hp:ops[j]?=some p) (h:wpList P ops (anyK P ops Q fuel (listed.setIfInBounds i true)) [o] a w) (h2:wpList P ops (anyK P ops Q fuel (listed.setIfInBounds j true)) [p] a w):wpAny P .any ops Q (fuel+1) listed a w :=
 ⟨fun e=>(by rw[hr]at e;cases e),fun k hk=>by
  rw[hr]at hk;simp only[List.mem_cons,List.not_mem_nil,or_false]at hk;rcases hk with rfl|rfl
  ·exact zGr ho h
  ·exact zGr hp h2⟩
theorem zQI (i j m:Nat) {o p q:Oper} (hr:Region.ready .any ops listed=[i,j,m]) (ho:ops[i]?=some o) (hp:ops[j]?=some p) (hq:ops[m]?=some q) (h:wpList P ops (anyK P ops Q fuel (listed.setIfInBounds i true)) [o] a w) (h2:wpList P ops (anyK P ops Q fuel (listed.setIfInBounds j true)) [p] a w) (h3:wpList P ops (anyK P ops Q fuel (listed.setIfInBounds m true)) [q] a w):wpAny P .any ops Q (fuel+1) listed a w :=
 ⟨fun e=>(by rw[hr]at e;cases e),fun k hk=>by
  rw[hr]at hk;simp only[List.mem_cons,List.not_mem_nil,or_false]at hk;rcases hk with rfl|rfl|rfl
  ·exact zGr ho h
  ·exact zGr hp h2
  ·exact zGr hq h3⟩
theorem zI7 (hr:Region.ready .any ops listed=[]) (h:Q .normal a w):wpAny P .any ops Q fuel listed a w:=by
 cases fuel with
 | zero=>exact⟨hr,h⟩
 | succ n=>exact⟨fun _=>h,fun k hk=>by rw[hr]at hk;cases hk⟩
end
def CellsAt (W:World) (b:Nat):Prop:=∃ o,W.heap[b]?=some o/\o.isCells=true
def zA5:Res->Bool|.kn _ _=>false|.mp _ _ _=>false|_=>true
section
variable {M:Nat->Prop} {w0 w w' W W':World} {l l1 l2 R:List Res}
theorem HoldG.perms (H:HoldG M w0 w l) (p:l.Perm l2):HoldG M w0 w l2:=by
 have hp:l.Pairwise (fun r s=>zMh r s/\zMh s r):=by
  rw[List.pairwise_iff_getElem];intro i j hi hj hij;exact⟨H.apart i j _ _ (by omega) (List.getElem?_eq_getElem hi) (List.getElem?_eq_getElem hj),H.apart j i _ _ (by omega) (List.getElem?_eq_getElem hj) (List.getElem?_eq_getElem hi)⟩
 have hp2:=hp.perm p (fun h=>⟨h.2,h.1⟩)
 rw[List.pairwise_iff_getElem]at hp2;refine⟨H.keep,fun i r h=>?_,fun i j r s hij hr hs=>?_⟩
 ·obtain⟨k,hk⟩:=List.getElem?_of_mem (p.symm.subset (List.mem_of_getElem? h));exact H.all k r hk
 ·obtain⟨h1,rfl⟩:=List.getElem?_eq_some_iff.1 hr;obtain⟨h2,rfl⟩:=List.getElem?_eq_some_iff.1 hs;rcases Nat.lt_or_ge i j with h|h
  ·exact(hp2 i j h1 h2 h).1
  ·exact(hp2 j i h2 h1 (by omega)).2
theorem HoldG.left (H:HoldG M w0 w (l1++R)):HoldG M w0 w l1 :=
 ⟨H.keep,fun i r h=>H.all i r (by rw[List.getElem?_append_left (List.getElem?_eq_some_iff.1 h).1];exact h),fun i j r s hij hr hs=>H.apart i j r s hij (by rw[List.getElem?_append_left (List.getElem?_eq_some_iff.1 hr).1];exact hr) (by rw[List.getElem?_append_left (List.getElem?_eq_some_iff.1 hs).1];exact hs)⟩
theorem HoldG.placeCells (H:HoldG M w0 W l) (hl:l.all zA5=true) {r:Res} (hr:r ∈ l) {b:Nat} (hb:r.place=some b):CellsAt W b:=by
 obtain⟨i,hi⟩:=List.getElem?_of_mem hr;have hA:=H.all i r hi;have hc:=List.all_eq_true.1 hl r hr
 cases r with
 | blk b' cs T=>cases hb;exact⟨_,hA.2,rfl⟩
 | row v e sz n xs =>
  obtain⟨_,⟨hv,_⟩|⟨g,cap,cur,rfl,_,hg',_⟩⟩:=hA
  ·have h2:v.ownBlock=some b:=hb;rw[hv]at h2;cases h2
  ·have:g=b:=by simpa [Res.place,Value.ownBlock] using hb
   subst this;exact⟨_,hg',rfl⟩
 | mp b' es c=>cases hc
 | kn F S=>cases hc
theorem HoldG.footCells (H:HoldG M w0 W l) (hl:l.all zA5=true) {i:Nat} {r:Res} (hi:l[i]?=some r) {b:Nat} (hb:r.foot b):CellsAt W b:=by
 have hr:=List.mem_of_getElem? hi
 cases r with
 | kn F S=>exact absurd (List.all_eq_true.1 hl _ hr) (by simp[zA5])
 | blk b' cs T=>exact H.placeCells hl hr (b:=b) (by cases hb;rfl)
 | row v e sz n xs=>exact H.placeCells hl hr (b:=b) hb
 | mp b' es c=>exact absurd (List.all_eq_true.1 hl _ hr) (by simp[zA5])
theorem CellsAt.grown {B:Nat} {row:Option Nat} {b:Nat} (h:CellsAt W b) (hg:W.grownBy W' row) (hr:∀ r,row=some r->B<=r/\∃ o:Obj,W.heap[r]?=some o/\o.isCells=false):W'.heap[b]?=W.heap[b]?:=by
 obtain⟨o,h1,h2⟩:=h;refine hg.block b (Array.getElem?_eq_some_iff.1 h1).1 (fun e=>?_)
 obtain⟨_,o',h3,h4⟩:=hr b e.symm;rw[h1]at h3;cases h3;rw[h2]at h4;cases h4
theorem HoldG.stayC (H:HoldG M w0 W l) (hl:l.all zA5=true) {B:Nat} (hB:w0.heap.size<=B) {row:Option Nat} (hg:W.grownBy W' row) (hr:∀ r,row=some r->B<=r/\∃ o:Obj,W.heap[r]?=some o/\o.isCells=false):HoldG M w0 W' l :=
 ⟨H.keep.trans ⟨hg.os,hg.tape,hg.output,hg.size,fun k h1 h2=>hg.block k (Nat.lt_of_lt_of_le h1 H.keep.size) (fun e=>by have:=(hr k e.symm).1;omega)⟩,fun i s hs=>(H.all i s hs).kept (fun b hb=>(H.footCells hl hs hb).grown hg hr) hg.size,H.apart⟩
theorem Stay.plain (hl:l.all zA5=true) {B:Nat} (hB:w0.heap.size<=B):Stay B (fun W=>HoldG M w0 W l):=fun W W' row H hg hr=>H.stayC hl hB hg hr
theorem KeepsNC.of_plain (B:Nat) (H:HoldG M w0 W l) (hl:l.all zA5=true) (h:zCl W l W'):KeepsNC B W W':=fun k o _ hk ho=>by
 refine(h k ⟨(Array.getElem?_eq_some_iff.1 hk).1,fun r hr e=>?_⟩).trans hk
 obtain⟨o',h1,h2⟩:=H.placeCells hl hr e;rw[hk]at h1;cases h1;rw[ho]at h2;cases h2
end
section
variable {n:Nat} {P:Program} {ops:Array Oper} {Q:Exit->Act->World->Prop} {o:Oper} {rest:List Oper} {a:Act} {w:World}
theorem zF9 (hQ:¬ LetsOut Q):∀ (l1 l2:List Oper) (a:Act) (w:World),wpList P ops (Exit.then (wpListIn Fence.wide n P ops Q l2) Q) l1 a w->wpListIn Fence.wide n P ops Q (l1++l2) a w
 | [],l2,a,w,h=>by simpa [wpList,Exit.then] using h
 | o::l1,l2,a,w,h=>by
  unfold wpList at h;rw[List.cons_append];unfold wpListIn;split at h
  ·rename_i hw;rw[if_pos hw];rcases h with h|⟨_,a1,w1,h1⟩
   ·refine zKS (zJs (Oper.wp_mono (fun a' w' h'=>zF9 hQ l1 l2 a' w' h') h) (fun c a w h=>h) ?_)
    rintro⟨a1,w1,h1⟩;exact⟨a1,w1,h1⟩
   ·exact(hQ ⟨a1,w1,h1⟩).elim
  ·rename_i hw;rw[if_neg hw];exact⟨fun _ _=>trivial,zF9 hQ l1 l2 _ w h⟩
theorem zLg {l:Nat} {x y z:Operand} {ts:Array TypeId} {v u:Value} {T:Bool->World->Prop} (hg:o.guard=none) (hop:o.op=Op.call {callee:=Callee.value x,args:=#[y,z],argTypes:=ts}) (hx:a.eval x=.func (.yield l) #[] #[]) (hy:a.eval y=v) (hz:a.eval z=u)
  (hY:YieldAt Fence.wide (n - 1) P l #[v,u] w fun e W'=>∃ b,e=.returned (.bool b)/\T b W') (h1:∀ b W',T b W'->wpListIn Fence.wide n P ops Q rest (a.put o.dst (.bool b)) W'):wpListIn Fence.wide n P ops Q (o::rest) a w:=by
 obtain⟨fn,tmps,assign,body,hyr,hR⟩:=hY;refine wpListIn_plain hg fun K hK=>?_
 refine⟨fun _ _=>trivial,?_⟩
 rw[show o.semAt Fence.wide.round a.eval=execOp a.eval o from rfl]
 have hr:(execOp a.eval o).run P w=.ok (.round l fn tmps assign body) w:=by
  simp only[execOp,hop];simp only[resolve,hx,List.map_toArray,List.map_cons,List.map_nil,hy,hz,Sem.run_bind,Sem.run_pure,Result.andThen_ok,invoke];exact hyr
 rw[hr];simp only[Oper.uponIn];refine⟨fun h=>by simp[Fence.wide]at h,hR.mono ?_⟩
 rintro e w' ⟨b,rfl,hT⟩;exact hK _ _ (h1 b w' hT)
end
end
section
open Go.RowKit Go.Shelf
attribute [local go_sem] Oper.semAt_some
theorem zGH (d:NodeD) (s:Value) (w0:World):Calls Tryz.prog 42 #[zAV d s] w0 fun e w'=>(∃ xb,e=.returned (.func (.func 98) #[] #[.pointer (some ⟨xb,0,none⟩)])/\w0.heap.size<=xb/\w'.heap[xb]?=some (.cells (zAR d s) 28 (0,0)))/\Below w0.heap.size w0 w':=by
 have H:=Hold.start w0
 go_enter Tryz.func42,Tryz.ntmps42
 go_wp2_with (first|((with_reducible refine kg 1 ?_);(first|refine kA 1 H ?_|refine kS 1 H ?_|refine kB 1 H ?_);clear H;intro b1 w H;try simp only[nr]at H)|fail)
 go_ret;exact⟨⟨b1,rfl,by have:=(H.blk .zero).1;simpa using this,(H.blk .zero).2⟩,H.below⟩
theorem HoldG.blkRowQ {M:Nat->Prop} {w0 W:World} {l:List Res} (H:HoldG M w0 W l) {i b sz n:Nat} {cs:Array Value} {T:TypeId} (hi:At l i (.blk b cs T)) (hM:¬ M b) (hs:cs.size=n * sz) (hn:n<=maxLen):HoldG M w0 W (l.set i (.row (.slice (some ⟨b,0,none⟩) n n) T sz n cs.toList)):=by
 have hb:=H.blk hi;refine H.upd hi.get ⟨rfl,rfl,rfl,Nat.le_refl _,fun _ _ _=>rfl⟩ ⟨by simp[hs],.inr ⟨b,n,cs,rfl,hb.1.resolve_right hM,hb.2,Nat.le_refl _,hn,by simp[hs],?_⟩⟩ (fun _ e=>.inl e)
 rw[List.take_of_length_le (by simp[hs])]
theorem zGL (xs:List TV):∀ u ∈ zAG (xs.map zAT),u.oneCell'=true:=by
 intro u hu;simp only[zAG,List.map_map,List.mem_flatten,List.mem_map]at hu;obtain⟨l,⟨x,_,rfl⟩,hu⟩:=hu;have:(zAT x).toList.all (·.oneCell')=true:=rfl;exact List.all_eq_true.1 this u hu
theorem zM9 (ts:List Tree):(zB4 ts).length<=zAF ts:=by
 have h:=zCB ts;have h2:=zCB (zB4 ts);omega
theorem zKl (ts:List Tree) (j:Nat):(zB4 (ts.take j)).length<=(zB4 ts).length:=by
 have e:zB4 ts=zB4 (ts.take j)++zB4 (ts.drop j):=by rw[← zIr,List.take_append_drop]
 rw[e,List.length_append];omega
theorem zF8 (t:Tree) (p:Option Addr) (c:Nat) (F:Nat->Prop) (w0:World) (hm:zAB t<=1000000000) (hF:∀ b,F b->b<w0.heap.size) (h:ForestR w0 F p c t.kids) (xb:Nat) (C:Nat->List Res) (Cx:Nat->Code->List Res) (hC:∀ v,(C v).all zA5=true) (l:Nat) (B:Option Code->World->Prop) (base:Nat) (hB:∀ j W W',KeepsNC base W W'->B j W->B j W')
  (hY:∀ (v:Nat) (x:TV) (d:Nat) (E:List Res) W1,(zBO t)[v]?=some (x.1,d)->x.1.kids.length<=x.2.2->E.all zA5=true->Hold w0 W1 (C v++E)->B none W1->YieldAt Fence.wide 7 Tryz.prog l #[zAV x.1.d (.slice x.2.1 x.1.kids.length x.2.2),.int .i64 d] W1 fun e W'=>∃ b,e=.returned (.bool b)/\∃ j:Option Code,b=j.isNone/\Hold w0 W' ((match j with|none=>C (v+1)|some k=>Cx v k)++E)/\B j W')
  (W:World) (h0:Hold w0 W (.blk xb (zAR t.d (.slice p t.kids.length c)) 28::C 0)) (hB0:B none W) :
  CallsIn Fence.wide 8 Tryz.prog 98 #[.func (.yield l) #[] #[],.pointer (some ⟨xb,0,none⟩)] W fun e W'=>∃ v j,e=.returned v/\B j W'/\match j with|none=>Hold w0 W' (C (zAB t))|some k=>∃ v,v<zAB t/\Hold w0 W' (Cx v k):=by
 obtain⟨i0,hi0,hz0,hz1,hz2⟩:=info_parts zDo;refine callsIn_of_wp Tryz.func98 rfl trivial ?_ rfl;simp only[Tryz.ntmps98,List.size_toArray,List.length_cons,List.length_nil,Nat.reduceAdd,Nat.reduceSub,Array.replicate_succ,Array.replicate_zero,List.push_toArray,List.append_toArray,List.nil_append,List.cons_append];have H:=h0;clear h0;have hKN:=Lib.hid fun V=>KeepsNC.of_plain (W':=V) base H (by simp[zA5,hC])
 have H1:=H.framed;obtain⟨rS,hrS⟩:∃ rS,zCl W (.blk xb (zAR t.d (.slice p t.kids.length c)) 28::C 0)=rS:=⟨_,rfl⟩;obtain⟨rF,hrF⟩:∃ rF,zCb W (.blk xb (zAR t.d (.slice p t.kids.length c)) 28::C 0)=rF:=⟨_,rfl⟩;rw[hrS]at H1 hKN;rw[hrF]at H1;clear hrS hrF H;have H:=H1.perms (show List.Perm _ (.kn rF rS::.blk xb (zAR t.d (.slice p t.kids.length c)) 28::C 0) from List.perm_append_comm)
 clear H1;have HY:=Lib.hid hY;clear hY;have HB:=Lib.hid hB;clear hB;have HC:=Lib.hid hC;clear hC;have HT:=Lib.hid (And.intro h (And.intro hF hm));clear h hF hm;refine zKK (wpIn_seq ?_);rw[wpIn_wide]
 go_wp2_with (first|((with_reducible refine kg 2 ?_);(first|refine kA 2 H ?_|refine kS 2 H ?_|refine kB 2 H ?_);clear H;intro b2 w H;try simp only[nr]at H)|((with_reducible refine gL ?_);refine aD H ?_)|((with_reducible refine gBS ?_);refine zAY wtd_ _ _ _ rfl H (zAR (t.d) (.slice p t.kids.length c)) 28 (by intro W;simp only[ml];(try simp only[pe]);exact zCX _ _ W) ?_;clear H;intro bk w H;try simp only[nr]at H))
 have H1:=H.perms (show List.Perm _ (.blk bk (zAR t.d (.slice p t.kids.length c)) 28::.kn rF rS::.blk xb (zAR t.d (.slice p t.kids.length c)) 28::C 0) from List.perm_append_comm (l₁:=[_,_]++C 0) (l₂:=[_]))
 clear H;have H2:=H1.blkRowQ (i:=0) (sz:=10) (n:=1) .zero id rfl (by decide)
 clear H1;have H:=H2;clear H2;simp only[sc]at H;have hB2:=HB.out none W w (hKN.out w (H.kn (i:=1) i_1)) hB0;clear hB0 hKN;have H2:Hold w0 w (.row (.slice (some ⟨bk,0,none⟩) 1 1) 28 10 1 (zAR t.d (.slice p t.kids.length c)).toList::C 0):=by
  refine HoldG.left (R:=[.kn rF rS,.blk xb (zAR t.d (.slice p t.kids.length c)) 28]) (H.perms ?_);exact List.Perm.cons _ (show List.Perm ([_,_]++C 0) (C 0++[_,_]) from List.perm_append_comm)
 clear H;refine wpIn_seq (wpIn_label ?_);refine wpIn_seq ?_
 rw[wpIn_wide]
 go_wp2_with fail
 refine wpIn_block ?_
 gi_loopw [3,4] (fun v dd wr=>∃ (xs:List TV) (dp:Nat) (pre:List (Tree × Nat)),dd=.int .i64 dp/\Hid (zBO t=pre++bfs (zBJ (xs.map (·.1))) dp (xs.map (·.1))/\pre.length+zAF (xs.map (·.1))=zAB t/\dp+zBJ (xs.map (·.1))=zC4 t+1/\ListR w0 F xs/\B none wr)/\Hold w0 wr (.row v 28 10 xs.length (zAG (xs.map zAT))::C pre.length)) (fun _ dd _=>zC4 t+2 - (intOf dd).toNat)
 case atStart =>
  refine⟨[(t,p,c)],1,[],rfl,Lib.hid ⟨?_,?_,?_,ListR.one HT.out.1,hB2⟩,H2⟩
  ·simp only[List.nil_append,List.map_cons,List.map_nil,zD5];rfl
  ·simp[zAF]
  ·simp[zBJ];omega
 case round =>
  clear H2 hB2;obtain⟨xs,dp,pre,rfl,G,H⟩:=hrel;obtain⟨q,cap,rfl,hc1,hc2,hq⟩:=H.rowShape (i:=0) .zero
  by_cases hx0:0<xs.length
  ·have d0:decide ((xs.length:Int) > 0)=true:=by simp;omega
   obtain⟨g,rfl⟩:=hq hx0;clear hq;have hdp:dp<=1000000001:=by have:=G.out.2.2.1;have:=zGG t;have:=HT.out.2.2;omega
   refine wpIn_seq ?_
   rw[wpIn_wide]
   go_wp2_with (first|fail)
   refine wpIn_seq (wpIn_block (wpIn_seq ?_));rw[wpIn_wide]
   go_wp2_with fail
   refine wpIn_seq (wpIn_seq ?_);rw[wpIn_wide]
   go_wp2_with (first|fail)
   have H2:Hold w0 wr (.row (.slice none 0 0) 28 10 ([]:List TV).length (zAG (([]:List TV).map zAT))::.row (.slice (some ⟨g,0,none⟩) xs.length cap) 28 10 xs.length (zAG (xs.map zAT))::C pre.length) :=
    (H.addNil 28 10).perms (List.perm_append_comm (l₁:=_::C pre.length) (l₂:=[_]))
   clear H;refine wpIn_block ?_
   gi_loopw [5,17] (fun nv ix wr=>∃ (j:Nat) (ya:List TV),j<=xs.length/\ix=.int .i64 j/\Hid (ya.map (·.1)=zB4 ((xs.map (·.1)).take j)/\ListR w0 F ya/\B none wr)/\Hold w0 wr (.row nv 28 10 ya.length (zAG (ya.map zAT))::.row (.slice (some ⟨g,0,none⟩) xs.length cap) 28 10 xs.length (zAG (xs.map zAT))::C (pre.length+j))) (fun _ ix _=>xs.length+1 - (intOf ix).toNat)
   case atStart=>exact⟨0,[],by omega,rfl,Lib.hid ⟨by simp[zB4],ListR.nil _ _,G.out.2.2.2.2⟩,H2⟩
   case round =>
    clear H2;rename_i wr0 _ _ _;obtain⟨j,ya,hj,rfl,E,H⟩:=hrel
    by_cases hlt:j<xs.length
    ·have dj:decide ((j:Int)<(xs.length:Int))=true:=by simp;omega
     obtain⟨x,hx⟩:∃ x,xs[j]?=some x:=⟨_,List.getElem?_eq_getElem hlt⟩;have hmem:=List.mem_of_getElem? hx;have hxn:(xs.map zAT)[j]?=some (zAT x):=by rw[List.getElem?_map,hx];rfl
     have hks:=zKn (ts:=xs.map (·.1)) (j:=j) (t:=x.1) (by rw[List.getElem?_map,hx];rfl)
     have hvis:(zBO t)[pre.length+j]?=some (x.1,dp):=by
      rw[G.out.1,List.getElem?_append_right (by omega),Nat.add_sub_cancel_left]
      rw[zB8 (xs.map (·.1)) (fun h=>by have:=congrArg List.length h;rw[List.length_map,List.length_nil]at this;omega)]
      simp only[bfs];rw[List.getElem?_append_left (by simp;omega),List.getElem?_map,List.getElem?_map,hx];rfl
     obtain⟨ys,hy1,hy2,hy3⟩:=(G.out.2.2.2.1 x hmem).open;have hyk:x.1.kids.length=ys.length:=by rw[hy3,List.length_map]
     have hyc:x.1.kids.length<=x.2.2:=by
      obtain⟨_,_,e,k1,_⟩:=id hy1;simp only[Value.slice.injEq]at e;rw[List.length_map]at k1;rw[hyk,e.2.2];exact k1
     have E2:=Lib.hid (show (ya++ys).map (·.1)=zB4 ((xs.map (·.1)).take (j+1)) by rw[hks,List.map_append,E.out.1,hy3])
     have hyy:ya.length+ys.length<=1000000000:=by
      have h1:=zKl (xs.map (·.1)) (j+1);have h2:=zM9 (xs.map (·.1));have h3:(ya++ys).length=(zB4 ((xs.map (·.1)).take (j+1))).length:=by rw[← E2.out,List.length_map]
      rw[List.length_append]at h3;have:=G.out.2.1;have:=HT.out.2.2;omega
     have RDF:=Lib.hid (show ∀ V,Below w0.heap.size w0 V->RdN 10 V F (.slice x.2.1 ys.length x.2.2) (ys.map zAT) from fun V hV=>hy1.kept (fun b hb=>hV.block b (HT.out.2.1 b hb)))
     have HYS:=Lib.hid (ListR.append E.out.2.1 hy2);have HXN:=Lib.hid hxn;have HXL:=Lib.hid (show (xs.map zAT).length=xs.length from List.length_map ..)
     have HV:=Lib.hid hvis;have HYK:=Lib.hid hyk;have HYC:=Lib.hid hyc;clear hmem hxn hks hvis hy1 hy2 hy3 hyk hyc hx;have hKN:=Lib.hid fun V=>KeepsNC.of_plain (W':=V) base H (by simp[zA5,HC.out])
     have H1:=H.framed;obtain⟨rS1,hrS⟩:∃ rS,zCl wr (.row u5 28 10 ya.length (zAG (ya.map zAT))::.row (.slice (some ⟨g,0,none⟩) xs.length cap) 28 10 xs.length (zAG (xs.map zAT))::C (pre.length+j))=rS:=⟨_,rfl⟩;obtain⟨rF1,hrF⟩:∃ rF,zCb wr (.row u5 28 10 ya.length (zAG (ya.map zAT))::.row (.slice (some ⟨g,0,none⟩) xs.length cap) 28 10 xs.length (zAG (xs.map zAT))::C (pre.length+j))=rF:=⟨_,rfl⟩
     rw[hrS]at H1 hKN;rw[hrF]at H1;clear hrS hrF H;have H:=H1.perms (show List.Perm _ (.kn rF1 rS1::.row u5 28 10 ya.length (zAG (ya.map zAT))::.row (.slice (some ⟨g,0,none⟩) xs.length cap) 28 10 xs.length (zAG (xs.map zAT))::C (pre.length+j)) from List.perm_append_comm)
     clear H1;refine wpIn_seq ?_
     rw[wpIn_wide]
     go_wp2_with fail
     refine wpIn_seq ?_
     rw[wpIn_wide]
     go_wp2_with fail
     refine wpIn_seq (wpIn_block (wpIn_seq ?_));rw[wpIn_wide]
     go_wp2_with (first|((with_reducible refine gL ?_);refine zAO wtd_ _ _ rfl rfl zAP (zAl x) (H.rowCell (i:=2) i_2 (zBy _) HXL.out HXN.out rfl) ?_)|((with_reducible refine kgA 7 ?_);refine kA 7 H ?_;clear H;intro b7 w H;replace H:=H.perms List.perm_append_comm;simp only[ca]at H)|((with_reducible refine kg 7 ?_);(first|refine kA 7 H ?_|refine kS 7 H ?_|refine kB 7 H ?_);clear H;intro b7 w H;try simp only[nr]at H)|((with_reducible refine gT ?_);(refine aT H ?_;clear H;intro w H;try simp only[nr]at H)))
     have hB2:B none w:=HB.out none wr w (hKN.out w (H.kn (i:=1) i_1)) E.out.2.2
     have HA:Hold w0 w ((C (pre.length+j)++[.blk b7 (zAT x) 28,.row u5 28 10 ya.length (zAG (ya.map zAT)),.row (.slice (some ⟨g,0,none⟩) xs.length cap) 28 10 xs.length (zAG (xs.map zAT))])++[.kn rF1 rS1]):=H.perms (by
      refine List.Perm.trans (List.Perm.cons _ ((List.perm_append_comm (l₁:=[_]) (l₂:=_::_::C (pre.length+j))))) ?_
      rw[← List.cons_append]
      exact List.Perm.append_right _ (List.perm_append_comm (l₁:=[.blk b7 (zAT x) 28,.row u5 28 10 ya.length (zAG (ya.map zAT)),.row (.slice (some ⟨g,0,none⟩) xs.length cap) 28 10 xs.length (zAG (xs.map zAT))]) (l₂:=C (pre.length+j))))
     have hY2:=HY.out (pre.length+j) x dp [.blk b7 (zAT x) 28,.row u5 28 10 ya.length (zAG (ya.map zAT)),.row (.slice (some ⟨g,0,none⟩) xs.length cap) 28 10 xs.length (zAG (xs.map zAT))] w HV.out HYC.out (by simp[zA5]) (HoldG.left HA) hB2
     clear HA hB2;refine wpIn_seq (wpIn_seq (wpIn_region_lit ?_));refine zF9 (by rintro⟨_,_,⟨_,h⟩,_⟩;cases h) [_,_,_] [_,_] _ _ ?_
     go_wp2_with (first|((with_reducible refine gL ?_);refine zAO wtd_ _ _ rfl rfl zAP (zAl x) (fun k _=>by rw[Nat.zero_add];exact H.cell (i:=0) .zero k) ?_)|((with_reducible refine kg 7 ?_);(first|refine kA 7 H ?_|refine kS 7 H ?_|refine kB 7 H ?_);clear H;intro b7 w H;try simp only[nr]at H)|fail)
     refine zLg rfl rfl rfl rfl rfl hY2 ?_
     clear hY2 hKN H;rintro b W' ⟨jj,rfl,H3,hB3⟩
     cases jj with
     | none =>
      have H4:=H3.perms (show List.Perm _ (.blk b7 (zAT x) 28::.row u5 28 10 ya.length (zAG (ya.map zAT))::.row (.slice (some ⟨g,0,none⟩) xs.length cap) 28 10 xs.length (zAG (xs.map zAT))::C (pre.length+j+1)) from List.perm_append_comm (l₁:=C (pre.length+j+1)) (l₂:=[_,_,_]))
      have hKN:=Lib.hid fun V=>KeepsNC.of_plain (W':=V) base H4 (by simp[zA5,HC.out])
      have H1:=H4.framed;obtain⟨rS2,hrS⟩:∃ rS,zCl W' (.blk b7 (zAT x) 28::.row u5 28 10 ya.length (zAG (ya.map zAT))::.row (.slice (some ⟨g,0,none⟩) xs.length cap) 28 10 xs.length (zAG (xs.map zAT))::C (pre.length+j+1))=rS:=⟨_,rfl⟩;obtain⟨rF2,hrF⟩:∃ rF,zCb W' (.blk b7 (zAT x) 28::.row u5 28 10 ya.length (zAG (ya.map zAT))::.row (.slice (some ⟨g,0,none⟩) xs.length cap) 28 10 xs.length (zAG (xs.map zAT))::C (pre.length+j+1))=rF:=⟨_,rfl⟩
      rw[hrS]at H1 hKN;rw[hrF]at H1;clear hrS hrF H3 H4;have H:=H1.perms (show List.Perm _ (.kn rF2 rS2::.blk b7 (zAT x) 28::.row u5 28 10 ya.length (zAG (ya.map zAT))::.row (.slice (some ⟨g,0,none⟩) xs.length cap) 28 10 xs.length (zAG (xs.map zAT))::C (pre.length+j+1)) from List.perm_append_comm)
      clear H1;refine zF9 (by rintro⟨_,_,⟨_,h⟩,_⟩;cases h) [_] [] _ _ ?_
      go_wp2_with fail
      refine(show Code.wpIn Fence.wide 8 _ _ _ _ _ from ?_)
      rw[wpIn_wide]
      go_wp2_with fail
      rw[wpIn_wide]
      go_wp2_with (first|(at_builtin;refine zBC rfl _ _ 26 rfl H (i:=2) evd_ (by rw[← HYK.out];rfl) i_2 (RDF.out _ H.below) (zBy _) Tryz.underlying26 hi0 hz0 hz1 hz2 rfl (by decide) (zGL _) (by unfold maxLen;omega) (by omega) ?_;clear H;intro v2 w H;(try simp only[nr]at H);(obtain⟨q2,c2,rfl,_,_,_⟩:=H.rowShape (i:=2) i_2))|((with_reducible refine kg 7 ?_);(first|refine kA 7 H ?_|refine kS 7 H ?_|refine kB 7 H ?_);clear H;intro b7 w H;try simp only[nr]at H)|((with_reducible refine gL ?_);refine aG H ?_))
      have hB4:B none w:=HB.out none W' w (hKN.out w (H.kn (i:=0) .zero)) hB3;have H2:Hold w0 w (.row (.slice q2 (ya.length+ys.length) c2) 28 10 (ya++ys).length (zAG ((ya++ys).map zAT))::.row (.slice (some ⟨g,0,none⟩) xs.length cap) 28 10 xs.length (zAG (xs.map zAT))::C (pre.length+(j+1))):=by
       rw[List.length_append,List.map_append,zBI];refine HoldG.left (R:=[.kn rF2 rS2,.blk b7 (zAT x) 28]) (H.perms ?_);exact List.perm_append_comm (l₁:=[_,_]) (l₂:=_::_::C (pre.length+j+1))
      clear hKN H;have hjm:j<=1000000000:=by
       have:=G.out.2.1;have:=zCB (xs.map (·.1));rw[List.length_map]at this;have:=HT.out.2.2;omega
      rw[wpIn_wide]
      go_wp2_with fail
      refine⟨⟨.slice q2 (ya.length+ys.length) c2,.pointer (some ⟨b7,0,none⟩),.int .i64 ((j:Int)+1),⟨j+1,by omega,rfl,ya++ys,Lib.hid ⟨E2.out,HYS.out,hB4⟩,H2⟩,?_⟩,?_⟩
      ·exact⟨_,_,_,_,_,_,_,_,_,_,_,_,_,rfl⟩
      ·show xs.length+1 - ((j:Int)+1).toNat<xs.length+1 - (j:Int).toNat
       omega
     | some kk =>
      refine zF9 (by rintro⟨_,_,⟨_,h⟩,_⟩;cases h) [_] [] _ _ ?_
      go_wp2_with fail
      refine(show Code.wpIn Fence.wide 8 _ _ _ _ _ from ?_)
      rw[wpIn_wide]
      go_wp2_with fail
      refine⟨rfl,.tuple #[],(by first|rfl|simp[results,Tryz.results98,go_sem]),?_⟩
      have:=G.out.2.1;have:=zCB (xs.map (·.1));rw[List.length_map]at this;exact⟨⟨_,rfl⟩,some kk,hB3,pre.length+j,by omega,HoldG.left H3⟩
    ·have dj:decide ((j:Int)<(xs.length:Int))=false:=by simp;omega
     obtain rfl:j=xs.length:=by omega
     rw[wpIn_wide]
     go_wp2_with (first|fail)
     rw[wpIn_wide]
     go_wp2_with (first|fail)
     rw[wpIn_wide]
     go_wp2_with (first|fail)
     have e3:ya.map (·.1)=zB4 (xs.map (·.1)):=by rw[E.out.1,List.take_of_length_le (by rw[List.length_map];exact Nat.le_refl _)]
     have e4:=zB8 (xs.map (·.1)) (fun h=>by have:=congrArg List.length h;rw[List.length_map,List.length_nil]at this;omega)
     have e5:=zCB (xs.map (·.1));rw[List.length_map]at e5;obtain⟨g1,g2,g3,_,_⟩:=G.out;rw[e4]at g1 g3;have H2:Hold w0 wr (.row u5 28 10 ya.length (zAG (ya.map zAT))::C (pre++(xs.map (·.1)).map (fun t=>(t,dp))).length):=by
      have e6:(pre++(xs.map (·.1)).map (fun t=>(t,dp))).length=pre.length+xs.length:=by simp
      rw[e6];exact HoldG.left (R:=[_]) (H.perms (List.Perm.cons _ (List.perm_append_comm (l₁:=[_]) (l₂:=C (pre.length+xs.length)))))
     refine⟨⟨u5,.int .i64 ((dp:Int)+1),⟨ya,dp+1,rfl,pre++(xs.map (·.1)).map (fun t=>(t,dp)),Lib.hid ⟨?_,?_,?_,E.out.2.1,E.out.2.2⟩,H2⟩,?_⟩,?_⟩
     ·rw[g1,e3];simp only[bfs];rw[List.append_assoc]
     ·simp only[List.length_append,List.length_map];rw[e3];omega
     ·rw[e3];omega
     ·exact⟨_,_,_,_,_,_,_,_,_,_,_,_,_,_,_,_,_,_,_,_,_,_,_,_,rfl⟩
     ·show zC4 t+2 - ((dp:Int)+1).toNat<zC4 t+2 - (dp:Int).toNat
      omega
  ·have d0:decide ((xs.length:Int) > 0)=false:=decide_eq_false (by omega)
   obtain rfl:xs=[]:=List.length_eq_zero_iff.1 (by omega)
   rw[wpIn_wide]
   go_wp2_with (first|fail)
   have e1:pre.length=zAB t:=by have:=G.out.2.1;simp[zAF]at this;omega
   rw[e1]at H;refine⟨rfl,.tuple #[],(by first|rfl|simp[results,Tryz.results98,go_sem]),?_⟩
   refine⟨⟨_,rfl⟩,none,G.out.2.2.2.2,?_⟩
   exact HoldG.left (R:=[_]) (H.perms (List.perm_append_comm (l₁:=[_]) (l₂:=C (zAB t))))
theorem zEF {P:Program} {fn:Func} {p:Tmp} {T:TypeId} (hres:fn.results=#[.cell p T]) {tmps:Array Value} {w:World} {b:Nat} (h2:tmps.getD p undef=.pointer (some ⟨b,0,none⟩)) (t2:oneB P T=true) {v:Value} (c2:w.cell? ⟨b,0,none⟩=some v):(results fn tmps).run P w=.ok v w:=by
 have e2:tmps[p]?.getD undef=.pointer (some ⟨b,0,none⟩):=by simpa using h2
 simp[results,hres,e2,asAddr,zBc t2 c2]
abbrev SC (b:Nat) (v:Nat):List Res:=[.blk b #[.int .i64 v] 3]
abbrev noC:List Res:=[.blk 0 #[] 3,.blk 0 #[] 3]
theorem zLc {w0 W:World} (h:Hold w0 W noC):False:=by
 have:=h.apart 0 1 _ _ (by decide) rfl rfl
 exact this 0 rfl rfl
theorem zOb (t:Tree) (p:Option Addr) (c:Nat) (F:Nat->Prop) (w0:World) (hm:zAB t<=1000000000) (hF:∀ b,F b->b<w0.heap.size) (h:ForestR w0 F p c t.kids) :
  Calls Tryz.prog 148 #[zAV t.d (.slice p t.kids.length c)] w0 (Rt (.int .i64 (zAB t)) w0):=by
 have H:=Hold.start w0;refine callsIn_wide.1 (zBv (n:=9) Tryz.func148 rfl ?_);simp only[Tryz.ntmps148,List.size_toArray,List.length_cons,List.length_nil,Nat.reduceAdd,Nat.reduceSub,Array.replicate_succ,Array.replicate_zero,List.push_toArray,List.append_toArray,List.nil_append,List.cons_append];refine zBP (zBg ?_)
 go_wp2_with (first|((with_reducible refine kg 1 ?_);(first|refine kA 1 H ?_|refine kS 1 H ?_|refine kB 1 H ?_);clear H;intro b1 w H;try simp only[nr]at H)|((with_reducible refine kg 2 ?_);(first|refine kA 2 H ?_|refine kS 2 H ?_|refine kB 2 H ?_);clear H;intro b2 w H;try simp only[nr]at H)|fail)
 refine zBP (zBP (zBg ?_))
 go_wp2_with (first|(go_at_call 42;refine(zGH t.d (.slice p t.kids.length c) _).mono ?_;rintro e w ⟨⟨xb,rfl,hx1,hx2⟩,hb⟩;obtain⟨xb',e1,H2⟩:=H.gainB hb (v:=.pointer (some ⟨xb,0,none⟩)) ⟨xb,rfl,hx1,hx2⟩;cases e1;clear H hb hx1 hx2;have H:=H2;clear H2;simp only[ca]at H)|((with_reducible refine gL ?_);refine aD H ?_))
 have hB:w0.heap.size<=w.heap.size:=H.keep.size;have hI:Hold w0 w (.blk xb (zAR t.d (.slice p t.kids.length c)) 28::SC b2 0):=H.pick [2,1] _ (by decide) rfl
 clear H
 refine zDp (zDr (σ:=Nat × List Res) (α:=TV × Nat) (n:=8) (gf:=98) (lb:=#[.pointer (some ⟨xb,0,none⟩)]) rfl (enters_of Tryz.func98 (by kernel_rfl) rfl) (encs:=fun x=>#[zAV x.1.1.d (.slice x.1.2.1 x.1.1.kids.length x.1.2.2),.int .i64 x.2]) (fun _=>rfl)
  (fun W=>Hold w0 W (.blk xb (zAR t.d (.slice p t.kids.length c)) 28::SC b2 0)) (fun j W=>j=none/\Hold w0 W (SC b2 (zAB t))) (fun _ _=>False)
  (fun s x W=>(s.1<zAB t/\s.2.all zA5=true)/\Hold w0 W (SC b2 s.1++s.2)) (fun s x j W=>(j=none/\s.2.all zA5=true)/\Hold w0 W (SC b2 (s.1+1)++s.2)) (fun _ _ _ _=>False)
  (fun s x a1 W=>a1={tmps:=#[zAV t.d (.slice p t.kids.length c),.pointer (some ⟨b1,0,none⟩),.pointer (some ⟨b2,0,none⟩),zAV t.d (.slice p t.kids.length c),.func (.func 98) #[] #[.pointer (some ⟨xb,0,none⟩)],zAV x.1.1.d (.slice x.1.2.1 x.1.1.kids.length x.1.2.2),.int .i64 x.2,undef,undef,undef],defers:=[]}/\(s.1<zAB t/\s.2.all zA5=true)/\Hold w0 W (SC b2 s.1++s.2))
  (fun W W' row hs hg hr=>hs.stayC (by rfl) hB hg hr) (fun j W W' row hs hg hr=>⟨hs.1,hs.2.stayC (by rfl) hB hg hr⟩) (fun s x j W W' row hs hg hr=>⟨hs.1,hs.2.stayC (by simp[zA5,hs.1.2]) hB hg hr⟩) (fun s x a1 W W' row hs hg hr=>⟨hs.1,hs.2.1,hs.2.2.stayC (by simp[zA5,hs.2.1.2]) hB hg hr⟩) ?iter hI ?assign ?body ?done ?pan)
 case iter =>
  intro l B K hBs hKs hBK hY W hI hBW;refine(zF8 t p c F w0 hm hF h xb (SC b2) (fun _ _=>noC) (fun _=>rfl) l B w.heap.size hBs (fun v x d E W1 hv hk hE hW hB1=>?_) W hI hBW).mono (fun e W' hh=>?_)
  ·have hlt:v<zAB t:=by rw[← zD8];exact(List.getElem?_eq_some_iff.1 hv).1
   refine(hY (v,E) (x,d) W1 ⟨⟨hlt,hE⟩,hW⟩ hB1).mono (fun e W' h=>?_)
   rcases h with ⟨j,rfl,⟨⟨rfl,_⟩,hq⟩,hb⟩|⟨ch,_,h,_⟩
   ·exact⟨_,rfl,none,rfl,hq,hb⟩
   ·exact h.elim
  ·obtain⟨v,j,rfl,hb,hh⟩:=hh
   cases j with
   | none=>exact .inl ⟨v,none,rfl,⟨rfl,hh⟩,hb⟩
   | some k=>obtain⟨_,_,hh⟩:=hh;exact(zLc hh).elim
 case assign =>
  rintro l s x W hJ;simp only[List.zip_toArray,List.foldl_toArray,List.zip_cons_cons,List.zip_nil_right,List.zip_nil_left,List.foldl_cons,List.foldl_nil,List.setIfInBounds_toArray,List.set_cons_succ,List.set_cons_zero]
  gi_wp2
  refine⟨fun k o _ hk _=>hk,?_,hJ⟩
  first|trivial|rfl
 case body =>
  rintro l ⟨v,E⟩ x a1 W ⟨rfl,⟨h1,h2⟩,H⟩;have hv:v<=1000000000:=by have h1:v<zAB t:=h1;omega
  have hKN:=Lib.hid fun V=>KeepsNC.of_plain (W':=V) w.heap.size H (by simpa [zA5] using h2)
  have H1:=H.framed;obtain⟨rS,hrS⟩:∃ rS,zCl W (SC b2 v++E)=rS:=⟨_,rfl⟩;obtain⟨rF,hrF⟩:∃ rF,zCb W (SC b2 v++E)=rF:=⟨_,rfl⟩;simp only[]at H1;rw[hrS]at H1 hKN;rw[hrF]at H1;clear hrS hrF H;have H:=H1.perms (show List.Perm _ (.kn rF rS::.blk b2 #[.int .i64 v] 3::E) from List.perm_append_comm (l₁:=SC b2 v++E) (l₂:=[_]))
  clear H1;refine wpIn_block (wpIn_region_lit (zAa (by rintro⟨_,_,h⟩;exact h) _ _ _ rfl ?_))
  go_wp2_with (first|(first|((with_reducible refine gT ?_);(refine aO H ?_;clear H;intro w H;try simp only[nr]at H))|((with_reducible refine gL ?_);refine aG H ?_)))
  refine⟨hKN.out _ (H.kn (i:=0) .zero),rfl,?_⟩
  exact HoldG.left (R:=[_]) (H.perms (List.perm_append_comm (l₁:=[_]) (l₂:=SC b2 (v+1)++E)))
 case done =>
  rintro D j W hD ⟨rfl,H⟩ hK;have hKN:=Lib.hid fun V=>KeepsNC.of_plain (W':=V) w.heap.size H rfl
  have H1:=H.framed;obtain⟨rS,hrS⟩:∃ rS,zCl W (SC b2 (zAB t))=rS:=⟨_,rfl⟩;obtain⟨rF,hrF⟩:∃ rF,zCb W (SC b2 (zAB t))=rF:=⟨_,rfl⟩;rw[hrS]at H1 hKN;rw[hrF]at H1;clear hrS hrF H hI;have H:Hold w0 W [.blk b2 #[.int .i64 (zAB t)] 3,.kn rF rS]:=H1;clear H1;have hD2:w0.heap.size<=D:=Nat.le_trans hB hD;refine zBP (zBg ?_)
  go_wp2_with (first|(first|((with_reducible refine gT ?_);(refine aO H ?_;clear H;intro w H;try simp only[nr]at H))|((with_reducible refine gL ?_);refine aG H ?_)))
  refine zBg ?_
  go_wp2_with fail
  have hK3:=(hKN.out _ (H.kn (i:=1) i_1)).same _ _ hD hK rfl;refine⟨by simp,.inl ⟨D,_,rfl,run_takeDeferred hK3,?_⟩⟩
  have H3:Hold w0 _ (SC b2 (zAB t)):=H.pick [0] _ (by decide) rfl
  have H5:=Stay.putObj (Stay.plain rfl (Nat.le_refl _)) (.deferred none) H3 hD2 hK3 rfl;refine⟨_,zEF Tryz.results148 rfl zAC ((H5.cell (i:=0) .zero 0).trans rfl),rfl,H5.below⟩
 case pan=>exact fun D ch W _ h _=>h.elim
end
section
open Go.RowKit
theorem zLP {z:Array Value} {sz:Nat} (hz:z.size=sz) (h0:0<sz) (n:Nat):(madeCells z (n * sz)).toList=zAG (List.replicate n z):=by
 have hs:∀ r ∈ List.replicate n z,r.size=sz:=fun r hr=>by rw[List.eq_of_mem_replicate hr];exact hz
 apply List.ext_getElem?;intro i
 by_cases hi:i<n * sz
 ·have hd:i=i / sz * sz+i % sz:=by rw[Nat.mul_comm];exact(Nat.div_add_mod i sz).symm
  have hm:i % sz<sz:=Nat.mod_lt _ h0;have hq:i / sz<n:=Nat.div_lt_of_lt_mul (by rw[Nat.mul_comm];exact hi)
  have h1:=zCE hs (j:=i / sz) (r:=z) (k:=i % sz) (by rw[List.getElem?_replicate,if_pos hq]) hm
  rw[← hd]at h1;rw[h1];have hk:i % z.size<z.size:=by rw[hz];exact hm
  simp only[madeCells,Array.toList_map,List.getElem?_map,Array.getElem?_toList,Array.getElem?_range,if_pos hi,Option.map_some];rw[← hz,Array.getElem?_eq_getElem hk,getElem!_pos z _ hk]
 ·rw[List.getElem?_eq_none (by simp[size_madeCells];omega),List.getElem?_eq_none (by rw[zBF hs,List.length_replicate];omega)]
section
variable {P:Program} {ops:Array Oper} {rest:List Oper} {o:Oper} {a:Act} {w w0:World} {Q:Exit->Act->World->Prop} {l:List Res} {M:Nat->Prop}
theorem zIR (hg:o.guard=none) (x c:Operand) (t:TypeId) (hop:o.op=Op.makeSlice t x c) (H:HoldG M w0 w l) {e:TypeId} {i:TypeInfo} {z:Value} {bytes sz:Nat}
  (h1:P.underlying t=some (.slice e)) (h2:P.info? e=some i) (h3:i.zero=some z) (h4:i.size=sz) (h5:i.bytes=bytes) (hz:z.cells.size=sz) (h0:0<sz) {n:Nat} (hl:a.eval x=.int .i64 n) (hc:a.eval c=.int .i64 n) (b2:bytes * n<=281474976710656) (b3:n<=maxLen)
  (h:∀ g w',HoldG M w0 w' (l++[.row (.slice (some ⟨g,0,none⟩) n n) e sz n (zAG (List.replicate n z.cells))])->wpList P ops Q rest (a.put o.dst (.slice (some ⟨g,0,none⟩) n n)) w'):wpList P ops Q (o::rest) a w:=by
 refine wpList_make_full w hg x c t hop w0.heap.size e i z sz h1 h2 h3 h4 .i64 .i64 n n n hl hc rfl rfl (by rw[h5];exact b2) b3 H.keep.size (fun w' r1 r2=>h w.heap.size w' ?_)
 rw[zLP hz h0]at r1;exact H.add r2 r1 (fun b e=>by cases e;exact Nat.le_refl _)
theorem zHe (w:World) (dT sT ty elem:TypeId) (g o dLen dCap:Nat) (a:Addr) (sLen sCap sz:Nat) (cur:Array Value) (t:TypeId) (cs:List Value)
  (hu:P.underlying dT=some (.slice elem)) (hs:(P.info? elem).map (·.size)=some sz)
  (hg:w.heap[g]?=some (.cells cur t (0,0))) (hn:cs.length=Nat.min sLen dLen * sz)
  (hsrc:∀ j v,cs[j]?=some v->w.cell? (a.add j)=some v) (hfit:o+cs.length<=cur.size) (h1:∀ v ∈ cs,v.oneCell'=true) :
  (Builtin.copy_ #[dT,sT] ty #[.slice (some ⟨g,o,none⟩) dLen dCap,.slice (some a) sLen sCap]).run P w =
   .ok (goInt (Nat.min sLen dLen)) (w.setRow g (cur.toList.take o++cs++cur.toList.drop (o+cs.length)).toArray):=by
 have hl:=run_loadCells_list (P:=P) w a cs hsrc;have hst:=run_storeCells_at P g o t cs 0 cur w hg (by simpa using hfit) h1
 rw[hn]at hl
 cases hq:P.info? elem with
 | none=>simp[hq]at hs
 | some i =>
  have hi:i.size=sz:=by simpa [hq] using hs
  simp[Builtin.copy_,run_underlying hu,Builtin.lenOf,Builtin.firstCells,sizeOf,typeInfo,hq,hi,hl,hst]
theorem zHb (W:World) (b:Nat) (cs:Array Value):W.grownBy (W.setRow b cs) (some b):=by
 refine⟨rfl,rfl,rfl,by simp[World.setRow],fun j hj hne=>setRow_other W b j cs (fun e=>hne (by rw[e]))⟩
theorem zHA {sz:Nat}:∀ {rows:List (Array Value)} (k:Nat),(∀ r ∈ rows,r.size=sz)->(zAG rows).take (k * sz)=zAG (rows.take k)
 | rows,0,_=>by simp[zAG]
 | [],k+1,_=>by simp[zAG]
 | r::rows,k+1,h=>by
  have ih:=zHA (rows:=rows) k (fun x hx=>h x (List.mem_cons_of_mem _ hx))
  have hr:=h r (List.mem_cons_self ..);rw[List.take_succ_cons];simp only[zAG,List.map_cons,List.flatten_cons]at ih ⊢;rw[Nat.succ_mul,Nat.add_comm,List.take_append,List.take_of_length_le (by simp;omega),← ih]
  congr 2;simp;omega
theorem zGv {sz:Nat}:∀ {rows:List (Array Value)} (k:Nat),(∀ r ∈ rows,r.size=sz)->(zAG rows).drop (k * sz)=zAG (rows.drop k)
 | rows,0,_=>by simp[zAG]
 | [],k+1,_=>by simp[zAG]
 | r::rows,k+1,h=>by
  have ih:=zGv (rows:=rows) k (fun x hx=>h x (List.mem_cons_of_mem _ hx))
  have hr:=h r (List.mem_cons_self ..);rw[List.drop_succ_cons];simp only[zAG,List.map_cons,List.flatten_cons]at ih ⊢;rw[Nat.succ_mul,Nat.add_comm,List.drop_append,List.drop_of_length_le (by simp;omega),List.nil_append,← ih]
  congr 1;simp;omega
theorem zIx (cur cs:List Value) (K m N C:Nat) (hC:cur.length=C) (hN:N<=C) (hK:K+m<=N) (hcs:cs.length=m):(cur.take K++cs++cur.drop (K+m)).take N=(cur.take N).take K++(cs++(cur.take N).drop (K+m)):=by
 rw[List.append_assoc,List.take_append,List.take_append,List.take_take,List.take_take,Nat.min_eq_right (by omega:K<=N),Nat.min_eq_left (by omega:K<=N),List.length_take,List.take_of_length_le (l:=cs) (by omega),List.drop_take]
 congr 3
 omega
theorem zGY (hgd:o.guard=none) (d s:Operand) (dT sT:TypeId)
  (ho:o.op=.call {callee:=.builtin .copy,args:=#[d,s],argTypes:=#[dT,sT]}) {e:TypeId} {sz:Nat} (hu:P.underlying dT=some (.slice e)) (hsz:(P.info? e).map (·.size)=some sz)
  {g k off dLen dCap sLen sCap m:Nat} {ad:Addr} (hd:a.eval d=.slice (some ⟨g,off,none⟩) dLen dCap) (hs:a.eval s=.slice (some ad) sLen sCap) (hoff:k * sz=off) (hm:Nat.min sLen dLen=m) (H:HoldG M w0 w l) {j n cap:Nat} {rows:List (Array Value)}
  (hi:At l j (.row (.slice (some ⟨g,0,none⟩) n cap) e sz n (zAG rows))) (hl:rows.length=n) (hrs:∀ r ∈ rows,r.size=sz) (cs:List (Array Value)) (hcs:∀ r ∈ cs,r.size=sz) (hn:cs.length=m) (hsrc:∀ q v,(zAG cs)[q]?=some v->w.cell? (ad.add q)=some v) (hfit:k+m<=n) (h1:∀ v ∈ zAG cs,v.oneCell'=true)
  (h:∀ w',HoldG M w0 w' (l.set j (.row (.slice (some ⟨g,0,none⟩) n cap) e sz n (zAG (rows.take k++(cs++rows.drop (k+m))))))->wpList P ops Q rest (a.put o.dst (goInt m)) w'):wpList P ops Q (o::rest) a w:=by
 subst hoff hm;have hlc:(zAG cs).length=Nat.min sLen dLen * sz:=by rw[zBF hcs,hn]
 have hlr:(zAG rows).length=n * sz:=by rw[zBF hrs,hl]
 obtain⟨hlen,⟨hv',_⟩|⟨g',cap',cur,hv',hb,hg',hn',hc,hsz',ht⟩⟩:=H.all j _ hi.get
 ·cases hv'
 ·cases hv'
  have hb1:(k+Nat.min sLen dLen) * sz<=n * sz:=Nat.mul_le_mul_right _ hfit;have hb2:n * sz<=cap * sz:=Nat.mul_le_mul_right _ hn';rw[Nat.add_mul]at hb1;have hrun:=zHe (P:=P) w dT sT o.type e g (k * sz) dLen dCap ad sLen sCap sz cur e (zAG cs) hu hsz hg' hlc hsrc (by rw[hlc,hsz'];omega) h1
  refine wpList_plain hgd fun K hK=>?_
  unfold Oper.wp;simp only[execOp,ho,resolve,invoke,builtin,hd,hs,List.map_toArray,List.map_cons,List.map_nil,Sem.run_bind,Sem.run_pure,Result.andThen_ok,hrun];refine hK _ _ (h _ (H.upd hi.get (zHb w g _) ⟨?_,.inr ⟨g,cap,_,rfl,hb,setRow_heap w g _ _ e _ hg',hn',hc,?_,?_⟩⟩ (fun _ e=>.inl e)))
  ·rw[zBF (fun r hr=>by
    rcases List.mem_append.1 hr with hr|hr
    ·exact hrs r (List.mem_of_mem_take hr)
    ·rcases List.mem_append.1 hr with hr|hr
     ·exact hcs r hr
     ·exact hrs r (List.mem_of_mem_drop hr))]
   congr 1;simp;omega
  ·simp only[List.size_toArray,List.length_append,List.length_take,List.length_drop,Array.length_toList,hlc,hsz'];omega
  ·rw[zBI,zBI,← zHA k hrs,← zGv (k+Nat.min sLen dLen) hrs,← ht,Nat.add_mul];rw[hlc];exact zIx _ _ _ _ _ _ (by rw[Array.length_toList,hsz']) hb2 (by omega) hlc
end
theorem zDi {M:Nat->Prop} {P:Program} {id n:Nat} {ops:Array Oper} {Q:Exit->Act->World->Prop} {a:Act} {w0 w:World} {l:List Res} (H:HoldG M w0 w l) (hm:P.follows .mixedOrders=true) (hn:ops.size=n)
  (h:∀ w',HoldG M w0 w' l->wpAny P .any ops Q n (Array.replicate n false) a w'):(Code.region id ops true).wp P Q a w:=by
 subst hn;exact wp_region_any hm (h _ H.drew)
section
variable {P:Program} {ops:Array Oper} {Q:Exit->Act->World->Prop} {fuel:Nat} {listed:Array Bool} {a:Act} {w:World}
theorem zJF {K:Exit->Act->World->Prop} {o:Oper} (hg:o.guard=none) (h:wpList P #[] K [o] a w):wpList P ops K [o] a w:=by
 unfold wpList at h ⊢;simp only[Region.wanted,hg]at h ⊢;exact h
def AnyO (P:Program) (ops:Array Oper) (Q:Exit->Act->World->Prop) (fuel:Nat) (listed:Array Bool) (o:Oper) (a:Act) (w:World):Prop :=
 ∀ K:Exit->Act->World->Prop,Hid ((∀ a' w',wpAny P .any ops Q fuel listed a' w'->K .normal a' w')/\∀ c a' w',Q (.panic c) a' w'->K (.panic c) a' w')->wpList P #[] K [o] a w
theorem AnyO.use {o:Oper} (hg:o.guard=none) (h:AnyO P ops Q fuel listed o a w):wpList P ops (anyK P ops Q fuel listed) [o] a w:=zJF hg (h _ (Lib.hid ⟨fun _ _ h=>h,fun _ _ _ h=>h⟩))
theorem zAf (i:Nat) {o:Oper} (hr:Region.ready .any ops listed=[i]) (ho:ops[i]?=some o) (go:o.guard=none) (h:AnyO P ops Q fuel (listed.setIfInBounds i true) o a w):wpAny P .any ops Q (fuel+1) listed a w:=zQF i hr ho (h.use go)
theorem zAw (i j:Nat) {o p:Oper} (hr:Region.ready .any ops listed=[i,j]) (ho:ops[i]?=some o) (hp:ops[j]?=some p) (go:o.guard=none) (gp:p.guard=none) (h:AnyO P ops Q fuel (listed.setIfInBounds i true) o a w) (h2:AnyO P ops Q fuel (listed.setIfInBounds j true) p a w):wpAny P .any ops Q (fuel+1) listed a w:=zQO i j hr ho hp (h.use go) (h2.use gp)
theorem zD0 (i j m:Nat) {o p q:Oper} (hr:Region.ready .any ops listed=[i,j,m]) (ho:ops[i]?=some o) (hp:ops[j]?=some p) (hq:ops[m]?=some q) (go:o.guard=none) (gp:p.guard=none) (gq:q.guard=none) (h:AnyO P ops Q fuel (listed.setIfInBounds i true) o a w) (h2:AnyO P ops Q fuel (listed.setIfInBounds j true) p a w) (h3:AnyO P ops Q fuel (listed.setIfInBounds m true) q a w):wpAny P .any ops Q (fuel+1) listed a w:=zQI i j m hr ho hp hq (h.use go) (h2.use gp) (h3.use gq)
end
end
section
open Go.RowKit Go.Shelf
attribute [local go_sem] Oper.semAt_some
mutual
theorem zIM (m:Nat):∀ t:Tree,zAB t<=m->allT (fun u=>decide (zAB u<=m)) t=true
 | .mk d ks,h=>by
  have h2:=h;simp only[zAB]at h;simp only[allT,Bool.and_eq_true];exact⟨decide_eq_true h2,zGu m ks (by omega)⟩
theorem zGu (m:Nat):∀ ts:List Tree,zAF ts<=m->zC8 (fun u=>decide (zAB u<=m)) ts=true
 | [],_=>rfl
 | t::r,h=>by
  simp only[zAF]at h;simp only[zC8,Bool.and_eq_true];exact⟨zIM m t (by omega),zGu m r (by omega)⟩
end
theorem zKZ (t u:Tree) (h:u ∈ (zBO t).map (·.1)):zAB u<=zAB t:=by
 have h1:=zFF (fun u=>decide (zAB u<=zAB t)) t
 rw[zIM _ t (Nat.le_refl _),List.all_eq_true]at h1;obtain⟨x,hx,rfl⟩:=List.mem_map.1 h;exact of_decide_eq_true (h1 x hx)
def okN (t:Tree) (v:Nat):Bool:=decide (v<=2000)&&((zBO t).take v).all (fun x=>zAu x.1.d x.1.kids.length)
theorem zNV (t:Tree):okN t 0=true:=by simp[okN]
theorem zMF (t:Tree):okN t (zAB t)=(zAk t&&decide ((zAB t:Int)<=2000)):=by
 unfold okN;rw[show (zBO t).take (zAB t)=zBO t from by rw[← zD8];exact List.take_length ..,zFF (fun t=>zAu t.d t.kids.length),← zGo,Bool.and_comm]
 congr 1
 exact decide_eq_decide.2 (by omega)
theorem zN5 {t:Tree} {v:Nat} {x:Tree × Nat} (h:(zBO t)[v]?=some x) (hv:okN t v=true):okN t (v+1)=(decide (v+1<=2000)&&zAu x.1.d x.1.kids.length):=by
 unfold okN at hv ⊢;rw[zBb h,List.all_append];rw[Bool.and_eq_true]at hv;rw[hv.2];simp
theorem zPm {t:Tree} {v:Nat} (hv:v<zAB t) (h:okN t (v+1)=false):(zAk t&&decide ((zAB t:Int)<=2000))=false:=by
 rw[← zMF];unfold okN at h ⊢;rw[Bool.and_eq_false_iff]at h ⊢;rcases h with h|h
 ·left;rw[decide_eq_false_iff_not]at h ⊢;omega
 ·right;rw[List.all_eq_false]at h ⊢;obtain⟨x,hx,hn⟩:=h;refine⟨x,?_,hn⟩;obtain⟨i,hi⟩:=List.getElem?_of_mem hx;rw[List.getElem?_take]at hi;split at hi
  ·exact List.mem_of_getElem? (i:=i) (by rw[List.getElem?_take,if_pos (by omega)];exact hi)
  ·cases hi
abbrev RB (b2 b3:Nat) (v:Nat):List Res:=[.blk b2 #[.bool false] 4,.blk b3 #[.int .i64 v] 3]
def RC (t:Tree) (b2 b3:Nat) (v:Nat):List Res:=if okN t v=true then RB b2 b3 v else noC
def RX (t:Tree) (b2 b3:Nat) (v:Nat):Code->List Res
 | .ret=>if okN t (v+1)=false then RB b2 b3 (v+1) else noC
 | _=>noC
theorem zD1 (t:Tree) (b2 b3 v:Nat):(RC t b2 b3 v).all zA5=true:=by unfold RC;split<;>rfl
theorem zJu (t:Tree) (b2 b3 v:Nat) (c:Code):(RX t b2 b3 v c).all zA5=true:=by unfold RX;split<;>(try split)<;>rfl
theorem zJV {w0 W:World} {E:List Res} (h:Hold w0 W (noC++E)):False:=zLc (HoldG.left h)
theorem zMj {t:Tree} {b2 b3 v:Nat} {E:List Res} {w0 W:World} (h:Hold w0 W (RC t b2 b3 v++E)):okN t v=true/\Hold w0 W (RB b2 b3 v++E):=by
 unfold RC at h;split at h
 ·rename_i hv;exact⟨hv,h⟩
 ·exact(zJV h).elim
theorem zOi {t:Tree} {b2 b3 v:Nat} {k:Code} {E:List Res} {w0 W:World} (h:Hold w0 W (RX t b2 b3 v k++E)):k=.ret/\okN t (v+1)=false/\Hold w0 W (RB b2 b3 (v+1)++E):=by
 unfold RX at h;split at h
 ·split at h
  ·rename_i hv;exact⟨rfl,hv,h⟩
  ·exact(zJV h).elim
 ·exact(zJV h).elim
def RJ (t:Tree) (b2 b3 v:Nat):Option Code->List Res
 | none=>RC t b2 b3 (v+1)
 | some k=>RX t b2 b3 v k
theorem zNY (t:Tree) (b2 b3 v:Nat) (j:Option Code):(RJ t b2 b3 v j).all zA5=true:=by
 cases j
 ·exact zD1 ..
 ·exact zJu ..
def RS (t:Tree) (b2 b3:Nat) (w0 W:World):Option Code->Prop
 | none=>Hold w0 W (RC t b2 b3 (zAB t))
 | some k=>∃ v,v<zAB t/\Hold w0 W (RX t b2 b3 v k)
theorem zNN (t:Tree) (p:Option Addr) (c:Nat) (F:Nat->Prop) (w0:World) (hm:zAB t<=1000000000) (hF:∀ b,F b->b<w0.heap.size) (h:ForestR w0 F p c t.kids) :
  Calls Tryz.prog 34 #[zAV t.d (.slice p t.kids.length c)] w0 fun e w'=>e=.returned (.bool (zAk t&&decide ((zAB t:Int)<=2000)))/\Below w0.heap.size w0 w':=by
 have H:=Hold.start w0;refine callsIn_wide.1 (zBv (n:=9) Tryz.func34 rfl ?_);simp only[Tryz.ntmps34,List.size_toArray,List.length_cons,List.length_nil,Nat.reduceAdd,Nat.reduceSub,Array.replicate_succ,Array.replicate_zero,List.push_toArray,List.append_toArray,List.nil_append,List.cons_append];refine zBP (zBg ?_)
 go_wp2_with (first|((with_reducible refine kg 1 ?_);(first|refine kA 1 H ?_|refine kS 1 H ?_|refine kB 1 H ?_);clear H;intro b1 w H;try simp only[nr]at H)|((with_reducible refine kg 2 ?_);(first|refine kA 2 H ?_|refine kS 2 H ?_|refine kB 2 H ?_);clear H;intro b2 w H;try simp only[nr]at H)|fail)
 refine zBP (zBg ?_)
 go_wp2_with (first|((with_reducible refine kg 3 ?_);(first|refine kA 3 H ?_|refine kS 3 H ?_|refine kB 3 H ?_);clear H;intro b3 w H;try simp only[nr]at H)|((with_reducible refine gT ?_);(refine aO H ?_;clear H;intro w H;try simp only[nr]at H)))
 refine zBP (zBP (zBg ?_))
 go_wp2_with (first|(go_at_call 42;refine(zGH t.d (.slice p t.kids.length c) _).mono ?_;rintro e w ⟨⟨xb,rfl,hx1,hx2⟩,hb⟩;obtain⟨xb',e1,H2⟩:=H.gainB hb (v:=.pointer (some ⟨xb,0,none⟩)) ⟨xb,rfl,hx1,hx2⟩;cases e1;clear H hb hx1 hx2;have H:=H2;clear H2;simp only[ca]at H)|((with_reducible refine gL ?_);refine aD H ?_))
 have hB:w0.heap.size<=w.heap.size:=H.keep.size;have hI:Hold w0 w (.blk xb (zAR t.d (.slice p t.kids.length c)) 28::RC t b2 b3 0):=by
  unfold RC;rw[if_pos (zNV t)];exact H.pick [3,1,2] _ (by decide) rfl
 clear H
 refine zDp (zDr (σ:=Nat × List Res) (α:=TV × Nat) (n:=8) (gf:=98) (lb:=#[.pointer (some ⟨xb,0,none⟩)]) rfl (enters_of Tryz.func98 (by kernel_rfl) rfl) (encs:=fun x=>#[zAV x.1.1.d (.slice x.1.2.1 x.1.1.kids.length x.1.2.2),.int .i64 x.2]) (fun _=>rfl)
  (fun W=>Hold w0 W (.blk xb (zAR t.d (.slice p t.kids.length c)) 28::RC t b2 b3 0)) (fun j W=>RS t b2 b3 w0 W j) (fun _ _=>False)
  (fun s x W=>((zBO t)[s.1]?=some (x.1.1,x.2)/\x.1.1.kids.length<=x.1.2.2/\s.2.all zA5=true)/\Hold w0 W (RC t b2 b3 s.1++s.2)) (fun s x j W=>s.2.all zA5=true/\Hold w0 W (RJ t b2 b3 s.1 j++s.2)) (fun _ _ _ _=>False)
  (fun s x a1 W=>∃ b4,a1={tmps:=#[zAV t.d (.slice p t.kids.length c),.pointer (some ⟨b1,0,none⟩),.pointer (some ⟨b2,0,none⟩),.pointer (some ⟨b3,0,none⟩),.pointer (some ⟨b4,0,none⟩),zAV t.d (.slice p t.kids.length c),.func (.func 98) #[] #[.pointer (some ⟨xb,0,none⟩)],zAV x.1.1.d (.slice x.1.2.1 x.1.1.kids.length x.1.2.2),.int .i64 x.2,undef,undef,undef,undef,undef,undef,undef,undef,undef],defers:=[]}/\((zBO t)[s.1]?=some (x.1.1,x.2)/\x.1.1.kids.length<=x.1.2.2/\s.2.all zA5=true)/\Hold w0 W (.blk b4 (zAR x.1.1.d (.slice x.1.2.1 x.1.1.kids.length x.1.2.2)) 28::(RC t b2 b3 s.1++s.2)))
  (fun W W' row hs hg hr=>hs.stayC (by simp[zA5,zD1]) hB hg hr) (fun j W W' row hs hg hr=>(by
   cases j with
   | none=>exact HoldG.stayC hs (zD1 ..) hB hg hr
   | some k=>obtain⟨v,hv,hs⟩:=hs;exact⟨v,hv,hs.stayC (zJu ..) hB hg hr⟩)) (fun s x j W W' row hs hg hr=>⟨hs.1,hs.2.stayC (by rw[List.all_append,zNY,hs.1];rfl) hB hg hr⟩) (fun s x a1 W W' row ⟨b4,e,h1,h2⟩ hg hr=>⟨b4,e,h1,h2.stayC (by simp[zA5,h1.2.2,zD1]) hB hg hr⟩) ?iter hI ?assign ?body ?done ?pan)
 case iter =>
  intro l B K hBs hKs hBK hY W hI hBW;refine(zF8 t p c F w0 hm hF h xb (RC t b2 b3) (RX t b2 b3) (zD1 t b2 b3) l B w.heap.size hBs (fun v x d E W1 hv hk hE hW hB1=>?_) W hI hBW).mono (fun e W' hh=>?_)
  ·refine(hY (v,E) (x,d) W1 ⟨⟨hv,hk,hE⟩,hW⟩ hB1).mono (fun e W' h=>?_)
   rcases h with ⟨j,rfl,⟨_,hq⟩,hb⟩|⟨ch,_,h,_⟩
   ·refine⟨_,rfl,j,rfl,?_,hb⟩
    cases j with
    | none=>exact hq
    | some k=>exact hq
   ·exact h.elim
  ·obtain⟨v,j,rfl,hb,hh⟩:=hh;refine .inl ⟨v,j,rfl,?_,hb⟩
   cases j with
   | none=>exact hh
   | some k=>exact hh
 case assign =>
  rintro l s x W hJ;simp only[List.zip_toArray,List.foldl_toArray,List.zip_cons_cons,List.zip_nil_right,List.zip_nil_left,List.foldl_cons,List.foldl_nil,List.setIfInBounds_toArray,List.set_cons_succ,List.set_cons_zero];obtain⟨v,E⟩:=s;obtain⟨⟨h1,h2,h3⟩,H⟩:=hJ;simp only[]at h1 h2 h3 H;have hpl:(RC t b2 b3 v++E).all zA5=true:=by rw[List.all_append,zD1,h3];rfl
  have hKN:=Lib.hid fun V=>KeepsNC.of_plain (W':=V) w.heap.size H hpl
  have H1:=H.framed;obtain⟨rS,hrS⟩:∃ rS,zCl W (RC t b2 b3 v++E)=rS:=⟨_,rfl⟩;obtain⟨rF,hrF⟩:∃ rF,zCb W (RC t b2 b3 v++E)=rF:=⟨_,rfl⟩;rw[hrS]at H1 hKN;rw[hrF]at H1;clear hrS hrF H;have H:=H1.perms (show List.Perm _ (.kn rF rS::(RC t b2 b3 v++E)) from List.perm_append_comm (l₁:=RC t b2 b3 v++E) (l₂:=[_]))
  clear H1;refine wpIn_region_lit (zAa (by rintro⟨_,_,h⟩;exact h) _ _ _ rfl ?_)
  go_wp2_with (first|((with_reducible refine kgA 4 ?_);refine kA 4 H ?_;clear H;intro b4 w4 H;replace H:=H.perms List.perm_append_comm;simp only[ca]at H)|((with_reducible refine kg 4 ?_);(first|refine kA 4 H ?_|refine kS 4 H ?_|refine kB 4 H ?_);clear H;intro b4 w H;try simp only[nr]at H)|((with_reducible refine gT ?_);(refine aT H ?_;clear H;intro w H;try simp only[nr]at H)))
  refine⟨hKN.out _ (H.kn (i:=1) i_1),b4,rfl,⟨h1,h2,h3⟩,?_⟩
  exact HoldG.left (R:=[_]) (H.perms (List.Perm.cons _ (List.perm_append_comm (l₁:=[_]) (l₂:=RC t b2 b3 v++E))))
 case body =>
  rintro l ⟨v,E⟩ x a1 W ⟨b4,rfl,⟨h1,h2,h3⟩,H⟩;simp only[]at h1 h2 h3 H;have hlt:v<zAB t:=by rw[← zD8];exact(List.getElem?_eq_some_iff.1 h1).1
  obtain⟨hok,H0⟩:=zMj (t:=t) (b2:=b2) (b3:=b3) (v:=v) (E:=.blk b4 (zAR x.1.1.d (.slice x.1.2.1 x.1.1.kids.length x.1.2.2)) 28::E) (H.perms (List.perm_middle (l₁:=RC t b2 b3 v)).symm);clear H;have hkl:x.1.1.kids.length<=1000000000:=by
   have h4:x.1.1 ∈ (zBO t).map (·.1):=List.mem_map.2 ⟨_,List.mem_of_getElem? h1,rfl⟩;have:=zKZ t x.1.1 h4;have h5:=zBp x.1.1.kids;have h6:=zC0 x.1.1;omega
  have hv2:v<=2000:=by
   unfold okN at hok;rw[Bool.and_eq_true]at hok;exact of_decide_eq_true hok.1
  have hsu:=zN5 h1 hok;have hpl:(RB b2 b3 v++.blk b4 (zAR x.1.1.d (.slice x.1.2.1 x.1.1.kids.length x.1.2.2)) 28::E).all zA5=true:=by simp[zA5,h3]
  have hKN:=Lib.hid fun V=>KeepsNC.of_plain (W':=V) w.heap.size H0 hpl
  have H1:=H0.framed;obtain⟨rS,hrS⟩:∃ rS,zCl W (RB b2 b3 v++.blk b4 (zAR x.1.1.d (.slice x.1.2.1 x.1.1.kids.length x.1.2.2)) 28::E)=rS:=⟨_,rfl⟩;obtain⟨rF,hrF⟩:∃ rF,zCb W (RB b2 b3 v++.blk b4 (zAR x.1.1.d (.slice x.1.2.1 x.1.1.kids.length x.1.2.2)) 28::E)=rF:=⟨_,rfl⟩;rw[hrS]at H1 hKN;rw[hrF]at H1;clear hrS hrF H0;have H:Hold w0 W (.kn rF rS::.blk b2 #[.bool false] 4::.blk b3 #[.int .i64 v] 3::.blk b4 (zAR x.1.1.d (.slice x.1.2.1 x.1.1.kids.length x.1.2.2)) 28::E):=H1.perms (List.perm_append_comm (l₁:=RB b2 b3 v++.blk b4 (zAR x.1.1.d (.slice x.1.2.1 x.1.1.kids.length x.1.2.2)) 28::E) (l₂:=[_]))
  clear H1;have hno:=fun w=>zOo x.1.1.d x.1.2.1 x.1.1.kids.length x.1.2.2 hkl h2 w
  have hend:∀ V,Hold w0 V (.kn rF rS::.blk b2 #[.bool false] 4::.blk b3 #[.int .i64 ((v+1:Nat):Int)] 3::.blk b4 (zAR x.1.1.d (.slice x.1.2.1 x.1.1.kids.length x.1.2.2)) 28::E)->Hold w0 V (RB b2 b3 (v+1)++E):=fun V H=>by
   refine HoldG.left (R:=[.kn rF rS,.blk b4 (zAR x.1.1.d (.slice x.1.2.1 x.1.1.kids.length x.1.2.2)) 28]) (H.perms ?_);refine List.Perm.trans (l₂:=.kn rF rS::.blk b4 (zAR x.1.1.d (.slice x.1.2.1 x.1.1.kids.length x.1.2.2)) 28::(RB b2 b3 (v+1)++E)) (List.Perm.cons _ (List.perm_middle (l₁:=RB b2 b3 (v+1)))) ?_
   exact List.perm_append_comm (l₁:=[_,_]) (l₂:=RB b2 b3 (v+1)++E)
  have HEND:=Lib.hid hend;clear hend;have HSU:=Lib.hid hsu;clear hsu;have H3:=Lib.hid h3;clear h3 hpl;clear h1 h2 hkl hok
  by_cases hv:v+1<=2000
  ·have dv:decide (((v:Int)+1) > 2000)=false:=by simp;omega
   cases hn:zAu x.1.1.d x.1.1.kids.length with
   | true =>
    rw[hn]at hno;have HO:=Lib.hid (show okN t (v+1)=true by rw[HSU.out,hn];simp;omega)
    clear hn;refine wpIn_block (wpIn_seq (wpIn_region_lit (zAa (by rintro⟨_,_,h⟩;exact h) _ _ _ rfl ?_)))
    go_wp2_with (first|(first|((with_reducible refine gT ?_);(refine aO H ?_;clear H;intro w H;try simp only[nr]at H))|((with_reducible refine gL ?_);refine aG H ?_)))
    refine wpIn_seq (wpIn_region_lit (zAa (by rintro⟨_,_,h⟩;exact h) _ _ _ rfl ?_))
    go_wp2_with (first|((with_reducible refine gL ?_);(first|refine aG H ?_|refine aD H ?_))|((with_reducible refine ch (hno _) H ?_);clear H;intro w H))
    refine wpIn_cond_false rfl (wpIn_skip ?_);refine⟨hKN.out _ (H.kn (i:=0) .zero),(by simpa using H3.out),?_⟩
    show Hold w0 _ (RC t b2 b3 (v+1)++E)
    unfold RC;rw[if_pos HO.out];exact HEND.out _ H
   | false =>
    rw[hn]at hno;have HO:=Lib.hid (show okN t (v+1)=false by rw[HSU.out,hn];simp)
    clear hn;refine wpIn_block (wpIn_seq (wpIn_region_lit (zAa (by rintro⟨_,_,h⟩;exact h) _ _ _ rfl ?_)))
    go_wp2_with (first|(first|((with_reducible refine gT ?_);(refine aO H ?_;clear H;intro w H;try simp only[nr]at H))|((with_reducible refine gL ?_);refine aG H ?_)))
    refine wpIn_seq (wpIn_region_lit (zAa (by rintro⟨_,_,h⟩;exact h) _ _ _ rfl ?_))
    go_wp2_with (first|((with_reducible refine gL ?_);(first|refine aG H ?_|refine aD H ?_))|((with_reducible refine ch (hno _) H ?_);clear H;intro w H))
    refine wpIn_cond_true rfl (wpIn_seq (wpIn_region_lit (zAa (by rintro⟨_,_,h⟩;exact h) _ _ _ rfl ?_)))
    go_wp2_with (first|((with_reducible refine gT ?_);(refine aO H ?_;clear H;intro w H;try simp only[nr]at H)))
    refine wpIn_ret ?_
    refine⟨hKN.out _ (H.kn (i:=0) .zero),(by simpa using H3.out),?_⟩
    show Hold w0 _ (RX t b2 b3 v .ret++E)
    unfold RX;simp only[];rw[if_pos HO.out];exact HEND.out _ H
  ·have dv:decide (((v:Int)+1) > 2000)=true:=by simp;omega
   have HO:=Lib.hid (show okN t (v+1)=false by rw[HSU.out,decide_eq_false hv];rfl)
   refine wpIn_block (wpIn_seq (wpIn_region_lit (zAa (by rintro⟨_,_,h⟩;exact h) _ _ _ rfl ?_)))
   go_wp2_with (first|(first|((with_reducible refine gT ?_);(refine aO H ?_;clear H;intro w H;try simp only[nr]at H))|((with_reducible refine gL ?_);refine aG H ?_)))
   refine wpIn_seq (wpIn_region_lit (zAa (by rintro⟨_,_,h⟩;exact h) _ _ _ rfl ?_))
   go_wp2_with (first|((with_reducible refine gL ?_);refine aG H ?_))
   refine wpIn_cond_true rfl (wpIn_seq (wpIn_region_lit (zAa (by rintro⟨_,_,h⟩;exact h) _ _ _ rfl ?_)))
   go_wp2_with (first|((with_reducible refine gT ?_);(refine aO H ?_;clear H;intro w H;try simp only[nr]at H)))
   refine wpIn_ret ?_
   refine⟨hKN.out _ (H.kn (i:=0) .zero),(by simpa using H3.out),?_⟩
   show Hold w0 _ (RX t b2 b3 v .ret++E)
   unfold RX;simp only[];rw[if_pos HO.out];exact HEND.out _ H
 case done =>
  rintro D j W hD hS hK
  cases j with
  | none =>
   obtain⟨hok,H0⟩:=zMj (t:=t) (b2:=b2) (b3:=b3) (v:=zAB t) (E:=[]) (by rw[List.append_nil];exact hS)
   rw[zMF]at hok;rw[hok];have hKN:=Lib.hid fun V=>KeepsNC.of_plain (W':=V) w.heap.size H0 rfl
   have H1:=H0.framed;obtain⟨rS,hrS⟩:∃ rS,zCl W (RB b2 b3 (zAB t)++[])=rS:=⟨_,rfl⟩;obtain⟨rF,hrF⟩:∃ rF,zCb W (RB b2 b3 (zAB t)++[])=rF:=⟨_,rfl⟩;rw[hrS]at H1 hKN;rw[hrF]at H1;clear hrS hrF H0 hI hS;have H:Hold w0 W [.blk b2 #[.bool false] 4,.blk b3 #[.int .i64 (zAB t)] 3,.kn rF rS]:=H1;clear H1;have hD2:w0.heap.size<=D:=Nat.le_trans hB hD;refine zBP (zBg ?_)
   go_wp2_with (first|((with_reducible refine gT ?_);(refine aO H ?_;clear H;intro w H;try simp only[nr]at H)))
   refine zBg ?_
   go_wp2_with fail
   have hK3:=(hKN.out _ (H.kn (i:=2) i_2)).same _ _ hD hK rfl;refine⟨by simp,.inl ⟨D,_,rfl,run_takeDeferred hK3,?_⟩⟩
   have H3:Hold w0 _ [.blk b2 #[.bool true] 4]:=H.pick [0] _ (by decide) rfl
   have H5:=Stay.putObj (Stay.plain rfl (Nat.le_refl _)) (.deferred none) H3 hD2 hK3 rfl;refine⟨_,zEF Tryz.results34 rfl zA9 ((H5.cell (i:=0) .zero 0).trans rfl),rfl,H5.below⟩
  | some k =>
   obtain⟨v,hv,hS⟩:=hS;obtain⟨rfl,hok,H0⟩:=zOi (t:=t) (b2:=b2) (b3:=b3) (v:=v) (E:=[]) (by rw[List.append_nil];exact hS)
   rw[zPm hv hok];have hD2:w0.heap.size<=D:=Nat.le_trans hB hD;refine⟨by simp,.inl ⟨D,_,rfl,run_takeDeferred hK,?_⟩⟩
   have H3:Hold w0 _ [.blk b2 #[.bool false] 4]:=H0.pick [0] _ (by decide) rfl
   have H5:=Stay.putObj (Stay.plain rfl (Nat.le_refl _)) (.deferred none) H3 hD2 hK rfl;refine⟨_,zEF Tryz.results34 rfl zA9 ((H5.cell (i:=0) .zero 0).trans rfl),rfl,H5.below⟩
 case pan=>exact fun D ch W _ h _=>h.elim

section
variable {M:Nat->Prop} {P:Program} {f:FuncId} {args:Array Value} {w w0:World} {l:List Res} {G:Nat->Prop} {R:Ending->World->Prop}
end
theorem ok_7 {d:NodeD} {k:Nat} (h:zAu d k=true) (h7:d.kind=7):k=1:=by
 simp[zAu,zBM,h7]at h;omega
theorem ok_6 {d:NodeD} {k:Nat} (h:zAu d k=true) (h6:d.kind=6):k=1/\(0<=d.lo/\d.lo<=100)/\(d.hi = -1\/d.lo<=d.hi/\d.hi<=100):=by
 simp[zAu,zBM,h6]at h;omega

def zOe (w:World) (r:Except Nat Tree) (e:Ending) (w':World):Prop:=match r with
 | .ok t=>∃ p c F,e=.returned (.tuple #[zAV t.d (.slice p t.kids.length c),.int .i64 0])/\ForestR w' F p c t.kids/\∀ b,F b->b<w'.heap.size/\w.heap.size<=b
 | .error k=>e=.returned (.tuple #[zAV {kind:=0} nilS,.int .i64 k])
end
section
open Go.RowKit
structure RCtxU (C:List Nat) (hd l:List Oper) (e i:Nat) (Ss:Nat->Value->World->Prop) (S1:Value->World->Prop) (a0:Act) (w0:World) (o:Oper) (a:Act) (w:World):Prop where
 st:Below w0.heap.size w0 w\/∃ v,S1 v w
 frame:∀ t,hd.any (fun o=>o.dst == some t)=false->a.eval (.tmp t)=a0.eval (.tmp t)
 dep:∀ j d,(i=e\/j ∉ C)->o.after.toList.any (fun e=>Region.binds .any e&&e.on == j)=true->(hd[j]?).bind (·.dst)=some d->Ss j (a.eval (.tmp d)) w
 ahead:∀ oe,l[e]?=some oe->oe.after.toList.any (fun x=>Region.binds .any x&&x.on == i)=true->Below w0.heap.size w0 w
def OblU (P:Program) (C:List Nat) (l hd:List Oper) (e:Nat) (L:List (Value->World->Prop)) (T:World->World->Prop) (S1:Value->World->Prop) (a0:Act) (w0:World):List Oper->Nat->Prop
 | [],_=>True
 | o::r,i=>(if i=e then ∀ a w,RCtxU C hd l e i (zAe L) S1 a0 w0 o a w->Below w0.heap.size w0 w->o.wp P a w (fun a' w'=>∃ v,a'=a.put o.dst v/\T w w'/\S1 v w') (fun _ _ _=>False)
   else ∀ a w,RCtxU C hd l e i (zAe L) S1 a0 w0 o a w->zBZ P l.toArray o a w (fun v w'=>zAe L i v w'/\(false=true->w.heap.size<=blk v)))/\OblU P C l hd e L T S1 a0 w0 r (i+1)
theorem OblU.get {P:Program} {C:List Nat} {l hd:List Oper} {e:Nat} {L:List (Value->World->Prop)} {T:World->World->Prop} {S1:Value->World->Prop} {a0:Act} {w0:World}:∀ (r:List Oper) (k:Nat),OblU P C l hd e L T S1 a0 w0 r k->∀ i o,r[i]?=some o ->
  if k+i=e then ∀ a w,RCtxU C hd l e (k+i) (zAe L) S1 a0 w0 o a w->Below w0.heap.size w0 w->o.wp P a w (fun a' w'=>∃ v,a'=a.put o.dst v/\T w w'/\S1 v w') (fun _ _ _=>False)
   else ∀ a w,RCtxU C hd l e (k+i) (zAe L) S1 a0 w0 o a w->zBZ P l.toArray o a w (fun v w'=>zAe L (k+i) v w'/\(false=true->w.heap.size<=blk v))
 | [],_,_,_,_,h=>by simp at h
 | o::r,k,h,0,o',h'=>by simp at h';subst h';exact h.1
 | o::r,k,h,i+1,o',h'=>by
  have:=OblU.get r (k+1) h.2 i o' (by simpa using h')
  rwa [show k+1+i=k+(i+1) from by omega]at this
end
section
open Go.RowKit Go.Shelf
attribute [local go_sem] Oper.semAt_some
theorem zH3 (d:InstD) (W:World):(Instr.buildSlice 32 1 #[(0,zA2 d)]).run Tryz.prog W=.ok (.slice (some ⟨W.heap.size,0,none⟩) 1 1) (W.alloc (.cells (zAJ d) 47)):=by kernel_rfl
theorem zCU {ops:Array Oper} {o:Oper} {a:Act} {w:World} {x:Operand} {d:InstD} {n0:Nat} {D:Prop} (hg:Region.wanted o (yielded ops a.tmps)=true) (hop:o.op=Op.buildSlice 32 1 #[(0,x)]) (hx:a.eval x=zA2 d) (hn:n0<=w.heap.size) (hD:¬ D) :
  zBZ Tryz.prog ops o a w (fun v w'=>zCo n0 (zAJ d) 47 v w'/\(D->w.heap.size<=blk v)):=by
 refine zDn hg (v:=.slice (some ⟨w.heap.size,0,none⟩) 1 1) (w':=w.alloc (.cells (zAJ d) 47)) ?_ ((Below.refl _ w).alloc (Nat.le_refl _) _) ⟨⟨w.heap.size,rfl,hn,World.alloc_heap_new w _⟩,fun h=>(hD h).elim⟩
 simp only[execOp,hop,List.map_toArray,List.map_cons,List.map_nil,hx,Sem.run_bind,zH3];rfl
theorem zK6:(Tryz.prog.info? 47).map (fun i=>(i.zero,i.size,i.bytes))=some (some (.agg (zAJ {kind:=0})),9,72):=by kernel_rfl
section
variable {M:Nat->Prop} {w0 w:World}
end
section
variable {M:Nat->Prop} {P:Program} {f:FuncId} {args:Array Value} {w w0:World} {l3:List Res} {R:Ending->World->Prop} {bc:Nat} {v r:Value} {xs ys:List InstD} {F:Nat->Prop} {S:World->Prop}
end
theorem zP9 {d:NodeD} {k:Nat} (h:zAu d k=true) (h7:d.kind=7):0<d.group/\d.group<=20:=by
 simp[zAu,zBM,h7]at h;omega
theorem ok_5 {d:NodeD} {k:Nat} (h:zAu d k=true) (h5:d.kind=5):1<k:=by
 simp[zAu,zBM,h5]at h;omega
section
variable {M:Nat->Prop} {P:Program} {f:FuncId} {args:Array Value} {w w0:World} {l:List Res} {R:Ending->World->Prop}
theorem zOI {t:Tree} (c:Calls P f args w fun e w'=>zOe w (.ok t) e w'/\Below w.heap.size w w') (H:HoldG M w0 w l)
  (k:∀ p n F w',(∀ b,F b->w0.heap.size<=b)->HoldG M w0 w' (l++[.kn F (fun V=>ForestR V F p n t.kids)])->R (.returned (.tuple #[zAV t.d (.slice p t.kids.length n),.int .i64 0])) w'):Calls P f args w R:=c.mono fun _ w' h=>by
 obtain⟨⟨p,n,F,rfl,hs,hF⟩,hb⟩:=h;exact k p n F w' (fun b h=>Nat.le_trans H.keep.size (hF b h).2) (H.learn hb Still.none (fun b h=>⟨(hF b h).1,.inl (hF b h).2⟩) (fun V hV=>hs.kept hV))
theorem zPF {x:Nat} (c:Calls P f args w fun e w'=>zOe w (.error x) e w'/\Below w.heap.size w w') (H:HoldG M w0 w l)
  (k:∀ w',HoldG M w0 w' l->R (.returned (.tuple #[zAV {kind:=0} nilS,.int .i64 x])) w'):Calls P f args w R:=c.mono fun _ w' h=>by
 obtain⟨rfl,hb⟩:=h;exact k w' (H.call hb)
end
section
variable {M:Nat->Prop} {ops:Array Oper} {dst:Option Tmp} {ty:TypeId} {pos:String} {aft:Array Edge} {grd:Option (Nat × Bool)} {rest:List Oper} {a:Act} {w w0:World} {l:List Res} {Q:Exit->Act->World->Prop}
end
end
end Go.Proofs.YtalggmbdpmdcbaaGreat
