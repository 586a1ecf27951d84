/-
  Laws of walks, and walks.
-/
import Derived.Test.YtklcgfkdemifcaaDoorSr5
import Derived.Test.YtklcgfkdemifcaaDoorSr1
import Derived.Test.YtklcgfkdemifcaaDoorSr3
set_option linter.unusedVariables false
set_option linter.unusedSimpArgs false
set_option maxRecDepth 100000
set_option maxHeartbeats 16000000
namespace Go.Proofs.YtklcgfkdemifcaaDoor
section
open Go.RowKit Go.Shelf
attribute [local go_sem] Oper.semAt_some
theorem zB9 {P:Program} {ops:Array Oper} {rest:List Oper} {o:Oper} {a:Act} {w w0:World} {Q:Exit→Act→World→Prop} {l:List Res} {M:Nat→Prop} (hg:Region.wanted o (yielded ops a.tmps)=true) (T:TypeId) (x y:Operand) (ho:o.op=.store T x y) {g i n cap sz:Nat} (hx:a.eval x=.pointer (some ⟨g,i,none⟩)) {v:Value} (hy:a.eval y=v) (H:HoldG M w0 w l) {j:Nat} {e:TypeId} {xs:List Value}
  (hi:At l j (.row (.slice (some ⟨g,0,none⟩) n cap) e sz n xs)) (hT:zCx P T 1=true) (h1:v.oneCell'=true) (hin:i<n * sz)
  (h:∀ w',HoldG M w0 w' (l.set j (.row (.slice (some ⟨g,0,none⟩) n cap) e sz n (xs.set i v)))→wpList P ops Q rest (a.put o.dst undef) w'):wpList P ops Q (o::rest) a w:=by
 exact zAd hg fun _ hK=>by
  obtain⟨hlen,⟨hv',_⟩|⟨g',cap',cur,hv',hb,hg',hn,hc,hsz,ht⟩⟩:=H.all j _ hi.get
  ·cases hv'
  ·cases hv'
   have hs:(⟨g,i,none⟩:Addr).add 0=⟨g,i,none⟩:=by rw[Addr.add_mid];rfl
   have hcell:w.cell? ⟨g,i,none⟩=cur[i]?:=by simp[World.cell?,hg']
   have hfr:w.frozen? ⟨g,i,none⟩=false:=by simp[World.frozen?,hg']
   have hm:n * sz≤cap * sz:=Nat.mul_le_mul_right _ hn;have hisz:i<cur.size:=by omega
   unfold Oper.wp execOp;simp only[ho,hx,hy,Instr.storeAt,Instr.sureAddr,Sem.run_bind,Sem.run_pure,Result.andThen_ok,zCE (P:=P) (w:=w) hT h1 (by rw[hcell];simp[hisz]) hfr hs]
   have hh:=heap_setCell hg' (k:=i) v;refine hK _ _ (h _ (H.upd hi.get (zCM w g i v) ⟨by rw[List.length_set];exact hlen,.inr ⟨g,cap,_,rfl,hb,hh,hn,hc,?_,?_⟩⟩ (fun _ e=>.inl e)))
   ·simp[hsz]
   ·rw[← ht,Array.toList_setIfInBounds,List.take_set]
theorem zJb {sz:Nat} {rows:List (Array Value)} {r:Array Value} (hs:∀ r ∈ rows,r.size=sz) (i:Nat) (v:Value) (hi:i<r.size):(zAc (rows++[r])).set (rows.length * sz+i) v=zAc (rows++[r.setIfInBounds i v]):=by
 rw[zBe,zBe,zHw,zHw];have hl:=zBj hs;rw[List.set_append_right _ _ (by omega),hl,Nat.add_sub_cancel_left,Array.toList_setIfInBounds]
theorem zJv:(Tryd.prog.info? 69).map (fun i=>(i.zero,i.size,i.bytes))=some (some (.agg (levC ⟨0,0,(false,false,false),[],[],none,0,none,0⟩)),7,72):=by kernel_rfl
theorem zMH (l:LevM) (W:World):(Instr.buildSlice 57 1 #[(0,.agg (levC l))]).run Tryd.prog W=.ok (.slice (some ⟨W.heap.size,0,none⟩) 1 1) (W.alloc (.cells (levC l) 69)):=by kernel_rfl
section
variable {M:Nat→Prop} {w0 w:World}
abbrev rowN (q:Option Addr) (c:Nat) (xs:List TV):Res:=.row (.slice q xs.length c) 31 10 xs.length (zAc (xs.map zAo))
abbrev rowL (q:Option Addr) (n c:Nat) (ls:List LevM):Res:=.row (.slice q n c) 69 7 n (zAc (ls.map levC))
abbrev knL (F:Nat→Prop) (zs:List TV):Res:=.kn F (fun V=>ListR V F zs)
abbrev knT (F:Nat→Prop) (q:Option Addr) (c:Nat) (ts:List Tree):Res:=.kn F (fun V=>ForestR V F q c ts)
abbrev blkP (pb:Nat) (lq:Option Addr) (ln lc last:Nat) (f:zAU) (g:Nat) (oq:Option Addr) (on oc:Nat):Res:=.blk pb (psC lq ln lc last f g (.slice oq on oc)) 59
def putL (pb:Nat) (lq:Option Addr) (ln lc last:Nat) (f:zAU) (g og oc:Nat) (pre:List LevM) (l:LevM) (F:Nat→Prop) (zs:List TV):List Res :=
 [blkP pb lq ln lc last f g (some ⟨og,0,none⟩) (pre.length+1) oc,rowL (some ⟨og,0,none⟩) (pre.length+1) oc (pre++[l]),knL F zs,rowN l.iq l.ic l.items]
theorem zCc {W:World} {ls:List Res} (H:HoldG M w0 W ls) {i og oc:Nat} {pre:List LevM} {l:LevM} (hi:At ls i (rowL (some ⟨og,0,none⟩) (pre.length+1) oc (pre++[l]))) (k:Nat) (hk:k<7:=by decide):W.cell? ⟨og,pre.length * 7+k,none⟩=(levC l)[k]? :=
 H.rowCell hi (zFu _) (by simp) (j:=pre.length) (r:=levC l) (by simp) rfl k hk
theorem zFy (pre:List LevM) (l l':LevM) (k:Nat) (v:Value) (hk:k<7) (h:(levC l).setIfInBounds k v=levC l'):(zAc ((pre++[l]).map levC)).set (pre.length * 7+k) v=zAc ((pre++[l']).map levC):=by
 have:=zJb (sz:=7) (rows:=pre.map levC) (r:=levC l) (zFu pre) k v hk;rw[List.length_map]at this;rw[List.map_append,List.map_cons,List.map_nil,this,h,List.map_append,List.map_cons,List.map_nil]
theorem zLh {P:Program} {f:FuncId} {args:Array Value} {l:List Res} {e0:Ending} {R:Ending→World→Prop} (c:Calls P f args w fun e w'=>e=e0∧Below w.heap.size w w') (H:HoldG M w0 w l) (k:∀ w',HoldG M w0 w' l→R e0 w'):Calls P f args w R:=ch c H k
theorem zKf (pb:Nat) (lq:Option Addr) (ln lc last:Nat) (f:zAU) (g og oc:Nat) (pre:List LevM) (l:LevM) (F Fn:Nat→Prop) (zs:List TV) (t:Tree) (q:Option Addr) (c n:Nat) (hn:pre.length≤1000000) (hi:l.items.length≤1000000) (hk:n=t.kids.length) (hsub:∀ x ∈ l.items,x ∈ zs)
  (H0:HoldG M w0 w (putL pb lq ln lc last f g og oc pre l F zs++[knT Fn q c t.kids])) :
  Calls Tryd.prog 36 #[.pointer (some ⟨pb,0,none⟩),zAa t.d (.slice q n c)] w fun e w'=>e=.returned (.tuple #[])∧∃ iq ic F',(∀ b,F' b→F b∨Fn b) ∧
   Turned M w0 w (putL pb lq ln lc last f g og oc pre l F zs++[knT Fn q c t.kids]) (putL pb lq ln lc last f g og oc pre {l with items:=l.items++[(t,q,c)],iq:=iq,ic:=ic} F' (zs++[(t,q,c)])) w':=by
 obtain⟨i0,hi0,hz0,hz1,hz2⟩:=info_parts zGJ;have H:=H0.framed;clear H0;obtain⟨l1,hl1⟩:∃ l1,putL pb lq ln lc last f g og oc pre l F zs++[knT Fn q c t.kids]=l1:=⟨_,rfl⟩;obtain⟨rF,hrF⟩:∃ rF,zBN w l1=rF:=⟨_,rfl⟩;obtain⟨rS,hrS⟩:∃ rS,zCB w l1=rS:=⟨_,rfl⟩;rw[hl1,hrF,hrS,← hl1]at H;simp only[putL,List.cons_append,List.nil_append]at H;obtain⟨ni,hni⟩:∃ ni,l.items.length=ni:=⟨_,rfl⟩;have HNI:=Lib.hid hni
 rw[hni]at hi;have HK:=Lib.hid hk;clear hk;have HS:=Lib.hid hsub;clear hsub;have HR:=Lib.hid (And.intro hl1 (And.intro hrF hrS));clear hl1 hrF hrS;clear hni
 go_enter Tryd.func36,Tryd.ntmps36
 go_upto_region 1 with (first|((first|((with_reducible refine kgA 3 ?_);refine kA 3 H ?_)|((with_reducible refine kgX 3 ?_);(first|refine kS 3 H ?_|refine kB 3 H ?_)));clear H;intro b3 w H;try simp only[nr]at H)|fail)
 refine zCH 9 [fun v _=>v=pt pb 0,fun v _=>v=.pointer (some ⟨og,pre.length * 7,none⟩),fun v _=>v=pt pb 0,fun v _=>v=.pointer (some ⟨og,pre.length * 7,none⟩),fun v _=>v=.pointer (some ⟨og,pre.length * 7,none⟩),fun v _=>v=.pointer (some ⟨og,pre.length * 7+6,none⟩),fun v _=>v=.slice l.iq l.items.length l.ic,fun v _=>v=.agg (zAQ (t.d) (.slice q n c)),zDw w.heap.size (zAQ t.d (.slice q n c)) 31] (fun _=>false) (by kernel_rfl) (by kernel_rfl) (by kernel_rfl) (by repeat (first|exact trivial|refine⟨zBL _,?_⟩|refine⟨zCD _ _ _,?_⟩)) (fun _ _ h=>by cases h) ?ob ?en
 case ob =>
  refine⟨?_,?_,?_,?_,?_,?_,?_,?_,?_,trivial⟩<;>intro A W h
  ·exact zAY rfl rfl (h.f 0)
  ·exact zCN rfl rfl (enters_of Tryd.func22 (by kernel_rfl) rfl) (zCC (h.d 0 4)) (zEr pb og pre.length oc W (Array.getElem?_eq_some_iff.1 ((H.call h.below).blk .zero).2).1 hn ((H.call h.below).cell .zero 6))
  ·exact zAY rfl rfl (h.f 0)
  ·exact zCN rfl rfl (enters_of Tryd.func22 (by kernel_rfl) rfl) (zCC (h.d 2 6)) (zEr pb og pre.length oc W (Array.getElem?_eq_some_iff.1 ((H.call h.below).blk .zero).2).1 hn ((H.call h.below).cell .zero 6))
  ·(have e7:A.eval (.tmp 7)=.pointer (some ⟨og,pre.length * 7,none⟩):=h.d 3 7;refine zAB rfl ?_;simp only[execOp,e7];(simp[go_sem]<;>first|done|omega|(rw[IntKind.wrap_i64];omega)|(rw[IntKind.wrap_u8];omega)|(rw[IntKind.wrap_u64];omega)))
  ·(have e8:A.eval (.tmp 8)=.pointer (some ⟨og,pre.length * 7,none⟩):=h.d 4 8;refine zAB rfl ?_;simp only[execOp,e8];(simp[go_sem]<;>first|done|omega|(rw[IntKind.wrap_i64];omega)|(rw[IntKind.wrap_u8];omega)|(rw[IntKind.wrap_u64];omega)))
  ·exact zAB rfl (zAL rfl (h.d 5 9) zAV (zCc (H.call h.below) (i:=1) i_1 6)) (by decide)
  ·exact zAB rfl (zCI (n:=10) rfl (h.f 3) (by first|(with_reducible exact zAW)|(with_reducible exact zAf)|(with_reducible exact zBC)|(with_reducible exact zB1)) rfl (fun k _=>by rw[Nat.zero_add];exact(H.call h.below).cell (i:=6) i_6 k)) (by decide)
  ·exact zHs rfl rfl (h.d 7 11) (fun W=>zEN _ _ W) h.below.size (by decide)
 case en =>
  intro vals W hbw hv _;have x8:=hv 8 (by omega);simp only[zAq]at x8
  simp only[fa,Nat.reduceAdd];rw[e_ hv 0,e_ hv 1,e_ hv 2,e_ hv 3,e_ hv 4,e_ hv 5,e_ hv 6,e_ hv 7];clear hv
  try simp only[pl]
  obtain⟨bk,e8,H2⟩:=H.gainS hbw x8;rw[e8];clear x8 e8 hbw H;have H:=H2;clear H2;simp only[ca]at H
  go_wp2_with (first|(at_builtin;refine zEz rfl _ _ 29 rfl H (i:=3) (j:=7) evd_ rfl i_3 i_7 Tryd.underlying29 hi0 hz0 hz1 hz2 rfl (by decide) rfl rfl (by rw[HNI.out];unfold maxLen;omega) (by rw[HNI.out];omega) ?_;clear H;intro v2 w H;(try simp only[nr]at H);(obtain⟨q2,c2,rfl,_,_,_⟩:=H.rowShape (i:=3) i_3))|((with_reducible refine gT ?_);refine zB9 wtd_ _ _ _ rfl rfl evd_ H (j:=1) i_1 (by with_reducible exact zAC zAV) rfl (by omega) ?_;clear H;intro w H;try simp only[nr]at H)|fail)
  rw[zFy pre l {l with items:=l.items++[(t,q,c)],iq:=q2,ic:=c2} 6 _ (by decide) (by simp[levC])]at H
  have H3:=H.also (fun b=>F b∨Fn b) (fun V=>ListR V (fun b=>F b∨Fn b) (zs++[(t,q,c)])) ((Still.at (i:=2) i_2).or (Still.at (i:=4) i_4)) (fun V hV=>ListR.append (((H.kn (i:=2) i_2).mono (fun _ h=>.inl h)).kept hV) (ListR.one (((H.kn (i:=4) i_4).mono (fun _ h=>.inr h)).kept hV)))
  simp only[ca]at H3;rw[zOm (x:=(t,q,c)) (by rw[HK.out]),show l.items.length+1=(l.items++[(t,q,c)]).length by simp]at H3
  obtain⟨h1,h2,h3⟩:=HR.out;refine⟨rfl,.tuple #[],resE rfl,rfl,q2,c2,fun b=>F b∨Fn b,fun b h=>h,?_⟩
  rw[← h2,← h3]at H3;rw[h1];refine Turned.of H3 (i:=5) i_5 [0,1,8,3] (by decide) (by decide) rfl (fun F' S' hm b hb=>?_)
  simp only[putL,List.mem_cons,List.not_mem_nil,or_false,reduceCtorEq,false_or,Res.kn.injEq]at hm;obtain⟨rfl,_⟩:=hm;exact .inl (hb.elim (fun h=>⟨knL F zs,by rw[← h1];simp[putL],h⟩) (fun h=>⟨knT Fn q c t.kids,by rw[← h1];simp,h⟩))
def newL (a k:Nat) (f:zAU):LevM:=⟨a,k,f,[],[],none,0,none,0⟩
theorem zMi (a k:Nat) (f:zAU) (W:World):(Instr.build 69 #[(0,.int .i64 a),(1,.int .i64 k),(2,.agg #[.bool f.1,.bool f.2.1,.bool f.2.2])]).run Tryd.prog W=.ok (.agg (levC (newL a k f))) W:=by simp[go_sem];rfl
def zBH (pb:Nat) (lq:Option Addr) (ln lc last:Nat) (f:zAU) (g:Nat) (oq:Option Addr) (oc:Nat) (ls:List LevM):List Res :=
 [blkP pb lq ln lc last f g oq ls.length oc,rowL oq ls.length oc ls]
theorem zMY (pb:Nat) (lq:Option Addr) (ln lc last:Nat) (f:zAU) (g:Nat) (oq:Option Addr) (oc:Nat) (ls:List LevM) (at_ gr:Nat) (hn:ls.length≤1000000) (H0:HoldG M w0 w (zBH pb lq ln lc last f g oq oc ls)) :
  Calls Tryd.prog 18 #[.pointer (some ⟨pb,0,none⟩),.int .i64 at_,.int .i64 gr] w fun e w'=>e=.returned (.tuple #[])∧∃ oq' oc',Turned M w0 w (zBH pb lq ln lc last f g oq oc ls) (zBH pb lq ln lc last f g oq' oc' (ls++[newL at_ gr f])) w':=by
 obtain⟨i0,hi0,hz0,hz1,hz2⟩:=info_parts zJv;have H:=H0.framed;clear H0;obtain⟨l1,hl1⟩:∃ l1,zBH pb lq ln lc last f g oq oc ls=l1:=⟨_,rfl⟩;obtain⟨rF,hrF⟩:∃ rF,zBN w l1=rF:=⟨_,rfl⟩;obtain⟨rS,hrS⟩:∃ rS,zCB w l1=rS:=⟨_,rfl⟩;rw[hl1,hrF,hrS,← hl1]at H;simp only[zBH,List.cons_append,List.nil_append]at H;obtain⟨n,hnn⟩:∃ n,ls.length=n:=⟨_,rfl⟩;have HN:=Lib.hid hnn;rw[hnn]at hn H;clear hnn;have HR:=Lib.hid (And.intro hl1 (And.intro hrF hrS));clear hl1 hrF hrS
 go_enter Tryd.func18,Tryd.ntmps18
 refine zCL 13 0 [fun v _=>v=pt pb 0,fun v _=>v=pt pb 0,fun v _=>v=pt pb 0,fun v _=>v=pt pb 6,fun v _=>v=.slice oq n oc,fun v _=>v=.int .i64 at_,fun v _=>v=.int .i64 gr,fun v _=>v=pt pb 0,fun v _=>v=pt pb 0,fun v _=>v=pt pb 2,fun v _=>v=.agg #[.bool f.1,.bool f.2.1,.bool f.2.2],fun v _=>v=.agg (levC (newL at_ gr f)),zDw w.heap.size (levC (newL at_ gr f)) 69] (fun _=>false) (by kernel_rfl) (by kernel_rfl) (by kernel_rfl) (by repeat (first|exact trivial|refine⟨zBL _,?_⟩|refine⟨zCD _ _ _,?_⟩)) (fun _ _ h=>by cases h) ?ob ?en ?en2
 case ob =>
  refine⟨?_,?_,?_,?_,?_,?_,?_,?_,?_,?_,?_,?_,?_,trivial⟩<;>intro A W h
  ·exact zAY rfl rfl (h.f 0)
  ·exact zAY rfl rfl (h.f 0)
  ·(have e7:A.eval (.tmp 7)=.pointer (some ⟨pb,0,none⟩):=h.d 1 7;refine zAB rfl ?_;simp only[execOp,e7];(simp[go_sem]<;>first|done|omega|(rw[IntKind.wrap_i64];omega)|(rw[IntKind.wrap_u8];omega)|(rw[IntKind.wrap_u64];omega)))
  ·(have e8:A.eval (.tmp 8)=.pointer (some ⟨pb,0,none⟩):=h.d 2 8;refine zAB rfl ?_;simp only[execOp,e8];(simp[go_sem]<;>first|done|omega|(rw[IntKind.wrap_i64];omega)|(rw[IntKind.wrap_u8];omega)|(rw[IntKind.wrap_u64];omega)))
  ·exact zAB rfl (zAL rfl (h.d 3 9) (by first|(with_reducible exact zAJ)|(with_reducible exact one_u8)|(with_reducible exact zAZ)|(with_reducible exact zAh)|(with_reducible exact zAe)|(with_reducible exact one_u64)|(with_reducible exact zAV)|(with_reducible exact zAN)|(with_reducible exact zAR)|(with_reducible exact zAM)|(with_reducible exact zAD)|(with_reducible exact zAE)) ((H.call h.below).cell (i:=0) .zero 6)) (by decide)
  ·exact zAY rfl rfl (h.f 1)
  ·exact zAY rfl rfl (h.f 2)
  ·exact zAY rfl rfl (h.f 0)
  ·(have e13:A.eval (.tmp 13)=.pointer (some ⟨pb,0,none⟩):=h.d 7 13;refine zAB rfl ?_;simp only[execOp,e13];(simp[go_sem]<;>first|done|omega|(rw[IntKind.wrap_i64];omega)|(rw[IntKind.wrap_u8];omega)|(rw[IntKind.wrap_u64];omega)))
  ·(have e14:A.eval (.tmp 14)=.pointer (some ⟨pb,0,none⟩):=h.d 8 14;refine zAB rfl ?_;simp only[execOp,e14];(simp[go_sem]<;>first|done|omega|(rw[IntKind.wrap_i64];omega)|(rw[IntKind.wrap_u8];omega)|(rw[IntKind.wrap_u64];omega)))
  ·exact zAB rfl (zCI (n:=3) rfl (h.d 9 15) (by first|(with_reducible exact zAW)|(with_reducible exact zAf)|(with_reducible exact zBC)|(with_reducible exact zB1)) rfl (fun k hk=>((H.call h.below).cell (i:=0) .zero (2+k)).trans (by match k,hk with|0,_=>rfl|1,_=>rfl|2,_=>rfl))) (by decide)
  ·(have e5:A.eval (.tmp 11)=.int .i64 at_:=h.d 5 11;have e6:A.eval (.tmp 12)=.int .i64 gr:=h.d 6 12;have e10:A.eval (.tmp 16)=.agg #[.bool f.1,.bool f.2.1,.bool f.2.2]:=h.d 10 16;refine zAB rfl ?_ (by decide);simp only[execOp,List.map_toArray,List.map_cons,List.map_nil,e5,e6,e10,Sem.run_bind,zMi];rfl)
  ·exact zHs rfl rfl (h.d 11 17) (fun W=>zMH _ W) h.below.size (by decide)
 case en =>
  intro vals W hbw hv _;have x12:=hv 12 (by omega);simp only[zAq]at x12
  simp only[fa,Nat.reduceAdd];rw[e_ hv 0,e_ hv 1,e_ hv 2,e_ hv 3,e_ hv 4,e_ hv 5,e_ hv 6,e_ hv 7,e_ hv 8,e_ hv 9,e_ hv 10,e_ hv 11];clear hv
  try simp only[pl]
  obtain⟨bk,e12,H2⟩:=H.gainS hbw x12;rw[e12];clear x12 e12 hbw H;have H:=H2;clear H2;simp only[ca]at H
  try simp only[pl]
  go_wp2_with (first|(at_builtin;refine zEz rfl _ _ 57 rfl H (i:=1) (j:=3) evd_ rfl i_1 i_3 Tryd.underlying57 hi0 hz0 hz1 hz2 rfl (by decide) rfl rfl (by unfold maxLen;omega) (by omega) ?_;clear H;intro v2 w H;(try simp only[nr]at H);(obtain⟨q2,c2,rfl,_,_,_⟩:=H.rowShape (i:=1) i_1))|((with_reducible refine gT (T:=57) ?_);refine zAK wtd_ _ _ _ rfl rfl evd_ H atd_ rfl (by first|(simp;done)|(simp[zAQ];done)) (by with_reducible exact zAC zAD) ?_;clear H;intro w H;try simp only[nr]at H))
  have e1:zAc (ls.map levC)++(levC (newL at_ gr f)).toList=zAc ((ls++[newL at_ gr f]).map levC):=by rw[List.map_append,zBe];simp[zAc]
  rw[e1,show n+1=(ls++[newL at_ gr f]).length by simp[HN.out]]at H
  obtain⟨h1,h2,h3⟩:=HR.out;refine⟨rfl,.tuple #[],resE rfl,rfl,q2,c2,?_⟩
  rw[← h2,← h3]at H;rw[h1];refine Turned.of H (i:=2) i_2 [0,1] (by decide) (by decide) rfl (fun F' S' hm b hb=>?_)
  simp[zBH]at hm
 case en2 =>
  intro vals W hbw hv _;have v1:vals 1=_:=hv 1 (by omega) (by omega)
  have v2:vals 2=_:=hv 2 (by omega) (by omega)
  have v3:vals 3=_:=hv 3 (by omega) (by omega)
  have v4:vals 4=_:=hv 4 (by omega) (by omega)
  have v5:vals 5=_:=hv 5 (by omega) (by omega)
  have v6:vals 6=_:=hv 6 (by omega) (by omega)
  have v7:vals 7=_:=hv 7 (by omega) (by omega)
  have v8:vals 8=_:=hv 8 (by omega) (by omega)
  have v9:vals 9=_:=hv 9 (by omega) (by omega)
  have v10:vals 10=_:=hv 10 (by omega) (by omega)
  have v11:vals 11=_:=hv 11 (by omega) (by omega)
  have x12:=hv 12 (by omega) (by omega);simp only[zAq]at x12
  simp only[List.take_succ_cons,List.take_zero,List.drop_succ_cons,List.drop_zero,List.drop_nil,List.take_nil,zDQ,zH8,List.cons_append,List.nil_append,Nat.reduceEqDiff,if_true,if_false,reduceCtorEq,Nat.zero_add,Nat.reduceAdd];rw[v1,v2,v3,v4,v5,v6,v7,v8,v9,v10,v11];clear hv v1 v2 v3 v4 v5 v6 v7 v8 v9 v10 v11
  try simp only[pl]
  obtain⟨bk,e12,H2⟩:=H.gainS hbw x12;rw[e12];clear x12 e12 hbw H;have H:=H2;clear H2;simp only[ca]at H
  try simp only[pl]
  go_wp2_with (first|(at_builtin;refine zEz rfl _ _ 57 rfl H (i:=1) (j:=3) evd_ rfl i_1 i_3 Tryd.underlying57 hi0 hz0 hz1 hz2 rfl (by decide) rfl rfl (by unfold maxLen;omega) (by omega) ?_;clear H;intro v2 w H;(try simp only[nr]at H);(obtain⟨q2,c2,rfl,_,_,_⟩:=H.rowShape (i:=1) i_1))|((with_reducible refine gT (T:=57) ?_);refine zAK wtd_ _ _ _ rfl rfl evd_ H atd_ rfl (by first|(simp;done)|(simp[zAQ];done)) (by with_reducible exact zAC zAD) ?_;clear H;intro w H;try simp only[nr]at H))
  have e1:zAc (ls.map levC)++(levC (newL at_ gr f)).toList=zAc ((ls++[newL at_ gr f]).map levC):=by rw[List.map_append,zBe];simp[zAc]
  rw[e1,show n+1=(ls++[newL at_ gr f]).length by simp[HN.out]]at H
  obtain⟨h1,h2,h3⟩:=HR.out;refine⟨rfl,.tuple #[],resE rfl,rfl,q2,c2,?_⟩
  rw[← h2,← h3]at H;rw[h1];refine Turned.of H (i:=2) i_2 [0,1] (by decide) (by decide) rfl (fun F' S' hm b hb=>?_)
  simp[zBH]at hm
end
end
section
open Go.RowKit
theorem zFg:∀ c,c<256→zBO (zBO c)=c:=by decide +kernel
theorem zJf {s:Nat→Nat} {n:Nat} (hn:n<256) (h:hasB s n=true):(n:Int) ∈ zDM s:=by
 unfold zDM zCz;exact List.mem_map.2 ⟨n,List.mem_filter.2 ⟨List.mem_range.2 hn,h⟩,rfl⟩
theorem zMr (s:Nat→Nat) {c:Nat} (hc:c<256):hasB (zET s (zDM s)) c=(hasB s c || hasB s (zBO c)):=by
 rw[zLl]
 congr 1
 rw[Bool.eq_iff_iff,List.any_eq_true];constructor
 ·rintro⟨x,hx,h⟩;obtain⟨n,hn,rfl,hh⟩:=zHA hx;simp at h;rw[h,zFg n hn];exact hh
 ·intro h;exact⟨_,zJf (zHi hc) h,by simp[zFg c hc]⟩
theorem zGu (s:Nat→Nat) (c:Nat):∀ n,hasB (zFU s n) c=(hasB s c || (List.range n).any (fun k=>(hasB s (97+k) || hasB s (65+k))&&(decide (c=97+k) || decide (c=65+k))))
 | 0=>by simp[zFU]
 | n+1=>by
  have ih:=zGu s c n;rw[List.range_succ,List.any_append,zFU]
  split
  ·rename_i h;rw[zFx,zFx,ih];simp only[List.any_cons,List.any_nil,Bool.or_false,h,Bool.true_and,Bool.or_assoc]
  ·rename_i h;have h':(hasB s (97+n) || hasB s (65+n))=false:=by simpa using h
   rw[ih];simp only[List.any_cons,List.any_nil,Bool.or_false,h',Bool.false_and]
theorem zIv:∀ c:Fin 256,(∃ k:Fin 26,c.val=97+k.val∧zBO c.val=65+k.val)∨(∃ k:Fin 26,c.val=65+k.val∧zBO c.val=97+k.val)∨(zBO c.val=c.val∧∀ k:Fin 26,c.val≠97+k.val∧c.val≠65+k.val):=by decide +kernel
theorem zKV (s:Nat→Nat) {c:Nat} (hc:c<256):hasB (zDK s) c=(hasB s c || hasB s (zBO c)):=by
 unfold zDK
 rw[zGu,Bool.eq_iff_iff];simp only[Bool.or_eq_true,List.any_eq_true,List.mem_range,Bool.and_eq_true,decide_eq_true_eq];rcases zIv ⟨c,hc⟩ with ⟨k,h1,h2⟩|⟨k,h1,h2⟩|⟨h1,h2⟩
 ·simp only at h1 h2;rw[h2];constructor
  ·rintro(h|⟨j,hj,h3,h4⟩)
   ·exact .inl h
   ·have:j=k.val:=by have:=k.isLt;omega
    subst this;rcases h3 with h3|h3
    ·exact .inl (by rw[h1];exact h3)
    ·exact .inr h3
  ·rintro(h|h)
   ·exact .inl h
   ·exact .inr ⟨k.val,k.isLt,.inr h,.inl h1⟩
 ·simp only at h1 h2;rw[h2];constructor
  ·rintro(h|⟨j,hj,h3,h4⟩)
   ·exact .inl h
   ·have:j=k.val:=by have:=k.isLt;omega
    subst this;rcases h3 with h3|h3
    ·exact .inr h3
    ·exact .inl (by rw[h1];exact h3)
  ·rintro(h|h)
   ·exact .inl h
   ·exact .inr ⟨k.val,k.isLt,.inl h,.inr h1⟩
 ·simp only at h1 h2;rw[h1];constructor
  ·rintro(h|⟨j,hj,h3,h4⟩)
   ·exact .inl h
   ·have:=h2 ⟨j,hj⟩;simp only at this;omega
  ·rintro(h|h)<;>exact .inl h
theorem zLV {s:Nat→Nat} (hs:zAs s):setV (zET s (zDM s))=setV (zDK s) :=
 zMj (zI7 _ hs) (zEq hs 26) (fun b hb=>by rw[zMr s hb,zKV s hb])
end
section
open Go.RowKit Go.Shelf
attribute [local go_sem] Oper.semAt_some
section
variable {M:Nat→Prop} {w0 w wc w':World} {l l1 l2 ls:List Res}
theorem Turned.via (H:HoldG M w0 wc ls) {i:Nat} (hi:At ls i (.kn (zBN w l1) (zCB w l1))) (T:Turned M w0 wc l1 l2 w'):Turned M w0 w l1 l2 w':=by
 have hlt:=H.knlt hi;have key:∀ b,(∃ s ∈ l1,s.place=some b)∨wc.heap.size≤b→(∃ s ∈ l1,s.place=some b)∨w.heap.size≤b:=by
  rintro b (h|h)
  ·exact .inl h
  ·by_cases hb:b<w.heap.size
   ·by_cases hp:∃ s ∈ l1,s.place=some b
    ·exact .inl hp
    ·have:=hlt b ⟨hb,fun r hr e=>hp ⟨r,hr,e⟩⟩
     omega
   ·exact .inr (by omega)
 have hr:∀ b,zBN w l1 b→zBN wc l1 b:=fun b hb=>⟨hlt b hb,hb.2⟩
 refine⟨T.hold,fun b hb=>(T.rest b (hr b hb)).trans (H.kn hi b hb),fun b hb=>T.lt b (hr b hb),fun r h b hp=>key b (T.place r h b hp),fun r h b hf=>?_⟩
 rcases T.foot r h b hf with h1|h1
 ·exact .inl h1
 ·rcases key b (.inr h1) with ⟨s,hs,hp⟩|h2
  ·exact .inl ⟨s,hs,Res.place_foot hp⟩
  ·exact .inr h2
theorem Turned.dropKn {S:World→Prop} (T:Turned M w0 w (l1++[.kn (fun _=>False) S]) l2 w'):Turned M w0 w l1 l2 w':=by
 have hr:∀ b,zBN w l1 b→zBN w (l1++[.kn (fun _=>False) S]) b:=fun b hb=>⟨hb.1,fun r hr=>by
  rcases List.mem_append.1 hr with h|h
  ·exact hb.2 r h
  ·rw[List.mem_singleton]at h;subst h;intro e;cases e⟩
 refine⟨T.hold,fun b hb=>T.rest b (hr b hb),fun b hb=>T.lt b (hr b hb),fun r h b hp=>(T.place r h b hp).imp (fun ⟨s,hs,e⟩=>?_) id,fun r h b hf=>(T.foot r h b hf).imp (fun ⟨s,hs,e⟩=>?_) id⟩
 ·rcases List.mem_append.1 hs with h|h
  ·exact⟨s,h,e⟩
  ·rw[List.mem_singleton]at h;subst h;cases e
 ·rcases List.mem_append.1 hs with h|h
  ·exact⟨s,h,e⟩
  ·rw[List.mem_singleton]at h;subst h;exact e.elim
def zBa (M:Nat→Prop) (w0:World) (pb:Nat) (lq:Option Addr) (ln lc last:Nat) (f:zAU) (g og oc:Nat) (pre:List LevM) (l:LevM) (F:Nat→Prop) (zs:List TV) (t:Tree) (w:World) (e:Ending) (w':World):Prop :=
 e=.returned (.tuple #[])∧∃ iq ic F',(∀ b,F' b→F b)∧Turned M w0 w (putL pb lq ln lc last f g og oc pre l F zs) (putL pb lq ln lc last f g og oc pre {l with items:=l.items++[(t,none,0)],iq:=iq,ic:=ic} F' (zs++[(t,none,0)])) w'
end
section
variable {M:Nat→Prop} {w0 w:World} {pb:Nat} {lq:Option Addr} {ln lc last:Nat} {f:zAU} {g og oc:Nat} {pre:List LevM} {l:LevM} {F:Nat→Prop} {zs:List TV}
theorem zF4 (t:Tree) (ht:t.kids=[]) (hn:pre.length≤1000000) (hi:l.items.length≤1000000) (hsub:∀ x ∈ l.items,x ∈ zs) (H0:HoldG M w0 w (putL pb lq ln lc last f g og oc pre l F zs)) :
  Calls Tryd.prog 36 #[.pointer (some ⟨pb,0,none⟩),zAa t.d nilS] w (zBa M w0 pb lq ln lc last f g og oc pre l F zs t w):=by
 have H:=H0.also (fun _=>False) (fun V=>ForestR V (fun _=>False) none 0 t.kids) Still.none (fun V hV=>by rw[ht];exact ForestR.nil ..)
 refine(zKf pb lq ln lc last f g og oc pre l F (fun _=>False) zs t none 0 0 hn hi (by rw[ht];rfl) hsub H).mono ?_
 rintro e w' ⟨rfl,iq,ic,F',hF,T⟩;exact⟨rfl,iq,ic,F',fun b hb=>(hF b hb).elim id False.elim,T.dropKn⟩
theorem zHQ {P:Program} {fn:FuncId} {args:Array Value} {wc:World} {ls:List Res} {t:Tree} {R:Ending→World→Prop} {i:Nat} (c:Calls P fn args wc (zBa M w0 pb lq ln lc last f g og oc pre l F zs t wc)) (H:HoldG M w0 wc ls) (hi:At ls i (.kn (zBN w (putL pb lq ln lc last f g og oc pre l F zs)) (zCB w (putL pb lq ln lc last f g og oc pre l F zs))))
  (k:∀ w',zBa M w0 pb lq ln lc last f g og oc pre l F zs t w (.returned (.tuple #[])) w'→R (.returned (.tuple #[])) w'):Calls P fn args wc R:=c.mono fun e w' h=>by
 obtain⟨rfl,iq,ic,F',hF,T⟩:=h;exact k w' ⟨rfl,iq,ic,F',hF,T.via H hi⟩
theorem zL2 {s:Nat→Nat} (h:eqS s zAF=true):s 0=0∧s 1=0∧s 2=0∧s 3=0:=by
 simpa [eqS,zAF,and_assoc] using h
theorem zLi {s:Nat→Nat} (h:eqS s zAF=true):(zAQ {kind:=3,set:=s} nilS).setIfInBounds 0 (.int .i64 2)=zAQ {kind:=2} nilS:=by
 obtain⟨h0,h1,h2,h3⟩:=zL2 h;simp[zAQ,h0,h1,h2,h3,zAF]
theorem zER (s:Nat→Nat) (hn:pre.length≤1000000) (hi:l.items.length≤1000000) (hsub:∀ x ∈ l.items,x ∈ zs) (H0:HoldG M w0 w (putL pb lq ln lc last f g og oc pre l F zs)) :
  Calls Tryd.prog 33 #[.pointer (some ⟨pb,0,none⟩),setV s] w (zBa M w0 pb lq ln lc last f g og oc pre l F zs (setT s) w):=by
 have H:=H0.framed;clear H0;obtain⟨l1,hl1⟩:∃ l1,putL pb lq ln lc last f g og oc pre l F zs=l1:=⟨_,rfl⟩;obtain⟨rF,hrF⟩:∃ rF,zBN w l1=rF:=⟨_,rfl⟩;obtain⟨rS,hrS⟩:∃ rS,zCB w l1=rS:=⟨_,rfl⟩;rw[hl1,hrF,hrS,← hl1]at H;simp only[putL,List.cons_append,List.nil_append]at H;have HR:=Lib.hid (And.intro hl1 (And.intro hrF hrS));clear hl1 hrF hrS;have HS:=Lib.hid hsub;clear hsub;have HI:=Lib.hid hi;clear hi
 cases hE:eqS s zAF with
 | true =>
  have hz:=zLi hE;have ET:setT s=zDV 2:=by unfold setT;rw[if_pos hE]
  rw[ET]
  go_enter Tryd.func33,Tryd.ntmps33
  go_upto_region 4 with (first|((first|((with_reducible refine kgA 3 ?_);refine kA 3 H ?_)|((with_reducible refine kgX 3 ?_);(first|refine kS 3 H ?_|refine kB 3 H ?_)));clear H;intro b3 w H;try simp only[nr]at H)|((first|((with_reducible refine kgA 4 ?_);refine kA 4 H ?_)|((with_reducible refine kgX 4 ?_);(first|refine kS 4 H ?_|refine kB 4 H ?_)));clear H;intro b4 w H;try simp only[nr]at H)|(first|((with_reducible refine gT ?_);((first|refine aO H ?_|refine aT H ?_);clear H;intro w H;try simp only[nr]at H))|((with_reducible refine gL ?_);refine aL H ?_)|((with_reducible refine gZ ?_);(refine nbS ?_;(try simp only[pl])))|((with_reducible refine gES ?_);(refine qS ?_;(try simp only[pl])))|((with_reducible refine gZ ?_);(refine aZ ?_;(try simp only[pl])))))
  rw[hz]at H;obtain⟨h1,h2,h3⟩:=HR.out;rw[← h2,← h3,← h1]at H;have hc:Calls Tryd.prog 36 #[.pointer (some ⟨pb,0,none⟩),zAa {kind:=2} nilS] _ (zBa M w0 pb lq ln lc last f g og oc pre l F zs (zDV 2) _):=zF4 (zDV 2) rfl hn HI.out HS.out (H.pick [0,1,2,3] (putL pb lq ln lc last f g og oc pre l F zs) (by decide) rfl)
  go_wp2_with (first|(go_at_call 36;(with_reducible refine zHQ hc H i_4 ?_);intro wp hP)|((with_reducible refine gL ?_);refine aD H ?_))
  exact⟨rfl,.tuple #[],resE rfl,hP⟩
 | false =>
  have ET:setT s=.mk {kind:=3,set:=s} []:=by unfold setT;rw[if_neg (by rw[hE];decide)]
  rw[ET]
  go_enter Tryd.func33,Tryd.ntmps33
  go_upto_region 4 with (first|((first|((with_reducible refine kgA 3 ?_);refine kA 3 H ?_)|((with_reducible refine kgX 3 ?_);(first|refine kS 3 H ?_|refine kB 3 H ?_)));clear H;intro b3 w H;try simp only[nr]at H)|((first|((with_reducible refine kgA 4 ?_);refine kA 4 H ?_)|((with_reducible refine kgX 4 ?_);(first|refine kS 4 H ?_|refine kB 4 H ?_)));clear H;intro b4 w H;try simp only[nr]at H)|(first|((with_reducible refine gT ?_);(refine aT H ?_;clear H;intro w H;try simp only[nr]at H))|((with_reducible refine gL ?_);refine aL H ?_)|((with_reducible refine gZ ?_);(refine nbS ?_;(try simp only[pl])))|((with_reducible refine gES ?_);(refine qS ?_;(try simp only[pl])))|((with_reducible refine gZ ?_);(refine aZ ?_;(try simp only[pl])))))
  obtain⟨h1,h2,h3⟩:=HR.out;rw[← h2,← h3,← h1]at H;have hc:Calls Tryd.prog 36 #[.pointer (some ⟨pb,0,none⟩),zAa {kind:=3,set:=s} nilS] _ (zBa M w0 pb lq ln lc last f g og oc pre l F zs (.mk {kind:=3,set:=s} []) _):=zF4 (.mk {kind:=3,set:=s} []) rfl hn HI.out HS.out (H.pick [0,1,2,3] (putL pb lq ln lc last f g og oc pre l F zs) (by decide) rfl)
  go_wp2_with (first|(go_at_call 36;(with_reducible refine zHQ hc H i_4 ?_);intro wp hP)|((with_reducible refine gL ?_);refine aD H ?_))
  exact⟨rfl,.tuple #[],resE rfl,hP⟩
theorem zLO (a b:Int) (hn:pre.length≤1000000) (hi:l.items.length≤1000000) (hsub:∀ x ∈ l.items,x ∈ zs) (H0:HoldG M w0 w (putL pb lq ln lc last f g og oc pre l F zs)) :
  Calls Tryd.prog 35 #[.pointer (some ⟨pb,0,none⟩),.int .i64 a,.int .i64 b] w (zBa M w0 pb lq ln lc last f g og oc pre l F zs (zFX f a b) w):=by
 obtain⟨f0,f1,f2⟩:=f;have H:=H0.framed;clear H0;obtain⟨l1,hl1⟩:∃ l1,putL pb lq ln lc last (f0,f1,f2) g og oc pre l F zs=l1:=⟨_,rfl⟩;obtain⟨rF,hrF⟩:∃ rF,zBN w l1=rF:=⟨_,rfl⟩;obtain⟨rS,hrS⟩:∃ rS,zCB w l1=rS:=⟨_,rfl⟩;rw[hl1,hrF,hrS,← hl1]at H;simp only[putL,List.cons_append,List.nil_append]at H;have HR:=Lib.hid (And.intro hl1 (And.intro hrF hrS));clear hl1 hrF hrS;have HS:=Lib.hid hsub;clear hsub
 have HI:=Lib.hid hi;clear hi
 cases f1 with
 | true =>
  have ET:zFX (f0,true,f2) a b=zDV b:=rfl;rw[ET]
  go_enter Tryd.func35,Tryd.ntmps35
  go_upto_region 2 with (first|((with_reducible refine gL ?_);refine aG H ?_))
  obtain⟨h1,h2,h3⟩:=HR.out;rw[← h2,← h3,← h1]at H;have hc:Calls Tryd.prog 36 #[.pointer (some ⟨pb,0,none⟩),zAa {kind:=b} nilS] _ (zBa M w0 pb lq ln lc last (f0,true,f2) g og oc pre l F zs (zDV b) _):=zF4 (zDV b) rfl hn HI.out HS.out (H.pick [0,1,2,3] (putL pb lq ln lc last (f0,true,f2) g og oc pre l F zs) (by decide) rfl)
  go_wp2_with (first|(go_at_call 36;(with_reducible refine zHQ hc H i_4 ?_);intro wp hP)|((with_reducible refine gZ ?_);refine nb1 ?_))
  exact⟨rfl,.tuple #[],resE rfl,hP⟩
 | false =>
  have ET:zFX (f0,false,f2) a b=zDV a:=rfl;rw[ET]
  go_enter Tryd.func35,Tryd.ntmps35
  go_upto_region 2 with (first|((with_reducible refine gL ?_);refine aG H ?_))
  obtain⟨h1,h2,h3⟩:=HR.out;rw[← h2,← h3,← h1]at H;have hc:Calls Tryd.prog 36 #[.pointer (some ⟨pb,0,none⟩),zAa {kind:=a} nilS] _ (zBa M w0 pb lq ln lc last (f0,false,f2) g og oc pre l F zs (zDV a) _):=zF4 (zDV a) rfl hn HI.out HS.out (H.pick [0,1,2,3] (putL pb lq ln lc last (f0,false,f2) g og oc pre l F zs) (by decide) rfl)
  go_wp2_with (first|(go_at_call 36;(with_reducible refine zHQ hc H i_4 ?_);intro wp hP)|((with_reducible refine gZ ?_);refine nb1 ?_))
  exact⟨rfl,.tuple #[],resE rfl,hP⟩
theorem zHE (s:Nat→Nat) (hs:zAs s) (w:World):Calls Tryd.prog 45 #[setV s] w (Rt (setV (zDK s)) w):=by
 have h:=zMd s hs w;rw[zLV hs]at h;exact h
theorem zOG (d:WordD) (hs:zAs d.set) (hn:pre.length≤1000000) (hi:l.items.length≤1000000) (hsub:∀ x ∈ l.items,x ∈ zs) (H0:HoldG M w0 w (putL pb lq ln lc last f g og oc pre l F zs)) :
  Calls Tryd.prog 32 #[.pointer (some ⟨pb,0,none⟩),zAk d] w (zBa M w0 pb lq ln lc last f g og oc pre l F zs (setT (if d.neg then notS (if f.1 then zDK d.set else d.set) else if f.1 then zDK d.set else d.set)) w):=by
 obtain⟨f0,f1,f2⟩:=f;have H:=H0.framed;clear H0;obtain⟨l1,hl1⟩:∃ l1,putL pb lq ln lc last (f0,f1,f2) g og oc pre l F zs=l1:=⟨_,rfl⟩;obtain⟨rF,hrF⟩:∃ rF,zBN w l1=rF:=⟨_,rfl⟩;obtain⟨rS,hrS⟩:∃ rS,zCB w l1=rS:=⟨_,rfl⟩;rw[hl1,hrF,hrS,← hl1]at H;simp only[putL,List.cons_append,List.nil_append]at H;have HR:=Lib.hid (And.intro hl1 (And.intro hrF hrS));clear hl1 hrF hrS;have HS:=Lib.hid hsub;clear hsub
 have HI:=Lib.hid hi;clear hi;have hcs:zAs (zDK d.set):=zEq hs 26
 cases f0<;>cases hng:d.neg
 ·change Calls _ _ _ w (zBa M w0 pb lq ln lc last (false,f1,f2) g og oc pre l F zs (setT d.set) w)
  go_enter Tryd.func32,Tryd.ntmps32
  go_upto_region 5 with (first|((first|((with_reducible refine kgA 3 ?_);refine kA 3 H ?_)|((with_reducible refine kgX 3 ?_);(first|refine kS 3 H ?_|refine kB 3 H ?_)));clear H;intro b3 w H;try simp only[nr]at H)|((with_reducible refine gL ?_);(first|refine aGb H ?_|refine aG H ?_))|((with_reducible first|refine ch (zHE _ hs _) H ?_|refine ch (zCO _ hs _) H ?_);clear H;intro w H))
  obtain⟨h1,h2,h3⟩:=HR.out;rw[← h2,← h3,← h1]at H;have hc:Calls Tryd.prog 33 #[.pointer (some ⟨pb,0,none⟩),setV d.set] _ (zBa M w0 pb lq ln lc last (false,f1,f2) g og oc pre l F zs (setT d.set) _):=zER d.set hn HI.out HS.out (H.pick [0,1,2,3] (putL pb lq ln lc last (false,f1,f2) g og oc pre l F zs) (by decide) rfl)
  go_wp2_with (first|(go_at_call 33;(with_reducible refine zHQ hc H i_4 ?_);intro wp hP)|((with_reducible refine gL ?_);refine aV H ?_))
  exact⟨rfl,.tuple #[],resE rfl,hP⟩
 ·change Calls _ _ _ w (zBa M w0 pb lq ln lc last (false,f1,f2) g og oc pre l F zs (setT (notS d.set)) w)
  go_enter Tryd.func32,Tryd.ntmps32
  go_upto_region 5 with (first|((first|((with_reducible refine kgA 3 ?_);refine kA 3 H ?_)|((with_reducible refine kgX 3 ?_);(first|refine kS 3 H ?_|refine kB 3 H ?_)));clear H;intro b3 w H;try simp only[nr]at H)|(first|((with_reducible refine gT ?_);(refine aW H ?_;clear H;intro w H;try simp only[nr]at H))|((with_reducible refine gL ?_);(first|refine aV H ?_|refine aGb H ?_|refine aG H ?_)))|((with_reducible first|refine ch (zHE _ hs _) H ?_|refine ch (zCO _ hs _) H ?_);clear H;intro w H))
  obtain⟨h1,h2,h3⟩:=HR.out;rw[← h2,← h3,← h1]at H;have hc:Calls Tryd.prog 33 #[.pointer (some ⟨pb,0,none⟩),setV (notS d.set)] _ (zBa M w0 pb lq ln lc last (false,f1,f2) g og oc pre l F zs (setT (notS d.set)) _):=zER (notS d.set) hn HI.out HS.out (H.pick [0,1,2,3] (putL pb lq ln lc last (false,f1,f2) g og oc pre l F zs) (by decide) rfl)
  go_wp2_with (first|(go_at_call 33;(with_reducible refine zHQ hc H i_4 ?_);intro wp hP)|((with_reducible refine gL ?_);refine aV H ?_))
  exact⟨rfl,.tuple #[],resE rfl,hP⟩
 ·change Calls _ _ _ w (zBa M w0 pb lq ln lc last (true,f1,f2) g og oc pre l F zs (setT (zDK d.set)) w)
  go_enter Tryd.func32,Tryd.ntmps32
  go_upto_region 5 with (first|((first|((with_reducible refine kgA 3 ?_);refine kA 3 H ?_)|((with_reducible refine kgX 3 ?_);(first|refine kS 3 H ?_|refine kB 3 H ?_)));clear H;intro b3 w H;try simp only[nr]at H)|(first|((with_reducible refine gT ?_);(refine aW H ?_;clear H;intro w H;try simp only[nr]at H))|((with_reducible refine gL ?_);(first|refine aV H ?_|refine aGb H ?_|refine aG H ?_)))|((with_reducible first|refine ch (zHE _ hs _) H ?_|refine ch (zCO _ hcs _) H ?_);clear H;intro w H))
  obtain⟨h1,h2,h3⟩:=HR.out;rw[← h2,← h3,← h1]at H;have hc:Calls Tryd.prog 33 #[.pointer (some ⟨pb,0,none⟩),setV (zDK d.set)] _ (zBa M w0 pb lq ln lc last (true,f1,f2) g og oc pre l F zs (setT (zDK d.set)) _):=zER (zDK d.set) hn HI.out HS.out (H.pick [0,1,2,3] (putL pb lq ln lc last (true,f1,f2) g og oc pre l F zs) (by decide) rfl)
  go_wp2_with (first|(go_at_call 33;(with_reducible refine zHQ hc H i_4 ?_);intro wp hP)|((with_reducible refine gL ?_);refine aV H ?_))
  exact⟨rfl,.tuple #[],resE rfl,hP⟩
 ·change Calls _ _ _ w (zBa M w0 pb lq ln lc last (true,f1,f2) g og oc pre l F zs (setT (notS (zDK d.set))) w)
  go_enter Tryd.func32,Tryd.ntmps32
  go_upto_region 5 with (first|((first|((with_reducible refine kgA 3 ?_);refine kA 3 H ?_)|((with_reducible refine kgX 3 ?_);(first|refine kS 3 H ?_|refine kB 3 H ?_)));clear H;intro b3 w H;try simp only[nr]at H)|(first|((with_reducible refine gT ?_);(refine aW H ?_;clear H;intro w H;try simp only[nr]at H))|((with_reducible refine gL ?_);(first|refine aV H ?_|refine aGb H ?_|refine aG H ?_)))|((with_reducible first|refine ch (zHE _ hs _) H ?_|refine ch (zCO _ hcs _) H ?_);clear H;intro w H))
  obtain⟨h1,h2,h3⟩:=HR.out;rw[← h2,← h3,← h1]at H;have hc:Calls Tryd.prog 33 #[.pointer (some ⟨pb,0,none⟩),setV (notS (zDK d.set))] _ (zBa M w0 pb lq ln lc last (true,f1,f2) g og oc pre l F zs (setT (notS (zDK d.set))) _):=zER (notS (zDK d.set)) hn HI.out HS.out (H.pick [0,1,2,3] (putL pb lq ln lc last (true,f1,f2) g og oc pre l F zs) (by decide) rfl)
  go_wp2_with (first|(go_at_call 33;(with_reducible refine zHQ hc H i_4 ?_);intro wp hP)|((with_reducible refine gL ?_);refine aV H ?_))
  exact⟨rfl,.tuple #[],resE rfl,hP⟩
end
section
variable {P:Program} {ops:Array Oper} {rest:List Oper} {o:Oper} {a:Act} {w w0:World} {Q:Exit→Act→World→Prop} {l:List Res} {M:Nat→Prop}
theorem zCP (hg:o.guard=none) (s x:Operand) (T:TypeId) (ho:o.op=.call {callee:=.builtin .append,args:=#[s,x],argTypes:=#[T,T]}) (H:HoldG M w0 w l) {i:Nat} {v:Value} {e:TypeId} {sz n m c:Nat} {q:Option Addr} {xs:List Value} {F:Nat→Prop} {rows:List (Array Value)}
  (hs:a.eval s=v) (hx:a.eval x=.slice q m c) (hi:At l i (.row v e sz n xs)) (hR:RdN sz w F (.slice q m c) rows) (hrs:∀ r ∈ rows,r.size=sz) {it:TypeInfo} {z:Value} {bytes:Nat}
  (h1:P.underlying T=some (.slice e)) (h2:P.info? e=some it) (h3:it.zero=some z) (h4:it.size=sz) (h5:it.bytes=bytes) (h6:z.cells.size=sz) (h7:0<sz) (h1c:∀ u ∈ zAc rows,u.oneCell'=true)
  (b1:n+m≤maxLen) (b2:(n+m) * bytes≤140737488355328)
  (h:∀ v' w',HoldG M w0 w' (l.set i (.row v' e sz (n+m) (xs++zAc rows)))→wpList P ops Q rest (a.put o.dst v') w'):wpList P ops Q (o::rest) a w:=by
 obtain⟨p,cap,e1,r1,r2,r0,r3⟩:=hR
 cases e1
 have key:∀ ad:Addr,q=some ad→(∀ j u,(zAc rows)[j]?=some u→w.cell? (ad.add j)=some u)→wpList P ops Q (o::rest) a w:=fun ad hq hc=>by
  subst hq;refine wpList_append_own_at w hg s x T ho w0.heap.size e it z sz bytes h1 h2 h3 h4 h5 h6 h7 v n xs hs (H.all i _ hi.get) ad rows.length c (zAc rows) hx (zBj hrs) hc h1c b1 b2 H.keep.size (fun v' w' r1 r2 _ r4=>h v' w' ?_)
  refine H.upd hi.get (by exact r2) r1 (fun b' hb'=>?_)
  rcases r4 with r4|r4
  ·left;show v.ownBlock=some b';rw[← r4];exact hb'
  ·right;have:v'.ownBlock=some b':=hb';rw[r4]at this
   cases this;exact Nat.le_refl _
 cases rows with
 | nil =>
  cases q with
  | none =>
   have hc0:=r0 rfl;subst hc0;refine wpList_append_own_none hg s x T ho w0.heap.size e it sz h1 h2 v n xs hs (H.all i _ hi.get) hx ?_
   have hset:l.set i (.row v e sz (n+0) (xs++zAc []))=l:=by
    apply List.ext_getElem?;intro j;rw[List.getElem?_set];split
    ·rename_i e;subst e;have:=hi.get;rw[if_pos (List.getElem?_eq_some_iff.1 this).1,this];simp[zAc]
    ·rfl
   have:=h v w (by rw[show (List.length ([]:List (Array Value)))=0 from rfl,hset];exact H)
   exact this
  | some ad=>exact key ad rfl (fun j u hj=>by simp[zAc]at hj)
 | cons r rows =>
  obtain⟨b,off,hq,hF,_,_⟩:=r3 0 r rfl;refine key _ hq (fun j u hj=>?_)
  have hlen:(zAc (r::rows)).length=(r::rows).length * sz:=zBj hrs;have hjl:=(List.getElem?_eq_some_iff.1 hj).1;have hd:j=j / sz * sz+j % sz:=by rw[Nat.mul_comm];exact(Nat.div_add_mod j sz).symm
  have hm:j % sz<sz:=Nat.mod_lt _ h7;have hqq:j / sz<(r::rows).length:=Nat.div_lt_of_lt_mul (by rw[Nat.mul_comm];omega)
  have hget:(r::rows)[j / sz]?=some (r::rows)[j / sz]:=List.getElem?_eq_getElem hqq;obtain⟨b',off',hq',_,_,hk⟩:=r3 (j / sz) _ hget;rw[hq]at hq';cases hq'
  have h8:=zDG hrs hget hm;rw[← hd,hj]at h8;have h9:=hk (j % sz) hm;rw[← h8]at h9;rw[Addr.add_mid,← h9]
  congr 2;omega
end
def zML (n0:Nat) (G:Nat→Prop) (t:Tree) (v:Value) (W:World):Prop:=∃ q c F,v=zAa t.d (.slice q t.kids.length c)∧ForestR W F q c t.kids∧∀ z,F z→z<W.heap.size∧(n0≤z∨G z)
theorem zID (n0:Nat) (G:Nat→Prop) (t:Tree):zDZ (zML n0 G t):=fun _ _ _ ⟨q,c,F,e,h1,h2⟩ hb=>⟨q,c,F,e,h1.kept (fun z hz=>hb.block z (h2 z hz).1),fun z hz=>⟨Nat.lt_of_lt_of_le (h2 z hz).1 hb.size,(h2 z hz).2⟩⟩
theorem zMo {n0:Nat} {G:Nat→Prop} {t:Tree} {W:World} {D:Prop} (hn:n0≤W.heap.size) (hD:¬ D) (e:Ending) (w':World) (h:zIW W G t e w'∧Below W.heap.size W w'):∃ v,e=.returned v∧Below W.heap.size W w'∧(zML n0 G t v w'∧(D→W.heap.size≤blk v)):=by
 obtain⟨⟨q,c,F,rfl,h1,h2⟩,hb⟩:=h;exact⟨_,rfl,hb,⟨q,c,F,rfl,h1,fun z hz=>⟨(h2 z hz).1,(h2 z hz).2.imp (fun h=>Nat.le_trans hn h) id⟩⟩,fun h=>(hD h).elim⟩
section
variable {M:Nat→Prop} {w0 w w':World} {l:List Res}
theorem HoldG.rowForestO (H:HoldG M w0 w l) {i N cap:Nat} {q:Option Addr} {T:TypeId} {xs:List TV} {K:Nat→Prop} (hi:At l i (.row (.slice q N cap) T 10 N (zAc (xs.map zAo)))) (hN:xs.length=N) (hK:Still l K) (hL:ListR w K xs) :
  HoldG M w0 w (l.set i (knT (fun b=>(Value.slice q N cap).ownBlock=some b∨K b) q cap (xs.map (·.1)))):=by
 have ho:=H.all i _ hi.get;have hrd:∀ V:World,(∀ b,(Value.slice q N cap).ownBlock=some b→V.heap[b]?=w.heap[b]?)→RdN 10 V (fun b=>(Value.slice q N cap).ownBlock=some b) (.slice q N cap) (xs.map zAo):=fun V hV=>RdN.of_own ho (zBh xs) (by rw[List.length_map];exact hN) hV
 exact H.restG hi _ _ (fun b hb=>hb.imp id (hK b)) (fun V hV=>.mk _ _ _ xs (by rw[List.length_map,hN];exact(hrd V (fun b hb=>hV b (.inl hb))).mono (fun _ h=>.inl h)) (fun x hx=>((hL x hx).mono (fun _ h=>.inr h)).kept hV) rfl)
theorem HoldG.learnTS (H:HoldG M w0 w l) (hb:Below w.heap.size w w') {G:Nat→Prop} {t:Tree} {v u:Value} {cs:Array Value} {T:TypeId} (hG:Still l G) (h:zML w.heap.size G t v w') (h2:zDw w.heap.size cs T u w') :
  ∃ q c Fx bk,v=zAa t.d (.slice q t.kids.length c)∧u=.slice (some ⟨bk,0,none⟩) 1 1∧(∀ b,Fx b→w.heap.size≤b∨G b)∧HoldG M w0 w' (l++[.kn (fun b=>Fx b∨b=bk) (fun V=>ForestR V Fx q c t.kids∧RdN cs.size V (·=bk) (.slice (some ⟨bk,0,none⟩) 1 1) [cs])]):=by
 obtain⟨q,c,F,rfl,h3,h4⟩:=h;obtain⟨bk,rfl,h5,h6⟩:=h2;refine⟨q,c,F,bk,rfl,rfl,fun b hb=>(h4 b hb).2,H.learn hb hG (fun b hb'=>?_) (fun V hV=>⟨h3.kept (fun b hb=>hV b (.inl hb)),?_⟩)⟩
 ·rcases hb' with h7|rfl
  ·exact h4 b h7
  ·exact⟨(Array.getElem?_eq_some_iff.1 h6).1,.inl h5⟩
 ·refine⟨_,1,rfl,Nat.le_refl _,by unfold maxLen;omega,(fun h=>by cases h),fun j r hj=>?_⟩
  have hj0:j=0:=by
   have:=(List.getElem?_eq_some_iff.1 hj).1;simp at this;exact this
  subst hj0;simp at hj;subst hj;refine⟨bk,0,rfl,rfl,rfl,fun k hk=>?_⟩
  rw[cell_of_row V bk _ cs T (0,0) ((hV bk (.inr rfl)).trans h6)];simp
end
theorem zGy {P:Program} {ops:Array Oper} {Q:Exit→Act→World→Prop} {fuel:Nat} {listed:Array Bool} {a:Act} {w:World} (h:wpAny P .any ops Q fuel listed a w):anyK P ops Q fuel listed .normal a w:=h
def zBA (og oc:Nat) (pre:List LevM) (l:LevM) (F:Nat→Prop) (zs:List TV):List Res :=
 [rowL (some ⟨og,0,none⟩) (pre.length+1) oc (pre++[l]),knL F zs,rowN l.iq l.ic l.items,rowN l.aq l.ac l.all]
section
variable {M:Nat→Prop} {w0 w:World}
theorem zLE (xs:List TV) (x:TV):zAc ((xs.map zAo++[zAQ {kind:=0} nilS]).set xs.length (zAo x))=zAc ((xs++[x]).map zAo):=by
 congr 1
 rw[List.map_append];have:xs.length=(xs.map zAo).length:=(List.length_map ..).symm;rw[this,List.set_append_right _ _ (Nat.le_refl _),Nat.sub_self];rfl
theorem zEb:∀ r ∈ [zAQ {kind:=0} nilS],r.size=10:=zBh [(.mk {kind:=0} [],none,0)]
theorem zGp:∀ u ∈ zAc [zAQ {kind:=0} nilS],u.oneCell'=true:=fun u hu=>List.all_eq_true.1 (rfl:(zAc [zAQ {kind:=0} nilS]).all (·.oneCell')=true) u hu
theorem zGj (xs:List TV):∀ r ∈ xs.map zAo++[zAQ {kind:=0} nilS],r.size=10:=fun r hr=>(List.mem_append.1 hr).elim (zBh xs r) (zEb r)
theorem zDD (xs:List TV):zAc (xs.map zAo)++zAc [zAQ {kind:=0} nilS]=zAc (xs.map zAo++[zAQ {kind:=0} nilS]):=(zBe _ _).symm
theorem zNO {w':World} {og oc gA c2 c:Nat} {p:Option Addr} {pre:List LevM} {l l4:LevM} {F Fx Gi rF:Nat→Prop} {rS:World→Prop} {zs:List TV} {t:Tree} {x:TV} {l1:List Res} {kt:List Tree} {A B:Res} (h1:zBA og oc pre l F zs=l1) (h2:zBN w l1=rF) (h3:zCB w l1=rS)
  (hG:(fun b=>(Value.slice l.iq l.items.length l.ic).ownBlock=some b∨F b)=Gi) (hX:∀ b,Fx b→w.heap.size≤b∨Gi b) (hx:x=(t,p,c)) (hl:{l with all:=l.all++[x],aq:=some ⟨gA,0,none⟩,ac:=c2,items:=[],iq:=none,ic:=0}=l4)
  (H:HoldG M w0 w' [.row (.slice (some ⟨og,0,none⟩) (pre.length+1) oc) 69 7 (pre.length+1) (zAc ((pre++[l4]).map levC)),knL F zs,knT Gi l.iq l.ic kt,.row (.slice (some ⟨gA,0,none⟩) (l.all.length+1) c2) 31 10 (l.all.length+1) (zAc ((l.all++[x]).map zAo)),.kn rF rS,A,.kn Fx (fun V=>ForestR V Fx p c t.kids),B]) :
  ∃ p c aq ac F',(∀ b,F' b→F b∨(Value.slice l.iq l.items.length l.ic).ownBlock=some b∨w.heap.size≤b) ∧
   Turned M w0 w (zBA og oc pre l F zs) (zBA og oc pre {l with all:=l.all++[(t,p,c)],aq:=aq,ac:=ac,items:=[],iq:=none,ic:=0} F' (zs++[(t,p,c)])) w':=by
 subst hx;have hF:∀ b,Fx b→F b∨(Value.slice l.iq l.items.length l.ic).ownBlock=some b∨w.heap.size≤b:=fun b hb=>by
  rcases hX b hb with h|h
  ·exact .inr (.inr h)
  ·rw[← hG]at h;exact h.elim (fun h=>.inr (.inl h)) .inl
 refine⟨p,c,some ⟨gA,0,none⟩,c2,fun b=>F b∨Fx b,fun b hb=>hb.elim .inl (hF b),?_⟩
 rw[hl];have H3:=(H.also (fun b=>F b∨Fx b) (fun V=>ListR V (fun b=>F b∨Fx b) (zs++[(t,p,c)])) ((Still.at (i:=1) i_1).or (Still.at (i:=6) i_6)) (fun V hV=>ListR.append (((H.kn (i:=1) i_1).mono (fun _ h=>.inl h)).kept hV) (ListR.one (((H.kn (i:=6) i_6).mono (fun _ h=>.inr h)).kept hV)))).addNil 31 10
 simp only[ca]at H3;rw[show l.all.length+1=(l.all++[(t,p,c)]).length by simp]at H3
 rw[← h2,← h3]at H3;rw[h1];refine Turned.of H3 (i:=4) i_4 [0,8,9,3] (by decide) (by decide) (by rw[← hl];rfl) (fun F' S' hm b hb=>?_)
 simp only[zBA,List.mem_cons,List.not_mem_nil,or_false,reduceCtorEq,false_or,Res.kn.injEq]at hm;obtain⟨rfl,_⟩:=hm;rw[← h1];rcases hb with h|h
 ·exact .inl ⟨knL F zs,by simp[zBA],h⟩
 ·rcases hF b h with h|h|h
  ·exact .inl ⟨knL F zs,by simp[zBA],h⟩
  ·exact .inl ⟨rowN l.iq l.ic l.items,by simp[zBA],h⟩
  ·exact .inr h
theorem zM1 (og oc:Nat) (pre:List LevM) (l:LevM) (F:Nat→Prop) (zs:List TV) (hn:pre.length≤1000000) (ha:l.all.length≤1000000) (hsub:∀ x,x ∈ l.items∨x ∈ l.all→x ∈ zs) (H0:HoldG M w0 w (zBA og oc pre l F zs)) :
  Calls Tryd.prog 39 #[.pointer (some ⟨og,pre.length * 7,none⟩)] w fun e w'=>e=.returned (.tuple #[])∧∃ p c aq ac F',(∀ b,F' b→F b∨(Value.slice l.iq l.items.length l.ic).ownBlock=some b∨w.heap.size≤b) ∧
   Turned M w0 w (zBA og oc pre l F zs) (zBA og oc pre {l with all:=l.all++[(rowT 4 (l.items.map (·.1)),p,c)],aq:=aq,ac:=ac,items:=[],iq:=none,ic:=0} F' (zs++[(rowT 4 (l.items.map (·.1)),p,c)])) w':=by
 obtain⟨i0,hi0,hz0,hz1,hz2⟩:=info_parts zGJ;have H:=H0.framed;clear H0;obtain⟨l1,hl1⟩:∃ l1,zBA og oc pre l F zs=l1:=⟨_,rfl⟩;obtain⟨rF,hrF⟩:∃ rF,zBN w l1=rF:=⟨_,rfl⟩;obtain⟨rS,hrS⟩:∃ rS,zCB w l1=rS:=⟨_,rfl⟩;rw[hl1,hrF,hrS,← hl1]at H;simp only[zBA,List.cons_append,List.nil_append]at H;have HR:=Lib.hid (And.intro hl1 (And.intro hrF hrS));clear hl1 hrF hrS;have HS:=Lib.hid hsub;clear hsub
 have HA:=Lib.hid ha;clear ha;replace H:=H.rowForestO (i:=2) i_2 rfl (K:=F) (Still.at (i:=1) i_1) (fun x hx=>H.kn (i:=1) i_1 x (HS.out x (.inl hx)))
 simp only[sc]at H;obtain⟨Gi,hGi⟩:∃ Gi:Nat→Prop,(fun b=>(Value.slice l.iq l.items.length l.ic).ownBlock=some b∨F b)=Gi:=⟨_,rfl⟩
 rw[hGi]at H;have HG:=Lib.hid hGi;clear hGi;obtain⟨t,ht⟩:∃ t,rowT 4 (l.items.map (·.1))=t:=⟨_,rfl⟩;have HT:=Lib.hid ht;have hrow:=fun W h1 h2=>zM4 4 l.iq l.ic l.items.length Gi (l.items.map (·.1)) W h1 h2 (by simp)
 rw[ht]at hrow;rw[ht];clear ht
 go_enter Tryd.func39,Tryd.ntmps39
 go_upto_region 0 with (first|(first|((with_reducible refine gL (T:=57) ?_);refine zAX wtd_ _ _ rfl rfl H atd_ (by with_reducible exact zAD) rfl ?_)|((with_reducible refine gL (T:=85) ?_);refine zAX wtd_ _ _ rfl rfl H atd_ (by with_reducible exact zAE) rfl ?_)|((with_reducible refine gT (T:=57) ?_);refine zAK wtd_ _ _ _ rfl rfl evd_ H atd_ rfl (by first|(simp;done)|(simp[zAQ];done)) (by with_reducible exact zAC zAD) ?_;clear H;intro w H;try simp only[nr]at H)|((with_reducible refine gT (T:=85) ?_);refine zAK wtd_ _ _ _ rfl rfl evd_ H atd_ rfl (by first|(simp;done)|(simp[zAQ];done)) (by with_reducible exact zAC zAE) ?_;clear H;intro w H;try simp only[nr]at H)|((with_reducible refine gT ?_);(first|((first|refine aS H ?_|refine aW H ?_|refine aO H ?_|refine aT H ?_);clear H;intro w H;try simp only[nr]at H)|(refine aN H ?_;clear H;intro w H;(try simp only[nr]at H);try simp only[zBE,nrl]at H)))|((with_reducible refine gL ?_);(first|refine aV H ?_|refine aL H ?_|refine aVn H ?_|refine aGb H ?_|refine aG H ?_|refine aD H ?_))|((with_reducible refine gX ?_);((first|refine bS H ?_|refine bB H ?_);clear H;intro b w H;try simp only[nr]at H))|((with_reducible refine gA ?_);(refine bA H ?_;clear H;intro b w H;try simp only[nr]at H))|((with_reducible refine gZ ?_);refine nb0 ?_)|((with_reducible refine gZ ?_);refine nb1 ?_)|((with_reducible refine gZ ?_);(refine nbS ?_;(try simp only[pl])))|((with_reducible refine gZ ?_);refine nbK ?_)|((with_reducible refine gZ ?_);refine nbG ?_)|((with_reducible refine gZ ?_);refine nbR ?_)|((with_reducible refine gZ ?_);refine nbA ?_)|((with_reducible refine gZ ?_);refine fb3 ?_)|((with_reducible refine gES ?_);(refine qS ?_;(try simp only[pl])))|((with_reducible refine gNS ?_);(refine qN ?_;(try simp only[pl])))|((with_reducible refine gZ ?_);(refine aZ ?_;(try simp only[pl])))|((with_reducible refine gI ?_);refine aI ?_)|((with_reducible refine gC ?_);refine aC ?_)|((with_reducible refine gF ?_);refine aF ?_)|((with_reducible refine gU ?_);refine aU ?_)|((with_reducible refine gE ?_);(refine aE ?_;(try simp only[pl])))|((with_reducible refine gQ ?_);(refine aQ ?_;(try simp only[pl])))))
 refine zGV 11 [fun v _=>v=.pointer (some ⟨og,pre.length * 7,none⟩),fun v _=>v=.pointer (some ⟨og,pre.length * 7,none⟩),fun v _=>v=.pointer (some ⟨og,pre.length * 7+5,none⟩),fun v _=>v=.slice l.aq l.all.length l.ac,fun v _=>v=.pointer (some ⟨og,pre.length * 7,none⟩),fun v _=>v=.pointer (some ⟨og,pre.length * 7,none⟩),fun v _=>v=.pointer (some ⟨og,pre.length * 7+6,none⟩),fun v _=>v=.slice l.iq l.items.length l.ic,zML w.heap.size Gi t,fun v _=>v=.int .i64 ((l.all.length:Nat):Int),zDw w.heap.size (zAQ {kind:=0} nilS) 31] (fun _=>false) (by kernel_rfl) (by kernel_rfl) (by kernel_rfl) (by repeat (first|exact trivial|refine⟨zBL _,?_⟩|refine⟨zID _ _ _,?_⟩|refine⟨zCD _ _ _,?_⟩)) (fun _ _ h=>by cases h) ?ob ?en
 case ob =>
  refine⟨?_,?_,?_,?_,?_,?_,?_,?_,?_,?_,?_,trivial⟩<;>intro A W h
  ·exact zAY rfl rfl (h.f 0)
  ·(have e2:A.eval (.tmp 2)=.pointer (some ⟨og,pre.length * 7,none⟩):=h.d 0 2;refine zAB rfl ?_;simp only[execOp,e2];(simp[go_sem]<;>first|done|omega|(rw[IntKind.wrap_i64];omega)|(rw[IntKind.wrap_u8];omega)|(rw[IntKind.wrap_u64];omega)))
  ·(have e3:A.eval (.tmp 3)=.pointer (some ⟨og,pre.length * 7,none⟩):=h.d 1 3;refine zAB rfl ?_;simp only[execOp,e3];(simp[go_sem]<;>first|done|omega|(rw[IntKind.wrap_i64];omega)|(rw[IntKind.wrap_u8];omega)|(rw[IntKind.wrap_u64];omega)))
  ·exact zAB rfl (zAL rfl (h.d 2 4) zAV (zCc (H.call h.below) (i:=0) .zero 5)) (by decide)
  ·exact zAY rfl rfl (h.f 0)
  ·(have e6:A.eval (.tmp 6)=.pointer (some ⟨og,pre.length * 7,none⟩):=h.d 4 6;refine zAB rfl ?_;simp only[execOp,e6];(simp[go_sem]<;>first|done|omega|(rw[IntKind.wrap_i64];omega)|(rw[IntKind.wrap_u8];omega)|(rw[IntKind.wrap_u64];omega)))
  ·(have e7:A.eval (.tmp 7)=.pointer (some ⟨og,pre.length * 7,none⟩):=h.d 5 7;refine zAB rfl ?_;simp only[execOp,e7];(simp[go_sem]<;>first|done|omega|(rw[IntKind.wrap_i64];omega)|(rw[IntKind.wrap_u8];omega)|(rw[IntKind.wrap_u64];omega)))
  ·exact zAB rfl (zAL rfl (h.d 6 8) zAV (zCc (H.call h.below) (i:=0) .zero 6)) (by decide)
  ·exact zD1 rfl rfl (enters_of Tryd.func41 (by kernel_rfl) rfl) (zHO ⟨rfl,h.d 7 9⟩) ((hrow W ((H.call h.below).knlt (i:=2) i_2) ((H.call h.below).kn (i:=2) i_2)).mono (zMo h.below.size (by decide)))
  ·exact zFJ Tryd.underlying29 rfl rfl (h.d 3 5)
  ·exact zHs rfl rfl rfl (fun W=>zEN _ _ W) h.below.size (by decide)
 case en =>
  intro vals W hbw hv _;have x8:=hv 8 (by omega);simp only[zAq]at x8
  have x10:=hv 10 (by omega);simp only[zAq]at x10
  simp only[fa,Nat.reduceAdd];rw[e_ hv 0,e_ hv 1,e_ hv 2,e_ hv 3,e_ hv 4,e_ hv 5,e_ hv 6,e_ hv 7,e_ hv 9];clear hv
  try simp only[pl]
  obtain⟨p,c,Fx,bk,e8,e10,hFx,H2⟩:=H.learnTS hbw (Still.at (i:=2) i_2) x8 x10;rw[e8,e10];clear x8 x10 e8 e10 hbw H;have H3:=H2.also Fx (fun V=>ForestR V Fx p c t.kids) (fun b hb=>Still.at (i:=5) i_5 b (.inl hb)) (fun V hV=>(H2.kn (i:=5) i_5).1.kept hV)
  have H4:=H3.also (·=bk) (fun V=>RdN 10 V (·=bk) (.slice (some ⟨bk,0,none⟩) 1 1) [zAQ {kind:=0} nilS]) (fun b hb=>Still.at (i:=5) i_5 b (.inr hb)) (fun V hV=>(H3.kn (i:=5) i_5).2.kept hV)
  clear H2 H3;have H:=H4;clear H4;simp only[ca]at H;have hlen:(l.all.map zAo++[zAQ {kind:=0} nilS]).length=l.all.length+1:=by simp
  have HL:=Lib.hid hlen;clear hlen;have HX:=Lib.hid hFx;clear hFx;clear hrow
  all_goals
   (refine zJn (fuel:=5) 11 (by kernel_rfl) rfl ?_)
  all_goals
   simp only[List.getElem_toArray,List.getElem_cons_succ,List.getElem_cons_zero]
   go_wp2_with (first|(at_builtin;refine zCP rfl _ _ 29 rfl H (i:=3) evd_ evd_ i_3 (H.kn (i:=7) i_7) zEb Tryd.underlying29 hi0 hz0 hz1 hz2 rfl (by decide) zGp (by have:=HA.out;unfold maxLen;omega) (by have:=HA.out;omega) ?_;clear H;intro v2 w H;(try simp only[nr]at H);rw[zDD]at H;(obtain⟨q2,c2,rfl,_,_,hq2⟩:=H.rowShape (i:=3) i_3);(obtain⟨gA,rfl⟩:=hq2 (by omega));clear hq2)|((with_reducible refine gT ?_);refine zBg wtd_ _ _ _ rfl rfl (i:=l.all.length) rfl evd_ H (j:=3) i_3 (zGj _) HL.out (by with_reducible exact zA3 zAW) rfl rfl (by omega) ?_;clear H;intro w H;try simp only[nr]at H)|((with_reducible refine gT ?_);refine zB9 wtd_ _ _ _ rfl rfl evd_ H (j:=0) .zero (by with_reducible exact zAC zAV) rfl (by omega) ?_;clear H;intro w H;try simp only[nr]at H)|(first|((with_reducible refine gL (T:=57) ?_);refine zAX wtd_ _ _ rfl rfl H atd_ (by with_reducible exact zAD) rfl ?_)|((with_reducible refine gL (T:=85) ?_);refine zAX wtd_ _ _ rfl rfl H atd_ (by with_reducible exact zAE) rfl ?_)|((with_reducible refine gT (T:=57) ?_);refine zAK wtd_ _ _ _ rfl rfl evd_ H atd_ rfl (by first|(simp;done)|(simp[zAQ];done)) (by with_reducible exact zAC zAD) ?_;clear H;intro w H;try simp only[nr]at H)|((with_reducible refine gT (T:=85) ?_);refine zAK wtd_ _ _ _ rfl rfl evd_ H atd_ rfl (by first|(simp;done)|(simp[zAQ];done)) (by with_reducible exact zAC zAE) ?_;clear H;intro w H;try simp only[nr]at H)|((with_reducible refine gT ?_);(first|((first|refine aS H ?_|refine aW H ?_|refine aO H ?_|refine aT H ?_);clear H;intro w H;try simp only[nr]at H)|(refine aN H ?_;clear H;intro w H;(try simp only[nr]at H);try simp only[zBE,nrl]at H)))|((with_reducible refine gL ?_);(first|refine aV H ?_|refine aL H ?_|refine aVn H ?_|refine aGb H ?_|refine aG H ?_|refine aD H ?_))|((with_reducible refine gX ?_);((first|refine bS H ?_|refine bB H ?_);clear H;intro b w H;try simp only[nr]at H))|((with_reducible refine gA ?_);(refine bA H ?_;clear H;intro b w H;try simp only[nr]at H))|((with_reducible refine gZ ?_);refine nb0 ?_)|((with_reducible refine gZ ?_);refine nb1 ?_)|((with_reducible refine gZ ?_);(refine nbS ?_;(try simp only[pl])))|((with_reducible refine gZ ?_);refine nbK ?_)|((with_reducible refine gZ ?_);refine nbG ?_)|((with_reducible refine gZ ?_);refine nbR ?_)|((with_reducible refine gZ ?_);refine nbA ?_)|((with_reducible refine gZ ?_);refine fb3 ?_)|((with_reducible refine gES ?_);(refine qS ?_;(try simp only[pl])))|((with_reducible refine gNS ?_);(refine qN ?_;(try simp only[pl])))|((with_reducible refine gZ ?_);(refine aZ ?_;(try simp only[pl])))|((with_reducible refine gI ?_);refine aI ?_)|((with_reducible refine gC ?_);refine aC ?_)|((with_reducible refine gF ?_);refine aF ?_)|((with_reducible refine gU ?_);refine aU ?_)|((with_reducible refine gE ?_);(refine aE ?_;(try simp only[pl])))|((with_reducible refine gQ ?_);(refine aQ ?_;(try simp only[pl])))))
   refine zGy ?_
  all_goals
   (refine zKH (fuel:=4) 12 14 (by kernel_rfl) rfl rfl ?_ ?_)
  all_goals
   simp only[List.getElem_toArray,List.getElem_cons_succ,List.getElem_cons_zero]
   go_wp2_with (first|(at_builtin;refine zCP rfl _ _ 29 rfl H (i:=3) evd_ evd_ i_3 (H.kn (i:=7) i_7) zEb Tryd.underlying29 hi0 hz0 hz1 hz2 rfl (by decide) zGp (by have:=HA.out;unfold maxLen;omega) (by have:=HA.out;omega) ?_;clear H;intro v2 w H;(try simp only[nr]at H);rw[zDD]at H;(obtain⟨q2,c2,rfl,_,_,hq2⟩:=H.rowShape (i:=3) i_3);(obtain⟨gA,rfl⟩:=hq2 (by omega));clear hq2)|((with_reducible refine gT ?_);refine zBg wtd_ _ _ _ rfl rfl (i:=l.all.length) rfl evd_ H (j:=3) i_3 (zGj _) HL.out (by with_reducible exact zA3 zAW) rfl rfl (by omega) ?_;clear H;intro w H;try simp only[nr]at H)|((with_reducible refine gT ?_);refine zB9 wtd_ _ _ _ rfl rfl evd_ H (j:=0) .zero (by with_reducible exact zAC zAV) rfl (by omega) ?_;clear H;intro w H;try simp only[nr]at H)|(first|((with_reducible refine gL (T:=57) ?_);refine zAX wtd_ _ _ rfl rfl H atd_ (by with_reducible exact zAD) rfl ?_)|((with_reducible refine gL (T:=85) ?_);refine zAX wtd_ _ _ rfl rfl H atd_ (by with_reducible exact zAE) rfl ?_)|((with_reducible refine gT (T:=57) ?_);refine zAK wtd_ _ _ _ rfl rfl evd_ H atd_ rfl (by first|(simp;done)|(simp[zAQ];done)) (by with_reducible exact zAC zAD) ?_;clear H;intro w H;try simp only[nr]at H)|((with_reducible refine gT (T:=85) ?_);refine zAK wtd_ _ _ _ rfl rfl evd_ H atd_ rfl (by first|(simp;done)|(simp[zAQ];done)) (by with_reducible exact zAC zAE) ?_;clear H;intro w H;try simp only[nr]at H)|((with_reducible refine gT ?_);(first|((first|refine aS H ?_|refine aW H ?_|refine aO H ?_|refine aT H ?_);clear H;intro w H;try simp only[nr]at H)|(refine aN H ?_;clear H;intro w H;(try simp only[nr]at H);try simp only[zBE,nrl]at H)))|((with_reducible refine gL ?_);(first|refine aV H ?_|refine aL H ?_|refine aVn H ?_|refine aGb H ?_|refine aG H ?_|refine aD H ?_))|((with_reducible refine gX ?_);((first|refine bS H ?_|refine bB H ?_);clear H;intro b w H;try simp only[nr]at H))|((with_reducible refine gA ?_);(refine bA H ?_;clear H;intro b w H;try simp only[nr]at H))|((with_reducible refine gZ ?_);refine nb0 ?_)|((with_reducible refine gZ ?_);refine nb1 ?_)|((with_reducible refine gZ ?_);(refine nbS ?_;(try simp only[pl])))|((with_reducible refine gZ ?_);refine nbK ?_)|((with_reducible refine gZ ?_);refine nbG ?_)|((with_reducible refine gZ ?_);refine nbR ?_)|((with_reducible refine gZ ?_);refine nbA ?_)|((with_reducible refine gZ ?_);refine fb3 ?_)|((with_reducible refine gES ?_);(refine qS ?_;(try simp only[pl])))|((with_reducible refine gNS ?_);(refine qN ?_;(try simp only[pl])))|((with_reducible refine gZ ?_);(refine aZ ?_;(try simp only[pl])))|((with_reducible refine gI ?_);refine aI ?_)|((with_reducible refine gC ?_);refine aC ?_)|((with_reducible refine gF ?_);refine aF ?_)|((with_reducible refine gU ?_);refine aU ?_)|((with_reducible refine gE ?_);(refine aE ?_;(try simp only[pl])))|((with_reducible refine gQ ?_);(refine aQ ?_;(try simp only[pl])))))
   refine zGy ?_
  all_goals
   first|(refine zKH (fuel:=3) 13 14 (by decide +kernel) rfl rfl ?_ ?_)|(refine zKH (fuel:=3) 12 15 (by decide +kernel) rfl rfl ?_ ?_)
  all_goals
   simp only[List.getElem_toArray,List.getElem_cons_succ,List.getElem_cons_zero]
   go_wp2_with (first|(at_builtin;refine zCP rfl _ _ 29 rfl H (i:=3) evd_ evd_ i_3 (H.kn (i:=7) i_7) zEb Tryd.underlying29 hi0 hz0 hz1 hz2 rfl (by decide) zGp (by have:=HA.out;unfold maxLen;omega) (by have:=HA.out;omega) ?_;clear H;intro v2 w H;(try simp only[nr]at H);rw[zDD]at H;(obtain⟨q2,c2,rfl,_,_,hq2⟩:=H.rowShape (i:=3) i_3);(obtain⟨gA,rfl⟩:=hq2 (by omega));clear hq2)|((with_reducible refine gT ?_);refine zBg wtd_ _ _ _ rfl rfl (i:=l.all.length) rfl evd_ H (j:=3) i_3 (zGj _) HL.out (by with_reducible exact zA3 zAW) rfl rfl (by omega) ?_;clear H;intro w H;try simp only[nr]at H)|((with_reducible refine gT ?_);refine zB9 wtd_ _ _ _ rfl rfl evd_ H (j:=0) .zero (by with_reducible exact zAC zAV) rfl (by omega) ?_;clear H;intro w H;try simp only[nr]at H)|(first|((with_reducible refine gL (T:=57) ?_);refine zAX wtd_ _ _ rfl rfl H atd_ (by with_reducible exact zAD) rfl ?_)|((with_reducible refine gL (T:=85) ?_);refine zAX wtd_ _ _ rfl rfl H atd_ (by with_reducible exact zAE) rfl ?_)|((with_reducible refine gT (T:=57) ?_);refine zAK wtd_ _ _ _ rfl rfl evd_ H atd_ rfl (by first|(simp;done)|(simp[zAQ];done)) (by with_reducible exact zAC zAD) ?_;clear H;intro w H;try simp only[nr]at H)|((with_reducible refine gT (T:=85) ?_);refine zAK wtd_ _ _ _ rfl rfl evd_ H atd_ rfl (by first|(simp;done)|(simp[zAQ];done)) (by with_reducible exact zAC zAE) ?_;clear H;intro w H;try simp only[nr]at H)|((with_reducible refine gT ?_);(first|((first|refine aS H ?_|refine aW H ?_|refine aO H ?_|refine aT H ?_);clear H;intro w H;try simp only[nr]at H)|(refine aN H ?_;clear H;intro w H;(try simp only[nr]at H);try simp only[zBE,nrl]at H)))|((with_reducible refine gL ?_);(first|refine aV H ?_|refine aL H ?_|refine aVn H ?_|refine aGb H ?_|refine aG H ?_|refine aD H ?_))|((with_reducible refine gX ?_);((first|refine bS H ?_|refine bB H ?_);clear H;intro b w H;try simp only[nr]at H))|((with_reducible refine gA ?_);(refine bA H ?_;clear H;intro b w H;try simp only[nr]at H))|((with_reducible refine gZ ?_);refine nb0 ?_)|((with_reducible refine gZ ?_);refine nb1 ?_)|((with_reducible refine gZ ?_);(refine nbS ?_;(try simp only[pl])))|((with_reducible refine gZ ?_);refine nbK ?_)|((with_reducible refine gZ ?_);refine nbG ?_)|((with_reducible refine gZ ?_);refine nbR ?_)|((with_reducible refine gZ ?_);refine nbA ?_)|((with_reducible refine gZ ?_);refine fb3 ?_)|((with_reducible refine gES ?_);(refine qS ?_;(try simp only[pl])))|((with_reducible refine gNS ?_);(refine qN ?_;(try simp only[pl])))|((with_reducible refine gZ ?_);(refine aZ ?_;(try simp only[pl])))|((with_reducible refine gI ?_);refine aI ?_)|((with_reducible refine gC ?_);refine aC ?_)|((with_reducible refine gF ?_);refine aF ?_)|((with_reducible refine gU ?_);refine aU ?_)|((with_reducible refine gE ?_);(refine aE ?_;(try simp only[pl])))|((with_reducible refine gQ ?_);(refine aQ ?_;(try simp only[pl])))))
   refine zGy ?_
  all_goals
   first|(refine zJn (fuel:=2) 14 (by decide +kernel) rfl ?_)|(refine zKH (fuel:=2) 13 15 (by decide +kernel) rfl rfl ?_ ?_)|(refine zKH (fuel:=2) 12 16 (by decide +kernel) rfl rfl ?_ ?_)
  all_goals
   simp only[List.getElem_toArray,List.getElem_cons_succ,List.getElem_cons_zero]
   go_wp2_with (first|(at_builtin;refine zCP rfl _ _ 29 rfl H (i:=3) evd_ evd_ i_3 (H.kn (i:=7) i_7) zEb Tryd.underlying29 hi0 hz0 hz1 hz2 rfl (by decide) zGp (by have:=HA.out;unfold maxLen;omega) (by have:=HA.out;omega) ?_;clear H;intro v2 w H;(try simp only[nr]at H);rw[zDD]at H;(obtain⟨q2,c2,rfl,_,_,hq2⟩:=H.rowShape (i:=3) i_3);(obtain⟨gA,rfl⟩:=hq2 (by omega));clear hq2)|((with_reducible refine gT ?_);refine zBg wtd_ _ _ _ rfl rfl (i:=l.all.length) rfl evd_ H (j:=3) i_3 (zGj _) HL.out (by with_reducible exact zA3 zAW) rfl rfl (by omega) ?_;clear H;intro w H;try simp only[nr]at H)|((with_reducible refine gT ?_);refine zB9 wtd_ _ _ _ rfl rfl evd_ H (j:=0) .zero (by with_reducible exact zAC zAV) rfl (by omega) ?_;clear H;intro w H;try simp only[nr]at H)|(first|((with_reducible refine gL (T:=57) ?_);refine zAX wtd_ _ _ rfl rfl H atd_ (by with_reducible exact zAD) rfl ?_)|((with_reducible refine gL (T:=85) ?_);refine zAX wtd_ _ _ rfl rfl H atd_ (by with_reducible exact zAE) rfl ?_)|((with_reducible refine gT (T:=57) ?_);refine zAK wtd_ _ _ _ rfl rfl evd_ H atd_ rfl (by first|(simp;done)|(simp[zAQ];done)) (by with_reducible exact zAC zAD) ?_;clear H;intro w H;try simp only[nr]at H)|((with_reducible refine gT (T:=85) ?_);refine zAK wtd_ _ _ _ rfl rfl evd_ H atd_ rfl (by first|(simp;done)|(simp[zAQ];done)) (by with_reducible exact zAC zAE) ?_;clear H;intro w H;try simp only[nr]at H)|((with_reducible refine gT ?_);(first|((first|refine aS H ?_|refine aW H ?_|refine aO H ?_|refine aT H ?_);clear H;intro w H;try simp only[nr]at H)|(refine aN H ?_;clear H;intro w H;(try simp only[nr]at H);try simp only[zBE,nrl]at H)))|((with_reducible refine gL ?_);(first|refine aV H ?_|refine aL H ?_|refine aVn H ?_|refine aGb H ?_|refine aG H ?_|refine aD H ?_))|((with_reducible refine gX ?_);((first|refine bS H ?_|refine bB H ?_);clear H;intro b w H;try simp only[nr]at H))|((with_reducible refine gA ?_);(refine bA H ?_;clear H;intro b w H;try simp only[nr]at H))|((with_reducible refine gZ ?_);refine nb0 ?_)|((with_reducible refine gZ ?_);refine nb1 ?_)|((with_reducible refine gZ ?_);(refine nbS ?_;(try simp only[pl])))|((with_reducible refine gZ ?_);refine nbK ?_)|((with_reducible refine gZ ?_);refine nbG ?_)|((with_reducible refine gZ ?_);refine nbR ?_)|((with_reducible refine gZ ?_);refine nbA ?_)|((with_reducible refine gZ ?_);refine fb3 ?_)|((with_reducible refine gES ?_);(refine qS ?_;(try simp only[pl])))|((with_reducible refine gNS ?_);(refine qN ?_;(try simp only[pl])))|((with_reducible refine gZ ?_);(refine aZ ?_;(try simp only[pl])))|((with_reducible refine gI ?_);refine aI ?_)|((with_reducible refine gC ?_);refine aC ?_)|((with_reducible refine gF ?_);refine aF ?_)|((with_reducible refine gU ?_);refine aU ?_)|((with_reducible refine gE ?_);(refine aE ?_;(try simp only[pl])))|((with_reducible refine gQ ?_);(refine aQ ?_;(try simp only[pl])))))
   refine zGy ?_
  all_goals
   first|(refine zJn (fuel:=1) 15 (by decide +kernel) rfl ?_)|(refine zKH (fuel:=1) 13 16 (by decide +kernel) rfl rfl ?_ ?_)|(refine zJn (fuel:=1) 12 (by decide +kernel) rfl ?_)
  all_goals
   simp only[List.getElem_toArray,List.getElem_cons_succ,List.getElem_cons_zero]
   go_wp2_with (first|(at_builtin;refine zCP rfl _ _ 29 rfl H (i:=3) evd_ evd_ i_3 (H.kn (i:=7) i_7) zEb Tryd.underlying29 hi0 hz0 hz1 hz2 rfl (by decide) zGp (by have:=HA.out;unfold maxLen;omega) (by have:=HA.out;omega) ?_;clear H;intro v2 w H;(try simp only[nr]at H);rw[zDD]at H;(obtain⟨q2,c2,rfl,_,_,hq2⟩:=H.rowShape (i:=3) i_3);(obtain⟨gA,rfl⟩:=hq2 (by omega));clear hq2)|((with_reducible refine gT ?_);refine zBg wtd_ _ _ _ rfl rfl (i:=l.all.length) rfl evd_ H (j:=3) i_3 (zGj _) HL.out (by with_reducible exact zA3 zAW) rfl rfl (by omega) ?_;clear H;intro w H;try simp only[nr]at H)|((with_reducible refine gT ?_);refine zB9 wtd_ _ _ _ rfl rfl evd_ H (j:=0) .zero (by with_reducible exact zAC zAV) rfl (by omega) ?_;clear H;intro w H;try simp only[nr]at H)|(first|((with_reducible refine gL (T:=57) ?_);refine zAX wtd_ _ _ rfl rfl H atd_ (by with_reducible exact zAD) rfl ?_)|((with_reducible refine gL (T:=85) ?_);refine zAX wtd_ _ _ rfl rfl H atd_ (by with_reducible exact zAE) rfl ?_)|((with_reducible refine gT (T:=57) ?_);refine zAK wtd_ _ _ _ rfl rfl evd_ H atd_ rfl (by first|(simp;done)|(simp[zAQ];done)) (by with_reducible exact zAC zAD) ?_;clear H;intro w H;try simp only[nr]at H)|((with_reducible refine gT (T:=85) ?_);refine zAK wtd_ _ _ _ rfl rfl evd_ H atd_ rfl (by first|(simp;done)|(simp[zAQ];done)) (by with_reducible exact zAC zAE) ?_;clear H;intro w H;try simp only[nr]at H)|((with_reducible refine gT ?_);(first|((first|refine aS H ?_|refine aW H ?_|refine aO H ?_|refine aT H ?_);clear H;intro w H;try simp only[nr]at H)|(refine aN H ?_;clear H;intro w H;(try simp only[nr]at H);try simp only[zBE,nrl]at H)))|((with_reducible refine gL ?_);(first|refine aV H ?_|refine aL H ?_|refine aVn H ?_|refine aGb H ?_|refine aG H ?_|refine aD H ?_))|((with_reducible refine gX ?_);((first|refine bS H ?_|refine bB H ?_);clear H;intro b w H;try simp only[nr]at H))|((with_reducible refine gA ?_);(refine bA H ?_;clear H;intro b w H;try simp only[nr]at H))|((with_reducible refine gZ ?_);refine nb0 ?_)|((with_reducible refine gZ ?_);refine nb1 ?_)|((with_reducible refine gZ ?_);(refine nbS ?_;(try simp only[pl])))|((with_reducible refine gZ ?_);refine nbK ?_)|((with_reducible refine gZ ?_);refine nbG ?_)|((with_reducible refine gZ ?_);refine nbR ?_)|((with_reducible refine gZ ?_);refine nbA ?_)|((with_reducible refine gZ ?_);refine fb3 ?_)|((with_reducible refine gES ?_);(refine qS ?_;(try simp only[pl])))|((with_reducible refine gNS ?_);(refine qN ?_;(try simp only[pl])))|((with_reducible refine gZ ?_);(refine aZ ?_;(try simp only[pl])))|((with_reducible refine gI ?_);refine aI ?_)|((with_reducible refine gC ?_);refine aC ?_)|((with_reducible refine gF ?_);refine aF ?_)|((with_reducible refine gU ?_);refine aU ?_)|((with_reducible refine gE ?_);(refine aE ?_;(try simp only[pl])))|((with_reducible refine gQ ?_);(refine aQ ?_;(try simp only[pl])))))
   refine zGy ?_
  all_goals
   first|(refine zJn (fuel:=0) 16 (by decide +kernel) rfl ?_)|(refine zJn (fuel:=0) 13 (by decide +kernel) rfl ?_)
  all_goals
   simp only[List.getElem_toArray,List.getElem_cons_succ,List.getElem_cons_zero]
   go_wp2_with (first|(at_builtin;refine zCP rfl _ _ 29 rfl H (i:=3) evd_ evd_ i_3 (H.kn (i:=7) i_7) zEb Tryd.underlying29 hi0 hz0 hz1 hz2 rfl (by decide) zGp (by have:=HA.out;unfold maxLen;omega) (by have:=HA.out;omega) ?_;clear H;intro v2 w H;(try simp only[nr]at H);rw[zDD]at H;(obtain⟨q2,c2,rfl,_,_,hq2⟩:=H.rowShape (i:=3) i_3);(obtain⟨gA,rfl⟩:=hq2 (by omega));clear hq2)|((with_reducible refine gT ?_);refine zBg wtd_ _ _ _ rfl rfl (i:=l.all.length) rfl evd_ H (j:=3) i_3 (zGj _) HL.out (by with_reducible exact zA3 zAW) rfl rfl (by omega) ?_;clear H;intro w H;try simp only[nr]at H)|((with_reducible refine gT ?_);refine zB9 wtd_ _ _ _ rfl rfl evd_ H (j:=0) .zero (by with_reducible exact zAC zAV) rfl (by omega) ?_;clear H;intro w H;try simp only[nr]at H)|(first|((with_reducible refine gL (T:=57) ?_);refine zAX wtd_ _ _ rfl rfl H atd_ (by with_reducible exact zAD) rfl ?_)|((with_reducible refine gL (T:=85) ?_);refine zAX wtd_ _ _ rfl rfl H atd_ (by with_reducible exact zAE) rfl ?_)|((with_reducible refine gT (T:=57) ?_);refine zAK wtd_ _ _ _ rfl rfl evd_ H atd_ rfl (by first|(simp;done)|(simp[zAQ];done)) (by with_reducible exact zAC zAD) ?_;clear H;intro w H;try simp only[nr]at H)|((with_reducible refine gT (T:=85) ?_);refine zAK wtd_ _ _ _ rfl rfl evd_ H atd_ rfl (by first|(simp;done)|(simp[zAQ];done)) (by with_reducible exact zAC zAE) ?_;clear H;intro w H;try simp only[nr]at H)|((with_reducible refine gT ?_);(first|((first|refine aS H ?_|refine aW H ?_|refine aO H ?_|refine aT H ?_);clear H;intro w H;try simp only[nr]at H)|(refine aN H ?_;clear H;intro w H;(try simp only[nr]at H);try simp only[zBE,nrl]at H)))|((with_reducible refine gL ?_);(first|refine aV H ?_|refine aL H ?_|refine aVn H ?_|refine aGb H ?_|refine aG H ?_|refine aD H ?_))|((with_reducible refine gX ?_);((first|refine bS H ?_|refine bB H ?_);clear H;intro b w H;try simp only[nr]at H))|((with_reducible refine gA ?_);(refine bA H ?_;clear H;intro b w H;try simp only[nr]at H))|((with_reducible refine gZ ?_);refine nb0 ?_)|((with_reducible refine gZ ?_);refine nb1 ?_)|((with_reducible refine gZ ?_);(refine nbS ?_;(try simp only[pl])))|((with_reducible refine gZ ?_);refine nbK ?_)|((with_reducible refine gZ ?_);refine nbG ?_)|((with_reducible refine gZ ?_);refine nbR ?_)|((with_reducible refine gZ ?_);refine nbA ?_)|((with_reducible refine gZ ?_);refine fb3 ?_)|((with_reducible refine gES ?_);(refine qS ?_;(try simp only[pl])))|((with_reducible refine gNS ?_);(refine qN ?_;(try simp only[pl])))|((with_reducible refine gZ ?_);(refine aZ ?_;(try simp only[pl])))|((with_reducible refine gI ?_);refine aI ?_)|((with_reducible refine gC ?_);refine aC ?_)|((with_reducible refine gF ?_);refine aF ?_)|((with_reducible refine gU ?_);refine aU ?_)|((with_reducible refine gE ?_);(refine aE ?_;(try simp only[pl])))|((with_reducible refine gQ ?_);(refine aQ ?_;(try simp only[pl])))))
   refine zGy ?_
  all_goals
   refine zOb (by kernel_rfl) ?_
   obtain⟨x,hx⟩:∃ x:TV,x=(t,p,c):=⟨_,rfl⟩;obtain⟨l3,hl3⟩:∃ l3:LevM,{l with all:=l.all++[x],aq:=some ⟨gA,0,none⟩,ac:=c2}=l3:=⟨_,rfl⟩
   obtain⟨l4,hl4⟩:∃ l4:LevM,{l with all:=l.all++[x],aq:=some ⟨gA,0,none⟩,ac:=c2,items:=[],iq:=none,ic:=0}=l4:=⟨_,rfl⟩
   have hr1:(zAc ((pre++[l]).map levC)).set (pre.length * 7+5) (.slice (some ⟨gA,0,none⟩) (l.all.length+1) c2)=zAc ((pre++[l3]).map levC):=zFy pre l l3 5 _ (by decide) (by rw[← hl3];simp[levC])
   have hr2:(zAc ((pre++[l3]).map levC)).set (pre.length * 7+6) (.slice none 0 0)=zAc ((pre++[l4]).map levC):=zFy pre l3 l4 6 _ (by decide) (by rw[← hl3,← hl4];simp[levC])
   have hr3:zAc ((l.all.map zAo++[zAQ {kind:=0} nilS]).set l.all.length (zAQ t.d (.slice p t.kids.length c)))=zAc ((l.all++[x]).map zAo):=by rw[hx];exact zLE l.all (t,p,c)
   rw[hr1,hr3]at H;have HQ:=Lib.hid (And.intro hx hl4);have H2:=Lib.hid hr2;clear hr1 hr2 hr3 hl3 hl4 hx
   go_wp2_with (first|((with_reducible refine gT ?_);refine zB9 wtd_ _ _ _ rfl rfl evd_ H (j:=0) .zero (by with_reducible exact zAC zAV) rfl (by omega) ?_;clear H;intro w H;try simp only[nr]at H)|(first|((with_reducible refine gL (T:=57) ?_);refine zAX wtd_ _ _ rfl rfl H atd_ (by with_reducible exact zAD) rfl ?_)|((with_reducible refine gL (T:=85) ?_);refine zAX wtd_ _ _ rfl rfl H atd_ (by with_reducible exact zAE) rfl ?_)|((with_reducible refine gT (T:=57) ?_);refine zAK wtd_ _ _ _ rfl rfl evd_ H atd_ rfl (by first|(simp;done)|(simp[zAQ];done)) (by with_reducible exact zAC zAD) ?_;clear H;intro w H;try simp only[nr]at H)|((with_reducible refine gT (T:=85) ?_);refine zAK wtd_ _ _ _ rfl rfl evd_ H atd_ rfl (by first|(simp;done)|(simp[zAQ];done)) (by with_reducible exact zAC zAE) ?_;clear H;intro w H;try simp only[nr]at H)|((with_reducible refine gT ?_);(first|((first|refine aS H ?_|refine aW H ?_|refine aO H ?_|refine aT H ?_);clear H;intro w H;try simp only[nr]at H)|(refine aN H ?_;clear H;intro w H;(try simp only[nr]at H);try simp only[zBE,nrl]at H)))|((with_reducible refine gL ?_);(first|refine aV H ?_|refine aL H ?_|refine aVn H ?_|refine aGb H ?_|refine aG H ?_|refine aD H ?_))|((with_reducible refine gX ?_);((first|refine bS H ?_|refine bB H ?_);clear H;intro b w H;try simp only[nr]at H))|((with_reducible refine gA ?_);(refine bA H ?_;clear H;intro b w H;try simp only[nr]at H))|((with_reducible refine gZ ?_);refine nb0 ?_)|((with_reducible refine gZ ?_);refine nb1 ?_)|((with_reducible refine gZ ?_);(refine nbS ?_;(try simp only[pl])))|((with_reducible refine gZ ?_);refine nbK ?_)|((with_reducible refine gZ ?_);refine nbG ?_)|((with_reducible refine gZ ?_);refine nbR ?_)|((with_reducible refine gZ ?_);refine nbA ?_)|((with_reducible refine gZ ?_);refine fb3 ?_)|((with_reducible refine gES ?_);(refine qS ?_;(try simp only[pl])))|((with_reducible refine gNS ?_);(refine qN ?_;(try simp only[pl])))|((with_reducible refine gZ ?_);(refine aZ ?_;(try simp only[pl])))|((with_reducible refine gI ?_);refine aI ?_)|((with_reducible refine gC ?_);refine aC ?_)|((with_reducible refine gF ?_);refine aF ?_)|((with_reducible refine gU ?_);refine aU ?_)|((with_reducible refine gE ?_);(refine aE ?_;(try simp only[pl])))|((with_reducible refine gQ ?_);(refine aQ ?_;(try simp only[pl])))))
   rw[H2.out]at H;exact⟨rfl,.tuple #[],resE rfl,rfl,zNO HR.out.1 HR.out.2.1 HR.out.2.2 HG.out HX.out HQ.out.1 HQ.out.2 H⟩
end
end
end Go.Proofs.YtklcgfkdemifcaaDoor
