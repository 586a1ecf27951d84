/-
  Laws of walks, and walks.
-/
import Derived.Test.YtklcgfkdemifcaaDoorSr13
import Derived.Test.YtklcgfkdemifcaaDoorSr4
import Derived.Test.YtklcgfkdemifcaaDoorSr8
import Derived.Test.YtklcgfkdemifcaaDoorSr9
import Derived.WalkMore
set_option linter.unusedVariables false
set_option linter.unusedSimpArgs false
set_option maxRecDepth 100000
set_option maxHeartbeats 16000000
namespace Go.Proofs.YtklcgfkdemifcaaDoor
section
open Go.RowKit Go.Shelf Go.MapKept
attribute [local go_sem] Oper.semAt_some
def frW (L:Str) (b2 b3 b4 b5 rb pb:Nat) (v6 v17:Value):Array Value:=#[.string ⟨L.toArray⟩,undef,.pointer (some ⟨b2,0,none⟩),.pointer (some ⟨b3,0,none⟩),.pointer (some ⟨b4,0,none⟩),.pointer (some ⟨b5,0,none⟩),v6,.string ⟨L.toArray⟩,.int .i64 (L.length:Int),.bool false,
 .func (.func 29) #[] #[.pointer (some ⟨b4,0,none⟩),.pointer (some ⟨b2,0,none⟩)],.string ⟨L.toArray⟩,.agg #[.string ⟨L.toArray⟩,.int .i64 0],.agg #[.string ⟨L.toArray⟩,.int .i64 0],.pointer (some ⟨rb,0,none⟩),.pointer (some ⟨rb,0,none⟩),
 .func (.func 43) #[] #[.pointer (some ⟨pb,0,none⟩)],v17,undef,undef,undef,undef,undef,undef,undef,undef,undef,undef]
theorem zI6 (L:Str) (w0:World) (hz:MaxL w0):Calls Tryd.prog 16 #[.string ⟨L.toArray⟩] w0 fun e w'=>WordsR 65 w0.heap.size (zCt L) e w'∧Below w0.heap.size w0 w':=by
 have H:=Hold.start w0
 by_cases hlen:1000<L.length
 ·have d0:decide ((1000:Int)<(L.length:Int))=true:=by simp;omega
  have E:=Lib.hid (show zCt L=.error (0,3) by unfold zCt;rw[if_pos hlen])
  go_enter Tryd.func16,Tryd.ntmps16
  go_wp2_with (first|((first|((with_reducible refine kgA 2 ?_);refine kA 2 H ?_)|((with_reducible refine kgX 2 ?_);(first|refine kS 2 H ?_|refine kB 2 H ?_)));clear H;intro b2 w H;try simp only[nr]at H)|((first|((with_reducible refine kgA 3 ?_);refine kA 3 H ?_)|((with_reducible refine kgX 3 ?_);(first|refine kS 3 H ?_|refine kB 3 H ?_)));clear H;intro b3 w H;try simp only[nr]at H)|((first|((with_reducible refine kgA 4 ?_);refine kA 4 H ?_)|((with_reducible refine kgX 4 ?_);(first|refine kS 4 H ?_|refine kB 4 H ?_)));clear H;intro b4 w H;try simp only[nr]at H)|((with_reducible refine gT ?_);(refine aO H ?_;clear H;intro w H;try simp only[nr]at H)))
  refine bodyPost_ret (zHY Tryd.results16 rfl rfl rfl zAR zAJ zAM ((H.cell .zero 0).trans rfl) ((H.cell i_1 0).trans rfl) ((H.cell i_2 0).trans rfl)) rfl ?_
  exact⟨WordsR.no E.out,H.below⟩
 ·have d0:decide ((1000:Int)<(L.length:Int))=false:=by simp;omega
  have E:=Lib.hid (show zCt L=zFQ L by unfold zCt;rw[if_neg hlen])
  have hmf:=mkf;refine zDr ?_
  refine callsIn_of_wp_marks Tryd.func16 rfl trivial ?_ rfl;simp only[Tryd.ntmps16,List.size_toArray,List.length_cons,List.length_nil,Nat.reduceAdd,Nat.reduceSub,Array.replicate_succ,Array.replicate_zero,List.push_toArray,List.append_toArray,List.nil_append,List.cons_append];rw[wpIn_wide]
  go_wp2_with (first|((first|((with_reducible refine kgA 2 ?_);refine kA 2 H ?_)|((with_reducible refine kgX 2 ?_);(first|refine kS 2 H ?_|refine kB 2 H ?_)));clear H;intro b2 w H;try simp only[nr]at H)|((first|((with_reducible refine kgA 3 ?_);refine kA 3 H ?_)|((with_reducible refine kgX 3 ?_);(first|refine kS 3 H ?_|refine kB 3 H ?_)));clear H;intro b3 w H;try simp only[nr]at H)|((first|((with_reducible refine kgA 4 ?_);refine kA 4 H ?_)|((with_reducible refine kgX 4 ?_);(first|refine kS 4 H ?_|refine kB 4 H ?_)));clear H;intro b4 w H;try simp only[nr]at H)|((first|((with_reducible refine kgA 5 ?_);refine kA 5 H ?_)|((with_reducible refine kgX 5 ?_);(first|refine kS 5 H ?_|refine kB 5 H ?_)));clear H;intro b5 w H;try simp only[nr]at H)|((first|((with_reducible refine kgA 14 ?_);refine kA 14 H ?_)|((with_reducible refine kgX 14 ?_);(first|refine kS 14 H ?_|refine kB 14 H ?_)));clear H;intro b14 w H;try simp only[nr]at H)|(first|((with_reducible refine gT ?_);(refine aO H ?_;clear H;intro w H;try simp only[nr]at H))|((with_reducible refine gL ?_);refine aG H ?_))|(go_at_call 30;(with_reducible refine(zMT b14 _).mono ?_);rintro e w ⟨⟨pb,rfl,hpn,hpb⟩,hb⟩;replace H:=H.gain hb [.blk pb #[ptrV b14] 80] (by intro r hr;simp only[List.mem_cons,List.not_mem_nil,or_false]at hr;subst hr;exact⟨⟨.inl (Nat.le_trans H.keep.size hpn),hpb⟩,fun b e=>by cases e;exact hpn⟩) (List.pairwise_singleton _ _);clear hb hpn hpb;try simp only[nr]at H))
  rename_i Kc hKc;replace H:=H.addNil 65 17;simp only[ca]at H;have hpm:∀ i,i<7→∀ j,j<7→i≠j→[3,5,0,1,2,4,6].getD i 0≠[3,5,0,1,2,4,6].getD j 0:=by decide
  have H0:Hd w0 L 84 b2 b3 b4 b5 b14 pb [] 0 0 w:=⟨.slice none 0 0,H.perm (fun i=>[3,5,0,1,2,4,6].getD i 0) (fun i hi=>by
   match i,hi with
   | 0,_=>rfl|1,_=>rfl|2,_=>rfl|3,_=>rfl|4,_=>rfl|5,_=>rfl|6,_=>rfl
   | k+7,h=>exact absurd h (by simp[HdL])) (fun i j hi hj=>hpm i hi j hj)⟩
  have hB:w0.heap.size≤w.heap.size:=H.keep.size;have hrb:b14<w.heap.size:=(Array.getElem?_eq_some_iff.1 (H.blk i_3).2).1;have hr0:b14≠0:=by
   rintro rfl;rcases(H.blk i_3).1 with h|h
   ·obtain⟨m,hm⟩:=hz;have:w0.heap[0]?=none:=Array.getElem?_eq_none (by omega)
    simp[World.cell?,this]at hm
   ·exact h
  clear H;rw[← wpIn_wide (n:=9)];refine zEU (σ:=List WordD × Nat) (α:=WordD) rfl (by omega) (gf:=43) (lb:=#[.pointer (some ⟨pb,0,none⟩)]) rfl trivial (enters_of Tryd.func43 (by kernel_rfl) rfl) (encs:=fun d=>#[zAk d]) (fun _=>rfl)
   (Hd w0 L 84 b2 b3 b4 b5 b14 pb [] 0 0)
   (fun W=>∃ ws p,zFQ L=.ok ws∧Hd w0 L 84 b2 b3 b4 b5 b14 pb ws p p W)
   (fun ch W=>∃ ws p x v,ch=zEC x∧zFQ L=.error (p,x)∧(x=4∨x=6)∧Hold w0 W (HdL L 84 b2 b3 b4 b5 b14 pb v ws p 0).tail)
   (fun s d W=>∃ j,s.2<L.length∧WInv L s.1 s.2∧zBc L s.2=.ok (d,j)∧Hd w0 L 84 b2 b3 b4 b5 b14 pb s.1 s.2 j W)
   (fun s d W=>∃ j,zBc L s.2=.ok (d,j)∧Hd w0 L 84 b2 b3 b4 b5 b14 pb (s.1++[d]) j j W)
   (fun s d a1 W=>∃ b6 j v,a1={tmps:=frW L b2 b3 b4 b5 b14 pb (.pointer (some ⟨b6,0,none⟩)) (zAk d),defers:=[]}∧(s.2<L.length∧WInv L s.1 s.2∧zBc L s.2=.ok (d,j))∧Hold w0 W (HdL L 84 b2 b3 b4 b5 b14 pb v s.1 s.2 j++[.blk b6 (zAg d) 65]))
   (Stay.ex fun v=>HoldG.stay rfl hB)
   (Stay.ex fun ws=>Stay.ex fun p=>Stay.and (Stay.ex fun v=>HoldG.stay rfl hB))
   (fun ch=>Stay.ex fun ws=>Stay.ex fun p=>Stay.ex fun x=>Stay.ex fun v=>Stay.and (Stay.and (Stay.and (HoldG.stay rfl hB))))
   (fun s d=>Stay.ex fun j=>Stay.and (Stay.ex fun v=>HoldG.stay rfl hB))
   (fun s d a1=>Stay.ex fun b6=>Stay.ex fun j=>Stay.ex fun v=>Stay.and (Stay.and (HoldG.stay rfl hB)))
   ?iter H0 ?assign ?body ?done ?pan
  case iter =>
   intro l B hB' hY W hI hBW;refine(zMp w0 L 84 b2 b3 b4 b5 b14 pb (by omega) hr0 hz l B w.heap.size hrb hB' ?_ W hI hBW).mono (fun e W' h=>h)
   intro ws i j d W1 hi hw hp hH hBW1;exact(hY (ws,i) d W1 ⟨j,hi,hw,hp,hH⟩ hBW1).mono (fun e W' h=>⟨h.1,by obtain⟨j',hj',hd⟩:=h.2.1;rw[hp]at hj';cases hj';exact hd,h.2.2⟩)
  case assign =>
   rintro l ⟨ws,i⟩ d W ⟨j,hi,hw,hp,v,HW⟩;simp only[List.zip_toArray,List.foldl_toArray,List.zip_cons_cons,List.zip_nil_right,List.zip_nil_left,List.foldl_cons,List.foldl_nil,List.setIfInBounds_toArray,List.set_cons_succ,List.set_cons_zero];unfold frW;refine wpIn_region_lit (zCU (by rintro⟨_,_,h⟩;exact h) _ _ _ rfl ?_)
   have H:=Hold.start W
   go_wp2_with (first|((first|((with_reducible refine kgA 6 ?_);refine kA 6 H ?_)|((with_reducible refine kgX 6 ?_);(first|refine kS 6 H ?_|refine kB 6 H ?_)));clear H;intro b6 w H;try simp only[nr]at H)|((with_reducible refine gT ?_);(refine aT H ?_;clear H;intro w H;try simp only[nr]at H)))
   refine⟨zBq H.below,v,HW.gain H.below [.blk b6 (zAg d) 65] (fun r hr=>?_) (List.pairwise_singleton _ _)⟩
   simp only[List.mem_cons,List.not_mem_nil,or_false]at hr;subst hr;have hb6:W.heap.size≤b6:=by rcases(H.blk .zero).1 with h|h;exact h;exact h.elim
   exact⟨⟨.inl (Nat.le_trans HW.keep.size hb6),(H.blk .zero).2⟩,fun b e=>by cases e;exact hb6⟩
  case body =>
   rintro l ⟨ws,i⟩ d a1 W ⟨b6,j,v,rfl,⟨hi,hw,hp⟩,H⟩;have N:=KeepsFrom.refl w.heap.size W;have hwl:ws.length≤i:=by obtain⟨_,h,_⟩:=hw;exact h
   unfold HdL at H;simp only[ca]at H;unfold frW;obtain⟨i0,hi0,hz0,hz1,hz2⟩:=info_parts zJz;refine wpIn_block (wpIn_seq (wpIn_region_lit (zCU (by rintro⟨_,_,h⟩;exact h) _ _ _ rfl ?_)))
   go_wp2_with (first|((with_reducible show @wpList _ _ _ ({dst:=_,op:=Op.store _ _ _,type:=_,pos:=_,after:=_,guard:=_}::_) _ _);refine zDj wtd_ _ _ _ rfl rfl evd_ H N atd_ (by first|rfl|assumption) (by first|(simp;done)|(simp[zAg];done)) (by first|(with_reducible exact zAC zAR)|(with_reducible exact zAC zAM)|(with_reducible exact zAC zCQ)|(with_reducible exact zAC zAN)|(with_reducible exact zAC zAJ)|(with_reducible exact zAC one_u8)|(with_reducible exact zAC zAZ)|(with_reducible exact zAC zAh)|(with_reducible exact zAC zAe)|(with_reducible exact zAC one_u64)) ?_;clear H N;intro w H N;try simp only[nr]at H)|((with_reducible refine gBS ?_);refine zJy wtd_ _ _ _ rfl H N (zAg d) 65 (by intro W;simp only[ml];(try simp only[zNF,zGe,List.setIfInBounds_toArray,List.set_cons_succ,List.set_cons_zero,zM3,zLz,List.getD_cons_succ,List.getD_cons_zero]);exact zJ5 d W) ?_;clear H N;intro b w H N;try simp only[nr]at H)|(at_builtin;refine Hid.out ?_)|((with_reducible refine gL ?_);(first|refine aG H ?_|refine aD H ?_)))
   refine Lib.hid ?_
   refine zIe rfl _ _ 47 rfl H N evd_ rfl atd_ atd_ Tryd.underlying47 hi0 hz0 hz1 hz2 rfl (by decide) rfl rfl (by unfold maxLen;omega) (by omega) ?_
   clear H N;intro v2 w hv2 H N;simp only[nr]at H
   go_wp2_with (first|((with_reducible show @wpList _ _ _ ({dst:=_,op:=Op.store _ _ _,type:=_,pos:=_,after:=_,guard:=_}::_) _ _);refine zDj wtd_ _ _ _ rfl rfl evd_ H N atd_ (by first|rfl|assumption) (by first|(simp;done)|(simp[zAg];done)) (by first|(with_reducible exact zAC zAR)|(with_reducible exact zAC zAM)|(with_reducible exact zAC zCQ)|(with_reducible exact zAC zAN)|(with_reducible exact zAC zAJ)|(with_reducible exact zAC one_u8)|(with_reducible exact zAC zAZ)|(with_reducible exact zAC zAh)|(with_reducible exact zAC zAe)|(with_reducible exact zAC one_u64)) ?_;clear H N;intro w H N;try simp only[nr]at H)|fail)
   refine wpIn_region_lit (zCU (by rintro⟨_,_,h⟩;exact h) _ _ _ rfl ?_)
   go_wp2_with (first|((with_reducible show @wpList _ _ _ ({dst:=_,op:=Op.store _ _ _,type:=_,pos:=_,after:=_,guard:=_}::_) _ _);refine zDj wtd_ _ _ _ rfl rfl evd_ H N atd_ (by first|rfl|assumption) (by first|(simp;done)|(simp[zAg];done)) (by first|(with_reducible exact zAC zAR)|(with_reducible exact zAC zAM)|(with_reducible exact zAC zCQ)|(with_reducible exact zAC zAN)|(with_reducible exact zAC zAJ)|(with_reducible exact zAC one_u8)|(with_reducible exact zAC zAZ)|(with_reducible exact zAC zAh)|(with_reducible exact zAC zAe)|(with_reducible exact zAC one_u64)) ?_;clear H N;intro w H N;try simp only[nr]at H)|((with_reducible refine gL ?_);refine aG H ?_))
   refine⟨N,v2,?_⟩
   unfold HdL;rw[zJ2,List.length_append];exact H.take 7
  case done =>
   rintro D W hD ⟨ws,p,hok,v,H⟩ hK;have E2:=Lib.hid (show zCt L=.ok ws by rw[E.out,hok])
   have N:=KeepsFrom.refl D W;have hD2:w0.heap.size≤D:=Nat.le_trans hB hD;have hv1:v.oneCell'=true:=by obtain⟨_,⟨hv,_⟩|⟨g,cap,cur,hv,_⟩⟩:=H.all 6 _ rfl<;>rw[hv]<;>rfl
   unfold HdL at H;refine hKc _ _ ?_
   go_wp2_with (first|((with_reducible show @wpList _ _ _ ({dst:=_,op:=Op.store _ _ _,type:=_,pos:=_,after:=_,guard:=_}::_) _ _);refine zDj wtd_ _ _ _ rfl rfl evd_ H N atd_ (by first|rfl|assumption) (by first|(simp;done)|(simp[zAg];done)) (by first|(with_reducible exact zAC zAR)|(with_reducible exact zAC zAM)|(with_reducible exact zAC zCQ)|(with_reducible exact zAC zAN)|(with_reducible exact zAC zAJ)|(with_reducible exact zAC one_u8)|(with_reducible exact zAC zAZ)|(with_reducible exact zAC zAh)|(with_reducible exact zAC zAe)|(with_reducible exact zAC one_u64)) ?_;clear H N;intro w H N;try simp only[nr]at H)|((with_reducible refine gL ?_);refine aG H ?_))
   have hK2:=N.same D _ (Nat.le_refl _) hK rfl;refine⟨by simp,.inl ⟨D,_,rfl,run_takeDeferred hK2,?_⟩⟩
   have H2:=Stay.putObj (HoldG.stay rfl (Nat.le_refl _)) (.deferred none) H hD2 hK2 rfl;refine⟨by simp,.inr ⟨fun _=>by omega,_,_,_,_,rfl,by simp[go_sem],fun g hg=>trivial,(zJo 8 b4 b2 _).mono ?_⟩⟩
   rintro e u' W' ⟨rfl,rfl,rfl⟩;refine⟨_,zHY Tryd.results16 rfl rfl rfl zAR zAJ zAM ((H2.cell i_2 0).trans rfl) ((H2.cell i_3 0).trans rfl) ((H2.cell i_4 0).trans rfl),?_⟩
   exact⟨WordsR.ok E2.out (H2.all 6 _ rfl),H2.below⟩
  case pan =>
   rintro D ch W hD ⟨ws,p,x,v,rfl,herr,hx,H⟩ hK;have E2:=Lib.hid (show zCt L=.error (p,x) by rw[E.out,herr])
   have hD2:w0.heap.size≤D:=Nat.le_trans hB hD;unfold HdL at H;simp only[List.tail_cons]at H;refine⟨by simp,.inl ⟨D,_,rfl,run_takeDeferred hK,?_⟩⟩
   have H2:=Stay.putObj (HoldG.stay rfl (Nat.le_refl _)) (.deferred none) H hD2 hK rfl;have hne:b4≠b2:=fun e=>H2.apart 3 1 _ _ (by decide) rfl rfl b4 rfl (by rw[e];rfl)
   refine⟨by simp,.inr ⟨fun _=>by omega,_,_,_,_,rfl,by simp[go_sem],fun g hg=>trivial,(zIK 8 b4 b2 x _ _ _ hne (H2.blk i_3).2 (H2.blk i_1).2).mono ?_⟩⟩
   rintro e u' W' ⟨rfl,rfl,rfl⟩;replace H2:=(H2.setCell (k:=0) i_3 (.int .i64 x)).setCell (k:=0) i_1 (.slice none 0 0);refine⟨_,zHY Tryd.results16 rfl rfl rfl zAR zAJ zAM ((H2.cell i_1 0).trans rfl) ((H2.cell i_2 0).trans rfl) ((H2.cell i_3 0).trans rfl),?_⟩
   exact⟨WordsR.no E2.out,H2.below⟩
end
section
open Go.RowKit Go.Shelf
def CellsAt (W:World) (b:Nat):Prop:=∃ o,W.heap[b]?=some o∧o.isCells=true
theorem zGH {W:World} {b k:Nat} {v:Value} (h:W.cell? ⟨b,k,none⟩=some v):CellsAt W b:=by
 unfold World.cell? at h;split at h<;>first|exact⟨_,by assumption,rfl⟩|cases h
theorem RdN.cells {W:World} {F:Nat→Prop} {s:Value} {rows:List (Array Value)} (h:RdN 10 W F s rows):RdN 10 W (fun b=>F b∧CellsAt W b) s rows:=by
 obtain⟨p,cap,e,h1,h2,h0,h3⟩:=h;refine⟨p,cap,e,h1,h2,h0,fun j r hj=>?_⟩
 obtain⟨b,off,e1,e2,e3,e4⟩:=h3 j r hj;have h5:=e4 0 (by omega)
 rw[Array.getElem?_eq_getElem (by omega)]at h5
 exact⟨b,off,e1,⟨e2,zGH h5⟩,e3,e4⟩
theorem ForestR.cells {W:World} {F:Nat→Prop} {p:Option Addr} {c:Nat} {ts:List Tree} (h:ForestR W F p c ts):ForestR W (fun b=>F b∧CellsAt W b) p c ts:=by
 induction h with
 | mk p c ts xs h _ e ih=>exact .mk p c ts xs h.cells ih e
theorem ListR.cells {W:World} {F:Nat→Prop} {xs:List TV} (h:ListR W F xs):ListR W (fun b=>F b∧CellsAt W b) xs:=fun x hx=>(h x hx).cells
def zBs:Res→Bool|.mp _ _ _=>false|_=>true
section
variable {M:Nat→Prop} {w0 w w' W W':World} {l l1 l2:List Res}
theorem HoldG.placeCells (H:HoldG M w0 W l) (hl:l.all zBs=true) {r:Res} (hr:r ∈ l) {b:Nat} (hb:r.place=some b):CellsAt W b:=by
 obtain⟨i,hi⟩:=List.getElem?_of_mem hr;have hA:=H.all i r hi;have hc:=List.all_eq_true.1 hl r hr
 cases r with
 | blk b' cs T=>cases hb;exact⟨_,hA.2,rfl⟩
 | row v e sz n xs =>
  obtain⟨_,⟨hv,_⟩|⟨g,cap,cur,rfl,_,hg',_⟩⟩:=hA
  ·have h2:v.ownBlock=some b:=hb;rw[hv]at h2;cases h2
  ·have:g=b:=by simpa [Res.place,Value.ownBlock] using hb
   subst this;exact⟨_,hg',rfl⟩
 | mp b' es c=>cases hc
 | kn F S=>cases hb
def FootCells (W:World) (l:List Res):Prop:=∀ r ∈ l,∀ F S,r=.kn F S→∀ b,F b→CellsAt W b
theorem HoldG.footCells (H:HoldG M w0 W l) (hl:l.all zBs=true) (hf:FootCells W l) {i:Nat} {r:Res} (hi:l[i]?=some r) {b:Nat} (hb:r.foot b):CellsAt W b:=by
 have hr:=List.mem_of_getElem? hi
 cases r with
 | kn F S=>exact hf _ hr F S rfl b hb
 | blk b' cs T=>exact H.placeCells hl hr (b:=b) (by cases hb;rfl)
 | row v e sz n xs=>exact H.placeCells hl hr (b:=b) hb
 | mp b' es c=>exact absurd (List.all_eq_true.1 hl _ hr) (by simp[zBs])
theorem CellsAt.grown {B:Nat} {row:Option Nat} {b:Nat} (h:CellsAt W b) (hg:W.grownBy W' row) (hr:∀ r,row=some r→B≤r∧∃ o:Obj,W.heap[r]?=some o∧o.isCells=false):W'.heap[b]?=W.heap[b]?:=by
 obtain⟨o,h1,h2⟩:=h;refine hg.block b (Array.getElem?_eq_some_iff.1 h1).1 (fun e=>?_)
 obtain⟨_,o',h3,h4⟩:=hr b e.symm;rw[h1]at h3;cases h3;rw[h2]at h4;cases h4
theorem HoldG.stayC (H:HoldG M w0 W l) (hl:l.all zBs=true) (hf:FootCells W l) {B:Nat} (hB:w0.heap.size≤B) {row:Option Nat} (hg:W.grownBy W' row) (hr:∀ r,row=some r→B≤r∧∃ o:Obj,W.heap[r]?=some o∧o.isCells=false):HoldG M w0 W' l∧FootCells W' l:=by
 refine⟨⟨H.keep.trans ⟨hg.os,hg.tape,hg.output,hg.size,fun k h1 h2=>hg.block k (Nat.lt_of_lt_of_le h1 H.keep.size) (fun e=>by have:=(hr k e.symm).1;omega)⟩,fun i s hs=>?_,H.apart⟩,fun r h F S e b hb=>?_⟩
 ·exact(H.all i s hs).kept (fun b hb=>(H.footCells hl hf hs hb).grown hg hr) hg.size
 ·obtain⟨o,h1,h2⟩:=hf r h F S e b hb;exact⟨o,(CellsAt.grown ⟨o,h1,h2⟩ hg hr).trans h1,h2⟩
theorem FootCells.stay {B:Nat} {X:Type} (l:X→List Res) (Φ:X→Prop) (hl:∀ x,Φ x→(l x).all zBs=true) (hB:w0.heap.size≤B):Stay B (fun W=>∃ x,Φ x∧FootCells W (l x)∧HoldG M w0 W (l x)):=fun W W' row ⟨x,hx,hf,H⟩ hg hr =>
 let h:=H.stayC (hl x hx) hf hB hg hr
 ⟨x,hx,h.2,h.1⟩
end
theorem zE6:∀ (ws:List WordD) (s:StP) (d:WordD),zCG s (ws++[d])=match zCG s ws with|.error a=>.error a|.ok s'=>(match zBx s' d with|.error a=>.error a|.ok s2=>.ok {s2 with last:=d.kind})
 | [],s,d=>by
  simp only[List.nil_append,zCG]
  cases zBx s d<;>rfl
 | w::ws,s,d=>by
  simp only[List.cons_append,zCG]
  cases zBx s w with
  | error a=>rfl
  | ok s'=>exact zE6 ws _ d
theorem zJ4 {ws rest:List WordD} {s:StP} {a:Nat} (h:zCG s ws=.error a):zCG s (ws++rest)=.error a:=by
 induction ws generalizing s with
 | nil=>simp[zCG]at h
 | cons w ws ih =>
  simp only[List.cons_append,zCG]at h ⊢
  cases hw:zBx s w with
  | error b=>rw[hw]at h;exact h
  | ok s'=>rw[hw]at h;exact ih h
def zNA (s:StP):Prop:=zB8 s.last=false→∀ l r,s.op=l::r→l.items≠[]
theorem zIw (f:zAU):zNA (zCe f):=fun h=>by cases h
theorem zJ1 {s s':StP} {d:WordD} (h:zBx s d=.ok s'):zNA {s' with last:=d.kind}:=by
 intro hb l r e;obtain⟨l0,ls,hop⟩:∃ l0 ls,s.op=l0::ls:=by
  cases ho:s.op with
  | nil=>simp[zBx,ho]at h
  | cons l0 ls=>exact⟨l0,ls,rfl⟩
 have hb:zB8 d.kind=false:=hb;have h6:d.kind≠6:=fun e=>by simp[zB8,e]at hb
 have h7:d.kind≠7:=fun e=>by simp[zB8,e]at hb
 have h8:d.kind≠8:=fun e=>by simp[zB8,e]at hb
 have h10:d.kind≠10:=fun e=>by simp[zB8,e]at hb
 have h11:d.kind≠11:=fun e=>by simp[zB8,e]at hb
 by_cases h9:d.kind=9
 ·cases ls with
  | nil=>rw[zNk hop h9]at h;cases h
  | cons l2 ls =>
   rw[wm_9 hop h9]at h;cases h
   cases e
   simp[addL]
 ·rw[zMK hop h6 h7 h8 h9 h10 h11]at h;cases h
  cases e
  simp[addL]
end
section
open Go.RowKit Go.Shelf
attribute [local go_sem] Oper.semAt_some
theorem zLC {a:Act} {o:Oper} {W:World} {x:Operand} {p:Option Addr} {n c:Nat} (ho:o.op=.slice 47 x (some (.const (.int .i64 1))) none none) (hx:a.eval x=.slice p (n+1) c) (hn:n+1≤c):(execOp a.eval o).run Tryd.prog W=.ok (.value (.slice (if c=1 then p else p.map (·.add 17)) n (c - 1))) W:=by
 have h1:(0:Int)≤((n+1:Nat):Int)∧((n+1:Nat):Int)≤(c:Int):=⟨by omega,by omega⟩
 have h2:(0:Int)≤1∧(1:Int)≤((n+1:Nat):Int):=⟨by omega,by omega⟩
 have h3:a.eval (.const (.int .i64 1))=.int .i64 1:=rfl;simp only[execOp,ho,Option.map_some,Option.map_none,hx,h3];simp[go_sem,Instr.sliceBound,asIntOf,h1,h2];intro h;exact absurd h (by omega)
theorem zNZ (pb:Nat) (w0:World):Calls Tryd.prog 19 #[ptrV pb] w0 fun e w'=>(∃ xb,e=.returned (.func (.func 31) #[] #[.pointer (some ⟨xb,0,none⟩)])∧w0.heap.size≤xb∧w'.heap[xb]?=some (.cells #[ptrV pb] 85 (0,0)))∧Below w0.heap.size w0 w':=by
 have H:=Hold.start w0;have hmf:=mkf
 go_enter Tryd.func19,Tryd.ntmps19
 go_wp2_with (first|((first|((with_reducible refine kgA 1 ?_);refine kA 1 H ?_)|((with_reducible refine kgX 1 ?_);(first|refine kS 1 H ?_|refine kB 1 H ?_)));clear H;intro b1 w H;try simp only[nr]at H)|(first|((with_reducible refine gL (T:=57) ?_);refine zAX wtd_ _ _ rfl rfl H atd_ (by with_reducible exact zAD) rfl ?_)|((with_reducible refine gL (T:=85) ?_);refine zAX wtd_ _ _ rfl rfl H atd_ (by with_reducible exact zAE) rfl ?_)|((with_reducible refine gT (T:=57) ?_);refine zAK wtd_ _ _ _ rfl rfl evd_ H atd_ rfl (by first|(simp;done)|(simp[zAg,zAQ];done)) (by with_reducible exact zAC zAD) ?_;clear H;intro w H;try simp only[nr]at H)|((with_reducible refine gT (T:=85) ?_);refine zAK wtd_ _ _ _ rfl rfl evd_ H atd_ rfl (by first|(simp;done)|(simp[zAg,zAQ];done)) (by with_reducible exact zAC zAE) ?_;clear H;intro w H;try simp only[nr]at H)|((with_reducible refine gT ?_);(first|((first|refine aS H ?_|refine aW H ?_|refine aO H ?_|refine aT H ?_);clear H;intro w H;try simp only[nr]at H)|(refine aN H ?_;clear H;intro w H;(try simp only[nr]at H);try simp only[zBE,nrl]at H)))|((with_reducible refine gL ?_);(first|refine aV H ?_|refine aL H ?_|refine aVn H ?_|refine aGb H ?_|refine aG H ?_|refine aD H ?_))|((with_reducible refine gX ?_);((first|refine bS H ?_|refine bB H ?_);clear H;intro b w H;try simp only[nr]at H))|((with_reducible refine gA ?_);(refine bA H ?_;clear H;intro b w H;try simp only[nr]at H))|((with_reducible refine gZ ?_);refine nb0 ?_)|((with_reducible refine gZ ?_);refine nb1 ?_)|((with_reducible refine gZ ?_);(refine nbS ?_;(try simp only[pl])))|((with_reducible refine gZ ?_);refine nbK ?_)|((with_reducible refine gZ ?_);refine nbG ?_)|((with_reducible refine gZ ?_);refine nbR ?_)|((with_reducible refine gZ ?_);refine nbA ?_)|((with_reducible refine gZ ?_);refine fb3 ?_)|((with_reducible refine gES ?_);(refine qS ?_;(try simp only[pl])))|((with_reducible refine gNS ?_);(refine qN ?_;(try simp only[pl])))|((with_reducible refine gZ ?_);(refine aZ ?_;(try simp only[pl])))|((with_reducible refine gI ?_);refine aI ?_)|((with_reducible refine gC ?_);refine aC ?_)|((with_reducible refine gF ?_);refine aF ?_)|((with_reducible refine gU ?_);refine aU ?_)|((with_reducible refine gE ?_);(refine aE ?_;(try simp only[pl])))|((with_reducible refine gQ ?_);(refine aQ ?_;(try simp only[pl])))))
 go_ret;exact⟨⟨b1,rfl,by have:=(H.blk .zero).1;simpa using this,(H.blk .zero).2⟩,H.below⟩
section
variable {n:Nat} {P:Program} {ops:Array Oper} {Q:Exit→Act→World→Prop} {o:Oper} {rest:List Oper} {a:Act} {w:World}
theorem zJQ (hQ:¬ LetsOut Q):∀ (l1 l2:List Oper) (a:Act) (w:World),wpList P ops (Exit.then (wpListIn Fence.wide n P ops Q l2) Q) l1 a w→wpListIn Fence.wide n P ops Q (l1++l2) a w
 | [],l2,a,w,h=>by simpa [wpList,Exit.then] using h
 | o::l1,l2,a,w,h=>by
  unfold wpList at h;rw[List.cons_append];unfold wpListIn;split at h
  ·rename_i hw;rw[if_pos hw];rcases h with h|⟨_,a1,w1,h1⟩
   ·refine zE7 (zI4 (Oper.wp_mono (fun a' w' h'=>zJQ hQ l1 l2 a' w' h') h) (fun c a w h=>h) ?_)
    rintro⟨a1,w1,h1⟩;exact⟨a1,w1,h1⟩
   ·exact(hQ ⟨a1,w1,h1⟩).elim
  ·rename_i hw;rw[if_neg hw];exact⟨fun _ _=>trivial,zJQ hQ l1 l2 _ w h⟩
theorem zMb {l:Nat} {x y:Operand} {ts:Array TypeId} {v:Value} {T:World→Prop} {X:List PanicEntry→World→Prop} (hg:o.guard=none) (hop:o.op=Op.call {callee:=Callee.value x,args:=#[y],argTypes:=ts}) (hx:a.eval x=.func (.yield l) #[] #[]) (hy:a.eval y=v)
  (hY:YieldAt Fence.wide (n - 1) P l #[v] w fun e W'=>(e=.returned (.bool true)∧T W')∨∃ ch,e=.panicked ch∧X ch W') (h1:∀ W',T W'→wpListIn Fence.wide n P ops Q rest (a.put o.dst (.bool true)) W') (h2:∀ ch W',X ch W'→Q (.panic ch) a W'):wpListIn Fence.wide n P ops Q (o::rest) a w:=by
 obtain⟨fn,tmps,assign,body,hyr,hR⟩:=hY;refine wpListIn_plain hg fun K hK=>?_
 refine⟨fun _ _=>trivial,?_⟩
 rw[show o.semAt Fence.wide.round a.eval=execOp a.eval o from rfl]
 have hr:(execOp a.eval o).run P w=.ok (.round l fn tmps assign body) w:=by
  simp only[execOp,hop];simp only[resolve,hx,List.map_toArray,List.map_cons,List.map_nil,hy,Sem.run_bind,Sem.run_pure,Result.andThen_ok,invoke];exact hyr
 rw[hr];simp only[Oper.uponIn];refine⟨fun h=>by simp[Fence.wide]at h,hR.mono ?_⟩
 rintro e w' (⟨rfl,hT⟩|⟨ch,rfl,hX⟩)
 ·exact hK _ _ (h1 w' hT)
 ·exact h2 ch w' hX
end
structure PX where
 p:Option Addr
 s:StP
 oq:Option Addr
 oc:Nat
 ls:List LevM
 F:Nat→Prop
 zs:List TV
def jL (xb pb:Nat) (p0:Option Addr) (c:Nat) (ws:List WordD) (R:List Res) (i last:Nat) (x:PX):List Res :=
 .blk xb #[ptrV pb] 85::.row (.slice p0 ws.length c) 65 17 ws.length (zAc (ws.map zAg))::(psL pb x.p (ws.length - i) (c - i) last x.s.fl x.s.groups x.oq x.oc x.ls x.F x.zs++R)
structure PInv (i:Nat) (x:PX):Prop where
 op:x.s.op=opOf x.ls
 ne:x.ls≠[]
 ok:LevsOk x.ls x.zs i
 gr:x.s.groups≤i
def zI3 (p0:Option Addr) (n i:Nat) (p:Option Addr):Prop:=i<n→∃ bw,p0=some ⟨bw,0,none⟩∧p=some ⟨bw,i * 17,none⟩
def Jw (w0:World) (xb pb:Nat) (p0:Option Addr) (c:Nat) (ws:List WordD) (R:List Res) (f:zAU) (i:Nat) (W:World):Prop :=
 ∃ x:PX,zCG (zCe f) (ws.take i)=.ok x.s∧PInv i x∧zI3 p0 ws.length i x.p∧(∀ b,x.F b→CellsAt W b∧w0.heap.size≤b)∧HoldG (fun _=>False) w0 W (jL xb pb p0 c ws R i x.s.last x)
def Jy (w0:World) (xb pb:Nat) (p0:Option Addr) (c:Nat) (ws:List WordD) (R:List Res) (f:zAU) (i:Nat) (d:WordD) (W:World):Prop :=
 ws[i]?=some d∧∃ x:PX,zCG (zCe f) (ws.take i)=.ok x.s∧PInv i x∧zI3 p0 ws.length (i+1) x.p∧(∀ b,x.F b→CellsAt W b∧w0.heap.size≤b)∧HoldG (fun _=>False) w0 W (jL xb pb p0 c ws R (i+1) x.s.last x)
def Jq (w0:World) (xb pb:Nat) (p0:Option Addr) (c:Nat) (ws:List WordD) (R:List Res) (f:zAU) (i:Nat) (d:WordD) (W:World):Prop :=
 ws[i]?=some d∧∃ (x:PX),zCG (zCe f) (ws.take (i+1))=.ok {x.s with last:=d.kind}∧PInv (i+1) x∧zI3 p0 ws.length (i+1) x.p∧(∀ b,x.F b→CellsAt W b∧w0.heap.size≤b)∧HoldG (fun _=>False) w0 W (jL xb pb p0 c ws R (i+1) x.s.last x)
def zIk (pb:Nat) (W:World):Nat:=match W.cell? ⟨pb,0,none⟩ with|some (.slice _ n _)=>n|_=>0
theorem zOP {w0 W:World} {xb pb:Nat} {p0:Option Addr} {c:Nat} {ws:List WordD} {R:List Res} {i last:Nat} {x:PX} (H:HoldG (fun _=>False) w0 W (jL xb pb p0 c ws R i last x)):W.heap[pb]?=some (.cells (psC x.p (ws.length - i) (c - i) last x.s.fl x.s.groups (.slice x.oq x.ls.length x.oc)) 59 (0,0)):=(H.blk (i:=2) i_2).2
theorem zE9 {w0 W:World} {xb pb:Nat} {p0:Option Addr} {c:Nat} {ws:List WordD} {R:List Res} {i last:Nat} {x:PX} (H:HoldG (fun _=>False) w0 W (jL xb pb p0 c ws R i last x)):zIk pb W=ws.length - i:=by
 have:=zOP H;simp[zIk,World.cell?,this]
theorem zGQ (ls:List LevM):(zDT ls).all zBs=true:=by
 rw[List.all_eq_true];intro r hr;simp only[zDT,List.mem_flatMap,List.mem_cons,List.not_mem_nil,or_false]at hr;obtain⟨l,_,rfl|rfl⟩:=hr<;>rfl
theorem zFc {xb pb:Nat} {p0:Option Addr} {c:Nat} {ws:List WordD} {R:List Res} (hR:R.all zBs=true) (i last:Nat) (x:PX):(jL xb pb p0 c ws R i last x).all zBs=true:=by
 have h:=zGQ x.ls;simp only[jL,psL,List.cons_append,List.all_cons,List.all_append,h,hR];rfl
theorem KeepsNC.of_rest {M:Nat→Prop} {w0 W W':World} {l1:List Res} (B:Nat) (H:HoldG M w0 W l1) (hl:l1.all zBs=true) (h:zCB W l1 W'):KeepsNC B W W':=fun k o _ hk ho=>by
 refine(h k ⟨(Array.getElem?_eq_some_iff.1 hk).1,fun r hr e=>?_⟩).trans hk
 obtain⟨o',h1,h2⟩:=H.placeCells hl hr e;rw[hk]at h1;cases h1;rw[ho]at h2;cases h2
theorem HoldG.recell {M:Nat→Prop} {w0 W:World} {l:List Res} (H:HoldG M w0 W l) {i:Nat} {F:Nat→Prop} {zs:List TV} (hi:At l i (knL F zs)):HoldG M w0 W (l.set i (knL (fun b=>F b∧CellsAt W b) zs)) :=
 H.restG hi _ _ (fun b hb=>.inl hb.1) (fun V hV=>(H.kn hi).cells.kept hV)
theorem zMu {α:Type} (b k x1 x2 x3 x4 x5:α) (L R:List α):(b::k::x1::x2::x3::x4::x5::(L++R)).Perm ((x1::x2::((x3::x4::x5::L)++(b::R)))++[k]):=by
 classical
 exact List.perm_iff_count.2 fun a=>by simp only[List.count_cons,List.count_append,List.cons_append,List.count_nil];omega
theorem zN6 {α:Type} (b k x1 x2 x3 x4 x5:α) (L R:List α):(b::k::x1::x2::x3::x4::x5::(L++R)).Perm ((x1::x2::((x3::x4::x5::L)++R))++[b,k]):=by
 classical
 exact List.perm_iff_count.2 fun a=>by simp only[List.count_cons,List.count_append,List.cons_append,List.count_nil];omega
theorem zOi {w0 w:World} {xb pb:Nat} {p0:Option Addr} {c:Nat} {ws:List WordD} {R:List Res} {i last:Nat} {x:PX} {b3 k:Res}
  (H:HoldG (fun _=>False) w0 w (b3::k::.blk xb #[ptrV pb] 85::.row (.slice p0 ws.length c) 65 17 ws.length (zAc (ws.map zAg))::blkP pb x.p (ws.length - i) (c - i) last x.s.fl x.s.groups x.oq x.ls.length x.oc::rowL x.oq x.ls.length x.oc x.ls::knL x.F x.zs::(zDT x.ls++R))) :
  HoldG (fun _=>False) w0 w (jL xb pb p0 c ws R i last {x with s:={x.s with last:=last},F:=fun b=>x.F b∧CellsAt w b}):=by
 have H1:=H.recell (i:=6) i_6;simp only[sc]at H1;exact(H1.perms (zN6 _ _ _ _ _ _ _ _ _)).left
theorem zOc {w0 w:World} {xb pb:Nat} {p0:Option Addr} {c:Nat} {ws:List WordD} {R:List Res} {i last m b3:Nat} {x:PX} {q':Option Addr} {d:WordD} {rF:Nat→Prop} {rS:World→Prop} (hm:ws.length - i=m+1)
  (H:HoldG (fun _=>False) w0 w (.blk b3 (zAg d) 65::.kn rF rS::.blk xb #[ptrV pb] 85::.row (.slice p0 ws.length c) 65 17 ws.length (zAc (ws.map zAg))::blkP pb q' m (c - i - 1) last x.s.fl x.s.groups x.oq x.ls.length x.oc::rowL x.oq x.ls.length x.oc x.ls::knL x.F x.zs::(zDT x.ls++R))) :
  HoldG (fun _=>False) w0 w (jL xb pb p0 c ws (.blk b3 (zAg d) 65::R) (i+1) last {x with p:=q',F:=fun b=>x.F b∧CellsAt w b}):=by
 have H1:=H.recell (i:=6) i_6;simp only[sc]at H1;have H2:=(H1.perms (zMu _ _ _ _ _ _ _ _ _)).left;unfold jL psL;rw[show ws.length - (i+1)=m by omega,show c - (i+1)=c - i - 1 by omega]
 exact H2
theorem zNo (w0:World) (xb pb:Nat) (p0:Option Addr) (c:Nat) (ws:List WordD) (R:List Res) (f:zAU) (hc:ws.length≤c) (hn:ws.length≤1000) (hR:R.all zBs=true) (l:Nat) (B K:World→Prop) (base:Nat) (hB:∀ W W',KeepsNC base W W'→B W→B W') (X:List PanicEntry→World→Prop)
  (hY:∀ (i b3:Nat) (d:WordD) W1,Jy w0 xb pb p0 c ws (.blk b3 (zAg d) 65::R) f i d W1→B W1→YieldAt Fence.wide 7 Tryd.prog l #[zAk d] W1 fun e W'=>(e=.returned (.bool true)∧Jq w0 xb pb p0 c ws (.blk b3 (zAg d) 65::R) f i d W'∧B W')∨∃ ch,e=.panicked ch∧X ch W'∧K W')
  (W:World) (h0:Jw w0 xb pb p0 c ws R f 0 W) (hB0:B W) :
  CallsIn Fence.wide 8 Tryd.prog 31 #[.func (.yield l) #[] #[],.pointer (some ⟨xb,0,none⟩)] W fun e W'=>(∃ v,e=.returned v∧Jw w0 xb pb p0 c ws R f ws.length W'∧B W')∨∃ ch,e=.panicked ch∧X ch W'∧K W':=by
 refine callsIn_of_wp Tryd.func31 rfl trivial ?_ rfl;simp only[Tryd.ntmps31,List.size_toArray,List.length_cons,List.length_nil,Nat.reduceAdd,Nat.reduceSub,Array.replicate_succ,Array.replicate_zero,List.push_toArray,List.append_toArray,List.nil_append,List.cons_append]
 gi_wp2
 have HY:=Lib.hid hY;clear hY;have HB:=Lib.hid hB;clear hB;have HR:=Lib.hid hR;clear hR
 gi_loopw [4] (fun _ wr=>∃ i:Nat,Hid (i≤ws.length∧Jw w0 xb pb p0 c ws R f i wr∧B wr)) (fun _ wr=>zIk pb wr)
 case atStart=>exact⟨0,Lib.hid ⟨Nat.zero_le _,h0,hB0⟩⟩
 case round =>
  clear h0 hB0;obtain⟨i,G⟩:=hrel;obtain⟨x,hG⟩:=(id G.out.2.1:Jw w0 xb pb p0 c ws R f i wr);have HG:=Lib.hid hG;have H:=hG.2.2.2.2;have hlen:=zE9 H;clear hG;unfold jL psL at H;simp only[ca]at H
  by_cases hlt:i<ws.length
  ·obtain⟨bw,e1,e2⟩:=HG.out.2.2.1 hlt;subst e1;obtain⟨m,hm⟩:∃ m,ws.length - i=m+1:=⟨ws.length - i - 1,by omega⟩
   obtain⟨d,hd⟩:∃ d,ws[i]?=some d:=⟨ws[i],by simp[hlt]⟩
   have hcm:m+1≤c - i:=by omega
   rw[hm,e2]at H;have hKN:=fun W'=>KeepsNC.of_rest (W':=W') base HG.out.2.2.2.2 (zFc HR.out i x.s.last x)
   have HKN:=Lib.hid hKN;clear hKN;have H1:=HG.out.2.2.2.2.framed.perms List.perm_append_comm;obtain⟨rS,hrS⟩:∃ rS,zCB wr (jL xb pb (some ⟨bw,0,none⟩) c ws R i x.s.last x)=rS:=⟨_,rfl⟩;obtain⟨rF,hrF⟩:∃ rF,zBN wr (jL xb pb (some ⟨bw,0,none⟩) c ws R i x.s.last x)=rF:=⟨_,rfl⟩;rw[hrS]at H1 HKN;rw[hrF]at H1;clear hrS hrF H hlen;have H:=H1;clear H1;unfold jL psL at H;simp only[ca]at H;rw[hm,e2]at H;have hdm:(ws.map zAg)[i]?=some (zAg d):=by rw[List.getElem?_map,hd];rfl
   have hwl:(ws.map zAg).length=ws.length:=List.length_map ..;have hws:∀ r ∈ ws.map zAg,r.size=17:=fun r hr=>by obtain⟨y,_,rfl⟩:=List.mem_map.1 hr;rfl
   have HD:=Lib.hid (And.intro hdm (And.intro hwl (And.intro hws hd)));clear hdm hwl hws hd;refine wpIn_seq ?_
   rw[wpIn_wide]
   go_wp2_with (first|((with_reducible refine gL ?_);refine zAH wtd_ _ _ rfl rfl zAE (H.cell (i:=1) i_1 0) ?_)|((with_reducible refine gL ?_);refine zAH wtd_ _ _ rfl rfl zAR (H.cell (i:=3) i_3 0) ?_))
   refine wpIn_block (wpIn_seq ?_);rw[wpIn_wide]
   go_wp2_with (first|((with_reducible refine gL ?_);refine zAH wtd_ _ _ rfl rfl zAE (H.cell (i:=1) i_1 0) ?_)|((with_reducible refine gL ?_);refine zAH wtd_ _ _ rfl rfl zAR (H.cell (i:=3) i_3 0) ?_)|((with_reducible refine gL ?_);refine zBb wtd_ _ _ rfl rfl zB1 (show (zAg d).size=17 from rfl) (H.rowCell (i:=2) i_2 HD.out.2.2.1 HD.out.2.1 HD.out.1 rfl) ?_)|((with_reducible refine kgA 3 ?_);refine kA 3 H ?_;clear H;intro b3 w H;replace H:=H.perms List.perm_append_comm;simp only[ca]at H)|((first|((with_reducible refine kgA 3 ?_);refine kA 3 H ?_)|((with_reducible refine kgX 3 ?_);(first|refine kS 3 H ?_|refine kB 3 H ?_)));clear H;intro b3 w H;try simp only[nr]at H)|((with_reducible refine gT ?_);(refine aT H ?_;clear H;intro w H;try simp only[nr]at H)))
   obtain⟨q',hq'⟩:∃ q':Option Addr,(if c - i=1 then some ⟨bw,i * 17,none⟩ else (some (⟨bw,i * 17,none⟩:Addr)).map (·.add 17))=q':=⟨_,rfl⟩
   have hlo:zI3 (some ⟨bw,0,none⟩) ws.length (i+1) q':=fun h=>⟨bw,rfl,by
    rw[← hq',if_neg (by omega),Option.map_some,Addr.add_mid,show i * 17+17=(i+1) * 17 by omega]⟩
   have HLO:=Lib.hid hlo;clear hlo;refine wpIn_seq (wpIn_seq ?_);rw[wpIn_wide];refine wr_ 8 [fun v _=>v=pt pb 0,fun v _=>v=pt pb 0,fun v _=>v=pt pb 0,fun v _=>v=pt pb 0,fun v _=>v=.slice (some ⟨bw,i * 17,none⟩) (m+1) (c - i),fun v _=>v=.slice q' m (c - i - 1),fun v _=>v=pt pb 0,fun v _=>v=pt pb 0] ?ob ?en
   case ob =>
    refine⟨?_,?_,?_,?_,?_,?_,?_,?_,trivial⟩<;>intro A W h
    ·exact zAB rfl (zAL rfl (h.f 1) (by first|(with_reducible exact zAJ)|(with_reducible exact one_u8)|(with_reducible exact zAZ)|(with_reducible exact zAh)|(with_reducible exact zAe)|(with_reducible exact one_u64)|(with_reducible exact zAV)|(with_reducible exact zAN)|(with_reducible exact zAR)|(with_reducible exact zAM)|(with_reducible exact zAD)|(with_reducible exact zAE)) ((H.call h.below).cell (i:=2) i_2 0)) (by decide)
    ·exact zAB rfl (zAL rfl (h.f 1) (by first|(with_reducible exact zAJ)|(with_reducible exact one_u8)|(with_reducible exact zAZ)|(with_reducible exact zAh)|(with_reducible exact zAe)|(with_reducible exact one_u64)|(with_reducible exact zAV)|(with_reducible exact zAN)|(with_reducible exact zAR)|(with_reducible exact zAM)|(with_reducible exact zAD)|(with_reducible exact zAE)) ((H.call h.below).cell (i:=2) i_2 0)) (by decide)
    ·(have e17:A.eval (.tmp 17)=.pointer (some ⟨pb,0,none⟩):=h.d 1 17;refine zAB rfl ?_;simp only[execOp,e17];(simp[go_sem]<;>first|done|omega|(rw[IntKind.wrap_i64];omega)|(rw[IntKind.wrap_u8];omega)|(rw[IntKind.wrap_u64];omega)))
    ·(have e18:A.eval (.tmp 18)=.pointer (some ⟨pb,0,none⟩):=h.d 2 18;refine zAB rfl ?_;simp only[execOp,e18];(simp[go_sem]<;>first|done|omega|(rw[IntKind.wrap_i64];omega)|(rw[IntKind.wrap_u8];omega)|(rw[IntKind.wrap_u64];omega)))
    ·exact zAB rfl (zAL rfl (h.d 3 19) (by first|(with_reducible exact zAJ)|(with_reducible exact one_u8)|(with_reducible exact zAZ)|(with_reducible exact zAh)|(with_reducible exact zAe)|(with_reducible exact one_u64)|(with_reducible exact zAV)|(with_reducible exact zAN)|(with_reducible exact zAR)|(with_reducible exact zAM)|(with_reducible exact zAD)|(with_reducible exact zAE)) ((H.call h.below).cell (i:=4) i_4 0)) (by decide)
    ·exact zAB rfl ((zLC rfl (h.d 4 20) hcm).trans (by rw[hq'])) (by decide)
    ·(have e16:A.eval (.tmp 16)=.pointer (some ⟨pb,0,none⟩):=h.d 0 16;refine zAB rfl ?_;simp only[execOp,e16];(simp[go_sem]<;>first|done|omega|(rw[IntKind.wrap_i64];omega)|(rw[IntKind.wrap_u8];omega)|(rw[IntKind.wrap_u64];omega)))
    ·(have e22:A.eval (.tmp 22)=.pointer (some ⟨pb,0,none⟩):=h.d 6 22;refine zAB rfl ?_;simp only[execOp,e22];(simp[go_sem]<;>first|done|omega|(rw[IntKind.wrap_i64];omega)|(rw[IntKind.wrap_u8];omega)|(rw[IntKind.wrap_u64];omega)))
   case en =>
    intro vals W hbw hv _;simp only[fa,Nat.reduceAdd];rw[e_ hv 0,e_ hv 1,e_ hv 2,e_ hv 3,e_ hv 4,e_ hv 5,e_ hv 6,e_ hv 7];clear hv
    try simp only[pl]
    replace H:=H.call hbw;clear hbw
    go_wp2_with (first|((first|((with_reducible refine kgA 3 ?_);refine kA 3 H ?_)|((with_reducible refine kgX 3 ?_);(first|refine kS 3 H ?_|refine kB 3 H ?_)));clear H;intro b3 w H;try simp only[nr]at H)|((with_reducible refine gT ?_);(refine aO H ?_;clear H;intro w H;try simp only[nr]at H)))
    have hB2:B w:=HB.out wr w (HKN.out w (H.kn (i:=1) i_1)) G.out.2.2;have hJ:Jy w0 xb pb (some ⟨bw,0,none⟩) c ws (.blk b3 (zAg d) 65::R) f i d w:=⟨HD.out.2.2.2,{x with p:=q',F:=fun b=>x.F b∧CellsAt w b},HG.out.1,⟨HG.out.2.1.op,HG.out.2.1.ne,HG.out.2.1.ok,HG.out.2.1.gr⟩,HLO.out,fun b h=>⟨h.2,(HG.out.2.2.2.1 b h.1).2⟩,zOc hm H⟩
    have hY2:=HY.out i b3 d w hJ hB2;clear hJ hB2;refine wpIn_seq (wpIn_region_lit ?_);refine zJQ (by rintro⟨_,_,h⟩;obtain⟨_,h,_⟩|⟨_,h,_⟩:=h<;>cases h) [_,_] [_,_] _ _ ?_
    go_wp2_with (first|((first|((with_reducible refine kgA 3 ?_);refine kA 3 H ?_)|((with_reducible refine kgX 3 ?_);(first|refine kS 3 H ?_|refine kB 3 H ?_)));clear H;intro b3 w H;try simp only[nr]at H)|((with_reducible refine gL ?_);refine aD H ?_))
    refine zMb rfl rfl rfl rfl hY2 ?_ ?_
    ·rintro W' ⟨⟨_,x2,a1,a2,a3,a4,H2⟩,hB3⟩;have hKN:=Lib.hid fun V=>KeepsNC.of_rest (W':=V) base H2 (zFc (by simp[zBs,HR.out]) (i+1) x2.s.last x2)
     have H3:=H2.framed;obtain⟨rS2,hrS⟩:∃ rS2,zCB W' (jL xb pb (some ⟨bw,0,none⟩) c ws (.blk b3 (zAg d) 65::R) (i+1) x2.s.last x2)=rS2:=⟨_,rfl⟩;obtain⟨rF2,hrF⟩:∃ rF2,zBN W' (jL xb pb (some ⟨bw,0,none⟩) c ws (.blk b3 (zAg d) 65::R) (i+1) x2.s.last x2)=rF2:=⟨_,rfl⟩;rw[hrS]at H3 hKN;rw[hrF]at H3;clear hrS hrF H HY;have H:=H3.perms (zMu _ _ _ _ _ _ _ _ _).symm;clear H3;refine zJQ (by rintro⟨_,_,h⟩;obtain⟨_,h,_⟩|⟨_,h,_⟩:=h<;>cases h) [_] [] _ _ ?_
     go_wp2_with fail
     refine(show Code.wpIn Fence.wide 8 _ _ _ _ _ from ?_)
     rw[wpIn_wide]
     go_wp2_with fail
     rw[wpIn_wide]
     go_wp2_with (first|((with_reducible refine gL ?_);refine zAH wtd_ _ _ rfl rfl zAE (H.cell (i:=2) i_2 0) ?_)|((first|((with_reducible refine kgA 3 ?_);refine kA 3 H ?_)|((with_reducible refine kgX 3 ?_);(first|refine kS 3 H ?_|refine kB 3 H ?_)));clear H;intro b3 w H;try simp only[nr]at H)|(first|((with_reducible refine gT ?_);(refine aO H ?_;clear H;intro w H;try simp only[nr]at H))|((with_reducible refine gL ?_);refine aG H ?_)))
     have hB4:B w:=HB.out W' w (hKN.out w (H.kn (i:=1) i_1)) hB3;have HJ:=zOi (x:=x2) H;have hl1:=zE9 HJ;have hl2:=zE9 HG.out.2.2.2.2;refine⟨⟨⟨i+1,Lib.hid ⟨by omega,⟨{x2 with s:={x2.s with last:=d.kind},F:=fun b=>x2.F b∧CellsAt w b},a1,⟨a2.op,a2.ne,a2.ok,a2.gr⟩,a3,fun b h=>⟨h.2,(a4 b h.1).2⟩,HJ⟩,hB4⟩⟩,?_⟩,by omega⟩
     exact⟨_,_,_,_,_,_,_,_,_,_,_,_,_,_,_,_,_,_,_,_,_,_,_,_,_,_,_,_,_,_,rfl⟩
    ·exact fun ch W' h=>⟨rfl,.inr ⟨ch,rfl,h.1,h.2⟩⟩
  ·have hi:i=ws.length:=by have:=G.out.1;omega
   subst hi;rw[Nat.sub_self]at H;rw[wpIn_wide]
   go_wp2_with (first|((with_reducible refine gL ?_);refine zAH wtd_ _ _ rfl rfl zAE (H.cell (i:=0) .zero 0) ?_)|((with_reducible refine gL ?_);refine zAH wtd_ _ _ rfl rfl zAR (H.cell (i:=2) i_2 0) ?_))
   exact⟨rfl,.tuple #[],resE rfl,.inl ⟨_,rfl,G.out.2.1,G.out.2.2⟩⟩
def zBr (ts:List Tree):List Tree:=ts.flatMap Tree.kids
theorem zEM:∀ ts:List Tree,zAO ts=ts.length+zAO (zBr ts)
 | []=>rfl
 | t::r=>by
  have h:=zEM r;have h2:=zEj t;simp only[zBr,List.flatMap_cons,zA2,zAO,List.length_cons]at h ⊢;omega
theorem zFI:∀ a b:List Tree,zA5 (a++b)=max (zA5 a) (zA5 b)
 | [],b=>by simp[zA5]
 | t::r,b=>by simp only[List.cons_append,zA5,zFI r b];omega
theorem zGf:∀ ts:List Tree,ts≠[]→zA5 ts=zA5 (zBr ts)+1
 | [],h=>absurd rfl h
 | [t],_=>by simp[zA5,zBr,zI9]
 | t::u::r,_=>by
  have h:=zGf (u::r) (by simp)
  have h2:=zI9 t;have e:zBr (t::u::r)=t.kids++zBr (u::r):=by simp[zBr]
  rw[e,zFI,zA5,h];omega
theorem zIl {ts:List Tree} {j:Nat} {t:Tree} (h:ts[j]?=some t):zBr (ts.take (j+1))=zBr (ts.take j)++t.kids:=by
 rw[zEv h];simp[zBr]
theorem zJJ (ts:List Tree):(zBr ts).length≤zAO ts:=by
 have h:=zEM ts;have h2:=zEM (zBr ts);omega
theorem zFh (ts:List Tree) (j:Nat):(zBr (ts.take j)).length≤(zBr ts).length:=by
 have e:zBr ts=zBr (ts.take j)++zBr (ts.drop j):=by
  unfold zBr;rw[← List.flatMap_append,List.take_append_drop]
 rw[e,List.length_append];omega
theorem zIf (xs:List TV):∀ u ∈ zAc (xs.map zAo),u.oneCell'=true:=by
 intro u hu;simp only[zAc,List.map_map,List.mem_flatten,List.mem_map]at hu;obtain⟨l,⟨x,_,rfl⟩,hu⟩:=hu;have:(zAo x).toList.all (·.oneCell')=true:=rfl;exact List.all_eq_true.1 this u hu
theorem HoldG.blkRowQ {M:Nat→Prop} {w0 W:World} {l:List Res} (H:HoldG M w0 W l) {i b sz n:Nat} {cs:Array Value} {T:TypeId} (hi:At l i (.blk b cs T)) (hM:¬ M b) (hs:cs.size=n * sz) (hn:n≤maxLen):HoldG M w0 W (l.set i (.row (.slice (some ⟨b,0,none⟩) n n) T sz n cs.toList)):=by
 have hb:=H.blk hi;refine H.upd hi.get ⟨rfl,rfl,rfl,Nat.le_refl _,fun _ _ _=>rfl⟩ ⟨by simp[hs],.inr ⟨b,n,cs,rfl,hb.1.resolve_right hM,hb.2,Nat.le_refl _,hn,by simp[hs],?_⟩⟩ (fun _ e=>.inl e)
 rw[List.take_of_length_le (by simp[hs])]
theorem zMq (t:Tree) (p:Option Addr) (n c:Nat) (F:Nat→Prop) (w0:World) (hm:zAl t≤4000) (hF:∀ b,F b→b<w0.heap.size) (h:ForestR w0 F p c t.kids) (hn:n=t.kids.length) :
  Calls Tryd.prog 24 #[zAa t.d (.slice p n c)] w0 (Rt (.tuple #[.int .i64 (zAl t),.int .i64 (zC8 t)]) w0):=by
 obtain⟨i0,hi0,hz0,hz1,hz2⟩:=info_parts zGJ;subst hn;have H:=(Hold.start w0).know F (fun V=>ListR V F [(t,p,c)]) hF (fun i r h=>by simp at h) (fun V hV=>(ListR.one (t:=t) h).kept hV)
 simp only[List.nil_append]at H;clear h
 go_enter Tryd.func24,Tryd.ntmps24
 go_wp2_with (first|((first|((with_reducible refine kgA 1 ?_);refine kA 1 H ?_)|((with_reducible refine kgX 1 ?_);(first|refine kS 1 H ?_|refine kB 1 H ?_)));clear H;intro b1 w H;try simp only[nr]at H)|fail)
 go_step3
 go_wp2_with (first|((first|((with_reducible refine kgA 1 ?_);refine kA 1 H ?_)|((with_reducible refine kgX 1 ?_);(first|refine kS 1 H ?_|refine kB 1 H ?_)));clear H;intro b1 w H;try simp only[nr]at H)|((with_reducible refine gL ?_);refine aD H ?_)|((with_reducible refine gBS ?_);refine zCA wtd_ _ _ _ rfl H (zAQ (t.d) (.slice p t.kids.length c)) 31 (by intro W;simp only[ml];(try simp only[pe]);exact zEN _ _ W) ?_;clear H;intro bk w H;try simp only[nr]at H))
 go_step3
 have H2:=H.blkRowQ (i:=2) (sz:=10) (n:=1) i_2 id rfl (by decide)
 clear H;have H:=H2;clear H2;simp only[List.cons_append,List.nil_append,List.set_cons_succ,List.set_cons_zero]at H
 go_wp2_with fail
 have hF2:HoldG (fun _=>False) w0 w [.kn F (fun V=>ListR V F [(t,p,c)]),.row (.slice (some ⟨bk,0,none⟩) 1 1) 31 10 1 (zAc ([(t,p,c)].map zAo))]:=H.pick [0,2] _ (by decide) rfl
 clear H;have H:=hF2;clear hF2
 go_loopw [2,3,4] (fun a b v wr=>∃ (xs:List TV) (S D:Nat),a=.int .i64 S∧b=.int .i64 D∧Hid (S+zAO (xs.map (·.1))=zAl t∧D+zA5 (xs.map (·.1))=zC8 t)∧Hold w0 wr [.kn F (fun V=>ListR V F xs),.row v 31 10 xs.length (zAc (xs.map zAo))]) (fun a _ _ _=>5000 - (intOf a).toNat)
 case atStart=>exact⟨[(t,p,c)],0,0,rfl,rfl,Lib.hid ⟨by simp[zAO],by simp[zA5]⟩,H⟩
 case round =>
  clear H;obtain⟨xs,S,D,rfl,rfl,G,H⟩:=hrel;have hst:=zEM (xs.map (·.1));rw[List.length_map]at hst;have hS:S+xs.length≤4000:=by have:=G.out.1;omega
  have hD:D≤4000:=by have:=G.out.2;have:=zGD t;omega
  obtain⟨q,cap,rfl,hc1,hc2,hq⟩:=H.rowShape (i:=1) i_1
  by_cases h0:0<xs.length
  ·have d0:decide ((xs.length:Int) > 0)=true:=by simp;omega
   obtain⟨g,rfl⟩:=hq h0
   go_wp2_with (first|fail)
   have HG:=Lib.hid hq;clear hq;have H1:=(H.also F (fun V=>ListR V F xs∧ListR V F []) (Still.at (i:=0) .zero) (fun V hV=>⟨(H.kn (i:=0) .zero).kept hV,ListR.nil _ _⟩)).addNil 31 10
   simp only[ca]at H1;have H2:Hold w0 wr [.kn F (fun V=>ListR V F xs∧ListR V F []),.row (.slice (some ⟨g,0,none⟩) xs.length cap) 31 10 xs.length (zAc (xs.map zAo)),.row (.slice none 0 0) 31 10 ([]:List TV).length (zAc (([]:List TV).map zAo))]:=H1.pick [2,1,3] _ (by decide) rfl
   clear H H1;have hxl:(xs.map zAo).length=xs.length:=List.length_map ..;have HXL:=Lib.hid hxl;clear hxl
   go_hide hQ
   go_loopw [2,5,21] (fun a v ix wr=>∃ (j:Nat) (ya:List TV),j≤xs.length∧a=.int .i64 ((S:Int)+(xs.length:Int))∧ix=.int .i64 j∧Hid (ya.map (·.1)=zBr ((xs.map (·.1)).take j))∧Hold w0 wr [.kn F (fun V=>ListR V F xs∧ListR V F ya),.row (.slice (some ⟨g,0,none⟩) xs.length cap) 31 10 xs.length (zAc (xs.map zAo)),.row v 31 10 ya.length (zAc (ya.map zAo))]) (fun _ _ ix _=>xs.length+1 - (intOf ix).toNat)
   case atStart=>exact⟨0,[],by omega,rfl,rfl,Lib.hid (by simp[zBr]),H2⟩
   case round =>
    clear H2;obtain⟨j,ya,hj,rfl,rfl,E,H⟩:=hrel;have hyl:ya.length≤4000:=by
     have h1:=zFh (xs.map (·.1)) j;have h2:=zJJ (xs.map (·.1));have h3:ya.length=(zBr ((xs.map (·.1)).take j)).length:=by rw[← E.out,List.length_map]
     have:=G.out.1;omega
    by_cases hlt:j<xs.length
    ·have dj:decide ((j:Int)<(xs.length:Int))=true:=by simp;omega
     obtain⟨x,hx⟩:∃ x,xs[j]?=some x:=⟨_,List.getElem?_eq_getElem hlt⟩;have hmem:=List.mem_of_getElem? hx;have hxn:(xs.map zAo)[j]?=some (zAo x):=by rw[List.getElem?_map,hx];rfl
     have HXN:=Lib.hid hxn;clear hxn;have hks:=zIl (ts:=xs.map (·.1)) (j:=j) (t:=x.1) (by rw[List.getElem?_map,hx];rfl)
     obtain⟨ys,hy1,hy2,hy3⟩:=((H.kn (i:=0) .zero).1 x hmem).open;have hyk:x.1.kids.length=ys.length:=by rw[hy3,List.length_map]
     have E2:=Lib.hid (show (ya++ys).map (·.1)=zBr ((xs.map (·.1)).take (j+1)) by rw[hks,List.map_append,E.out,hy3])
     have hyy:ya.length+ys.length≤4000:=by
      have h1:=zFh (xs.map (·.1)) (j+1);have h2:=zJJ (xs.map (·.1));have h3:(ya++ys).length=(zBr ((xs.map (·.1)).take (j+1))).length:=by rw[← E2.out,List.length_map]
      rw[List.length_append]at h3;have:=G.out.1;omega
     have H1:=H.also F (fun V=>(ListR V F xs∧ListR V F (ya++ys))∧RdN 10 V F (.slice x.2.1 ys.length x.2.2) (ys.map zAo)) (Still.at (i:=0) .zero) (fun V hV=>⟨⟨((H.kn (i:=0) .zero).1).kept hV,(ListR.append (H.kn (i:=0) .zero).2 hy2).kept hV⟩,hy1.kept hV⟩)
     simp only[ca]at H1;clear H hy1 hy2 hy3 hmem hks hx;have H:=H1;clear H1;have HYK:=Lib.hid hyk;clear hyk;have d8:decide (((ya.length+ys.length:Nat):Int) > 8000)=false:=decide_eq_false (by omega)
     go_wp2_with (first|((with_reducible refine gL ?_);refine zBb wtd_ _ _ rfl rfl zAW (zBQ x) (H.rowCell (i:=1) i_1 (zBh _) HXL.out HXN.out rfl) ?_)|(at_builtin;refine zCP rfl _ _ 29 rfl H (i:=2) evd_ (by rw[← HYK.out];rfl) i_2 (H.kn (i:=3) i_3).2 (zBh _) Tryd.underlying29 hi0 hz0 hz1 hz2 rfl (by decide) (zIf _) (by unfold maxLen;omega) (by omega) ?_;clear H;intro v2 w H;(try simp only[nr]at H);(obtain⟨q2,c2,rfl,_,_,_⟩:=H.rowShape (i:=2) i_2))|((first|((with_reducible refine kgA 7 ?_);refine kA 7 H ?_)|((with_reducible refine kgX 7 ?_);(first|refine kS 7 H ?_|refine kB 7 H ?_)));clear H;intro b7 w H;try simp only[nr]at H)|(first|((with_reducible refine gT ?_);(refine aT H ?_;clear H;intro w H;try simp only[nr]at H))|((with_reducible refine gL ?_);refine aG H ?_)))
     have H2:=(H.also F (fun V=>ListR V F xs∧ListR V F (ya++ys)) (Still.at (i:=3) i_3) (fun V hV=>⟨((H.kn (i:=3) i_3).1.1).kept hV,((H.kn (i:=3) i_3).1.2).kept hV⟩)).pick [5,1,2] [.kn F (fun V=>ListR V F xs∧ListR V F (ya++ys)),.row (.slice (some ⟨g,0,none⟩) xs.length cap) 31 10 xs.length (zAc (xs.map zAo)),.row (.slice q2 (ya.length+ys.length) c2) 31 10 (ya.length+ys.length) (zAc (ya.map zAo)++zAc (ys.map zAo))] (by decide) rfl
     go_roundw
     case rel=>exact⟨j+1,ya++ys,by omega,rfl,by go_num,E2,by rw[List.length_append,List.map_append,zBe];exact H2⟩
     case measure=>simp[intOf];omega
    ·have dj:decide ((j:Int)<(xs.length:Int))=false:=by simp;omega
     obtain rfl:j=xs.length:=by omega
     go_wp2_with (first|fail)
     subst hQ
     go_wp2_with (first|fail)
     have H2:=(H.also F (fun V=>ListR V F ya) (Still.at (i:=0) .zero) (fun V hV=>((H.kn (i:=0) .zero).2).kept hV)).pick [3,2] [.kn F (fun V=>ListR V F ya),.row u5 31 10 ya.length (zAc (ya.map zAo))] (by decide) rfl
     have e3:ya.map (·.1)=zBr (xs.map (·.1)):=by rw[E.out,List.take_of_length_le (by rw[List.length_map];exact Nat.le_refl _)]
     have e4:=zGf (xs.map (·.1)) (fun h=>by have:=congrArg List.length h;rw[List.length_map,List.length_nil]at this;omega)
     obtain⟨g1,g2⟩:=G.out;rw[hst,← e3]at g1;rw[e4,← e3]at g2;go_roundw
     case rel=>exact⟨ya,S+xs.length,D+1,by go_num,by go_num,Lib.hid ⟨by omega,by omega⟩,H2⟩
     case measure=>simp[intOf];omega
  ·have d0:decide ((xs.length:Int) > 0)=false:=decide_eq_false (by omega)
   obtain rfl:xs=[]:=List.length_eq_zero_iff.1 (by omega)
   go_wp2_with (first|fail)
   have e1:(S:Int)=(zAl t:Int):=by have:=G.out.1;simp[zAO]at this;omega
   have e2:(D:Int)=(zC8 t:Int):=by have:=G.out.2;simp[zA5]at this;omega
   refine⟨rfl,.tuple #[.int .i64 S,.int .i64 D],(by simp[results,Tryd.results24,go_sem]),?_⟩
   exact⟨by rw[e1,e2],H.below⟩
end
section
open Go.RowKit Go.Shelf
abbrev zD7:=Nat × Array Value × TypeId
structure RelZ (Z:List zD7) (w w':World):Prop where
 os:w'.os=w.os
 tape:w'.tape=w.tape
 output:w'.output=w.output
 size:w.heap.size≤w'.heap.size
 old:∀ k,k<w.heap.size→(∀ z ∈ Z,z.1≠k)→w'.heap[k]?=w.heap[k]?
 at0:∀ z ∈ Z,z.1<w.heap.size→w'.heap[z.1]?=w.heap[z.1]?∨w'.heap[z.1]?=some (.cells z.2.1 z.2.2 (0,0))
section
variable {Z:List zD7}
theorem RelZ.refl (w:World):RelZ Z w w:=⟨rfl,rfl,rfl,Nat.le_refl _,fun _ _ _=>rfl,fun _ _ _=>.inl rfl⟩
theorem RelZ.trans (u v w:World) (h:RelZ Z u v) (k:RelZ Z v w):RelZ Z u w:=by
 refine⟨k.os.trans h.os,k.tape.trans h.tape,k.output.trans h.output,Nat.le_trans h.size k.size,fun i h1 h2=>(k.old i (Nat.lt_of_lt_of_le h1 h.size) h2).trans (h.old i h1 h2),fun z hz hlt=>?_⟩
 rcases k.at0 z hz (Nat.lt_of_lt_of_le hlt h.size) with e|e
 ·rcases h.at0 z hz hlt with f|f
  ·exact .inl (e.trans f)
  ·exact .inr (e.trans f)
 ·exact .inr e
theorem RelZ.drew (w:World):RelZ Z w {w with drawn:=w.drawn+1}:=⟨rfl,rfl,rfl,Nat.le_refl _,fun _ _ _=>rfl,fun _ _ _=>.inl rfl⟩
def zHb (z:zD7) (v:Value) (w:World):Prop:=v=pt z.1 0∧w.heap[z.1]?=some (.cells z.2.1 z.2.2 (0,0))
theorem zBz {z:zD7} (hz:z ∈ Z):zDz (RelZ Z) (zHb z):=fun v w w' ⟨e,h⟩ hr=>⟨e,by
 rcases hr.at0 z hz (Array.getElem?_eq_some_iff.1 h).1 with f|f
 ·exact f.trans h
 ·exact f⟩
theorem RelZ.blk {w W:World} (h:RelZ Z w W) {b:Nat} {cs:Array Value} {T:TypeId} (hb:w.heap[b]?=some (.cells cs T (0,0))) (hn:∀ z ∈ Z,z.1=b→z.2.1=cs∧z.2.2=T):W.heap[b]?=some (.cells cs T (0,0)):=by
 have hlt:=(Array.getElem?_eq_some_iff.1 hb).1
 by_cases hz:∃ z ∈ Z,z.1=b
 ·obtain⟨z,hz,e⟩:=hz;obtain⟨e1,e2⟩:=hn z hz e;rcases h.at0 z hz (by rw[e];exact hlt) with f|f
  ·rw[e]at f;exact f.trans hb
  ·rw[e,e1,e2]at f;exact f
 ·exact(h.old b hlt (fun z hz' e=>hz ⟨z,hz',e⟩)).trans hb
theorem zDq {P:Program} {ops:Array Oper} {o:Oper} {a:Act} {w:World} {S:TypeId} {m:Tmp} {y:Operand} {z:zD7} (hz:z ∈ Z) (hd:∀ z' ∈ Z,z'.1=z.1→z'=z) (hg:Region.wanted o (yielded ops a.tmps)=true) (hop:o.op=.store S (.tmp m) y) (hdst:o.dst=none) (hm:a.eval (.tmp m)=.pointer (some ⟨z.1,0,none⟩)) (hb:∃ cs,w.heap[z.1]?=some (.cells cs z.2.2 (0,0))∧cs.size=z.2.1.size)
  (hrun:∀ hth:w.there z.1 0 z.2.1.size,(execOp a.eval o).run P w=.ok .skip (w.setCells z.1 0 z.2.1.toList)):zCF P ops (RelZ Z) o a w (fun v w'=>zHb z v w'∧(o.dst=none→v=zFi o a)):=by
 obtain⟨cs,hb,hs⟩:=hb;have hth:w.there z.1 0 z.2.1.size:=fun j hj=>by
  rw[cell_of_row w z.1 (0+j) cs z.2.2 (0,0) hb];simp[World.frozen?,hb];omega
 unfold zCF;rw[if_pos hg];unfold Oper.wp;rw[hrun hth];simp only[Oper.upon];have hg2:=zCm z.2.1.toList 0 w z.1;have hh:=zC6 z.2.1.toList 0 w z.1 cs z.2.2 _ hb;rw[zFH (by omega)]at hh
 refine⟨.pointer (some ⟨z.1,0,none⟩),(by rw[hdst];rfl),⟨hg2.os,hg2.tape,hg2.output,hg2.size,fun j hj hne=>hg2.block j hj (fun e=>by cases e;exact hne z hz rfl),fun z' hz' hlt=>?_⟩,⟨rfl,hh⟩,fun _=>?_⟩
 ·by_cases e:z'.1=z.1
  ·rw[hd z' hz' e];exact .inr hh
  ·exact .inl (hg2.block z'.1 hlt (fun e'=>e (Option.some.inj e')))
 ·unfold zFi ownT;rw[hop];exact hm.symm
theorem zFs {P:Program} {o:Oper} {a:Act} {w:World} {S:TypeId} {m:Tmp} {y:Operand} {b:Nat} {C:Array Value} (hop:o.op=.store S (.tmp m) y) (hm:a.eval (.tmp m)=.pointer (some ⟨b,0,none⟩)) (hy:a.eval y=.agg C) (hT:zCx P S C.size=true) (h1:C.toList.all (·.oneCell')=true) (hth:w.there b 0 C.size):(execOp a.eval o).run P w=.ok .skip (w.setCells b 0 C.toList):=by
 unfold execOp;simp only[hop,hm,hy,Instr.storeAt,Instr.sureAddr,Sem.run_bind,Sem.run_pure,Result.andThen_ok,run_storeVar_mid (P:=P) w b 0 S C hth (by simpa [zCx] using hT) (by rw[Array.all_toList]at h1;exact h1)]
theorem zEl {P:Program} {o:Oper} {a:Act} {w:World} {S:TypeId} {m:Tmp} {y:Operand} {b:Nat} {v:Value} (hop:o.op=.store S (.tmp m) y) (hm:a.eval (.tmp m)=.pointer (some ⟨b,0,none⟩)) (hy:a.eval y=v) (hT:zCx P S 1=true) (h1:v.oneCell'=true) (hth:w.there b 0 1):(execOp a.eval o).run P w=.ok .skip (w.setCells b 0 [v]):=by
 have hs:(⟨b,0,none⟩:Addr).add 0=⟨b,0,none⟩:=by rw[Addr.add_mid]
 obtain⟨hc,hf⟩:=hth 0 (by omega)
 unfold execOp;simp only[hop,hm,hy,Instr.storeAt,Instr.sureAddr,Sem.run_bind,Sem.run_pure,Result.andThen_ok,zCE (P:=P) (w:=w) hT h1 hc hf hs];rfl
theorem HoldG.relZ3 {M:Nat→Prop} {w0 w W:World} {l:List Res} {b4 b5 b6:Nat} {c4 c5 c6 d4 d5 d6:Array Value} {T4 T5 T6:TypeId} (H:HoldG M w0 w (.blk b4 c4 T4::.blk b5 c5 T5::.blk b6 c6 T6::l)) (h:RelZ [(b4,d4,T4),(b5,d5,T5),(b6,d6,T6)] w W)
  (h4:W.heap[b4]?=some (.cells d4 T4 (0,0))) (h5:W.heap[b5]?=some (.cells d5 T5 (0,0))) (h6:W.heap[b6]?=some (.cells d6 T6 (0,0))):HoldG M w0 W (.blk b4 d4 T4::.blk b5 d5 T5::.blk b6 d6 T6::l):=by
 have g4:=H.blk (i:=0) .zero;have g5:=H.blk (i:=1) i_1;have g6:=H.blk (i:=2) i_2;refine⟨H.keep.trans ⟨h.os,h.tape,h.output,h.size,fun k h1 h2=>h.old k (Nat.lt_of_lt_of_le h1 H.keep.size) (fun z hz e=>?_)⟩,fun i r hi=>?_,fun i j r s hij hr hs=>?_⟩
 ·simp only[List.mem_cons,List.not_mem_nil,or_false]at hz;rcases hz with rfl|rfl|rfl
  ·subst e;exact g4.1.elim (fun h=>by omega) h2
  ·subst e;exact g5.1.elim (fun h=>by omega) h2
  ·subst e;exact g6.1.elim (fun h=>by omega) h2
 ·match i,hi with
  | 0,hi=>cases hi;exact⟨g4.1,h4⟩
  | 1,hi=>cases hi;exact⟨g5.1,h5⟩
  | 2,hi=>cases hi;exact⟨g6.1,h6⟩
  | i+3,hi =>
   have hi':(Res.blk b4 c4 T4::.blk b5 c5 T5::.blk b6 c6 T6::l)[i+3]?=some r:=hi;have hA:=H.all (i+3) r hi';refine hA.kept (fun b hb=>h.old b (hA.ltf b hb) (fun z hz e=>?_)) h.size
   simp only[List.mem_cons,List.not_mem_nil,or_false]at hz;rcases hz with rfl|rfl|rfl
   ·exact H.apart 0 (i+3) _ r (by omega) rfl hi' b (by rw[← e];rfl) hb
   ·exact H.apart 1 (i+3) _ r (by omega) rfl hi' b (by rw[← e];rfl) hb
   ·exact H.apart 2 (i+3) _ r (by omega) rfl hi' b (by rw[← e];rfl) hb
 ·have key:∀ (k:Nat) (u:Res),(Res.blk b4 d4 T4::.blk b5 d5 T5::.blk b6 d6 T6::l)[k]?=some u→∃ v,(Res.blk b4 c4 T4::.blk b5 c5 T5::.blk b6 c6 T6::l)[k]?=some v∧v.place=u.place∧v.foot=u.foot:=fun k u hu=>by
   match k,hu with
   | 0,hu=>cases hu;exact⟨_,rfl,rfl,rfl⟩
   | 1,hu=>cases hu;exact⟨_,rfl,rfl,rfl⟩
   | 2,hu=>cases hu;exact⟨_,rfl,rfl,rfl⟩
   | k+3,hu=>exact⟨u,hu,rfl,rfl⟩
  obtain⟨v,hv,e1,_⟩:=key i r hr;obtain⟨u,hu,_,e2⟩:=key j s hs;have:=H.apart i j v u hij hv hu;intro b hb hf;exact this b (e1.trans hb) (by rw[e2];exact hf)
end
end
section
open Go.RowKit Go.Shelf
attribute [local go_sem] Oper.semAt_some
theorem zOL:zB0 Tryd.prog 51=#[.int .i64 0,.int .i64 0]:=by kernel_rfl
theorem zKT:rowB Tryd.prog 51 2=true:=by kernel_rfl
def resL (b4 b5 b6 b7:Nat) (cs:Array Value) (g a x:Int):List Res:=[.blk b4 cs 31,.blk b5 #[.int .i64 g] 3,.blk b6 #[.int .i64 a] 3,.blk b7 #[.int .i64 x] 32]
theorem zIt (n:Nat) (v4 v5 v6 v7:Value) (w:World):CallsDIn Fence.wide n Tryd.prog 17 #[v4,v5,v6,v7] .returning w fun e u' w'=>e=.returned (.tuple #[])∧u'=.returning∧w'=w:=by
 refine callsDIn_of_wpSIn Tryd.func17 rfl trivial fun c₀ cs hu=>?_
 apply wpSIn_seq;apply wpSIn_region;simp[wpOpsSIn,go_sem,recoverD,hu,Tryd.ntmps17,Exit.thenS];apply wpSIn_seq;apply wpSIn_region;simp[wpOpsSIn,go_sem,Exit.thenS];refine wpSIn_cond (t:=false) (by simp[Act.eval,Array.replicate]) ?_
 simp only[Bool.false_eq_true,if_false];refine wpSIn_of_wpIn rfl (wpIn_skip ?_)
 cases c₀
 simp_all [bodyPostS,results,Tryd.results17]
theorem zH2 (a x:Int) (w:World):(Instr.typeAssert (.iface 51 (.agg #[.int .i64 a,.int .i64 x])) 20 51 true).run Tryd.prog w=.ok (.tuple #[.agg #[.int .i64 a,.int .i64 x],.bool true]) w:=by kernel_rfl
theorem zCa (n b4 gB b6 b7:Nat) (cs:Array Value) (g0 a0 x0:Int) (hs:cs.size=10) (a x:Nat) {w0:World} (w:World) (H:HoldG (fun _=>False) w0 w (resL b4 gB b6 b7 cs g0 a0 x0)) :
  CallsDIn Fence.wide n Tryd.prog 17 #[.pointer (some ⟨b4,0,none⟩),.pointer (some ⟨gB,0,none⟩),.pointer (some ⟨b6,0,none⟩),.pointer (some ⟨b7,0,none⟩)] (.panicking (zCw a x)) w fun e u' w'=>e=.returned (.tuple #[]) ∧
   u'=.panicking [{v:=.iface 51 (.agg #[.int .i64 a,.int .i64 x]),recovered:=true}]∧HoldG (fun _=>False) w0 w' (resL b4 gB b6 b7 (zAQ {kind:=0} nilS) 0 a x):=by
 have hta:=zH2 a x;refine callsDIn_of_wpSIn Tryd.func17 rfl trivial fun c₀ cs2 hu=>?_
 unfold zCw at hu;apply wpSIn_seq;apply wpSIn_region;simp[wpOpsSIn,go_sem,recoverD,hu,Tryd.ntmps17,Exit.thenS];apply wpSIn_seq;apply wpSIn_region;simp[wpOpsSIn,go_sem,Exit.thenS];refine wpSIn_cond (t:=true) (by simp[Act.eval,Array.replicate]) ?_
 simp only[if_true];refine wpSIn_of_wpIn rfl ?_
 rw[wpIn_wide];simp only[Array.replicate_succ,Array.replicate_zero,List.push_toArray,List.append_toArray,List.nil_append,List.cons_append,List.setIfInBounds_toArray,List.set_cons_succ,List.set_cons_zero];unfold resL at H
 go_upto_region 2 with fail
 refine wp_region_lit ?_
 refine zAx rfl (v:=.iface 51 (.agg #[.int .i64 a,.int .i64 x])) rfl ?_
 refine zAx rfl (v:=.tuple #[.agg #[.int .i64 a,.int .i64 x],.bool true]) (by simp[execOp,go_sem,Act.eval,Act.put,hta]) ?_
 refine zAx rfl (v:=.tuple #[.agg #[.int .i64 a,.int .i64 x],.bool true]) rfl ?_
 refine zAx rfl (v:=.agg #[.int .i64 a,.int .i64 x]) rfl ?_
 refine zAx rfl (v:=.bool true) rfl ?_
 refine zGO rfl 51 rfl H (by kernel_rfl) ?_
 clear H;intro b5 w H;rw[zOL]at H;simp only[ca]at H;refine zDC rfl 51 _ _ rfl (k:=0) rfl (vs:=#[.int .i64 a,.int .i64 x]) rfl H (i:=4) i_4 (zA3 zKT) rfl rfl (by decide) ?_
 clear H;intro w H;replace H:HoldG (fun _=>False) w0 w [.blk b4 cs 31,.blk gB #[.int .i64 g0] 3,.blk b6 #[.int .i64 a0] 3,.blk b7 #[.int .i64 x0] 32,.blk b5 #[.int .i64 a,.int .i64 x] 51]:=H
 refine zAx rfl (v:=.bool true) rfl ?_
 go_upto_region 5 with fail
 have h4:=(H.blk (i:=0) .zero).2;have h5:=(H.blk (i:=1) i_1).2;have h6:=(H.blk (i:=2) i_2).2;have hw:=(H.blk (i:=4) i_4).2;have n45:b4≠gB:=fun e=>H.apart 0 1 _ _ (by decide) rfl rfl b4 rfl (by rw[e];rfl)
 have n46:b4≠b6:=fun e=>H.apart 0 2 _ _ (by decide) rfl rfl b4 rfl (by rw[e];rfl)
 have n56:gB≠b6:=fun e=>H.apart 1 2 _ _ (by decide) rfl rfl gB rfl (by rw[e];rfl)
 have m4:b4≠b5:=fun e=>H.apart 0 4 _ _ (by decide) rfl rfl b4 rfl (by rw[e];rfl)
 have m5:gB≠b5:=fun e=>H.apart 1 4 _ _ (by decide) rfl rfl gB rfl (by rw[e];rfl)
 have m6:b6≠b5:=fun e=>H.apart 2 4 _ _ (by decide) rfl rfl b6 rfl (by rw[e];rfl)
 have hS:∀ W,RelZ [(b4,zAQ {kind:=0} nilS,31),(gB,#[.int .i64 0],3),(b6,#[.int .i64 a],3)] w W→W.heap[b5]?=some (.cells #[.int .i64 a,.int .i64 x] 51 (0,0))∧(∃ c,W.heap[b4]?=some (.cells c 31 (0,0))∧c.size=10)∧(∃ c,W.heap[gB]?=some (.cells c 3 (0,0))∧c.size=1)∧∃ c,W.heap[b6]?=some (.cells c 3 (0,0))∧c.size=1:=fun W hr=>by
  refine⟨hr.blk hw (fun z hz e=>?_),?_,?_,?_⟩
  ·simp only[List.mem_cons,List.not_mem_nil,or_false]at hz;rcases hz with rfl|rfl|rfl
   ·exact absurd e m4
   ·exact absurd e m5
   ·exact absurd e m6
  ·rcases hr.at0 _ (.head _) (Array.getElem?_eq_some_iff.1 h4).1 with e|e
   ·exact⟨cs,e.trans h4,hs⟩
   ·exact⟨_,e,rfl⟩
  ·rcases hr.at0 _ (.tail _ (.head _)) (Array.getElem?_eq_some_iff.1 h5).1 with e|e
   ·exact⟨_,e.trans h5,rfl⟩
   ·exact⟨_,e,rfl⟩
  ·rcases hr.at0 _ (.tail _ (.tail _ (.head _))) (Array.getElem?_eq_some_iff.1 h6).1 with e|e
   ·exact⟨_,e.trans h6,rfl⟩
   ·exact⟨_,e,rfl⟩
 have hZ4:∀ z' ∈ [((b4,zAQ {kind:=0} nilS,31):zD7),(gB,#[.int .i64 0],3),(b6,#[.int .i64 a],3)],z'.1=b4→z'=(b4,zAQ {kind:=0} nilS,31):=fun z hz e=>by
  simp only[List.mem_cons,List.not_mem_nil,or_false]at hz;rcases hz with rfl|rfl|rfl
  ·rfl
  ·exact absurd e.symm n45
  ·exact absurd e.symm n46
 have hZ5:∀ z' ∈ [((b4,zAQ {kind:=0} nilS,31):zD7),(gB,#[.int .i64 0],3),(b6,#[.int .i64 a],3)],z'.1=gB→z'=(gB,#[.int .i64 0],3):=fun z hz e=>by
  simp only[List.mem_cons,List.not_mem_nil,or_false]at hz;rcases hz with rfl|rfl|rfl
  ·exact absurd e n45
  ·rfl
  ·exact absurd e.symm n56
 have hZ6:∀ z' ∈ [((b4,zAQ {kind:=0} nilS,31):zD7),(gB,#[.int .i64 0],3),(b6,#[.int .i64 a],3)],z'.1=b6→z'=(b6,#[.int .i64 a],3):=fun z hz e=>by
  simp only[List.mem_cons,List.not_mem_nil,or_false]at hz;rcases hz with rfl|rfl|rfl
  ·exact absurd e n46
  ·exact absurd e n56
  ·rfl
 refine zBW (RelZ [(b4,zAQ {kind:=0} nilS,31),(gB,#[.int .i64 0],3),(b6,#[.int .i64 a],3)]) RelZ.refl RelZ.trans RelZ.drew 8 [fun v _=>v=zAa {kind:=0} nilS,fun v _=>v=pt b5 0,fun v _=>v=.int .i64 a,fun v _=>v=pt b5 1,fun v _=>v=.int .i64 x,zHb (b4,zAQ {kind:=0} nilS,31),zHb (gB,#[.int .i64 0],3),zHb (b6,#[.int .i64 a],3)]
  ⟨zAA _,zAA _,zAA _,zAA _,zAA _,zBz (.head _),zBz (.tail _ (.head _)),zBz (.tail _ (.tail _ (.head _))),trivial⟩ (by kernel_rfl) (by kernel_rfl) (by kernel_rfl) ?ob ?en
 case ob =>
  refine⟨?_,?_,?_,?_,?_,?_,?_,?_,trivial⟩<;>intro A W h
  ·exact zAt rfl (zAG RelZ.refl rfl (by simp only[execOp,List.map_toArray,List.map_nil,Sem.run_bind,zKj];rfl))
  ·exact zAt rfl (zAG RelZ.refl rfl (by simp only[execOp,show A.eval (.tmp 5)=.pointer (some ⟨b5,0,none⟩) from h.f 5];simp[go_sem]))
  ·exact zAt rfl (zAG RelZ.refl rfl (zAL rfl (h.d 1 19) zAJ (by simp[World.cell?,(hS W h.rel).1])))
  ·exact zAt rfl (zAG RelZ.refl rfl (by simp only[execOp,show A.eval (.tmp 5)=.pointer (some ⟨b5,0,none⟩) from h.f 5];simp[go_sem]))
  ·exact zAt rfl (zAG RelZ.refl rfl (zAL rfl (h.d 3 21) zAM (by simp[World.cell?,(hS W h.rel).1])))
  ·exact zDq (.head _) hZ4 rfl rfl rfl (h.f 0) (hS W h.rel).2.1 (fun hth=>zFs rfl (h.f 0) (h.d 0 18) (zA3 (n:=10) zAW) rfl hth)
  ·exact zDq (.tail _ (.head _)) hZ5 rfl rfl rfl (h.f 1) (hS W h.rel).2.2.1 (fun hth=>zEl rfl (h.f 1) rfl (zAC zAJ) rfl hth)
  ·exact zDq (.tail _ (.tail _ (.head _))) hZ6 rfl rfl rfl (h.f 2) (hS W h.rel).2.2.2 (fun hth=>zEl rfl (h.f 2) (h.d 2 20) (zAC zAJ) rfl hth)
 case en =>
  intro vals W1 hrel hv hlk;have v0:vals 0=zAa {kind:=0} nilS:=hv 0 (by omega)
  have v1:vals 1=.pointer (some ⟨b5,0,none⟩):=hv 1 (by omega)
  have v2:vals 2=.int .i64 a:=hv 2 (by omega)
  have v3:vals 3=.pointer (some ⟨b5,1,none⟩):=hv 3 (by omega)
  have v4:vals 4=.int .i64 x:=hv 4 (by omega)
  have H2:=H.relZ3 hrel (hv 5 (by omega)).2 (hv 6 (by omega)).2 (hv 7 (by omega)).2
  simp only[fa,Nat.reduceAdd];rw[v0,v1,v2,v3,v4];clear hv v0 v1 v2 v3 v4 hlk hrel H hS;have H:=H2;clear H2;simp only[pl];refine zAK rfl 32 _ _ rfl (b:=b7) (k:=0) rfl (v:=.int .i64 x) rfl H (i:=3) i_3 rfl (show 0<1 from Nat.one_pos) (zAC zAM) ?_
  clear H;intro w H;have H2:=H.pick [0,1,2,3] (resL b4 gB b6 b7 (zAQ {kind:=0} nilS) 0 a x) (by decide) rfl
  clear H
  go_wp2_with fail
  simp[bodyPostS,results,Tryd.results17,H2]
theorem zDm {P:Program} {fn:Func} {p q r s:Tmp} {T1 T2 T3 T4:TypeId} (hres:fn.results=#[.cell p T1,.cell q T2,.cell r T3,.cell s T4]) {tmps:Array Value} {w:World} {b4 b5 b6 b7 n:Nat}
  (h1:tmps.getD p undef=.pointer (some ⟨b4,0,none⟩)) (h2:tmps.getD q undef=.pointer (some ⟨b5,0,none⟩)) (h3:tmps.getD r undef=.pointer (some ⟨b6,0,none⟩)) (h4:tmps.getD s undef=.pointer (some ⟨b7,0,none⟩)) (t1:rowB P T1 n=true) (t2:oneB P T2=true) (t3:oneB P T3=true) (t4:oneB P T4=true)
  {cs:Array Value} {v2 v3 v4:Value} {M:Nat→Prop} {w0:World} {l:List Res} {i:Nat} {T:TypeId} (H:HoldG M w0 w l) (hi:At l i (.blk b4 cs T)) (hn:cs.size=n) (c2:w.cell? ⟨b5,0,none⟩=some v2) (c3:w.cell? ⟨b6,0,none⟩=some v3) (c4:w.cell? ⟨b7,0,none⟩=some v4):(results fn tmps).run P w=.ok (.tuple #[.agg cs,v2,v3,v4]) w:=by
 have e1:tmps[p]?.getD undef=.pointer (some ⟨b4,0,none⟩):=by simpa using h1
 have e2:tmps[q]?.getD undef=.pointer (some ⟨b5,0,none⟩):=by simpa using h2
 have e3:tmps[r]?.getD undef=.pointer (some ⟨b6,0,none⟩):=by simpa using h3
 have e4:tmps[s]?.getD undef=.pointer (some ⟨b7,0,none⟩):=by simpa using h4
 have hr:=H.run_row (T:=T1) hi t1 hn (k:=0) (fun j _=>by rw[Nat.zero_add])
 simp[results,hres,e1,e2,e3,e4,asAddr,hr,zA4 t2 c2,zA4 t3 c3,zA4 t4 c4]
theorem zIQ (L:Str) (f:zAU) (p x:Nat) (hw:zCt L=.error (p,x)) (w0:World) (hz:MaxL w0) :
  Calls Tryd.prog 6 #[.string ⟨L.toArray⟩,zDX f] w0 fun e w'=>ParseOut w0 (zCK L f) e w'∧Below w0.heap.size w0 w':=by
 have E:zCK L f=.error (p,x):=by unfold zCK;rw[hw]
 have hx:x≠0:=(zHz E).1;have hwd:=fun w (hz:MaxL w)=>zI6 L w hz
 rw[hw]at hwd;simp only[WordsR]at hwd;have dx:((x:Int) == 0)=false:=by rw[beq_eq_false_iff_ne];omega
 have E2:=Lib.hid E;clear E hx hw;have HZ:=Lib.hid hz;clear hz;have H:=Hold.start w0
 go_enter Tryd.func6,Tryd.ntmps6
 go_upto_region 3 with (first|((with_reducible refine ch (hwd _ (HZ.out.below H.below)) H ?_);clear H;intro w H)|((first|((with_reducible refine kgA 3 ?_);refine kA 3 H ?_)|((with_reducible refine kgX 3 ?_);(first|refine kS 3 H ?_|refine kB 3 H ?_)));clear H;intro b3 w H;try simp only[nr]at H)|((first|((with_reducible refine kgA 4 ?_);refine kA 4 H ?_)|((with_reducible refine kgX 4 ?_);(first|refine kS 4 H ?_|refine kB 4 H ?_)));clear H;intro b4 w H;try simp only[nr]at H)|((first|((with_reducible refine kgA 5 ?_);refine kA 5 H ?_)|((with_reducible refine kgX 5 ?_);(first|refine kS 5 H ?_|refine kB 5 H ?_)));clear H;intro b5 w H;try simp only[nr]at H)|((first|((with_reducible refine kgA 6 ?_);refine kA 6 H ?_)|((with_reducible refine kgX 6 ?_);(first|refine kS 6 H ?_|refine kB 6 H ?_)));clear H;intro b6 w H;try simp only[nr]at H)|((first|((with_reducible refine kgA 7 ?_);refine kA 7 H ?_)|((with_reducible refine kgX 7 ?_);(first|refine kS 7 H ?_|refine kB 7 H ?_)));clear H;intro b7 w H;try simp only[nr]at H)|(first|((with_reducible refine gT ?_);(refine aO H ?_;clear H;intro w H;try simp only[nr]at H))|((with_reducible refine gL ?_);refine aG H ?_)))
 have H2:=H.pick [1,2,3,4] [.blk b4 (zAQ {kind:=0} nilS) 31,.blk b5 #[.int .i64 0] 3,.blk b6 #[.int .i64 p] 3,.blk b7 #[.int .i64 x] 32] (by decide) rfl
 clear H;have H:=H2;clear H2;have h4:=(H.blk (i:=0) .zero).2;have h5:=(H.blk (i:=1) i_1).2;have h6:=(H.blk (i:=2) i_2).2;have h7:=(H.blk (i:=3) i_3).2;have n45:b4≠b5:=fun e=>H.apart 0 1 _ _ (by decide) rfl rfl b4 rfl (by rw[e];rfl)
 have n46:b4≠b6:=fun e=>H.apart 0 2 _ _ (by decide) rfl rfl b4 rfl (by rw[e];rfl)
 have n56:b5≠b6:=fun e=>H.apart 1 2 _ _ (by decide) rfl rfl b5 rfl (by rw[e];rfl)
 have n47:b4≠b7:=fun e=>H.apart 0 3 _ _ (by decide) rfl rfl b4 rfl (by rw[e];rfl)
 have n57:b5≠b7:=fun e=>H.apart 1 3 _ _ (by decide) rfl rfl b5 rfl (by rw[e];rfl)
 have n67:b6≠b7:=fun e=>H.apart 2 3 _ _ (by decide) rfl rfl b6 rfl (by rw[e];rfl)
 have hZ4:∀ z' ∈ [((b4,zAQ {kind:=0} nilS,31):zD7),(b5,#[.int .i64 0],3),(b6,#[.int .i64 p],3)],z'.1=b4→z'=(b4,zAQ {kind:=0} nilS,31):=fun z hz e=>by
  simp only[List.mem_cons,List.not_mem_nil,or_false]at hz;rcases hz with rfl|rfl|rfl
  ·rfl
  ·exact absurd e.symm n45
  ·exact absurd e.symm n46
 have hZ5:∀ z' ∈ [((b4,zAQ {kind:=0} nilS,31):zD7),(b5,#[.int .i64 0],3),(b6,#[.int .i64 p],3)],z'.1=b5→z'=(b5,#[.int .i64 0],3):=fun z hz e=>by
  simp only[List.mem_cons,List.not_mem_nil,or_false]at hz;rcases hz with rfl|rfl|rfl
  ·exact absurd e n45
  ·rfl
  ·exact absurd e.symm n56
 have hZ6:∀ z' ∈ [((b4,zAQ {kind:=0} nilS,31):zD7),(b5,#[.int .i64 0],3),(b6,#[.int .i64 p],3)],z'.1=b6→z'=(b6,#[.int .i64 p],3):=fun z hz e=>by
  simp only[List.mem_cons,List.not_mem_nil,or_false]at hz;rcases hz with rfl|rfl|rfl
  ·exact absurd e n46
  ·exact absurd e n56
  ·rfl
 have hS:∀ W,RelZ [(b4,zAQ {kind:=0} nilS,31),(b5,#[.int .i64 0],3),(b6,#[.int .i64 p],3)] w W→W.heap[b4]?=some (.cells (zAQ {kind:=0} nilS) 31 (0,0))∧W.heap[b5]?=some (.cells #[.int .i64 0] 3 (0,0))∧W.heap[b6]?=some (.cells #[.int .i64 p] 3 (0,0))∧W.heap[b7]?=some (.cells #[.int .i64 x] 32 (0,0)):=fun W hr=>by
  refine⟨hr.blk h4 (fun z hz e=>by rw[hZ4 z hz e];exact⟨rfl,rfl⟩),hr.blk h5 (fun z hz e=>by rw[hZ5 z hz e];exact⟨rfl,rfl⟩),hr.blk h6 (fun z hz e=>by rw[hZ6 z hz e];exact⟨rfl,rfl⟩),hr.blk h7 (fun z hz e=>?_)⟩
  simp only[List.mem_cons,List.not_mem_nil,or_false]at hz;rcases hz with rfl|rfl|rfl
  ·exact absurd e n47
  ·exact absurd e n57
  ·exact absurd e n67
 refine zBW (RelZ [(b4,zAQ {kind:=0} nilS,31),(b5,#[.int .i64 0],3),(b6,#[.int .i64 p],3)]) RelZ.refl RelZ.trans RelZ.drew 6 [fun v _=>v=zAa {kind:=0} nilS,fun v _=>v=.int .i64 p,fun v _=>v=.int .i64 x,zHb (b4,zAQ {kind:=0} nilS,31),zHb (b5,#[.int .i64 0],3),zHb (b6,#[.int .i64 p],3)]
  ⟨zAA _,zAA _,zAA _,zBz (.head _),zBz (.tail _ (.head _)),zBz (.tail _ (.tail _ (.head _))),trivial⟩ (by kernel_rfl) (by kernel_rfl) (by kernel_rfl) ?ob ?en
 case ob =>
  refine⟨?_,?_,?_,?_,?_,?_,trivial⟩<;>intro A W h
  ·exact zAt rfl (zAG RelZ.refl rfl (zCI rfl (h.f 4) zAW rfl (fun k _=>by rw[Nat.zero_add];simp[World.cell?,(hS W h.rel).1])))
  ·exact zAt rfl (zAG RelZ.refl rfl (zAL rfl (h.f 6) zAJ (by simp[World.cell?,(hS W h.rel).2.2.1])))
  ·exact zAt rfl (zAG RelZ.refl rfl (zAL rfl (h.f 7) zAM (by simp[World.cell?,(hS W h.rel).2.2.2])))
  ·exact zDq (.head _) hZ4 rfl rfl rfl (h.f 4) ⟨_,(hS W h.rel).1,rfl⟩ (fun hth=>zFs rfl (h.f 4) (h.d 0 21) (zA3 (n:=10) zAW) rfl hth)
  ·exact zDq (.tail _ (.head _)) hZ5 rfl rfl rfl (h.f 5) ⟨_,(hS W h.rel).2.1,rfl⟩ (fun hth=>zEl rfl (h.f 5) rfl (zAC zAJ) rfl hth)
  ·exact zDq (.tail _ (.tail _ (.head _))) hZ6 rfl rfl rfl (h.f 6) ⟨_,(hS W h.rel).2.2.1,rfl⟩ (fun hth=>zEl rfl (h.f 6) (h.d 1 22) (zAC zAJ) rfl hth)
 case en =>
  intro vals W1 hrel hv hlk;have v0:vals 0=zAa {kind:=0} nilS:=hv 0 (by omega)
  have v1:vals 1=.int .i64 p:=hv 1 (by omega)
  have v2:vals 2=.int .i64 x:=hv 2 (by omega)
  have H2:=H.relZ3 hrel (hv 3 (by omega)).2 (hv 4 (by omega)).2 (hv 5 (by omega)).2
  simp only[fa,Nat.reduceAdd];rw[v0,v1,v2];clear hv v0 v1 v2 hlk hrel H hS;have H:=H2;clear H2;simp only[pl];refine zAK rfl 32 _ _ rfl (b:=b7) (k:=0) rfl (v:=.int .i64 x) rfl H (i:=3) i_3 rfl (show 0<1 from Nat.one_pos) (zAC zAM) ?_
  clear H;intro w H
  go_wp2_with fail
  refine bodyPost_ret (zDm Tryd.results6 rfl rfl rfl rfl zAW zAJ zAJ zAM H (i:=0) .zero rfl ((H.cell (i:=1) i_1 0).trans rfl) ((H.cell (i:=2) i_2 0).trans rfl) ((H.cell (i:=3) i_3 0).trans rfl)) rfl ?_
  exact⟨ParseOut.no E2.out,H.below⟩
theorem zKv {s s':StP} {d:WordD} (h:zBx s d=.ok s'):s'.last=s.last:=by
 cases ho:s.op with
 | nil=>simp[zBx,ho]at h
 | cons l r =>
  unfold zBx at h;rw[ho]at h;simp only at h
  repeat' split at h
  all_goals first
   | (cases h;rfl)
   | cases h
def noKn:Res→Bool|.kn _ _=>false|.mp _ _ _=>false|_=>true
theorem zEy {R:List Res} (h:R.all noKn=true):R.all zBs=true:=by
 rw[List.all_eq_true]at h ⊢;intro r hr;have:=h r hr
 cases r<;>first|rfl|cases this
theorem zGl (ls:List LevM):(zDT ls).all noKn=true:=by
 rw[List.all_eq_true];intro r hr;simp only[zDT,List.mem_flatMap,List.mem_cons,List.not_mem_nil,or_false]at hr;obtain⟨l,_,rfl|rfl⟩:=hr<;>rfl
section
variable {w0 W W':World} {xb pb:Nat} {p0:Option Addr} {c:Nat} {ws:List WordD} {R:List Res} {f:zAU}
theorem zNM (hR:R.all noKn=true) {i last:Nat} {x:PX} (h:∀ b,x.F b→CellsAt W b):FootCells W (jL xb pb p0 c ws R i last x):=by
 intro r hr F S e b hb;subst e;simp only[jL,psL,List.cons_append,List.mem_cons,List.mem_append,reduceCtorEq,false_or]at hr;rcases hr with hr|hr|hr
 ·cases hr;exact h b hb
 ·have:=List.all_eq_true.1 (zGl x.ls) _ hr;cases this
 ·have:=List.all_eq_true.1 hR _ hr;cases this
theorem zIq (hR:R.all noKn=true) {i last:Nat} {x:PX} {B:Nat} (hB:w0.heap.size≤B) {row:Option Nat} (h:∀ b,x.F b→CellsAt W b) (H:HoldG (fun _=>False) w0 W (jL xb pb p0 c ws R i last x)) (hg:W.grownBy W' row) (hr:∀ r,row=some r→B≤r∧∃ o:Obj,W.heap[r]?=some o∧o.isCells=false) :
  (∀ b,x.F b→CellsAt W' b)∧HoldG (fun _=>False) w0 W' (jL xb pb p0 c ws R i last x):=by
 have h1:=H.stayC (zFc (zEy hR) i last x) (zNM hR h) hB hg hr;exact⟨fun b hb=>h1.2 (knL x.F x.zs) (by simp[jL,psL]) _ _ rfl b hb,h1.1⟩
theorem Jw.stay (hR:R.all noKn=true) {B:Nat} (hB:w0.heap.size≤B) (i:Nat):Stay B (Jw w0 xb pb p0 c ws R f i):=fun W W' row ⟨x,a1,a2,a3,a4,H⟩ hg hr =>
 let h:=zIq hR hB (fun b hb=>(a4 b hb).1) H hg hr
 ⟨x,a1,a2,a3,fun b hb=>⟨h.1 b hb,(a4 b hb).2⟩,h.2⟩
theorem Jy.stay (hR:R.all noKn=true) {B:Nat} (hB:w0.heap.size≤B) (i:Nat) (d:WordD):Stay B (Jy w0 xb pb p0 c ws R f i d):=fun W W' row ⟨e,x,a1,a2,a3,a4,H⟩ hg hr =>
 let h:=zIq hR hB (fun b hb=>(a4 b hb).1) H hg hr
 ⟨e,x,a1,a2,a3,fun b hb=>⟨h.1 b hb,(a4 b hb).2⟩,h.2⟩
theorem Jq.stay (hR:R.all noKn=true) {B:Nat} (hB:w0.heap.size≤B) (i:Nat) (d:WordD):Stay B (Jq w0 xb pb p0 c ws R f i d):=fun W W' row ⟨e,x,a1,a2,a3,a4,H⟩ hg hr =>
 let h:=zIq hR hB (fun b hb=>(a4 b hb).1) H hg hr
 ⟨e,x,a1,a2,a3,fun b hb=>⟨h.1 b hb,(a4 b hb).2⟩,h.2⟩
theorem zKc {α:Type} (x1 x2:α) (P R:List α):(x1::x2::(P++R)).Perm (P++(x1::x2::R)):=by
 have h:=(List.perm_append_comm (l₁:=[x1,x2]) (l₂:=P)).append_right R
 simpa using h
theorem zKC (hR:R.all noKn=true) {i:Nat} {d:WordD} (hfine:zBV d) (hset:zAs d.set) (hn:ws.length≤1000) (B:Nat) (hJ:Jy w0 xb pb p0 c ws R f i d W) :
  Calls Tryd.prog 20 #[.pointer (some ⟨pb,0,none⟩),zAk d] W fun e W'=>KeepsNC B W W'∧((e=.returned (.tuple #[])∧Jq w0 xb pb p0 c ws R f i d W')∨∃ a,e=.panicked (zCw a 4)∧zCG (zCe f) ws=.error a∧HoldG (fun _=>False) w0 W' R):=by
 obtain⟨hd,x,a1,a2,a3,a4,H⟩:=hJ;have hi:i<ws.length:=(List.getElem?_eq_some_iff.1 hd).1;have htk:ws.take (i+1)=ws.take i++[d]:=zEv hd;have hall:ws=ws.take (i+1)++ws.drop (i+1):=(List.take_append_drop ..).symm;have hstep:zCG (zCe f) (ws.take (i+1))=match zBx x.s d with|.error a=>.error a|.ok s2=>.ok {s2 with last:=d.kind}:=by
  rw[htk,zE6,a1]<;>(cases hwm:zBx x.s d<;>simp only[hwm])
 have htop:zNA x.s:=by
  by_cases h0:i=0
  ·subst h0;have:zCG (zCe f) []=.ok x.s:=a1;simp only[zCG,Except.ok.injEq]at this;rw[← this];exact zIw f
  ·obtain⟨k,rfl⟩:∃ k,i=k+1:=⟨i - 1,by omega⟩
   obtain⟨d0,hd0⟩:∃ d0,ws[k]?=some d0:=⟨ws[k],by simp[show k<ws.length by omega]⟩
   rw[zEv hd0,zE6]at a1
   cases hm:zCG (zCe f) (ws.take k) with
   | error a=>rw[hm]at a1;cases a1
   | ok s' =>
    rw[hm]at a1
    cases hw:zBx s' d0 with
    | error a=>simp only[hw]at a1;cases a1
    | ok s2=>simp only[hw,Except.ok.injEq]at a1;rw[← a1];exact zJ1 hw
 have hp:(jL xb pb p0 c ws R (i+1) x.s.last x).Perm (psL pb x.p (ws.length - (i+1)) (c - (i+1)) x.s.last x.s.fl x.s.groups x.oq x.oc x.ls x.F x.zs++(.blk xb #[ptrV pb] 85::.row (.slice p0 ws.length c) 65 17 ws.length (zAc (ws.map zAg))::R)):=zKc _ _ _ _;have H1:=H.perms hp;refine(zNp d hfine hset x.s x.oq x.oc x.ls i a2.op a2.ne a2.ok a2.gr (by omega) htop H1.left).mono fun e W' h=>?_
 unfold zDH at h
 cases hw:zBx x.s d with
 | error a =>
  rw[hw]at h hstep;obtain⟨rfl,hb⟩:=h;refine⟨KeepsNC.of_below hb,.inr ⟨a,rfl,?_,?_⟩⟩
  ·rw[hall];exact zJ4 hstep
  ·have H2:=H.call hb;have hp2:(jL xb pb p0 c ws R (i+1) x.s.last x).Perm (R++(.blk xb #[ptrV pb] 85::.row (.slice p0 ws.length c) 65 17 ws.length (zAc (ws.map zAg))::psL pb x.p (ws.length - (i+1)) (c - (i+1)) x.s.last x.s.fl x.s.groups x.oq x.oc x.ls x.F x.zs)):=by
    unfold jL;exact List.perm_append_comm (l₁:=_::_::psL ..) (l₂:=R)
   exact(H2.perms hp2).left
 | ok s' =>
  rw[hw]at h hstep;obtain⟨rfl,oq,oc,ls,F,zs,b1,b2,b3,b4,T⟩:=h;have T2:=T.frame H1
  have hk:=KeepsNC.of_rest (W':=W') B H1 (by
   have h1:=zFc (xb:=xb) (pb:=pb) (p0:=p0) (c:=c) (ws:=ws) (zEy hR) (i+1) x.s.last x;rw[List.all_eq_true]at h1 ⊢
   exact fun r hr=>h1 r (hp.symm.subset hr)) T2.rest
  have hl:s'.last=x.s.last:=zKv hw;refine⟨hk,.inl ⟨rfl,hd,⟨x.p,s',oq,oc,ls,fun b=>F b∧CellsAt W' b,zs⟩,hstep,⟨b1,b2,b3,b4⟩,a3,fun b hb=>⟨hb.2,?_⟩,?_⟩⟩
  ·rcases T.foot (knL F zs) (by simp[psL]) b hb.1 with ⟨r,hr,hf⟩|h
   ·have hrl:r ∈ jL xb pb p0 c ws R (i+1) x.s.last x:=hp.symm.subset (List.mem_append_left _ hr);obtain⟨k,hk⟩:=List.getElem?_of_mem hrl;have hA:=H.all k r hk
    cases r with
    | kn F2 S2 =>
     simp only[psL,List.mem_cons,reduceCtorEq,false_or,Res.kn.injEq]at hr;rcases hr with ⟨rfl,_⟩|hr
     ·exact(a4 b hf).2
     ·have:=List.all_eq_true.1 (zGl x.ls) _ hr;cases this
    | blk b' cs T'=>exact(hA.lt b hf).1.resolve_right (fun h=>h)
    | row v e sz n xs=>exact(hA.lt b hf).1.resolve_right (fun h=>h)
    | mp b' es c'=>exact(hA.lt b hf).1.resolve_right (fun h=>h)
   ·exact Nat.le_trans H.keep.size h
  have H3:=T2.hold.recell (i:=2) i_2
  show HoldG (fun _=>False) w0 W' (jL xb pb p0 c ws R (i+1) s'.last ⟨x.p,s',oq,oc,ls,fun b=>F b∧CellsAt W' b,zs⟩)
  rw[hl];have H4:HoldG (fun _=>False) w0 W' (psL pb x.p (ws.length - (i+1)) (c - (i+1)) x.s.last s'.fl s'.groups oq oc ls (fun b=>F b∧CellsAt W' b) zs++(.blk xb #[ptrV pb] 85::.row (.slice p0 ws.length c) 65 17 ws.length (zAc (ws.map zAg))::R)):=H3
  exact H4.perms (zKc _ _ _ _).symm
end
end
end Go.Proofs.YtklcgfkdemifcaaDoor
