/-
  Laws of walks, and walks.
-/
import Derived.Test.YtalggmbdpmdcbaaGreatPt11
import Derived.LoopIn
import Derived.Test.YtalggmbdpmdcbaaGreatPt2
import Derived.Laws.CopyOwn
set_option linter.unusedVariables false
set_option linter.unusedSimpArgs false
set_option maxRecDepth 100000
set_option maxHeartbeats 16000000
namespace Go.Proofs.YtalggmbdpmdcbaaGreat
section
open Go.RowKit Go.Shelf
attribute [local go_sem] Oper.semAt_some
theorem HoldG.blkRowQ {M:Nat->Prop} {w0 W:World} {l:List Res} (H:HoldG M w0 W l) {i b sz n:Nat} {cs:Array Value} {T:TypeId} (hi:At l i (.blk b cs T)) (hM:¬ M b) (hs:cs.size=n * sz) (hn:n<=maxLen):HoldG M w0 W (l.set i (.row (.slice (some ⟨b,0,none⟩) n n) T sz n cs.toList)):=by
 have hb:=H.blk hi;refine H.upd hi.get ⟨rfl,rfl,rfl,Nat.le_refl _,fun _ _ _=>rfl⟩ ⟨by simp[hs],.inr ⟨b,n,cs,rfl,hb.1.resolve_right hM,hb.2,Nat.le_refl _,hn,by simp[hs],?_⟩⟩ (fun _ e=>.inl e)
 rw[List.take_of_length_le (by simp[hs])]
theorem zG3 (xs:List TV):∀ u ∈ zAE (xs.map zAR),u.oneCell'=true:=by
 intro u hu;simp only[zAE,List.map_map,List.mem_flatten,List.mem_map]at hu;obtain⟨l,⟨x,_,rfl⟩,hu⟩:=hu;have:(zAR x).toList.all (·.oneCell')=true:=rfl;exact List.all_eq_true.1 this u hu
theorem zOk (ts:List Tree):(zCN ts).length<=zAD ts:=by
 have h:=zCa ts;have h2:=zCa (zCN ts);omega
theorem zMK (ts:List Tree) (j:Nat):(zCN (ts.take j)).length<=(zCN ts).length:=by
 have e:zCN ts=zCN (ts.take j)++zCN (ts.drop j):=by rw[← zJ5,List.take_append_drop]
 rw[e,List.length_append];omega
theorem zJX (t:Tree) (p:Option Addr) (c:Nat) (F:Nat->Prop) (w0:World) (hm:zAC t<=1000000000) (hF:∀ b,F b->b<w0.heap.size) (h:ForestR w0 F p c t.kids) (xb:Nat) (C:Nat->List Res) (Cx:Nat->Code->List Res) (hC:∀ v,(C v).all zBd=true) (l:Nat) (B:Option Code->World->Prop) (base:Nat) (hB:∀ j W W',KeepsNC base W W'->B j W->B j W')
  (hY:∀ (v:Nat) (x:TV) (d:Nat) (E:List Res) W1,(zDW t)[v]?=some (x.1,d)->x.1.kids.length<=x.2.2->E.all zBd=true->Hold w0 W1 (C v++E)->B none W1->YieldAt Fence.wide 7 Tryz.prog l #[zAQ x.1.d (.slice x.2.1 x.1.kids.length x.2.2),.int .i64 d] W1 fun e W'=>∃ b,e=.returned (.bool b)/\∃ j:Option Code,b=j.isNone/\Hold w0 W' ((match j with|none=>C (v+1)|some k=>Cx v k)++E)/\B j W')
  (W:World) (h0:Hold w0 W (.blk xb (zAO t.d (.slice p t.kids.length c)) 28::C 0)) (hB0:B none W) :
  CallsIn Fence.wide 8 Tryz.prog 98 #[.func (.yield l) #[] #[],.pointer (some ⟨xb,0,none⟩)] W fun e W'=>∃ v j,e=.returned v/\B j W'/\match j with|none=>Hold w0 W' (C (zAC t))|some k=>∃ v,v<zAC t/\Hold w0 W' (Cx v k):=by
 obtain⟨i0,hi0,hz0,hz1,hz2⟩:=info_parts zB1;refine callsIn_of_wp Tryz.func98 rfl trivial ?_ rfl;simp only[Tryz.ntmps98,List.size_toArray,List.length_cons,List.length_nil,Nat.reduceAdd,Nat.reduceSub,Array.replicate_succ,Array.replicate_zero,List.push_toArray,List.append_toArray,List.nil_append,List.cons_append];have H:=h0;clear h0;have hKN:=Lib.hid fun V=>KeepsNC.of_plain (W':=V) base H (by simp[zBd,hC])
 have H1:=H.framed;obtain⟨rS,hrS⟩:∃ rS,zDG W (.blk xb (zAO t.d (.slice p t.kids.length c)) 28::C 0)=rS:=⟨_,rfl⟩;obtain⟨rF,hrF⟩:∃ rF,zCz W (.blk xb (zAO t.d (.slice p t.kids.length c)) 28::C 0)=rF:=⟨_,rfl⟩;rw[hrS]at H1 hKN;rw[hrF]at H1;clear hrS hrF H;have H:=H1.perms (show List.Perm _ (.kn rF rS::.blk xb (zAO t.d (.slice p t.kids.length c)) 28::C 0) from List.perm_append_comm)
 clear H1;have HY:=Lib.hid hY;clear hY;have HB:=Lib.hid hB;clear hB;have HC:=Lib.hid hC;clear hC;have HT:=Lib.hid (And.intro h (And.intro hF hm));clear h hF hm;refine zMf (wpIn_seq ?_);rw[wpIn_wide]
 go_wp2_with (first|((with_reducible refine kg 2 ?_);(first|refine kA 2 H ?_|refine kS 2 H ?_|refine kB 2 H ?_);clear H;intro b2 w H;try simp only[nr]at H)|((with_reducible refine gL ?_);refine aD H ?_)|((with_reducible refine gBS ?_);refine zAY wtd_ _ _ _ rfl H (zAO (t.d) (.slice p t.kids.length c)) 28 (by intro W;simp only[ml];(try simp only[pe]);exact zBQ _ _ W) ?_;clear H;intro bk w H;try simp only[nr]at H))
 have H1:=H.perms (show List.Perm _ (.blk bk (zAO t.d (.slice p t.kids.length c)) 28::.kn rF rS::.blk xb (zAO t.d (.slice p t.kids.length c)) 28::C 0) from List.perm_append_comm (l₁:=[_,_]++C 0) (l₂:=[_]))
 clear H;have H2:=H1.blkRowQ (i:=0) (sz:=10) (n:=1) .zero id rfl (by decide)
 clear H1;have H:=H2;clear H2;simp only[sc]at H;have hB2:=HB.out none W w (hKN.out w (H.kn (i:=1) i_1)) hB0;clear hB0 hKN;have H2:Hold w0 w (.row (.slice (some ⟨bk,0,none⟩) 1 1) 28 10 1 (zAO t.d (.slice p t.kids.length c)).toList::C 0):=by
  refine HoldG.left (R:=[.kn rF rS,.blk xb (zAO t.d (.slice p t.kids.length c)) 28]) (H.perms ?_);exact List.Perm.cons _ (show List.Perm ([_,_]++C 0) (C 0++[_,_]) from List.perm_append_comm)
 clear H;refine wpIn_seq (wpIn_label ?_);refine wpIn_seq ?_
 rw[wpIn_wide]
 go_wp2_with fail
 refine wpIn_block ?_
 gi_loopw [3,4] (fun v dd wr=>∃ (xs:List TV) (dp:Nat) (pre:List (Tree × Nat)),dd=.int .i64 dp/\Hid (zDW t=pre++bfs (zBY (xs.map (·.1))) dp (xs.map (·.1))/\pre.length+zAD (xs.map (·.1))=zAC t/\dp+zBY (xs.map (·.1))=zDk t+1/\ListR w0 F xs/\B none wr)/\Hold w0 wr (.row v 28 10 xs.length (zAE (xs.map zAR))::C pre.length)) (fun _ dd _=>zDk t+2 - (intOf dd).toNat)
 case atStart =>
  refine⟨[(t,p,c)],1,[],rfl,Lib.hid ⟨?_,?_,?_,ListR.one HT.out.1,hB2⟩,H2⟩
  ·simp only[List.nil_append,List.map_cons,List.map_nil,zEs];rfl
  ·simp[zAD]
  ·simp[zBY];omega
 case round =>
  clear H2 hB2;obtain⟨xs,dp,pre,rfl,G,H⟩:=hrel;obtain⟨q,cap,rfl,hc1,hc2,hq⟩:=H.rowShape (i:=0) .zero
  by_cases hx0:0<xs.length
  ·have d0:decide ((xs.length:Int) > 0)=true:=by simp;omega
   obtain⟨g,rfl⟩:=hq hx0;clear hq;have hdp:dp<=1000000001:=by have:=G.out.2.2.1;have:=zGs t;have:=HT.out.2.2;omega
   refine wpIn_seq ?_
   rw[wpIn_wide]
   go_wp2_with (first|fail)
   refine wpIn_seq (wpIn_block (wpIn_seq ?_));rw[wpIn_wide]
   go_wp2_with fail
   refine wpIn_seq (wpIn_seq ?_);rw[wpIn_wide]
   go_wp2_with (first|fail)
   have H2:Hold w0 wr (.row (.slice none 0 0) 28 10 ([]:List TV).length (zAE (([]:List TV).map zAR))::.row (.slice (some ⟨g,0,none⟩) xs.length cap) 28 10 xs.length (zAE (xs.map zAR))::C pre.length) :=
    (H.addNil 28 10).perms (List.perm_append_comm (l₁:=_::C pre.length) (l₂:=[_]))
   clear H;refine wpIn_block ?_
   gi_loopw [5,17] (fun nv ix wr=>∃ (j:Nat) (ya:List TV),j<=xs.length/\ix=.int .i64 j/\Hid (ya.map (·.1)=zCN ((xs.map (·.1)).take j)/\ListR w0 F ya/\B none wr)/\Hold w0 wr (.row nv 28 10 ya.length (zAE (ya.map zAR))::.row (.slice (some ⟨g,0,none⟩) xs.length cap) 28 10 xs.length (zAE (xs.map zAR))::C (pre.length+j))) (fun _ ix _=>xs.length+1 - (intOf ix).toNat)
   case atStart=>exact⟨0,[],by omega,rfl,Lib.hid ⟨by simp[zCN],ListR.nil _ _,G.out.2.2.2.2⟩,H2⟩
   case round =>
    clear H2;rename_i wr0 _ _ _;obtain⟨j,ya,hj,rfl,E,H⟩:=hrel
    by_cases hlt:j<xs.length
    ·have dj:decide ((j:Int)<(xs.length:Int))=true:=by simp;omega
     obtain⟨x,hx⟩:∃ x,xs[j]?=some x:=⟨_,List.getElem?_eq_getElem hlt⟩;have hmem:=List.mem_of_getElem? hx;have hxn:(xs.map zAR)[j]?=some (zAR x):=by rw[List.getElem?_map,hx];rfl
     have hks:=zL7 (ts:=xs.map (·.1)) (j:=j) (t:=x.1) (by rw[List.getElem?_map,hx];rfl)
     have hvis:(zDW t)[pre.length+j]?=some (x.1,dp):=by
      rw[G.out.1,List.getElem?_append_right (by omega),Nat.add_sub_cancel_left]
      rw[zCb (xs.map (·.1)) (fun h=>by have:=congrArg List.length h;rw[List.length_map,List.length_nil]at this;omega)]
      simp only[bfs];rw[List.getElem?_append_left (by simp;omega),List.getElem?_map,List.getElem?_map,hx];rfl
     obtain⟨ys,hy1,hy2,hy3⟩:=(G.out.2.2.2.1 x hmem).open;have hyk:x.1.kids.length=ys.length:=by rw[hy3,List.length_map]
     have hyc:x.1.kids.length<=x.2.2:=by
      obtain⟨_,_,e,k1,_⟩:=id hy1;simp only[Value.slice.injEq]at e;rw[List.length_map]at k1;rw[hyk,e.2.2];exact k1
     have E2:=Lib.hid (show (ya++ys).map (·.1)=zCN ((xs.map (·.1)).take (j+1)) by rw[hks,List.map_append,E.out.1,hy3])
     have hyy:ya.length+ys.length<=1000000000:=by
      have h1:=zMK (xs.map (·.1)) (j+1);have h2:=zOk (xs.map (·.1));have h3:(ya++ys).length=(zCN ((xs.map (·.1)).take (j+1))).length:=by rw[← E2.out,List.length_map]
      rw[List.length_append]at h3;have:=G.out.2.1;have:=HT.out.2.2;omega
     have RDF:=Lib.hid (show ∀ V,Below w0.heap.size w0 V->RdN 10 V F (.slice x.2.1 ys.length x.2.2) (ys.map zAR) from fun V hV=>hy1.kept (fun b hb=>hV.block b (HT.out.2.1 b hb)))
     have HYS:=Lib.hid (ListR.append E.out.2.1 hy2);have HXN:=Lib.hid hxn;have HXL:=Lib.hid (show (xs.map zAR).length=xs.length from List.length_map ..)
     have HV:=Lib.hid hvis;have HYK:=Lib.hid hyk;have HYC:=Lib.hid hyc;clear hmem hxn hks hvis hy1 hy2 hy3 hyk hyc hx;have hKN:=Lib.hid fun V=>KeepsNC.of_plain (W':=V) base H (by simp[zBd,HC.out])
     have H1:=H.framed;obtain⟨rS1,hrS⟩:∃ rS,zDG wr (.row u5 28 10 ya.length (zAE (ya.map zAR))::.row (.slice (some ⟨g,0,none⟩) xs.length cap) 28 10 xs.length (zAE (xs.map zAR))::C (pre.length+j))=rS:=⟨_,rfl⟩;obtain⟨rF1,hrF⟩:∃ rF,zCz wr (.row u5 28 10 ya.length (zAE (ya.map zAR))::.row (.slice (some ⟨g,0,none⟩) xs.length cap) 28 10 xs.length (zAE (xs.map zAR))::C (pre.length+j))=rF:=⟨_,rfl⟩
     rw[hrS]at H1 hKN;rw[hrF]at H1;clear hrS hrF H;have H:=H1.perms (show List.Perm _ (.kn rF1 rS1::.row u5 28 10 ya.length (zAE (ya.map zAR))::.row (.slice (some ⟨g,0,none⟩) xs.length cap) 28 10 xs.length (zAE (xs.map zAR))::C (pre.length+j)) from List.perm_append_comm)
     clear H1;refine wpIn_seq ?_
     rw[wpIn_wide]
     go_wp2_with fail
     refine wpIn_seq ?_
     rw[wpIn_wide]
     go_wp2_with fail
     refine wpIn_seq (wpIn_block (wpIn_seq ?_));rw[wpIn_wide]
     go_wp2_with (first|((with_reducible refine gL ?_);refine zAM wtd_ _ _ rfl rfl zAK (zAW x) (H.rowCell (i:=2) i_2 (zBS _) HXL.out HXN.out rfl) ?_)|((with_reducible refine kgA 7 ?_);refine kA 7 H ?_;clear H;intro b7 w H;replace H:=H.perms List.perm_append_comm;simp only[ca]at H)|((with_reducible refine kg 7 ?_);(first|refine kA 7 H ?_|refine kS 7 H ?_|refine kB 7 H ?_);clear H;intro b7 w H;try simp only[nr]at H)|((with_reducible refine gT ?_);(refine aT H ?_;clear H;intro w H;try simp only[nr]at H)))
     have hB2:B none w:=HB.out none wr w (hKN.out w (H.kn (i:=1) i_1)) E.out.2.2
     have HA:Hold w0 w ((C (pre.length+j)++[.blk b7 (zAR x) 28,.row u5 28 10 ya.length (zAE (ya.map zAR)),.row (.slice (some ⟨g,0,none⟩) xs.length cap) 28 10 xs.length (zAE (xs.map zAR))])++[.kn rF1 rS1]):=H.perms (by
      refine List.Perm.trans (List.Perm.cons _ ((List.perm_append_comm (l₁:=[_]) (l₂:=_::_::C (pre.length+j))))) ?_
      rw[← List.cons_append]
      exact List.Perm.append_right _ (List.perm_append_comm (l₁:=[.blk b7 (zAR x) 28,.row u5 28 10 ya.length (zAE (ya.map zAR)),.row (.slice (some ⟨g,0,none⟩) xs.length cap) 28 10 xs.length (zAE (xs.map zAR))]) (l₂:=C (pre.length+j))))
     have hY2:=HY.out (pre.length+j) x dp [.blk b7 (zAR x) 28,.row u5 28 10 ya.length (zAE (ya.map zAR)),.row (.slice (some ⟨g,0,none⟩) xs.length cap) 28 10 xs.length (zAE (xs.map zAR))] w HV.out HYC.out (by simp[zBd]) (HoldG.left HA) hB2
     clear HA hB2;refine wpIn_seq (wpIn_seq (wpIn_region_lit ?_));refine zGn (by rintro⟨_,_,⟨_,h⟩,_⟩;cases h) [_,_,_] [_,_] _ _ ?_
     go_wp2_with (first|((with_reducible refine gL ?_);refine zAM wtd_ _ _ rfl rfl zAK (zAW x) (fun k _=>by rw[Nat.zero_add];exact H.cell (i:=0) .zero k) ?_)|((with_reducible refine kg 7 ?_);(first|refine kA 7 H ?_|refine kS 7 H ?_|refine kB 7 H ?_);clear H;intro b7 w H;try simp only[nr]at H)|fail)
     refine zNv rfl rfl rfl rfl rfl hY2 ?_
     clear hY2 hKN H;rintro b W' ⟨jj,rfl,H3,hB3⟩
     cases jj with
     | none =>
      have H4:=H3.perms (show List.Perm _ (.blk b7 (zAR x) 28::.row u5 28 10 ya.length (zAE (ya.map zAR))::.row (.slice (some ⟨g,0,none⟩) xs.length cap) 28 10 xs.length (zAE (xs.map zAR))::C (pre.length+j+1)) from List.perm_append_comm (l₁:=C (pre.length+j+1)) (l₂:=[_,_,_]))
      have hKN:=Lib.hid fun V=>KeepsNC.of_plain (W':=V) base H4 (by simp[zBd,HC.out])
      have H1:=H4.framed;obtain⟨rS2,hrS⟩:∃ rS,zDG W' (.blk b7 (zAR x) 28::.row u5 28 10 ya.length (zAE (ya.map zAR))::.row (.slice (some ⟨g,0,none⟩) xs.length cap) 28 10 xs.length (zAE (xs.map zAR))::C (pre.length+j+1))=rS:=⟨_,rfl⟩;obtain⟨rF2,hrF⟩:∃ rF,zCz W' (.blk b7 (zAR x) 28::.row u5 28 10 ya.length (zAE (ya.map zAR))::.row (.slice (some ⟨g,0,none⟩) xs.length cap) 28 10 xs.length (zAE (xs.map zAR))::C (pre.length+j+1))=rF:=⟨_,rfl⟩
      rw[hrS]at H1 hKN;rw[hrF]at H1;clear hrS hrF H3 H4;have H:=H1.perms (show List.Perm _ (.kn rF2 rS2::.blk b7 (zAR x) 28::.row u5 28 10 ya.length (zAE (ya.map zAR))::.row (.slice (some ⟨g,0,none⟩) xs.length cap) 28 10 xs.length (zAE (xs.map zAR))::C (pre.length+j+1)) from List.perm_append_comm)
      clear H1;refine zGn (by rintro⟨_,_,⟨_,h⟩,_⟩;cases h) [_] [] _ _ ?_
      go_wp2_with fail
      refine(show Code.wpIn Fence.wide 8 _ _ _ _ _ from ?_)
      rw[wpIn_wide]
      go_wp2_with fail
      rw[wpIn_wide]
      go_wp2_with (first|(at_builtin;refine zBA rfl _ _ 26 rfl H (i:=2) evd_ (by rw[← HYK.out];rfl) i_2 (RDF.out _ H.below) (zBS _) Tryz.underlying26 hi0 hz0 hz1 hz2 rfl (by decide) (zG3 _) (by unfold maxLen;omega) (by omega) ?_;clear H;intro v2 w H;(try simp only[nr]at H);(obtain⟨q2,c2,rfl,_,_,_⟩:=H.rowShape (i:=2) i_2))|((with_reducible refine kg 7 ?_);(first|refine kA 7 H ?_|refine kS 7 H ?_|refine kB 7 H ?_);clear H;intro b7 w H;try simp only[nr]at H)|((with_reducible refine gL ?_);refine aG H ?_))
      have hB4:B none w:=HB.out none W' w (hKN.out w (H.kn (i:=0) .zero)) hB3;have H2:Hold w0 w (.row (.slice q2 (ya.length+ys.length) c2) 28 10 (ya++ys).length (zAE ((ya++ys).map zAR))::.row (.slice (some ⟨g,0,none⟩) xs.length cap) 28 10 xs.length (zAE (xs.map zAR))::C (pre.length+(j+1))):=by
       rw[List.length_append,List.map_append,zAo];refine HoldG.left (R:=[.kn rF2 rS2,.blk b7 (zAR x) 28]) (H.perms ?_);exact List.perm_append_comm (l₁:=[_,_]) (l₂:=_::_::C (pre.length+j+1))
      clear hKN H;have hjm:j<=1000000000:=by
       have:=G.out.2.1;have:=zCa (xs.map (·.1));rw[List.length_map]at this;have:=HT.out.2.2;omega
      rw[wpIn_wide]
      go_wp2_with fail
      refine⟨⟨.slice q2 (ya.length+ys.length) c2,.pointer (some ⟨b7,0,none⟩),.int .i64 ((j:Int)+1),⟨j+1,by omega,rfl,ya++ys,Lib.hid ⟨E2.out,HYS.out,hB4⟩,H2⟩,?_⟩,?_⟩
      ·exact⟨_,_,_,_,_,_,_,_,_,_,_,_,_,rfl⟩
      ·show xs.length+1 - ((j:Int)+1).toNat<xs.length+1 - (j:Int).toNat
       omega
     | some kk =>
      refine zGn (by rintro⟨_,_,⟨_,h⟩,_⟩;cases h) [_] [] _ _ ?_
      go_wp2_with fail
      refine(show Code.wpIn Fence.wide 8 _ _ _ _ _ from ?_)
      rw[wpIn_wide]
      go_wp2_with fail
      refine⟨rfl,.tuple #[],(by first|rfl|simp[results,Tryz.results98,go_sem]),?_⟩
      have:=G.out.2.1;have:=zCa (xs.map (·.1));rw[List.length_map]at this;exact⟨⟨_,rfl⟩,some kk,hB3,pre.length+j,by omega,HoldG.left H3⟩
    ·have dj:decide ((j:Int)<(xs.length:Int))=false:=by simp;omega
     obtain rfl:j=xs.length:=by omega
     rw[wpIn_wide]
     go_wp2_with (first|fail)
     rw[wpIn_wide]
     go_wp2_with (first|fail)
     rw[wpIn_wide]
     go_wp2_with (first|fail)
     have e3:ya.map (·.1)=zCN (xs.map (·.1)):=by rw[E.out.1,List.take_of_length_le (by rw[List.length_map];exact Nat.le_refl _)]
     have e4:=zCb (xs.map (·.1)) (fun h=>by have:=congrArg List.length h;rw[List.length_map,List.length_nil]at this;omega)
     have e5:=zCa (xs.map (·.1));rw[List.length_map]at e5;obtain⟨g1,g2,g3,_,_⟩:=G.out;rw[e4]at g1 g3;have H2:Hold w0 wr (.row u5 28 10 ya.length (zAE (ya.map zAR))::C (pre++(xs.map (·.1)).map (fun t=>(t,dp))).length):=by
      have e6:(pre++(xs.map (·.1)).map (fun t=>(t,dp))).length=pre.length+xs.length:=by simp
      rw[e6];exact HoldG.left (R:=[_]) (H.perms (List.Perm.cons _ (List.perm_append_comm (l₁:=[_]) (l₂:=C (pre.length+xs.length)))))
     refine⟨⟨u5,.int .i64 ((dp:Int)+1),⟨ya,dp+1,rfl,pre++(xs.map (·.1)).map (fun t=>(t,dp)),Lib.hid ⟨?_,?_,?_,E.out.2.1,E.out.2.2⟩,H2⟩,?_⟩,?_⟩
     ·rw[g1,e3];simp only[bfs];rw[List.append_assoc]
     ·simp only[List.length_append,List.length_map];rw[e3];omega
     ·rw[e3];omega
     ·exact⟨_,_,_,_,_,_,_,_,_,_,_,_,_,_,_,_,_,_,_,_,_,_,_,_,rfl⟩
     ·show zDk t+2 - ((dp:Int)+1).toNat<zDk t+2 - (dp:Int).toNat
      omega
  ·have d0:decide ((xs.length:Int) > 0)=false:=decide_eq_false (by omega)
   obtain rfl:xs=[]:=List.length_eq_zero_iff.1 (by omega)
   rw[wpIn_wide]
   go_wp2_with (first|fail)
   have e1:pre.length=zAC t:=by have:=G.out.2.1;simp[zAD]at this;omega
   rw[e1]at H;refine⟨rfl,.tuple #[],(by first|rfl|simp[results,Tryz.results98,go_sem]),?_⟩
   refine⟨⟨_,rfl⟩,none,G.out.2.2.2.2,?_⟩
   exact HoldG.left (R:=[_]) (H.perms (List.perm_append_comm (l₁:=[_]) (l₂:=C (zAC t))))
theorem zFw {P:Program} {fn:Func} {p:Tmp} {T:TypeId} (hres:fn.results=#[.cell p T]) {tmps:Array Value} {w:World} {b:Nat} (h2:tmps.getD p undef=.pointer (some ⟨b,0,none⟩)) (t2:oneB P T=true) {v:Value} (c2:w.cell? ⟨b,0,none⟩=some v):(results fn tmps).run P w=.ok v w:=by
 have e2:tmps[p]?.getD undef=.pointer (some ⟨b,0,none⟩):=by simpa using h2
 simp[results,hres,e2,asAddr,zBr t2 c2]
abbrev SC (b:Nat) (v:Nat):List Res:=[.blk b #[.int .i64 v] 3]
abbrev noC:List Res:=[.blk 0 #[] 3,.blk 0 #[] 3]
theorem zPz {w0 W:World} (h:Hold w0 W noC):False:=by
 have:=h.apart 0 1 _ _ (by decide) rfl rfl
 exact this 0 rfl rfl
theorem zQv (t:Tree) (p:Option Addr) (c:Nat) (F:Nat->Prop) (w0:World) (hm:zAC t<=1000000000) (hF:∀ b,F b->b<w0.heap.size) (h:ForestR w0 F p c t.kids) :
  Calls Tryz.prog 148 #[zAQ t.d (.slice p t.kids.length c)] w0 (Rt (.int .i64 (zAC t)) w0):=by
 have H:=Hold.start w0;refine callsIn_wide.1 (zCe (n:=9) Tryz.func148 rfl ?_);simp only[Tryz.ntmps148,List.size_toArray,List.length_cons,List.length_nil,Nat.reduceAdd,Nat.reduceSub,Array.replicate_succ,Array.replicate_zero,List.push_toArray,List.append_toArray,List.nil_append,List.cons_append];refine zBv (zCO ?_)
 go_wp2_with (first|((with_reducible refine kg 1 ?_);(first|refine kA 1 H ?_|refine kS 1 H ?_|refine kB 1 H ?_);clear H;intro b1 w H;try simp only[nr]at H)|((with_reducible refine kg 2 ?_);(first|refine kA 2 H ?_|refine kS 2 H ?_|refine kB 2 H ?_);clear H;intro b2 w H;try simp only[nr]at H)|fail)
 refine zBv (zBv (zCO ?_))
 go_wp2_with (first|(go_at_call 42;refine(zJl t.d (.slice p t.kids.length c) _).mono ?_;rintro e w ⟨⟨xb,rfl,hx1,hx2⟩,hb⟩;obtain⟨xb',e1,H2⟩:=H.gainB hb (v:=.pointer (some ⟨xb,0,none⟩)) ⟨xb,rfl,hx1,hx2⟩;cases e1;clear H hb hx1 hx2;have H:=H2;clear H2;simp only[ca]at H)|((with_reducible refine gL ?_);refine aD H ?_))
 have hB:w0.heap.size<=w.heap.size:=H.keep.size;have hI:Hold w0 w (.blk xb (zAO t.d (.slice p t.kids.length c)) 28::SC b2 0):=H.pick [2,1] _ (by decide) rfl
 clear H
 refine zFk (zFS (σ:=Nat × List Res) (α:=TV × Nat) (n:=8) (gf:=98) (lb:=#[.pointer (some ⟨xb,0,none⟩)]) rfl (enters_of Tryz.func98 (by kernel_rfl) rfl) (encs:=fun x=>#[zAQ x.1.1.d (.slice x.1.2.1 x.1.1.kids.length x.1.2.2),.int .i64 x.2]) (fun _=>rfl)
  (fun W=>Hold w0 W (.blk xb (zAO t.d (.slice p t.kids.length c)) 28::SC b2 0)) (fun j W=>j=none/\Hold w0 W (SC b2 (zAC t))) (fun _ _=>False)
  (fun s x W=>(s.1<zAC t/\s.2.all zBd=true)/\Hold w0 W (SC b2 s.1++s.2)) (fun s x j W=>(j=none/\s.2.all zBd=true)/\Hold w0 W (SC b2 (s.1+1)++s.2)) (fun _ _ _ _=>False)
  (fun s x a1 W=>a1={tmps:=#[zAQ t.d (.slice p t.kids.length c),.pointer (some ⟨b1,0,none⟩),.pointer (some ⟨b2,0,none⟩),zAQ t.d (.slice p t.kids.length c),.func (.func 98) #[] #[.pointer (some ⟨xb,0,none⟩)],zAQ x.1.1.d (.slice x.1.2.1 x.1.1.kids.length x.1.2.2),.int .i64 x.2,undef,undef,undef],defers:=[]}/\(s.1<zAC t/\s.2.all zBd=true)/\Hold w0 W (SC b2 s.1++s.2))
  (fun W W' row hs hg hr=>hs.stayC (by rfl) hB hg hr) (fun j W W' row hs hg hr=>⟨hs.1,hs.2.stayC (by rfl) hB hg hr⟩) (fun s x j W W' row hs hg hr=>⟨hs.1,hs.2.stayC (by simp[zBd,hs.1.2]) hB hg hr⟩) (fun s x a1 W W' row hs hg hr=>⟨hs.1,hs.2.1,hs.2.2.stayC (by simp[zBd,hs.2.1.2]) hB hg hr⟩) ?iter hI ?assign ?body ?done ?pan)
 case iter =>
  intro l B K hBs hKs hBK hY W hI hBW;refine(zJX t p c F w0 hm hF h xb (SC b2) (fun _ _=>noC) (fun _=>rfl) l B w.heap.size hBs (fun v x d E W1 hv hk hE hW hB1=>?_) W hI hBW).mono (fun e W' hh=>?_)
  ·have hlt:v<zAC t:=by rw[← zFo];exact(List.getElem?_eq_some_iff.1 hv).1
   refine(hY (v,E) (x,d) W1 ⟨⟨hlt,hE⟩,hW⟩ hB1).mono (fun e W' h=>?_)
   rcases h with ⟨j,rfl,⟨⟨rfl,_⟩,hq⟩,hb⟩|⟨ch,_,h,_⟩
   ·exact⟨_,rfl,none,rfl,hq,hb⟩
   ·exact h.elim
  ·obtain⟨v,j,rfl,hb,hh⟩:=hh
   cases j with
   | none=>exact .inl ⟨v,none,rfl,⟨rfl,hh⟩,hb⟩
   | some k=>obtain⟨_,_,hh⟩:=hh;exact(zPz hh).elim
 case assign =>
  rintro l s x W hJ;simp only[List.zip_toArray,List.foldl_toArray,List.zip_cons_cons,List.zip_nil_right,List.zip_nil_left,List.foldl_cons,List.foldl_nil,List.setIfInBounds_toArray,List.set_cons_succ,List.set_cons_zero]
  gi_wp2
  refine⟨fun k o _ hk _=>hk,?_,hJ⟩
  first|trivial|rfl
 case body =>
  rintro l ⟨v,E⟩ x a1 W ⟨rfl,⟨h1,h2⟩,H⟩;have hv:v<=1000000000:=by have h1:v<zAC t:=h1;omega
  have hKN:=Lib.hid fun V=>KeepsNC.of_plain (W':=V) w.heap.size H (by simpa [zBd] using h2)
  have H1:=H.framed;obtain⟨rS,hrS⟩:∃ rS,zDG W (SC b2 v++E)=rS:=⟨_,rfl⟩;obtain⟨rF,hrF⟩:∃ rF,zCz W (SC b2 v++E)=rF:=⟨_,rfl⟩;simp only[]at H1;rw[hrS]at H1 hKN;rw[hrF]at H1;clear hrS hrF H;have H:=H1.perms (show List.Perm _ (.kn rF rS::.blk b2 #[.int .i64 v] 3::E) from List.perm_append_comm (l₁:=SC b2 v++E) (l₂:=[_]))
  clear H1;refine wpIn_block (wpIn_region_lit (zAq (by rintro⟨_,_,h⟩;exact h) _ _ _ rfl ?_))
  go_wp2_with (first|(first|((with_reducible refine gT ?_);(refine aO H ?_;clear H;intro w H;try simp only[nr]at H))|((with_reducible refine gL ?_);refine aG H ?_)))
  refine⟨hKN.out _ (H.kn (i:=0) .zero),rfl,?_⟩
  exact HoldG.left (R:=[_]) (H.perms (List.perm_append_comm (l₁:=[_]) (l₂:=SC b2 (v+1)++E)))
 case done =>
  rintro D j W hD ⟨rfl,H⟩ hK;have hKN:=Lib.hid fun V=>KeepsNC.of_plain (W':=V) w.heap.size H rfl
  have H1:=H.framed;obtain⟨rS,hrS⟩:∃ rS,zDG W (SC b2 (zAC t))=rS:=⟨_,rfl⟩;obtain⟨rF,hrF⟩:∃ rF,zCz W (SC b2 (zAC t))=rF:=⟨_,rfl⟩;rw[hrS]at H1 hKN;rw[hrF]at H1;clear hrS hrF H hI;have H:Hold w0 W [.blk b2 #[.int .i64 (zAC t)] 3,.kn rF rS]:=H1;clear H1;have hD2:w0.heap.size<=D:=Nat.le_trans hB hD;refine zBv (zCO ?_)
  go_wp2_with (first|(first|((with_reducible refine gT ?_);(refine aO H ?_;clear H;intro w H;try simp only[nr]at H))|((with_reducible refine gL ?_);refine aG H ?_)))
  refine zCO ?_
  go_wp2_with fail
  have hK3:=(hKN.out _ (H.kn (i:=1) i_1)).same _ _ hD hK rfl;refine⟨by simp,.inl ⟨D,_,rfl,run_takeDeferred hK3,?_⟩⟩
  have H3:Hold w0 _ (SC b2 (zAC t)):=H.pick [0] _ (by decide) rfl
  have H5:=Stay.putObj (Stay.plain rfl (Nat.le_refl _)) (.deferred none) H3 hD2 hK3 rfl;refine⟨_,zFw Tryz.results148 rfl zAI ((H5.cell (i:=0) .zero 0).trans rfl),rfl,H5.below⟩
 case pan=>exact fun D ch W _ h _=>h.elim
end
section
open Go.RowKit
theorem zOS {z:Array Value} {sz:Nat} (hz:z.size=sz) (h0:0<sz) (n:Nat):(madeCells z (n * sz)).toList=zAE (List.replicate n z):=by
 have hs:∀ r ∈ List.replicate n z,r.size=sz:=fun r hr=>by rw[List.eq_of_mem_replicate hr];exact hz
 apply List.ext_getElem?;intro i
 by_cases hi:i<n * sz
 ·have hd:i=i / sz * sz+i % sz:=by rw[Nat.mul_comm];exact(Nat.div_add_mod i sz).symm
  have hm:i % sz<sz:=Nat.mod_lt _ h0;have hq:i / sz<n:=Nat.div_lt_of_lt_mul (by rw[Nat.mul_comm];exact hi)
  have h1:=zCU hs (j:=i / sz) (r:=z) (k:=i % sz) (by rw[List.getElem?_replicate,if_pos hq]) hm
  rw[← hd]at h1;rw[h1];have hk:i % z.size<z.size:=by rw[hz];exact hm
  simp only[madeCells,Array.toList_map,List.getElem?_map,Array.getElem?_toList,Array.getElem?_range,if_pos hi,Option.map_some];rw[← hz,Array.getElem?_eq_getElem hk,getElem!_pos z _ hk]
 ·rw[List.getElem?_eq_none (by simp[size_madeCells];omega),List.getElem?_eq_none (by rw[zBN hs,List.length_replicate];omega)]
section
variable {P:Program} {ops:Array Oper} {rest:List Oper} {o:Oper} {a:Act} {w w0:World} {Q:Exit->Act->World->Prop} {l:List Res} {M:Nat->Prop}
theorem zN6 (hg:o.guard=none) (x c:Operand) (t:TypeId) (hop:o.op=Op.makeSlice t x c) (H:HoldG M w0 w l) {e:TypeId} {i:TypeInfo} {z:Value} {bytes sz:Nat}
  (h1:P.underlying t=some (.slice e)) (h2:P.info? e=some i) (h3:i.zero=some z) (h4:i.size=sz) (h5:i.bytes=bytes) (hz:z.cells.size=sz) (h0:0<sz) {n:Nat} (hl:a.eval x=.int .i64 n) (hc:a.eval c=.int .i64 n) (b2:bytes * n<=281474976710656) (b3:n<=maxLen)
  (h:∀ g w',HoldG M w0 w' (l++[.row (.slice (some ⟨g,0,none⟩) n n) e sz n (zAE (List.replicate n z.cells))])->wpList P ops Q rest (a.put o.dst (.slice (some ⟨g,0,none⟩) n n)) w'):wpList P ops Q (o::rest) a w:=by
 refine wpList_make_full w hg x c t hop w0.heap.size e i z sz h1 h2 h3 h4 .i64 .i64 n n n hl hc rfl rfl (by rw[h5];exact b2) b3 H.keep.size (fun w' r1 r2=>h w.heap.size w' ?_)
 rw[zOS hz h0]at r1;exact H.add r2 r1 (fun b e=>by cases e;exact Nat.le_refl _)
theorem zIP (w:World) (dT sT ty elem:TypeId) (g o dLen dCap:Nat) (a:Addr) (sLen sCap sz:Nat) (cur:Array Value) (t:TypeId) (cs:List Value)
  (hu:P.underlying dT=some (.slice elem)) (hs:(P.info? elem).map (·.size)=some sz)
  (hg:w.heap[g]?=some (.cells cur t (0,0))) (hn:cs.length=Nat.min sLen dLen * sz)
  (hsrc:∀ j v,cs[j]?=some v->w.cell? (a.add j)=some v) (hfit:o+cs.length<=cur.size) (h1:∀ v ∈ cs,v.oneCell'=true) :
  (Builtin.copy_ #[dT,sT] ty #[.slice (some ⟨g,o,none⟩) dLen dCap,.slice (some a) sLen sCap]).run P w =
   .ok (goInt (Nat.min sLen dLen)) (w.setRow g (cur.toList.take o++cs++cur.toList.drop (o+cs.length)).toArray):=by
 have hl:=run_loadCells_list (P:=P) w a cs hsrc;have hst:=run_storeCells_at P g o t cs 0 cur w hg (by simpa using hfit) h1
 rw[hn]at hl
 cases hq:P.info? elem with
 | none=>simp[hq]at hs
 | some i =>
  have hi:i.size=sz:=by simpa [hq] using hs
  simp[Builtin.copy_,run_underlying hu,Builtin.lenOf,Builtin.firstCells,sizeOf,typeInfo,hq,hi,hl,hst]
theorem zIb (W:World) (b:Nat) (cs:Array Value):W.grownBy (W.setRow b cs) (some b):=by
 refine⟨rfl,rfl,rfl,by simp[World.setRow],fun j hj hne=>setRow_other W b j cs (fun e=>hne (by rw[e]))⟩
theorem zFx {sz:Nat}:∀ {rows:List (Array Value)} (k:Nat),(∀ r ∈ rows,r.size=sz)->(zAE rows).take (k * sz)=zAE (rows.take k)
 | rows,0,_=>by simp[zAE]
 | [],k+1,_=>by simp[zAE]
 | r::rows,k+1,h=>by
  have ih:=zFx (rows:=rows) k (fun x hx=>h x (List.mem_cons_of_mem _ hx))
  have hr:=h r (List.mem_cons_self ..);rw[List.take_succ_cons];simp only[zAE,List.map_cons,List.flatten_cons]at ih ⊢;rw[Nat.succ_mul,Nat.add_comm,List.take_append,List.take_of_length_le (by simp;omega),← ih]
  congr 2;simp;omega
theorem zH2 {sz:Nat}:∀ {rows:List (Array Value)} (k:Nat),(∀ r ∈ rows,r.size=sz)->(zAE rows).drop (k * sz)=zAE (rows.drop k)
 | rows,0,_=>by simp[zAE]
 | [],k+1,_=>by simp[zAE]
 | r::rows,k+1,h=>by
  have ih:=zH2 (rows:=rows) k (fun x hx=>h x (List.mem_cons_of_mem _ hx))
  have hr:=h r (List.mem_cons_self ..);rw[List.drop_succ_cons];simp only[zAE,List.map_cons,List.flatten_cons]at ih ⊢;rw[Nat.succ_mul,Nat.add_comm,List.drop_append,List.drop_of_length_le (by simp;omega),List.nil_append,← ih]
  congr 1;simp;omega
theorem zKN (cur cs:List Value) (K m N C:Nat) (hC:cur.length=C) (hN:N<=C) (hK:K+m<=N) (hcs:cs.length=m):(cur.take K++cs++cur.drop (K+m)).take N=(cur.take N).take K++(cs++(cur.take N).drop (K+m)):=by
 rw[List.append_assoc,List.take_append,List.take_append,List.take_take,List.take_take,Nat.min_eq_right (by omega:K<=N),Nat.min_eq_left (by omega:K<=N),List.length_take,List.take_of_length_le (l:=cs) (by omega),List.drop_take]
 congr 3
 omega
theorem zHR (hgd:o.guard=none) (d s:Operand) (dT sT:TypeId)
  (ho:o.op=.call {callee:=.builtin .copy,args:=#[d,s],argTypes:=#[dT,sT]}) {e:TypeId} {sz:Nat} (hu:P.underlying dT=some (.slice e)) (hsz:(P.info? e).map (·.size)=some sz)
  {g k off dLen dCap sLen sCap m:Nat} {ad:Addr} (hd:a.eval d=.slice (some ⟨g,off,none⟩) dLen dCap) (hs:a.eval s=.slice (some ad) sLen sCap) (hoff:k * sz=off) (hm:Nat.min sLen dLen=m) (H:HoldG M w0 w l) {j n cap:Nat} {rows:List (Array Value)}
  (hi:At l j (.row (.slice (some ⟨g,0,none⟩) n cap) e sz n (zAE rows))) (hl:rows.length=n) (hrs:∀ r ∈ rows,r.size=sz) (cs:List (Array Value)) (hcs:∀ r ∈ cs,r.size=sz) (hn:cs.length=m) (hsrc:∀ q v,(zAE cs)[q]?=some v->w.cell? (ad.add q)=some v) (hfit:k+m<=n) (h1:∀ v ∈ zAE cs,v.oneCell'=true)
  (h:∀ w',HoldG M w0 w' (l.set j (.row (.slice (some ⟨g,0,none⟩) n cap) e sz n (zAE (rows.take k++(cs++rows.drop (k+m))))))->wpList P ops Q rest (a.put o.dst (goInt m)) w'):wpList P ops Q (o::rest) a w:=by
 subst hoff hm;have hlc:(zAE cs).length=Nat.min sLen dLen * sz:=by rw[zBN hcs,hn]
 have hlr:(zAE rows).length=n * sz:=by rw[zBN hrs,hl]
 obtain⟨hlen,⟨hv',_⟩|⟨g',cap',cur,hv',hb,hg',hn',hc,hsz',ht⟩⟩:=H.all j _ hi.get
 ·cases hv'
 ·cases hv'
  have hb1:(k+Nat.min sLen dLen) * sz<=n * sz:=Nat.mul_le_mul_right _ hfit;have hb2:n * sz<=cap * sz:=Nat.mul_le_mul_right _ hn';rw[Nat.add_mul]at hb1;have hrun:=zIP (P:=P) w dT sT o.type e g (k * sz) dLen dCap ad sLen sCap sz cur e (zAE cs) hu hsz hg' hlc hsrc (by rw[hlc,hsz'];omega) h1
  refine wpList_plain hgd fun K hK=>?_
  unfold Oper.wp;simp only[execOp,ho,resolve,invoke,builtin,hd,hs,List.map_toArray,List.map_cons,List.map_nil,Sem.run_bind,Sem.run_pure,Result.andThen_ok,hrun];refine hK _ _ (h _ (H.upd hi.get (zIb w g _) ⟨?_,.inr ⟨g,cap,_,rfl,hb,setRow_heap w g _ _ e _ hg',hn',hc,?_,?_⟩⟩ (fun _ e=>.inl e)))
  ·rw[zBN (fun r hr=>by
    rcases List.mem_append.1 hr with hr|hr
    ·exact hrs r (List.mem_of_mem_take hr)
    ·rcases List.mem_append.1 hr with hr|hr
     ·exact hcs r hr
     ·exact hrs r (List.mem_of_mem_drop hr))]
   congr 1;simp;omega
  ·simp only[List.size_toArray,List.length_append,List.length_take,List.length_drop,Array.length_toList,hlc,hsz'];omega
  ·rw[zAo,zAo,← zFx k hrs,← zH2 (k+Nat.min sLen dLen) hrs,← ht,Nat.add_mul];rw[hlc];exact zKN _ _ _ _ _ _ (by rw[Array.length_toList,hsz']) hb2 (by omega) hlc
end
theorem zD6 {M:Nat->Prop} {P:Program} {id n:Nat} {ops:Array Oper} {Q:Exit->Act->World->Prop} {a:Act} {w0 w:World} {l:List Res} (H:HoldG M w0 w l) (hm:P.follows .mixedOrders=true) (hn:ops.size=n)
  (h:∀ w',HoldG M w0 w' l->wpAny P .any ops Q n (Array.replicate n false) a w'):(Code.region id ops true).wp P Q a w:=by
 subst hn;exact wp_region_any hm (h _ H.drew)
section
variable {P:Program} {ops:Array Oper} {Q:Exit->Act->World->Prop} {fuel:Nat} {listed:Array Bool} {a:Act} {w:World}
theorem zK3 {K:Exit->Act->World->Prop} {o:Oper} (hg:o.guard=none) (h:wpList P #[] K [o] a w):wpList P ops K [o] a w:=by
 unfold wpList at h ⊢;simp only[Region.wanted,hg]at h ⊢;exact h
def AnyO (P:Program) (ops:Array Oper) (Q:Exit->Act->World->Prop) (fuel:Nat) (listed:Array Bool) (o:Oper) (a:Act) (w:World):Prop :=
 ∀ K:Exit->Act->World->Prop,Hid ((∀ a' w',wpAny P .any ops Q fuel listed a' w'->K .normal a' w')/\∀ c a' w',Q (.panic c) a' w'->K (.panic c) a' w')->wpList P #[] K [o] a w
theorem AnyO.use {o:Oper} (hg:o.guard=none) (h:AnyO P ops Q fuel listed o a w):wpList P ops (anyK P ops Q fuel listed) [o] a w:=zK3 hg (h _ (Lib.hid ⟨fun _ _ h=>h,fun _ _ _ h=>h⟩))
theorem zAr (i:Nat) {o:Oper} (hr:Region.ready .any ops listed=[i]) (ho:ops[i]?=some o) (go:o.guard=none) (h:AnyO P ops Q fuel (listed.setIfInBounds i true) o a w):wpAny P .any ops Q (fuel+1) listed a w:=zR1 i hr ho (h.use go)
theorem zBB (i j:Nat) {o p:Oper} (hr:Region.ready .any ops listed=[i,j]) (ho:ops[i]?=some o) (hp:ops[j]?=some p) (go:o.guard=none) (gp:p.guard=none) (h:AnyO P ops Q fuel (listed.setIfInBounds i true) o a w) (h2:AnyO P ops Q fuel (listed.setIfInBounds j true) p a w):wpAny P .any ops Q (fuel+1) listed a w:=zRw i j hr ho hp (h.use go) (h2.use gp)
theorem zEP (i j m:Nat) {o p q:Oper} (hr:Region.ready .any ops listed=[i,j,m]) (ho:ops[i]?=some o) (hp:ops[j]?=some p) (hq:ops[m]?=some q) (go:o.guard=none) (gp:p.guard=none) (gq:q.guard=none) (h:AnyO P ops Q fuel (listed.setIfInBounds i true) o a w) (h2:AnyO P ops Q fuel (listed.setIfInBounds j true) p a w) (h3:AnyO P ops Q fuel (listed.setIfInBounds m true) q a w):wpAny P .any ops Q (fuel+1) listed a w:=zR7 i j m hr ho hp hq (h.use go) (h2.use gp) (h3.use gq)
end
end
section
open Go.RowKit Go.Shelf
attribute [local go_sem] Oper.semAt_some
mutual
theorem zJH (m:Nat):∀ t:Tree,zAC t<=m->allT (fun u=>decide (zAC u<=m)) t=true
 | .mk d ks,h=>by
  have h2:=h;simp only[zAC]at h;simp only[allT,Bool.and_eq_true];exact⟨decide_eq_true h2,zIJ m ks (by omega)⟩
theorem zIJ (m:Nat):∀ ts:List Tree,zAD ts<=m->zEN (fun u=>decide (zAC u<=m)) ts=true
 | [],_=>rfl
 | t::r,h=>by
  simp only[zAD]at h;simp only[zEN,Bool.and_eq_true];exact⟨zJH m t (by omega),zIJ m r (by omega)⟩
end
theorem zMc (t u:Tree) (h:u ∈ (zDW t).map (·.1)):zAC u<=zAC t:=by
 have h1:=zHz (fun u=>decide (zAC u<=zAC t)) t
 rw[zJH _ t (Nat.le_refl _),List.all_eq_true]at h1;obtain⟨x,hx,rfl⟩:=List.mem_map.1 h;exact of_decide_eq_true (h1 x hx)
def okN (t:Tree) (v:Nat):Bool:=decide (v<=2000)&&((zDW t).take v).all (fun x=>zA7 x.1.d x.1.kids.length)
theorem zPr (t:Tree):okN t 0=true:=by simp[okN]
theorem zN9 (t:Tree):okN t (zAC t)=(zAi t&&decide ((zAC t:Int)<=2000)):=by
 unfold okN;rw[show (zDW t).take (zAC t)=zDW t from by rw[← zFo];exact List.take_length ..,zHz (fun t=>zA7 t.d t.kids.length),← zH8,Bool.and_comm]
 congr 1
 exact decide_eq_decide.2 (by omega)
theorem zPH {t:Tree} {v:Nat} {x:Tree × Nat} (h:(zDW t)[v]?=some x) (hv:okN t v=true):okN t (v+1)=(decide (v+1<=2000)&&zA7 x.1.d x.1.kids.length):=by
 unfold okN at hv ⊢;rw[zBc h,List.all_append];rw[Bool.and_eq_true]at hv;rw[hv.2];simp
theorem zRT {t:Tree} {v:Nat} (hv:v<zAC t) (h:okN t (v+1)=false):(zAi t&&decide ((zAC t:Int)<=2000))=false:=by
 rw[← zN9];unfold okN at h ⊢;rw[Bool.and_eq_false_iff]at h ⊢;rcases h with h|h
 ·left;rw[decide_eq_false_iff_not]at h ⊢;omega
 ·right;rw[List.all_eq_false]at h ⊢;obtain⟨x,hx,hn⟩:=h;refine⟨x,?_,hn⟩;obtain⟨i,hi⟩:=List.getElem?_of_mem hx;rw[List.getElem?_take]at hi;split at hi
  ·exact List.mem_of_getElem? (i:=i) (by rw[List.getElem?_take,if_pos (by omega)];exact hi)
  ·cases hi
abbrev RB (b2 b3:Nat) (v:Nat):List Res:=[.blk b2 #[.bool false] 4,.blk b3 #[.int .i64 v] 3]
def RC (t:Tree) (b2 b3:Nat) (v:Nat):List Res:=if okN t v=true then RB b2 b3 v else noC
def RX (t:Tree) (b2 b3:Nat) (v:Nat):Code->List Res
 | .ret=>if okN t (v+1)=false then RB b2 b3 (v+1) else noC
 | _=>noC
theorem zEi (t:Tree) (b2 b3 v:Nat):(RC t b2 b3 v).all zBd=true:=by unfold RC;split<;>rfl
theorem zLe (t:Tree) (b2 b3 v:Nat) (c:Code):(RX t b2 b3 v c).all zBd=true:=by unfold RX;split<;>(try split)<;>rfl
theorem zKi {w0 W:World} {E:List Res} (h:Hold w0 W (noC++E)):False:=zPz (HoldG.left h)
theorem zN7 {t:Tree} {b2 b3 v:Nat} {E:List Res} {w0 W:World} (h:Hold w0 W (RC t b2 b3 v++E)):okN t v=true/\Hold w0 W (RB b2 b3 v++E):=by
 unfold RC at h;split at h
 ·rename_i hv;exact⟨hv,h⟩
 ·exact(zKi h).elim
theorem zQb {t:Tree} {b2 b3 v:Nat} {k:Code} {E:List Res} {w0 W:World} (h:Hold w0 W (RX t b2 b3 v k++E)):k=.ret/\okN t (v+1)=false/\Hold w0 W (RB b2 b3 (v+1)++E):=by
 unfold RX at h;split at h
 ·split at h
  ·rename_i hv;exact⟨rfl,hv,h⟩
  ·exact(zKi h).elim
 ·exact(zKi h).elim
def RJ (t:Tree) (b2 b3 v:Nat):Option Code->List Res
 | none=>RC t b2 b3 (v+1)
 | some k=>RX t b2 b3 v k
theorem zO5 (t:Tree) (b2 b3 v:Nat) (j:Option Code):(RJ t b2 b3 v j).all zBd=true:=by
 cases j
 ·exact zEi ..
 ·exact zLe ..
def RS (t:Tree) (b2 b3:Nat) (w0 W:World):Option Code->Prop
 | none=>Hold w0 W (RC t b2 b3 (zAC t))
 | some k=>∃ v,v<zAC t/\Hold w0 W (RX t b2 b3 v k)
theorem zPn (t:Tree) (p:Option Addr) (c:Nat) (F:Nat->Prop) (w0:World) (hm:zAC t<=1000000000) (hF:∀ b,F b->b<w0.heap.size) (h:ForestR w0 F p c t.kids) :
  Calls Tryz.prog 34 #[zAQ t.d (.slice p t.kids.length c)] w0 fun e w'=>e=.returned (.bool (zAi t&&decide ((zAC t:Int)<=2000)))/\Below w0.heap.size w0 w':=by
 have H:=Hold.start w0;refine callsIn_wide.1 (zCe (n:=9) Tryz.func34 rfl ?_);simp only[Tryz.ntmps34,List.size_toArray,List.length_cons,List.length_nil,Nat.reduceAdd,Nat.reduceSub,Array.replicate_succ,Array.replicate_zero,List.push_toArray,List.append_toArray,List.nil_append,List.cons_append];refine zBv (zCO ?_)
 go_wp2_with (first|((with_reducible refine kg 1 ?_);(first|refine kA 1 H ?_|refine kS 1 H ?_|refine kB 1 H ?_);clear H;intro b1 w H;try simp only[nr]at H)|((with_reducible refine kg 2 ?_);(first|refine kA 2 H ?_|refine kS 2 H ?_|refine kB 2 H ?_);clear H;intro b2 w H;try simp only[nr]at H)|fail)
 refine zBv (zCO ?_)
 go_wp2_with (first|((with_reducible refine kg 3 ?_);(first|refine kA 3 H ?_|refine kS 3 H ?_|refine kB 3 H ?_);clear H;intro b3 w H;try simp only[nr]at H)|((with_reducible refine gT ?_);(refine aO H ?_;clear H;intro w H;try simp only[nr]at H)))
 refine zBv (zBv (zCO ?_))
 go_wp2_with (first|(go_at_call 42;refine(zJl t.d (.slice p t.kids.length c) _).mono ?_;rintro e w ⟨⟨xb,rfl,hx1,hx2⟩,hb⟩;obtain⟨xb',e1,H2⟩:=H.gainB hb (v:=.pointer (some ⟨xb,0,none⟩)) ⟨xb,rfl,hx1,hx2⟩;cases e1;clear H hb hx1 hx2;have H:=H2;clear H2;simp only[ca]at H)|((with_reducible refine gL ?_);refine aD H ?_))
 have hB:w0.heap.size<=w.heap.size:=H.keep.size;have hI:Hold w0 w (.blk xb (zAO t.d (.slice p t.kids.length c)) 28::RC t b2 b3 0):=by
  unfold RC;rw[if_pos (zPr t)];exact H.pick [3,1,2] _ (by decide) rfl
 clear H
 refine zFk (zFS (σ:=Nat × List Res) (α:=TV × Nat) (n:=8) (gf:=98) (lb:=#[.pointer (some ⟨xb,0,none⟩)]) rfl (enters_of Tryz.func98 (by kernel_rfl) rfl) (encs:=fun x=>#[zAQ x.1.1.d (.slice x.1.2.1 x.1.1.kids.length x.1.2.2),.int .i64 x.2]) (fun _=>rfl)
  (fun W=>Hold w0 W (.blk xb (zAO t.d (.slice p t.kids.length c)) 28::RC t b2 b3 0)) (fun j W=>RS t b2 b3 w0 W j) (fun _ _=>False)
  (fun s x W=>((zDW t)[s.1]?=some (x.1.1,x.2)/\x.1.1.kids.length<=x.1.2.2/\s.2.all zBd=true)/\Hold w0 W (RC t b2 b3 s.1++s.2)) (fun s x j W=>s.2.all zBd=true/\Hold w0 W (RJ t b2 b3 s.1 j++s.2)) (fun _ _ _ _=>False)
  (fun s x a1 W=>∃ b4,a1={tmps:=#[zAQ t.d (.slice p t.kids.length c),.pointer (some ⟨b1,0,none⟩),.pointer (some ⟨b2,0,none⟩),.pointer (some ⟨b3,0,none⟩),.pointer (some ⟨b4,0,none⟩),zAQ t.d (.slice p t.kids.length c),.func (.func 98) #[] #[.pointer (some ⟨xb,0,none⟩)],zAQ x.1.1.d (.slice x.1.2.1 x.1.1.kids.length x.1.2.2),.int .i64 x.2,undef,undef,undef,undef,undef,undef,undef,undef,undef],defers:=[]}/\((zDW t)[s.1]?=some (x.1.1,x.2)/\x.1.1.kids.length<=x.1.2.2/\s.2.all zBd=true)/\Hold w0 W (.blk b4 (zAO x.1.1.d (.slice x.1.2.1 x.1.1.kids.length x.1.2.2)) 28::(RC t b2 b3 s.1++s.2)))
  (fun W W' row hs hg hr=>hs.stayC (by simp[zBd,zEi]) hB hg hr) (fun j W W' row hs hg hr=>(by
   cases j with
   | none=>exact HoldG.stayC hs (zEi ..) hB hg hr
   | some k=>obtain⟨v,hv,hs⟩:=hs;exact⟨v,hv,hs.stayC (zLe ..) hB hg hr⟩)) (fun s x j W W' row hs hg hr=>⟨hs.1,hs.2.stayC (by rw[List.all_append,zO5,hs.1];rfl) hB hg hr⟩) (fun s x a1 W W' row ⟨b4,e,h1,h2⟩ hg hr=>⟨b4,e,h1,h2.stayC (by simp[zBd,h1.2.2,zEi]) hB hg hr⟩) ?iter hI ?assign ?body ?done ?pan)
 case iter =>
  intro l B K hBs hKs hBK hY W hI hBW;refine(zJX t p c F w0 hm hF h xb (RC t b2 b3) (RX t b2 b3) (zEi t b2 b3) l B w.heap.size hBs (fun v x d E W1 hv hk hE hW hB1=>?_) W hI hBW).mono (fun e W' hh=>?_)
  ·refine(hY (v,E) (x,d) W1 ⟨⟨hv,hk,hE⟩,hW⟩ hB1).mono (fun e W' h=>?_)
   rcases h with ⟨j,rfl,⟨_,hq⟩,hb⟩|⟨ch,_,h,_⟩
   ·refine⟨_,rfl,j,rfl,?_,hb⟩
    cases j with
    | none=>exact hq
    | some k=>exact hq
   ·exact h.elim
  ·obtain⟨v,j,rfl,hb,hh⟩:=hh;refine .inl ⟨v,j,rfl,?_,hb⟩
   cases j with
   | none=>exact hh
   | some k=>exact hh
 case assign =>
  rintro l s x W hJ;simp only[List.zip_toArray,List.foldl_toArray,List.zip_cons_cons,List.zip_nil_right,List.zip_nil_left,List.foldl_cons,List.foldl_nil,List.setIfInBounds_toArray,List.set_cons_succ,List.set_cons_zero];obtain⟨v,E⟩:=s;obtain⟨⟨h1,h2,h3⟩,H⟩:=hJ;simp only[]at h1 h2 h3 H;have hpl:(RC t b2 b3 v++E).all zBd=true:=by rw[List.all_append,zEi,h3];rfl
  have hKN:=Lib.hid fun V=>KeepsNC.of_plain (W':=V) w.heap.size H hpl
  have H1:=H.framed;obtain⟨rS,hrS⟩:∃ rS,zDG W (RC t b2 b3 v++E)=rS:=⟨_,rfl⟩;obtain⟨rF,hrF⟩:∃ rF,zCz W (RC t b2 b3 v++E)=rF:=⟨_,rfl⟩;rw[hrS]at H1 hKN;rw[hrF]at H1;clear hrS hrF H;have H:=H1.perms (show List.Perm _ (.kn rF rS::(RC t b2 b3 v++E)) from List.perm_append_comm (l₁:=RC t b2 b3 v++E) (l₂:=[_]))
  clear H1;refine wpIn_region_lit (zAq (by rintro⟨_,_,h⟩;exact h) _ _ _ rfl ?_)
  go_wp2_with (first|((with_reducible refine kgA 4 ?_);refine kA 4 H ?_;clear H;intro b4 w4 H;replace H:=H.perms List.perm_append_comm;simp only[ca]at H)|((with_reducible refine kg 4 ?_);(first|refine kA 4 H ?_|refine kS 4 H ?_|refine kB 4 H ?_);clear H;intro b4 w H;try simp only[nr]at H)|((with_reducible refine gT ?_);(refine aT H ?_;clear H;intro w H;try simp only[nr]at H)))
  refine⟨hKN.out _ (H.kn (i:=1) i_1),b4,rfl,⟨h1,h2,h3⟩,?_⟩
  exact HoldG.left (R:=[_]) (H.perms (List.Perm.cons _ (List.perm_append_comm (l₁:=[_]) (l₂:=RC t b2 b3 v++E))))
 case body =>
  rintro l ⟨v,E⟩ x a1 W ⟨b4,rfl,⟨h1,h2,h3⟩,H⟩;simp only[]at h1 h2 h3 H;have hlt:v<zAC t:=by rw[← zFo];exact(List.getElem?_eq_some_iff.1 h1).1
  obtain⟨hok,H0⟩:=zN7 (t:=t) (b2:=b2) (b3:=b3) (v:=v) (E:=.blk b4 (zAO x.1.1.d (.slice x.1.2.1 x.1.1.kids.length x.1.2.2)) 28::E) (H.perms (List.perm_middle (l₁:=RC t b2 b3 v)).symm);clear H;have hkl:x.1.1.kids.length<=1000000000:=by
   have h4:x.1.1 ∈ (zDW t).map (·.1):=List.mem_map.2 ⟨_,List.mem_of_getElem? h1,rfl⟩;have:=zMc t x.1.1 h4;have h5:=zBP x.1.1.kids;have h6:=zCI x.1.1;omega
  have hv2:v<=2000:=by
   unfold okN at hok;rw[Bool.and_eq_true]at hok;exact of_decide_eq_true hok.1
  have hsu:=zPH h1 hok;have hpl:(RB b2 b3 v++.blk b4 (zAO x.1.1.d (.slice x.1.2.1 x.1.1.kids.length x.1.2.2)) 28::E).all zBd=true:=by simp[zBd,h3]
  have hKN:=Lib.hid fun V=>KeepsNC.of_plain (W':=V) w.heap.size H0 hpl
  have H1:=H0.framed;obtain⟨rS,hrS⟩:∃ rS,zDG W (RB b2 b3 v++.blk b4 (zAO x.1.1.d (.slice x.1.2.1 x.1.1.kids.length x.1.2.2)) 28::E)=rS:=⟨_,rfl⟩;obtain⟨rF,hrF⟩:∃ rF,zCz W (RB b2 b3 v++.blk b4 (zAO x.1.1.d (.slice x.1.2.1 x.1.1.kids.length x.1.2.2)) 28::E)=rF:=⟨_,rfl⟩;rw[hrS]at H1 hKN;rw[hrF]at H1;clear hrS hrF H0;have H:Hold w0 W (.kn rF rS::.blk b2 #[.bool false] 4::.blk b3 #[.int .i64 v] 3::.blk b4 (zAO x.1.1.d (.slice x.1.2.1 x.1.1.kids.length x.1.2.2)) 28::E):=H1.perms (List.perm_append_comm (l₁:=RB b2 b3 v++.blk b4 (zAO x.1.1.d (.slice x.1.2.1 x.1.1.kids.length x.1.2.2)) 28::E) (l₂:=[_]))
  clear H1;have hno:=fun w=>zQn x.1.1.d x.1.2.1 x.1.1.kids.length x.1.2.2 hkl h2 w
  have hend:∀ V,Hold w0 V (.kn rF rS::.blk b2 #[.bool false] 4::.blk b3 #[.int .i64 ((v+1:Nat):Int)] 3::.blk b4 (zAO x.1.1.d (.slice x.1.2.1 x.1.1.kids.length x.1.2.2)) 28::E)->Hold w0 V (RB b2 b3 (v+1)++E):=fun V H=>by
   refine HoldG.left (R:=[.kn rF rS,.blk b4 (zAO x.1.1.d (.slice x.1.2.1 x.1.1.kids.length x.1.2.2)) 28]) (H.perms ?_);refine List.Perm.trans (l₂:=.kn rF rS::.blk b4 (zAO x.1.1.d (.slice x.1.2.1 x.1.1.kids.length x.1.2.2)) 28::(RB b2 b3 (v+1)++E)) (List.Perm.cons _ (List.perm_middle (l₁:=RB b2 b3 (v+1)))) ?_
   exact List.perm_append_comm (l₁:=[_,_]) (l₂:=RB b2 b3 (v+1)++E)
  have HEND:=Lib.hid hend;clear hend;have HSU:=Lib.hid hsu;clear hsu;have H3:=Lib.hid h3;clear h3 hpl;clear h1 h2 hkl hok
  by_cases hv:v+1<=2000
  ·have dv:decide (((v:Int)+1) > 2000)=false:=by simp;omega
   cases hn:zA7 x.1.1.d x.1.1.kids.length with
   | true =>
    rw[hn]at hno;have HO:=Lib.hid (show okN t (v+1)=true by rw[HSU.out,hn];simp;omega)
    clear hn;refine wpIn_block (wpIn_seq (wpIn_region_lit (zAq (by rintro⟨_,_,h⟩;exact h) _ _ _ rfl ?_)))
    go_wp2_with (first|(first|((with_reducible refine gT ?_);(refine aO H ?_;clear H;intro w H;try simp only[nr]at H))|((with_reducible refine gL ?_);refine aG H ?_)))
    refine wpIn_seq (wpIn_region_lit (zAq (by rintro⟨_,_,h⟩;exact h) _ _ _ rfl ?_))
    go_wp2_with (first|((with_reducible refine gL ?_);(first|refine aG H ?_|refine aD H ?_))|((with_reducible refine ch (hno _) H ?_);clear H;intro w H))
    refine wpIn_cond_false rfl (wpIn_skip ?_);refine⟨hKN.out _ (H.kn (i:=0) .zero),(by simpa using H3.out),?_⟩
    show Hold w0 _ (RC t b2 b3 (v+1)++E)
    unfold RC;rw[if_pos HO.out];exact HEND.out _ H
   | false =>
    rw[hn]at hno;have HO:=Lib.hid (show okN t (v+1)=false by rw[HSU.out,hn];simp)
    clear hn;refine wpIn_block (wpIn_seq (wpIn_region_lit (zAq (by rintro⟨_,_,h⟩;exact h) _ _ _ rfl ?_)))
    go_wp2_with (first|(first|((with_reducible refine gT ?_);(refine aO H ?_;clear H;intro w H;try simp only[nr]at H))|((with_reducible refine gL ?_);refine aG H ?_)))
    refine wpIn_seq (wpIn_region_lit (zAq (by rintro⟨_,_,h⟩;exact h) _ _ _ rfl ?_))
    go_wp2_with (first|((with_reducible refine gL ?_);(first|refine aG H ?_|refine aD H ?_))|((with_reducible refine ch (hno _) H ?_);clear H;intro w H))
    refine wpIn_cond_true rfl (wpIn_seq (wpIn_region_lit (zAq (by rintro⟨_,_,h⟩;exact h) _ _ _ rfl ?_)))
    go_wp2_with (first|((with_reducible refine gT ?_);(refine aO H ?_;clear H;intro w H;try simp only[nr]at H)))
    refine wpIn_ret ?_
    refine⟨hKN.out _ (H.kn (i:=0) .zero),(by simpa using H3.out),?_⟩
    show Hold w0 _ (RX t b2 b3 v .ret++E)
    unfold RX;simp only[];rw[if_pos HO.out];exact HEND.out _ H
  ·have dv:decide (((v:Int)+1) > 2000)=true:=by simp;omega
   have HO:=Lib.hid (show okN t (v+1)=false by rw[HSU.out,decide_eq_false hv];rfl)
   refine wpIn_block (wpIn_seq (wpIn_region_lit (zAq (by rintro⟨_,_,h⟩;exact h) _ _ _ rfl ?_)))
   go_wp2_with (first|(first|((with_reducible refine gT ?_);(refine aO H ?_;clear H;intro w H;try simp only[nr]at H))|((with_reducible refine gL ?_);refine aG H ?_)))
   refine wpIn_seq (wpIn_region_lit (zAq (by rintro⟨_,_,h⟩;exact h) _ _ _ rfl ?_))
   go_wp2_with (first|((with_reducible refine gL ?_);refine aG H ?_))
   refine wpIn_cond_true rfl (wpIn_seq (wpIn_region_lit (zAq (by rintro⟨_,_,h⟩;exact h) _ _ _ rfl ?_)))
   go_wp2_with (first|((with_reducible refine gT ?_);(refine aO H ?_;clear H;intro w H;try simp only[nr]at H)))
   refine wpIn_ret ?_
   refine⟨hKN.out _ (H.kn (i:=0) .zero),(by simpa using H3.out),?_⟩
   show Hold w0 _ (RX t b2 b3 v .ret++E)
   unfold RX;simp only[];rw[if_pos HO.out];exact HEND.out _ H
 case done =>
  rintro D j W hD hS hK
  cases j with
  | none =>
   obtain⟨hok,H0⟩:=zN7 (t:=t) (b2:=b2) (b3:=b3) (v:=zAC t) (E:=[]) (by rw[List.append_nil];exact hS)
   rw[zN9]at hok;rw[hok];have hKN:=Lib.hid fun V=>KeepsNC.of_plain (W':=V) w.heap.size H0 rfl
   have H1:=H0.framed;obtain⟨rS,hrS⟩:∃ rS,zDG W (RB b2 b3 (zAC t)++[])=rS:=⟨_,rfl⟩;obtain⟨rF,hrF⟩:∃ rF,zCz W (RB b2 b3 (zAC t)++[])=rF:=⟨_,rfl⟩;rw[hrS]at H1 hKN;rw[hrF]at H1;clear hrS hrF H0 hI hS;have H:Hold w0 W [.blk b2 #[.bool false] 4,.blk b3 #[.int .i64 (zAC t)] 3,.kn rF rS]:=H1;clear H1;have hD2:w0.heap.size<=D:=Nat.le_trans hB hD;refine zBv (zCO ?_)
   go_wp2_with (first|((with_reducible refine gT ?_);(refine aO H ?_;clear H;intro w H;try simp only[nr]at H)))
   refine zCO ?_
   go_wp2_with fail
   have hK3:=(hKN.out _ (H.kn (i:=2) i_2)).same _ _ hD hK rfl;refine⟨by simp,.inl ⟨D,_,rfl,run_takeDeferred hK3,?_⟩⟩
   have H3:Hold w0 _ [.blk b2 #[.bool true] 4]:=H.pick [0] _ (by decide) rfl
   have H5:=Stay.putObj (Stay.plain rfl (Nat.le_refl _)) (.deferred none) H3 hD2 hK3 rfl;refine⟨_,zFw Tryz.results34 rfl zBM ((H5.cell (i:=0) .zero 0).trans rfl),rfl,H5.below⟩
  | some k =>
   obtain⟨v,hv,hS⟩:=hS;obtain⟨rfl,hok,H0⟩:=zQb (t:=t) (b2:=b2) (b3:=b3) (v:=v) (E:=[]) (by rw[List.append_nil];exact hS)
   rw[zRT hv hok];have hD2:w0.heap.size<=D:=Nat.le_trans hB hD;refine⟨by simp,.inl ⟨D,_,rfl,run_takeDeferred hK,?_⟩⟩
   have H3:Hold w0 _ [.blk b2 #[.bool false] 4]:=H0.pick [0] _ (by decide) rfl
   have H5:=Stay.putObj (Stay.plain rfl (Nat.le_refl _)) (.deferred none) H3 hD2 hK rfl;refine⟨_,zFw Tryz.results34 rfl zBM ((H5.cell (i:=0) .zero 0).trans rfl),rfl,H5.below⟩
 case pan=>exact fun D ch W _ h _=>h.elim
end
end Go.Proofs.YtalggmbdpmdcbaaGreat
