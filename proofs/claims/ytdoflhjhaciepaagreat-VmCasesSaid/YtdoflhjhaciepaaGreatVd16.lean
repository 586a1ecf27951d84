/-
  Laws of walks, and walks.
-/
import Derived.Test.YtdoflhjhaciepaaGreatVd7
import Derived.Test.YtdoflhjhaciepaaGreatVd10
import Derived.Test.YtdoflhjhaciepaaGreatVd13
import Derived.Test.YtdoflhjhaciepaaGreatVd15
set_option linter.unusedVariables false
set_option linter.unusedSimpArgs false
set_option maxRecDepth 100000
set_option maxHeartbeats 16000000
namespace Go.Proofs.YtdoflhjhaciepaaGreat
section
open Go.RowKit Go.Shelf
attribute [local go_sem] Oper.semAt_some
section
variable {M:Nat→Prop} {P:Program} {f:FuncId} {args:Array Value} {w w0:World} {l:List Res} {G:Nat→Prop} {R:Ending→World→Prop}
theorem zK9 {t:Tree} (c:Calls P f args w fun e w'=>TreeB w G (some t) e w'∧Below w.heap.size w w') (H:HoldG M w0 w l) (hG:Still l G)
  (k:∀ p n F w',(∀ b,F b→w0.heap.size≤b∨G b)→HoldG M w0 w' (l++[.kn F (fun V=>ForestR V F p n t.kids)])→R (.returned (.tuple #[zAc t.d (.slice p t.kids.length n),.bool true])) w'):Calls P f args w R:=c.mono fun _ w' h=>by
 obtain⟨⟨p,n,F,rfl,hs,hF⟩,hb⟩:=h;exact k p n F w' (fun b h=>(hF b h).2.imp (fun h=>Nat.le_trans H.keep.size h) id) (H.learn hb hG hF (fun V hV=>hs.kept hV))
theorem zK0 (c:Calls P f args w fun e w'=>TreeB w G none e w'∧Below w.heap.size w w') (H:HoldG M w0 w l)
  (k:∀ d p n m w',HoldG M w0 w' l→R (.returned (.tuple #[zAc d (.slice p n m),.bool false])) w'):Calls P f args w R:=c.mono fun _ w' h=>by
 obtain⟨⟨d,p,n,m,rfl⟩,hb⟩:=h;exact k d p n m w' (H.call hb)
theorem HoldG.rowKnows (H:HoldG M w0 w l) {i N cap:Nat} {q:Option Addr} {T:TypeId} {xs:List TV} {K:Nat→Prop} (hi:At l i (.row (.slice q N cap) T 10 N (zAP (xs.map zAy)))) (hN:xs.length=N) (hK:Still l K) (hL:ListR w K xs) :
  ∃ G:Nat→Prop,(∀ b,G b→w0.heap.size≤b∨K b)∧HoldG M w0 w (l.set i (.kn G (Knows G q N cap xs))):=by
 have ho:=H.all i _ hi.get;have hrd:∀ V:World,(∀ b,(Value.slice q N cap).ownBlock=some b→V.heap[b]?=w.heap[b]?)→RdN 10 V (fun b=>(Value.slice q N cap).ownBlock=some b) (.slice q N cap) (xs.map zAy):=fun V hV=>RdN.of_own ho (zCH xs) (by rw[List.length_map];exact hN) hV
 refine⟨fun b=>(Value.slice q N cap).ownBlock=some b∨K b,fun b hb=>hb.imp (fun hb=>?_) id,H.restG hi _ _ (fun b hb=>hb.imp id (hK b)) (fun V hV=>⟨(hrd V (fun b hb=>hV b (.inl hb))).mono (fun _ h=>.inl h),fun x hx=>((hL x hx).mono (fun _ h=>.inr h)).kept hV⟩)⟩
 obtain⟨_,⟨hv,_⟩|⟨g,cap',cur,hv,hg,_⟩⟩:=ho
 ·cases hv;cases hb
 ·cases hv;cases hb;exact hg
end
theorem Knows.forestN {F:Nat→Prop} {p:Option Addr} {n c:Nat} {xs:List TV} {V:World} (h:Knows F p n c xs V) (hn:xs.length=n):ForestR V F p c (xs.map (·.1)):=.mk _ _ _ xs (by rw[List.length_map,hn];exact h.1) h.2 rfl
theorem ok_7 {d:NodeD} {k:Nat} (h:zC6 d k=true) (h7:d.kind=7):k=1:=by
 simp[zC6,zAj,h7]at h;omega
theorem ok_6 {d:NodeD} {k:Nat} (h:zC6 d k=true) (h6:d.kind=6):k=1∧(0≤d.lo∧d.lo≤100)∧(d.hi = -1∨d.lo≤d.hi∧d.hi≤100):=by
 simp[zC6,zAj,h6]at h;omega
def CallB (n:Nat) (G:Nat→Prop) (o:Option Tree) (v:Value) (W:World):Prop:=match o with
 | some t=>∃ q m F,v=.tuple #[zAc t.d (.slice q t.kids.length m),.bool true]∧ForestR W F q m t.kids∧∀ b,F b→b<W.heap.size∧(n≤b∨G b)
 | none=>∃ d q k m,v=.tuple #[zAc d (.slice q k m),.bool false]
def FstB (n:Nat) (G:Nat→Prop) (o:Option Tree) (v:Value) (W:World):Prop:=match o with
 | some t=>∃ q m F,v=zAc t.d (.slice q t.kids.length m)∧ForestR W F q m t.kids∧∀ b,F b→b<W.heap.size∧(n≤b∨G b)
 | none=>∃ d q k m,v=zAc d (.slice q k m)
theorem zGm {n:Nat} {G:Nat→Prop} {o:Option Tree}:zDJ (CallB n G o):=fun v w w' h hb=>by
 cases o with
 | none=>exact h
 | some t =>
  obtain⟨q,m,F,e,hs,hF⟩:=h;exact⟨q,m,F,e,hs.kept (fun b h=>hb.block b (hF b h).1),fun b h=>⟨Nat.lt_of_lt_of_le (hF b h).1 hb.size,(hF b h).2⟩⟩
theorem zKn {n:Nat} {G:Nat→Prop} {o:Option Tree}:zDJ (FstB n G o):=fun v w w' h hb=>by
 cases o with
 | none=>exact h
 | some t =>
  obtain⟨q,m,F,e,hs,hF⟩:=h;exact⟨q,m,F,e,hs.kept (fun b h=>hb.block b (hF b h).1),fun b h=>⟨Nat.lt_of_lt_of_le (hF b h).1 hb.size,(hF b h).2⟩⟩
theorem CallB.fst {n:Nat} {G:Nat→Prop} {o:Option Tree} {v:Value} {W:World} (h:CallB n G o v W):∃ x,v=.tuple #[x,.bool o.isSome]∧FstB n G o x W:=by
 cases o with
 | none =>
  obtain⟨d,q,k,m,e⟩:=h;exact⟨_,e,d,q,k,m,rfl⟩
 | some t =>
  obtain⟨q,m,F,e,hs,hF⟩:=h;exact⟨_,e,q,m,F,rfl,hs,hF⟩
theorem TreeB.callB {n:Nat} {w w':World} {G:Nat→Prop} {o:Option Tree} {e:Ending} (h:TreeB w G o e w') (hn:n≤w.heap.size):∃ v,e=.returned v∧CallB n G o v w':=by
 cases o with
 | none =>
  obtain⟨d,p,k,c,rfl⟩:=h;exact⟨_,rfl,d,p,k,c,rfl⟩
 | some t =>
  obtain⟨p,c,F,rfl,hs,hF⟩:=h;exact⟨_,rfl,p,c,F,rfl,hs,fun b h=>⟨(hF b h).1,(hF b h).2.imp (Nat.le_trans hn) id⟩⟩
theorem zSc (t:Array Value) (h:t.size=73):∃ x0 x1 x2 x3 x4 x5 x6 x7 x8 x9 x10 x11 x12 x13 x14 x15 x16 x17 x18 x19 x20 x21 x22 x23 x24 x25 x26 x27 x28 x29 x30 x31 x32 x33 x34 x35 x36 x37 x38 x39 x40 x41 x42 x43 x44 x45 x46 x47 x48 x49 x50 x51 x52 x53 x54 x55 x56 x57 x58 x59 x60 x61 x62 x63 x64 x65 x66 x67 x68 x69 x70 x71 x72:Value,t=List.toArray (x0::x1::x2::x3::x4::x5::x6::x7::x8::x9::x10::x11::x12::x13::x14::x15::x16::x17::x18::x19::x20::x21::x22::x23::x24::x25::x26::x27::x28::x29::x30::x31::x32::x33::x34::x35::x36::x37::x38::x39::x40::x41::x42::x43::x44::x45::x46::x47::x48::x49::x50::x51::x52::x53::x54::x55::x56::x57::x58::x59::x60::x61::x62::x63::x64::x65::x66::x67::x68::x69::x70::x71::x72::[]):=by
 rw[zIs t 73 h];exact⟨_,_,_,_,_,_,_,_,_,_,_,_,_,_,_,_,_,_,_,_,_,_,_,_,_,_,_,_,_,_,_,_,_,_,_,_,_,_,_,_,_,_,_,_,_,_,_,_,_,_,_,_,_,_,_,_,_,_,_,_,_,_,_,_,_,_,_,_,_,_,_,_,_,rfl⟩
theorem zJS {d:NodeD} {k s:Tree} (h:zCZ d k=some s) (hk:zAT k≤2000) (hl0:0≤d.lo) (hlo:d.lo≤100) (hhi:d.hi≤100):zAT s≤1000000:=by
 unfold zCZ at h;split at h
 ·cases h;rw[zDR];omega
 split at h
 ·cases h;rw[zDR];omega
 split at h
 ·cases h
 ·cases h
  refine Nat.le_trans (zFq _) ?_
  have h1:d.lo.toNat * zAT k≤100 * 2000:=Nat.mul_le_mul (by omega) hk
  rw[zAe,zIR];split
  ·rw[zBT,zGD];omega
  ·rename_i hn;have h2:=zFm d k (d.hi - d.lo).toNat;have h3:(d.hi - d.lo).toNat * (zAT k+2)≤100 * 2002:=Nat.mul_le_mul (by omega) (by omega)
   omega
def zSg (w0 w:World) (F:Nat→Prop) (b2 b8:Nat) (o:Option Tree):Prop:=match o with
 | some t=>∃ q c G,(∀ b,G b→w0.heap.size≤b∨F b)∧Hold w0 w [.blk b2 (zAU {kind:=0} nilS) 87,.blk b8 (zAU t.d (.slice q t.kids.length c)) 87,.kn G (fun V=>ForestR V G q c t.kids)]
 | none=>∃ d q n c,Hold w0 w [.blk b2 (zAU {kind:=0} nilS) 87,.blk b8 (zAU d (.slice q n c)) 87]
theorem zIA:∀ (m:Nat) (t:Tree) (p:Option Addr) (n c:Nat) (F:Nat→Prop) (w0:World),zAT t≤m→m≤2000→zAn t=true→(∀ b,F b→b<w0.heap.size)→ForestR w0 F p c t.kids→n=t.kids.length →
  Calls Tryz.prog 111 #[zAc t.d (.slice p n c)] w0 fun e w'=>TreeB w0 F (zBl t) e w'∧Below w0.heap.size w0 w'
 | 0,t,_,_,_,_,_,hm,_,_,_,_,_=>by have:=zBL t;omega
 | m+1,.mk d ts,p,n,c,F,w0,hm,hm2,hkd,hF,h,hn=>by
  have IH:=zIA m;obtain⟨i0,hi0,hz0,hz1,hz2⟩:=info_parts zD0;simp only[Tree.kids,Tree.d]at h hn ⊢;simp only[zAn,Bool.and_eq_true]at hkd;obtain⟨xs,h1,h2,rfl⟩:=h.open;have hn':=hn;rw[List.length_map]at hn;rw[← hn]at h1;have hK:Knows F p n c xs w0:=⟨h1,h2⟩;clear h h1 h2;have H:=Hold.knows hF hK;have hc1:=hK.bound.2.1;have hc2:=hK.bound.2.2;have hp:=hK.at;clear hK;simp only[zAT]at hm;have hnl:n≤2000:=by have:=zDE (xs.map (·.1));omega
  have HN:=Lib.hid hn;have HN2:=Lib.hid hn';clear hn hn';have HKD:=Lib.hid hkd;clear hkd;have hno:=fun w=>zI5 w
  go_enter Tryz.func111,Tryz.ntmps111
  replace H:=(H.addNil 87 10).know (fun _=>False) (fun V=>ListR V (fun _=>False) []) (fun _ h=>h.elim) (fun _ _ _ _ _ h=>h) (fun V _=>ListR.nil _ _)
  simp only[List.nil_append,List.cons_append]at H
  go_wp2_with (first|((first|((with_reducible refine kgA 1 ?_);refine kA 1 H ?_)|((with_reducible refine kgX 1 ?_);(first|refine kS 1 H ?_|refine kB 1 H ?_)));clear H;intro b1 w H;try simp only[nr]at H)|((first|((with_reducible refine kgA 2 ?_);refine kA 2 H ?_)|((with_reducible refine kgX 2 ?_);(first|refine kS 2 H ?_|refine kB 2 H ?_)));clear H;intro b2 w H;try simp only[nr]at H)|fail)
  go_loopw [4,5] (fun vs ix wr=>∃ (j:Nat) (xa:List TV) (vq:Option Addr) (vc:Nat) (Fa:Nat→Prop),j≤n∧vs=.slice vq j vc∧ix=.int .i64 j∧xa.length=j∧Hid (zAw ((xs.map (·.1)).take j)=some (xa.map (·.1)))∧(∀ b,Fa b→w0.heap.size≤b∨F b)∧Hold w0 wr [.kn F (Knows F p n c xs),.row (.slice vq j vc) 87 10 j (zAP (xa.map zAy)),.kn Fa (fun V=>ListR V Fa xa),.blk b1 (zAU d (.slice p n c)) 87,.blk b2 (zAU {kind:=0} nilS) 87]) (fun _ ix _=>n+1 - (intOf ix).toNat)
  case atStart=>exact⟨0,[],none,0,fun _=>False,by omega,rfl,rfl,rfl,Lib.hid rfl,fun _ h=>h.elim,H⟩
  case round =>
   clear H;obtain⟨j,xa,vq,vc,Fa,hj,rfl,rfl,hxl,E,hFa,H⟩:=hrel
   by_cases hlt:j<n
   ·have dj:decide ((j:Int)<(n:Int))=true:=by simp;omega
    obtain⟨x,hx⟩:∃ x,xs[j]?=some x:=⟨_,List.getElem?_eq_getElem (by rw[← HN.out];exact hlt)⟩
    obtain⟨b,off,rfl⟩:=hp (by rw[← HN.out];omega)
    have hs1:=zDM hx;have hmem:=List.mem_of_getElem? hx;have hx':(xs.map (·.1))[j]?=some x.1:=by rw[List.getElem?_map,hx];rfl
    have hkx:zAn x.1=true:=zDN HKD.out.2 hx';have hcell:∀ V,Knows F (some ⟨b,off,none⟩) n c xs V→∀ k,k<10→V.cell? ⟨b,off+j * 10+k,none⟩=(zAy x)[k]?:=fun V h=>h.cells hx rfl
    have ih:=fun w (hw:∀ b,F b→b<w.heap.size) (hk:Knows F (some ⟨b,off,none⟩) n c xs w)=>IH x.1 x.2.1 _ x.2.2 F w (by omega) (by omega) hkx hw (hk.2 x hmem) rfl
    have HX:=Lib.hid hxl;clear IH hx hmem hp hs1 hxl hkx
    cases hsx:zBl x.1 with
    | none =>
     rw[hsx]at ih;have E2:=Lib.hid (show zBl (.mk d (xs.map (·.1)))=none by rw[zBl,zFa hx' hsx])
     clear hsx hx'
     go_wp2_with (first|((with_reducible refine gL ?_);refine zAS wtd_ _ _ rfl rfl zAR (zAz x) (hcell _ (H.kn (i:=0) .zero)) ?_)|(first|((with_reducible refine gT ?_);(refine aT H ?_;clear H;intro w H;try simp only[nr]at H))|((with_reducible refine gL ?_);refine aG H ?_)|((with_reducible refine gA ?_);(refine bA H ?_;clear H;intro b w H;try simp only[nr]at H)))|(go_at_call 111;refine zK0 (ih _ (H.knlt (i:=0) .zero) (H.kn (i:=0) .zero)) H ?_;clear H;intro d1 q1 k1 m1 w H)|((with_reducible refine ch (hno _) H ?_);clear H;intro w H))
     (refine xct Tryz.results111 H ?_)
     exact⟨TreeB.no E2.out,H.below⟩
    | some s =>
     rw[hsx]at ih;have E2:=Lib.hid (show zAw ((xs.map (·.1)).take (j+1))=some (xa.map (·.1)++[s]) by rw[zCn hx'];exact zFw _ _ E.out hsx)
     clear hsx hx'
     go_wp2_with (first|((with_reducible refine gL ?_);refine zAS wtd_ _ _ rfl rfl zAR (zAz x) (hcell _ (H.kn (i:=0) .zero)) ?_)|(at_builtin;refine zAX rfl _ _ 85 rfl H (i:=1) (j:=7) evd_ rfl i_1 i_7 Tryz.underlying85 hi0 hz0 hz1 hz2 rfl (by decide) rfl rfl (by unfold maxLen;omega) (by omega) ?_;clear H;intro v2 w H;(try simp only[nr]at H);(obtain⟨q2,c2,rfl,_,_,_⟩:=H.rowShape (i:=1) i_1))|((with_reducible refine gBS ?_);refine zAL wtd_ _ _ _ rfl H (zAU (s.d) (.slice q1 s.kids.length m1)) 87 (by intro W;simp only[ml];(try simp only[pe]);exact zBf _ _ W) ?_;clear H;intro bk w H;try simp only[nr]at H)|(first|((with_reducible refine gT ?_);(refine aT H ?_;clear H;intro w H;try simp only[nr]at H))|((with_reducible refine gL ?_);(first|refine aG H ?_|refine aD H ?_))|((with_reducible refine gA ?_);(refine bA H ?_;clear H;intro b w H;try simp only[nr]at H)))|(go_at_call 111;refine zK9 (ih _ (H.knlt (i:=0) .zero) (H.kn (i:=0) .zero)) H (Still.at (i:=0) .zero) ?_;clear H;intro q1 m1 F1 w hF1 H;simp only[ca]at H))
     have H2:=H.rowGrown (i:=1) (k:=2) (k2:=5) (xs:=xa) (ys:=xa) (by rw[HX.out];exact i_1) i_2 i_5 (xa++[(s,q1,m1)]) (fun y hy=>(List.mem_append.1 hy).imp id List.mem_singleton.1)
     have hl2:(xa++[((s,q1,m1):TV)]).length=j+1:=by simp[HX.out]
     rw[hl2]at H2;have HL:=Lib.hid hl2;clear hl2;go_roundw
     case rel=>exact⟨j+1,xa++[(s,q1,m1)],q2,c2,fun b=>Fa b∨F1 b,by omega,rfl,by go_num,HL.out,Lib.hid (by rw[List.map_append];exact E2.out),fun b h=>h.elim (hFa b) (hF1 b),H2.pick [0,1,8,3,4] _ (by decide) rfl⟩
     case measure=>simp[intOf];omega
   ·have hjn:n=j:=by omega
    subst hjn;have dj:decide ((n:Int)<(n:Int))=false:=by simp
    have EX:=Lib.hid (show zAw (xs.map (·.1))=some (xa.map (·.1)) by rw[← E.out,List.take_of_length_le (by rw[List.length_map,← HN.out];omega)])
    clear IH hlt hj
    go_upto_block 2 with (first|((first|((with_reducible refine kgA 8 ?_);refine kA 8 H ?_)|((with_reducible refine kgX 8 ?_);(first|refine kS 8 H ?_|refine kB 8 H ?_)));clear H;intro b8 w H;try simp only[nr]at H)|(first|((with_reducible refine gT ?_);(refine aT H ?_;clear H;intro w H;try simp only[nr]at H))|((with_reducible refine gL ?_);(first|refine aG H ?_|refine aD H ?_))))
    obtain⟨Gk,hGk,H2⟩:=H.rowKnows (i:=1) i_1 hxl (Still.at (i:=2) i_2) (H.kn (i:=2) i_2);clear H;have H:=H2;clear H2;simp only[sc]at H;have hGl:∀ b,Gk b→w0.heap.size≤b∨F b:=fun b hb=>(hGk b hb).elim .inl (hFa b)
    obtain⟨o,ho⟩:∃ o,ruleT d (.mk d (xs.map (·.1))) (xa.map (·.1))=o:=⟨_,rfl⟩;have ER:=Lib.hid (show zBl (.mk d (xs.map (·.1)))=capT o by rw[zBl,EX.out,← ho])
    have HO:=Lib.hid ho;clear ho;have HXL:=Lib.hid hxl;clear hxl dj E;simp only[pl];refine wp_cut (fun a' w'=>(∃ t:Array Value,a'=({tmps:=t,defers:=[]}:Act)∧t.size=73∧t[1]?=some (.pointer (some ⟨b1,0,none⟩))∧t[2]?=some (.pointer (some ⟨b2,0,none⟩))∧t[8]?=some (.pointer (some ⟨b8,0,none⟩))∧t[9]?=some (.bool o.isSome))∧zSg w0 w' F b2 b8 o) ?rest ?first
    case first =>
     intro J K' hJ hM
     by_cases h7:d.kind=7
     ·have d7:(d.kind == 7)=true:=by rw[beq_iff_eq];exact h7
      have hn1:n=1:=by rw[HN2.out];exact ok_7 HKD.out.1 h7
      obtain⟨y,rfl⟩:=List.length_eq_one_iff.1 (HXL.out.trans hn1);subst hn1;obtain⟨g,off,rfl⟩:=(H.kn (i:=1) i_1).at (by simp)
      have hkd:∀ V,Knows Gk (some ⟨g,off,none⟩) 1 vc [y] V→V.cell? ⟨g,off,none⟩=some (.int .i64 y.1.d.kind):=fun V h=>(h.cells (j:=0) rfl rfl 0 (by decide)).trans rfl
      by_cases h2:y.1.d.kind=2
      ·have dh:(y.1.d.kind == 2)=true:=by rw[beq_iff_eq];exact h2
       have eo:o=some (zB6 2):=by rw[← HO.out,ruleT.eq_def,if_pos h7];simp[h2]
       subst eo;clear h7 h2
       go_wp2_with (first|((with_reducible refine gT ?_);refine zAQ wtd_ _ _ _ rfl rfl evd_ H (i:=5) i_5 rfl (by show 5<10;omega) (by with_reducible exact zAI zDZ) ?_;clear H;intro w H;(rw[zE3]at H);try simp only[nr]at H)|((with_reducible refine gL ?_);refine zAJ wtd_ _ _ rfl rfl zAd (hkd _ (H.kn (i:=1) i_1)) ?_)|((with_reducible refine gT ?_);((first|refine aO H ?_|refine aT H ?_);clear H;intro w H;try simp only[nr]at H))|((with_reducible refine ch (hno _) H ?_);clear H;intro w H))
       have H2:=H.also (fun _=>False) (fun V=>ForestR V (fun _=>False) none 0 []) Still.none (fun V _=>ForestR.nil ..)
       have H3:=H2.pick [4,5,6] [.blk b2 (zAU {kind:=0} nilS) 87,.blk b8 (zAU {kind:=2} nilS) 87,.kn (fun _=>False) (fun V=>ForestR V (fun _=>False) none 0 [])] (by decide) rfl
       (refine Met.intro ?_;go_step;exact⟨⟨_,rfl,rfl,rfl,rfl,rfl,rfl⟩,⟨none,0,fun _=>False,fun _ h=>h.elim,H3⟩⟩)
      ·have dh:(y.1.d.kind == 2)=false:=by rw[beq_eq_false_iff_ne];exact h2
       have eo:o=some (.mk d [y.1]):=by rw[← HO.out,ruleT.eq_def,if_pos h7];simp[h2]
       subst eo;clear h7 h2
       go_wp2_with (first|((with_reducible refine gT ?_);refine zAQ wtd_ _ _ _ rfl rfl evd_ H (i:=5) i_5 rfl (by show 5<10;omega) (by with_reducible exact zAI zDZ) ?_;clear H;intro w H;(rw[zE3]at H);try simp only[nr]at H)|((with_reducible refine gL ?_);refine zAJ wtd_ _ _ rfl rfl zAd (hkd _ (H.kn (i:=1) i_1)) ?_)|((with_reducible refine gT ?_);(refine aO H ?_;clear H;intro w H;try simp only[nr]at H)))
       have H2:=H.also Gk (fun V=>ForestR V Gk (some ⟨g,off,none⟩) vc [y.1]) (Still.at (i:=1) i_1) (fun V hV=>((H.kn (i:=1) i_1).forestN rfl).kept hV)
       have H3:=H2.pick [4,5,6] [.blk b2 (zAU {kind:=0} nilS) 87,.blk b8 (zAU d (.slice (some ⟨g,off,none⟩) 1 vc)) 87,.kn Gk (fun V=>ForestR V Gk (some ⟨g,off,none⟩) vc [y.1])] (by decide) rfl
       (refine Met.intro ?_;go_step;exact⟨⟨_,rfl,rfl,rfl,rfl,rfl,rfl⟩,⟨some ⟨g,off,none⟩,vc,Gk,hGl,H3⟩⟩)
     ·have d7:(d.kind == 7)=false:=by rw[beq_eq_false_iff_ne];exact h7
      by_cases h4:d.kind=4
      ·have d4:(d.kind == 4)=true:=by rw[beq_iff_eq];exact h4
       have eo:o=some (catT (xa.map (·.1))):=by rw[← HO.out,ruleT.eq_def,if_neg h7,if_pos h4]
       subst eo;have hsz:zAK (xa.map (·.1))≤1000000000:=by have:=zCV EX.out;have h2:=HN2.out;omega
       have hcat:=fun W (h1:∀ b,Gk b→b<W.heap.size) (h2:Knows Gk vq n vc xa W)=>zIo vq n vc Gk (xa.map (·.1)) W h1 (h2.forestN HXL.out) (by rw[List.length_map,HXL.out]) hsz
       obtain⟨ct,hct⟩:∃ ct,catT (xa.map (·.1))=ct:=⟨_,rfl⟩;rw[hct]at hcat hJ ER HO;clear h7 h4 hsz hct
       go_wp2_with (first|((with_reducible refine gT ?_);(refine aT H ?_;clear H;intro w H;try simp only[nr]at H))|(go_at_call 140;refine cht (hcat _ (H.knlt (i:=1) i_1) (H.kn (i:=1) i_1)) H (Still.at (i:=1) i_1) ?_;clear H;intro q3 m3 F3 w hF3 H;simp only[ca]at H))
       have hF4:∀ b,F3 b→w0.heap.size≤b∨F b:=fun b h=>(hF3 b h).elim .inl (hGl b)
       have H3:=H.pick [4,5,6] [.blk b2 (zAU {kind:=0} nilS) 87,.blk b8 (zAU ct.d (.slice q3 ct.kids.length m3)) 87,.kn F3 (fun V=>ForestR V F3 q3 m3 ct.kids)] (by decide) rfl
       (refine Met.intro ?_;go_step;exact⟨⟨_,rfl,rfl,rfl,rfl,rfl,rfl⟩,⟨q3,m3,F3,hF4,H3⟩⟩)
      ·have d4:(d.kind == 4)=false:=by rw[beq_eq_false_iff_ne];exact h4
       by_cases h5:d.kind=5
       ·have d5:(d.kind == 5)=true:=by rw[beq_iff_eq];exact h5
        have eo:o=some (rowN 5 (zCQ (xa.map (·.1)) 5 2) (zB6 2)):=by rw[← HO.out,ruleT.eq_def,if_neg h7,if_neg h4,if_pos h5]
        subst eo;have hsz:zAK (xa.map (·.1))≤1000000000:=by have:=zCV EX.out;have h2:=HN2.out;omega
        have hfl:=fun W (h1:∀ b,Gk b→b<W.heap.size) (h2:Knows Gk vq n vc xa W)=>zLa vq n vc 5 2 Gk (xa.map (·.1)) W h1 (h2.forestN HXL.out) (by rw[List.length_map,HXL.out]) hsz
        obtain⟨fts,hft⟩:∃ fts,zCQ (xa.map (·.1)) 5 2=fts:=⟨_,rfl⟩;rw[hft]at hfl hJ ER HO;have hrow:=fun W q m F (h1:∀ b,F b→b<W.heap.size) (h2:ForestR W F q m fts)=>zJ3 5 2 q m fts.length F fts W h1 h2 rfl
        obtain⟨ct,hct⟩:∃ ct,rowN 5 fts (zB6 2)=ct:=⟨_,rfl⟩;rw[hct]at hrow hJ ER HO;clear h7 h4 h5 hsz hct hft
        go_wp2_with (first|((with_reducible refine gT ?_);(refine aT H ?_;clear H;intro w H;try simp only[nr]at H))|(go_at_call 142;refine chl (hfl _ (H.knlt (i:=1) i_1) (H.kn (i:=1) i_1)) H (Still.at (i:=1) i_1) ?_;clear H;intro q1 m1 F1 w hF1 H;simp only[ca]at H)|((with_reducible refine ch (hno _) H ?_);clear H;intro w H)|(go_at_call 141;refine cht (hrow _ _ _ _ (H.knlt (i:=6) i_6) (H.kn (i:=6) i_6)) H (Still.at (i:=6) i_6) ?_;clear H;intro q3 m3 F3 w hF3 H;simp only[ca]at H))
        have hF4:∀ b,F3 b→w0.heap.size≤b∨F b:=fun b h=>(hF3 b h).elim .inl (fun h=>(hF1 b h).elim .inl (hGl b))
        have H3:=H.pick [4,5,7] [.blk b2 (zAU {kind:=0} nilS) 87,.blk b8 (zAU ct.d (.slice q3 ct.kids.length m3)) 87,.kn F3 (fun V=>ForestR V F3 q3 m3 ct.kids)] (by decide) rfl
        (refine Met.intro ?_;go_step;exact⟨⟨_,rfl,rfl,rfl,rfl,rfl,rfl⟩,⟨q3,m3,F3,hF4,H3⟩⟩)
       ·have d5:(d.kind == 5)=false:=by rw[beq_eq_false_iff_ne];exact h5
        by_cases h6:d.kind=6
        ·have d6:(d.kind == 6)=true:=by rw[beq_iff_eq];exact h6
         obtain⟨hn1',hlo,hhi⟩:=ok_6 HKD.out.1 h6;have hn1:n=1:=by rw[HN2.out];exact hn1'
         obtain⟨y,rfl⟩:=List.length_eq_one_iff.1 (HXL.out.trans hn1);subst hn1;clear hn1';obtain⟨g,off,rfl⟩:=(H.kn (i:=1) i_1).at (by simp)
         have hky:zAT y.1≤2000:=by
          have h1:=zCV EX.out;rw[← HN2.out]at h1
          simpa [zAK] using h1
         have eo:o=zCZ d y.1:=by rw[← HO.out,ruleT.eq_def,if_neg h7,if_neg h4,if_neg h5,if_pos h6];rfl
         have hrep:=fun W (h1:∀ b,Gk b→b<W.heap.size) (h2:Knows Gk (some ⟨g,off,none⟩) 1 vc [y] W)=>zJW d p 1 c y.1 y.2.1 y.2.2 Gk W hlo hhi hky h1 (h2.2 y (List.mem_singleton.2 rfl))
         rw[← eo]at hrep;clear h7 h4 h5 h6 eo hlo hhi hky
         go_upto_region 21 with (first|fail)
         have HSW:=Lib.hid H.keep.size;refine zCl 8 7 [fun v _=>v=zAc d (.slice p 1 c),fun v _=>v=.slice (some ⟨g,off,none⟩) 1 vc,fun v _=>v=.pointer (some ⟨g,off,none⟩),fun v _=>v=.agg (zAy y),CallB w.heap.size Gk o,CallB w.heap.size Gk o,FstB w.heap.size Gk o,fun v _=>v=.bool o.isSome] (fun _=>false) (by kernel_rfl) (by kernel_rfl) (by kernel_rfl) ⟨zAF _,zAF _,zAF _,zAF _,zGm,zGm,zKn,zAF _,trivial⟩ (fun _ _ h=>by cases h) ?ob ?en ?en2
         case ob =>
          refine⟨?_,?_,?_,?_,?_,?_,?_,?_,trivial⟩<;>intro A W h
          ·exact zAA rfl (zAb rfl (h.f 1) zAR rfl (fun k _=>by rw[Nat.zero_add];exact(H.call h.below).cell (i:=3) i_3 k)) (by decide)
          ·exact zAB rfl rfl (h.f 4) (by decide)
          ·(have e60:A.eval (.tmp 60)=.slice (some ⟨g,off,none⟩) 1 vc:=h.d 1 60;refine zAA rfl ?_ (by decide);simp only[execOp,e60];simp[go_sem])
          ·exact zAA rfl (zAb rfl (h.d 2 61) zAR (zAz y) (fun k hk=>((H.call h.below).kn (i:=1) i_1).cells (j:=0) rfl rfl k hk)) (by decide)
          ·refine zDO rfl rfl (enters_of Tryz.func143 (by kernel_rfl) rfl) (zBz ⟨h.d 0 59,h.d 3 62⟩) ((hrep W ((H.call h.below).knlt (i:=1) i_1) ((H.call h.below).kn (i:=1) i_1)).mono ?_)
           rintro e w' ⟨hT,hb⟩;obtain⟨v,he,hv⟩:=hT.callB h.below.size;exact⟨v,he,hb,hv,fun h=>by cases h⟩
          ·refine zBr rfl ?_ (Below.refl _ W) ⟨h.d 4 63,fun h=>by cases h⟩
           simp only[execOp];rfl
          ·obtain⟨x,ex,hx⟩:=CallB.fst (h.d 5 58);refine zBr rfl ?_ (Below.refl _ W) ⟨hx,fun h=>by cases h⟩
           simp only[execOp,ex];simp[go_sem]
          ·obtain⟨x,ex,hx⟩:=CallB.fst (h.d 5 58);refine zAA rfl ?_ (by decide)
           simp only[execOp,ex];simp[go_sem]
         case en =>
          intro vals W hbw hv _;have v0:vals 0=zAc d (.slice p 1 c):=hv 0 (by omega)
          have v1:vals 1=.slice (some ⟨g,off,none⟩) 1 vc:=hv 1 (by omega)
          have v2:vals 2=.pointer (some ⟨g,off,none⟩):=hv 2 (by omega)
          have v3:vals 3=.agg (zAy y):=hv 3 (by omega)
          have v7:vals 7=.bool o.isSome:=hv 7 (by omega)
          have x6:FstB w.heap.size Gk o (vals 6) W:=hv 6 (by omega)
          simp only[fa,Nat.reduceAdd];rw[v0,v1,v2,v3,v7];clear hv v0 v1 v2 v3 v7;simp only[pl];clear hrep
          cases o with
          | none =>
           obtain⟨d1,q1,n1,c1,e6⟩:=x6;rw[e6];clear e6;replace H:=H.call hbw;clear hbw
           go_wp2_with (first|((with_reducible refine gT ?_);(refine aT H ?_;clear H;intro w H;try simp only[nr]at H)))
           have H3:=H.pick [4,5] [.blk b2 (zAU {kind:=0} nilS) 87,.blk b8 (zAU d1 (.slice q1 n1 c1)) 87] (by decide) rfl
           (refine Met.intro ?_;go_step;exact⟨⟨_,rfl,rfl,rfl,rfl,rfl,rfl⟩,⟨d1,q1,n1,c1,H3⟩⟩)
          | some ct =>
           obtain⟨q3,m3,F3,e6,hs,hF3⟩:=x6;rw[e6];clear e6;replace H:=H.learn hbw (Still.at (i:=1) i_1) hF3 (fun V hV=>hs.kept hV);simp only[ca]at H
           have hF4:∀ b,F3 b→w0.heap.size≤b∨F b:=fun b h=>(hF3 b h).2.elim (fun h=>.inl (Nat.le_trans HSW.out h)) (hGl b)
           clear hbw hs hF3
           go_wp2_with (first|((with_reducible refine gT ?_);(refine aT H ?_;clear H;intro w H;try simp only[nr]at H)))
           have H3:=H.pick [4,5,6] [.blk b2 (zAU {kind:=0} nilS) 87,.blk b8 (zAU ct.d (.slice q3 ct.kids.length m3)) 87,.kn F3 (fun V=>ForestR V F3 q3 m3 ct.kids)] (by decide) rfl
           (refine Met.intro ?_;go_step;exact⟨⟨_,rfl,rfl,rfl,rfl,rfl,rfl⟩,⟨q3,m3,F3,hF4,H3⟩⟩)
         case en2 =>
          intro vals W hbw hv _;have v0:vals 0=zAc d (.slice p 1 c):=hv 0 (by omega) (by omega)
          have v1:vals 1=.slice (some ⟨g,off,none⟩) 1 vc:=hv 1 (by omega) (by omega)
          have v2:vals 2=.pointer (some ⟨g,off,none⟩):=hv 2 (by omega) (by omega)
          have v3:vals 3=.agg (zAy y):=hv 3 (by omega) (by omega)
          obtain⟨x5,v5,_⟩:=CallB.fst (show CallB w.heap.size Gk o (vals 5) W from hv 5 (by omega) (by omega))
          have x6:FstB w.heap.size Gk o (vals 6) W:=hv 6 (by omega) (by omega)
          simp only[List.take_succ_cons,List.take_zero,List.drop_succ_cons,List.drop_zero,List.drop_nil,List.take_nil,zC1,zHd,List.cons_append,List.nil_append,Nat.reduceEqDiff,if_true,if_false,reduceCtorEq,Nat.zero_add,Nat.reduceAdd];rw[v0,v1,v2,v3,v5];clear hv v0 v1 v2 v3 v5;simp only[pl];clear hrep
          cases o with
          | none =>
           obtain⟨d1,q1,n1,c1,e6⟩:=x6;rw[e6];clear e6;replace H:=H.call hbw;clear hbw
           go_wp2_with (first|((with_reducible refine gT ?_);(refine aT H ?_;clear H;intro w H;try simp only[nr]at H)))
           have H3:=H.pick [4,5] [.blk b2 (zAU {kind:=0} nilS) 87,.blk b8 (zAU d1 (.slice q1 n1 c1)) 87] (by decide) rfl
           (refine Met.intro ?_;go_step;exact⟨⟨_,rfl,rfl,rfl,rfl,rfl,rfl⟩,⟨d1,q1,n1,c1,H3⟩⟩)
          | some ct =>
           obtain⟨q3,m3,F3,e6,hs,hF3⟩:=x6;rw[e6];clear e6;replace H:=H.learn hbw (Still.at (i:=1) i_1) hF3 (fun V hV=>hs.kept hV);simp only[ca]at H
           have hF4:∀ b,F3 b→w0.heap.size≤b∨F b:=fun b h=>(hF3 b h).2.elim (fun h=>.inl (Nat.le_trans HSW.out h)) (hGl b)
           clear hbw hs hF3
           go_wp2_with (first|((with_reducible refine gT ?_);(refine aT H ?_;clear H;intro w H;try simp only[nr]at H)))
           have H3:=H.pick [4,5,6] [.blk b2 (zAU {kind:=0} nilS) 87,.blk b8 (zAU ct.d (.slice q3 ct.kids.length m3)) 87,.kn F3 (fun V=>ForestR V F3 q3 m3 ct.kids)] (by decide) rfl
           (refine Met.intro ?_;go_step;exact⟨⟨_,rfl,rfl,rfl,rfl,rfl,rfl⟩,⟨q3,m3,F3,hF4,H3⟩⟩)
        ·have d6:(d.kind == 6)=false:=by rw[beq_eq_false_iff_ne];exact h6
         have eo:o=some (.mk d (xs.map (·.1))):=by rw[← HO.out,ruleT.eq_def,if_neg h7,if_neg h4,if_neg h5,if_neg h6]
         subst eo;clear h7 h4 h5 h6
         go_wp2_with (first|fail)
         have H2:=H.also F (fun V=>ForestR V F p c (xs.map (·.1))) (Still.at (i:=0) .zero) (fun V hV=>((H.kn (i:=0) .zero).forestN HN.out.symm).kept hV)
         have H3:Hold w0 w [.blk b2 (zAU {kind:=0} nilS) 87,.blk b8 (zAU d (.slice p (xs.map (·.1)).length c)) 87,.kn F (fun V=>ForestR V F p c (xs.map (·.1)))]:=by
          rw[← HN2.out];exact H2.pick [4,5,6] _ (by decide) rfl
         (refine Met.intro ?_;go_step;exact⟨⟨_,rfl,rfl,rfl,rfl,rfl,rfl⟩,⟨p,c,F,fun _ h=>.inr h,H3⟩⟩)
    (rintro _ wc ⟨⟨t,rfl,ht,e1,e2,e8,e9⟩,hcut⟩;have hl:=zSc t ht;clear ht;obtain⟨u0,hl⟩:=hl;obtain⟨u1,hl⟩:=hl;obtain⟨u2,hl⟩:=hl;obtain⟨u3,hl⟩:=hl;obtain⟨u4,hl⟩:=hl;obtain⟨u5,hl⟩:=hl;obtain⟨u6,hl⟩:=hl;obtain⟨u7,hl⟩:=hl;obtain⟨u8,hl⟩:=hl;obtain⟨u9,hl⟩:=hl;obtain⟨u10,hl⟩:=hl;obtain⟨u11,hl⟩:=hl;obtain⟨u12,hl⟩:=hl;obtain⟨u13,hl⟩:=hl;obtain⟨u14,hl⟩:=hl;obtain⟨u15,hl⟩:=hl;obtain⟨u16,hl⟩:=hl;obtain⟨u17,hl⟩:=hl;obtain⟨u18,hl⟩:=hl;obtain⟨u19,hl⟩:=hl;obtain⟨u20,hl⟩:=hl;obtain⟨u21,hl⟩:=hl;obtain⟨u22,hl⟩:=hl;obtain⟨u23,hl⟩:=hl;obtain⟨u24,hl⟩:=hl;obtain⟨u25,hl⟩:=hl;obtain⟨u26,hl⟩:=hl;obtain⟨u27,hl⟩:=hl;obtain⟨u28,hl⟩:=hl;obtain⟨u29,hl⟩:=hl;obtain⟨u30,hl⟩:=hl;obtain⟨u31,hl⟩:=hl;obtain⟨u32,hl⟩:=hl;obtain⟨u33,hl⟩:=hl;obtain⟨u34,hl⟩:=hl;obtain⟨u35,hl⟩:=hl;obtain⟨u36,hl⟩:=hl;obtain⟨u37,hl⟩:=hl;obtain⟨u38,hl⟩:=hl;obtain⟨u39,hl⟩:=hl;obtain⟨u40,hl⟩:=hl;obtain⟨u41,hl⟩:=hl;obtain⟨u42,hl⟩:=hl;obtain⟨u43,hl⟩:=hl;obtain⟨u44,hl⟩:=hl;obtain⟨u45,hl⟩:=hl;obtain⟨u46,hl⟩:=hl;obtain⟨u47,hl⟩:=hl;obtain⟨u48,hl⟩:=hl;obtain⟨u49,hl⟩:=hl;obtain⟨u50,hl⟩:=hl;obtain⟨u51,hl⟩:=hl;obtain⟨u52,hl⟩:=hl;obtain⟨u53,hl⟩:=hl;obtain⟨u54,hl⟩:=hl;obtain⟨u55,hl⟩:=hl;obtain⟨u56,hl⟩:=hl;obtain⟨u57,hl⟩:=hl;obtain⟨u58,hl⟩:=hl;obtain⟨u59,hl⟩:=hl;obtain⟨u60,hl⟩:=hl;obtain⟨u61,hl⟩:=hl;obtain⟨u62,hl⟩:=hl;obtain⟨u63,hl⟩:=hl;obtain⟨u64,hl⟩:=hl;obtain⟨u65,hl⟩:=hl;obtain⟨u66,hl⟩:=hl;obtain⟨u67,hl⟩:=hl;obtain⟨u68,hl⟩:=hl;obtain⟨u69,hl⟩:=hl;obtain⟨u70,hl⟩:=hl;obtain⟨u71,hl⟩:=hl;obtain⟨u72,hl⟩:=hl;subst hl;(replace e1:some u1=some (.pointer (some ⟨b1,0,none⟩)):=e1);(cases e1);(replace e2:some u2=some (.pointer (some ⟨b2,0,none⟩)):=e2);(cases e2);(replace e8:some u8=some (.pointer (some ⟨b8,0,none⟩)):=e8);(cases e8);(replace e9:some u9=some (.bool o.isSome):=e9);(cases e9))
    clear H
    cases o with
    | none =>
     obtain⟨d1,q1,n1,c1,H⟩:=hcut
     go_upto_region 22 with fail
     have hS:∀ W,RelS b2 (zAU d1 (.slice q1 n1 c1)) 87 wc W→∃ ds,ds.size=10∧Hold w0 W [.blk b2 ds 87,.blk b8 (zAU d1 (.slice q1 n1 c1)) 87]:=fun W hr=>by
      obtain⟨ds,hds,H2⟩:=H.relS (i:=0) .zero hr;exact⟨ds,by rcases hds with rfl|rfl<;>rfl,H2⟩
     refine zCb (RelS b2 (zAU d1 (.slice q1 n1 c1)) 87) RelS.refl RelS.trans RelS.drew 8 [fun v _=>v=zAc d1 (.slice q1 n1 c1),fun v _=>v=.bool false,fun v _=>v=.bool false,fun v _=>v=undef,fun v _=>v=undef,fun v _=>v=undef,fun v _=>v=.bool false,zKB b2 (zAU d1 (.slice q1 n1 c1)) 87]
      ⟨zAi _,zAi _,zAi _,zAi _,zAi _,zAi _,zAi _,zDX,trivial⟩ (by kernel_rfl) (by kernel_rfl) (by kernel_rfl) ?ob ?en
     case ob =>
      refine⟨?_,?_,?_,?_,?_,?_,?_,?_,trivial⟩<;>intro A W h
      ·obtain⟨ds,hsz,H2⟩:=hS W h.rel;exact zDB rfl (zAM RelS.refl rfl (zAb rfl (h.f 8) zAR rfl (fun k _=>by rw[Nat.zero_add];exact H2.cell (i:=1) i_1 k)))
      ·exact zDB rfl (zAg RelS.refl rfl rfl (h.f 9))
      ·exact zDB rfl (zAg RelS.refl rfl rfl (h.d 1 67))
      ·exact zDB rfl (zKo (zCt rfl (zAG (d:=68) rfl (h.d 2 68)) (by decide)) rfl)
      ·exact zDB rfl (zKo (zCt rfl (zAG (d:=68) rfl (h.d 2 68)) (by decide)) rfl)
      ·exact zDB rfl (zKo (zCt rfl (zAG (d:=68) rfl (h.d 2 68)) (by decide)) rfl)
      ·exact zDB rfl (zBQ RelS.refl rfl rfl (h.d 2 68) rfl)
      ·obtain⟨ds,hsz,H2⟩:=hS W h.rel;exact zIL rfl rfl rfl (h.f 2) (H2.blk (i:=0) .zero).2 hsz (h.d 0 66) (zBG (n:=10) zAR) rfl
     case en =>
      intro vals W1 hrel hv hlk;have v0:vals 0=zAc d1 (.slice q1 n1 c1):=hv 0 (by omega)
      have v1:vals 1=.bool false:=hv 1 (by omega)
      have v2:vals 2=.bool false:=hv 2 (by omega)
      have v3:vals 3=undef:=hv 3 (by omega)
      have v4:vals 4=undef:=hv 4 (by omega)
      have v5:vals 5=undef:=hv 5 (by omega)
      have v6:vals 6=.bool false:=hv 6 (by omega)
      have H2:=H.laidS (i:=0) .zero hrel (hv 7 (by omega))
      simp only[fa,Nat.reduceAdd];rw[v0,v1,v2,v3,v4,v5,v6];clear hv v0 v1 v2 v3 v4 v5 v6 hlk hrel H hS;have H:=H2;clear H2;simp only[sc]at H;simp only[pl]
      go_wp2_with fail
      (refine xct Tryz.results111 H ?_)
      exact⟨TreeB.no ER.out,H.below⟩
    | some t =>
     obtain⟨q1,c1,G1,hG1,H⟩:=hcut;have hsz:zAT t≤1000000000000:=by
      have h1:=zCV EX.out;have h2:=HN2.out;rw[← h2]at h1;have h3:=HO.out;unfold ruleT at h3;split at h3
      ·split at h3
       ·cases h3
       ·split at h3
        ·cases h3;rw[zDR];omega
        ·cases h3;simp only[zAT];omega
      split at h3
      ·cases h3;have:=zFq (xa.map (·.1));omega
      split at h3
      ·cases h3
       have h5:=zJs 5 (zCQ (xa.map (·.1)) 5 2) (zB6 2) (zDR 2);have h6:=zEv (xa.map (·.1)) 5 2;omega
      split at h3
      ·rename_i h6;obtain⟨hk1,hlo,hhi⟩:=ok_6 HKD.out.1 h6;split at h3
       ·cases h3
       ·rename_i l k r hl;rw[hl]at h1;simp only[zAK]at h1;rw[← h2]at hk1;have:=zJS h3 (by omega) hlo.1 (by omega) (by omega)
        omega
      ·cases h3;simp only[zAT];omega
     clear HO
     go_upto_region 22 with fail
     have hS:∀ W,RelS b2 (zAU t.d (.slice q1 t.kids.length c1)) 87 wc W→∃ ds,ds.size=10∧Hold w0 W [.blk b2 ds 87,.blk b8 (zAU t.d (.slice q1 t.kids.length c1)) 87,.kn G1 (fun V=>ForestR V G1 q1 c1 t.kids)]:=fun W hr=>by
      obtain⟨ds,hds,H2⟩:=H.relS (i:=0) .zero hr;exact⟨ds,by rcases hds with rfl|rfl<;>rfl,H2⟩
     refine zCb (RelS b2 (zAU t.d (.slice q1 t.kids.length c1)) 87) RelS.refl RelS.trans RelS.drew 8 [fun v _=>v=zAc t.d (.slice q1 t.kids.length c1),fun v _=>v=.bool true,fun v _=>v=.bool true,fun v _=>v=zAc t.d (.slice q1 t.kids.length c1),fun v _=>v=.int .i64 (zAT t),fun v _=>v=.bool (decide ((zAT t:Int)≤2000)),fun v _=>v=.bool (decide ((zAT t:Int)≤2000)),zKB b2 (zAU t.d (.slice q1 t.kids.length c1)) 87]
      ⟨zAi _,zAi _,zAi _,zAi _,zAi _,zAi _,zAi _,zDX,trivial⟩ (by kernel_rfl) (by kernel_rfl) (by kernel_rfl) ?ob ?en
     case ob =>
      refine⟨?_,?_,?_,?_,?_,?_,?_,?_,trivial⟩<;>intro A W h
      ·obtain⟨ds,hsz,H2⟩:=hS W h.rel;exact zDB rfl (zAM RelS.refl rfl (zAb rfl (h.f 8) zAR rfl (fun k _=>by rw[Nat.zero_add];exact H2.cell (i:=1) i_1 k)))
      ·exact zDB rfl (zAg RelS.refl rfl rfl (h.f 9))
      ·exact zDB rfl (zAg RelS.refl rfl rfl (h.d 1 67))
      ·obtain⟨ds,hsz,H2⟩:=hS W h.rel;exact zDB rfl (zAM RelS.refl (wg (h.d 2 68)) (zAb rfl (h.f 8) zAR rfl (fun k _=>by rw[Nat.zero_add];exact H2.cell (i:=1) i_1 k)))
      ·obtain⟨ds,hsz2,H2⟩:=hS W h.rel;exact zDB rfl (zA9 (wg (h.d 2 68)) rfl (enters_of Tryz.func138 (by kernel_rfl) rfl) (zCL (h.d 3 69)) ((zG3 _ t q1 _ c1 G1 W hsz (by decide) (H2.knlt (i:=2) i_2) (H2.kn (i:=2) i_2) rfl).mono fun _ _ ⟨h1,h2⟩=>⟨h1,RelS.of_below h2⟩))
      ·(have e70:A.eval (.tmp 70)=.int .i64 (zAT t):=h.d 4 70;refine zDB rfl (zAM RelS.refl (wg (h.d 2 68)) ?_);simp only[execOp,e70];simp[go_sem])
      ·exact zDB rfl (zBQ RelS.refl rfl rfl (h.d 2 68) (h.d 5 71))
      ·obtain⟨ds,hsz,H2⟩:=hS W h.rel;exact zIL rfl rfl rfl (h.f 2) (H2.blk (i:=0) .zero).2 hsz (h.d 0 66) (zBG (n:=10) zAR) rfl
     case en =>
      intro vals W1 hrel hv hlk;have v0:vals 0=zAc t.d (.slice q1 t.kids.length c1):=hv 0 (by omega)
      have v1:vals 1=.bool true:=hv 1 (by omega)
      have v2:vals 2=.bool true:=hv 2 (by omega)
      have v3:vals 3=zAc t.d (.slice q1 t.kids.length c1):=hv 3 (by omega)
      have v4:vals 4=.int .i64 (zAT t):=hv 4 (by omega)
      have v5:vals 5=.bool (decide ((zAT t:Int)≤2000)):=hv 5 (by omega)
      have v6:vals 6=.bool (decide ((zAT t:Int)≤2000)):=hv 6 (by omega)
      have H2:=H.laidS (i:=0) .zero hrel (hv 7 (by omega))
      simp only[fa,Nat.reduceAdd];rw[v0,v1,v2,v3,v4,v5,v6];clear hv v0 v1 v2 v3 v4 v5 v6 hlk hrel H hS;have H:=H2;clear H2;simp only[sc]at H;simp only[pl]
      go_wp2_with fail
      (refine xct Tryz.results111 H ?_)
      refine⟨?_,H.below⟩;rw[ER.out]
      by_cases hz:zAT t≤2000
      ·rw[show capT (some t)=some t from if_pos hz,decide_eq_true (by omega:(zAT t:Int)≤2000)]
       exact⟨q1,c1,G1,rfl,H.kn (i:=2) i_2,fun b h=>⟨H.knlt (i:=2) i_2 b h,hG1 b h⟩⟩
      ·rw[show capT (some t)=none from if_neg hz,decide_eq_false (by omega:¬ (zAT t:Int)≤2000)]
       exact⟨t.d,q1,_,c1,rfl⟩
section
variable {M:Nat→Prop} {P:Program} {f:FuncId} {args:Array Value} {w w0:World} {l3:List Res} {R:Ending→World→Prop} {bc:Nat} {v r:Value} {xs ys:List InstD} {F:Nat→Prop} {S:World→Prop}
def LayB (M:Nat→Prop) (w0:World) (bc:Nat) (v:Value) (xs:List InstD) (K:List Res) (w:World) (r:Value) (ys:List InstD) (e:Ending) (w':World):Prop :=
 ∃ v',e=.returned r∧Turned M w0 w (zBU bc v xs++K) (zBU bc v' ys++K) w'
theorem zRN {l:List Res}:∀ (n:Nat) (pre:List Res),pre.length=n→(List.range' n l.length).map (fun j=>(pre++l)[j]?)=l.map some:=by
 intro n pre hn;apply List.ext_getElem?;intro i;simp only[List.getElem?_map,List.getElem?_range']
 by_cases h:i<l.length
 ·simp[h,List.getElem?_append,hn]
 ·simp[h]
theorem chP (H:HoldG M w0 w (.blk bc #[v] 145::.row v 43 9 xs.length (zAP (xs.map zAY))::l3))
  (c:HoldG M w0 w (zBU bc v xs)→Calls P f args w (LayB M w0 bc v xs [] w r ys))
  (k:∀ v' w',HoldG M w0 w' (.blk bc #[v'] 145::.row v' 43 9 ys.length (zAP (ys.map zAY))::l3)→R (.returned r) w'):Calls P f args w R:=by
 refine(c (H.pick [0,1] _ (by decide) rfl)).mono ?_
 rintro e w' ⟨v',rfl,T⟩;simp only[List.append_nil]at T;refine k v' w' (H.callIn T [0,1] (List.range' 2 l3.length) rfl (zRN 2 [_,_] rfl) List.nodup_range' (fun j hj h=>?_))
 rw[List.mem_range'_1]at h;simp at hj;omega
theorem chL (H:HoldG M w0 w (.blk bc #[v] 145::.row v 43 9 xs.length (zAP (xs.map zAY))::l3)) (hF:Still (.blk bc #[v] 145::.row v 43 9 xs.length (zAP (xs.map zAY))::l3) F)
  (hS:∀ V:World,(∀ b,F b→V.heap[b]?=w.heap[b]?)→S V)
  (c:HoldG M w0 w (zBU bc v xs++[.kn F S])→Calls P f args w (LayB M w0 bc v xs [.kn F S] w r ys))
  (k:∀ v' w',HoldG M w0 w' (.blk bc #[v'] 145::.row v' 43 9 ys.length (zAP (ys.map zAY))::l3)→R (.returned r) w'):Calls P f args w R:=by
 have H2:HoldG M w0 w (zBU bc v xs++(l3++[Res.kn F S])):=H.also F S hF hS;have e:∀ (u:Value) (zs:List InstD) (k:List Res) (j:Nat),(zBU bc u zs++k)[j+2]?=k[j]?:=fun u zs k j=>rfl
 have hlast:(zBU bc v xs++(l3++[Res.kn F S]))[l3.length+2]?=some (Res.kn F S):=by rw[e];simp
 have hp:[0,1,l3.length+2].map (fun j=>(zBU bc v xs++(l3++[Res.kn F S]))[j]?)=(zBU bc v xs++[Res.kn F S]).map some:=by
  simp only[List.map_cons,List.map_nil,hlast];rfl
 have hq:(List.range' 2 l3.length).map (fun j=>(zBU bc v xs++(l3++[Res.kn F S]))[j]?)=l3.map some:=by
  have:=zRN (l:=l3) 2 (zBU bc v xs) rfl;rw[← this];apply List.map_congr_left;intro j hj;rw[List.mem_range'_1]at hj;obtain⟨q,rfl⟩:∃ q,j=q+2:=⟨j - 2,by omega⟩
  rw[e,e,List.getElem?_append_left (by omega)]
 refine(c (H2.pick [0,1,l3.length+2] _ (by simp) hp)).mono ?_
 rintro e' w' ⟨v',rfl,T⟩
 have H3:=H2.callIn T [0,1,l3.length+2] (List.range' 2 l3.length) (l3:=l3) hp hq List.nodup_range' (fun j hj h=>by
  rw[List.mem_range'_1]at h
  simp at hj;omega)
 refine k v' w' (H3.pick ([0,1]++List.range' 3 l3.length) _ ?_ ?_)
 ·rw[List.nodup_append];refine⟨by decide,List.nodup_range',fun a ha b hb=>?_⟩
  rw[List.mem_range'_1]at hb;simp at ha;omega
 ·have:=zRN (l:=l3) 3 (zBU bc v' ys++[Res.kn F S]) rfl;rw[List.map_append,this];rfl
end
theorem zCm {M:Nat→Prop} {w0 w:World} (bc:Nat) (v:Value) (xs:List InstD) (x:InstD) (H0:HoldG M w0 w (zBU bc v xs)) (hn:xs.length≤1000000000) :
  Calls Tryz.prog 68 #[.pointer (some ⟨bc,0,none⟩),zAu x] w (LayB M w0 bc v xs [] w (.int .i64 xs.length) (xs++[x])) :=
 (zRH bc v xs x H0 hn).mono fun e w' ⟨v',e1,T⟩=>⟨v',e1,by simpa only[List.append_nil] using T⟩
theorem zRF {M:Nat→Prop} {w0 w W:World} {l:List Res} {bc:Nat} {v v':Value} {xs ys:List InstD} {F:Nat→Prop} {S:World→Prop} (H:HoldG M w0 W l) {i:Nat} (hi:At l i (.kn (zDp w (zBU bc v xs++[.kn F S])) (zEf w (zBU bc v xs++[.kn F S])))) (hi3:2<i) (h:[0,1,2].map (fun j=>l[j]?)=(zBU bc v' ys++[Res.kn F S]).map some) :
  Turned M w0 w (zBU bc v xs++[.kn F S]) (zBU bc v' ys++[.kn F S]) W :=
 Turned.of H hi [0,1,2] (by decide) (by simp;omega) h (fun F' S' hm b hb=>by
  simp at hm;obtain⟨rfl,rfl⟩:=hm
  exact .inl ⟨.kn F' S',by simp,hb⟩)
theorem zSW {d:NodeD} {k:Nat} (h:zC6 d k=true) (h7:d.kind=7):0<d.group∧d.group≤20:=by
 simp[zC6,zAj,h7]at h;omega
theorem ok_5 {d:NodeD} {k:Nat} (h:zC6 d k=true) (h5:d.kind=5):1<k:=by
 simp[zC6,zAj,h5]at h;omega
theorem zED {M:Nat→Prop} {w0 w W:World} {l:List Res} {bc:Nat} {v v' r:Value} {xs ys:List InstD} {F:Nat→Prop} {S:World→Prop} {e:Ending} (H:HoldG M w0 W l) {i:Nat} (hi:At l i (.kn (zDp w (zBU bc v xs++[.kn F S])) (zEf w (zBU bc v xs++[.kn F S])))) (hi3:2<i) (h:[0,1,2].map (fun j=>l[j]?)=(zBU bc v' ys++[Res.kn F S]).map some) (he:e=.returned r):LayB M w0 bc v xs [.kn F S] w r ys e W :=
 ⟨v',he,zRF H hi hi3 h⟩
theorem zOW:∀ (m:Nat) (t:Tree) (p:Option Addr) (n c:Nat) (F:Nat→Prop) (bc:Nat) (v:Value) (xs:List InstD) (out:Nat) (M:Nat→Prop) (w0 w:World),zAT t≤m→m≤2000→zAn t=true→xs.length+3 * zAT t≤1000000→n=t.kids.length→HoldG M w0 w (zBU bc v xs++[.kn F (fun V=>ForestR V F p c t.kids)]) →
  Calls Tryz.prog 69 #[.pointer (some ⟨bc,0,none⟩),zAc t.d (.slice p n c),.int .i64 out] w (LayB M w0 bc v xs [.kn F (fun V=>ForestR V F p c t.kids)] w (.int .i64 (layP t out xs).1) (layP t out xs).2)
 | 0,t,_,_,_,_,_,_,_,_,_,_,_,hm,_,_,_,_,_=>by have:=zBL t;omega
 | m+1,.mk d ts,p,n,c,F,bc,v,xs,out,M,w0,w,hm,hm2,hkd,hxl,hn,H0=>by
  have IH:=zOW m;simp only[Tree.kids,Tree.d]at hn H0 ⊢;simp only[zAn,Bool.and_eq_true]at hkd;have H:=H0.framed;clear H0;obtain⟨rF,hrF⟩:∃ rF,zDp w (zBU bc v xs++[.kn F (fun V=>ForestR V F p c ts)])=rF:=⟨_,rfl⟩
  obtain⟨rS,hrS⟩:∃ rS,zEf w (zBU bc v xs++[.kn F (fun V=>ForestR V F p c ts)])=rS:=⟨_,rfl⟩
  rw[hrF,hrS]at H;simp only[zBU,List.cons_append,List.nil_append]at H;obtain⟨kx,h1,h2,hts⟩:=ForestR.open (H.kn (i:=2) i_2);have hn':n=kx.length:=by rw[hn,hts,List.length_map]
  have hK:Knows F p n c kx w:=⟨by rw[hn'];exact h1,h2⟩
  replace H:=H.also F (Knows F p n c kx) (Still.at (i:=2) i_2) (fun V hV=>hK.kept hV)
  simp only[ca]at H;have hc1:=hK.bound.2.1;have hc2:=hK.bound.2.2;have hp:=hK.at;clear hK h1 h2;simp only[zAT]at hm hxl;have hnl:n≤2000:=by have:=zDE ts;omega
  have HN:=Lib.hid hn';have HN2:=Lib.hid hn;clear hn hn';have HKD:=Lib.hid hkd;clear hkd;have HTS:=Lib.hid hts;clear hts;have hspl:=zOE d (.slice p n c)
  by_cases k1:d.kind=1
  ·have d1:(d.kind == 1)=true:=by rw[beq_iff_eq];exact k1
   have E:=Lib.hid (show layP (.mk d ts) out xs=(out,xs) by rw[layP,if_pos k1])
   clear k1 IH
   go_enter Tryz.func69,Tryz.ntmps69
   go_wp2_with (first|(first|((with_reducible refine gL ?_);refine aG H ?_)|((with_reducible refine gX ?_);(refine bB H ?_;clear H;intro b w H;try simp only[nr]at H))))
   go_ret;rw[E.out];rw[← hrF,← hrS]at H;exact zED H (i:=3) i_3 (by decide) rfl rfl
  have d1:(d.kind == 1)=false:=by rw[beq_eq_false_iff_ne];exact k1
  by_cases k2:d.kind=2
  ·have d2:(d.kind == 2)=true:=by rw[beq_iff_eq];exact k2
   have E:=Lib.hid (show layP (.mk d ts) out xs=(xs.length,xs++[{kind:=6}]) by rw[layP,if_neg k1,if_pos k2])
   clear k1 k2 IH
   go_enter Tryz.func69,Tryz.ntmps69
   go_wp2_with (first|(first|((with_reducible refine gBi ?_);refine ib1 ?_)|((with_reducible refine gL ?_);refine aG H ?_)|((with_reducible refine gX ?_);(refine bB H ?_;clear H;intro b w H;try simp only[nr]at H)))|(go_at_call 68;refine chP H (fun h=>zCm _ _ _ _ h (by first|omega|(simp only[List.length_append,List.length_cons,List.length_nil];omega))) ?_;clear H;intro v2 w H))
   go_ret;rw[E.out];rw[← hrF,← hrS]at H;exact zED H (i:=3) i_3 (by decide) rfl rfl
  have d2:(d.kind == 2)=false:=by rw[beq_eq_false_iff_ne];exact k2
  by_cases k3:d.kind=3
  ·have d3:(d.kind == 3)=true:=by rw[beq_iff_eq];exact k3
   have E:=Lib.hid (show layP (.mk d ts) out xs=(xs.length,xs++[{kind:=1,set:=d.set,next:=out}]) by rw[layP,if_neg k1,if_neg k2,if_pos k3])
   clear k1 k2 k3 IH
   go_enter Tryz.func69,Tryz.ntmps69
   go_wp2_with (first|(first|((with_reducible refine gBi ?_);refine ib2 ?_)|((with_reducible refine gL ?_);(first|refine aVn H ?_|refine aG H ?_))|((with_reducible refine gX ?_);(refine bB H ?_;clear H;intro b w H;try simp only[nr]at H)))|(go_at_call 68;refine chP H (fun h=>zCm _ _ _ _ h (by first|omega|(simp only[List.length_append,List.length_cons,List.length_nil];omega))) ?_;clear H;intro v2 w H))
   go_ret;rw[E.out];rw[← hrF,← hrS]at H;exact zED H (i:=3) i_3 (by decide) rfl rfl
  have d3:(d.kind == 3)=false:=by rw[beq_eq_false_iff_ne];exact k3
  by_cases k4:d.kind=4
  ·have d4:(d.kind == 4)=true:=by rw[beq_iff_eq];exact k4
   have E:=Lib.hid (show layP (.mk d ts) out xs=layC ts out xs by rw[layP,if_neg k1,if_neg k2,if_neg k3,if_pos k4])
   clear k1 k2 k3 k4
   go_enter Tryz.func69,Tryz.ntmps69
   go_wp2_with (first|((first|((with_reducible refine kgA 4 ?_);refine kA 4 H ?_)|((with_reducible refine kgX 4 ?_);(first|refine kS 4 H ?_|refine kB 4 H ?_)));clear H;intro b4 w H;try simp only[nr]at H)|((with_reducible refine gL ?_);refine aG H ?_))
   go_loopw [2,8] (fun vo ix wr=>∃ (j o:Nat) (z:Int) (ys:List InstD) (v':Value),j≤n∧z=(j:Int) - 1∧vo=.int .i64 o∧ix=.int .i64 z∧Hid (layC (ts.drop j) out xs=(o,ys))∧HoldG M w0 wr [.blk bc #[v'] 145,.row v' 43 9 ys.length (zAP (ys.map zAY)),.kn F (fun V=>ForestR V F p c ts),.kn rF rS,.kn F (Knows F p n c kx),.blk b4 (zAU d (.slice p n c)) 87]) (fun _ ix _=>(intOf ix+1).toNat)
   case atStart=>exact⟨n,out,_,xs,v,Nat.le_refl _,rfl,rfl,rfl,Lib.hid (by rw[List.drop_eq_nil_of_le (by rw[HN2.out];exact Nat.le_refl _)];rfl),H⟩
   case round =>
    clear H;obtain⟨j,o,z,ys,v',hj,hz,rfl,rfl,EC,H⟩:=hrel
    by_cases h0:j=0
    ·have hz0:z = -1:=by omega
     subst h0;have dz:decide ((0:Int)≤z)=false:=by simp;omega
     clear hz hz0;have E2:=Lib.hid (show layP (.mk d ts) out xs=(o,ys) by rw[E.out,← EC.out];rfl)
     clear IH EC E
     go_wp2_with (first|fail)
     go_ret;rw[E2.out];rw[← hrF,← hrS]at H;exact zED H (i:=3) i_3 (by decide) rfl rfl
    ·obtain⟨q,rfl⟩:∃ q,j=q+1:=⟨j - 1,by omega⟩
     have hzq:z=(q:Int):=by omega
     subst hzq;have dj:decide ((0:Int)≤(q:Int))=true:=by simp
     have hyl:ys.length≤xs.length+(3 * zAK (ts.drop (q+1)) - 1):=by
      have:=(zIb (ts.drop (q+1)) out xs).2
      rwa [EC.out]at this
     obtain⟨y,hy⟩:∃ y,kx[q]?=some y:=⟨_,List.getElem?_eq_getElem (by have:=HN.out;omega)⟩
     have hmem:y ∈ kx:=List.mem_of_getElem? hy;have hty:ts[q]?=some y.1:=by rw[HTS.out,List.getElem?_map,hy];rfl
     have hky:zAn y.1=true:=zDN HKD.out.2 hty;have hsz:=zE2 hty;have hdr:ts.drop q=y.1::ts.drop (q+1):=by
      obtain⟨hlt,e⟩:=List.getElem?_eq_some_iff.1 hty;rw[← e];exact List.drop_eq_getElem_cons hlt
     have hsd:zAK (ts.drop (q+1))+zAT y.1≤zAK ts:=by
      have h1:zAK ts=zAK (ts.take q)+zAK (ts.drop q):=by rw[← zAe,List.take_append_drop]
      rw[h1,hdr];simp only[zAK];omega
     obtain⟨g,off,rfl⟩:=hp (by have:=HN.out;omega)
     have hcell:∀ V,Knows F (some ⟨g,off,none⟩) n c kx V→∀ k,k<10→V.cell? ⟨g,off+q * 10+k,none⟩=(zAy y)[k]?:=fun V h=>h.cells hy rfl
     obtain⟨ar,hal⟩:∃ a,layP y.1 o ys=a:=⟨_,rfl⟩;obtain⟨a,zs⟩:=ar;have hlay:∀ v' w',HoldG M w0 w' (zBU bc v' ys++[.kn F (fun V=>ForestR V F y.2.1 y.2.2 y.1.kids)])→Calls Tryz.prog 69 #[.pointer (some ⟨bc,0,none⟩),.agg (zAy y),.int .i64 (o:Nat)] w' (LayB M w0 bc v' ys [.kn F (fun V=>ForestR V F y.2.1 y.2.2 y.1.kids)] w' (.int .i64 a) zs):=fun v' w' h=>by
      have:=IH y.1 y.2.1 y.1.kids.length y.2.2 F bc v' ys o M w0 w' (by omega) (by omega) hky (by omega) rfl h
      rw[hal]at this;exact this
     have E3:=Lib.hid (show layC (ts.drop q) out xs=(a,zs) by rw[hdr,layC,EC.out];exact hal)
     clear IH hal hdr hty hky hsz hsd hz EC hp hy h0
     go_wp2_with (first|((with_reducible refine gL ?_);refine zAS wtd_ _ _ rfl rfl zAR (zAz y) (hcell _ (H.kn (i:=4) i_4)) ?_)|((with_reducible refine gL ?_);refine aG H ?_)|(go_at_call 69;refine chL (F:=F) (S:=fun V=>ForestR V F y.2.1 y.2.2 y.1.kids) H (Still.at (i:=4) i_4) (fun V hV=>((H.kn (i:=4) i_4).2 y hmem).kept hV) (fun h=>hlay _ _ h) ?_;clear H;intro v3 w H))
     go_roundw
     case rel=>exact⟨q,a,_,zs,v3,by omega,by first|rfl|omega,rfl,by go_num,E3,H⟩
     case measure=>simp[intOf]<;>omega
  have d4:(d.kind == 4)=false:=by rw[beq_eq_false_iff_ne];exact k4
  by_cases k5:d.kind=5
  ·have d5:(d.kind == 5)=true:=by rw[beq_iff_eq];exact k5
   have E:=Lib.hid (show layP (.mk d ts) out xs=layA ts out xs by rw[layP,if_neg k1,if_neg k2,if_neg k3,if_neg k4,if_pos k5])
   have hn1:=ok_5 HKD.out.1 k5;clear k1 k2 k3 k4 k5;obtain⟨nn,hnn⟩:∃ nn,n=nn+1:=⟨n - 1,by have:=HN2.out;omega⟩
   subst hnn
   go_enter Tryz.func69,Tryz.ntmps69
   go_upto_region 16 with (first|((first|((with_reducible refine kgA 4 ?_);refine kA 4 H ?_)|((with_reducible refine kgX 4 ?_);(first|refine kS 4 H ?_|refine kB 4 H ?_)));clear H;intro b4 w H;try simp only[nr]at H)|((with_reducible refine gL ?_);refine aG H ?_))
   obtain⟨y,hy⟩:∃ y,kx[nn]?=some y:=⟨_,List.getElem?_eq_getElem (by have:=HN.out;omega)⟩
   have hmem:y ∈ kx:=List.mem_of_getElem? hy;have hty:ts[nn]?=some y.1:=by rw[HTS.out,List.getElem?_map,hy];rfl
   have hky:zAn y.1=true:=zDN HKD.out.2 hty;have hsz:=zE2 hty;have hdr:ts.drop nn=y.1::ts.drop (nn+1):=by
    obtain⟨hlt,e⟩:=List.getElem?_eq_some_iff.1 hty;rw[← e];exact List.drop_eq_getElem_cons hlt
   have hsd:zAK (ts.drop (nn+1))+zAT y.1≤zAK ts:=by
    have h1:zAK ts=zAK (ts.take nn)+zAK (ts.drop nn):=by rw[← zAe,List.take_append_drop]
    rw[h1,hdr];simp only[zAK];omega
   obtain⟨g,off,rfl⟩:=hp (by have:=HN.out;omega)
   have hcell:∀ V,Knows F (some ⟨g,off,none⟩) (nn+1) c kx V→∀ k,k<10→V.cell? ⟨g,off+nn * 10+k,none⟩=(zAy y)[k]?:=fun V h=>h.cells hy rfl
   obtain⟨ar,hal⟩:∃ a,layP y.1 out xs=a:=⟨_,rfl⟩;obtain⟨a,zs⟩:=ar;have hlay:∀ v' w',HoldG M w0 w' (zBU bc v' xs++[.kn F (fun V=>ForestR V F y.2.1 y.2.2 y.1.kids)])→Calls Tryz.prog 69 #[.pointer (some ⟨bc,0,none⟩),.agg (zAy y),.int .i64 (out:Nat)] w' (LayB M w0 bc v' xs [.kn F (fun V=>ForestR V F y.2.1 y.2.2 y.1.kids)] w' (.int .i64 a) zs):=fun v' w' h=>by
    have:=IH y.1 y.2.1 y.1.kids.length y.2.2 F bc v' xs out M w0 w' (by omega) (by omega) hky (by omega) rfl h
    rw[hal]at this;exact this
   have EA:=Lib.hid (show layA (ts.drop nn) out xs=(a,zs) by
    rw[hdr,List.drop_eq_nil_of_le (by rw[← HN2.out];exact Nat.le_refl _),layA];exact hal)
   clear hal hdr hty hky hsz hsd hy
   go_wp2_with (first|((with_reducible refine gL ?_);refine zAS wtd_ _ _ rfl rfl zAR (zAz y) (hcell _ (H.kn (i:=4) i_4)) ?_)|((with_reducible refine gL ?_);refine aG H ?_)|(go_at_call 69;refine chL (F:=F) (S:=fun V=>ForestR V F y.2.1 y.2.2 y.1.kids) H (Still.at (i:=4) i_4) (fun V hV=>((H.kn (i:=4) i_4).2 y hmem).kept hV) (fun h=>hlay _ _ h) ?_;clear H;intro v3 w H))
   clear hcell hlay hmem
   go_loopw [9,10] (fun vo ix wr=>∃ (j o:Nat) (z:Int) (ys:List InstD) (v':Value),j≤nn∧z=(j:Int) - 1∧vo=.int .i64 o∧ix=.int .i64 z∧Hid (layA (ts.drop j) out xs=(o,ys))∧HoldG M w0 wr [.blk bc #[v'] 145,.row v' 43 9 ys.length (zAP (ys.map zAY)),.kn F (fun V=>ForestR V F (some ⟨g,off,none⟩) c ts),.kn rF rS,.kn F (Knows F (some ⟨g,off,none⟩) (nn+1) c kx),.blk b4 (zAU d (.slice (some ⟨g,off,none⟩) (nn+1) c)) 87]) (fun _ ix _=>(intOf ix+1).toNat)
   case atStart=>exact⟨nn,a,_,zs,v3,Nat.le_refl _,rfl,rfl,rfl,EA,H⟩
   case round =>
    clear H EA;obtain⟨j,o,z,ys,v',hj,hz,rfl,rfl,EC,H⟩:=hrel
    by_cases h0:j=0
    ·have hz0:z = -1:=by omega
     subst h0;have dz:decide ((0:Int)≤z)=false:=by simp;omega
     clear hz hz0;have E2:=Lib.hid (show layP (.mk d ts) out xs=(o,ys) by rw[E.out,← EC.out];rfl)
     clear IH EC E
     go_wp2_with (first|fail)
     go_ret;rw[E2.out];rw[← hrF,← hrS]at H;exact zED H (i:=3) i_3 (by decide) rfl rfl
    ·obtain⟨q,rfl⟩:∃ q,j=q+1:=⟨j - 1,by omega⟩
     have hzq:z=(q:Int):=by omega
     subst hzq;have dj:decide ((0:Int)≤(q:Int))=true:=by simp
     have hyl:ys.length≤xs.length+(3 * zAK (ts.drop (q+1)) - 1):=by
      have:=(zI2 (ts.drop (q+1)) out xs).2
      rwa [EC.out]at this
     obtain⟨y,hy⟩:∃ y,kx[q]?=some y:=⟨_,List.getElem?_eq_getElem (by have:=HN.out;omega)⟩
     have hmem:y ∈ kx:=List.mem_of_getElem? hy;have hty:ts[q]?=some y.1:=by rw[HTS.out,List.getElem?_map,hy];rfl
     have hky:zAn y.1=true:=zDN HKD.out.2 hty;have hsz:=zE2 hty;have hdr:ts.drop q=y.1::ts.drop (q+1):=by
      obtain⟨hlt,e⟩:=List.getElem?_eq_some_iff.1 hty;rw[← e];exact List.drop_eq_getElem_cons hlt
     have hsd:zAK (ts.drop (q+1))+zAT y.1≤zAK ts:=by
      have h1:zAK ts=zAK (ts.take q)+zAK (ts.drop q):=by rw[← zAe,List.take_append_drop]
      rw[h1,hdr];simp only[zAK];omega
     have hcell:∀ V,Knows F (some ⟨g,off,none⟩) (nn+1) c kx V→∀ k,k<10→V.cell? ⟨g,off+q * 10+k,none⟩=(zAy y)[k]?:=fun V h=>h.cells hy rfl
     obtain⟨ar,hal⟩:∃ a,layP y.1 out ys=a:=⟨_,rfl⟩;obtain⟨a,zs⟩:=ar;have hlay:∀ v' w',HoldG M w0 w' (zBU bc v' ys++[.kn F (fun V=>ForestR V F y.2.1 y.2.2 y.1.kids)])→Calls Tryz.prog 69 #[.pointer (some ⟨bc,0,none⟩),.agg (zAy y),.int .i64 (out:Nat)] w' (LayB M w0 bc v' ys [.kn F (fun V=>ForestR V F y.2.1 y.2.2 y.1.kids)] w' (.int .i64 a) zs):=fun v' w' h=>by
      have:=IH y.1 y.2.1 y.1.kids.length y.2.2 F bc v' ys out M w0 w' (by omega) (by omega) hky (by omega) rfl h
      rw[hal]at this;exact this
     have hzl:zs.length≤ys.length+(3 * zAT y.1 - 1):=by
      have:=(zCk y.1 out ys).2
      rwa [hal]at this
     have E3:=Lib.hid (show layA (ts.drop q) out xs=(zs.length,zs++[{kind:=2,next:=a,other:=o}]) by
      obtain⟨k2,hk2⟩:∃ k2,ts[q+1]?=some k2:=⟨_,List.getElem?_eq_getElem (by have:=HN2.out;omega)⟩
      have hd2:ts.drop (q+1)=k2::ts.drop (q+2):=by
       obtain⟨hlt,e⟩:=List.getElem?_eq_some_iff.1 hk2;rw[← e];exact List.drop_eq_getElem_cons hlt
      have hec:=EC.out;rw[hdr];rw[hd2]at hec ⊢;rw[layA]
      simp only[hec,hal])
     have hzl2:zs.length≤1000000:=by omega
     clear IH hal hdr hty hky hsz hsd hz EC hp hy h0 hyl hzl
     go_wp2_with (first|((with_reducible refine gL ?_);refine zAS wtd_ _ _ rfl rfl zAR (zAz y) (hcell _ (H.kn (i:=4) i_4)) ?_)|(first|((with_reducible refine gBi ?_);refine ib3 ?_)|((with_reducible refine gL ?_);refine aG H ?_))|(go_at_call 69;refine chL (F:=F) (S:=fun V=>ForestR V F y.2.1 y.2.2 y.1.kids) H (Still.at (i:=4) i_4) (fun V hV=>((H.kn (i:=4) i_4).2 y hmem).kept hV) (fun h=>hlay _ _ h) ?_;clear H;intro v3 w H)|(go_at_call 68;refine chP H (fun h=>zCm _ _ _ _ h (by first|omega|(simp only[List.length_append,List.length_cons,List.length_nil];omega))) ?_;clear H;intro v2 w H))
     go_roundw
     case rel=>exact⟨q,_,_,_,v2,by omega,by first|rfl|omega,rfl,by go_num,E3,H⟩
     case measure=>simp[intOf]<;>omega
  have d5:(d.kind == 5)=false:=by rw[beq_eq_false_iff_ne];exact k5
  by_cases k7:d.kind=7
  ·have d7:(d.kind == 7)=true:=by rw[beq_iff_eq];exact k7
   obtain⟨y,rfl⟩:∃ y,kx=[y]:=by
    have h1:ts.length=1:=ok_7 HKD.out.1 k7;have h2:=congrArg List.length HTS.out;rw[List.length_map,h1]at h2;exact List.length_eq_one_iff.1 h2.symm
   have hts1:ts=[y.1]:=HTS.out;have hn1:n=1:=HN.out;subst hn1;obtain⟨g,off,rfl⟩:=hp (by simp)
   have hmem:y ∈ [y]:=List.mem_singleton.2 rfl;have hky:zAn y.1=true:=by have:=HKD.out.2;rw[hts1]at this;simpa [zAf] using this
   have hsy:zAT y.1≤m:=by rw[hts1]at hm;simp only[zAK]at hm;omega
   have hsy2:zAK ts=zAT y.1:=by rw[hts1];simp[zAK]
   have hcell:∀ V,Knows F (some ⟨g,off,none⟩) 1 c [y] V→∀ k,k<10→V.cell? ⟨g,off+k,none⟩=(zAy y)[k]?:=fun V h=>h.cells (j:=0) rfl rfl
   have hg:=zSW HKD.out.1 k7;have hw1:IntKind.i64.wrap (2 * d.group)=2 * d.group:=by rw[IntKind.wrap_i64];omega
   have hw2:IntKind.i64.wrap (2 * d.group+1)=2 * d.group+1:=by rw[IntKind.wrap_i64];omega
   obtain⟨ar,hal⟩:∃ a,layP y.1 xs.length (xs++[{kind:=3,slot:=2 * d.group+1,next:=out}])=a:=⟨_,rfl⟩;obtain⟨a,ys⟩:=ar;have hlay:∀ v' w',HoldG M w0 w' (zBU bc v' (xs++[{kind:=3,slot:=2 * d.group+1,next:=out}])++[.kn F (fun V=>ForestR V F y.2.1 y.2.2 y.1.kids)])→Calls Tryz.prog 69 #[.pointer (some ⟨bc,0,none⟩),.agg (zAy y),.int .i64 (xs.length:Nat)] w' (LayB M w0 bc v' (xs++[{kind:=3,slot:=2 * d.group+1,next:=out}]) [.kn F (fun V=>ForestR V F y.2.1 y.2.2 y.1.kids)] w' (.int .i64 a) ys):=fun v' w' h=>by
    have:=IH y.1 y.2.1 y.1.kids.length y.2.2 F bc v' (xs++[{kind:=3,slot:=2 * d.group+1,next:=out}]) xs.length M w0 w' hsy (by omega) hky (by simp only[List.length_append,List.length_cons,List.length_nil];omega) rfl h
    rw[hal]at this;exact this
   have hyl:ys.length≤xs.length+3 * zAK ts+1:=by
    have:=(zCk y.1 xs.length (xs++[{kind:=3,slot:=2 * d.group+1,next:=out}])).2;rw[hal]at this;have:=zBL y.1;simp only[List.length_append,List.length_cons,List.length_nil]at *;omega
   have E:=Lib.hid (show layP (.mk d ts) out xs=(ys.length,ys++[{kind:=3,slot:=2 * d.group,next:=a}]) by rw[layP,if_neg k1,if_neg k2,if_neg k3,if_neg k4,if_neg k5,if_pos k7,hts1];simp only[layH,hal])
   clear k1 k2 k3 k4 k5 k7 IH hal hts1 hky hsy hsy2
   go_enter Tryz.func69,Tryz.ntmps69
   go_wp2_with (first|((with_reducible refine gL ?_);refine zAS wtd_ _ _ rfl rfl zAR (zAz y) (hcell _ (H.kn (i:=4) i_4)) ?_)|(first|((with_reducible refine gBi ?_);refine ib4 ?_)|((with_reducible refine gL ?_);refine aG H ?_)|((with_reducible refine gX ?_);(refine bB H ?_;clear H;intro b w H;try simp only[nr]at H)))|(go_at_call 69;refine chL (F:=F) (S:=fun V=>ForestR V F y.2.1 y.2.2 y.1.kids) H (Still.at (i:=4) i_4) (fun V hV=>((H.kn (i:=4) i_4).2 y hmem).kept hV) (fun h=>hlay _ _ h) ?_;clear H;intro v3 w H)|(go_at_call 68;refine chP H (fun h=>zCm _ _ _ _ h (by first|omega|(simp only[List.length_append,List.length_cons,List.length_nil];omega))) ?_;clear H;intro v2 w H))
   go_ret;rw[E.out];rw[← hrF,← hrS]at H;exact zED H (i:=3) i_3 (by decide) rfl rfl
  have d7:(d.kind == 7)=false:=by rw[beq_eq_false_iff_ne];exact k7
  by_cases k6:d.kind=6
  ·have d6:(d.kind == 6)=true:=by rw[beq_iff_eq];exact k6
   obtain⟨y,rfl⟩:∃ y,kx=[y]:=by
    have h1:ts.length=1:=(ok_6 HKD.out.1 k6).1;have h2:=congrArg List.length HTS.out;rw[List.length_map,h1]at h2;exact List.length_eq_one_iff.1 h2.symm
   have hts1:ts=[y.1]:=HTS.out;have hn1:n=1:=HN.out;subst hn1;obtain⟨g,off,rfl⟩:=hp (by simp)
   have hmem:y ∈ [y]:=List.mem_singleton.2 rfl;have hky:zAn y.1=true:=by have:=HKD.out.2;rw[hts1]at this;simpa [zAf] using this
   have hsy:zAT y.1≤m:=by rw[hts1]at hm;simp only[zAK]at hm;omega
   have hsy2:zAK ts=zAT y.1:=by rw[hts1];simp[zAK]
   have hcell:∀ V,Knows F (some ⟨g,off,none⟩) 1 c [y] V→∀ k,k<10→V.cell? ⟨g,off+k,none⟩=(zAy y)[k]?:=fun V h=>h.cells (j:=0) rfl rfl
   have d7:(d.kind == 7)=false:=by rw[beq_eq_false_iff_ne];exact k7
   by_cases h1:d.hi=1
   ·have dh:(d.hi == 1)=true:=by rw[beq_iff_eq];exact h1
    obtain⟨ar,hal⟩:∃ a,layP y.1 out xs=a:=⟨_,rfl⟩;obtain⟨a,ys⟩:=ar;have hlay:∀ v' w',HoldG M w0 w' (zBU bc v' xs++[.kn F (fun V=>ForestR V F y.2.1 y.2.2 y.1.kids)])→Calls Tryz.prog 69 #[.pointer (some ⟨bc,0,none⟩),.agg (zAy y),.int .i64 (out:Nat)] w' (LayB M w0 bc v' xs [.kn F (fun V=>ForestR V F y.2.1 y.2.2 y.1.kids)] w' (.int .i64 a) ys):=fun v' w' h=>by
     have:=IH y.1 y.2.1 y.1.kids.length y.2.2 F bc v' xs out M w0 w' hsy (by omega) hky (by omega) rfl h
     rw[hal]at this;exact this
    have hyl:ys.length≤xs.length+3 * zAK ts+1:=by
     have:=(zCk y.1 out xs).2;rw[hal]at this;have:=zBL y.1;simp only[List.length_append,List.length_cons,List.length_nil]at *;omega
    have E:=Lib.hid (show layP (.mk d ts) out xs=(ys.length,ys++[zDY d a out]) by rw[layP,if_neg k1,if_neg k2,if_neg k3,if_neg k4,if_neg k5,if_neg k7,if_pos k6,if_pos h1,hts1];simp only[layH,hal])
    clear k1 k2 k3 k4 k5 k6 k7 IH hal hts1 hky hsy hsy2 h1
    go_enter Tryz.func69,Tryz.ntmps69
    go_wp2_with (first|((with_reducible refine gL ?_);refine zAS wtd_ _ _ rfl rfl zAR (zAz y) (hcell _ (H.kn (i:=4) i_4)) ?_)|(first|((with_reducible refine gL ?_);(first|refine aG H ?_|refine aD H ?_))|((with_reducible refine gX ?_);(refine bB H ?_;clear H;intro b w H;try simp only[nr]at H)))|(go_at_call 69;refine chL (F:=F) (S:=fun V=>ForestR V F y.2.1 y.2.2 y.1.kids) H (Still.at (i:=4) i_4) (fun V hV=>((H.kn (i:=4) i_4).2 y hmem).kept hV) (fun h=>hlay _ _ h) ?_;clear H;intro v3 w H)|(go_at_call 68;refine chP H (fun h=>zCm _ _ _ _ h (by first|omega|(simp only[List.length_append,List.length_cons,List.length_nil];omega))) ?_;clear H;intro v2 w H)|((with_reducible refine ch (hspl _ _ _) H ?_);clear H;intro w H))
    go_ret;rw[E.out];rw[← hrF,← hrS]at H;exact zED H (i:=3) i_3 (by decide) rfl rfl
   ·have dh:(d.hi == 1)=false:=by rw[beq_eq_false_iff_ne];exact h1
    obtain⟨ar,hal⟩:∃ a,layP y.1 xs.length (xs++[{kind:=2}])=a:=⟨_,rfl⟩;obtain⟨a,ys⟩:=ar;have hlay:∀ v' w',HoldG M w0 w' (zBU bc v' (xs++[{kind:=2}])++[.kn F (fun V=>ForestR V F y.2.1 y.2.2 y.1.kids)])→Calls Tryz.prog 69 #[.pointer (some ⟨bc,0,none⟩),.agg (zAy y),.int .i64 (xs.length:Nat)] w' (LayB M w0 bc v' (xs++[{kind:=2}]) [.kn F (fun V=>ForestR V F y.2.1 y.2.2 y.1.kids)] w' (.int .i64 a) ys):=fun v' w' h=>by
     have:=IH y.1 y.2.1 y.1.kids.length y.2.2 F bc v' (xs++[{kind:=2}]) xs.length M w0 w' hsy (by omega) hky (by simp only[List.length_append,List.length_cons,List.length_nil];omega) rfl h
     rw[hal]at this;exact this
    have hyl:ys.length≤xs.length+3 * zAK ts+1:=by
     have:=(zCk y.1 xs.length (xs++[{kind:=2}])).2;rw[hal]at this;have:=zBL y.1;simp only[List.length_append,List.length_cons,List.length_nil]at *;omega
    have hyg:xs.length+1≤ys.length:=by
     have:=(zCk y.1 xs.length (xs++[{kind:=2}])).1;rw[hal]at this
     simpa using this
    have E:=Lib.hid (show layP (.mk d ts) out xs=(xs.length,ys.set xs.length (zDY d a out)) by rw[layP,if_neg k1,if_neg k2,if_neg k3,if_neg k4,if_neg k5,if_neg k7,if_pos k6,if_neg h1,hts1];simp only[layH,hal])
    clear k1 k2 k3 k4 k5 k6 k7 IH hal hts1 hky hsy hsy2 h1
    go_enter Tryz.func69,Tryz.ntmps69
    go_upto_region 33 with (first|((with_reducible refine gL ?_);refine zAS wtd_ _ _ rfl rfl zAR (zAz y) (hcell _ (H.kn (i:=4) i_4)) ?_)|((first|((with_reducible refine kgA 4 ?_);refine kA 4 H ?_)|((with_reducible refine kgX 4 ?_);(first|refine kS 4 H ?_|refine kB 4 H ?_)));clear H;intro b4 w H;try simp only[nr]at H)|(first|((with_reducible refine gBi ?_);refine ib1 ?_)|((with_reducible refine gL ?_);refine aG H ?_))|(go_at_call 69;refine chL (F:=F) (S:=fun V=>ForestR V F y.2.1 y.2.2 y.1.kids) H (Still.at (i:=4) i_4) (fun V hV=>((H.kn (i:=4) i_4).2 y hmem).kept hV) (fun h=>hlay _ _ h) ?_;clear H;intro v3 w H)|(go_at_call 68;refine chP H (fun h=>zCm _ _ _ _ h (by first|omega|(simp only[List.length_append,List.length_cons,List.length_nil];omega))) ?_;clear H;intro v2 w H))
    obtain⟨q2,c2,rfl,_,_,hq2⟩:=H.rowShape (i:=1) i_1;obtain⟨g2,rfl⟩:=hq2 (by omega)
    obtain⟨yl,hyl2⟩:∃ yl,ys.length=yl:=⟨_,rfl⟩;have HYL:=Lib.hid hyl2;rw[hyl2]at H hyl hyg;clear hyl2;refine zAr 10 [fun u _=>u=pt bc 0,fun u _=>u=pt bc 0,fun u _=>u=pt bc 0,fun u _=>u=.slice (some ⟨g2,0,none⟩) yl c2,fun u _=>u=.int .i64 (xs.length:Nat),fun u _=>u=zAc d (.slice (some ⟨g,off,none⟩) 1 c),fun u _=>u=.int .i64 (a:Nat),fun u _=>u=.int .i64 (out:Nat),fun u _=>u=zAu (zDY d a out),fun u _=>u=.pointer (some ⟨g2,xs.length * 9,none⟩)] (fun _=>false) (by kernel_rfl) (by kernel_rfl) (by kernel_rfl) ⟨zAF _,zAF _,zAF _,zAF _,zAF _,zAF _,zAF _,zAF _,zAF _,zAF _,trivial⟩ (fun _ _ h=>by cases h) ?ob ?en
    case ob =>
     refine⟨?_,?_,?_,?_,?_,?_,?_,?_,?_,?_,trivial⟩<;>intro A W h
     ·exact zAB rfl rfl (h.f 0) (by decide)
     ·(have e:A.eval (.tmp 137)=.pointer (some ⟨bc,0,none⟩):=h.d 0 137;refine zAA rfl ?_ (by decide);simp only[execOp,e];simp[go_sem])
     ·(have e:A.eval (.tmp 138)=.pointer (some ⟨bc,0,none⟩):=h.d 1 138;refine zAA rfl ?_ (by decide);simp only[execOp,e];simp[go_sem])
     ·exact zAA rfl (zAC rfl (h.d 2 139) zB7 ((H.call h.below).cell (i:=0) .zero 0)) (by decide)
     ·exact zAB rfl rfl (h.f 15) (by decide)
     ·exact zAA rfl (zAb rfl (h.f 4) zAR rfl (fun k _=>by rw[Nat.zero_add];exact(H.call h.below).cell (i:=5) i_5 k)) (by decide)
     ·exact zAB rfl rfl (h.f 16) (by decide)
     ·exact zAB rfl rfl (h.f 2) (by decide)
     ·refine zDO rfl rfl (enters_of Tryz.func113 (by kernel_rfl) rfl) (zJi ⟨h.d 5 142,h.d 6 143,h.d 7 144⟩) ((hspl _ _ W).mono ?_)
      rintro e w' ⟨rfl,hb⟩;exact⟨_,rfl,hb,rfl,fun h=>by cases h⟩
     ·exact zAo (sz:=9) Tryz.underlying22 (fun w=>by kernel_rfl) rfl rfl (h.d 3 140) (h.d 4 141) (by omega) (by omega) (by decide)
    case en =>
     intro vals W hbw hv _;have v0:vals 0=.pointer (some ⟨bc,0,none⟩):=hv 0 (by omega)
     have v1:vals 1=.pointer (some ⟨bc,0,none⟩):=hv 1 (by omega)
     have v2:vals 2=.pointer (some ⟨bc,0,none⟩):=hv 2 (by omega)
     have v3:vals 3=.slice (some ⟨g2,0,none⟩) yl c2:=hv 3 (by omega)
     have v4:vals 4=.int .i64 (xs.length:Nat):=hv 4 (by omega)
     have v5:vals 5=zAc d (.slice (some ⟨g,off,none⟩) 1 c):=hv 5 (by omega)
     have v6:vals 6=.int .i64 (a:Nat):=hv 6 (by omega)
     have v7:vals 7=.int .i64 (out:Nat):=hv 7 (by omega)
     have v8:vals 8=zAu (zDY d a out):=hv 8 (by omega)
     have v9:vals 9=.pointer (some ⟨g2,xs.length * 9,none⟩):=hv 9 (by omega)
     simp only[fa,Nat.reduceAdd];rw[v0,v1,v2,v3,v4,v5,v6,v7,v8,v9];clear hv v0 v1 v2 v3 v4 v5 v6 v7 v8 v9;simp only[pl];replace H:=H.call hbw
     go_wp2_with (first|((with_reducible refine gTi ?_);refine zFt wtd_ _ _ _ rfl rfl rfl evd_ H (j:=1) i_1 (zBX _) (by rw[List.length_map];exact HYL.out) (zBG zAk) rfl rfl (by omega) ?_;clear H;intro w H)|fail)
     simp only[sc]at H;rw[← List.map_set,show yl=(ys.set xs.length (zDY d a out)).length by rw[List.length_set];exact HYL.out.symm]at H
     go_ret;rw[E.out];rw[← hrF,← hrS]at H;exact zED H (i:=3) i_3 (by decide) rfl rfl
  have d6:(d.kind == 6)=false:=by rw[beq_eq_false_iff_ne];exact k6
  have E:=Lib.hid (show layP (.mk d ts) out xs=(xs.length,xs++[{kind:=4,spot:=d.kind,next:=out}]) by rw[layP,if_neg k1,if_neg k2,if_neg k3,if_neg k4,if_neg k5,if_neg k7,if_neg k6])
  clear k1 k2 k3 k4 k5 k6 k7 IH
  go_enter Tryz.func69,Tryz.ntmps69
  go_wp2_with (first|(first|((with_reducible refine gBi ?_);refine ib5 ?_)|((with_reducible refine gL ?_);refine aG H ?_)|((with_reducible refine gX ?_);(refine bB H ?_;clear H;intro b w H;try simp only[nr]at H)))|(go_at_call 68;refine chP H (fun h=>zCm _ _ _ _ h (by first|omega|(simp only[List.length_append,List.length_cons,List.length_nil];omega))) ?_;clear H;intro v2 w H))
  go_ret;rw[E.out];rw[← hrF,← hrS]at H;exact zED H (i:=3) i_3 (by decide) rfl rfl
theorem zKF (m:Nat) (t:Tree) (p:Option Addr) (n c:Nat) (F:Nat→Prop) (w0:World) (hm:zAT t≤m) (hm2:m≤1000000000) (hF:∀ b,F b→b<w0.heap.size) (h:ForestR w0 F p c t.kids) (hn:n=t.kids.length) :
  Calls Tryz.prog 110 #[zAc t.d (.slice p n c)] w0 fun e w'=>e=.returned (.bool (zAn t&&decide ((zAT t:Int)≤2000)))∧Below w0.heap.size w0 w':=by
 subst hn;have H:=(Hold.start w0).know F (fun V=>ForestR V F p c t.kids) hF (fun i r h=>by simp at h) (fun V hV=>h.kept hV)
 clear h;simp only[List.nil_append]at H;have hki:=fun w (h1:∀ b,F b→b<w.heap.size) (h2:ForestR w F p c t.kids)=>zJQ m t p _ c F w hm (by omega) h1 h2 rfl
 have hsz:=fun w (h1:∀ b,F b→b<w.heap.size) (h2:ForestR w F p c t.kids)=>zG3 m t p _ c F w hm (by omega) h1 h2 rfl
 cases hk:zAn t with
 | true =>
  rw[hk]at hki
  go_enter Tryz.func110,Tryz.ntmps110
  go_wp2_with (first|(first|((with_reducible refine gL ?_);refine aD H ?_)|((with_reducible refine gX ?_);(refine bB H ?_;clear H;intro b w H;try simp only[nr]at H)))|((with_reducible first|refine ch (hki _ (H.knlt .zero) (H.kn .zero)) H ?_|refine ch (hsz _ (H.knlt .zero) (H.kn .zero)) H ?_);clear H;intro w H))
  go_ret;exact⟨rfl,H.below⟩
 | false =>
  rw[hk]at hki
  go_enter Tryz.func110,Tryz.ntmps110
  go_wp2_with (first|(first|((with_reducible refine gL ?_);refine aD H ?_)|((with_reducible refine gX ?_);(refine bB H ?_;clear H;intro b w H;try simp only[nr]at H)))|((with_reducible first|refine ch (hki _ (H.knlt .zero) (H.kn .zero)) H ?_|refine ch (hsz _ (H.knlt .zero) (H.kn .zero)) H ?_);clear H;intro w H))
  go_ret;exact⟨rfl,H.below⟩
def zQO (w:World) (r:Except Nat Tree) (e:Ending) (w':World):Prop:=match r with
 | .ok t=>∃ p c F,e=.returned (.tuple #[zAc t.d (.slice p t.kids.length c),.int .i64 0])∧ForestR w' F p c t.kids∧∀ b,F b→b<w'.heap.size∧w.heap.size≤b
 | .error k=>e=.returned (.tuple #[zAc {kind:=0} nilS,.int .i64 k])
theorem zJA (m:Nat) (t:Tree) (p:Option Addr) (n c:Nat) (F:Nat→Prop) (w0:World) (hm:zAT t≤m) (hm2:m≤1000000000) (hF:∀ b,F b→b<w0.heap.size) (h:ForestR w0 F p c t.kids) (hn:n=t.kids.length) :
  Calls Tryz.prog 67 #[zAc t.d (.slice p n c)] w0 fun e w'=>zQO w0 (zCX t) e w'∧Below w0.heap.size w0 w':=by
 subst hn;have H:=(Hold.start w0).know F (fun V=>ForestR V F p c t.kids) hF (fun i r h=>by simp at h) (fun V hV=>h.kept hV)
 clear h;simp only[List.nil_append]at H;have hri:=fun w (h1:∀ b,F b→b<w.heap.size) (h2:ForestR w F p c t.kids)=>zKF m t p _ c F w hm hm2 h1 h2 rfl
 by_cases hr:zAn t=true∧zAT t≤2000
 ·have er:(zAn t&&decide ((zAT t:Int)≤2000))=true:=by rw[hr.1];simp;omega
  rw[er]at hri;have hsi:=fun w (h1:∀ b,F b→b<w.heap.size) (h2:ForestR w F p c t.kids)=>zIA (zAT t) t p _ c F w (Nat.le_refl _) hr.2 hr.1 h1 h2 rfl
  cases hs:zBl t with
  | none =>
   rw[hs]at hsi;have E2:=Lib.hid (show zCX t=.error 7 by unfold zCX;rw[if_pos hr,hs])
   clear hr er hs
   go_enter Tryz.func67,Tryz.ntmps67
   go_wp2_with (first|(first|((with_reducible refine gT ?_);(refine aT H ?_;clear H;intro w H;try simp only[nr]at H))|((with_reducible refine gL ?_);refine aD H ?_)|((with_reducible refine gX ?_);(refine bB H ?_;clear H;intro b w H;try simp only[nr]at H))|((with_reducible refine gA ?_);(refine bA H ?_;clear H;intro b w H;try simp only[nr]at H))|((with_reducible refine gZ ?_);refine nb0 ?_))|((with_reducible refine ch (hri _ (H.knlt .zero) (H.kn .zero)) H ?_);clear H;intro w H)|(go_at_call 111;refine zK0 (hsi _ (H.knlt .zero) (H.kn .zero)) H ?_;clear H;intro d1 q1 k1 m1 w H))
   (refine xct Tryz.results67 H ?_)
   rw[E2.out];exact⟨rfl,H.below⟩
  | some s =>
   rw[hs]at hsi;have E2:=Lib.hid (show zCX t=.ok s by unfold zCX;rw[if_pos hr,hs])
   have hsl:=zGB hs;have hco:=fun w q1 m1 F1 (h1:∀ b,F1 b→b<w.heap.size) (h2:ForestR w F1 q1 m1 s.kids)=>zH1 (zAT s) s q1 s.kids.length m1 F1 w (Nat.le_refl _) (by omega) h1 h2 rfl
   clear hr er hs
   go_enter Tryz.func67,Tryz.ntmps67
   go_wp2_with (first|(first|((with_reducible refine gT ?_);(refine aT H ?_;clear H;intro w H;try simp only[nr]at H))|((with_reducible refine gL ?_);refine aD H ?_)|((with_reducible refine gX ?_);(refine bB H ?_;clear H;intro b w H;try simp only[nr]at H))|((with_reducible refine gA ?_);(refine bA H ?_;clear H;intro b w H;try simp only[nr]at H)))|((with_reducible refine ch (hri _ (H.knlt .zero) (H.kn .zero)) H ?_);clear H;intro w H)|(go_at_call 111;refine zK9 (hsi _ (H.knlt .zero) (H.kn .zero)) H (Still.at (i:=0) .zero) ?_;clear H;intro q1 m1 F1 w hF1 H;simp only[ca]at H)|(go_at_call 112;refine cht (hco _ _ _ _ (H.knlt (i:=3) i_3) (H.kn (i:=3) i_3)) H Still.none ?_;clear H;intro q2 m2 F2 w hF2 H;simp only[ca]at H))
   (refine xct Tryz.results67 H ?_)
   rw[E2.out];exact⟨⟨q2,m2,F2,rfl,H.kn (i:=5) i_5,fun b h=>⟨H.knlt (i:=5) i_5 b h,(hF2 b h).elim id False.elim⟩⟩,H.below⟩
 ·have er:(zAn t&&decide ((zAT t:Int)≤2000))=false:=by
   cases hk:zAn t
   ·rfl
   ·simp only[Bool.true_and,decide_eq_false_iff_not];intro h;exact hr ⟨hk,by omega⟩
  rw[er]at hri;have E2:=Lib.hid (show zCX t=.error 2 by unfold zCX;rw[if_neg hr])
  clear hr er
  go_enter Tryz.func67,Tryz.ntmps67
  go_wp2_with (first|(first|((with_reducible refine gT ?_);(refine aT H ?_;clear H;intro w H;try simp only[nr]at H))|((with_reducible refine gL ?_);refine aD H ?_)|((with_reducible refine gX ?_);(refine bB H ?_;clear H;intro b w H;try simp only[nr]at H))|((with_reducible refine gA ?_);(refine bA H ?_;clear H;intro b w H;try simp only[nr]at H))|((with_reducible refine gZ ?_);refine nb0 ?_))|((with_reducible refine ch (hri _ (H.knlt .zero) (H.kn .zero)) H ?_);clear H;intro w H))
  (refine xct Tryz.results67 H ?_)
  rw[E2.out];exact⟨rfl,H.below⟩
end
end Go.Proofs.YtdoflhjhaciepaaGreat
