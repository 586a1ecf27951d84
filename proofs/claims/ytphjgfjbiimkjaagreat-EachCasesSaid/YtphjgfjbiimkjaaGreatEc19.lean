/-
  Laws of walks, and walks.
-/
import Derived.Test.YtphjgfjbiimkjaaGreatEc18
import Derived.Test.YtphjgfjbiimkjaaGreatEc12
import Derived.Test.YtphjgfjbiimkjaaGreatEc6
import Derived.Test.YtphjgfjbiimkjaaGreatEc1
set_option linter.unusedVariables false
set_option linter.unusedSimpArgs false
set_option maxRecDepth 100000
set_option maxHeartbeats 16000000
namespace Go.Proofs.YtphjgfjbiimkjaaGreat
section
open Go.RowKit Go.Shelf
attribute [local go_sem] Oper.semAt_some
abbrev AB (b5 b6 b7:Nat) (most:Int) (u:Value) (q:Option Addr) (c:Nat) (xs:List zAV):List Res:=.blk b5 #[.int .i64 most] 3::.blk b6 #[u] 47::.blk b7 #[.slice q xs.length c] 47::.row (.slice q xs.length c) 55 1 xs.length (xs.map zAg)::xs.map zA5
theorem zFk (b5 b6 b7:Nat) (most:Int) (u:Value) (q:Option Addr) (c:Nat) (xs:List zAV):(AB b5 b6 b7 most u q c xs).all zAY=true:=by simp only[AB,List.all_cons,zBk];rfl
def CA (rows:List zAP) (b5 b6 b7:Nat) (most:Int) (v:Nat) (lc:List Res):Prop:=∃ (xs:List zAV) (q:Option Addr) (c:Nat),lc=AB b5 b6 b7 most (.slice none 0 0) q c xs/\xs.map (·.1)=rows.take v/\xs.length=v/\(v:Int)<most
def CB (rows:List zAP) (b5 b6 b7:Nat) (most:Int) (v:Nat) (k:Code) (lc:List Res):Prop:=k=.ret/\∃ (xs:List zAV) (q:Option Addr) (c:Nat),lc=AB b5 b6 b7 most (.slice q xs.length c) q c xs/\xs.map (·.1)=rows.take (v+1)/\xs.length=v+1/\(v:Int)+1=most
theorem zFj {rows:List zAP} {b5 b6 b7:Nat} {most:Int} {v:Nat} {lc:List Res} (h:CA rows b5 b6 b7 most v lc):lc.all zAY=true:=by
 obtain⟨xs,q,c,rfl,_⟩:=h;exact zFk ..
theorem zKN {rows:List zAP} {b5 b6 b7:Nat} {most:Int} {v:Nat} {k:Code} {lc:List Res} (h:CB rows b5 b6 b7 most v k lc):lc.all zAY=true:=by
 obtain⟨_,xs,q,c,rfl,_⟩:=h;exact zFk ..
theorem zKd {a b r x y z t:Res} {I E:List Res}:(a::b::r::x::y::z::t::(I++E)).Perm ((x::y::z::t::(I++[r])++E)++[a,b]):=by
 refine(List.perm_append_comm (l₁:=[a,b]) (l₂:=r::x::y::z::t::(I++E))).trans (List.Perm.append_right _ ?_);have h:(r::x::y::z::t::(I++E)).Perm ((x::y::z::t::I)++([r]++E)):=(List.perm_middle (l₁:=x::y::z::t::I)).symm
 simpa using h
theorem zO0 (pp:Option Addr) (cp:Nat) (ps:List InstD) (psl:Option Addr) (csl:Nat) (L:Str) (most:Int) (hm0:0<=most) (Fp Fs:Nat->Prop) (w0:World) (hset:∀ x ∈ ps,zAb x.set) (hL:L.length<=1000) (hFp:∀ b,Fp b->b<w0.heap.size) (hFs:∀ b,Fs b->b<w0.heap.size) (hp:InstsR Fp pp cp ps w0) (hs:BytesR Fs psl csl L w0) :
  Calls Tryz.prog 14 #[.slice pp ps.length cp,.slice psl L.length csl,.int .i64 most] w0 fun e w'=>RowsW w0 ((zAX ps L).take most.toNat) e w':=by
 have H:=Hold.start w0;obtain⟨ir,hir,hr0,hr1,hr2⟩:=info_parts zLV;refine callsIn_wide.1 (zDX (n:=9) Tryz.func14 rfl ?_);simp only[Tryz.ntmps14,List.size_toArray,List.length_cons,List.length_nil,Nat.reduceAdd,Nat.reduceSub,Array.replicate_succ,Array.replicate_zero,List.push_toArray,List.append_toArray,List.nil_append,List.cons_append];refine zA0 (zBC ?_)
 go_wp2_with (first|((with_reducible show @wpList _ _ _ ({dst:=_,op:=Op.alloc _,type:=_,pos:=_,after:=_,guard:=_}::_) _ _);refine zCa wtd_ _ rfl H (by kernel_rfl) ?_;clear H;intro b6 w H;try simp only[zLa,List.cons_append,List.nil_append]at H)|((with_reducible refine kg 5 ?_);(first|refine kA 5 H ?_|refine kS 5 H ?_|refine kB 5 H ?_);clear H;intro b5 w H;try simp only[nr]at H)|fail)
 refine zA0 (zBC ?_)
 go_wp2_with (first|((with_reducible show @wpList _ _ _ ({dst:=_,op:=Op.alloc _,type:=_,pos:=_,after:=_,guard:=_}::_) _ _);refine zCa wtd_ _ rfl H (by kernel_rfl) ?_;clear H;intro b7 w H;try simp only[zLa,List.cons_append,List.nil_append]at H))
 by_cases hm:most=0
 ·have dm:(most == 0)=true:=by rw[beq_iff_eq];exact hm
  have ET:=Lib.hid (show (zAX ps L).take most.toNat=[] by rw[show most.toNat=0 by omega];rfl)
  clear hm;refine zBC ?_
  go_wp2_with (first|((with_reducible refine gL ?_);refine zAE wtd_ _ _ rfl rfl H (i:=1) i_1 oneR rfl ?_)|((with_reducible refine gT ?_);refine zAN wtd_ _ _ _ rfl rfl evd_ H (i:=1) i_1 rfl (show 0<1 from Nat.one_pos) (zAD oneR) ?_;clear H;intro w H;try simp only[nr]at H)|((with_reducible refine gL ?_);refine aG H ?_))
  refine⟨_,zCT Tryz.results14 rfl oneR ((H.cell (i:=1) i_1 0).trans rfl),?_⟩
  exact⟨none,0,[],rfl,ET.out.symm,(H.addNil 55 1).pick [3] _ (by decide) rfl⟩
 ·have dm:(most == 0)=false:=by rw[beq_eq_false_iff_ne];exact hm
  refine zA0 (zBC ?_)
  go_wp2_with (first|((with_reducible refine gL ?_);refine aG H ?_))
  refine zA0 (zA0 (zBC ?_))
  go_wp2_with (first|(go_at_call 17;refine(zNG pp ps.length cp psl L.length csl _).mono ?_;rintro e w ⟨b1,b2,rfl,K⟩;have H2:=H.gainAll K (by simp);clear H K;have H:=H2;clear H2;simp only[ca]at H)|fail)
  have hB:w0.heap.size<=w.heap.size:=H.keep.size;have hC0:CA (zAX ps L) b5 b6 b7 most 0 (AB b5 b6 b7 most (.slice none 0 0) none 0 []):=⟨[],none,0,rfl,rfl,rfl,by omega⟩
  have hI:Hold w0 w (.blk b1 #[.slice pp ps.length cp] 23::.blk b2 #[.slice psl L.length csl] 25::AB b5 b6 b7 most (.slice none 0 0) none 0 []):=(H.addNil 55 1).pick [3,4,0,1,2,5] _ (by decide) rfl
  clear H
  refine zEc (zEo (σ:=Nat × List Res × List Res) (α:=zAP × Nat × Nat) (n:=8) (gf:=34) (lb:=#[.pointer (some ⟨b1,0,none⟩),.pointer (some ⟨b2,0,none⟩)]) rfl (enters_of Tryz.func34 (by kernel_rfl) rfl) (encs:=fun x=>#[.slice (some ⟨x.2.1,0,none⟩) x.1.length x.2.2]) (fun _=>rfl)
   (fun W=>Hold w0 W (.blk b1 #[.slice pp ps.length cp] 23::.blk b2 #[.slice psl L.length csl] 25::AB b5 b6 b7 most (.slice none 0 0) none 0 []))
   (fun j W=>match j with|none=>∃ lc,CA (zAX ps L) b5 b6 b7 most (zAX ps L).length lc/\Hold w0 W lc|some k=>∃ v lc,v<(zAX ps L).length/\CB (zAX ps L) b5 b6 b7 most v k lc/\Hold w0 W lc)
   (fun _ _=>False)
   (fun s x W=>((zAX ps L)[s.1]?=some x.1/\CA (zAX ps L) b5 b6 b7 most s.1 s.2.1/\s.2.2.all zAY=true)/\Hold w0 W (rowM x::s.2.1++s.2.2))
   (fun s x j W=>s.2.2.all zAY=true/\∃ lc',(match j with|none=>CA (zAX ps L) b5 b6 b7 most (s.1+1) lc'|some k=>CB (zAX ps L) b5 b6 b7 most s.1 k lc')/\Hold w0 W (lc'++s.2.2))
   (fun _ _ _ _=>False)
   (fun s x a1 W=>a1={tmps:=#[.slice pp ps.length cp,.slice psl L.length csl,.int .i64 most,undef,undef,.pointer (some ⟨b5,0,none⟩),.pointer (some ⟨b6,0,none⟩),.pointer (some ⟨b7,0,none⟩),.slice (some ⟨x.2.1,0,none⟩) x.1.length x.2.2,.int .i64 most,.bool false,.slice pp ps.length cp,.slice psl L.length csl,.func (.func 34) #[] #[.pointer (some ⟨b1,0,none⟩),.pointer (some ⟨b2,0,none⟩)],.slice (some ⟨x.2.1,0,none⟩) x.1.length x.2.2,undef,undef,undef,undef,undef,undef,undef,undef,undef,undef],defers:=[]}/\((zAX ps L)[s.1]?=some x.1/\CA (zAX ps L) b5 b6 b7 most s.1 s.2.1/\s.2.2.all zAY=true)/\Hold w0 W (rowM x::s.2.1++s.2.2))
   (fun W W' row hs hg hr=>hs.stayC (by simp[zAY]) hB hg hr)
   (fun j W W' row hs hg hr=>(by
    cases j with
    | none=>obtain⟨lc,hc,hs⟩:=hs;exact⟨lc,hc,hs.stayC (zFj hc) hB hg hr⟩
    | some k=>obtain⟨v,lc,hv,hc,hs⟩:=hs;exact⟨v,lc,hv,hc,hs.stayC (zKN hc) hB hg hr⟩))
   (fun s x j W W' row hs hg hr=>(by
    obtain⟨h1,lc',hc,hs⟩:=hs;refine⟨h1,lc',hc,hs.stayC ?_ hB hg hr⟩
    cases j with
    | none=>rw[List.all_append,zFj hc,h1];rfl
    | some k=>rw[List.all_append,zKN hc,h1];rfl))
   (fun s x a1 W W' row hs hg hr=>⟨hs.1,hs.2.1,hs.2.2.stayC (by simp[zAY,zFj hs.2.1.2.1,hs.2.1.2.2]) hB hg hr⟩) ?iter hI ?assign ?body ?done ?pan)
  case iter =>
   intro l B K hBs hKs hBK hY W hI hBW;refine(zOo (fun _=>False) w0 pp cp ps psl csl L Fp Fs hset hL hFp hFs hp hs (fun _ h=>h.elim) b1 b2 (CA (zAX ps L) b5 b6 b7 most) (CB (zAX ps L) b5 b6 b7 most) (fun _ _ h=>zFj h) l B w.heap.size hBs (fun v sl g c lc E W1 hv hc hE hW hB1=>?_) W _ hC0 hI hBW).mono (fun e W' hh=>?_)
   ·refine(hY (v,lc,E) (sl,g,c) W1 ⟨⟨hv,hc,hE⟩,hW⟩ hB1).mono (fun e W' h=>?_)
    rcases h with ⟨j,rfl,⟨_,hq⟩,hb⟩|⟨ch,_,h,_⟩
    ·exact⟨_,rfl,j,rfl,hq,hb⟩
    ·exact h.elim
   ·obtain⟨v,j,rfl,hb,hh⟩:=hh;exact .inl ⟨v,j,rfl,hh,hb⟩
  case assign =>
   rintro l s x W hJ;simp only[List.zip_toArray,List.foldl_toArray,List.zip_cons_cons,List.zip_nil_right,List.zip_nil_left,List.foldl_cons,List.foldl_nil,List.setIfInBounds_toArray,List.set_cons_succ,List.set_cons_zero]
   gi_wp2
   refine⟨fun k o _ hk _=>hk,?_,hJ⟩
   first|trivial|rfl
  case body =>
   rintro l ⟨v,lc,E⟩ ⟨sl,g,c⟩ a1 W ⟨rfl,⟨h1,⟨xs,q,cq,rfl,hx,hxl,hvm⟩,h3⟩,H⟩;simp only[]at h1 h3 H;have hv2:v<=1002:=by
    have:=(List.getElem?_eq_some_iff.1 h1).1;have h2:=zCY (p:=ps) (s:=L) (n:=L.length+2) (a:=0) (e:=false);unfold zAX at this;omega
   have hpl:(rowM (sl,g,c)::AB b5 b6 b7 most (.slice none 0 0) q cq xs++E).all zAY=true:=by rw[List.cons_append,List.all_cons,List.all_append,zFk,h3];rfl
   have hKN:=Lib.hid fun V=>KeepsNC.of_plain (W':=V) w.heap.size H hpl
   have H1:=H.framed;obtain⟨rS,hrS⟩:∃ rS,zCO W (rowM (sl,g,c)::AB b5 b6 b7 most (.slice none 0 0) q cq xs++E)=rS:=⟨_,rfl⟩;obtain⟨rF,hrF⟩:∃ rF,zB3 W (rowM (sl,g,c)::AB b5 b6 b7 most (.slice none 0 0) q cq xs++E)=rF:=⟨_,rfl⟩;rw[hrS]at H1 hKN;rw[hrF]at H1;clear hrS hrF H;have H:=H1.perms (show List.Perm _ (.kn rF rS::(rowM (sl,g,c)::AB b5 b6 b7 most (.slice none 0 0) q cq xs++E)) from List.perm_append_comm (l₁:=rowM (sl,g,c)::AB b5 b6 b7 most (.slice none 0 0) q cq xs++E) (l₂:=[_]))
   clear H1;simp only[AB,List.cons_append]at H;have hx2:(xs++[((sl,some (⟨g,0,none⟩:Addr),c):zAV)]).map (·.1)=(zAX ps L).take (v+1):=by
    rw[List.map_append,hx,List.take_add_one,h1];rfl
   have hl2:(xs++[((sl,some (⟨g,0,none⟩:Addr),c):zAV)]).length=v+1:=by rw[List.length_append,hxl];rfl
   have hend:∀ V q2 c2 bk u,Hold w0 V (.blk bk #[.slice (some ⟨g,0,none⟩) sl.length c] 55::.kn rF rS::rowM (sl,g,c)::.blk b5 #[.int .i64 most] 3::.blk b6 #[u] 47::.blk b7 #[.slice q2 (v+1) c2] 47::.row (.slice q2 (v+1) c2) 55 1 (v+1) (xs.map zAg++[.slice (some ⟨g,0,none⟩) sl.length c])::(xs.map zA5++E))->Hold w0 V (AB b5 b6 b7 most u q2 c2 (xs++[((sl,some (⟨g,0,none⟩:Addr),c):zAV)])++E):=fun V q2 c2 bk u H=>by
    have H2:=HoldG.left (H.perms zKd);simp only[AB,hl2,List.map_append,List.map_cons,List.map_nil];exact H2
   rw[hxl]at H;have HX:=Lib.hid (And.intro hx2 hl2);clear hx2 hl2;have HEND:=Lib.hid hend;clear hend;have H3:=Lib.hid h3;clear h3 hpl;have HVM:=Lib.hid hvm;clear h1 hx hxl hvm;refine wpIn_block (wpIn_seq (wpIn_region_lit (zAs (by rintro⟨_,_,h⟩;exact h) _ _ _ rfl ?_)))
   go_wp2_with (first|((with_reducible refine gL ?_);refine zAE wtd_ _ _ rfl rfl H (i:=4) i_4 oneR rfl ?_)|((with_reducible refine gBS ?_);refine zAQ wtd_ _ _ _ rfl H #[.slice (some ⟨g,0,none⟩) sl.length c] 55 (by intro W;simp only[ml];(try simp only[pe]);exact zEe _ _ _ W) ?_;clear H;intro bk w H;replace H:=H.perms List.perm_append_comm;simp only[ca]at H)|(at_builtin;refine zAx rfl _ _ 47 rfl H (i:=6) (j:=0) evd_ rfl i_6 .zero Tryz.underlying47 hir hr0 hr1 hr2 rfl (by decide) rfl rfl (by unfold maxLen;omega) (by omega) ?_;clear H;intro v2 w H;(try simp only[nr]at H);(obtain⟨q2,c2,rfl,_,_,_⟩:=H.rowShape (i:=6) i_6))|((with_reducible refine gT ?_);refine zAN wtd_ _ _ _ rfl rfl evd_ H (i:=5) i_5 rfl (show 0<1 from Nat.one_pos) (zAD oneR) ?_;clear H;intro w H;try simp only[nr]at H))
   by_cases hvm:(v:Int)+1=most
   ·have dv:(((v:Int)+1) == most)=true:=by rw[beq_iff_eq];exact hvm
    have dv2:((((v+1:Nat):Int)) == most)=true:=by rw[beq_iff_eq];omega
    refine wpIn_seq (wpIn_region_lit (zAs (by rintro⟨_,_,h⟩;exact h) _ _ _ rfl ?_))
    go_wp2_with (first|((with_reducible refine gL ?_);refine zAE wtd_ _ _ rfl rfl H (i:=5) i_5 oneR rfl ?_)|((with_reducible refine gL ?_);refine zAE wtd_ _ _ rfl rfl H (i:=3) i_3 zAF rfl ?_))
    refine wpIn_cond_true rfl (wpIn_seq (wpIn_region_lit (zAs (by rintro⟨_,_,h⟩;exact h) _ _ _ rfl ?_)))
    go_wp2_with (first|((with_reducible refine gL ?_);refine zAE wtd_ _ _ rfl rfl H (i:=5) i_5 oneR rfl ?_)|((with_reducible refine gT ?_);refine zAN wtd_ _ _ _ rfl rfl evd_ H (i:=4) i_4 rfl (show 0<1 from Nat.one_pos) (zAD oneR) ?_;clear H;intro w H;try simp only[nr]at H))
    refine wpIn_ret ?_
    exact⟨hKN.out _ (H.kn (i:=1) i_1),(by simpa using H3.out),_,⟨rfl,_,q2,c2,rfl,HX.out.1,HX.out.2,hvm⟩,by rw[HX.out.2];exact HEND.out _ _ _ _ _ H⟩
   ·have dv:(((v:Int)+1) == most)=false:=by rw[beq_eq_false_iff_ne];exact hvm
    have dv2:((((v+1:Nat):Int)) == most)=false:=by rw[beq_eq_false_iff_ne];omega
    refine wpIn_seq (wpIn_region_lit (zAs (by rintro⟨_,_,h⟩;exact h) _ _ _ rfl ?_))
    go_wp2_with (first|((with_reducible refine gL ?_);refine zAE wtd_ _ _ rfl rfl H (i:=5) i_5 oneR rfl ?_)|((with_reducible refine gL ?_);refine zAE wtd_ _ _ rfl rfl H (i:=3) i_3 zAF rfl ?_))
    refine wpIn_cond_false rfl (wpIn_skip ?_);exact⟨hKN.out _ (H.kn (i:=1) i_1),(by simpa using H3.out),_,⟨_,q2,c2,rfl,HX.out.1,HX.out.2,by have:=HVM.out;omega⟩,HEND.out _ _ _ _ _ H⟩
  case done =>
   rintro D j W hD hS hK;clear hI hC0;have hD2:w0.heap.size<=D:=Nat.le_trans hB hD
   cases j with
   | none =>
    obtain⟨lc,⟨xs,q,c,rfl,hx,hl,hmm⟩,H⟩:=hS;have hx2:xs.map (·.1)=(zAX ps L).take most.toNat:=by rw[hx,List.take_of_length_le (Nat.le_refl _),List.take_of_length_le (by omega)]
    have hKN:=Lib.hid fun V=>KeepsNC.of_plain (W':=V) w.heap.size H (zFk ..)
    have H1:=H.framed;obtain⟨rS,hrS⟩:∃ rS,zCO W (AB b5 b6 b7 most (.slice none 0 0) q c xs)=rS:=⟨_,rfl⟩;obtain⟨rF,hrF⟩:∃ rF,zB3 W (AB b5 b6 b7 most (.slice none 0 0) q c xs)=rF:=⟨_,rfl⟩;rw[hrS]at H1 hKN;rw[hrF]at H1;clear hrS hrF H;have H:=H1.perms (show List.Perm _ (.kn rF rS::AB b5 b6 b7 most (.slice none 0 0) q c xs) from List.perm_append_comm (l₁:=AB b5 b6 b7 most (.slice none 0 0) q c xs) (l₂:=[_]))
    clear H1;simp only[AB]at H;have HX:=Lib.hid hx2;clear hx hx2 hl hmm;refine zA0 (zBC ?_)
    go_wp2_with (first|((with_reducible refine gL ?_);refine zAE wtd_ _ _ rfl rfl H (i:=3) i_3 oneR rfl ?_)|((with_reducible refine gT ?_);refine zAN wtd_ _ _ _ rfl rfl evd_ H (i:=2) i_2 rfl (show 0<1 from Nat.one_pos) (zAD oneR) ?_;clear H;intro w H;try simp only[nr]at H))
    refine zBC ?_
    go_wp2_with fail
    have hK3:=(hKN.out _ (H.kn (i:=0) .zero)).same _ _ hD hK rfl;refine⟨by simp,.inl ⟨D,_,rfl,run_takeDeferred hK3,?_⟩⟩
    have H3:Hold w0 _ (.blk b6 #[.slice q xs.length c] 47::.blk b7 #[.slice q xs.length c] 47::.row (.slice q xs.length c) 55 1 xs.length (xs.map zAg)::xs.map zA5):=HoldG.left (ext:=[.kn rF rS,.blk b5 #[.int .i64 most] 3]) (H.perms (List.perm_append_comm (l₁:=[Res.kn rF rS,.blk b5 #[.int .i64 most] 3]) (l₂:=.blk b6 #[.slice q xs.length c] 47::.blk b7 #[.slice q xs.length c] 47::.row (.slice q xs.length c) 55 1 xs.length (xs.map zAg)::xs.map zA5)))
    have H5:=Stay.putObj (Stay.plain (by simp only[List.all_cons,zBk];rfl) (Nat.le_refl _)) (.deferred none) H3 hD2 hK3 rfl
    refine⟨_,zCT Tryz.results14 rfl oneR ((H5.cell (i:=0) .zero 0).trans rfl),q,c,xs,rfl,HX.out,?_⟩
    exact HoldG.left (ext:=[.blk b6 #[.slice q xs.length c] 47,.blk b7 #[.slice q xs.length c] 47]) (H5.perms (List.perm_append_comm (l₁:=[Res.blk b6 #[.slice q xs.length c] 47,.blk b7 #[.slice q xs.length c] 47]) (l₂:=.row (.slice q xs.length c) 55 1 xs.length (xs.map zAg)::xs.map zA5)))
   | some k =>
    obtain⟨v,lc,hv,⟨rfl,xs,q,c,rfl,hx,hl,hmm⟩,H⟩:=hS;have hx2:xs.map (·.1)=(zAX ps L).take most.toNat:=by rw[hx,show v+1=most.toNat by omega]
    refine⟨by simp,.inl ⟨D,_,rfl,run_takeDeferred hK,?_⟩⟩
    have H3:Hold w0 W (.blk b6 #[.slice q xs.length c] 47::.blk b7 #[.slice q xs.length c] 47::.row (.slice q xs.length c) 55 1 xs.length (xs.map zAg)::xs.map zA5):=HoldG.left (ext:=[.blk b5 #[.int .i64 most] 3]) (H.perms (List.perm_append_comm (l₁:=[Res.blk b5 #[.int .i64 most] 3]) (l₂:=.blk b6 #[.slice q xs.length c] 47::.blk b7 #[.slice q xs.length c] 47::.row (.slice q xs.length c) 55 1 xs.length (xs.map zAg)::xs.map zA5)))
    have H5:=Stay.putObj (Stay.plain (by simp only[List.all_cons,zBk];rfl) (Nat.le_refl _)) (.deferred none) H3 hD2 hK rfl
    refine⟨_,zCT Tryz.results14 rfl oneR ((H5.cell (i:=0) .zero 0).trans rfl),q,c,xs,rfl,hx2,?_⟩
    exact HoldG.left (ext:=[.blk b6 #[.slice q xs.length c] 47,.blk b7 #[.slice q xs.length c] 47]) (H5.perms (List.perm_append_comm (l₁:=[Res.blk b6 #[.slice q xs.length c] 47,.blk b7 #[.slice q xs.length c] 47]) (l₂:=.row (.slice q xs.length c) 55 1 xs.length (xs.map zAg)::xs.map zA5)))
  case pan=>exact fun D ch W _ h _=>h.elim
theorem zH1 {P:Program} {ev:Operand->Value} {w:World} {o:Oper} {x y:Operand} {ts:Array TypeId} {i j v:Int} (hv:max i j=v) (hop:o.op=Op.call {callee:=.builtin .max,args:=#[x,y],argTypes:=ts}) (hx:ev x=.int .i64 i) (hy:ev y=.int .i64 j) :
  (execOp ev o).run P w=.ok (.value (.int .i64 v)) w:=by
 subst hv;exact zG3 hop hx hy
theorem RowsW.out {w w':World} {rows:List zAP} {e:Ending} (h:RowsW w rows e w'):zPS w rows e w'/\Below w.heap.size w w':=by
 obtain⟨q,c,xs,rfl,hx,H⟩:=h;refine⟨⟨q,c,xs,fun b=>w.heap.size<=b/\b<w'.heap.size,rfl,hx,⟨?_,fun x hxm=>?_⟩,fun b h=>⟨h.2,h.1⟩⟩,H.below⟩
 ·have ho:=H.all 0 _ rfl;have e:xs.map zAg=zAW (xs.map fun x=>#[zAg x]):=by
   rw[show (xs.map fun x=>#[zAg x])=(xs.map zAg).map (fun v=>#[v]) by rw[List.map_map];rfl,zA7]
  have hlt:=fun b hb=>ho.lt b hb
  unfold Res.Holds at ho;simp only at ho;rw[e]at ho;have h1:=RdN.of_own (V:=w') ho (fun r hr=>by obtain⟨x,_,rfl⟩:=List.mem_map.1 hr;rfl) (List.length_map ..) (fun _ _=>rfl)
  obtain⟨p',c',e1,k1,k2,k0,k3⟩:=h1;rw[List.length_map]at e1 k1;refine⟨p',c',by rw[List.length_map];exact e1,by rw[List.length_map];exact k1,k2,k0,fun j r hj=>?_⟩
  obtain⟨b,off,e2,e3,e4,e5⟩:=k3 j r hj;have:=hlt b e3;exact⟨b,off,e2,⟨this.1.resolve_right id,this.2⟩,e4,e5⟩
 ·obtain⟨i,hi⟩:=List.getElem?_of_mem hxm;have hi2:(Res.row (.slice q xs.length c) 55 1 xs.length (xs.map zAg)::xs.map zA5)[i+1]?=some (.row (.slice x.2.1 x.1.length x.2.2) 3 1 x.1.length (x.1.map (.int .i64))):=by
   rw[List.getElem?_cons_succ,List.getElem?_map,hi];rfl
  obtain⟨F,hF,hI⟩:=H.rowInts (i:=i+1) (At.of_get hi2);exact hI.mono fun b hb=>⟨(hF b hb).1.resolve_right id,(hF b hb).2⟩
section
variable {M:Nat->Prop} {P:Program} {f:FuncId} {args:Array Value} {w w0:World} {l:List Res} {R:Ending->World->Prop}
theorem chRw {rows:List zAP} (c:Calls P f args w fun e w'=>zPS w rows e w'/\Below w.heap.size w w') (H:HoldG M w0 w l)
  (k:∀ q n xs F w',Hid (xs.map (·.1)=rows)->HoldG M w0 w' (l++[.kn F (RowsR F q n xs)])->R (.returned (.slice q xs.length n)) w'):Calls P f args w R:=c.mono fun _ w' h=>by
 obtain⟨⟨q,n,xs,F,rfl,hx,hs,hF⟩,hb⟩:=h;exact k q n xs F w' (Lib.hid hx) (H.learn hb Still.none (fun b h=>⟨(hF b h).1,.inl (hF b h).2⟩) (fun V hV=>hs.kept hV))
end
theorem zC8 (pp:Option Addr) (cp:Nat) (ps:List InstD) (psl:Option Addr) (csl:Nat) (L:Str) (many:Int) (Fp Fs:Nat->Prop) (w0:World) (hset:∀ x ∈ ps,zAb x.set) (hL:L.length<=1000) (hFp:∀ b,Fp b->b<w0.heap.size) (hFs:∀ b,Fs b->b<w0.heap.size) (hp:InstsR Fp pp cp ps w0) (hs:BytesR Fs psl csl L w0) :
  Calls Tryz.prog 5 #[.slice pp ps.length cp,.slice psl L.length csl,.int .i64 many] w0 (Rt (.bool true) w0):=by
 have H:=Hold.insts2 hFp hFs hp hs;clear hp hs;obtain⟨km,hkm⟩:∃ km,max many 0=km:=⟨_,rfl⟩;have KM:=Lib.hid hkm;have k0:0<=km:=by omega
 have hr:=fun w h1 h2 h3 h4=>zGw pp cp ps psl csl L km Fp Fs w hset hL h1 h2 h3 h4
 have hw:=fun w h1 h2 h3 h4=>(zJE pp cp ps psl csl L many Fp Fs w hset hL h1 h2 h3 h4).mono fun _ _ h=>h.out
 have ha:=fun w h1 h2 h3 h4=>(zO0 pp cp ps psl csl L km k0 Fp Fs w hset hL h1 h2 h3 h4).mono fun _ _ h=>h.out
 have e1:zHh (zAX ps L) km=(zAX ps L).take km.toNat:=by unfold zHh;rw[if_neg (by omega)]
 have e2:many.toNat=km.toNat:=by omega
 rw[e1]at hr;rw[e2]at hw;clear hset hkm e1 e2 k0
 go_enter Tryz.func5,Tryz.ntmps5
 go_wp2_with (first|((with_reducible show @wpList _ _ _ ({dst:=_,op:=Op.call {callee:=.builtin .max,args:=_,argTypes:=_},type:=_,pos:=_,after:=_,guard:=_}::_) _ _);refine zAh (v:=.int .i64 km) (by first|rfl|exact zAT rfl (zAM rfl rfl)) (zH1 KM.out rfl evd_ evd_) ?_)|(go_at_call 11;refine chRw (hr _ (H.knlt (i:=0) .zero) (H.knlt (i:=1) i_1) (H.kn (i:=0) .zero) (H.kn (i:=1) i_1)) H ?_;clear H;intro q1 n1 xs1 F1 w hx1 H;try simp only[ca]at H)|(go_at_call 13;refine chRw (hw _ (H.knlt (i:=0) .zero) (H.knlt (i:=1) i_1) (H.kn (i:=0) .zero) (H.kn (i:=1) i_1)) H ?_;clear H;intro q2 n2 xs2 F2 w hx2 H;try simp only[ca]at H)|(go_at_call 14;refine chRw (ha _ (H.knlt (i:=0) .zero) (H.knlt (i:=1) i_1) (H.kn (i:=0) .zero) (H.kn (i:=1) i_1)) H ?_;clear H;intro q3 n3 xs3 F3 w hx3 H;try simp only[ca]at H)|(go_at_call 12;(first|with_reducible refine ch (zCk q2 q1 n2 n1 xs2 xs1 F2 F1 _ (hx2.out.trans hx1.out.symm) (H.knlt (i:=3) i_3) (H.knlt (i:=2) i_2) (H.kn (i:=3) i_3) (H.kn (i:=2) i_2)) H ?_|with_reducible refine ch (zCk q3 q1 n3 n1 xs3 xs1 F3 F1 _ (hx3.out.trans hx1.out.symm) (H.knlt (i:=4) i_4) (H.knlt (i:=2) i_2) (H.kn (i:=4) i_4) (H.kn (i:=2) i_2)) H ?_);clear H;intro w H)|fail)
 go_ret;exact⟨rfl,H.below⟩
theorem HoldG.callMine {w0 w w':World} {A B:List Res} (H:Hold w0 w (A++B)) {N:Nat->Prop} (hk:KeepBut N w.heap.size w w') (hN:∀ b,N b->∃ s ∈ B,Res.place s=some b):Hold w0 w' A:=by
 have hs:=H.keep.size;have hold:∀ b,b<w.heap.size->(∀ s ∈ B,Res.place s≠some b)->w'.heap[b]?=w.heap[b]?:=fun b hb h=>hk.old b hb (fun hNb=>by obtain⟨s,h1,h2⟩:=hN b hNb;exact h s h1 h2)
 have hB:∀ s ∈ B,∀ b,Res.place s=some b->w0.heap.size<=b:=fun s hs b hb=>by
  obtain⟨j,hj⟩:=List.getElem?_of_mem hs;have:=(Res.Holds.lt (H.all (A.length+j) s (by rw[List.getElem?_append_right (by omega),Nat.add_sub_cancel_left];exact hj)) b hb).1
  exact this.resolve_right id
 refine⟨⟨hk.os.trans H.keep.os,hk.tape.trans H.keep.tape,hk.output.trans H.keep.output,Nat.le_trans hs hk.size,fun k h1 h2=>(hold k (by omega) (fun s hs e=>by have:=hB s hs k e;omega)).trans (H.keep.old k h1 h2)⟩,fun i r hr=>?_,H.left.apart⟩
 have hi:=(List.getElem?_eq_some_iff.1 hr).1;have hr2:(A++B)[i]?=some r:=by rw[List.getElem?_append_left hi];exact hr
 refine(H.all i r hr2).kept (fun b hb=>hold b (Res.Holds.ltf (H.all i r hr2) b hb) (fun s hs e=>?_)) hk.size
 obtain⟨j,hj⟩:=List.getElem?_of_mem hs;exact H.apart (A.length+j) i s r (by omega) (by rw[List.getElem?_append_right (by omega),Nat.add_sub_cancel_left];exact hj) hr2 b e hb
theorem zGQ (p:Option Addr) (c:Nat) (w:World):Calls Tryz.prog 36 #[.slice p 0 c] w (Rt (.bool true) w):=by
 go_enter Tryz.func36,Tryz.ntmps36
 go_wp2_with fail
 have hb1:Bag (w.alloc (.cells (bagC (.slice none 0 0)) 128)) w.heap.size (.slice none 0 0):=World.alloc_heap_new w _;have bel1:Below w.heap.size w (w.alloc (.cells (bagC (.slice none 0 0)) 128)):=(Below.refl _ w).alloc (Nat.le_refl _) _;have HB1:=Lib.hid hb1;clear hb1;have BL1:=Lib.hid bel1;clear bel1
 go_loopw [4] (fun n wr=>n=.int .i64 0/\Hid (Bag wr w.heap.size (.slice none 0 0)/\Below w.heap.size w wr)) (fun n _=>0)
 case atStart=>exact⟨rfl,HB1.out,BL1.out⟩
 case round =>
  clear HB1 BL1;obtain⟨rfl,S⟩:=hrel;have hlt:=S.out.1.lt;have HRW:=Lib.hid (show zFF w.heap.size (.slice none 0 0) 0 (fun _=>.slice none 0 0) (fun _=>0) wr from ⟨fun _=>[],⟨rfl,.inl ⟨rfl,rfl⟩⟩,⟨fun j hj=>absurd hj (by omega),fun j hj=>absurd hj (by omega),fun j hj=>absurd hj (by omega),fun i j hi=>absurd hi (by omega)⟩⟩)
  go_wp2_with fail
  refine(zHz (.slice none 0 0) 0 w.heap.size w.heap.size (fun _=>.slice none 0 0) (fun _=>0) wr (by omega) (fun j hj=>absurd hj (by omega)) HRW.out S.out.2.size hlt (fun h=>by obtain⟨j,hj,_⟩:=h;omega) (fun k hk=>S.out.1.cell hk) ⟨none,0,0,rfl⟩).mono ?_
  rintro e w' ⟨rfl,hrel2⟩;have R:=Lib.hid hrel2;clear hrel2
  go_wp2
  go_ret;exact⟨rfl,S.out.2.trans (R.out.1.below S.out.2.size (fun k hk h=>by obtain⟨j,hj,_⟩:=h;omega))⟩
abbrev dz:zAV:=([],none,0)
theorem zPd (w0 w:World) (p:Option Addr) (c:Nat) (zs:List zAV) (A:List Res) (hz:zs.length<=1000) (hl:∀ z ∈ zs,z.1.length<=1000) (H:Hold w0 w (.row (.slice p zs.length c) 55 1 zs.length (zs.map zAg)::A++zs.map zA5)) :
  Calls Tryz.prog 36 #[.slice p zs.length c] w fun e w'=>e=.returned (.bool true)/\Hold w0 w' A:=by
 have hleft:Hold w0 w (A++zs.map zA5):=HoldG.left (ext:=[Res.row (.slice p zs.length c) 55 1 zs.length (zs.map zAg)]) (H.perms (by
  rw[List.cons_append]
  exact List.perm_append_comm (l₁:=[_]) (l₂:=A++zs.map zA5)))
 by_cases h0:zs.length=0
 ·have hzn:zs=[]:=List.length_eq_zero_iff.1 h0;subst hzn;refine(zGQ p c w).mono fun e w' h=>⟨h.1,?_⟩
  have:=hleft.call h.2
  simpa using this
 ·obtain⟨q2,c2,e2,_,_,hq⟩:=H.rowShape (i:=0) .zero;simp only[Value.slice.injEq,true_and]at e2;obtain⟨rfl,rfl⟩:=e2;obtain⟨g,rfl⟩:=hq (by omega)
  have hg:∀ j,j<zs.length->zs[j]?=some (zs.getD j dz):=fun j hj=>by rw[List.getD_eq_getElem?_getD,List.getElem?_eq_getElem hj];rfl
  have hin:∀ j,j<zs.length->(Res.row (.slice (some ⟨g,0,none⟩) zs.length c) 55 1 zs.length (zs.map zAg)::A++zs.map zA5)[1+A.length+j]?=some (zA5 (zs.getD j dz)):=fun j hj=>by
   rw[List.cons_append,show 1+A.length+j=(A.length+j)+1 by omega,List.getElem?_cons_succ,List.getElem?_append_right (by omega),Nat.add_sub_cancel_left,List.getElem?_map,hg j hj];rfl
  have hown:∀ j,j<zs.length->w.ownsRow w0.heap.size 3 1 (zAg (zs.getD j dz)) (zs.getD j dz).1.length ((zs.getD j dz).1.map (.int .i64)):=fun j hj=>H.all _ _ (hin j hj)
  have e:zs.map zAg=zAW (zs.map fun x=>#[zAg x]):=by
   rw[show (zs.map fun x=>#[zAg x])=(zs.map zAg).map (fun v=>#[v]) by rw[List.map_map];rfl,zA7]
  have hcell:∀ k,k<zs.length->w.cell? ⟨g,k,none⟩=some (zAg (zs.getD k dz)):=fun k hk=>by
   have H1:=H;rw[e]at H1;have:=H1.rowCell (i:=0) .zero (fun r hr=>by obtain⟨x,_,rfl⟩:=List.mem_map.1 hr;rfl) (List.length_map ..) (j:=k) (r:=#[zAg (zs.getD k dz)]) (by rw[List.getElem?_map,hg k hk];rfl) (q:=k) (by omega) 0 (by omega)
   rw[Nat.add_zero]at this;exact this
  refine(zHG g c zs.length w0.heap.size (fun j=>zAg (zs.getD j dz)) (fun j=>(zs.getD j dz).1.length) (fun j=>(zs.getD j dz).1.map (.int .i64)) w hz (by omega) (fun j hj=>?_) (Res.Holds.lt (H.all 0 _ rfl) g rfl).2 hcell H.keep.size ⟨hown,hown,fun m hm g' n' c' m' d' e1 e2=>by rw[e1]at e2;cases e2;exact⟨Nat.le_refl _,rfl⟩,fun i j hi hj hij g' e1 e2=>?_⟩).mono fun e w' h=>⟨h.1,hleft.callMine h.2.1 (fun b hb=>?_)⟩
  ·have:=hl _ (List.mem_of_getElem? (hg j hj));omega
  ·exact H.apart _ _ _ _ (by omega) (hin i hi) (hin j hj) g' (e1.elim id id) (e2.elim id id)
  ·obtain⟨j,hj,hb⟩:=hb;exact⟨zA5 (zs.getD j dz),List.mem_map.2 ⟨_,List.mem_of_getElem? (hg j hj),rfl⟩,hb⟩
theorem HoldG.rowRd {M:Nat->Prop} {w0 w:World} {l:List Res} (H:HoldG M w0 w l) {i n cap:Nat} {q:Option Addr} {us:List Value} (hi:At l i (.row (.slice q n cap) 55 1 n us)):∃ F,RdN 1 w F (.slice q n cap) (us.map fun v=>#[v]):=by
 have ho:=H.all i _ hi.get;have hl:us.length=n:=by have:=ho.1;simpa using this
 have e:us=zAW (us.map fun v=>#[v]):=by rw[zA7]
 unfold Res.Holds at ho;simp only at ho;rw[e]at ho;exact⟨_,RdN.of_own (V:=w) ho (fun r hr=>by obtain⟨x,_,rfl⟩:=List.mem_map.1 hr;rfl) (by rw[List.length_map];exact hl) (fun _ _=>rfl)⟩
theorem zP2 {ops:Array Oper} {o:Oper} {a:Act} {w:World} {x c:Operand} {D:Prop} (hg:Region.wanted o (yielded ops a.tmps)=true) (hop:o.op=Op.makeSlice 55 x c) {n:Nat} (hl:a.eval x=.int .i64 n) (hc:a.eval c=.int .i64 n) (hn:n<=1000) (hD:¬ D:=by decide) :
  zA4 Tryz.prog ops o a w (fun v _=>(∃ b,v=.slice (some ⟨b,0,none⟩) n n)/\(D->w.heap.size<=blk v)):=by
 obtain⟨ii,hii,hi0,hi1,hi2⟩:=info_parts zEO;obtain⟨w',hrun,r1,r2⟩:=run_make_full (P:=Tryz.prog) w w.heap.size 55 3 ii (.int .i64 0) 1 Tryz.underlying55 hii hi0 hi1 .i64 .i64 n (by rw[hi2];omega) (by unfold maxLen;omega) (Nat.le_refl _)
 refine zBo hg (v:=.slice (some ⟨w.heap.size,0,none⟩) n n) (w':=w') ?_ ⟨r2.os,r2.tape,r2.output,r2.size,fun k hk=>r2.block k hk (fun e=>by cases e)⟩ ⟨⟨_,rfl⟩,fun h=>(hD h).elim⟩
 simp[execOp,hop,hl,hc,hrun,Result.andThen]
def lenR (a i:Nat):Nat:=1+(31 * a+i) % 97
def DoneR (a m:Nat) (us:List Value):Prop:=∀ i,i<m->∃ p c,us[i]?=some (.slice p (lenR a i) c)
theorem DoneR.step {a m:Nat} {us:List Value} (h:DoneR a m us) (hm:m<us.length) (p:Option Addr) (c:Nat):DoneR a (m+1) (us.set m (.slice p (lenR a m) c)):=fun i hi=>by
 by_cases e:i=m
 ·subst e;exact⟨p,c,by rw[List.getElem?_set_self hm]⟩
 ·rw[List.getElem?_set_ne (by omega)];exact h i (by omega)
def preR (xs ys:List zAV) (k:Nat):List zAV:=match k with|0=>[]|1=>xs|_=>xs++ys
theorem zKF (xs:List zAV):∀ u ∈ zAW ((xs.map zAg).map fun v=>#[v]),u.oneCell'=true:=by
 rw[zA7];intro u hu;obtain⟨x,_,rfl⟩:=List.mem_map.1 hu;rfl
theorem zHM (gb:Nat) (q1 q2:Option Addr) (c1 c2:Nat) (xs ys:List zAV) (FX:Nat->Prop) (SX:World->Prop) (w0 w:World) (hx:xs.length<=400) (hy:ys.length<=400) (hl:∀ z ∈ xs++ys,z.1.length<=1000)
  (H0:Hold w0 w ([.blk gb #[.slice q1 xs.length c1,.slice q2 ys.length c2] 47,.row (.slice q1 xs.length c1) 55 1 xs.length (xs.map zAg),.row (.slice q2 ys.length c2) 55 1 ys.length (ys.map zAg),.kn FX SX]++(xs++ys).map zA5)) :
  Calls Tryz.prog 21 #[.slice (some ⟨gb,0,none⟩) 2 2] w fun e w'=>e=.returned (.bool true)/\Below w0.heap.size w0 w'/\SX w':=by
 obtain⟨ir,hir,hr0,hr1,hr2⟩:=info_parts zLV;obtain⟨n1,hn1⟩:∃ n,xs.length=n:=⟨_,rfl⟩;obtain⟨n2,hn2⟩:∃ n,ys.length=n:=⟨_,rfl⟩;obtain⟨I,hI⟩:∃ I,(xs++ys).map zA5=I:=⟨_,rfl⟩;have hap:=Lib.hid (fun w p c A H=>zPd w0 w p c (xs++ys) A (by rw[List.length_append];omega) hl H)
 have hl12:(xs++ys).length=n1+n2:=by rw[List.length_append,hn1,hn2]
 rw[hn1]at hx H0;rw[hn2]at hy H0;rw[hI]at H0 hap;rw[hl12]at hap;have HN:=Lib.hid (And.intro hn1 (And.intro hn2 hl12));clear hn1 hn2 hI hl hl12;simp only[ca]at H0
 go_enter Tryz.func21,Tryz.ntmps21
 go_wp2_with fail
 have H1:Hold w0 w (.row (.slice none 0 0) 55 1 (preR xs ys 0).length ((preR xs ys 0).map zAg)::.blk gb #[.slice q1 n1 c1,.slice q2 n2 c2] 47::.row (.slice q1 n1 c1) 55 1 n1 (xs.map zAg)::.row (.slice q2 n2 c2) 55 1 n2 (ys.map zAg)::.kn FX SX::I):=(H0.addNil 55 1).perms (by rw[show ∀ (a b c d:Res),a::b::c::d::I=[a,b,c,d]++I from fun _ _ _ _=>rfl];exact List.perm_append_comm (l₂:=[_]))
 clear H0
 go_loopw [3,4] (fun av kv wr=>∃ (k:Nat) (p:Option Addr) (c:Nat),k<=2/\av=.slice p (preR xs ys k).length c/\kv=.int .i64 k/\Hold w0 wr (.row (.slice p (preR xs ys k).length c) 55 1 (preR xs ys k).length ((preR xs ys k).map zAg)::.blk gb #[.slice q1 n1 c1,.slice q2 n2 c2] 47::.row (.slice q1 n1 c1) 55 1 n1 (xs.map zAg)::.row (.slice q2 n2 c2) 55 1 n2 (ys.map zAg)::.kn FX SX::I)) (fun _ kv _=>2 - (intOf kv).toNat)
 case atStart=>exact⟨0,none,0,by omega,rfl,rfl,H1⟩
 case round =>
  clear H1;obtain⟨k,p,c,hk,rfl,rfl,H⟩:=hrel;have hk3:k=0\/k=1\/k=2:=by omega
  rcases hk3 with rfl|rfl|rfl
  ·have e0:preR xs ys 0=[]:=rfl;rw[e0]at H ⊢;obtain⟨F,hF⟩:=H.rowRd (i:=2) i_2
   go_wp2_with (first|((with_reducible refine gL ?_);refine zAE wtd_ _ _ rfl rfl H (i:=1) i_1 oneR rfl ?_)|(at_builtin;refine zDH rfl _ _ 47 rfl H (i:=0) evd_ rfl .zero hF (fun r hr=>by obtain⟨x,_,rfl⟩:=List.mem_map.1 hr;rfl) Tryz.underlying47 hir hr0 hr1 hr2 rfl (by decide) (zKF xs) (by unfold maxLen;simp;omega) (by simp;omega) ?_;clear H hF;intro v2 w H;try simp only[nr]at H))
   obtain⟨p2,c3,rfl,_,_,_⟩:=H.rowShape (i:=0) .zero;rw[zA7]at H;simp only[List.length_nil,List.map_nil,List.nil_append,Nat.zero_add]at H;go_roundw
   case rel=>exact⟨1,p2,c3,by omega,by show _=Value.slice p2 xs.length c3;rw[HN.out.1];simp,rfl,by show Hold w0 w (.row (.slice p2 xs.length c3) 55 1 xs.length (xs.map zAg)::_);rw[HN.out.1];simpa using H⟩
   case measure=>decide
  ·have e0:preR xs ys 1=xs:=rfl;rw[e0,HN.out.1]at H ⊢;obtain⟨F,hF⟩:=H.rowRd (i:=3) i_3
   go_wp2_with (first|((with_reducible refine gL ?_);refine zAE wtd_ _ _ rfl rfl H (i:=1) i_1 oneR rfl ?_)|(at_builtin;refine zDH rfl _ _ 47 rfl H (i:=0) evd_ rfl .zero hF (fun r hr=>by obtain⟨x,_,rfl⟩:=List.mem_map.1 hr;rfl) Tryz.underlying47 hir hr0 hr1 hr2 rfl (by decide) (zKF ys) (by unfold maxLen;omega) (by omega) ?_;clear H hF;intro v2 w H;try simp only[nr]at H))
   obtain⟨p2,c3,rfl,_,_,_⟩:=H.rowShape (i:=0) .zero;rw[zA7,← List.map_append]at H;go_roundw
   case rel=>exact⟨2,p2,c3,by omega,by show _=Value.slice p2 (xs++ys).length c3;rw[HN.out.2.2],rfl,by show Hold w0 w (.row (.slice p2 (xs++ys).length c3) 55 1 (xs++ys).length ((xs++ys).map zAg)::_);rw[HN.out.2.2];exact H⟩
   case measure=>decide
  ·have e0:preR xs ys 2=xs++ys:=rfl;rw[e0,HN.out.2.2]at H ⊢
   go_wp2_with (first|(go_at_call 36;refine(hap.out _ p c [.blk gb #[.slice q1 n1 c1,.slice q2 n2 c2] 47,.row (.slice q1 n1 c1) 55 1 n1 (xs.map zAg),.row (.slice q2 n2 c2) 55 1 n2 (ys.map zAg),.kn FX SX] H).mono ?_;clear H;rintro e w ⟨rfl,H⟩))
   clear e0 hk hap;have hus:(xs.map zAg).length=n1:=by rw[List.length_map];exact HN.out.1
   have hvs:(ys.map zAg).length=n2:=by rw[List.length_map];exact HN.out.2.1
   obtain⟨us0,hus0⟩:∃ us0,xs.map zAg=us0:=⟨_,rfl⟩;obtain⟨vs0,hvs0⟩:∃ vs0,ys.map zAg=vs0:=⟨_,rfl⟩;rw[hus0]at H hus;rw[hvs0]at H hvs;clear hus0 hvs0 HN
   go_loopw [5] (fun kv wr=>∃ (k:Nat) (us vs:List Value),k<=2/\kv=.int .i64 k/\Hid (us.length=n1/\vs.length=n2/\(1<=k->DoneR 0 n1 us)/\(2<=k->DoneR 1 n2 vs))/\Hold w0 wr [.blk gb #[.slice q1 n1 c1,.slice q2 n2 c2] 47,.row (.slice q1 n1 c1) 55 1 n1 us,.row (.slice q2 n2 c2) 55 1 n2 vs,.kn FX SX]) (fun kv _=>2 - (intOf kv).toNat)
   case atStart=>exact⟨0,us0,vs0,by omega,rfl,Lib.hid ⟨hus,hvs,fun h=>by omega,fun h=>by omega⟩,H⟩
   case round =>
    clear H hus hvs us0 vs0;obtain⟨k,us,vs,hk,rfl,G,H⟩:=hrel;have hk3:k=0\/k=1\/k=2:=by omega
    rcases hk3 with rfl|rfl|rfl
    ·simp only[show ((0:Nat):Int)=0 from rfl,show ((1:Nat):Int)=1 from rfl,show ((2:Nat):Int)=2 from rfl]
     go_wp2_with fail
     go_loopw [6] (fun iv wr=>∃ (i:Nat) (us:List Value),i<=n1/\iv=.int .i64 i/\Hid (us.length=n1/\vs.length=n2/\DoneR 0 i us)/\Hold w0 wr [.blk gb #[.slice q1 n1 c1,.slice q2 n2 c2] 47,.row (.slice q1 n1 c1) 55 1 n1 us,.row (.slice q2 n2 c2) 55 1 n2 vs,.kn FX SX]) (fun iv _=>n1 - (intOf iv).toNat)
     case atStart=>exact⟨0,us,by omega,rfl,Lib.hid ⟨G.out.1,G.out.2.1,fun i hi=>by omega⟩,H⟩
     case round =>
      clear H G us;obtain⟨i,us,hi,rfl,G,H⟩:=hrel
      by_cases hlt:i<n1
      ·have di:decide ((i:Int)<(n1:Int))=true:=decide_eq_true (by omega)
       obtain⟨q',c',e2,_,_,hq⟩:=H.rowShape (i:=1) i_1;simp only[Value.slice.injEq,true_and]at e2;obtain⟨rfl,rfl⟩:=e2;obtain⟨g,rfl⟩:=hq (by omega)
       have hul:=Lib.hid G.out.1
       go_upto_region 14 with (first|((with_reducible refine gL ?_);refine zAE wtd_ _ _ rfl rfl H (i:=0) .zero oneR rfl ?_))
       refine zAd 13 [fun v _=>v=.slice (some ⟨gb,0,none⟩) 2 2,fun v _=>v=.int .i64 ((0:Nat):Int),fun v _=>v=pt gb 0,fun v _=>v=.slice (some ⟨g,0,none⟩) n1 c1,fun v _=>v=.int .i64 (i:Int),fun v _=>v=.int .i64 ((0:Nat):Int),fun v _=>v=.int .i64 0,fun v _=>v=.int .i64 (i:Int),fun v _=>v=.int .i64 (i:Int),fun v _=>v=.int .i64 (((31 * 0+i) % 97:Nat):Int),fun v _=>v=.int .i64 ((lenR 0 i:Nat):Int),fun v _=>∃ b,v=.slice (some ⟨b,0,none⟩) (lenR 0 i) (lenR 0 i),fun v _=>v=.pointer (some ⟨g,i,none⟩)] (fun _=>false) (by kernel_rfl) (by kernel_rfl) (by kernel_rfl) (by repeat (first|exact trivial|refine⟨zAI _,?_⟩|refine⟨fun _ _ _ h _=>h,?_⟩)) (fun _ _ h=>by cases h) ?ob ?en
       case ob =>
        refine⟨?_,?_,?_,?_,?_,?_,?_,?_,?_,?_,?_,?_,?_,trivial⟩<;>intro A W h
        ·exact zAB rfl rfl (h.f 0)
        ·exact zAB rfl rfl (h.f 5)
        ·exact zAU (sz:=1) Tryz.underlying60 (fun w=>by kernel_rfl) rfl rfl (h.d 0 39) (h.d 1 40) (by omega) (by omega)
        ·exact zAA rfl (zAC rfl (h.d 2 41) oneR ((H.call h.below).cell (i:=0) .zero 0)) (by decide)
        ·exact zAB rfl rfl (h.f 6)
        ·exact zAB rfl rfl (h.f 5)
        ·(have e44:A.eval (.tmp 44)=.int .i64 ((0:Nat):Int):=h.d 5 44;refine zAA rfl ?_;simp only[execOp,e44];(simp[go_sem]<;>first|done|omega|(rw[IntKind.wrap_i64];omega)|(rw[IntKind.wrap_u8];omega)|(rw[IntKind.wrap_u64];omega)))
        ·exact zAB rfl rfl (h.f 6)
        ·(have e45:A.eval (.tmp 45)=.int .i64 0:=h.d 6 45;have e46:A.eval (.tmp 46)=.int .i64 (i:Int):=h.d 7 46;refine zAA rfl ?_;simp only[execOp,e45,e46];(simp[go_sem]<;>first|done|omega|(rw[IntKind.wrap_i64];omega)|(rw[IntKind.wrap_u8];omega)|(rw[IntKind.wrap_u64];omega)))
        ·(have e47:A.eval (.tmp 47)=.int .i64 (i:Int):=h.d 8 47;refine zAA rfl ?_;simp only[execOp,e47];(simp[go_sem];first|exact Int.tmod_eq_emod_of_nonneg (by omega)|(rw[Int.tmod_eq_emod_of_nonneg (by omega)];omega)))
        ·(have e48:A.eval (.tmp 48)=.int .i64 (((31 * 0+i) % 97:Nat):Int):=h.d 9 48;refine zAA rfl ?_;simp only[execOp,e48];(simp[go_sem];unfold lenR;rw[IntKind.wrap_i64];omega))
        ·exact zP2 rfl rfl (h.d 10 49) (h.d 10 49) (by unfold lenR;omega) (by decide)
        ·exact zAU (sz:=1) Tryz.underlying47 (fun w=>by kernel_rfl) rfl rfl (h.d 3 42) (h.d 4 43) (by omega) (by omega)
       case en =>
        intro vals W hbw hv _;have x11:=hv 11 (by omega);simp only[zAO]at x11
        simp only[fa,Nat.reduceAdd];rw[e_ hv 0,e_ hv 1,e_ hv 2,e_ hv 3,e_ hv 4,e_ hv 5,e_ hv 6,e_ hv 7,e_ hv 8,e_ hv 9,e_ hv 10,e_ hv 12];clear hv
        try simp only[pl]
        replace H:=H.call hbw;clear hbw;obtain⟨b,hb⟩:=x11;rw[hb];clear hb
        go_wp2_with (first|((with_reducible refine gT ?_);refine zB6 wtd_ _ _ _ rfl rfl (v:=.slice (some ⟨b,0,none⟩) (lenR 0 i) (lenR 0 i)) evd_ H (j:=1) i_1 hul.out (by with_reducible exact zAD zAv) rfl hlt ?_;clear H;intro w H;simp only[sc]at H))
        go_roundw
        case rel=>exact⟨i+1,us.set i (.slice (some ⟨b,0,none⟩) (lenR 0 i) (lenR 0 i)),by omega,by go_num,Lib.hid ⟨by rw[List.length_set];exact G.out.1,G.out.2.1,G.out.2.2.step (by rw[G.out.1];exact hlt) _ _⟩,H⟩
        case measure=>simp[intOf];omega
      ·have di:decide ((i:Int)<(n1:Int))=false:=decide_eq_false (by omega)
       obtain rfl:i=n1:=by omega
       go_wp2_with (first|((with_reducible refine gL ?_);refine zAE wtd_ _ _ rfl rfl H (i:=0) .zero oneR rfl ?_))
       go_roundw
       case rel=>exact⟨1,us,vs,by omega,rfl,Lib.hid ⟨G.out.1,G.out.2.1,fun _=>G.out.2.2,fun h=>by omega⟩,H⟩
       case measure=>decide
    ·simp only[show ((0:Nat):Int)=0 from rfl,show ((1:Nat):Int)=1 from rfl,show ((2:Nat):Int)=2 from rfl]
     go_wp2_with fail
     go_loopw [6] (fun iv wr=>∃ (i:Nat) (vs:List Value),i<=n2/\iv=.int .i64 i/\Hid (us.length=n1/\vs.length=n2/\DoneR 0 n1 us/\DoneR 1 i vs)/\Hold w0 wr [.blk gb #[.slice q1 n1 c1,.slice q2 n2 c2] 47,.row (.slice q1 n1 c1) 55 1 n1 us,.row (.slice q2 n2 c2) 55 1 n2 vs,.kn FX SX]) (fun iv _=>n2 - (intOf iv).toNat)
     case atStart=>exact⟨0,vs,by omega,rfl,Lib.hid ⟨G.out.1,G.out.2.1,G.out.2.2.1 (by omega),fun i hi=>by omega⟩,H⟩
     case round =>
      clear H G vs;obtain⟨i,vs,hi,rfl,G,H⟩:=hrel
      by_cases hlt:i<n2
      ·have di:decide ((i:Int)<(n2:Int))=true:=decide_eq_true (by omega)
       obtain⟨q',c',e2,_,_,hq⟩:=H.rowShape (i:=2) i_2;simp only[Value.slice.injEq,true_and]at e2;obtain⟨rfl,rfl⟩:=e2;obtain⟨g,rfl⟩:=hq (by omega)
       have hul:=Lib.hid G.out.2.1
       go_upto_region 14 with (first|((with_reducible refine gL ?_);refine zAE wtd_ _ _ rfl rfl H (i:=0) .zero oneR rfl ?_))
       refine zAd 13 [fun v _=>v=.slice (some ⟨gb,0,none⟩) 2 2,fun v _=>v=.int .i64 ((1:Nat):Int),fun v _=>v=pt gb 1,fun v _=>v=.slice (some ⟨g,0,none⟩) n2 c2,fun v _=>v=.int .i64 (i:Int),fun v _=>v=.int .i64 ((1:Nat):Int),fun v _=>v=.int .i64 31,fun v _=>v=.int .i64 (i:Int),fun v _=>v=.int .i64 (31+(i:Int)),fun v _=>v=.int .i64 (((31 * 1+i) % 97:Nat):Int),fun v _=>v=.int .i64 ((lenR 1 i:Nat):Int),fun v _=>∃ b,v=.slice (some ⟨b,0,none⟩) (lenR 1 i) (lenR 1 i),fun v _=>v=.pointer (some ⟨g,i,none⟩)] (fun _=>false) (by kernel_rfl) (by kernel_rfl) (by kernel_rfl) (by repeat (first|exact trivial|refine⟨zAI _,?_⟩|refine⟨fun _ _ _ h _=>h,?_⟩)) (fun _ _ h=>by cases h) ?ob ?en
       case ob =>
        refine⟨?_,?_,?_,?_,?_,?_,?_,?_,?_,?_,?_,?_,?_,trivial⟩<;>intro A W h
        ·exact zAB rfl rfl (h.f 0)
        ·exact zAB rfl rfl (h.f 5)
        ·exact zAU (sz:=1) Tryz.underlying60 (fun w=>by kernel_rfl) rfl rfl (h.d 0 39) (h.d 1 40) (by omega) (by omega)
        ·exact zAA rfl (zAC rfl (h.d 2 41) oneR ((H.call h.below).cell (i:=0) .zero 1)) (by decide)
        ·exact zAB rfl rfl (h.f 6)
        ·exact zAB rfl rfl (h.f 5)
        ·(have e44:A.eval (.tmp 44)=.int .i64 ((1:Nat):Int):=h.d 5 44;refine zAA rfl ?_;simp only[execOp,e44];(simp[go_sem]<;>first|done|omega|(rw[IntKind.wrap_i64];omega)|(rw[IntKind.wrap_u8];omega)|(rw[IntKind.wrap_u64];omega)))
        ·exact zAB rfl rfl (h.f 6)
        ·(have e45:A.eval (.tmp 45)=.int .i64 31:=h.d 6 45;have e46:A.eval (.tmp 46)=.int .i64 (i:Int):=h.d 7 46;refine zAA rfl ?_;simp only[execOp,e45,e46];(simp[go_sem]<;>first|done|omega|(rw[IntKind.wrap_i64];omega)|(rw[IntKind.wrap_u8];omega)|(rw[IntKind.wrap_u64];omega)))
        ·(have e47:A.eval (.tmp 47)=.int .i64 (31+(i:Int)):=h.d 8 47;refine zAA rfl ?_;simp only[execOp,e47];(simp[go_sem];first|exact Int.tmod_eq_emod_of_nonneg (by omega)|(rw[Int.tmod_eq_emod_of_nonneg (by omega)];omega)))
        ·(have e48:A.eval (.tmp 48)=.int .i64 (((31 * 1+i) % 97:Nat):Int):=h.d 9 48;refine zAA rfl ?_;simp only[execOp,e48];(simp[go_sem];unfold lenR;rw[IntKind.wrap_i64];omega))
        ·exact zP2 rfl rfl (h.d 10 49) (h.d 10 49) (by unfold lenR;omega) (by decide)
        ·exact zAU (sz:=1) Tryz.underlying47 (fun w=>by kernel_rfl) rfl rfl (h.d 3 42) (h.d 4 43) (by omega) (by omega)
       case en =>
        intro vals W hbw hv _;have x11:=hv 11 (by omega);simp only[zAO]at x11
        simp only[fa,Nat.reduceAdd];rw[e_ hv 0,e_ hv 1,e_ hv 2,e_ hv 3,e_ hv 4,e_ hv 5,e_ hv 6,e_ hv 7,e_ hv 8,e_ hv 9,e_ hv 10,e_ hv 12];clear hv
        try simp only[pl]
        replace H:=H.call hbw;clear hbw;obtain⟨b,hb⟩:=x11;rw[hb];clear hb
        go_wp2_with (first|((with_reducible refine gT ?_);refine zB6 wtd_ _ _ _ rfl rfl (v:=.slice (some ⟨b,0,none⟩) (lenR 1 i) (lenR 1 i)) evd_ H (j:=2) i_2 hul.out (by with_reducible exact zAD zAv) rfl hlt ?_;clear H;intro w H;simp only[sc]at H))
        go_roundw
        case rel=>exact⟨i+1,vs.set i (.slice (some ⟨b,0,none⟩) (lenR 1 i) (lenR 1 i)),by omega,by go_num,Lib.hid ⟨G.out.1,by rw[List.length_set];exact G.out.2.1,G.out.2.2.1,G.out.2.2.2.step (by rw[G.out.2.1];exact hlt) _ _⟩,H⟩
        case measure=>simp[intOf];omega
      ·have di:decide ((i:Int)<(n2:Int))=false:=decide_eq_false (by omega)
       obtain rfl:i=n2:=by omega
       go_wp2_with (first|((with_reducible refine gL ?_);refine zAE wtd_ _ _ rfl rfl H (i:=0) .zero oneR rfl ?_))
       go_roundw
       case rel=>exact⟨2,us,vs,by omega,rfl,Lib.hid ⟨G.out.1,G.out.2.1,fun _=>G.out.2.2.1,fun _=>G.out.2.2.2⟩,H⟩
       case measure=>decide
    ·have hd0:=G.out.2.2.1 (by omega)
     have hd1:=G.out.2.2.2 (by omega)
     have hul:=G.out.1;have hvl:=G.out.2.1;clear G;simp only[show ((0:Nat):Int)=0 from rfl,show ((1:Nat):Int)=1 from rfl,show ((2:Nat):Int)=2 from rfl]
     go_wp2_with fail
     go_loopw [7] (fun kv wr=>∃ (k:Nat),k<=2/\kv=.int .i64 k/\Hold w0 wr [.blk gb #[.slice q1 n1 c1,.slice q2 n2 c2] 47,.row (.slice q1 n1 c1) 55 1 n1 us,.row (.slice q2 n2 c2) 55 1 n2 vs,.kn FX SX]) (fun kv _=>2 - (intOf kv).toNat)
     case atStart=>exact⟨0,by omega,rfl,H⟩
     case round =>
      clear H;obtain⟨k,hk,rfl,H⟩:=hrel;have hk3:k=0\/k=1\/k=2:=by omega
      rcases hk3 with rfl|rfl|rfl
      ·simp only[show ((0:Nat):Int)=0 from rfl,show ((1:Nat):Int)=1 from rfl,show ((2:Nat):Int)=2 from rfl]
       go_wp2_with fail
       go_loopw [8] (fun iv wr=>∃ (i:Nat),i<=n1/\iv=.int .i64 i/\Hold w0 wr [.blk gb #[.slice q1 n1 c1,.slice q2 n2 c2] 47,.row (.slice q1 n1 c1) 55 1 n1 us,.row (.slice q2 n2 c2) 55 1 n2 vs,.kn FX SX]) (fun iv _=>n1 - (intOf iv).toNat)
       case atStart=>exact⟨0,by omega,rfl,H⟩
       case round =>
        clear H;obtain⟨i,hi,rfl,H⟩:=hrel
        by_cases hlt:i<n1
        ·have di:decide ((i:Int)<(n1:Int))=true:=decide_eq_true (by omega)
         obtain⟨q',c',e2,_,_,hq⟩:=H.rowShape (i:=1) i_1;simp only[Value.slice.injEq,true_and]at e2;obtain⟨rfl,rfl⟩:=e2;obtain⟨g,rfl⟩:=hq (by omega)
         obtain⟨pp,cc,hz⟩:=hd0 i hlt;have hn:(((lenR 0 i:Nat):Int) != ((lenR 0 i:Nat):Int))=false:=by simp
         go_upto_region 21 with (first|((with_reducible refine gL ?_);refine zAE wtd_ _ _ rfl rfl H (i:=0) .zero oneR rfl ?_))
         refine ws_ 15 [fun v _=>v=.slice (some ⟨gb,0,none⟩) 2 2,fun v _=>v=.int .i64 ((0:Nat):Int),fun v _=>v=pt gb 0,fun v _=>v=.slice (some ⟨g,0,none⟩) n1 c1,fun v _=>v=.int .i64 (i:Int),fun v _=>v=.pointer (some ⟨g,i,none⟩),fun v _=>v=.slice pp (lenR 0 i) cc,fun v _=>v=.int .i64 ((lenR 0 i:Nat):Int),fun v _=>v=.int .i64 ((0:Nat):Int),fun v _=>v=.int .i64 0,fun v _=>v=.int .i64 (i:Int),fun v _=>v=.int .i64 (i:Int),fun v _=>v=.int .i64 (((31 * 0+i) % 97:Nat):Int),fun v _=>v=.int .i64 ((lenR 0 i:Nat):Int),fun v _=>v=.bool false] ?ob ?en
         case ob =>
          refine⟨?_,?_,?_,?_,?_,?_,?_,?_,?_,?_,?_,?_,?_,?_,?_,trivial⟩<;>intro A W h
          ·exact zAB rfl rfl (h.f 0)
          ·exact zAB rfl rfl (h.f 7)
          ·exact zAU (sz:=1) Tryz.underlying60 (fun w=>by kernel_rfl) rfl rfl (h.d 0 67) (h.d 1 68) (by omega) (by omega)
          ·exact zAA rfl (zAC rfl (h.d 2 69) oneR ((H.call h.below).cell (i:=0) .zero 0)) (by decide)
          ·exact zAB rfl rfl (h.f 8)
          ·exact zAU (sz:=1) Tryz.underlying47 (fun w=>by kernel_rfl) rfl rfl (h.d 3 70) (h.d 4 71) (by omega) (by omega)
          ·exact zAA rfl (zAC rfl (h.d 5 72) zAv ((H.call h.below).row1 (i:=1) i_1 hz)) (by decide)
          ·exact zBB Tryz.underlying55 rfl rfl (h.d 6 73)
          ·exact zAB rfl rfl (h.f 7)
          ·(have e75:A.eval (.tmp 75)=.int .i64 ((0:Nat):Int):=h.d 8 75;refine zAA rfl ?_;simp only[execOp,e75];(simp[go_sem]<;>first|done|omega|(rw[IntKind.wrap_i64];omega)|(rw[IntKind.wrap_u8];omega)|(rw[IntKind.wrap_u64];omega)))
          ·exact zAB rfl rfl (h.f 8)
          ·(have e76:A.eval (.tmp 76)=.int .i64 0:=h.d 9 76;have e77:A.eval (.tmp 77)=.int .i64 (i:Int):=h.d 10 77;refine zAA rfl ?_;simp only[execOp,e76,e77];(simp[go_sem]<;>first|done|omega|(rw[IntKind.wrap_i64];omega)|(rw[IntKind.wrap_u8];omega)|(rw[IntKind.wrap_u64];omega)))
          ·(have e78:A.eval (.tmp 78)=.int .i64 (i:Int):=h.d 11 78;refine zAA rfl ?_;simp only[execOp,e78];(simp[go_sem];first|exact Int.tmod_eq_emod_of_nonneg (by omega)|(rw[Int.tmod_eq_emod_of_nonneg (by omega)];omega)))
          ·(have e79:A.eval (.tmp 79)=.int .i64 (((31 * 0+i) % 97:Nat):Int):=h.d 12 79;refine zAA rfl ?_;simp only[execOp,e79];(simp[go_sem];unfold lenR;rw[IntKind.wrap_i64];omega))
          ·(have e74:A.eval (.tmp 74)=.int .i64 ((lenR 0 i:Nat):Int):=h.d 7 74;have e80:A.eval (.tmp 80)=.int .i64 ((lenR 0 i:Nat):Int):=h.d 13 80;refine zAA rfl ?_;simp only[execOp,e74,e80];(simp[go_sem]<;>first|done|omega|(rw[IntKind.wrap_i64];omega)|(rw[IntKind.wrap_u8];omega)|(rw[IntKind.wrap_u64];omega)))
         case en =>
          intro vals W hbw hv _;simp only[fa,Nat.reduceAdd];rw[e_ hv 0,e_ hv 1,e_ hv 2,e_ hv 3,e_ hv 4,e_ hv 5,e_ hv 6,e_ hv 7,e_ hv 8,e_ hv 9,e_ hv 10,e_ hv 11,e_ hv 12,e_ hv 13,e_ hv 14];clear hv
          try simp only[pl]
          replace H:=H.call hbw;clear hbw
          go_wp2_with fail
          go_roundw
          case rel=>exact⟨i+1,by omega,by go_num,H⟩
          case measure=>simp[intOf];omega
        ·have di:decide ((i:Int)<(n1:Int))=false:=decide_eq_false (by omega)
         obtain rfl:i=n1:=by omega
         go_wp2_with (first|((with_reducible refine gL ?_);refine zAE wtd_ _ _ rfl rfl H (i:=0) .zero oneR rfl ?_))
         go_roundw
         case rel=>exact⟨1,by omega,rfl,H⟩
         case measure=>decide
      ·simp only[show ((0:Nat):Int)=0 from rfl,show ((1:Nat):Int)=1 from rfl,show ((2:Nat):Int)=2 from rfl]
       go_wp2_with fail
       go_loopw [8] (fun iv wr=>∃ (i:Nat),i<=n2/\iv=.int .i64 i/\Hold w0 wr [.blk gb #[.slice q1 n1 c1,.slice q2 n2 c2] 47,.row (.slice q1 n1 c1) 55 1 n1 us,.row (.slice q2 n2 c2) 55 1 n2 vs,.kn FX SX]) (fun iv _=>n2 - (intOf iv).toNat)
       case atStart=>exact⟨0,by omega,rfl,H⟩
       case round =>
        clear H;obtain⟨i,hi,rfl,H⟩:=hrel
        by_cases hlt:i<n2
        ·have di:decide ((i:Int)<(n2:Int))=true:=decide_eq_true (by omega)
         obtain⟨q',c',e2,_,_,hq⟩:=H.rowShape (i:=2) i_2;simp only[Value.slice.injEq,true_and]at e2;obtain⟨rfl,rfl⟩:=e2;obtain⟨g,rfl⟩:=hq (by omega)
         obtain⟨pp,cc,hz⟩:=hd1 i hlt;have hn:(((lenR 1 i:Nat):Int) != ((lenR 1 i:Nat):Int))=false:=by simp
         go_upto_region 21 with (first|((with_reducible refine gL ?_);refine zAE wtd_ _ _ rfl rfl H (i:=0) .zero oneR rfl ?_))
         refine ws_ 15 [fun v _=>v=.slice (some ⟨gb,0,none⟩) 2 2,fun v _=>v=.int .i64 ((1:Nat):Int),fun v _=>v=pt gb 1,fun v _=>v=.slice (some ⟨g,0,none⟩) n2 c2,fun v _=>v=.int .i64 (i:Int),fun v _=>v=.pointer (some ⟨g,i,none⟩),fun v _=>v=.slice pp (lenR 1 i) cc,fun v _=>v=.int .i64 ((lenR 1 i:Nat):Int),fun v _=>v=.int .i64 ((1:Nat):Int),fun v _=>v=.int .i64 31,fun v _=>v=.int .i64 (i:Int),fun v _=>v=.int .i64 (31+(i:Int)),fun v _=>v=.int .i64 (((31 * 1+i) % 97:Nat):Int),fun v _=>v=.int .i64 ((lenR 1 i:Nat):Int),fun v _=>v=.bool false] ?ob ?en
         case ob =>
          refine⟨?_,?_,?_,?_,?_,?_,?_,?_,?_,?_,?_,?_,?_,?_,?_,trivial⟩<;>intro A W h
          ·exact zAB rfl rfl (h.f 0)
          ·exact zAB rfl rfl (h.f 7)
          ·exact zAU (sz:=1) Tryz.underlying60 (fun w=>by kernel_rfl) rfl rfl (h.d 0 67) (h.d 1 68) (by omega) (by omega)
          ·exact zAA rfl (zAC rfl (h.d 2 69) oneR ((H.call h.below).cell (i:=0) .zero 1)) (by decide)
          ·exact zAB rfl rfl (h.f 8)
          ·exact zAU (sz:=1) Tryz.underlying47 (fun w=>by kernel_rfl) rfl rfl (h.d 3 70) (h.d 4 71) (by omega) (by omega)
          ·exact zAA rfl (zAC rfl (h.d 5 72) zAv ((H.call h.below).row1 (i:=2) i_2 hz)) (by decide)
          ·exact zBB Tryz.underlying55 rfl rfl (h.d 6 73)
          ·exact zAB rfl rfl (h.f 7)
          ·(have e75:A.eval (.tmp 75)=.int .i64 ((1:Nat):Int):=h.d 8 75;refine zAA rfl ?_;simp only[execOp,e75];(simp[go_sem]<;>first|done|omega|(rw[IntKind.wrap_i64];omega)|(rw[IntKind.wrap_u8];omega)|(rw[IntKind.wrap_u64];omega)))
          ·exact zAB rfl rfl (h.f 8)
          ·(have e76:A.eval (.tmp 76)=.int .i64 31:=h.d 9 76;have e77:A.eval (.tmp 77)=.int .i64 (i:Int):=h.d 10 77;refine zAA rfl ?_;simp only[execOp,e76,e77];(simp[go_sem]<;>first|done|omega|(rw[IntKind.wrap_i64];omega)|(rw[IntKind.wrap_u8];omega)|(rw[IntKind.wrap_u64];omega)))
          ·(have e78:A.eval (.tmp 78)=.int .i64 (31+(i:Int)):=h.d 11 78;refine zAA rfl ?_;simp only[execOp,e78];(simp[go_sem];first|exact Int.tmod_eq_emod_of_nonneg (by omega)|(rw[Int.tmod_eq_emod_of_nonneg (by omega)];omega)))
          ·(have e79:A.eval (.tmp 79)=.int .i64 (((31 * 1+i) % 97:Nat):Int):=h.d 12 79;refine zAA rfl ?_;simp only[execOp,e79];(simp[go_sem];unfold lenR;rw[IntKind.wrap_i64];omega))
          ·(have e74:A.eval (.tmp 74)=.int .i64 ((lenR 1 i:Nat):Int):=h.d 7 74;have e80:A.eval (.tmp 80)=.int .i64 ((lenR 1 i:Nat):Int):=h.d 13 80;refine zAA rfl ?_;simp only[execOp,e74,e80];(simp[go_sem]<;>first|done|omega|(rw[IntKind.wrap_i64];omega)|(rw[IntKind.wrap_u8];omega)|(rw[IntKind.wrap_u64];omega)))
         case en =>
          intro vals W hbw hv _;simp only[fa,Nat.reduceAdd];rw[e_ hv 0,e_ hv 1,e_ hv 2,e_ hv 3,e_ hv 4,e_ hv 5,e_ hv 6,e_ hv 7,e_ hv 8,e_ hv 9,e_ hv 10,e_ hv 11,e_ hv 12,e_ hv 13,e_ hv 14];clear hv
          try simp only[pl]
          replace H:=H.call hbw;clear hbw
          go_wp2_with fail
          go_roundw
          case rel=>exact⟨i+1,by omega,by go_num,H⟩
          case measure=>simp[intOf];omega
        ·have di:decide ((i:Int)<(n2:Int))=false:=decide_eq_false (by omega)
         obtain rfl:i=n2:=by omega
         go_wp2_with (first|((with_reducible refine gL ?_);refine zAE wtd_ _ _ rfl rfl H (i:=0) .zero oneR rfl ?_))
         go_roundw
         case rel=>exact⟨2,by omega,rfl,H⟩
         case measure=>decide
      ·simp only[show ((0:Nat):Int)=0 from rfl,show ((1:Nat):Int)=1 from rfl,show ((2:Nat):Int)=2 from rfl]
       go_wp2_with fail
       go_ret;exact⟨rfl,H.below,H.kn (i:=3) i_3⟩
end
end Go.Proofs.YtphjgfjbiimkjaaGreat
