/-
  Laws of walks, and walks.
-/
import Derived.Test.YtphjgfjbiimkjaaGreatEc11
import Derived.Test.YtphjgfjbiimkjaaGreatEc8
import Derived.Test.YtphjgfjbiimkjaaGreatEc12
import Derived.Test.YtphjgfjbiimkjaaGreatEc3
import Derived.Below
import Derived.Test.YtphjgfjbiimkjaaGreatEc1
import Derived.Deep.CutRange
import Derived.Test.YtphjgfjbiimkjaaGreatEc4
import Derived.Test.YtphjgfjbiimkjaaGreatEc6
set_option linter.unusedVariables false
set_option linter.unusedSimpArgs false
set_option maxRecDepth 100000
set_option maxHeartbeats 16000000
namespace Go.Proofs.YtphjgfjbiimkjaaGreat
section
open Go.RowKit Go.Shelf
attribute [local go_sem] Oper.semAt_some
theorem zIp (w0:World):Calls Tryz.prog 115 #[.slice none 0 0] w0 (Rt (.slice none 0 0) w0):=by
 have H:=Hold.start w0
 go_enter Tryz.func115,Tryz.ntmps115
 go_wp2_with (first|((with_reducible refine gEN ?_);refine eN ?_)|fail)
 go_ret;exact⟨rfl,H.below⟩
theorem zKe {p:List InstD} {s:Str} {n i:Nat} {l:List Way} {found:Option zAP} {m m2:List Int} {nl:zAP} {o zs:List Way} {b1:Option zAP} (h1:zBS p s i (zDS nl found l) m=(m2,o)) (h2:zA9 p s i o=(b1,zs)) :
  zFu p s nl (n+1) i l found m=if ((orP b1 found).isSome&&zs.isEmpty)=true then orP b1 found else zFu p s nl n (i+1) zs (orP b1 found) m2:=by
 simp only[zFu,h1,h2]
theorem zNo {i n:Nat} (h:i<=n):n+1 - (i+1)+1=n+1 - i:=by omega
theorem zMV {ps:List InstD} {xs us:List WV} {ms:Nat} {nl:List Int} {qN:Option Addr} {cN:Nat} (p3:∀ x ∈ xs,x.1<ps.length/\∃ u ∈ us,x.2=u.2) (p4:∀ u ∈ us,u.2.1.length=ms) (p5:xs.length<=ps.length) (h1:1<=ps.length) (h2:ps.length<=4000) (hl:nl.length=ms) (hr:List.replicate ms (-1)=nl) :
  (xs++[((0,nl,qN,cN):WV)]).map plW=zDS (List.replicate ms (-1)) ((none:Option WV).map (·.2.1)) (xs.map plW)/\(∀ x ∈ xs++[((0,nl,qN,cN):WV)],x.1<ps.length/\∃ u ∈ us++[((0,nl,qN,cN):WV)],x.2=u.2)/\(∀ u ∈ us++[((0,nl,qN,cN):WV)],u.2.1.length=ms)/\(xs++[((0,nl,qN,cN):WV)]).length<=4001:=by
 refine⟨by rw[hr,List.map_append];rfl,fun x hx=>?_,fun u hu=>?_,by simp;omega⟩
 ·rcases List.mem_append.1 hx with hx|hx
  ·obtain⟨a1,u,hu,e⟩:=p3 x hx;exact⟨a1,u,List.mem_append_left _ hu,e⟩
  ·rw[List.mem_singleton]at hx;subst hx;exact⟨h1,_,List.mem_append_right _ (List.mem_singleton.2 rfl),rfl⟩
 ·rcases List.mem_append.1 hu with hu|hu
  ·exact p4 u hu
  ·rw[List.mem_singleton]at hu;subst hu;exact hl
theorem zQC (t:Array Value) (h:t.size=81):∃ x0 x1 x2 x3 x4 x5 x6 x7 x8 x9 x10 x11 x12 x13 x14 x15 x16 x17 x18 x19 x20 x21 x22 x23 x24 x25 x26 x27 x28 x29 x30 x31 x32 x33 x34 x35 x36 x37 x38 x39 x40 x41 x42 x43 x44 x45 x46 x47 x48 x49 x50 x51 x52 x53 x54 x55 x56 x57 x58 x59 x60 x61 x62 x63 x64 x65 x66 x67 x68 x69 x70 x71 x72 x73 x74 x75 x76 x77 x78 x79 x80:Value,t=List.toArray (x0::x1::x2::x3::x4::x5::x6::x7::x8::x9::x10::x11::x12::x13::x14::x15::x16::x17::x18::x19::x20::x21::x22::x23::x24::x25::x26::x27::x28::x29::x30::x31::x32::x33::x34::x35::x36::x37::x38::x39::x40::x41::x42::x43::x44::x45::x46::x47::x48::x49::x50::x51::x52::x53::x54::x55::x56::x57::x58::x59::x60::x61::x62::x63::x64::x65::x66::x67::x68::x69::x70::x71::x72::x73::x74::x75::x76::x77::x78::x79::x80::[]):=by
 rw[zLX t 81 h];exact⟨_,_,_,_,_,_,_,_,_,_,_,_,_,_,_,_,_,_,_,_,_,_,_,_,_,_,_,_,_,_,_,_,_,_,_,_,_,_,_,_,_,_,_,_,_,_,_,_,_,_,_,_,_,_,_,_,_,_,_,_,_,_,_,_,_,_,_,_,_,_,_,_,_,_,_,_,_,_,_,_,_,rfl⟩
def fdV (fd:Option WV):Value:=match fd with|some y=>.slice y.2.2.1 y.2.1.length y.2.2.2|none=>.slice none 0 0
def RunR (mb gm mc:Nat) (pp:Option Addr) (cp:Nat) (ps:List InstD) (psl:Option Addr) (csl:Nat) (L:Str) (Fp Fs:Nat->Prop) (wN:WV) (ms a:Nat) (w0:World) (i:Nat) (fd:Option WV) (w:World):Prop :=
 ∃ lq lc xs us marks,Hid (zFu ps L (List.replicate ms (-1)) (L.length+1 - a) a [] none (List.replicate ps.length 0)=zFu ps L (List.replicate ms (-1)) (L.length+1 - i) i (xs.map plW) (fd.map (·.2.1)) marks/\marks.length=ps.length /\
   (∀ x ∈ xs,x.1<ps.length/\∃ u ∈ us,x.2=u.2)/\(∀ u ∈ us,u.2.1.length=ms)/\xs.length<=ps.length/\∀ y,fd=some y->y.2.1.length=ms) /\
  Hold w0 w (zB4 mb gm mc pp cp ps psl csl L Fp Fs (.slice lq xs.length lc) xs (.slice none 0 0) [] us marks++[.kn (FW [wN]) (WK [wN]),.kn (FW fd.toList) (WK fd.toList)])
def RunM (mb gm mc:Nat) (pp:Option Addr) (cp:Nat) (ps:List InstD) (psl:Option Addr) (csl:Nat) (L:Str) (Fp Fs:Nat->Prop) (wN:WV) (ms:Nat) (w0:World) (fd:Option WV) (xs:List WV) (marks:List Int) (w:World):Prop :=
 ∃ lq lc XS US,Hid (XS.map plW=zDS (List.replicate ms (-1)) (fd.map (·.2.1)) (xs.map plW)/\(∀ x ∈ XS,x.1<ps.length/\∃ u ∈ US,x.2=u.2)/\(∀ u ∈ US,u.2.1.length=ms)/\XS.length<=4001) /\
  Hold w0 w (zB4 mb gm mc pp cp ps psl csl L Fp Fs (.slice lq XS.length lc) XS (.slice none 0 0) [] US marks++[.kn (FW [wN]) (WK [wN]),.kn (FW fd.toList) (WK fd.toList)])
theorem zJ0 {p:List InstD} {s:Str} (i:Nat):∀ l:List Way,(zA9 p s i l).2.length<=l.length
 | []=>Nat.le_refl _
 | (k,sl)::r=>by
  have ih:=zJ0 (p:=p) (s:=s) i r;simp only[zA9];split
  ·simp
  split
  ·simp;omega
  ·simp;omega
theorem HoldG.rowWK {M:Nat->Prop} {w0 w:World} {l:List Res} (H:HoldG M w0 w l) {i:Nat} {q:Option Addr} {c:Nat} {xs:List Int} (hi:At l i (.row (.slice q xs.length c) 3 1 xs.length (xs.map (.int .i64)))) (hn:0<xs.length) (k:Nat) :
  HoldG M w0 w (l.set i (.kn (FW [(k,xs,q,c)]) (WK [(k,xs,q,c)]))):=by
 have hil:i<l.length:=(List.getElem?_eq_some_iff.1 hi.get).1;obtain⟨q1,c1,e1,_,_,hq⟩:=H.rowShape hi;simp only[Value.slice.injEq]at e1;obtain⟨rfl,_,rfl⟩:=e1;obtain⟨g,rfl⟩:=hq hn;obtain⟨F,_,hI⟩:=H.rowInts hi;obtain⟨b,off,e,_,hI2⟩:=hI.narrow hn;simp only[Option.some.injEq,Addr.mk.injEq]at e;obtain⟨rfl,rfl,_⟩:=e;have hwk:∀ V:World,V.heap[g]?=w.heap[g]?->WK [(k,xs,some ⟨g,0,none⟩,c)] V:=fun V hV x hx=>by
  rw[List.mem_singleton]at hx;subst hx;exact⟨(hI2.kept (fun b hb=>by rw[hb];exact hV)).mono (fun b hb=>⟨_,List.mem_singleton.2 rfl,0,by rw[hb]⟩),hn⟩
 have H1:=H.rest hi (WK [(k,xs,some ⟨g,0,none⟩,c)]) (fun V hV=>hwk V (hV g rfl))
 have H2:=H1.knTo (i:=i) (G:=FW [(k,xs,some ⟨g,0,none⟩,c)]) (T:=WK [(k,xs,some ⟨g,0,none⟩,c)]) (At.of_get (by rw[List.getElem?_set,if_pos rfl,if_pos hil])) (fun b hb=>by
  obtain⟨x,hx,o,e⟩:=hb;rw[List.mem_singleton]at hx;subst hx;have e':some (⟨g,0,none⟩:Addr)=some ⟨b,o,none⟩:=e;simp only[Option.some.injEq,Addr.mk.injEq]at e'
  rw[← e'.1];rfl) id (fun V h hV=>h.kept hV)
 rwa [List.set_set]at H2
def RunOwn (w:World) (r:Option zAP) (e:Ending) (w':World):Prop:=match r with
 | some sl=>∃ q c,e=.returned (.tuple #[.slice q sl.length c,.bool true])/\w'.ownsRow w.heap.size 3 1 (.slice q sl.length c) sl.length (sl.map (.int .i64))
 | none=>e=.returned (.tuple #[.slice none 0 0,.bool false])
theorem RunOwn.out {w w':World} {r:Option zAP} {e:Ending} (h:RunOwn w r e w'):zIW w r e w':=by
 cases r with
 | none=>exact h
 | some sl =>
  obtain⟨q,c,e1,ho⟩:=h;refine⟨q,c,fun b=>(Value.slice q sl.length c).ownBlock=some b,e1,?_,fun b hb=>⟨(World.ownsRow.lt ho b hb).2,(World.ownsRow.lt ho b hb).1⟩⟩
  have ho2:=ho;rw[← zOh]at ho2;exact RdN.of_own ho2 (fun r hr=>by obtain⟨v,_,rfl⟩:=List.mem_map.1 hr;rfl) (by rw[List.length_map]) (fun _ _=>rfl)
theorem zOk (p q g:Option Addr) (n c m d k e:Nat) (W:World):(Instr.build 194 #[(0,.agg #[.slice none 0 0,.slice g k e]),(1,.slice p n c),(2,.slice q m d)]).run Tryz.prog W=.ok (.agg #[.slice none 0 0,.slice g k e,.slice p n c,.slice q m d,.slice none 0 0]) W:=by simp[go_sem]
theorem zLY (g:Option Addr) (k e:Nat) (W:World):(Instr.build 192 #[(1,.slice g k e)]).run Tryz.prog W=.ok (.agg #[.slice none 0 0,.slice g k e]) W:=by simp[go_sem]
section
variable {ops:Array Oper} {dst:Option Tmp} {ty:TypeId} {pos:String} {aft:Array Edge} {grd:Option (Nat × Bool)} {rest:List Oper} {a:Act} {w:World} {Q:Exit->Act->World->Prop}
theorem zQr {x y z:Operand} {p q g:Option Addr} {n c m d k e:Nat} (h:wpList Tryz.prog ops Q rest (a.put dst (.agg #[.slice none 0 0,.slice g k e,.slice p n c,.slice q m d,.slice none 0 0])) w) (hg:Region.wanted (⟨dst,.build 194 #[(0,x),(1,y),(2,z)],ty,pos,aft,grd⟩:Oper) (yielded ops a.tmps)=true:=by first|rfl|exact zAT rfl (zAM rfl (by first|rfl|(simp only[pe];rfl)))) (h0:a.eval x=.agg #[.slice none 0 0,.slice g k e]:=by first|(simp only[pe];done)|(simp only[pe];rfl)) (h1:a.eval y=.slice p n c:=by first|(simp only[pe];done)|(simp only[pe];rfl)) (h2:a.eval z=.slice q m d:=by first|(simp only[pe];done)|(simp only[pe];rfl)):wpList Tryz.prog ops Q ((⟨dst,.build 194 #[(0,x),(1,y),(2,z)],ty,pos,aft,grd⟩:Oper)::rest) a w :=
 zAh hg (by simp only[execOp,List.map_toArray,List.map_cons,List.map_nil,h0,h1,h2,Sem.run_bind,zOk];rfl) h
theorem zQm {y:Operand} {g:Option Addr} {k e:Nat} (h:wpList Tryz.prog ops Q rest (a.put dst (.agg #[.slice none 0 0,.slice g k e])) w) (hg:Region.wanted (⟨dst,.build 192 #[(1,y)],ty,pos,aft,grd⟩:Oper) (yielded ops a.tmps)=true:=by first|rfl|exact zAT rfl (zAM rfl (by first|rfl|(simp only[pe];rfl)))) (h1:a.eval y=.slice g k e:=by first|(simp only[pe];done)|(simp only[pe];rfl)):wpList Tryz.prog ops Q ((⟨dst,.build 192 #[(1,y)],ty,pos,aft,grd⟩:Oper)::rest) a w :=
 zAh hg (by simp only[execOp,List.map_toArray,List.map_cons,List.map_nil,h1,Sem.run_bind,zLY];rfl) h
end
theorem zPA (pp:Option Addr) (cp:Nat) (ps:List InstD) (psl:Option Addr) (csl:Nat) (L:Str) (at_:Int) (Fp Fs:Nat->Prop) (w0:World) (hset:∀ x ∈ ps,zAb x.set) (hL:L.length<=1000) (hFp:∀ b,Fp b->b<w0.heap.size) (hFs:∀ b,Fs b->b<w0.heap.size) (hp:InstsR Fp pp cp ps w0) (hs:BytesR Fs psl csl L w0) :
  Calls Tryz.prog 77 #[.slice pp ps.length cp,.slice psl L.length csl,.int .i64 at_] w0 fun e w'=>RunOwn w0 (runP ps L at_) e w'/\Below w0.heap.size w0 w':=by
 have hr:=fun w h1 h2=>zOi pp cp ps Fp w h1 h2
 have H:=(Hold.insts hFp hp).know Fs (BytesR Fs psl csl L) hFs (fun i r h=>by
  rcases i with _|i
  ·simp at h;subst h;intro b hb;cases hb
  ·simp at h) (fun V hV=>hs.kept hV)
 simp only[ca]at H;have hbp:=hp.bound;clear hp hs
 by_cases h1:at_<0
 ·have d1:decide (at_<0)=true:=decide_eq_true h1;have E:=Lib.hid (show runP ps L at_=none by unfold runP;rw[if_pos (.inl h1)])
  clear h1
  go_enter Tryz.func77,Tryz.ntmps77
  go_wp2_with (first|fail)
  go_ret2
  exact⟨by rw[E.out];rfl,H.below⟩
 have d1:decide (at_<0)=false:=decide_eq_false h1
 by_cases h2:(L.length:Int)<at_
 ·have d2:decide ((L.length:Int)<at_)=true:=decide_eq_true h2;have E:=Lib.hid (show runP ps L at_=none by unfold runP;rw[if_pos (.inr (.inl h2))])
  clear h1 h2
  go_enter Tryz.func77,Tryz.ntmps77
  go_wp2_with (first|fail)
  go_ret2
  exact⟨by rw[E.out];rfl,H.below⟩
 obtain⟨a,rfl⟩:∃ a:Nat,at_=a:=⟨at_.toNat,by omega⟩
 have ha:a<=L.length:=by omega
 have d2:decide (L.length<a)=false:=decide_eq_false (by omega)
 have d3:decide ((L.length:Int)<(a:Int))=false:=decide_eq_false (by omega)
 by_cases hR:zAq ps=true
 case neg =>
  have hR':zAq ps=false:=by simpa using hR
  have E:=Lib.hid (show runP ps L (a:Int)=none by unfold runP;rw[if_pos (.inr (.inr hR'))])
  rw[hR']at hr;clear hR hR' h1 h2
  go_enter Tryz.func77,Tryz.ntmps77
  go_wp2_with (first|fail|((with_reducible refine ch (hr _ (H.knlt (i:=0) .zero) (H.kn (i:=0) .zero)) H ?_);clear H;intro w H))
  go_ret2
  exact⟨by rw[E.out];rfl,H.below⟩
 have E0:=Lib.hid (show runP ps L (a:Int)=zFu ps L (List.replicate (zBY ps) (-1)) (L.length+1 - a) a [] none (List.replicate ps.length 0) by
  unfold runP;rw[if_neg (by rw[hR];simp;omega),Int.toNat_natCast])
 rw[hR]at hr;clear h1 h2;obtain⟨hsi,hs2,hs42⟩:=zEE hR;have hn4:1<=ps.length/\ps.length<=4000:=by
  simp only[zAq,Bool.and_eq_true,decide_eq_true_eq]at hR;exact hR.1
 have hsl:=fun w h1 h2=>zNR pp cp ps Fp w h1 h2
 rw[hsi]at hsl;obtain⟨ms,hms⟩:∃ ms,zBY ps=ms:=⟨_,rfl⟩;rw[hms]at hsl hs2 hs42 E0;obtain⟨ii,hii,hi0,hi1,hi2⟩:=info_parts zEO;obtain⟨iw,hiw,hw0,hw1,hw2⟩:=info_parts zFl;have hrp:=fun q c F w h1 h2=>zLR q c (-1) ms F w hs2 (by omega) h1 h2
 go_enter Tryz.func77,Tryz.ntmps77
 go_upto_region 4 with (first|((with_reducible refine gMS ?_);refine zHU rfl _ _ 55 rfl H Tryz.underlying55 hii hi0 hi1 hi2 rfl (n:=ps.length) rfl rfl (by omega) (by unfold maxLen;omega) ?_;clear H;intro gm w H;simp only[ca]at H)|((with_reducible refine gZ ?_);(first|refine zQr ?_|refine zQm ?_))|((with_reducible refine kg 32 ?_);(first|refine kA 32 H ?_|refine kS 32 H ?_|refine kB 32 H ?_);clear H;intro b32 w H;try simp only[nr]at H)|fail|((with_reducible refine ch (hr _ (H.knlt (i:=0) .zero) (H.kn (i:=0) .zero)) H ?_);clear H;intro w H))
 have H2:=(H.addNil 197 2);clear H;have H:=H2;clear H2 hr;simp only[ca]at H
 go_wp2_with (first|((with_reducible refine gBS ?_);refine zAQ wtd_ _ _ _ rfl H #[.int .i64 (-1)] 3 (by intro W;simp only[ml];(try simp only[pe]);simp[go_sem]<;>rfl) ?_;clear H;intro bo w H;simp only[ca]at H)|((with_reducible refine ch (hsl _ (H.knlt (i:=0) .zero) (H.kn (i:=0) .zero)) H ?_);clear H;intro w H)|fail)
 have H2:=H.blkRowN (n:=1) (sz:=1) (i:=5) i_5 (fun h=>h) rfl (by unfold maxLen;omega)
 simp only[sc]at H2;obtain⟨F1,hF1,hI1⟩:=HoldG.rowInts (xs:=[-1]) H2 (i:=5) i_5;refine chI (hrp (some ⟨bo,0,none⟩) 1 F1 w (fun b hb=>(hF1 b hb).2) hI1) H2 ?_
 clear H H2 hF1 hI1 hrp hsl;intro qN cN w H;simp only[ca]at H;obtain⟨nl,hnl⟩:∃ nl,List.replicate ms (-1:Int)=nl:=⟨_,rfl⟩;have hnll:nl.length=ms:=by rw[← hnl,List.length_replicate]
 rw[hnl]at H ⊢;have H2:=H.rowWK (i:=6) i_6 (by omega) 0
 simp only[sc]at H2;have H3:=H2.also (FW []) (WK []) (fun b hb=>by obtain⟨x,hx,_⟩:=hb;cases hx) (fun V _ x hx=>by cases hx)
 have H4:=H3.also (FW []) (WK []) (fun b hb=>by obtain⟨x,hx,_⟩:=hb;cases hx) (fun V _ x hx=>by cases hx)
 have H5:=H4.addNil 197 2;simp only[ca]at H5
 have HR0:=Lib.hid (show RunR b32 gm ps.length pp cp ps psl csl L Fp Fs (0,nl,qN,cN) ms a w0 a none w from ⟨none,0,[],[],List.replicate ps.length 0,Lib.hid ⟨rfl,by simp,(fun x h=>by cases h),(fun x h=>by cases h),Nat.zero_le _,(fun y h=>by cases h)⟩,
  H5.pick [3,2,4,0,1,7,9,6,8] _ (by decide) (by simp only[zB4,List.map_replicate];rfl)⟩)
 clear H H2 H3 H4 H5;rw[hnll];have HNL:=Lib.hid hnll;clear hnll;have HNQ:=Lib.hid hnl;clear hnl
 go_wp2_with (first|fail)
 refine wp_loop (fun a' w'=>∃ (t:Array Value) (i:Nat) (fd:Option WV),a'={tmps:=t,defers:=[]}/\t.size=81/\t[0]?=some (.slice pp ps.length cp)/\t[1]?=some (.slice psl L.length csl)/\t[6]?=some (fdV fd)/\t[7]?=some (.bool fd.isSome)/\t[8]?=some (.pointer (some ⟨b32,0,none⟩))/\t[9]?=some (.slice qN ms cN)/\t[10]?=some (.int .i64 i)/\i<=L.length+1/\Hid (RunR b32 gm ps.length pp cp ps psl csl L Fp Fs (0,nl,qN,cN) ms a w0 i fd w')) (fun a' _=>L.length+2 - tmpN a'.tmps 10) ?start ?round
 case start=>exact⟨_,a,none,rfl,rfl,rfl,rfl,rfl,rfl,rfl,rfl,rfl,by omega,HR0⟩
 case round =>
  clear HR0;rintro a' wr ⟨t,i,fd,rfl,ht,e0,e1,e6,e7,e8,e9,e10,hi,HRR⟩;have hl:=zQC t ht;clear ht;obtain⟨u0,hl⟩:=hl;obtain⟨u1,hl⟩:=hl;obtain⟨u2,hl⟩:=hl;obtain⟨u3,hl⟩:=hl;obtain⟨u4,hl⟩:=hl;obtain⟨u5,hl⟩:=hl;obtain⟨u6,hl⟩:=hl;obtain⟨u7,hl⟩:=hl;obtain⟨u8,hl⟩:=hl;obtain⟨u9,hl⟩:=hl;obtain⟨u10,hl⟩:=hl;obtain⟨u11,hl⟩:=hl;obtain⟨u12,hl⟩:=hl;obtain⟨u13,hl⟩:=hl;obtain⟨u14,hl⟩:=hl;obtain⟨u15,hl⟩:=hl;obtain⟨u16,hl⟩:=hl
  obtain⟨u17,hl⟩:=hl;obtain⟨u18,hl⟩:=hl;obtain⟨u19,hl⟩:=hl;obtain⟨u20,hl⟩:=hl;obtain⟨u21,hl⟩:=hl;obtain⟨u22,hl⟩:=hl;obtain⟨u23,hl⟩:=hl;obtain⟨u24,hl⟩:=hl;obtain⟨u25,hl⟩:=hl;obtain⟨u26,hl⟩:=hl;obtain⟨u27,hl⟩:=hl;obtain⟨u28,hl⟩:=hl;obtain⟨u29,hl⟩:=hl;obtain⟨u30,hl⟩:=hl;obtain⟨u31,hl⟩:=hl;obtain⟨u32,hl⟩:=hl;obtain⟨u33,hl⟩:=hl;obtain⟨u34,hl⟩:=hl;obtain⟨u35,hl⟩:=hl;obtain⟨u36,hl⟩:=hl;obtain⟨u37,hl⟩:=hl
  obtain⟨u38,hl⟩:=hl;obtain⟨u39,hl⟩:=hl;obtain⟨u40,hl⟩:=hl;obtain⟨u41,hl⟩:=hl;obtain⟨u42,hl⟩:=hl;obtain⟨u43,hl⟩:=hl;obtain⟨u44,hl⟩:=hl;obtain⟨u45,hl⟩:=hl;obtain⟨u46,hl⟩:=hl;obtain⟨u47,hl⟩:=hl;obtain⟨u48,hl⟩:=hl;obtain⟨u49,hl⟩:=hl;obtain⟨u50,hl⟩:=hl;obtain⟨u51,hl⟩:=hl;obtain⟨u52,hl⟩:=hl;obtain⟨u53,hl⟩:=hl;obtain⟨u54,hl⟩:=hl;obtain⟨u55,hl⟩:=hl;obtain⟨u56,hl⟩:=hl;obtain⟨u57,hl⟩:=hl;obtain⟨u58,hl⟩:=hl
  obtain⟨u59,hl⟩:=hl;obtain⟨u60,hl⟩:=hl;obtain⟨u61,hl⟩:=hl;obtain⟨u62,hl⟩:=hl;obtain⟨u63,hl⟩:=hl;obtain⟨u64,hl⟩:=hl;obtain⟨u65,hl⟩:=hl;obtain⟨u66,hl⟩:=hl;obtain⟨u67,hl⟩:=hl;obtain⟨u68,hl⟩:=hl;obtain⟨u69,hl⟩:=hl;obtain⟨u70,hl⟩:=hl;obtain⟨u71,hl⟩:=hl;obtain⟨u72,hl⟩:=hl;obtain⟨u73,hl⟩:=hl;obtain⟨u74,hl⟩:=hl;obtain⟨u75,hl⟩:=hl;obtain⟨u76,hl⟩:=hl;obtain⟨u77,hl⟩:=hl;obtain⟨u78,hl⟩:=hl;obtain⟨u79,hl⟩:=hl
  obtain⟨u80,hl⟩:=hl;subst hl;replace e0:some u0=some (.slice pp ps.length cp):=e0;replace e1:some u1=some (.slice psl L.length csl):=e1;replace e6:some u6=some (fdV fd):=e6;replace e7:some u7=some (.bool fd.isSome):=e7;replace e8:some u8=some (.pointer (some ⟨b32,0,none⟩)):=e8;replace e9:some u9=some (.slice qN ms cN):=e9;replace e10:some u10=some (.int .i64 i):=e10
  cases e0;cases e1;cases e6;cases e7;cases e8;cases e9;cases e10
  obtain⟨lq,lc,xs,us,marks,HP,H⟩:=HRR.out;clear HRR;have hfin:∀ (fdn:Option WV) (v:Array Value) (w':World),v.size=81->v[0]?=some (.slice pp ps.length cp)->v[1]?=some (.slice psl L.length csl)->v[6]?=some (fdV fdn)->v[7]?=some (.bool fdn.isSome)->v[8]?=some (.pointer (some ⟨b32,0,none⟩))->v[9]?=some (.slice qN ms cN)->v[10]?=some (.int .i64 ((i:Int)+1))->i<=L.length->Hid (RunR b32 gm ps.length pp cp ps psl csl L Fp Fs (0,nl,qN,cN) ms a w0 (i+1) fdn w') ->
    (∃ (t:Array Value) (i:Nat) (fd:Option WV),({tmps:=v,defers:=[]}:Act)={tmps:=t,defers:=[]}/\t.size=81/\t[0]?=some (.slice pp ps.length cp)/\t[1]?=some (.slice psl L.length csl)/\t[6]?=some (fdV fd)/\t[7]?=some (.bool fd.isSome)/\t[8]?=some (.pointer (some ⟨b32,0,none⟩))/\t[9]?=some (.slice qN ms cN)/\t[10]?=some (.int .i64 i)/\i<=L.length+1/\Hid (RunR b32 gm ps.length pp cp ps psl csl L Fp Fs (0,nl,qN,cN) ms a w0 i fd w'))/\L.length+2 - tmpN v 10<L.length+2 - ((i:Nat):Int).toNat:=by
   intro fdn v w' h h0 h1 h6 h7 h8 h9 h10 hi hR;refine⟨⟨v,i+1,fdn,rfl,h,h0,h1,h6,h7,h8,h9,by rw[h10,Int.natCast_add];rfl,by omega,hR⟩,?_⟩
   rw[zJQ _ 10 _ h10];omega
  have HFIN:=Lib.hid hfin;clear hfin
  by_cases hil:i<=L.length
  ·have di:decide (i<=L.length)=true:=decide_eq_true hil;have di2:decide ((i:Int)<=(L.length:Int))=true:=decide_eq_true (by omega)
   simp only[zB4,List.cons_append,List.nil_append]at H
   go_upto_if 45 with (first|fail)
   refine wp_cut (fun a' w'=>(∃ t:Array Value,a'=({tmps:=t,defers:=[]}:Act)/\t.size=81/\t[0]?=some (.slice pp ps.length cp)/\t[1]?=some (.slice psl L.length csl)/\t[6]?=some (fdV fd)/\t[7]?=some (.bool fd.isSome)/\t[8]?=some (.pointer (some ⟨b32,0,none⟩))/\t[9]?=some (.slice qN ms cN)/\t[10]?=some (.int .i64 i))/\RunM b32 gm ps.length pp cp ps psl csl L Fp Fs (0,nl,qN,cN) ms w0 fd xs marks w') ?rest ?first
   case first =>
    intro J K' hJ hM;obtain⟨p1,p2,p3,p4,p5,p6⟩:=HP.out
    cases fd with
    | some y =>
     go_wp2_with (first|fail)
     (refine Met.intro ?_;go_step;exact⟨⟨_,rfl,rfl,rfl,rfl,rfl,rfl,rfl,rfl,rfl⟩,⟨lq,lc,xs,us,Lib.hid ⟨rfl,p3,p4,Nat.le_trans p5 (Nat.le_trans hn4.2 (by decide))⟩,H⟩⟩)
    | none =>
     have hwn:wayC (0,nl,qN,cN)=#[.int .i64 0,.slice qN ms cN]:=by unfold wayC;simp only[HNL.out];rfl
     have HWR:=Lib.hid (show ∀ W:World,(Instr.buildSlice 190 1 #[(0,.agg #[.int .i64 0,.slice qN ms cN])]).run Tryz.prog W=.ok (.slice (some ⟨W.heap.size,0,none⟩) 1 1) (W.alloc (.cells #[.int .i64 0,.slice qN ms cN] 197)) by intro W;rw[← hwn];exact zEV _ W)
     have HWN:=Lib.hid hwn;clear hwn;have HRM:=Lib.hid (⟨zEM (Nat.le_trans p5 (Nat.le_trans hn4.2 (by decide))) (by decide),zDR (Nat.le_trans p5 (Nat.le_trans hn4.2 (by decide))) (by decide)⟩:xs.length+1<=maxLen/\(xs.length+1) * 32<=140737488355328)
     go_wp2_with (first|((with_reducible refine gL ?_);refine zAE wtd_ _ _ rfl rfl H (i:=0) .zero zAz rfl ?_)|((with_reducible refine gBd ?_);refine bWay ?_)|((with_reducible refine gBS ?_);refine zAQ wtd_ _ _ _ rfl H #[.int .i64 0,.slice qN ms cN] 197 (by intro W;simp only[ml];(try simp only[pe]);exact HWR.out W) ?_;clear H;intro bt w H;simp only[ca]at H)|(at_builtin;refine zAx rfl _ _ 190 rfl H (i:=6) (j:=9) evd_ rfl i_6 i_9 Tryz.underlying190 hiw hw0 hw1 hw2 rfl (by decide) rfl rfl HRM.out.1 HRM.out.2 ?_;clear H;intro v2 w H;simp only[sc]at H;(obtain⟨q2,c2,rfl,_,_,_⟩:=H.rowShape (i:=6) i_6))|((with_reducible refine gT ?_);refine zAN wtd_ _ _ _ rfl rfl evd_ H (i:=0) .zero rfl (by show 0<5;omega) (zAD zAz) ?_;clear H;intro w H;simp only[List.setIfInBounds_toArray,List.set_cons_succ,List.set_cons_zero]at H)|fail)
     rw[show ([.int .i64 0,.slice qN ms cN]:List Value)=(wayC (0,nl,qN,cN)).toList by rw[HWN.out],zCJ,show xs.length+1=(xs++[((0,nl,qN,cN):WV)]).length by simp]at H
     have H2:=H.knApp (i:=5) (j:=7) (us:=us) (ux:=[(0,nl,qN,cN)]) i_5 i_7;simp only[sc]at H2;clear H
     (refine Met.intro ?_;go_step;exact⟨⟨_,rfl,rfl,rfl,rfl,rfl,rfl,rfl,rfl,rfl⟩,⟨q2,c2,xs++[(0,nl,qN,cN)],us++[(0,nl,qN,cN)],Lib.hid (zMV p3 p4 p5 hn4.1 hn4.2 HNL.out HNQ.out),H2.take 9⟩⟩)
   case rest =>
    clear H
    (rintro _ wc ⟨⟨t,rfl,ht,e0,e1,e6,e7,e8,e9,e10⟩,hcut⟩;have hl:=zQC t ht;clear ht;obtain⟨u0,hl⟩:=hl;obtain⟨u1,hl⟩:=hl;obtain⟨u2,hl⟩:=hl;obtain⟨u3,hl⟩:=hl;obtain⟨u4,hl⟩:=hl;obtain⟨u5,hl⟩:=hl;obtain⟨u6,hl⟩:=hl;obtain⟨u7,hl⟩:=hl;obtain⟨u8,hl⟩:=hl;obtain⟨u9,hl⟩:=hl;obtain⟨u10,hl⟩:=hl;obtain⟨u11,hl⟩:=hl;obtain⟨u12,hl⟩:=hl;obtain⟨u13,hl⟩:=hl;obtain⟨u14,hl⟩:=hl;obtain⟨u15,hl⟩:=hl;obtain⟨u16,hl⟩:=hl;obtain⟨u17,hl⟩:=hl;obtain⟨u18,hl⟩:=hl;obtain⟨u19,hl⟩:=hl;obtain⟨u20,hl⟩:=hl;obtain⟨u21,hl⟩:=hl;obtain⟨u22,hl⟩:=hl;obtain⟨u23,hl⟩:=hl;obtain⟨u24,hl⟩:=hl;obtain⟨u25,hl⟩:=hl;obtain⟨u26,hl⟩:=hl;obtain⟨u27,hl⟩:=hl;obtain⟨u28,hl⟩:=hl;obtain⟨u29,hl⟩:=hl;obtain⟨u30,hl⟩:=hl;obtain⟨u31,hl⟩:=hl;obtain⟨u32,hl⟩:=hl;obtain⟨u33,hl⟩:=hl;obtain⟨u34,hl⟩:=hl;obtain⟨u35,hl⟩:=hl;obtain⟨u36,hl⟩:=hl;obtain⟨u37,hl⟩:=hl;obtain⟨u38,hl⟩:=hl;obtain⟨u39,hl⟩:=hl;obtain⟨u40,hl⟩:=hl;obtain⟨u41,hl⟩:=hl;obtain⟨u42,hl⟩:=hl;obtain⟨u43,hl⟩:=hl;obtain⟨u44,hl⟩:=hl;obtain⟨u45,hl⟩:=hl;obtain⟨u46,hl⟩:=hl;obtain⟨u47,hl⟩:=hl;obtain⟨u48,hl⟩:=hl;obtain⟨u49,hl⟩:=hl;obtain⟨u50,hl⟩:=hl;obtain⟨u51,hl⟩:=hl;obtain⟨u52,hl⟩:=hl;obtain⟨u53,hl⟩:=hl;obtain⟨u54,hl⟩:=hl;obtain⟨u55,hl⟩:=hl;obtain⟨u56,hl⟩:=hl;obtain⟨u57,hl⟩:=hl;obtain⟨u58,hl⟩:=hl;obtain⟨u59,hl⟩:=hl;obtain⟨u60,hl⟩:=hl;obtain⟨u61,hl⟩:=hl;obtain⟨u62,hl⟩:=hl;obtain⟨u63,hl⟩:=hl;obtain⟨u64,hl⟩:=hl;obtain⟨u65,hl⟩:=hl;obtain⟨u66,hl⟩:=hl;obtain⟨u67,hl⟩:=hl;obtain⟨u68,hl⟩:=hl;obtain⟨u69,hl⟩:=hl;obtain⟨u70,hl⟩:=hl;obtain⟨u71,hl⟩:=hl;obtain⟨u72,hl⟩:=hl;obtain⟨u73,hl⟩:=hl;obtain⟨u74,hl⟩:=hl;obtain⟨u75,hl⟩:=hl;obtain⟨u76,hl⟩:=hl;obtain⟨u77,hl⟩:=hl;obtain⟨u78,hl⟩:=hl;obtain⟨u79,hl⟩:=hl;obtain⟨u80,hl⟩:=hl;subst hl;(replace e0:some u0=some (.slice pp ps.length cp):=e0);(cases e0);(replace e1:some u1=some (.slice psl L.length csl):=e1);(cases e1);(replace e6:some u6=some (fdV fd):=e6);(cases e6);(replace e7:some u7=some (.bool fd.isSome):=e7);(cases e7);(replace e8:some u8=some (.pointer (some ⟨b32,0,none⟩)):=e8);(cases e8);(replace e9:some u9=some (.slice qN ms cN):=e9);(cases e9);(replace e10:some u10=some (.int .i64 i):=e10);(cases e10))
    obtain⟨lq,lc,XS,US,HQ,H⟩:=hcut;obtain⟨q1,q2,q3,q4⟩:=HQ.out;obtain⟨p1,p2,p3,p4,p5,p6⟩:=HP.out
    go_wp2_with fail
    refine(zPk b32 gm ps.length pp cp ps psl csl L Fp Fs lq lc XS US marks ms i w0 _ hR hset hL hn4.2 hil hms hs42 p2 q2 q3 (Nat.le_trans q4 (by decide)) (H.take 7)).mono ?_
    rintro e w2 ⟨nq,nc,ys,us2,marks2,L1,L2,L3,L4,rfl,T⟩;have H2:=HoldG.callL (a:=zB4 b32 gm ps.length pp cp ps psl csl L Fp Fs (.slice lq XS.length lc) XS (.slice none 0 0) [] US marks) (ext:=[.kn (FW [((0,nl,qN,cN):WV)]) (WK [(0,nl,qN,cN)]),.kn (FW (fd:Option WV).toList) (WK (fd:Option WV).toList)]) H T;clear H T;have hin:∀ y ∈ ys,y.1<ps.length/\((atI ps y.1).kind=1\/(atI ps y.1).kind=5):=by
     intro y hy;have h1:plW y ∈ (zBS ps L i (XS.map plW) marks).2:=by rw[L1];exact List.mem_map.2 ⟨y,hy,rfl⟩
     refine⟨zJH (zFG hR) i _ _ (fun e he=>?_) _ h1,zIm i _ _ _ h1⟩
     obtain⟨x,hx,rfl⟩:=List.mem_map.1 he;exact(q2 x hx).1
    have hyn:ys.length<=1000000:=Nat.le_trans L4 (Nat.le_trans hn4.2 (by decide))
    simp only[zB4,List.cons_append,List.nil_append]at H2;have H3:=H2.also (FW us2) (zN0 (FW us2) ys) (Still.at (i:=5) (S:=WK us2) i_5) (fun V hV x hx=>by obtain⟨u,hu,h⟩:=L2 x hx;rw[h];exact((H2.kn (i:=5) i_5).kept hV).ints hu)
    clear H2;simp only[ca]at H3;have hm2:marks2.length=ps.length:=by have:=zG9 (p:=ps) (s:=L) i (XS.map plW) marks;rw[L1]at this;exact this.trans p2
    have HLE:=Lib.hid hm2;clear hm2;have hrg:∀ (b1:Option zAP) (zs:List Way),zA9 ps L i (ys.map plW)=(b1,zs)->_:=fun b1 zs h2=>zKe (n:=L.length+1 - (i+1)) (nl:=List.replicate ms (-1)) (found:=fd.map (·.2.1)) (l:=xs.map plW) (m:=marks) (by rw[← q1];exact L1) h2
    rw[show L.length+1 - (i+1)+1=L.length+1 - i from zNo hil]at hrg
    have HG:=Lib.hid hrg;clear hrg L1;have HLS:=Lib.hid (And.intro L2 (And.intro L3 L4));clear L2 L3 L4;have HIN:=Lib.hid hin;clear hin;have HPP:=Lib.hid (And.intro p1 p6);clear p1 p2 p3 p4 p5 p6 q1 q2 q3 q4
    go_wp2_with fail
    refine(zO8 b32 (.slice (some ⟨gm,0,none⟩) ps.length ps.length) (.slice nq ys.length nc) lq lc pp cp ps psl csl L Fp Fs (FW us2) ys i _ w0 w2 hR hset HIN.out hyn (H3.pick [0,6,3,4,9,2] _ (by decide) rfl)).mono ?_
    rintro e w3 ⟨lv',zs,fd',S1,S2,S3,rfl,T2⟩;have H4:=H3.callIn (l3:=[.row (.slice (some ⟨gm,0,none⟩) ps.length ps.length) 3 1 ps.length (marks2.map (.int .i64)),.kn (FW us2) (WK us2)]++[.kn (FW [((0,nl,qN,cN):WV)]) (WK [(0,nl,qN,cN)]),.kn (FW (fd:Option WV).toList) (WK (fd:Option WV).toList)]) T2 [0,6,3,4,9,2] [1,5,7,8] rfl rfl (by decide) (by decide)
    clear H3 T2;simp only[zFR,List.cons_append,List.nil_append]at H4;obtain⟨zq,zc,rfl,_,_,_⟩:=H4.rowShape (i:=1) i_1;have hzl:zs.length<=ps.length:=by
     have h1:=zJ0 (p:=ps) (s:=L) i (ys.map plW);rw[S1,List.length_map,List.length_map]at h1;exact Nat.le_trans h1 HLS.out.2.2
    have hg:=HG.out _ _ S1;clear HG S1;have hzk:∀ z ∈ zs,z.1<ps.length/\∃ u ∈ us2,z.2=u.2:=fun z hz=>by obtain⟨h1,y,hy,h2⟩:=S2 z hz;obtain⟨u,hu,h3⟩:=HLS.out.1 y hy;exact⟨h1,u,hu,h2.trans h3⟩
    have H:=(H4.addNil 197 2).pick [0,5,9,2,3,6,1,7,8] (zB4 b32 gm ps.length pp cp ps psl csl L Fp Fs (.slice zq zs.length zc) zs (.slice none 0 0) [] us2 marks2++[.kn (FW [((0,nl,qN,cN):WV)]) (WK [(0,nl,qN,cN)]),.kn (FW (fd:Option WV).toList) (WK (fd:Option WV).toList)]) (by decide) rfl
    clear H4 S2;have HZK:=Lib.hid (And.intro hzk hzl);clear hzk hzl
    cases fd' with
    | some y =>
     have hym:=S3 y rfl;obtain⟨uy,huy,hyu⟩:=HLS.out.1 y hym;have hyl:y.2.1.length=ms:=by rw[hyu];exact HLS.out.2.1 uy huy
     have H2:=H.also (FW [y]) (WK [y]) (fun b hb=>Still.at (i:=5) (S:=WK us2) i_5 b (FW.sub (fun x hx=>by rw[List.mem_singleton]at hx;subst hx;exact⟨uy,huy,hyu⟩) hb)) (fun V hV=>((H.kn (i:=5) i_5).sub (vs:=[y]) (fun x hx=>by rw[List.mem_singleton]at hx;subst hx;exact⟨uy,huy,hyu⟩)).kept hV)
     obtain⟨yb,yo,hya⟩:=((H2.kn (i:=9) i_9).ints (List.mem_singleton.2 rfl)).at (by rw[hyl];omega)
     have H3:=H2.pick [0,1,2,3,4,5,6,7,9] (zB4 b32 gm ps.length pp cp ps psl csl L Fp Fs (.slice zq zs.length zc) zs (.slice none 0 0) [] us2 marks2++[.kn (FW [((0,nl,qN,cN):WV)]) (WK [(0,nl,qN,cN)]),.kn (FW (some y:Option WV).toList) (WK (some y:Option WV).toList)]) (by decide) rfl
     clear H H2;have H:=H3;clear H3;obtain⟨yk,ysl,yp,yc⟩:=y;simp only at hya hyl;subst hya;simp only[Option.map_some,orP,Option.isSome_some,Bool.true_and]at hg
     cases zs with
     | nil =>
      have E:=Lib.hid (show runP ps L (a:Int)=some ysl by rw[E0.out,HPP.out.1];exact hg)
      clear hg HPP;simp only[zB4,List.cons_append,List.nil_append,Option.toList_some,List.length_nil]at H ⊢;replace hyl:((yk,ysl,some ⟨yb,yo,none⟩,yc):WV).2.1.length=ms:=hyl;have HYL:=Lib.hid (show ((yk,ysl,some ⟨yb,yo,none⟩,yc):WV).2.1.length<=1000000 by rw[hyl];omega)
      clear hyl
      go_wp2_with (first|(go_at_call 115;refine chI (zFf ((yk,ysl,some ⟨yb,yo,none⟩,yc):WV).2.2.1 ((yk,ysl,some ⟨yb,yo,none⟩,yc):WV).2.2.2 ((yk,ysl,some ⟨yb,yo,none⟩,yc):WV).2.1 (FW [((yk,ysl,some ⟨yb,yo,none⟩,yc):WV)]) _ HYL.out (H.knlt (i:=8) i_8) ((H.kn (i:=8) i_8).ints (List.mem_singleton.2 rfl))) H ?_;clear H;intro q9 c9 w H;simp only[ca]at H)|((with_reducible refine gNN ?_);refine nN ?_)|((with_reducible refine gL ?_);refine zAE wtd_ _ _ rfl rfl H (i:=0) .zero zAz rfl ?_)|fail)
      go_ret2
      refine⟨?_,H.below⟩;rw[E.out];exact⟨q9,c9,rfl,H.all 9 _ rfl⟩
     | cons z0 zs =>
      have HG2:=Lib.hid (hg.trans (if_neg (by simp)))
      clear hg;have HYH:=Lib.hid hyl;clear hyl;have HFY:=Lib.hid (show ∀ y':WV,some ((yk,ysl,some ⟨yb,yo,none⟩,yc):WV)=some y'->y'.2.1.length=ms from fun y' h=>by cases h;exact HYH.out)
      have dz:((((z0::zs).length:Nat):Int) == 0)=false:=by rw[beq_eq_false_iff_ne];simp;omega
      have dz2:(((z0::zs).length) == 0)=false:=by simp
      have HRN:=Lib.hid (show RunR b32 gm ps.length pp cp ps psl csl L Fp Fs (0,nl,qN,cN) ms a w0 (i+1) (some ((yk,ysl,some ⟨yb,yo,none⟩,yc):WV)) w3 from ⟨zq,zc,z0::zs,us2,marks2,Lib.hid ⟨HPP.out.1.trans HG2.out,HLE.out,HZK.out.1,HLS.out.2.1,HZK.out.2,HFY.out⟩,H⟩)
      obtain⟨zn,hzn⟩:∃ zn,(z0::zs).length=zn:=⟨_,rfl⟩;simp only[zB4,List.cons_append,List.nil_append]at H;rw[hzn]at H dz dz2;have HZN:=Lib.hid hzn;clear hzn
      go_wp2_with (first|((with_reducible refine gNN ?_);refine nN ?_)|((with_reducible refine gL ?_);refine zAE wtd_ _ _ rfl rfl H (i:=0) .zero zAz rfl ?_)|fail)
      exact HFIN.out (some ((yk,ysl,some ⟨yb,yo,none⟩,yc):WV)) _ _ rfl rfl rfl rfl rfl rfl rfl rfl hil HRN
    | none =>
     simp only[Option.map_none,orP]at hg
     cases fd with
     | none =>
      have HG2:=Lib.hid (hg.trans (if_neg (by simp)))
      clear hg;have HRN:=Lib.hid (show RunR b32 gm ps.length pp cp ps psl csl L Fp Fs (0,nl,qN,cN) ms a w0 (i+1) none w3 from ⟨zq,zc,zs,us2,marks2,Lib.hid ⟨HPP.out.1.trans HG2.out,HLE.out,HZK.out.1,HLS.out.2.1,HZK.out.2,fun y h=>by cases h⟩,H⟩)
      simp only[zB4,List.cons_append,List.nil_append,fdV,Option.isSome_none]at H ⊢
      go_wp2_with (first|((with_reducible refine gNN ?_);refine nN ?_)|((with_reducible refine gL ?_);refine zAE wtd_ _ _ rfl rfl H (i:=0) .zero zAz rfl ?_)|fail)
      exact HFIN.out none _ _ rfl rfl rfl rfl rfl rfl rfl rfl hil HRN
     | some y =>
      have hyl:=HPP.out.2 y rfl;simp only[Option.map_some,Option.isSome_some,Bool.true_and]at hg
      cases zs with
      | nil =>
       have E:=Lib.hid (show runP ps L (a:Int)=some y.2.1 by rw[E0.out,HPP.out.1];exact hg)
       clear hg HPP;simp only[zB4,List.cons_append,List.nil_append,fdV,Option.isSome_some,Option.toList_some,List.length_nil]at H ⊢;have HYL:=Lib.hid (show y.2.1.length<=1000000 by rw[hyl];omega)
       clear hyl
       go_wp2_with (first|(go_at_call 115;refine chI (zFf y.2.2.1 y.2.2.2 y.2.1 (FW [y]) _ HYL.out (H.knlt (i:=8) i_8) ((H.kn (i:=8) i_8).ints (List.mem_singleton.2 rfl))) H ?_;clear H;intro q9 c9 w H;simp only[ca]at H)|((with_reducible refine gNN ?_);refine nN ?_)|((with_reducible refine gL ?_);refine zAE wtd_ _ _ rfl rfl H (i:=0) .zero zAz rfl ?_)|fail)
       go_ret2
       refine⟨?_,H.below⟩;rw[E.out];exact⟨q9,c9,rfl,H.all 9 _ rfl⟩
      | cons z0 zs =>
       have HG2:=Lib.hid (hg.trans (if_neg (by simp)))
       clear hg;have dz:((((z0::zs).length:Nat):Int) == 0)=false:=by rw[beq_eq_false_iff_ne];simp;omega
       have dz2:(((z0::zs).length) == 0)=false:=by simp
       have HRN:=Lib.hid (show RunR b32 gm ps.length pp cp ps psl csl L Fp Fs (0,nl,qN,cN) ms a w0 (i+1) (some y) w3 from ⟨zq,zc,z0::zs,us2,marks2,Lib.hid ⟨HPP.out.1.trans HG2.out,HLE.out,HZK.out.1,HLS.out.2.1,HZK.out.2,HPP.out.2⟩,H⟩)
       obtain⟨zn,hzn⟩:∃ zn,(z0::zs).length=zn:=⟨_,rfl⟩;simp only[zB4,List.cons_append,List.nil_append,fdV,Option.isSome_some]at H ⊢;rw[hzn]at H dz dz2;have HZN:=Lib.hid hzn;clear hzn hyl
       try clear hyl
       go_wp2_with (first|((with_reducible refine gNN ?_);refine nN ?_)|((with_reducible refine gL ?_);refine zAE wtd_ _ _ rfl rfl H (i:=0) .zero zAz rfl ?_)|fail)
       exact HFIN.out (some y) _ _ rfl rfl rfl rfl rfl rfl rfl rfl hil HRN
  ·have di:decide (i<=L.length)=false:=decide_eq_false hil;have di2:decide ((i:Int)<=(L.length:Int))=false:=decide_eq_false (by omega)
   have hE:runP ps L (a:Int)=fd.map (·.2.1):=by rw[E0.out,HP.out.1,show L.length+1 - i=0 by omega];rfl
   cases fd with
   | none =>
    have E:=Lib.hid (show runP ps L (a:Int)=none from hE)
    clear hE;simp only[zB4,List.cons_append,List.nil_append,fdV,Option.isSome_none]at H ⊢
    go_wp2_with (first|((with_reducible refine ch (zIp _) H ?_);clear H;intro w H)|fail)
    go_ret2
    exact⟨by rw[E.out];rfl,H.below⟩
   | some y =>
    have hyl:=HP.out.2.2.2.2.2 y rfl;have E:=Lib.hid (show runP ps L (a:Int)=some y.2.1 from hE)
    clear hE;simp only[zB4,List.cons_append,List.nil_append,fdV,Option.isSome_some,Option.toList_some]at H ⊢;have HYL:=Lib.hid (show y.2.1.length<=1000000 by rw[hyl];omega)
    clear hyl
    go_wp2_with (first|(go_at_call 115;refine chI (zFf y.2.2.1 y.2.2.2 y.2.1 (FW [y]) _ HYL.out (H.knlt (i:=8) i_8) ((H.kn (i:=8) i_8).ints (List.mem_singleton.2 rfl))) H ?_;clear H;intro q9 c9 w H;simp only[ca]at H)|((with_reducible refine gNN ?_);refine nN ?_)|((with_reducible refine gL ?_);refine zAE wtd_ _ _ rfl rfl H (i:=0) .zero zAz rfl ?_)|fail)
    go_ret2
    refine⟨?_,H.below⟩;rw[E.out];exact⟨q9,c9,rfl,H.all 9 _ rfl⟩
theorem zKu (xs:List Value):zAW (xs.map fun v=>#[v])=xs:=by
 induction xs with
 | nil=>rfl
 | cons x r ih=>simp only[zAW,List.map_cons,List.flatten_cons]at ih ⊢;rw[ih];rfl
theorem zEZ {P:Program} {o:Oper} {a:Act} {w:World} {x y:Operand} {T e:TypeId} {g n c i:Nat} {k:IntKind} (hu:P.underlying T=some (.slice e)) (hs:∀ w,(sizeOf e).run P w=.ok 1 w)
  (hop:o.op=Op.indexAddr T x y) (hx:a.eval x=.slice (some ⟨g,0,none⟩) n c) (hy:a.eval y=.int k (i:Int)) (hi:i<n):(execOp a.eval o).run P w=.ok (.value (.pointer (some ⟨g,i,none⟩))) w:=by
 simp only[execOp,hop,hx,hy];simp[Instr.indexAt,asIntOf,go_sem,run_underlying hu,hs];intro hc;omega
theorem zN3 {P:Program} {o:Oper} {a:Act} {w:World} {x y:Operand} {T e:TypeId} {sz g off n c i q:Nat} {k:IntKind} (hu:P.underlying T=some (.slice e)) (hs:∀ w,(sizeOf e).run P w=.ok sz w)
  (hop:o.op=Op.indexAddr T x y) (hx:a.eval x=.slice (some ⟨g,off,none⟩) n c) (hy:a.eval y=.int k (i:Int)) (hi:i<n) (hq:off+i * sz=q):(execOp a.eval o).run P w=.ok (.value (.pointer (some ⟨g,q,none⟩))) w:=by
 subst hq;simp only[execOp,hop,hx,hy];simp[Instr.indexAt,asIntOf,go_sem,run_underlying hu,hs];intro hc;omega
theorem HoldG.rowBytes {M:Nat->Prop} {w0 w:World} {l:List Res} (H:HoldG M w0 w l) {i cap:Nat} {q:Option Addr} {L:Str} (hi:At l i (.row (.slice q L.length cap) 5 1 L.length (L.map fun b=>.int .u8 b.toNat))) :
  ∃ F:Nat->Prop,(∀ b,F b->b<w.heap.size)/\BytesR F q cap L w:=by
 have ho:=H.all i _ hi.get;have e:(L.map fun b=>Value.int .u8 b.toNat)=zAW (L.map fun b=>#[Value.int .u8 b.toNat]):=by
  rw[show (L.map fun b=>#[Value.int .u8 b.toNat])=(L.map fun b=>Value.int .u8 b.toNat).map (fun v=>#[v]) by rw[List.map_map];rfl,zKu]
 refine⟨fun b=>(Value.slice q L.length cap).ownBlock=some b,fun b hb=>(ho.lt b hb).2,?_⟩
 unfold Res.Holds at ho;rw[e]at ho;exact RdN.of_own ho (fun r hr=>by obtain⟨v,_,rfl⟩:=List.mem_map.1 hr;rfl) (by rw[List.length_map]) (fun _ _=>rfl)
theorem zIV (q q2:Option Addr) (c c2:Nat) (xs:List Int) (F G:Nat->Prop) (w0:World) (hF:∀ b,F b->b<w0.heap.size) (hG:∀ b,G b->b<w0.heap.size) (h1:IntsR F q c xs w0) (h2:IntsR G q2 c2 xs w0) :
  Calls Tryz.prog 18 #[.slice q xs.length c,.slice q2 xs.length c2] w0 (Rt (.bool true) w0):=by
 have hb1:=h1.bound;have hat1:=h1.at;have hat2:=h2.at
 have H:=((Hold.start w0).know F (IntsR F q c xs) hF (fun i r h=>by simp at h) (fun V hV=>h1.kept hV)).know G (IntsR G q2 c2 xs) hG (fun i r h=>by
  rcases i with _|i
  ·simp at h;subst h;intro b hb;cases hb
  ·simp at h) (fun V hV=>h2.kept hV)
 simp only[ca]at H;clear h1 h2;obtain⟨n,hn⟩:∃ n,xs.length=n:=⟨_,rfl⟩;have HN:=Lib.hid hn;rw[hn]at hb1 hat1 hat2 ⊢;clear hn;have hne:((n:Int) != (n:Int))=false:=by simp
 go_enter Tryz.func18,Tryz.ntmps18
 go_wp2_with fail
 go_loopw [5] (fun i wr=>∃ k:Nat,k<=n/\i=.int .i64 k/\Hold w0 wr [.kn F (IntsR F q c xs),.kn G (IntsR G q2 c2 xs)]) (fun i _=>n - (intOf i).toNat)
 case atStart=>exact⟨0,by omega,rfl,H⟩
 case round =>
  clear H;obtain⟨k,hk,rfl,H⟩:=hrel
  by_cases hlt:k<n
  ·have dk:decide (k<n)=true:=decide_eq_true hlt;have dk2:decide ((k:Int)<(n:Int))=true:=decide_eq_true (by omega)
   obtain⟨b1,o1,rfl⟩:=hat1 (by omega)
   obtain⟨b2,o2,rfl⟩:=hat2 (by omega)
   have hkx:k<xs.length:=by rw[HN.out];exact hlt
   obtain⟨x,hx⟩:∃ x,xs[k]=x:=⟨_,rfl⟩;have HC1:=Lib.hid (fun V (h:IntsR F (some ⟨b1,o1,none⟩) c xs V)=>(h.cell hkx).trans (by rw[hx]):∀ V,IntsR F (some ⟨b1,o1,none⟩) c xs V->V.cell? ⟨b1,o1+k,none⟩=some (.int .i64 x))
   have HC2:=Lib.hid (fun V (h:IntsR G (some ⟨b2,o2,none⟩) c2 xs V)=>(h.cell hkx).trans (by rw[hx]):∀ V,IntsR G (some ⟨b2,o2,none⟩) c2 xs V->V.cell? ⟨b2,o2+k,none⟩=some (.int .i64 x))
   clear hx hkx
   go_upto_region 6 with fail
   refine wr_ 9 [fun v _=>v=.slice (some ⟨b1,o1,none⟩) n c,fun v _=>v=.int .i64 (k:Int),fun v _=>v=.pointer (some ⟨b1,o1+k,none⟩),fun v _=>v=.int .i64 x,fun v _=>v=.slice (some ⟨b2,o2,none⟩) n c2,fun v _=>v=.int .i64 (k:Int),fun v _=>v=.pointer (some ⟨b2,o2+k,none⟩),fun v _=>v=.int .i64 x,fun v _=>v=.bool false] ?ob ?en
   case ob =>
    refine⟨?_,?_,?_,?_,?_,?_,?_,?_,?_,trivial⟩<;>intro A W h
    ·exact zAB rfl rfl (h.f 0)
    ·exact zAB rfl rfl (h.f 5)
    ·exact zAU (sz:=1) Tryz.underlying55 (fun w=>by kernel_rfl) rfl rfl (h.d 0 17) (h.d 1 18) (by omega) (by omega)
    ·exact zAA rfl (zAC rfl (h.d 2 19) zAF (HC1.out _ ((H.call h.below).kn (i:=0) .zero))) (by decide)
    ·exact zAB rfl rfl (h.f 1)
    ·exact zAB rfl rfl (h.f 5)
    ·exact zAU (sz:=1) Tryz.underlying55 (fun w=>by kernel_rfl) rfl rfl (h.d 4 21) (h.d 5 22) (by omega) (by omega)
    ·exact zAA rfl (zAC rfl (h.d 6 23) zAF (HC2.out _ ((H.call h.below).kn (i:=1) i_1))) (by decide)
    ·(have e20:A.eval (.tmp 20)=.int .i64 x:=h.d 3 20;have e24:A.eval (.tmp 24)=.int .i64 x:=h.d 7 24;refine zAA rfl ?_;simp only[execOp,e20,e24];(simp[go_sem]<;>first|done|omega|(rw[IntKind.wrap_i64];omega)|(rw[IntKind.wrap_u8];omega)|(rw[IntKind.wrap_u64];omega)))
   case en =>
    intro vals W hbw hv _;simp only[fa,Nat.reduceAdd];rw[e_ hv 0,e_ hv 1,e_ hv 2,e_ hv 3,e_ hv 4,e_ hv 5,e_ hv 6,e_ hv 7,e_ hv 8];clear hv
    try simp only[pl]
    replace H:=H.call hbw;clear hbw
    go_wp2_with fail
    go_roundw
    case rel=>exact⟨k+1,by omega,by go_num,H⟩
    case measure=>simp[intOf];omega
  ·obtain rfl:k=n:=by omega
   have dk:decide (k<k)=false:=by simp
   have dk2:decide ((k:Int)<(k:Int))=false:=by simp
   go_wp2_with fail
   go_ret;exact⟨rfl,H.below⟩
section
variable {M:Nat->Prop} {P:Program} {f:FuncId} {args:Array Value} {w w0:World} {l:List Res} {R:Ending->World->Prop}
theorem chRs {sl:zAP} (c:Calls P f args w fun e w'=>zIW w (some sl) e w'/\Below w.heap.size w w') (H:HoldG M w0 w l)
  (k:∀ q n F w',(∀ b,F b->w.heap.size<=b)->HoldG M w0 w' (l++[.kn F (IntsR F q n sl)])->R (.returned (.tuple #[.slice q sl.length n,.bool true])) w'):Calls P f args w R:=c.mono fun _ w' h=>by
 obtain⟨⟨q,n,F,rfl,hs,hF⟩,hb⟩:=h;exact k q n F w' (fun b h=>(hF b h).2) (H.learn hb Still.none (fun b h=>⟨(hF b h).1,.inl (hF b h).2⟩) (fun V hV=>hs.kept hV))
theorem chRn (c:Calls P f args w fun e w'=>zIW w none e w'/\Below w.heap.size w w') (H:HoldG M w0 w l)
  (k:∀ w',HoldG M w0 w' l->R (.returned (.tuple #[.slice none 0 0,.bool false])) w'):Calls P f args w R:=c.mono fun _ w' h=>by
 obtain⟨rfl,hb⟩:=h;exact k w' (H.call hb)
end
theorem Hold.insts2 {w0:World} {Fp Fs:Nat->Prop} {pp psl:Option Addr} {cp csl:Nat} {ps:List InstD} {L:Str} (hFp:∀ b,Fp b->b<w0.heap.size) (hFs:∀ b,Fs b->b<w0.heap.size) (hp:InstsR Fp pp cp ps w0) (hs:BytesR Fs psl csl L w0) :
  Hold w0 w0 [.kn Fp (InstsR Fp pp cp ps),.kn Fs (BytesR Fs psl csl L)] :=
 (Hold.insts hFp hp).know Fs (BytesR Fs psl csl L) hFs (fun i r h=>by
  rcases i with _|i
  ·simp at h;subst h;intro b hb;cases hb
  ·simp at h) (fun V hV=>hs.kept hV)
end
section

end
section
open Go.RowKit Go.Shelf
attribute [local go_sem] Oper.semAt_some
def i64s (xs:List Int):List Value:=xs.map (.int .i64)
def u8s (xs:List Int):List Value:=xs.map (.int .u8)
theorem Rd.i64 {w:World} {b0:Nat} {v:Value} {xs:List Int} (h:Rd w b0 v (i64s xs)) :
  ((∃ q,v=.slice q 0 0)/\xs=[])\/∃ b off cap,v=.slice (some ⟨b,off,none⟩) xs.length cap/\b<b0/\xs.length<=cap/\cap<=maxLen /\
  ∀ j,(h:j<xs.length)->w.cell? ⟨b,off+j,none⟩=some (.int .i64 xs[j]):=by
 rcases h with ⟨h1,h2⟩|⟨b,off,cap,e,h1,h2,h3,h4⟩
 ·exact .inl ⟨h1,by simpa [i64s] using h2⟩
 ·refine .inr ⟨b,off,cap,by simpa [i64s] using e,h1,by simpa [i64s] using h2,h3,fun j hj=>?_⟩
  rw[h4 j (by simpa [i64s] using hj)];simp[i64s]
theorem Rd.u8 {w:World} {b0:Nat} {v:Value} {xs:List Int} (h:Rd w b0 v (u8s xs)) :
  ((∃ q,v=.slice q 0 0)/\xs=[])\/∃ b off cap,v=.slice (some ⟨b,off,none⟩) xs.length cap/\b<b0/\xs.length<=cap/\cap<=maxLen /\
  ∀ j,(h:j<xs.length)->w.cell? ⟨b,off+j,none⟩=some (.int .u8 xs[j]):=by
 rcases h with ⟨h1,h2⟩|⟨b,off,cap,e,h1,h2,h3,h4⟩
 ·exact .inl ⟨h1,by simpa [u8s] using h2⟩
 ·refine .inr ⟨b,off,cap,by simpa [u8s] using e,h1,by simpa [u8s] using h2,h3,fun j hj=>?_⟩
  rw[h4 j (by simpa [u8s] using hj)];simp[u8s]

def zA6 (k i:Int):Int:=1000003 * (k+7)+i
def zEN (k i:Int):Int:=((zA6 k i).toNat * 11400714819323198485 % 2 ^ 64 / 2 ^ 56:Nat)
theorem zIu (k i:Int):0<=zEN k i/\zEN k i<=255:=by
 unfold zEN;have:((zA6 k i).toNat * 11400714819323198485 % 2 ^ 64)<2 ^ 64:=Nat.mod_lt _ (by decide)
 omega
theorem zCE (k i:Int) (w:World) (hk:0<=k/\k<=1000000) (hi:0<=i/\i<=1000000000000):Calls Tryz.prog 48 #[.int .i64 k,.int .i64 i] w fun e w'=>e=.returned (.int .i64 (zA6 k i))/\w=w':=by
 obtain⟨hk1,hk2⟩:=hk;obtain⟨hi1,hi2⟩:=hi
 go_enter Tryz.func48,Tryz.ntmps48
 go_wp2
 go_ret;refine⟨?_,rfl⟩;unfold zA6;rfl
theorem zFD (k i:Int) (w:World) (hk:0<=k/\k<=1000000) (hi:0<=i/\i<=1000000000000):Calls Tryz.prog 33 #[.int .i64 k,.int .i64 i] w fun e w'=>e=.returned (.int .u8 (zEN k i))/\w=w':=by
 have hm:0<=zA6 k i/\zA6 k i<=3000000000000:=by unfold zA6;omega
 have hB:zEN k i=((zA6 k i).toNat * 11400714819323198485 % 2 ^ 64 / 2 ^ 56:Nat):=rfl;have HB:=Lib.hid hB;clear hB;have HK:=Lib.hid hk;clear hk;have HI:=Lib.hid hi;clear hi
 go_enter Tryz.func33,Tryz.ntmps33
 go_wp2_with fail
 refine(zCE _ _ _ HK.out HI.out).mono ?_
 rintro e w' ⟨rfl,rfl⟩
 generalize zA6 k i=m at hm HB
 obtain⟨m,rfl⟩:∃ n:Nat,m=n:=⟨m.toNat,by omega⟩
 go_wp2_with fail
 go_ret;refine⟨?_,rfl⟩;rw[HB.out]
 congr 2
 rw[IntKind.wrap_u64];simp;omega
def Lent (b0:Nat) (w:World) (v:Value) (cs extra:List Value):Prop :=
 ∃ g cap,v=.slice (some ⟨g,0,none⟩) cs.length cap/\b0<=g/\g<w.heap.size/\cs.length+12<=cap/\cap<=maxLen/\∀ j,j<cs.length+12->w.cell? ⟨g,j,none⟩=(cs++extra)[j]?
theorem Lent.below {b0:Nat} {w w':World} {v:Value} {cs extra:List Value} (h:Lent b0 w v cs extra) (hb:Below w.heap.size w w'):Lent b0 w' v cs extra:=by
 obtain⟨g,cap,e,h0,h1,h2,h3,h4⟩:=h;exact⟨g,cap,e,h0,by have:=hb.size;omega,h2,h3,fun j hj=>(hb.cell (p:=⟨g,j,none⟩) h1).trans (h4 j hj)⟩
def zGS (i:Nat):InstD:={kind:=0,next:=zA6 1 i}
def zBH (k:Nat):List InstD:=(List.range k).map zGS
theorem zJh (k:Nat):zBH (k+1)=zBH k++[zGS k]:=by simp[zBH,List.range_succ]
theorem zE7 (k:Nat):(zBH k).length=k:=by simp[zBH]
theorem zPN (k:Int) (W:World):(Instr.build 33 #[(2,.int .i64 k)]).run Tryz.prog W=.ok (zA8 {kind:=0,next:=k}) W:=by simp[go_sem];rfl
theorem bMkI {ops:Array Oper} {dst:Option Tmp} {ty:TypeId} {pos:String} {aft:Array Edge} {grd:Option (Nat × Bool)} {rest:List Oper} {a:Act} {w:World} {Q:Exit->Act->World->Prop} {x:Operand} {k:Int} (h:wpList Tryz.prog ops Q rest (a.put dst (zA8 {kind:=0,next:=k})) w) (hg:Region.wanted (⟨dst,.build 33 #[(2,x)],ty,pos,aft,grd⟩:Oper) (yielded ops a.tmps)=true:=by first|rfl|exact zAT rfl (zAM rfl (by first|rfl|(simp only[pe];rfl)))) (hx:a.eval x=.int .i64 k:=by first|(simp only[pe];done)|(simp only[pe];rfl)):wpList Tryz.prog ops Q ((⟨dst,.build 33 #[(2,x)],ty,pos,aft,grd⟩:Oper)::rest) a w :=
 zAh hg (by simp only[execOp,List.map_toArray,List.map_cons,List.map_nil,hx,Sem.run_bind,zPN];rfl) h
theorem zLQ:(Tryz.prog.info? 33).map (fun i=>(i.zero.map (·.cells.size),i.size,i.bytes))=some (some 9,9,72):=by kernel_rfl
theorem zFK (i:Nat) (w0:World) (hi:i<=1000000):Calls Tryz.prog 32 #[.int .i64 1,.int .i64 i] w0 (Rt (zA8 (zGS i)) w0):=by
 have H:=Hold.start w0;have hm:=fun w=>(zCE 1 i w (by omega) (by omega)).mono (R':=fun e w'=>e=.returned (.int .i64 (zA6 1 i))/\Below w.heap.size w w') (fun e w' h=>⟨h.1,by rw[← h.2];exact Below.refl _ _⟩)
 obtain⟨mk,hmk⟩:∃ mk,zA6 1 i=mk:=⟨_,rfl⟩;rw[hmk]at hm;have HM:=Lib.hid hmk;clear hmk
 go_enter Tryz.func32,Tryz.ntmps32
 go_wp2_with (first|((with_reducible refine gBd ?_);refine bMkI ?_)|((with_reducible refine ch (hm _) H ?_);clear H;intro w H)|((with_reducible refine kg 4 ?_);(first|refine kA 4 H ?_|refine kS 4 H ?_|refine kB 4 H ?_);clear H;intro b4 w H;try simp only[nr]at H)|((with_reducible refine gTi ?_);refine aTi H ?_;clear H;intro w H;try simp only[nr]at H))
 refine zNv Tryz.results32 rfl H (i:=0) .zero zAp rfl rfl ?_
 exact⟨by unfold zGS;rw[HM.out],H.below⟩
theorem zNN {P:Program} {ops:Array Oper} {rest:List Oper} {o:Oper} {a:Act} {w w0:World} {Q:Exit->Act->World->Prop} {l:List Res} {M:Nat->Prop} (hg:o.guard=none) (x c:Operand) (t:TypeId) (hop:o.op=Op.makeSlice t x c) (H:HoldG M w0 w l) {e:TypeId} {i:TypeInfo} {z:Value} {sz bytes:Nat}
  (h1:P.underlying t=some (.slice e)) (h2:P.info? e=some i) (h3:i.zero=some z) (h4:i.size=sz) (h5:i.bytes=bytes) {n:Nat} (hl:a.eval x=.int .i64 0) (hc:a.eval c=.int .i64 n) (b2:bytes * n<=281474976710656) (b3:n<=maxLen)
  (h:∀ g w',HoldG M w0 w' (l++[.row (.slice (some ⟨g,0,none⟩) 0 n) e sz 0 []])->wpList P ops Q rest (a.put o.dst (.slice (some ⟨g,0,none⟩) 0 n)) w'):wpList P ops Q (o::rest) a w:=by
 refine wpList_make_own w hg x c t hop w0.heap.size e i z sz h1 h2 h3 h4 .i64 .i64 n n hl hc rfl (by rw[h5];exact b2) b3 H.keep.size (fun w' r1 r2=>h w.heap.size w' ?_)
 exact H.add r2 r1 (fun b e=>by cases e;exact Nat.le_refl _)
theorem zMJ:∃ (i:TypeInfo) (z:Value),Tryz.prog.info? 33=some i/\i.zero=some z/\i.size=9/\i.bytes=72/\z.cells.size=9:=by
 have h:=zLQ
 cases hu:Tryz.prog.info? 33 with
 | none=>rw[hu]at h;cases h
 | some i =>
  rw[hu]at h;simp only[Option.map_some,Option.some.injEq,Prod.mk.injEq]at h;obtain⟨h1,h2,h3⟩:=h;obtain⟨z,hz,hs⟩:=Option.map_eq_some_iff.1 h1;exact⟨i,z,rfl,hz,h2,h3,hs⟩
theorem zMr (d:InstD) (W:World):(Instr.buildSlice 23 1 #[(0,zA8 d)]).run Tryz.prog W=.ok (.slice (some ⟨W.heap.size,0,none⟩) 1 1) (W.alloc (.cells (zAf d) 33)):=by kernel_rfl
theorem zK8 (xs:List InstD):∀ u ∈ zAW (xs.map zAf),u.oneCell'=true:=by
 intro u hu;simp only[zAW,List.mem_flatten,List.mem_map]at hu;obtain⟨l,⟨r,⟨x,_,rfl⟩,rfl⟩,hu⟩:=hu;simp only[zAf]at hu;simp at hu;rcases hu with rfl|rfl|rfl|rfl|rfl|rfl|rfl|rfl|rfl<;>rfl
theorem zG8 (pp:Option Addr) (cp:Nat) (ps:List InstD) (Fp:Nat->Prop) (w0:World) (hn:ps.length<=5000) (hFp:∀ b,Fp b->b<w0.heap.size) (hp:InstsR Fp pp cp ps w0) :
  Calls Tryz.prog 15 #[.slice pp ps.length cp] w0 fun e w'=>∃ g cap,e=.returned (.slice (some ⟨g,0,none⟩) ps.length cap)/\w'.ownsRow w0.heap.size 33 9 (.slice (some ⟨g,0,none⟩) (ps.length+12) cap) (ps.length+12) (zAW ((ps++zBH 12).map zAf))/\Below w0.heap.size w0 w':=by
 have H:=Hold.insts hFp hp;have hbd:=hp.bound;clear hp;obtain⟨ii,iz,hii,hi0,hi1,hi2,hi3⟩:=zMJ;obtain⟨n,hnn⟩:∃ n,ps.length=n:=⟨_,rfl⟩;have HN:=Lib.hid hnn;have hrd:∀ V,InstsR Fp pp cp ps V->RdN 9 V Fp (.slice pp n cp) (ps.map zAf):=fun V h=>by have:=HN.out;subst this;exact h
 rw[hnn]at hn hbd ⊢;clear hnn
 go_enter Tryz.func15,Tryz.ntmps15
 go_wp2_with (first|((with_reducible refine gMS ?_);refine zNN rfl _ _ 23 rfl H Tryz.underlying23 hii hi0 hi1 hi2 (n:=n+12) rfl rfl (by omega) (by unfold maxLen;omega) ?_;clear H;intro g w H;simp only[ca]at H)|(at_builtin;refine zDH rfl _ _ 23 rfl H (i:=1) evd_ evd_ i_1 (hrd _ (H.kn (i:=0) .zero)) (zDE ps) Tryz.underlying23 hii hi0 hi1 hi2 hi3 (by decide) (zK8 ps) (by unfold maxLen;omega) (by omega) ?_;clear H;intro v2 w H;simp only[sc]at H)|fail)
 rw[Nat.zero_add,List.nil_append]at H;obtain⟨q0,c0,rfl,_,_,_⟩:=H.rowShape (i:=1) i_1
 go_loopw [3,4] (fun out k wr=>∃ (j:Nat) (q:Option Addr) (c:Nat),j<=12/\k=.int .i64 j/\out=.slice q (n+j) c/\Hold w0 wr [.kn Fp (InstsR Fp pp cp ps),.row (.slice q (n+j) c) 33 9 (n+j) (zAW ((ps++zBH j).map zAf))]) (fun _ k _=>12 - (intOf k).toNat)
 case atStart=>exact⟨0,q0,c0,by omega,rfl,rfl,by simpa [zBH] using H⟩
 case round =>
  clear H;obtain⟨j,q,c,hj,rfl,rfl,H⟩:=hrel
  by_cases hlt:j<12
  ·have dj:decide (j<12)=true:=decide_eq_true hlt;have dj2:decide ((j:Int)<12)=true:=decide_eq_true (by omega)
   have hap:zAW ((ps++zBH j).map zAf)++(zAf (zGS j)).toList=zAW ((ps++zBH (j+1)).map zAf):=by
    rw[zJh,← List.append_assoc,List.map_append (l₁:=ps++zBH j),zDU];simp[zAW]
   have HAP:=Lib.hid hap;clear hap;have hmk:=fun w=>zFK j w (by omega)
   go_wp2_with (first|((with_reducible refine ch (hmk _) H ?_);clear H;intro w H)|((with_reducible refine gBS ?_);refine zAQ wtd_ _ _ _ rfl H (zAf (zGS j)) 33 (by intro W;simp only[ml];(try simp only[pe]);exact zMr _ W) ?_;clear H;intro bk w H;simp only[ca]at H)|(at_builtin;refine zAx rfl _ _ 23 rfl H (i:=1) (j:=2) evd_ rfl i_1 i_2 Tryz.underlying23 hii hi0 hi1 hi2 hi3 (by decide) rfl rfl (by unfold maxLen;omega) (by omega) ?_;clear H;intro v2 w H;simp only[sc]at H;(obtain⟨q2,c2,rfl,_,_,_⟩:=H.rowShape (i:=1) i_1))|fail)
   rw[HAP.out]at H;go_roundw
   case rel=>exact⟨j+1,q2,c2,by omega,by go_num,rfl,H.take 2⟩
   case measure=>simp[intOf];omega
  ·obtain rfl:j=12:=by omega
   have dj:decide ((12:Int)<12)=false:=by decide
   obtain⟨q2,c2,e2,hc1,_,hq2⟩:=H.rowShape (i:=1) i_1;obtain⟨g,rfl⟩:=hq2 (by omega)
   simp only[Value.slice.injEq]at e2;obtain⟨rfl,_,rfl⟩:=e2;have hcn:n<=c:=by omega
   go_wp2_with (first|((with_reducible refine gSl ?_);refine zAh wtd_ (zHD (sz:=9) (m:=n) (by kernel_rfl) (fun w=>by kernel_rfl) rfl rfl rfl hcn) ?_)|fail)
   go_ret;rw[← HN.out]at H ⊢;exact⟨g,c,rfl,H.all 1 _ rfl,H.below⟩
theorem zFm {o:Oper} {a:Act} {w:World} {x y:Operand} {U:TypeId} {d:InstD} (hop:o.op=.binOp .eql 33 x y U) (hx:a.eval x=zA8 d) (hy:a.eval y=zA8 d):(execOp a.eval o).run Tryz.prog w=.ok (.value (.bool true)) w:=by
 have he:=zGx d.set d.set w;have hs:eqS d.set d.set=true:=by simp[eqS]
 simp only[execOp,hop,hx,hy];unfold zA8 zAf;simp[go_sem,he,hs]
theorem zHS (pp:Option Addr) (cp:Nat) (ps:List InstD) (g cap:Nat) (Fp G:Nat->Prop) (w0:World) (hn:ps.length<=5000) (hFp:∀ b,Fp b->b<w0.heap.size) (hG:∀ b,G b->b<w0.heap.size) (hp:InstsR Fp pp cp ps w0) (hk:InstsR G (some ⟨g,0,none⟩) cap (ps++zBH 12) w0) :
  Calls Tryz.prog 19 #[.slice (some ⟨g,0,none⟩) ps.length cap,.slice pp ps.length cp] w0 (Rt (.bool true) w0):=by
 have hbd:=hp.bound;have hbk:=hk.bound;have hat:=hp.at
 have H:=(Hold.insts hFp hp).know G (InstsR G (some ⟨g,0,none⟩) cap (ps++zBH 12)) hG (fun i r h=>by
  rcases i with _|i
  ·simp at h;subst h;intro b hb;cases hb
  ·simp at h) (fun V hV=>hk.kept hV)
 simp only[ca]at H;clear hp hk;rw[List.length_append,zE7]at hbk;obtain⟨n,hnn⟩:∃ n,ps.length=n:=⟨_,rfl⟩;have HN:=Lib.hid hnn;rw[hnn]at hn hbd hbk hat ⊢;clear hnn;have hne:((n:Int) != (n:Int))=false:=by simp
 have hsum:wrap64 ((n:Int)+12)=((n+12:Nat):Int):=by unfold wrap64;omega
 have HLK:=Lib.hid hbk.1
 go_enter Tryz.func19,Tryz.ntmps19
 go_wp2_with (first|((with_reducible refine gSl ?_);refine zAh wtd_ (zHD (sz:=9) (m:=n+12) (by kernel_rfl) (fun w=>by kernel_rfl) rfl rfl rfl HLK.out) ?_)|fail)
 go_loopw [6] (fun ix wr=>∃ j:Nat,j<=n+12/\ix=.int .i64 j/\Hold w0 wr [.kn Fp (InstsR Fp pp cp ps),.kn G (InstsR G (some ⟨g,0,none⟩) cap (ps++zBH 12))]) (fun ix _=>n+13 - (intOf ix).toNat)
 case atStart=>exact⟨0,by omega,rfl,H⟩
 case round =>
  clear H;obtain⟨j,hj,rfl,H⟩:=hrel
  by_cases hlt:j<n+12
  ·have dj:decide (j<n+12)=true:=decide_eq_true hlt;have dj2:decide ((j:Int)<((n+12:Nat):Int))=true:=decide_eq_true (by omega)
   have dj3:decide ((j:Int)<(n:Int)+12)=true:=decide_eq_true (by omega)
   by_cases hjn:j<n
   ·obtain⟨x,hx⟩:∃ x,ps[j]?=some x:=⟨_,List.getElem?_eq_getElem (by rw[HN.out];exact hjn)⟩
    have hx2:(ps++zBH 12)[j]?=some x:=by rw[List.getElem?_append_left (by rw[HN.out];exact hjn)];exact hx
    obtain⟨bp,op,rfl⟩:=hat (by omega)
    have HC1:=Lib.hid (fun V (h:InstsR Fp (some ⟨bp,op,none⟩) cp ps V)=>h.cells hx rfl:∀ V,InstsR Fp (some ⟨bp,op,none⟩) cp ps V->∀ k,k<9->V.cell? ⟨bp,op+j * 9+k,none⟩=(zAf x)[k]?)
    have HC2:=Lib.hid (fun V (h:InstsR G (some ⟨g,0,none⟩) cap (ps++zBH 12) V)=>h.cells hx2 rfl:∀ V,InstsR G (some ⟨g,0,none⟩) cap (ps++zBH 12) V->∀ k,k<9->V.cell? ⟨g,0+j * 9+k,none⟩=(zAf x)[k]?)
    have d1:decide ((j:Int)<(n:Int))=true:=decide_eq_true (by omega)
    have d2:decide ((n:Int)<=(j:Int))=false:=decide_eq_false (by omega)
    clear hx hx2 hat
    go_upto_region 7 with fail
    refine wr_ 35 [fun v _=>v=.int .i64 (j:Int),fun v _=>v=.slice (some ⟨bp,op,none⟩) n cp,fun v _=>v=.int .i64 ((n:Nat):Int),fun v _=>v=.bool true,fun v _=>v=.bool true,fun v _=>v=.slice (some ⟨g,0,none⟩) (n+12) cap,fun v _=>v=.int .i64 (j:Int),fun v _=>v=.pointer (some ⟨g,0+j * 9,none⟩),fun v _=>v=zA8 x,fun v _=>v=.slice (some ⟨bp,op,none⟩) n cp,fun v _=>v=.int .i64 (j:Int),fun v _=>v=.pointer (some ⟨bp,op+j * 9,none⟩),fun v _=>v=zA8 x,fun v _=>v=.bool true,fun v _=>v=.bool false,fun v _=>v=.bool false,fun v _=>v=.bool false,fun v _=>v=.int .i64 (j:Int),fun v _=>v=.slice (some ⟨bp,op,none⟩) n cp,fun v _=>v=.int .i64 ((n:Nat):Int),fun v _=>v=.bool false,fun v _=>v=.bool false,fun v _=>v=undef,fun v _=>v=undef,fun v _=>v=undef,fun v _=>v=undef,fun v _=>v=undef,fun v _=>v=undef,fun v _=>v=undef,fun v _=>v=undef,fun v _=>v=undef,fun v _=>v=undef,fun v _=>v=undef,fun v _=>v=Value.bool false,fun v _=>v=Value.bool false] ?ob ?en
    case ob =>
     refine⟨?_,?_,?_,?_,?_,?_,?_,?_,?_,?_,?_,?_,?_,?_,?_,?_,?_,?_,?_,?_,?_,?_,?_,?_,?_,?_,?_,?_,?_,?_,?_,?_,?_,?_,?_,trivial⟩<;>intro A W h
     ·exact zAB rfl rfl (h.f 6)
     ·exact zAB rfl rfl (h.f 1)
     ·exact zBB Tryz.underlying23 rfl rfl (h.d 1 24)
     ·(have e23:A.eval (.tmp 23)=.int .i64 (j:Int):=h.d 0 23;have e25:A.eval (.tmp 25)=.int .i64 ((n:Nat):Int):=h.d 2 25;refine zAA rfl ?_;simp only[execOp,e23,e25];simp[go_sem]<;>omega)
     ·exact zAB rfl rfl (h.d 3 26)
     ·exact zAB (wg (h.d 4 27)) rfl (h.f 5)
     ·exact zAB (wg (h.d 4 27)) rfl (h.f 6)
     ·exact zAU (sz:=9) Tryz.underlying23 (fun w=>by kernel_rfl) (wg (h.d 4 27)) rfl (h.d 5 28) (h.d 6 29) hlt rfl (by decide)
     ·exact zAA (wg (h.d 4 27)) (zAk rfl (h.d 7 30) zAp rfl (HC2.out _ ((H.call h.below).kn (i:=1) i_1))) (by decide)
     ·exact zAB (wg (h.d 4 27)) rfl (h.f 1)
     ·exact zAB (wg (h.d 4 27)) rfl (h.f 6)
     ·exact zAU (sz:=9) Tryz.underlying23 (fun w=>by kernel_rfl) (wg (h.d 4 27)) rfl (h.d 9 32) (h.d 10 33) hjn rfl (by decide)
     ·exact zAA (wg (h.d 4 27)) (zAk rfl (h.d 11 34) zAp rfl (HC1.out _ ((H.call h.below).kn (i:=0) .zero))) (by decide)
     ·exact zAA (wg (h.d 4 27)) (zFm rfl (h.d 8 31) (h.d 12 35)) (by decide)
     ·(have e36:A.eval (.tmp 36)=.bool true:=h.d 13 36;refine zAA (wg (h.d 4 27)) ?_;simp only[execOp,e36];(simp[go_sem]<;>first|done|omega|(rw[IntKind.wrap_i64];omega)|(rw[IntKind.wrap_u8];omega)|(rw[IntKind.wrap_u64];omega)))
     ·exact zAy rfl rfl (h.d 4 27) (h.d 14 37)
     ·exact zAB rfl rfl (h.d 15 38)
     ·exact zAB (wg (h.d 16 39)) rfl (h.f 6)
     ·exact zAB (wg (h.d 16 39)) rfl (h.f 1)
     ·exact zBB Tryz.underlying23 (wg (h.d 16 39)) rfl (h.d 18 41)
     ·(have e40:A.eval (.tmp 40)=.int .i64 (j:Int):=h.d 17 40;have e42:A.eval (.tmp 42)=.int .i64 ((n:Nat):Int):=h.d 19 42;refine zAA (wg (h.d 16 39)) ?_;simp only[execOp,e40,e42];simp[go_sem]<;>omega)
     ·exact zAB (wg (h.d 16 39)) rfl (h.d 20 43)
     ·exact rsk (h.d 21 44)
     ·exact rsk (h.d 21 44)
     ·exact rsk (h.d 21 44)
     ·exact rsk (h.d 21 44)
     ·exact rsk (h.d 21 44)
     ·exact rsk (h.d 21 44)
     ·exact rsk (h.d 21 44)
     ·exact rsk (h.d 21 44)
     ·exact rsk (h.d 21 44)
     ·exact rsk (h.d 21 44)
     ·exact rsk (h.d 21 44)
     ·exact zAy (wg (h.d 16 39)) rfl (h.d 21 44) (rfl)
     ·exact zAy rfl rfl (h.d 16 39) (h.d 33 56)
    case en =>
     intro vals W hbw hv _;simp only[fa,Nat.reduceAdd];rw[e_ hv 0,e_ hv 1,e_ hv 2,e_ hv 3,e_ hv 4,e_ hv 5,e_ hv 6,e_ hv 7,e_ hv 8,e_ hv 9,e_ hv 10,e_ hv 11,e_ hv 12,e_ hv 13,e_ hv 14,e_ hv 15,e_ hv 16,e_ hv 17,e_ hv 18,e_ hv 19,e_ hv 20,e_ hv 21,e_ hv 22,e_ hv 23,e_ hv 24,e_ hv 25,e_ hv 26,e_ hv 27,e_ hv 28,e_ hv 29,e_ hv 30,e_ hv 31,e_ hv 32,e_ hv 33,e_ hv 34];clear hv
     try simp only[pl]
     replace H:=H.call hbw;clear hbw
     go_wp2_with fail
     go_roundw
     case rel=>exact⟨j+1,by omega,by go_num,H⟩
     case measure=>simp[intOf];omega
   ·obtain⟨k,hk⟩:∃ k,j - n=k:=⟨_,rfl⟩;have hk12:k<12:=by omega
    have hx2:(ps++zBH 12)[j]?=some (zGS k):=by
     rw[List.getElem?_append_right (by rw[HN.out];omega),HN.out,hk]
     simp[zBH,hk12]
    have HC2:=Lib.hid (fun V (h:InstsR G (some ⟨g,0,none⟩) cap (ps++zBH 12) V)=>h.cells hx2 rfl:∀ V,InstsR G (some ⟨g,0,none⟩) cap (ps++zBH 12) V->∀ q,q<9->V.cell? ⟨g,0+j * 9+q,none⟩=(zAf (zGS k))[q]?)
    have d1:decide ((j:Int)<(n:Int))=false:=decide_eq_false (by omega)
    have d2:decide ((n:Int)<=(j:Int))=true:=decide_eq_true (by omega)
    have hsb:((j:Nat):Int) - ((n:Nat):Int)=((k:Nat):Int):=by omega
    have hsb1:(-9223372036854775808:Int)<=((k:Nat):Int):=by omega
    have hsb2:((k:Nat):Int)<=9223372036854775807:=by omega
    have hmk:=fun w=>zFK k w (by omega)
    clear hx2 hat hk
    go_upto_region 7 with fail
    refine wr_ 35 [fun v _=>v=.int .i64 (j:Int),fun v _=>v=.slice pp n cp,fun v _=>v=.int .i64 ((n:Nat):Int),fun v _=>v=.bool false,fun v _=>v=.bool false,fun v _=>v=undef,fun v _=>v=undef,fun v _=>v=undef,fun v _=>v=undef,fun v _=>v=undef,fun v _=>v=undef,fun v _=>v=undef,fun v _=>v=undef,fun v _=>v=undef,fun v _=>v=undef,fun v _=>v=Value.bool false,fun v _=>v=Value.bool false,fun v _=>v=.int .i64 (j:Int),fun v _=>v=.slice pp n cp,fun v _=>v=.int .i64 ((n:Nat):Int),fun v _=>v=.bool true,fun v _=>v=.bool true,fun v _=>v=.slice (some ⟨g,0,none⟩) (n+12) cap,fun v _=>v=.int .i64 (j:Int),fun v _=>v=.pointer (some ⟨g,0+j * 9,none⟩),fun v _=>v=zA8 (zGS k),fun v _=>v=.int .i64 (j:Int),fun v _=>v=.slice pp n cp,fun v _=>v=.int .i64 ((n:Nat):Int),fun v _=>v=.int .i64 (k:Nat),fun v _=>v=zA8 (zGS k),fun v _=>v=.bool true,fun v _=>v=.bool false,fun v _=>v=.bool false,fun v _=>v=.bool false] ?ob ?en
    case ob =>
     refine⟨?_,?_,?_,?_,?_,?_,?_,?_,?_,?_,?_,?_,?_,?_,?_,?_,?_,?_,?_,?_,?_,?_,?_,?_,?_,?_,?_,?_,?_,?_,?_,?_,?_,?_,?_,trivial⟩<;>intro A W h
     ·exact zAB rfl rfl (h.f 6)
     ·exact zAB rfl rfl (h.f 1)
     ·exact zBB Tryz.underlying23 rfl rfl (h.d 1 24)
     ·(have e23:A.eval (.tmp 23)=.int .i64 (j:Int):=h.d 0 23;have e25:A.eval (.tmp 25)=.int .i64 ((n:Nat):Int):=h.d 2 25;refine zAA rfl ?_;simp only[execOp,e23,e25];simp[go_sem]<;>omega)
     ·exact zAB rfl rfl (h.d 3 26)
     ·exact rsk (h.d 4 27)
     ·exact rsk (h.d 4 27)
     ·exact rsk (h.d 4 27)
     ·exact rsk (h.d 4 27)
     ·exact rsk (h.d 4 27)
     ·exact rsk (h.d 4 27)
     ·exact rsk (h.d 4 27)
     ·exact rsk (h.d 4 27)
     ·exact rsk (h.d 4 27)
     ·exact rsk (h.d 4 27)
     ·exact zAy rfl rfl (h.d 4 27) (rfl)
     ·exact zAB rfl rfl (h.d 15 38)
     ·exact zAB (wg (h.d 16 39)) rfl (h.f 6)
     ·exact zAB (wg (h.d 16 39)) rfl (h.f 1)
     ·exact zBB Tryz.underlying23 (wg (h.d 16 39)) rfl (h.d 18 41)
     ·(have e40:A.eval (.tmp 40)=.int .i64 (j:Int):=h.d 17 40;have e42:A.eval (.tmp 42)=.int .i64 ((n:Nat):Int):=h.d 19 42;refine zAA (wg (h.d 16 39)) ?_;simp only[execOp,e40,e42];simp[go_sem]<;>omega)
     ·exact zAB (wg (h.d 16 39)) rfl (h.d 20 43)
     ·exact zAB (wg (h.d 21 44)) rfl (h.f 5)
     ·exact zAB (wg (h.d 21 44)) rfl (h.f 6)
     ·exact zAU (sz:=9) Tryz.underlying23 (fun w=>by kernel_rfl) (wg (h.d 21 44)) rfl (h.d 22 45) (h.d 23 46) hlt rfl (by decide)
     ·exact zAA (wg (h.d 21 44)) (zAk rfl (h.d 24 47) zAp rfl (HC2.out _ ((H.call h.below).kn (i:=1) i_1))) (by decide)
     ·exact zAB (wg (h.d 21 44)) rfl (h.f 6)
     ·exact zAB (wg (h.d 21 44)) rfl (h.f 1)
     ·exact zBB Tryz.underlying23 (wg (h.d 21 44)) rfl (h.d 27 50)
     ·exact zAA (wg (h.d 21 44)) (zHl rfl (h.d 26 49) (h.d 28 51) hsb hsb1 hsb2) (by decide)
     ·exact zAc (wg (h.d 21 44)) rfl (enters_of Tryz.func32 (by kernel_rfl) rfl) (zBm ⟨rfl,(h.d 29 52)⟩) (hmk W)
     ·exact zAA (wg (h.d 21 44)) (zFm rfl (h.d 25 48) (h.d 30 53)) (by decide)
     ·(have e54:A.eval (.tmp 54)=.bool true:=h.d 31 54;refine zAA (wg (h.d 21 44)) ?_;simp only[execOp,e54];(simp[go_sem]<;>first|done|omega|(rw[IntKind.wrap_i64];omega)|(rw[IntKind.wrap_u8];omega)|(rw[IntKind.wrap_u64];omega)))
     ·exact zAy (wg (h.d 16 39)) rfl (h.d 21 44) (h.d 32 55)
     ·exact zAy rfl rfl (h.d 16 39) (h.d 33 56)
    case en =>
     intro vals W hbw hv _;simp only[fa,Nat.reduceAdd];rw[e_ hv 0,e_ hv 1,e_ hv 2,e_ hv 3,e_ hv 4,e_ hv 5,e_ hv 6,e_ hv 7,e_ hv 8,e_ hv 9,e_ hv 10,e_ hv 11,e_ hv 12,e_ hv 13,e_ hv 14,e_ hv 15,e_ hv 16,e_ hv 17,e_ hv 18,e_ hv 19,e_ hv 20,e_ hv 21,e_ hv 22,e_ hv 23,e_ hv 24,e_ hv 25,e_ hv 26,e_ hv 27,e_ hv 28,e_ hv 29,e_ hv 30,e_ hv 31,e_ hv 32,e_ hv 33,e_ hv 34];clear hv
     try simp only[pl]
     replace H:=H.call hbw;clear hbw
     go_wp2_with fail
     go_roundw
     case rel=>exact⟨j+1,by omega,by go_num,H⟩
     case measure=>simp[intOf];omega
  ·obtain rfl:j=n+12:=by omega
   have dj:decide (n+12<n+12)=false:=by simp
   have dj2:decide (((n+12:Nat):Int)<((n+12:Nat):Int))=false:=by simp
   have dj3:decide ((n:Int)+12<(n:Int)+12)=false:=by simp
   go_wp2_with fail
   go_ret;exact⟨rfl,H.below⟩
end
section
open Go.RowKit Go.Shelf
theorem InstsR.pre {G:Nat->Prop} {q:Option Addr} {c:Nat} {ps ys:List InstD} {V:World} (h:InstsR G q c (ps++ys) V):InstsR G q c ps V:=by
 obtain⟨p,cap,e,h1,h2,h0,h3⟩:=h;simp only[Value.slice.injEq]at e;obtain⟨rfl,_,rfl⟩:=e;refine⟨q,c,by simp,by simp at h1 ⊢;omega,h2,h0,fun j r hr=>h3 j r ?_⟩
 rw[List.map_append,List.getElem?_append_left (List.getElem?_eq_some_iff.1 hr).1];exact hr
section
variable {M:Nat->Prop} {P:Program} {f:FuncId} {args:Array Value} {w w0:World} {l:List Res} {R:Ending->World->Prop}
theorem chLI {ps:List InstD} (c:Calls P f args w fun e w'=>∃ g cap,e=.returned (.slice (some ⟨g,0,none⟩) ps.length cap)/\w'.ownsRow w.heap.size 33 9 (.slice (some ⟨g,0,none⟩) (ps.length+12) cap) (ps.length+12) (zAW ((ps++zBH 12).map zAf))/\Below w.heap.size w w') (H:HoldG M w0 w l)
  (k:∀ g cap w',HoldG M w0 w' (l++[.kn (·=g) (InstsR (·=g) (some ⟨g,0,none⟩) cap (ps++zBH 12))])->R (.returned (.slice (some ⟨g,0,none⟩) ps.length cap)) w'):Calls P f args w R:=c.mono fun _ w' h=>by
 obtain⟨g,cap,rfl,ho,hb⟩:=h;have hlen:((ps++zBH 12).map zAf).length=ps.length+12:=by simp[zE7]
 refine k g cap w' (H.learn hb Still.none (fun b hb'=>by subst hb';exact⟨(World.ownsRow.lt ho b rfl).2,.inl (World.ownsRow.lt ho b rfl).1⟩) (fun V hV=>?_))
 have:=RdN.of_own (V:=V) ho (zDE _) hlen (fun b hb'=>by
  have e:some g=some b:=hb'
  cases e;exact hV g rfl)
 have h2:=this.mono (G:=(·=g)) (fun b hb'=>by have e:some g=some b:=hb';cases e;rfl)
 unfold InstsR;rw[List.length_append,zE7];exact h2
end
end
end Go.Proofs.YtphjgfjbiimkjaaGreat
