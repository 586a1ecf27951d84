/-
  Laws of walks, and walks.
-/
import Derived.Test.YtdoflhjhaciepaaGreatVd12
import Derived.Test.YtdoflhjhaciepaaGreatVd10
import Derived.Test.YtdoflhjhaciepaaGreatVd13
import Derived.Test.YtdoflhjhaciepaaGreatVd6
import Derived.Test.YtdoflhjhaciepaaGreatVd2
import Derived.Test.YtdoflhjhaciepaaGreatVd3
set_option linter.unusedVariables false
set_option linter.unusedSimpArgs false
set_option maxRecDepth 100000
set_option maxHeartbeats 16000000
namespace Go.Proofs.YtdoflhjhaciepaaGreat
section
open Go.RowKit Go.Shelf
attribute [local go_sem] Oper.semAt_some
theorem zKq (w0:World):Calls Tryz.prog 24 #[.slice none 0 0] w0 (Rt (.slice none 0 0) w0):=by
 have H:=Hold.start w0
 go_enter Tryz.func24,Tryz.ntmps24
 go_wp2_with (first|((with_reducible refine gEN ?_);refine eN ?_)|fail)
 go_ret;exact⟨rfl,H.below⟩
theorem zMP {p:List InstD} {s:Str} {n i:Nat} {l:List Way} {found:Option zA2} {m m2:List Int} {nl:zA2} {o zs:List Way} {b1:Option zA2} (h1:zBt p s i (zEb nl found l) m=(m2,o)) (h2:zBN p s i o=(b1,zs)) :
  zHZ p s nl (n+1) i l found m=if ((orP b1 found).isSome&&zs.isEmpty)=true then orP b1 found else zHZ p s nl n (i+1) zs (orP b1 found) m2:=by
 simp only[zHZ,h1,h2]
theorem zPm {i n:Nat} (h:i≤n):n+1 - (i+1)+1=n+1 - i:=by omega
theorem zN6 {ps:List InstD} {xs us:List WV} {ms:Nat} {nl:List Int} {qN:Option Addr} {cN:Nat} (p3:∀ x ∈ xs,x.1<ps.length∧∃ u ∈ us,x.2=u.2) (p4:∀ u ∈ us,u.2.1.length=ms) (p5:xs.length≤ps.length) (h1:1≤ps.length) (h2:ps.length≤4000) (hl:nl.length=ms) (hr:List.replicate ms (-1)=nl) :
  (xs++[((0,nl,qN,cN):WV)]).map plW=zEb (List.replicate ms (-1)) ((none:Option WV).map (·.2.1)) (xs.map plW)∧(∀ x ∈ xs++[((0,nl,qN,cN):WV)],x.1<ps.length∧∃ u ∈ us++[((0,nl,qN,cN):WV)],x.2=u.2)∧(∀ u ∈ us++[((0,nl,qN,cN):WV)],u.2.1.length=ms)∧(xs++[((0,nl,qN,cN):WV)]).length≤4001:=by
 refine⟨by rw[hr,List.map_append];rfl,fun x hx=>?_,fun u hu=>?_,by simp;omega⟩
 ·rcases List.mem_append.1 hx with hx|hx
  ·obtain⟨a1,u,hu,e⟩:=p3 x hx;exact⟨a1,u,List.mem_append_left _ hu,e⟩
  ·rw[List.mem_singleton]at hx;subst hx;exact⟨h1,_,List.mem_append_right _ (List.mem_singleton.2 rfl),rfl⟩
 ·rcases List.mem_append.1 hu with hu|hu
  ·exact p4 u hu
  ·rw[List.mem_singleton]at hu;subst hu;exact hl
theorem zRi (t:Array Value) (h:t.size=81):∃ x0 x1 x2 x3 x4 x5 x6 x7 x8 x9 x10 x11 x12 x13 x14 x15 x16 x17 x18 x19 x20 x21 x22 x23 x24 x25 x26 x27 x28 x29 x30 x31 x32 x33 x34 x35 x36 x37 x38 x39 x40 x41 x42 x43 x44 x45 x46 x47 x48 x49 x50 x51 x52 x53 x54 x55 x56 x57 x58 x59 x60 x61 x62 x63 x64 x65 x66 x67 x68 x69 x70 x71 x72 x73 x74 x75 x76 x77 x78 x79 x80:Value,t=List.toArray (x0::x1::x2::x3::x4::x5::x6::x7::x8::x9::x10::x11::x12::x13::x14::x15::x16::x17::x18::x19::x20::x21::x22::x23::x24::x25::x26::x27::x28::x29::x30::x31::x32::x33::x34::x35::x36::x37::x38::x39::x40::x41::x42::x43::x44::x45::x46::x47::x48::x49::x50::x51::x52::x53::x54::x55::x56::x57::x58::x59::x60::x61::x62::x63::x64::x65::x66::x67::x68::x69::x70::x71::x72::x73::x74::x75::x76::x77::x78::x79::x80::[]):=by
 rw[zIs t 81 h];exact⟨_,_,_,_,_,_,_,_,_,_,_,_,_,_,_,_,_,_,_,_,_,_,_,_,_,_,_,_,_,_,_,_,_,_,_,_,_,_,_,_,_,_,_,_,_,_,_,_,_,_,_,_,_,_,_,_,_,_,_,_,_,_,_,_,_,_,_,_,_,_,_,_,_,_,_,_,_,_,_,_,_,rfl⟩
def fdV (fd:Option WV):Value:=match fd with|some y=>.slice y.2.2.1 y.2.1.length y.2.2.2|none=>.slice none 0 0
def RunR (mb gm mc:Nat) (pp:Option Addr) (cp:Nat) (ps:List InstD) (psl:Option Addr) (csl:Nat) (L:Str) (Fp Fs:Nat→Prop) (wN:WV) (ms a:Nat) (w0:World) (i:Nat) (fd:Option WV) (w:World):Prop :=
 ∃ lq lc xs us marks,Hid (zHZ ps L (List.replicate ms (-1)) (L.length+1 - a) a [] none (List.replicate ps.length 0)=zHZ ps L (List.replicate ms (-1)) (L.length+1 - i) i (xs.map plW) (fd.map (·.2.1)) marks∧marks.length=ps.length ∧
   (∀ x ∈ xs,x.1<ps.length∧∃ u ∈ us,x.2=u.2)∧(∀ u ∈ us,u.2.1.length=ms)∧xs.length≤ps.length∧∀ y,fd=some y→y.2.1.length=ms) ∧
  Hold w0 w (zCd mb gm mc pp cp ps psl csl L Fp Fs (.slice lq xs.length lc) xs (.slice none 0 0) [] us marks++[.kn (FW [wN]) (WK [wN]),.kn (FW fd.toList) (WK fd.toList)])
def RunM (mb gm mc:Nat) (pp:Option Addr) (cp:Nat) (ps:List InstD) (psl:Option Addr) (csl:Nat) (L:Str) (Fp Fs:Nat→Prop) (wN:WV) (ms:Nat) (w0:World) (fd:Option WV) (xs:List WV) (marks:List Int) (w:World):Prop :=
 ∃ lq lc XS US,Hid (XS.map plW=zEb (List.replicate ms (-1)) (fd.map (·.2.1)) (xs.map plW)∧(∀ x ∈ XS,x.1<ps.length∧∃ u ∈ US,x.2=u.2)∧(∀ u ∈ US,u.2.1.length=ms)∧XS.length≤4001) ∧
  Hold w0 w (zCd mb gm mc pp cp ps psl csl L Fp Fs (.slice lq XS.length lc) XS (.slice none 0 0) [] US marks++[.kn (FW [wN]) (WK [wN]),.kn (FW fd.toList) (WK fd.toList)])
theorem zLF {p:List InstD} {s:Str} (i:Nat):∀ l:List Way,(zBN p s i l).2.length≤l.length
 | []=>Nat.le_refl _
 | (k,sl)::r=>by
  have ih:=zLF (p:=p) (s:=s) i r;simp only[zBN];split
  ·simp
  split
  ·simp;omega
  ·simp;omega
theorem HoldG.rowWK {M:Nat→Prop} {w0 w:World} {l:List Res} (H:HoldG M w0 w l) {i:Nat} {q:Option Addr} {c:Nat} {xs:List Int} (hi:At l i (.row (.slice q xs.length c) 3 1 xs.length (xs.map (.int .i64)))) (hn:0<xs.length) (k:Nat) :
  HoldG M w0 w (l.set i (.kn (FW [(k,xs,q,c)]) (WK [(k,xs,q,c)]))):=by
 have hil:i<l.length:=(List.getElem?_eq_some_iff.1 hi.get).1;obtain⟨q1,c1,e1,_,_,hq⟩:=H.rowShape hi;simp only[Value.slice.injEq]at e1;obtain⟨rfl,_,rfl⟩:=e1;obtain⟨g,rfl⟩:=hq hn;obtain⟨F,_,hI⟩:=H.rowInts hi;obtain⟨b,off,e,_,hI2⟩:=hI.narrow hn;simp only[Option.some.injEq,Addr.mk.injEq]at e;obtain⟨rfl,rfl,_⟩:=e;have hwk:∀ V:World,V.heap[g]?=w.heap[g]?→WK [(k,xs,some ⟨g,0,none⟩,c)] V:=fun V hV x hx=>by
  rw[List.mem_singleton]at hx;subst hx;exact⟨(hI2.kept (fun b hb=>by rw[hb];exact hV)).mono (fun b hb=>⟨_,List.mem_singleton.2 rfl,0,by rw[hb]⟩),hn⟩
 have H1:=H.rest hi (WK [(k,xs,some ⟨g,0,none⟩,c)]) (fun V hV=>hwk V (hV g rfl))
 have H2:=H1.knTo (i:=i) (G:=FW [(k,xs,some ⟨g,0,none⟩,c)]) (T:=WK [(k,xs,some ⟨g,0,none⟩,c)]) (At.of_get (by rw[List.getElem?_set,if_pos rfl,if_pos hil])) (fun b hb=>by
  obtain⟨x,hx,o,e⟩:=hb;rw[List.mem_singleton]at hx;subst hx;have e':some (⟨g,0,none⟩:Addr)=some ⟨b,o,none⟩:=e;simp only[Option.some.injEq,Addr.mk.injEq]at e'
  rw[← e'.1];rfl) id (fun V h hV=>h.kept hV)
 rwa [List.set_set]at H2
def RunOwn (w:World) (r:Option zA2) (e:Ending) (w':World):Prop:=match r with
 | some sl=>∃ q c,e=.returned (.tuple #[.slice q sl.length c,.bool true])∧w'.ownsRow w.heap.size 3 1 (.slice q sl.length c) sl.length (sl.map (.int .i64))
 | none=>e=.returned (.tuple #[.slice none 0 0,.bool false])
theorem RunOwn.out {w w':World} {r:Option zA2} {e:Ending} (h:RunOwn w r e w'):zJv w r e w':=by
 cases r with
 | none=>exact h
 | some sl =>
  obtain⟨q,c,e1,ho⟩:=h;refine⟨q,c,fun b=>(Value.slice q sl.length c).ownBlock=some b,e1,?_,fun b hb=>⟨(World.ownsRow.lt ho b hb).2,(World.ownsRow.lt ho b hb).1⟩⟩
  have ho2:=ho;rw[← zQ5]at ho2;exact RdN.of_own ho2 (fun r hr=>by obtain⟨v,_,rfl⟩:=List.mem_map.1 hr;rfl) (by rw[List.length_map]) (fun _ _=>rfl)
theorem zPs (p q g:Option Addr) (n c m d k e:Nat) (W:World):(Instr.build 54 #[(0,.agg #[.slice none 0 0,.slice g k e]),(1,.slice p n c),(2,.slice q m d)]).run Tryz.prog W=.ok (.agg #[.slice none 0 0,.slice g k e,.slice p n c,.slice q m d,.slice none 0 0]) W:=by simp[go_sem]
theorem zNl (g:Option Addr) (k e:Nat) (W:World):(Instr.build 52 #[(1,.slice g k e)]).run Tryz.prog W=.ok (.agg #[.slice none 0 0,.slice g k e]) W:=by simp[go_sem]
section
variable {ops:Array Oper} {dst:Option Tmp} {ty:TypeId} {pos:String} {aft:Array Edge} {grd:Option (Nat × Bool)} {rest:List Oper} {a:Act} {w:World} {Q:Exit→Act→World→Prop}
theorem zSY {x y z:Operand} {p q g:Option Addr} {n c m d k e:Nat} (h:wpList Tryz.prog ops Q rest (a.put dst (.agg #[.slice none 0 0,.slice g k e,.slice p n c,.slice q m d,.slice none 0 0])) w) (hg:Region.wanted (⟨dst,.build 54 #[(0,x),(1,y),(2,z)],ty,pos,aft,grd⟩:Oper) (yielded ops a.tmps)=true:=by first|rfl|exact zAO rfl (zAG rfl (by first|rfl|(simp only[pe];rfl)))) (h0:a.eval x=.agg #[.slice none 0 0,.slice g k e]:=by first|(simp only[pe];done)|(simp only[pe];rfl)) (h1:a.eval y=.slice p n c:=by first|(simp only[pe];done)|(simp only[pe];rfl)) (h2:a.eval z=.slice q m d:=by first|(simp only[pe];done)|(simp only[pe];rfl)):wpList Tryz.prog ops Q ((⟨dst,.build 54 #[(0,x),(1,y),(2,z)],ty,pos,aft,grd⟩:Oper)::rest) a w :=
 zAZ hg (by simp only[execOp,List.map_toArray,List.map_cons,List.map_nil,h0,h1,h2,Sem.run_bind,zPs];rfl) h
theorem zSN {y:Operand} {g:Option Addr} {k e:Nat} (h:wpList Tryz.prog ops Q rest (a.put dst (.agg #[.slice none 0 0,.slice g k e])) w) (hg:Region.wanted (⟨dst,.build 52 #[(1,y)],ty,pos,aft,grd⟩:Oper) (yielded ops a.tmps)=true:=by first|rfl|exact zAO rfl (zAG rfl (by first|rfl|(simp only[pe];rfl)))) (h1:a.eval y=.slice g k e:=by first|(simp only[pe];done)|(simp only[pe];rfl)):wpList Tryz.prog ops Q ((⟨dst,.build 52 #[(1,y)],ty,pos,aft,grd⟩:Oper)::rest) a w :=
 zAZ hg (by simp only[execOp,List.map_toArray,List.map_cons,List.map_nil,h1,Sem.run_bind,zNl];rfl) h
end
theorem zNo (pp:Option Addr) (cp:Nat) (ps:List InstD) (psl:Option Addr) (csl:Nat) (L:Str) (at_:Int) (Fp Fs:Nat→Prop) (w0:World) (hset:∀ x ∈ ps,zAW x.set) (hL:L.length≤1000) (hFp:∀ b,Fp b→b<w0.heap.size) (hFs:∀ b,Fs b→b<w0.heap.size) (hp:InstsR Fp pp cp ps w0) (hs:BytesR Fs psl csl L w0) :
  Calls Tryz.prog 8 #[.slice pp ps.length cp,.slice psl L.length csl,.int .i64 at_] w0 fun e w'=>RunOwn w0 (runP ps L at_) e w'∧Below w0.heap.size w0 w':=by
 have hr:=fun w h1 h2=>zPI pp cp ps Fp w h1 h2
 have H:=(Hold.insts hFp hp).know Fs (BytesR Fs psl csl L) hFs (fun i r h=>by
  rcases i with _|i
  ·simp at h;subst h;intro b hb;cases hb
  ·simp at h) (fun V hV=>hs.kept hV)
 simp only[ca]at H;have hbp:=hp.bound;clear hp hs
 by_cases h1:at_<0
 ·have d1:decide (at_<0)=true:=decide_eq_true h1;have E:=Lib.hid (show runP ps L at_=none by unfold runP;rw[if_pos (.inl h1)])
  clear h1
  go_enter Tryz.func8,Tryz.ntmps8
  go_wp2_with (first|fail)
  go_ret2
  exact⟨by rw[E.out];rfl,H.below⟩
 have d1:decide (at_<0)=false:=decide_eq_false h1
 by_cases h2:(L.length:Int)<at_
 ·have d2:decide ((L.length:Int)<at_)=true:=decide_eq_true h2;have E:=Lib.hid (show runP ps L at_=none by unfold runP;rw[if_pos (.inr (.inl h2))])
  clear h1 h2
  go_enter Tryz.func8,Tryz.ntmps8
  go_wp2_with (first|fail)
  go_ret2
  exact⟨by rw[E.out];rfl,H.below⟩
 obtain⟨a,rfl⟩:∃ a:Nat,at_=a:=⟨at_.toNat,by omega⟩
 have ha:a≤L.length:=by omega
 have d2:decide (L.length<a)=false:=decide_eq_false (by omega)
 have d3:decide ((L.length:Int)<(a:Int))=false:=decide_eq_false (by omega)
 by_cases hR:zA3 ps=true
 case neg =>
  have hR':zA3 ps=false:=by simpa using hR
  have E:=Lib.hid (show runP ps L (a:Int)=none by unfold runP;rw[if_pos (.inr (.inr hR'))])
  rw[hR']at hr;clear hR hR' h1 h2
  go_enter Tryz.func8,Tryz.ntmps8
  go_wp2_with (first|fail|((with_reducible refine ch (hr _ (H.knlt (i:=0) .zero) (H.kn (i:=0) .zero)) H ?_);clear H;intro w H))
  go_ret2
  exact⟨by rw[E.out];rfl,H.below⟩
 have E0:=Lib.hid (show runP ps L (a:Int)=zHZ ps L (List.replicate (zCe ps) (-1)) (L.length+1 - a) a [] none (List.replicate ps.length 0) by
  unfold runP;rw[if_neg (by rw[hR];simp;omega),Int.toNat_natCast])
 rw[hR]at hr;clear h1 h2;obtain⟨hsi,hs2,hs42⟩:=zFP hR;have hn4:1≤ps.length∧ps.length≤4000:=by
  simp only[zA3,Bool.and_eq_true,decide_eq_true_eq]at hR;exact hR.1
 have hsl:=fun w h1 h2=>zOn pp cp ps Fp w h1 h2
 rw[hsi]at hsl;obtain⟨ms,hms⟩:∃ ms,zCe ps=ms:=⟨_,rfl⟩;rw[hms]at hsl hs2 hs42 E0;obtain⟨ii,hii,hi0,hi1,hi2⟩:=info_parts zFu;obtain⟨iw,hiw,hw0,hw1,hw2⟩:=info_parts zGz;have hrp:=fun q c F w h1 h2=>zNu q c (-1) ms F w hs2 (by omega) h1 h2
 go_enter Tryz.func8,Tryz.ntmps8
 go_upto_region 4 with (first|((with_reducible refine gMS ?_);refine zIe rfl _ _ 27 rfl H Tryz.underlying27 hii hi0 hi1 hi2 rfl (n:=ps.length) rfl rfl (by omega) (by unfold maxLen;omega) ?_;clear H;intro gm w H;simp only[ca]at H)|((with_reducible refine gZ ?_);(first|refine zSY ?_|refine zSN ?_))|((first|((with_reducible refine kgA 32 ?_);refine kA 32 H ?_)|((with_reducible refine kgX 32 ?_);(first|refine kS 32 H ?_|refine kB 32 H ?_)));clear H;intro b32 w H;try simp only[nr]at H)|fail|((with_reducible refine ch (hr _ (H.knlt (i:=0) .zero) (H.kn (i:=0) .zero)) H ?_);clear H;intro w H))
 have H2:=(H.addNil 58 2);clear H;have H:=H2;clear H2 hr;simp only[ca]at H
 go_wp2_with (first|((with_reducible refine gBS ?_);refine zAL wtd_ _ _ _ rfl H #[.int .i64 (-1)] 3 (by intro W;simp only[ml];(try simp only[pe]);simp[go_sem]<;>rfl) ?_;clear H;intro bo w H;simp only[ca]at H)|((with_reducible refine ch (hsl _ (H.knlt (i:=0) .zero) (H.kn (i:=0) .zero)) H ?_);clear H;intro w H)|fail)
 have H2:=H.blkRowN (n:=1) (sz:=1) (i:=5) i_5 (fun h=>h) rfl (by unfold maxLen;omega)
 simp only[sc]at H2;obtain⟨F1,hF1,hI1⟩:=HoldG.rowInts (xs:=[-1]) H2 (i:=5) i_5;refine chI (hrp (some ⟨bo,0,none⟩) 1 F1 w (fun b hb=>(hF1 b hb).2) hI1) H2 ?_
 clear H H2 hF1 hI1 hrp hsl;intro qN cN w H;simp only[ca]at H;obtain⟨nl,hnl⟩:∃ nl,List.replicate ms (-1:Int)=nl:=⟨_,rfl⟩;have hnll:nl.length=ms:=by rw[← hnl,List.length_replicate]
 rw[hnl]at H ⊢;have H2:=H.rowWK (i:=6) i_6 (by omega) 0
 simp only[sc]at H2;have H3:=H2.also (FW []) (WK []) (fun b hb=>by obtain⟨x,hx,_⟩:=hb;cases hx) (fun V _ x hx=>by cases hx)
 have H4:=H3.also (FW []) (WK []) (fun b hb=>by obtain⟨x,hx,_⟩:=hb;cases hx) (fun V _ x hx=>by cases hx)
 have H5:=H4.addNil 58 2;simp only[ca]at H5
 have HR0:=Lib.hid (show RunR b32 gm ps.length pp cp ps psl csl L Fp Fs (0,nl,qN,cN) ms a w0 a none w from ⟨none,0,[],[],List.replicate ps.length 0,Lib.hid ⟨rfl,by simp,(fun x h=>by cases h),(fun x h=>by cases h),Nat.zero_le _,(fun y h=>by cases h)⟩,
  H5.pick [3,2,4,0,1,7,9,6,8] _ (by decide) (by simp only[zCd,List.map_replicate];rfl)⟩)
 clear H H2 H3 H4 H5;rw[hnll];have HNL:=Lib.hid hnll;clear hnll;have HNQ:=Lib.hid hnl;clear hnl
 go_wp2_with (first|fail)
 refine wp_loop (fun a' w'=>∃ (t:Array Value) (i:Nat) (fd:Option WV),a'={tmps:=t,defers:=[]}∧t.size=81∧t[0]?=some (.slice pp ps.length cp)∧t[1]?=some (.slice psl L.length csl)∧t[6]?=some (fdV fd)∧t[7]?=some (.bool fd.isSome)∧t[8]?=some (.pointer (some ⟨b32,0,none⟩))∧t[9]?=some (.slice qN ms cN)∧t[10]?=some (.int .i64 i)∧i≤L.length+1∧Hid (RunR b32 gm ps.length pp cp ps psl csl L Fp Fs (0,nl,qN,cN) ms a w0 i fd w')) (fun a' _=>L.length+2 - tmpN a'.tmps 10) ?start ?round
 case start=>exact⟨_,a,none,rfl,rfl,rfl,rfl,rfl,rfl,rfl,rfl,rfl,by omega,HR0⟩
 case round =>
  clear HR0;rintro a' wr ⟨t,i,fd,rfl,ht,e0,e1,e6,e7,e8,e9,e10,hi,HRR⟩;have hl:=zRi t ht;clear ht;obtain⟨u0,hl⟩:=hl;obtain⟨u1,hl⟩:=hl;obtain⟨u2,hl⟩:=hl;obtain⟨u3,hl⟩:=hl;obtain⟨u4,hl⟩:=hl;obtain⟨u5,hl⟩:=hl;obtain⟨u6,hl⟩:=hl;obtain⟨u7,hl⟩:=hl;obtain⟨u8,hl⟩:=hl;obtain⟨u9,hl⟩:=hl;obtain⟨u10,hl⟩:=hl;obtain⟨u11,hl⟩:=hl;obtain⟨u12,hl⟩:=hl;obtain⟨u13,hl⟩:=hl;obtain⟨u14,hl⟩:=hl;obtain⟨u15,hl⟩:=hl;obtain⟨u16,hl⟩:=hl
  obtain⟨u17,hl⟩:=hl;obtain⟨u18,hl⟩:=hl;obtain⟨u19,hl⟩:=hl;obtain⟨u20,hl⟩:=hl;obtain⟨u21,hl⟩:=hl;obtain⟨u22,hl⟩:=hl;obtain⟨u23,hl⟩:=hl;obtain⟨u24,hl⟩:=hl;obtain⟨u25,hl⟩:=hl;obtain⟨u26,hl⟩:=hl;obtain⟨u27,hl⟩:=hl;obtain⟨u28,hl⟩:=hl;obtain⟨u29,hl⟩:=hl;obtain⟨u30,hl⟩:=hl;obtain⟨u31,hl⟩:=hl;obtain⟨u32,hl⟩:=hl;obtain⟨u33,hl⟩:=hl;obtain⟨u34,hl⟩:=hl;obtain⟨u35,hl⟩:=hl;obtain⟨u36,hl⟩:=hl;obtain⟨u37,hl⟩:=hl
  obtain⟨u38,hl⟩:=hl;obtain⟨u39,hl⟩:=hl;obtain⟨u40,hl⟩:=hl;obtain⟨u41,hl⟩:=hl;obtain⟨u42,hl⟩:=hl;obtain⟨u43,hl⟩:=hl;obtain⟨u44,hl⟩:=hl;obtain⟨u45,hl⟩:=hl;obtain⟨u46,hl⟩:=hl;obtain⟨u47,hl⟩:=hl;obtain⟨u48,hl⟩:=hl;obtain⟨u49,hl⟩:=hl;obtain⟨u50,hl⟩:=hl;obtain⟨u51,hl⟩:=hl;obtain⟨u52,hl⟩:=hl;obtain⟨u53,hl⟩:=hl;obtain⟨u54,hl⟩:=hl;obtain⟨u55,hl⟩:=hl;obtain⟨u56,hl⟩:=hl;obtain⟨u57,hl⟩:=hl;obtain⟨u58,hl⟩:=hl
  obtain⟨u59,hl⟩:=hl;obtain⟨u60,hl⟩:=hl;obtain⟨u61,hl⟩:=hl;obtain⟨u62,hl⟩:=hl;obtain⟨u63,hl⟩:=hl;obtain⟨u64,hl⟩:=hl;obtain⟨u65,hl⟩:=hl;obtain⟨u66,hl⟩:=hl;obtain⟨u67,hl⟩:=hl;obtain⟨u68,hl⟩:=hl;obtain⟨u69,hl⟩:=hl;obtain⟨u70,hl⟩:=hl;obtain⟨u71,hl⟩:=hl;obtain⟨u72,hl⟩:=hl;obtain⟨u73,hl⟩:=hl;obtain⟨u74,hl⟩:=hl;obtain⟨u75,hl⟩:=hl;obtain⟨u76,hl⟩:=hl;obtain⟨u77,hl⟩:=hl;obtain⟨u78,hl⟩:=hl;obtain⟨u79,hl⟩:=hl
  obtain⟨u80,hl⟩:=hl;subst hl;replace e0:some u0=some (.slice pp ps.length cp):=e0;replace e1:some u1=some (.slice psl L.length csl):=e1;replace e6:some u6=some (fdV fd):=e6;replace e7:some u7=some (.bool fd.isSome):=e7;replace e8:some u8=some (.pointer (some ⟨b32,0,none⟩)):=e8;replace e9:some u9=some (.slice qN ms cN):=e9;replace e10:some u10=some (.int .i64 i):=e10
  cases e0;cases e1;cases e6;cases e7;cases e8;cases e9;cases e10
  obtain⟨lq,lc,xs,us,marks,HP,H⟩:=HRR.out;clear HRR;have hfin:∀ (fdn:Option WV) (v:Array Value) (w':World),v.size=81→v[0]?=some (.slice pp ps.length cp)→v[1]?=some (.slice psl L.length csl)→v[6]?=some (fdV fdn)→v[7]?=some (.bool fdn.isSome)→v[8]?=some (.pointer (some ⟨b32,0,none⟩))→v[9]?=some (.slice qN ms cN)→v[10]?=some (.int .i64 ((i:Int)+1))→i≤L.length→Hid (RunR b32 gm ps.length pp cp ps psl csl L Fp Fs (0,nl,qN,cN) ms a w0 (i+1) fdn w') →
    (∃ (t:Array Value) (i:Nat) (fd:Option WV),({tmps:=v,defers:=[]}:Act)={tmps:=t,defers:=[]}∧t.size=81∧t[0]?=some (.slice pp ps.length cp)∧t[1]?=some (.slice psl L.length csl)∧t[6]?=some (fdV fd)∧t[7]?=some (.bool fd.isSome)∧t[8]?=some (.pointer (some ⟨b32,0,none⟩))∧t[9]?=some (.slice qN ms cN)∧t[10]?=some (.int .i64 i)∧i≤L.length+1∧Hid (RunR b32 gm ps.length pp cp ps psl csl L Fp Fs (0,nl,qN,cN) ms a w0 i fd w'))∧L.length+2 - tmpN v 10<L.length+2 - ((i:Nat):Int).toNat:=by
   intro fdn v w' h h0 h1 h6 h7 h8 h9 h10 hi hR;refine⟨⟨v,i+1,fdn,rfl,h,h0,h1,h6,h7,h8,h9,by rw[h10,Int.natCast_add];rfl,by omega,hR⟩,?_⟩
   rw[zKp _ 10 _ h10];omega
  have HFIN:=Lib.hid hfin;clear hfin
  by_cases hil:i≤L.length
  ·have di:decide (i≤L.length)=true:=decide_eq_true hil;have di2:decide ((i:Int)≤(L.length:Int))=true:=decide_eq_true (by omega)
   simp only[zCd,List.cons_append,List.nil_append]at H
   go_upto_if 45 with (first|fail)
   refine wp_cut (fun a' w'=>(∃ t:Array Value,a'=({tmps:=t,defers:=[]}:Act)∧t.size=81∧t[0]?=some (.slice pp ps.length cp)∧t[1]?=some (.slice psl L.length csl)∧t[6]?=some (fdV fd)∧t[7]?=some (.bool fd.isSome)∧t[8]?=some (.pointer (some ⟨b32,0,none⟩))∧t[9]?=some (.slice qN ms cN)∧t[10]?=some (.int .i64 i))∧RunM b32 gm ps.length pp cp ps psl csl L Fp Fs (0,nl,qN,cN) ms w0 fd xs marks w') ?rest ?first
   case first =>
    intro J K' hJ hM;obtain⟨p1,p2,p3,p4,p5,p6⟩:=HP.out
    cases fd with
    | some y =>
     go_wp2_with (first|fail)
     (refine Met.intro ?_;go_step;exact⟨⟨_,rfl,rfl,rfl,rfl,rfl,rfl,rfl,rfl,rfl⟩,⟨lq,lc,xs,us,Lib.hid ⟨rfl,p3,p4,Nat.le_trans p5 (Nat.le_trans hn4.2 (by decide))⟩,H⟩⟩)
    | none =>
     have hwn:wayC (0,nl,qN,cN)=#[.int .i64 0,.slice qN ms cN]:=by unfold wayC;simp only[HNL.out];rfl
     have HWR:=Lib.hid (show ∀ W:World,(Instr.buildSlice 50 1 #[(0,.agg #[.int .i64 0,.slice qN ms cN])]).run Tryz.prog W=.ok (.slice (some ⟨W.heap.size,0,none⟩) 1 1) (W.alloc (.cells #[.int .i64 0,.slice qN ms cN] 58)) by intro W;rw[← hwn];exact zFy _ W)
     have HWN:=Lib.hid hwn;clear hwn;have HRM:=Lib.hid (⟨zF2 (Nat.le_trans p5 (Nat.le_trans hn4.2 (by decide))) (by decide),zEW (Nat.le_trans p5 (Nat.le_trans hn4.2 (by decide))) (by decide)⟩:xs.length+1≤maxLen∧(xs.length+1) * 32≤140737488355328)
     go_wp2_with (first|((with_reducible refine gL ?_);refine zAp wtd_ _ _ rfl rfl H (i:=0) .zero zBA rfl ?_)|((with_reducible refine gBd ?_);refine bWay ?_)|((with_reducible refine gBS ?_);refine zAL wtd_ _ _ _ rfl H #[.int .i64 0,.slice qN ms cN] 58 (by intro W;simp only[ml];(try simp only[pe]);exact HWR.out W) ?_;clear H;intro bt w H;simp only[ca]at H)|(at_builtin;refine zAX rfl _ _ 50 rfl H (i:=6) (j:=9) evd_ rfl i_6 i_9 Tryz.underlying50 hiw hw0 hw1 hw2 rfl (by decide) rfl rfl HRM.out.1 HRM.out.2 ?_;clear H;intro v2 w H;simp only[sc]at H;(obtain⟨q2,c2,rfl,_,_,_⟩:=H.rowShape (i:=6) i_6))|((with_reducible refine gT ?_);refine zAQ wtd_ _ _ _ rfl rfl evd_ H (i:=0) .zero rfl (by show 0<5;omega) (zAI zBA) ?_;clear H;intro w H;simp only[List.setIfInBounds_toArray,List.set_cons_succ,List.set_cons_zero]at H)|fail)
     rw[show ([.int .i64 0,.slice qN ms cN]:List Value)=(wayC (0,nl,qN,cN)).toList by rw[HWN.out],zCr,show xs.length+1=(xs++[((0,nl,qN,cN):WV)]).length by simp]at H
     have H2:=H.knApp (i:=5) (j:=7) (us:=us) (ux:=[(0,nl,qN,cN)]) i_5 i_7;simp only[sc]at H2;clear H
     (refine Met.intro ?_;go_step;exact⟨⟨_,rfl,rfl,rfl,rfl,rfl,rfl,rfl,rfl,rfl⟩,⟨q2,c2,xs++[(0,nl,qN,cN)],us++[(0,nl,qN,cN)],Lib.hid (zN6 p3 p4 p5 hn4.1 hn4.2 HNL.out HNQ.out),H2.take 9⟩⟩)
   case rest =>
    clear H
    (rintro _ wc ⟨⟨t,rfl,ht,e0,e1,e6,e7,e8,e9,e10⟩,hcut⟩;have hl:=zRi t ht;clear ht;obtain⟨u0,hl⟩:=hl;obtain⟨u1,hl⟩:=hl;obtain⟨u2,hl⟩:=hl;obtain⟨u3,hl⟩:=hl;obtain⟨u4,hl⟩:=hl;obtain⟨u5,hl⟩:=hl;obtain⟨u6,hl⟩:=hl;obtain⟨u7,hl⟩:=hl;obtain⟨u8,hl⟩:=hl;obtain⟨u9,hl⟩:=hl;obtain⟨u10,hl⟩:=hl;obtain⟨u11,hl⟩:=hl;obtain⟨u12,hl⟩:=hl;obtain⟨u13,hl⟩:=hl;obtain⟨u14,hl⟩:=hl;obtain⟨u15,hl⟩:=hl;obtain⟨u16,hl⟩:=hl;obtain⟨u17,hl⟩:=hl;obtain⟨u18,hl⟩:=hl;obtain⟨u19,hl⟩:=hl;obtain⟨u20,hl⟩:=hl;obtain⟨u21,hl⟩:=hl;obtain⟨u22,hl⟩:=hl;obtain⟨u23,hl⟩:=hl;obtain⟨u24,hl⟩:=hl;obtain⟨u25,hl⟩:=hl;obtain⟨u26,hl⟩:=hl;obtain⟨u27,hl⟩:=hl;obtain⟨u28,hl⟩:=hl;obtain⟨u29,hl⟩:=hl;obtain⟨u30,hl⟩:=hl;obtain⟨u31,hl⟩:=hl;obtain⟨u32,hl⟩:=hl;obtain⟨u33,hl⟩:=hl;obtain⟨u34,hl⟩:=hl;obtain⟨u35,hl⟩:=hl;obtain⟨u36,hl⟩:=hl;obtain⟨u37,hl⟩:=hl;obtain⟨u38,hl⟩:=hl;obtain⟨u39,hl⟩:=hl;obtain⟨u40,hl⟩:=hl;obtain⟨u41,hl⟩:=hl;obtain⟨u42,hl⟩:=hl;obtain⟨u43,hl⟩:=hl;obtain⟨u44,hl⟩:=hl;obtain⟨u45,hl⟩:=hl;obtain⟨u46,hl⟩:=hl;obtain⟨u47,hl⟩:=hl;obtain⟨u48,hl⟩:=hl;obtain⟨u49,hl⟩:=hl;obtain⟨u50,hl⟩:=hl;obtain⟨u51,hl⟩:=hl;obtain⟨u52,hl⟩:=hl;obtain⟨u53,hl⟩:=hl;obtain⟨u54,hl⟩:=hl;obtain⟨u55,hl⟩:=hl;obtain⟨u56,hl⟩:=hl;obtain⟨u57,hl⟩:=hl;obtain⟨u58,hl⟩:=hl;obtain⟨u59,hl⟩:=hl;obtain⟨u60,hl⟩:=hl;obtain⟨u61,hl⟩:=hl;obtain⟨u62,hl⟩:=hl;obtain⟨u63,hl⟩:=hl;obtain⟨u64,hl⟩:=hl;obtain⟨u65,hl⟩:=hl;obtain⟨u66,hl⟩:=hl;obtain⟨u67,hl⟩:=hl;obtain⟨u68,hl⟩:=hl;obtain⟨u69,hl⟩:=hl;obtain⟨u70,hl⟩:=hl;obtain⟨u71,hl⟩:=hl;obtain⟨u72,hl⟩:=hl;obtain⟨u73,hl⟩:=hl;obtain⟨u74,hl⟩:=hl;obtain⟨u75,hl⟩:=hl;obtain⟨u76,hl⟩:=hl;obtain⟨u77,hl⟩:=hl;obtain⟨u78,hl⟩:=hl;obtain⟨u79,hl⟩:=hl;obtain⟨u80,hl⟩:=hl;subst hl;(replace e0:some u0=some (.slice pp ps.length cp):=e0);(cases e0);(replace e1:some u1=some (.slice psl L.length csl):=e1);(cases e1);(replace e6:some u6=some (fdV fd):=e6);(cases e6);(replace e7:some u7=some (.bool fd.isSome):=e7);(cases e7);(replace e8:some u8=some (.pointer (some ⟨b32,0,none⟩)):=e8);(cases e8);(replace e9:some u9=some (.slice qN ms cN):=e9);(cases e9);(replace e10:some u10=some (.int .i64 i):=e10);(cases e10))
    obtain⟨lq,lc,XS,US,HQ,H⟩:=hcut;obtain⟨q1,q2,q3,q4⟩:=HQ.out;obtain⟨p1,p2,p3,p4,p5,p6⟩:=HP.out
    go_wp2_with fail
    refine(zQT b32 gm ps.length pp cp ps psl csl L Fp Fs lq lc XS US marks ms i w0 _ hR hset hL hn4.2 hil hms hs42 p2 q2 q3 (Nat.le_trans q4 (by decide)) (H.take 7)).mono ?_
    rintro e w2 ⟨nq,nc,ys,us2,marks2,L1,L2,L3,L4,rfl,T⟩;have H2:=HoldG.callL (a:=zCd b32 gm ps.length pp cp ps psl csl L Fp Fs (.slice lq XS.length lc) XS (.slice none 0 0) [] US marks) (ext:=[.kn (FW [((0,nl,qN,cN):WV)]) (WK [(0,nl,qN,cN)]),.kn (FW (fd:Option WV).toList) (WK (fd:Option WV).toList)]) H T;clear H T;have hin:∀ y ∈ ys,y.1<ps.length∧((atI ps y.1).kind=1∨(atI ps y.1).kind=5):=by
     intro y hy;have h1:plW y ∈ (zBt ps L i (XS.map plW) marks).2:=by rw[L1];exact List.mem_map.2 ⟨y,hy,rfl⟩
     refine⟨zKI (zGq hR) i _ _ (fun e he=>?_) _ h1,zJO i _ _ _ h1⟩
     obtain⟨x,hx,rfl⟩:=List.mem_map.1 he;exact(q2 x hx).1
    have hyn:ys.length≤1000000:=Nat.le_trans L4 (Nat.le_trans hn4.2 (by decide))
    simp only[zCd,List.cons_append,List.nil_append]at H2;have H3:=H2.also (FW us2) (zO4 (FW us2) ys) (Still.at (i:=5) (S:=WK us2) i_5) (fun V hV x hx=>by obtain⟨u,hu,h⟩:=L2 x hx;rw[h];exact((H2.kn (i:=5) i_5).kept hV).ints hu)
    clear H2;simp only[ca]at H3;have hm2:marks2.length=ps.length:=by have:=zI1 (p:=ps) (s:=L) i (XS.map plW) marks;rw[L1]at this;exact this.trans p2
    have HLE:=Lib.hid hm2;clear hm2;have hrg:∀ (b1:Option zA2) (zs:List Way),zBN ps L i (ys.map plW)=(b1,zs)→_:=fun b1 zs h2=>zMP (n:=L.length+1 - (i+1)) (nl:=List.replicate ms (-1)) (found:=fd.map (·.2.1)) (l:=xs.map plW) (m:=marks) (by rw[← q1];exact L1) h2
    rw[show L.length+1 - (i+1)+1=L.length+1 - i from zPm hil]at hrg
    have HG:=Lib.hid hrg;clear hrg L1;have HLS:=Lib.hid (And.intro L2 (And.intro L3 L4));clear L2 L3 L4;have HIN:=Lib.hid hin;clear hin;have HPP:=Lib.hid (And.intro p1 p6);clear p1 p2 p3 p4 p5 p6 q1 q2 q3 q4
    go_wp2_with fail
    refine(zQG b32 (.slice (some ⟨gm,0,none⟩) ps.length ps.length) (.slice nq ys.length nc) lq lc pp cp ps psl csl L Fp Fs (FW us2) ys i _ w0 w2 hR hset HIN.out hyn (H3.pick [0,6,3,4,9,2] _ (by decide) rfl)).mono ?_
    rintro e w3 ⟨lv',zs,fd',S1,S2,S3,rfl,T2⟩;have H4:=H3.callIn (l3:=[.row (.slice (some ⟨gm,0,none⟩) ps.length ps.length) 3 1 ps.length (marks2.map (.int .i64)),.kn (FW us2) (WK us2)]++[.kn (FW [((0,nl,qN,cN):WV)]) (WK [(0,nl,qN,cN)]),.kn (FW (fd:Option WV).toList) (WK (fd:Option WV).toList)]) T2 [0,6,3,4,9,2] [1,5,7,8] rfl rfl (by decide) (by decide)
    clear H3 T2;simp only[zGx,List.cons_append,List.nil_append]at H4;obtain⟨zq,zc,rfl,_,_,_⟩:=H4.rowShape (i:=1) i_1;have hzl:zs.length≤ps.length:=by
     have h1:=zLF (p:=ps) (s:=L) i (ys.map plW);rw[S1,List.length_map,List.length_map]at h1;exact Nat.le_trans h1 HLS.out.2.2
    have hg:=HG.out _ _ S1;clear HG S1;have hzk:∀ z ∈ zs,z.1<ps.length∧∃ u ∈ us2,z.2=u.2:=fun z hz=>by obtain⟨h1,y,hy,h2⟩:=S2 z hz;obtain⟨u,hu,h3⟩:=HLS.out.1 y hy;exact⟨h1,u,hu,h2.trans h3⟩
    have H:=(H4.addNil 58 2).pick [0,5,9,2,3,6,1,7,8] (zCd b32 gm ps.length pp cp ps psl csl L Fp Fs (.slice zq zs.length zc) zs (.slice none 0 0) [] us2 marks2++[.kn (FW [((0,nl,qN,cN):WV)]) (WK [(0,nl,qN,cN)]),.kn (FW (fd:Option WV).toList) (WK (fd:Option WV).toList)]) (by decide) rfl
    clear H4 S2;have HZK:=Lib.hid (And.intro hzk hzl);clear hzk hzl
    cases fd' with
    | some y =>
     have hym:=S3 y rfl;obtain⟨uy,huy,hyu⟩:=HLS.out.1 y hym;have hyl:y.2.1.length=ms:=by rw[hyu];exact HLS.out.2.1 uy huy
     have H2:=H.also (FW [y]) (WK [y]) (fun b hb=>Still.at (i:=5) (S:=WK us2) i_5 b (FW.sub (fun x hx=>by rw[List.mem_singleton]at hx;subst hx;exact⟨uy,huy,hyu⟩) hb)) (fun V hV=>((H.kn (i:=5) i_5).sub (vs:=[y]) (fun x hx=>by rw[List.mem_singleton]at hx;subst hx;exact⟨uy,huy,hyu⟩)).kept hV)
     obtain⟨yb,yo,hya⟩:=((H2.kn (i:=9) i_9).ints (List.mem_singleton.2 rfl)).at (by rw[hyl];omega)
     have H3:=H2.pick [0,1,2,3,4,5,6,7,9] (zCd b32 gm ps.length pp cp ps psl csl L Fp Fs (.slice zq zs.length zc) zs (.slice none 0 0) [] us2 marks2++[.kn (FW [((0,nl,qN,cN):WV)]) (WK [(0,nl,qN,cN)]),.kn (FW (some y:Option WV).toList) (WK (some y:Option WV).toList)]) (by decide) rfl
     clear H H2;have H:=H3;clear H3;obtain⟨yk,ysl,yp,yc⟩:=y;simp only at hya hyl;subst hya;simp only[Option.map_some,orP,Option.isSome_some,Bool.true_and]at hg
     cases zs with
     | nil =>
      have E:=Lib.hid (show runP ps L (a:Int)=some ysl by rw[E0.out,HPP.out.1];exact hg)
      clear hg HPP;simp only[zCd,List.cons_append,List.nil_append,Option.toList_some,List.length_nil]at H ⊢;replace hyl:((yk,ysl,some ⟨yb,yo,none⟩,yc):WV).2.1.length=ms:=hyl;have HYL:=Lib.hid (show ((yk,ysl,some ⟨yb,yo,none⟩,yc):WV).2.1.length≤1000000 by rw[hyl];omega)
      clear hyl
      go_wp2_with (first|(go_at_call 24;refine chI (zG1 ((yk,ysl,some ⟨yb,yo,none⟩,yc):WV).2.2.1 ((yk,ysl,some ⟨yb,yo,none⟩,yc):WV).2.2.2 ((yk,ysl,some ⟨yb,yo,none⟩,yc):WV).2.1 (FW [((yk,ysl,some ⟨yb,yo,none⟩,yc):WV)]) _ HYL.out (H.knlt (i:=8) i_8) ((H.kn (i:=8) i_8).ints (List.mem_singleton.2 rfl))) H ?_;clear H;intro q9 c9 w H;simp only[ca]at H)|((with_reducible refine gNN ?_);refine nN ?_)|((with_reducible refine gL ?_);refine zAp wtd_ _ _ rfl rfl H (i:=0) .zero zBA rfl ?_)|fail)
      go_ret2
      refine⟨?_,H.below⟩;rw[E.out];exact⟨q9,c9,rfl,H.all 9 _ rfl⟩
     | cons z0 zs =>
      have HG2:=Lib.hid (hg.trans (if_neg (by simp)))
      clear hg;have HYH:=Lib.hid hyl;clear hyl;have HFY:=Lib.hid (show ∀ y':WV,some ((yk,ysl,some ⟨yb,yo,none⟩,yc):WV)=some y'→y'.2.1.length=ms from fun y' h=>by cases h;exact HYH.out)
      have dz:((((z0::zs).length:Nat):Int) == 0)=false:=by rw[beq_eq_false_iff_ne];simp;omega
      have dz2:(((z0::zs).length) == 0)=false:=by simp
      have HRN:=Lib.hid (show RunR b32 gm ps.length pp cp ps psl csl L Fp Fs (0,nl,qN,cN) ms a w0 (i+1) (some ((yk,ysl,some ⟨yb,yo,none⟩,yc):WV)) w3 from ⟨zq,zc,z0::zs,us2,marks2,Lib.hid ⟨HPP.out.1.trans HG2.out,HLE.out,HZK.out.1,HLS.out.2.1,HZK.out.2,HFY.out⟩,H⟩)
      obtain⟨zn,hzn⟩:∃ zn,(z0::zs).length=zn:=⟨_,rfl⟩;simp only[zCd,List.cons_append,List.nil_append]at H;rw[hzn]at H dz dz2;have HZN:=Lib.hid hzn;clear hzn
      go_wp2_with (first|((with_reducible refine gNN ?_);refine nN ?_)|((with_reducible refine gL ?_);refine zAp wtd_ _ _ rfl rfl H (i:=0) .zero zBA rfl ?_)|fail)
      exact HFIN.out (some ((yk,ysl,some ⟨yb,yo,none⟩,yc):WV)) _ _ rfl rfl rfl rfl rfl rfl rfl rfl hil HRN
    | none =>
     simp only[Option.map_none,orP]at hg
     cases fd with
     | none =>
      have HG2:=Lib.hid (hg.trans (if_neg (by simp)))
      clear hg;have HRN:=Lib.hid (show RunR b32 gm ps.length pp cp ps psl csl L Fp Fs (0,nl,qN,cN) ms a w0 (i+1) none w3 from ⟨zq,zc,zs,us2,marks2,Lib.hid ⟨HPP.out.1.trans HG2.out,HLE.out,HZK.out.1,HLS.out.2.1,HZK.out.2,fun y h=>by cases h⟩,H⟩)
      simp only[zCd,List.cons_append,List.nil_append,fdV,Option.isSome_none]at H ⊢
      go_wp2_with (first|((with_reducible refine gNN ?_);refine nN ?_)|((with_reducible refine gL ?_);refine zAp wtd_ _ _ rfl rfl H (i:=0) .zero zBA rfl ?_)|fail)
      exact HFIN.out none _ _ rfl rfl rfl rfl rfl rfl rfl rfl hil HRN
     | some y =>
      have hyl:=HPP.out.2 y rfl;simp only[Option.map_some,Option.isSome_some,Bool.true_and]at hg
      cases zs with
      | nil =>
       have E:=Lib.hid (show runP ps L (a:Int)=some y.2.1 by rw[E0.out,HPP.out.1];exact hg)
       clear hg HPP;simp only[zCd,List.cons_append,List.nil_append,fdV,Option.isSome_some,Option.toList_some,List.length_nil]at H ⊢;have HYL:=Lib.hid (show y.2.1.length≤1000000 by rw[hyl];omega)
       clear hyl
       go_wp2_with (first|(go_at_call 24;refine chI (zG1 y.2.2.1 y.2.2.2 y.2.1 (FW [y]) _ HYL.out (H.knlt (i:=8) i_8) ((H.kn (i:=8) i_8).ints (List.mem_singleton.2 rfl))) H ?_;clear H;intro q9 c9 w H;simp only[ca]at H)|((with_reducible refine gNN ?_);refine nN ?_)|((with_reducible refine gL ?_);refine zAp wtd_ _ _ rfl rfl H (i:=0) .zero zBA rfl ?_)|fail)
       go_ret2
       refine⟨?_,H.below⟩;rw[E.out];exact⟨q9,c9,rfl,H.all 9 _ rfl⟩
      | cons z0 zs =>
       have HG2:=Lib.hid (hg.trans (if_neg (by simp)))
       clear hg;have dz:((((z0::zs).length:Nat):Int) == 0)=false:=by rw[beq_eq_false_iff_ne];simp;omega
       have dz2:(((z0::zs).length) == 0)=false:=by simp
       have HRN:=Lib.hid (show RunR b32 gm ps.length pp cp ps psl csl L Fp Fs (0,nl,qN,cN) ms a w0 (i+1) (some y) w3 from ⟨zq,zc,z0::zs,us2,marks2,Lib.hid ⟨HPP.out.1.trans HG2.out,HLE.out,HZK.out.1,HLS.out.2.1,HZK.out.2,HPP.out.2⟩,H⟩)
       obtain⟨zn,hzn⟩:∃ zn,(z0::zs).length=zn:=⟨_,rfl⟩;simp only[zCd,List.cons_append,List.nil_append,fdV,Option.isSome_some]at H ⊢;rw[hzn]at H dz dz2;have HZN:=Lib.hid hzn;clear hzn hyl
       try clear hyl
       go_wp2_with (first|((with_reducible refine gNN ?_);refine nN ?_)|((with_reducible refine gL ?_);refine zAp wtd_ _ _ rfl rfl H (i:=0) .zero zBA rfl ?_)|fail)
       exact HFIN.out (some y) _ _ rfl rfl rfl rfl rfl rfl rfl rfl hil HRN
  ·have di:decide (i≤L.length)=false:=decide_eq_false hil;have di2:decide ((i:Int)≤(L.length:Int))=false:=decide_eq_false (by omega)
   have hE:runP ps L (a:Int)=fd.map (·.2.1):=by rw[E0.out,HP.out.1,show L.length+1 - i=0 by omega];rfl
   cases fd with
   | none =>
    have E:=Lib.hid (show runP ps L (a:Int)=none from hE)
    clear hE;simp only[zCd,List.cons_append,List.nil_append,fdV,Option.isSome_none]at H ⊢
    go_wp2_with (first|((with_reducible refine ch (zKq _) H ?_);clear H;intro w H)|fail)
    go_ret2
    exact⟨by rw[E.out];rfl,H.below⟩
   | some y =>
    have hyl:=HP.out.2.2.2.2.2 y rfl;have E:=Lib.hid (show runP ps L (a:Int)=some y.2.1 from hE)
    clear hE;simp only[zCd,List.cons_append,List.nil_append,fdV,Option.isSome_some,Option.toList_some]at H ⊢;have HYL:=Lib.hid (show y.2.1.length≤1000000 by rw[hyl];omega)
    clear hyl
    go_wp2_with (first|(go_at_call 24;refine chI (zG1 y.2.2.1 y.2.2.2 y.2.1 (FW [y]) _ HYL.out (H.knlt (i:=8) i_8) ((H.kn (i:=8) i_8).ints (List.mem_singleton.2 rfl))) H ?_;clear H;intro q9 c9 w H;simp only[ca]at H)|((with_reducible refine gNN ?_);refine nN ?_)|((with_reducible refine gL ?_);refine zAp wtd_ _ _ rfl rfl H (i:=0) .zero zBA rfl ?_)|fail)
    go_ret2
    refine⟨?_,H.below⟩;rw[E.out];exact⟨q9,c9,rfl,H.all 9 _ rfl⟩
theorem zQC (pp:Option Addr) (cp:Nat) (ps:List InstD) (psl:Option Addr) (csl:Nat) (L:Str) (at_:Int) (Fp Fs:Nat→Prop) (w0:World) (hset:∀ x ∈ ps,zAW x.set) (hL:L.length≤1000) (hFp:∀ b,Fp b→b<w0.heap.size) (hFs:∀ b,Fs b→b<w0.heap.size) (hp:InstsR Fp pp cp ps w0) (hs:BytesR Fs psl csl L w0) :
  Calls Tryz.prog 8 #[.slice pp ps.length cp,.slice psl L.length csl,.int .i64 at_] w0 fun e w'=>zJv w0 (runP ps L at_) e w'∧Below w0.heap.size w0 w' :=
 (zNo pp cp ps psl csl L at_ Fp Fs w0 hset hL hFp hFs hp hs).mono fun _ _ h=>⟨h.1.out,h.2⟩
theorem zHI (q q2:Option Addr) (c c2:Nat) (xs:List Int) (F G:Nat→Prop) (w0:World) (hF:∀ b,F b→b<w0.heap.size) (hG:∀ b,G b→b<w0.heap.size) (h1:IntsR F q c xs w0) (h2:IntsR G q2 c2 xs w0) :
  Calls Tryz.prog 16 #[.slice q xs.length c,.slice q2 xs.length c2] w0 (Rt (.bool true) w0):=by
 have hb1:=h1.bound;have hat1:=h1.at;have hat2:=h2.at
 have H:=((Hold.start w0).know F (IntsR F q c xs) hF (fun i r h=>by simp at h) (fun V hV=>h1.kept hV)).know G (IntsR G q2 c2 xs) hG (fun i r h=>by
  rcases i with _|i
  ·simp at h;subst h;intro b hb;cases hb
  ·simp at h) (fun V hV=>h2.kept hV)
 simp only[ca]at H;clear h1 h2;obtain⟨n,hn⟩:∃ n,xs.length=n:=⟨_,rfl⟩;have HN:=Lib.hid hn;rw[hn]at hb1 hat1 hat2 ⊢;clear hn;have hne:((n:Int) != (n:Int))=false:=by simp
 go_enter Tryz.func16,Tryz.ntmps16
 go_wp2_with fail
 go_loopw [5] (fun i wr=>∃ k:Nat,k≤n∧i=.int .i64 k∧Hold w0 wr [.kn F (IntsR F q c xs),.kn G (IntsR G q2 c2 xs)]) (fun i _=>n - (intOf i).toNat)
 case atStart=>exact⟨0,by omega,rfl,H⟩
 case round =>
  clear H;obtain⟨k,hk,rfl,H⟩:=hrel
  by_cases hlt:k<n
  ·have dk:decide (k<n)=true:=decide_eq_true hlt;have dk2:decide ((k:Int)<(n:Int))=true:=decide_eq_true (by omega)
   obtain⟨b1,o1,rfl⟩:=hat1 (by omega)
   obtain⟨b2,o2,rfl⟩:=hat2 (by omega)
   have hkx:k<xs.length:=by rw[HN.out];exact hlt
   obtain⟨x,hx⟩:∃ x,xs[k]=x:=⟨_,rfl⟩;have HC1:=Lib.hid (fun V (h:IntsR F (some ⟨b1,o1,none⟩) c xs V)=>(h.cell hkx).trans (by rw[hx]):∀ V,IntsR F (some ⟨b1,o1,none⟩) c xs V→V.cell? ⟨b1,o1+k,none⟩=some (.int .i64 x))
   have HC2:=Lib.hid (fun V (h:IntsR G (some ⟨b2,o2,none⟩) c2 xs V)=>(h.cell hkx).trans (by rw[hx]):∀ V,IntsR G (some ⟨b2,o2,none⟩) c2 xs V→V.cell? ⟨b2,o2+k,none⟩=some (.int .i64 x))
   clear hx hkx
   go_upto_region 6 with fail
   refine wr_ 9 [fun v _=>v=.slice (some ⟨b1,o1,none⟩) n c,fun v _=>v=.int .i64 (k:Int),fun v _=>v=.pointer (some ⟨b1,o1+k,none⟩),fun v _=>v=.int .i64 x,fun v _=>v=.slice (some ⟨b2,o2,none⟩) n c2,fun v _=>v=.int .i64 (k:Int),fun v _=>v=.pointer (some ⟨b2,o2+k,none⟩),fun v _=>v=.int .i64 x,fun v _=>v=.bool false] ?ob ?en
   case ob =>
    refine⟨?_,?_,?_,?_,?_,?_,?_,?_,?_,trivial⟩<;>intro A W h
    ·exact zAB rfl rfl (h.f 0)
    ·exact zAB rfl rfl (h.f 5)
    ·exact zAo (sz:=1) Tryz.underlying27 (fun w=>by kernel_rfl) rfl rfl (h.d 0 17) (h.d 1 18) (by omega) (by omega)
    ·exact zAA rfl (zAC rfl (h.d 2 19) zAH (HC1.out _ ((H.call h.below).kn (i:=0) .zero))) (by decide)
    ·exact zAB rfl rfl (h.f 1)
    ·exact zAB rfl rfl (h.f 5)
    ·exact zAo (sz:=1) Tryz.underlying27 (fun w=>by kernel_rfl) rfl rfl (h.d 4 21) (h.d 5 22) (by omega) (by omega)
    ·exact zAA rfl (zAC rfl (h.d 6 23) zAH (HC2.out _ ((H.call h.below).kn (i:=1) i_1))) (by decide)
    ·(have e20:A.eval (.tmp 20)=.int .i64 x:=h.d 3 20;have e24:A.eval (.tmp 24)=.int .i64 x:=h.d 7 24;refine zAA rfl ?_;simp only[execOp,e20,e24];(simp[go_sem]<;>first|done|omega|(rw[IntKind.wrap_i64];omega)|(rw[IntKind.wrap_u8];omega)|(rw[IntKind.wrap_u64];omega)))
   case en =>
    intro vals W hbw hv _;simp only[fa,Nat.reduceAdd];rw[e_ hv 0,e_ hv 1,e_ hv 2,e_ hv 3,e_ hv 4,e_ hv 5,e_ hv 6,e_ hv 7,e_ hv 8];clear hv
    try simp only[pl]
    replace H:=H.call hbw;clear hbw
    go_wp2_with fail
    go_roundw
    case rel=>exact⟨k+1,by omega,by go_num,H⟩
    case measure=>simp[intOf];omega
  ·obtain rfl:k=n:=by omega
   have dk:decide (k<k)=false:=by simp
   have dk2:decide ((k:Int)<(k:Int))=false:=by simp
   go_wp2_with fail
   go_ret;exact⟨rfl,H.below⟩
theorem zKd (w0:World):Calls Tryz.prog 16 #[.slice none 0 0,.slice none 0 0] w0 (Rt (.bool true) w0) :=
 zHI none none 0 0 [] (fun _=>False) (fun _=>False) w0 (fun _ h=>h.elim) (fun _ h=>h.elim) (IntsR.nil ..) (IntsR.nil ..)
section
variable {M:Nat→Prop} {P:Program} {f:FuncId} {args:Array Value} {w w0:World} {l:List Res} {R:Ending→World→Prop}
theorem chRs {sl:zA2} (c:Calls P f args w fun e w'=>zJv w (some sl) e w'∧Below w.heap.size w w') (H:HoldG M w0 w l)
  (k:∀ q n F w',(∀ b,F b→w.heap.size≤b)→HoldG M w0 w' (l++[.kn F (IntsR F q n sl)])→R (.returned (.tuple #[.slice q sl.length n,.bool true])) w'):Calls P f args w R:=c.mono fun _ w' h=>by
 obtain⟨⟨q,n,F,rfl,hs,hF⟩,hb⟩:=h;exact k q n F w' (fun b h=>(hF b h).2) (H.learn hb Still.none (fun b h=>⟨(hF b h).1,.inl (hF b h).2⟩) (fun V hV=>hs.kept hV))
theorem chRn (c:Calls P f args w fun e w'=>zJv w none e w'∧Below w.heap.size w w') (H:HoldG M w0 w l)
  (k:∀ w',HoldG M w0 w' l→R (.returned (.tuple #[.slice none 0 0,.bool false])) w'):Calls P f args w R:=c.mono fun _ w' h=>by
 obtain⟨rfl,hb⟩:=h;exact k w' (H.call hb)
end
theorem Hold.insts2 {w0:World} {Fp Fs:Nat→Prop} {pp psl:Option Addr} {cp csl:Nat} {ps:List InstD} {L:Str} (hFp:∀ b,Fp b→b<w0.heap.size) (hFs:∀ b,Fs b→b<w0.heap.size) (hp:InstsR Fp pp cp ps w0) (hs:BytesR Fs psl csl L w0) :
  Hold w0 w0 [.kn Fp (InstsR Fp pp cp ps),.kn Fs (BytesR Fs psl csl L)] :=
 (Hold.insts hFp hp).know Fs (BytesR Fs psl csl L) hFs (fun i r h=>by
  rcases i with _|i
  ·simp at h;subst h;intro b hb;cases hb
  ·simp at h) (fun V hV=>hs.kept hV)
theorem zEc (pp:Option Addr) (cp:Nat) (ps:List InstD) (psl:Option Addr) (csl:Nat) (L:Str) (at_:Int) (Fp Fs:Nat→Prop) (w0:World) (hset:∀ x ∈ ps,zAW x.set) (hL:L.length≤1000) (hFp:∀ b,Fp b→b<w0.heap.size) (hFs:∀ b,Fs b→b<w0.heap.size) (hp:InstsR Fp pp cp ps w0) (hs:BytesR Fs psl csl L w0) :
  Calls Tryz.prog 9 #[.slice pp ps.length cp,.slice psl L.length csl,.int .i64 at_] w0 (Rt (.bool true) w0):=by
 have H:=Hold.insts2 hFp hFs hp hs;clear hp hs;have hv:=fun w h1 h2 h3 h4=>zQC pp cp ps psl csl L at_ Fp Fs w hset hL h1 h2 h3 h4
 have hr:=fun w h1 h2 h3 h4=>zOU pp cp ps psl csl L at_ Fp Fs w hset hL h1 h2 h3 h4
 cases hres:runP ps L at_ with
 | none =>
  rw[hres]at hv hr;clear hres
  go_enter Tryz.func9,Tryz.ntmps9
  go_wp2_with (first|(go_at_call 8;refine chRn (hv _ (H.knlt (i:=0) .zero) (H.knlt (i:=1) i_1) (H.kn (i:=0) .zero) (H.kn (i:=1) i_1)) H ?_;clear H;intro w H)|(go_at_call 25;refine chRn (hr _ (H.knlt (i:=0) .zero) (H.knlt (i:=1) i_1) (H.kn (i:=0) .zero) (H.kn (i:=1) i_1)) H ?_;clear H;intro w H)|((with_reducible refine ch (zKd _) H ?_);clear H;intro w H)|fail)
  go_ret;exact⟨rfl,H.below⟩
 | some sl =>
  rw[hres]at hv hr;clear hres
  go_enter Tryz.func9,Tryz.ntmps9
  go_wp2_with (first|(go_at_call 8;refine chRs (hv _ (H.knlt (i:=0) .zero) (H.knlt (i:=1) i_1) (H.kn (i:=0) .zero) (H.kn (i:=1) i_1)) H ?_;clear H;intro q1 n1 F1 w hF1 H;clear hF1;simp only[ca]at H)|(go_at_call 25;refine chRs (hr _ (H.knlt (i:=0) .zero) (H.knlt (i:=1) i_1) (H.kn (i:=0) .zero) (H.kn (i:=1) i_1)) H ?_;clear H;intro q2 n2 F2 w hF2 H;clear hF2;simp only[ca]at H)|(go_at_call 16;refine ch (zHI q1 q2 n1 n2 sl F1 F2 _ (H.knlt (i:=2) i_2) (H.knlt (i:=3) i_3) (H.kn (i:=2) i_2) (H.kn (i:=3) i_3)) H ?_;clear H;intro w H)|fail)
  go_ret;exact⟨rfl,H.below⟩
theorem zKj (m:Nat) (pb:Nat) (FW:Nat→Prop) (p:Option Addr) (n c:Nat) (ws:List WordD) (j0 g0:Nat) (f0:zBB) (t:Tree) (r':List WordD) (g':Nat) (w0:World) (hP:AltPre pb 138 FW p n c ws j0 g0 w0)
  (hres:zAt m f0 (ws.drop j0) g0 [] []=some (t,r',g'))
  (IH:∀ k,k<m→∀ (j1 g1:Nat) (f1:zBB) (t1:Tree) (r1:List WordD) (g2:Nat) (w:World),AltPre pb 138 FW p n c ws j1 g1 w→zAt k f1 (ws.drop j1) g1 [] []=some (t1,r1,g2) →
   Calls Tryz.prog 64 #[.pointer (some ⟨pb,0,none⟩),zC0 f1] w (zHK pb 138 p n c t1 (n - r1.length) g2 w)) :
  Calls Tryz.prog 64 #[.pointer (some ⟨pb,0,none⟩),zC0 f0] w0 (zHK pb 138 p n c t (n - r'.length) g' w0):=by
 obtain⟨i0,hi0,hz0,hz1,hz2⟩:=info_parts zD0
 have H:=(HoldG.startB hP.cells).know FW (WKnows FW p n c ws) hP.lt (fun i r h b hb=>by
  match i,h with
  | 0,h=>cases h;cases hb;exact hP.ne) (fun V hV=>hP.words.kept hV)
 simp only[ca]at H;have hlen:=hP.len;have hb:=hP.words.bound;have hp:=hP.words.at;have HN:=Lib.hid hb.1;have hc1:=hb.2.1;have hc2:=hb.2.2;clear hb;have hjn0:=hP.jn;have hgj0:=hP.gn;have HPN:=Lib.hid hP.ne;have HOK:=Lib.hid hP.ok;clear hP
 go_enter Tryz.func64,Tryz.ntmps64
 go_wp2_with (first|((first|((with_reducible refine kgA 3 ?_);refine kA 3 H ?_)|((with_reducible refine kgX 3 ?_);(first|refine kS 3 H ?_|refine kB 3 H ?_)));clear H;intro b3 w H;try simp only[nr]at H)|((first|((with_reducible refine kgA 4 ?_);refine kA 4 H ?_)|((with_reducible refine kgX 4 ?_);(first|refine kS 4 H ?_|refine kB 4 H ?_)));clear H;intro b4 w H;try simp only[nr]at H)|fail)
 replace H:=(H.addNil 87 10).addNil 87 10;have H1:=H.know (fun _=>False) (fun V=>ListR V (fun _=>False) ([]++[])) (fun _ h=>h.elim) (fun _ _ _ _ _ h=>h) (fun V _=>ListR.nil _ _)
 simp only[List.nil_append,List.cons_append]at H1;clear H
 go_loopw [5,6] (fun vA vI wr=>∃ (j g k:Nat) (f:zBB) (xa xi:List TV) (F:Nat→Prop),j≤n∧g≤j∧xa.length≤j∧xi.length≤j∧(∀ b,F b→w0.heap.size≤b)∧Hid (zAt k f (ws.drop j) g (xa.map (·.1)) (xi.map (·.1))=some (t,r',g')∧k≤m)
  ∧ HoldG (·=pb) w0 wr [.blk pb (pC p n c j g) 138,.kn FW (WKnows FW p n c ws),.blk b3 (zFC f) 92,.blk b4 (zAU {kind:=0} nilS) 87,
   .row vA 87 10 xa.length (zAP (xa.map zAy)),.row vI 87 10 xi.length (zAP (xi.map zAy)),.kn F (fun V=>ListR V F (xa++xi))])
  (fun _ _ wr=>posM pb n wr)
 case atStart=>exact⟨j0,g0,m,f0,[],[],fun _=>False,hjn0,hgj0,by simp,by simp,fun _ h=>h.elim,Lib.hid ⟨hres,Nat.le_refl _⟩,H1⟩
 case round =>
  clear H1;obtain⟨j,g,k,f,xa,xi,F,hj,hgj,hla,hli,hF,G,H⟩:=hrel;have HM:=Lib.hid ((H.cell .zero 1).trans rfl:wr.cell? ⟨pb,1,none⟩=some (.int .i64 (j:Int)));obtain⟨k,rfl⟩:∃ k',k=k'+1:=by
   cases k with
   | zero=>have:=G.out.1;simp[zAt]at this
   | succ k=>exact⟨k,rfl⟩
  have hp0:∀ W,Below wr.heap.size wr W→W.cell? ⟨pb,0,none⟩=some (.slice p n c):=fun W hb=>(H.call hb).cell .zero 0
  have hp1:∀ W,Below wr.heap.size wr W→W.cell? ⟨pb,1,none⟩=some (.int .i64 (j:Int)):=fun W hb=>(H.call hb).cell .zero 1
  by_cases hlt:j<n
  ·obtain⟨d,hd⟩:∃ d,ws[j]?=some d:=⟨_,List.getElem?_eq_getElem (by rw[← HN.out];exact hlt)⟩
   obtain⟨b,off,rfl⟩:=hp (by rw[← HN.out];omega)
   clear hp;have hokd:=HOK.out d (List.mem_of_getElem? hd);have hdj:decide ((j:Int)<(n:Int))=true:=by simp;omega
   have hkd:∀ W,Below wr.heap.size wr W→W.cell? ⟨b,off+j * 17,none⟩=some (.int .i64 d.kind):=fun W hb=>WKnows.kind ((H.call hb).kn i_1) hd
   have hcell:∀ W,Below wr.heap.size wr W→∀ k,k<17→W.cell? ⟨b,off+j * 17+k,none⟩=(zBV d)[k]?:=fun W hb=>WKnows.cells ((H.call hb).kn i_1) hd rfl
   have HD:=Lib.hid (zEV hd);have HDD:=Lib.hid hd;clear hd
   by_cases h9:d.kind=9
   ·have d9:((d.kind:Int) != 9)=false:=by rw[bne_eq_false_iff_eq];omega
    have E:=Lib.hid (show some (rowT 5 (xa.map (·.1)++[rowT 4 (xi.map (·.1))]),ws.drop j,g)=some (t,r',g') by rw[← G.out.1,HD.out,zSC h9])
    clear h9
    go_upto_region 2 with fail
    obtain⟨T,hT,fw,hf,h0⟩:=fam wr;have e0:=fun x=>hp0 _ (hf x)
    have e1:=fun x=>hp1 _ (hf x)
    have e2:=fun x=>hkd _ (hf x)
    refine zCW fw (by kernel_rfl) (by kernel_rfl) h0 ?_
    repeat (go_big_quiet_step (fail))
    refine wpQuiet_nil ?_
    rintro _ ⟨x,rfl⟩;replace H:=H.call (hf x);obtain⟨wq,hwq⟩:∃ wq,fw x=wq:=⟨_,rfl⟩;rw[hwq]at H ⊢;clear hwq e0 e1 e2 h0 hf hp0 hp1 hkd hcell;clear x fw hT T;obtain⟨qi,ci,rfl,hqi1,hqi2,_⟩:=H.rowShape (i:=5) i_5;obtain⟨GF,hGF,H2⟩:=H.rowForest (i:=5) (xs:=xi) (K:=F) i_5 rfl (Still.at (i:=6) i_6) (fun x hx=>(H.kn (i:=6) i_6) x (List.mem_append.2 (.inr hx)))
    clear H;have H:=H2;clear H2;simp only[sc]at H;have hGFl:∀ b,GF b→w0.heap.size≤b:=fun b h=>(hGF b h).elim id (hF b)
    clear hGF
    generalize hrt:rowT 4 (xi.map (·.1))=rt at E
    have hr4:∀ (w:World) (l:List Res),HoldG (·=pb) w0 w l→At l 5 (.kn GF (fun V=>ForestR V GF qi ci (xi.map (·.1))))→Calls Tryz.prog 107 #[.int .i64 4,.slice qi xi.length ci] w fun e w'=>zCP w GF rt e w'∧Below w.heap.size w w':=fun w l h hi=>hrt ▸ zEp 4 qi ci xi.length GF (xi.map (·.1)) w (h.knlt hi) (h.kn hi) (by rw[List.length_map])
    have HRT:=Lib.hid hrt;clear hrt;simp only[Option.some.injEq,Prod.mk.injEq]at E;obtain⟨ht5,hr5',rfl⟩:=E;have hjr:n - r'.length=j:=by rw[← hr5',List.length_drop,← HN.out];omega
    have hr5:∀ (w:World) (l:List Res) (qa:Option Addr) (ca:Nat) (G3:Nat→Prop),HoldG (·=pb) w0 w l→At l 4 (.kn G3 (fun V=>ForestR V G3 qa ca (xa.map (·.1)++[rt])))→Calls Tryz.prog 107 #[.int .i64 5,.slice qa (xa.length+1) ca] w fun e w'=>zCP w G3 t e w'∧Below w.heap.size w w':=fun w l qa ca G3 h hi=>ht5 ▸ zEp 5 qa ca (xa.length+1) G3 (xa.map (·.1)++[rt]) w (h.knlt hi) (h.kn hi) (by rw[List.length_append,List.length_map];rfl)
    have HJR:=Lib.hid hjr;clear hjr hr5' ht5 hli
    go_wp2_with (first|(at_builtin;refine zAX rfl _ _ 85 rfl H evd_ rfl atd_ atd_ Tryz.underlying85 hi0 hz0 hz1 hz2 rfl (by decide) rfl rfl (by unfold maxLen;omega) (by omega) ?_;clear H;intro v2 w H;try simp only[nr]at H)|((with_reducible refine gBS ?_);refine zAL wtd_ _ _ _ rfl H (zAU (rt.d) (.slice q2 rt.kids.length c2)) 87 (by intro W;simp only[ml];(try simp only[pe]);exact zBf _ _ W) ?_;clear H;intro bk w H;try simp only[nr]at H)|((with_reducible refine gT ?_);(refine aT H ?_;clear H;intro w H;try simp only[nr]at H))|(go_at_call 107;(with_reducible refine cht (hr4 _ _ H i_5) H (Still.at (i:=5) i_5) ?_);clear H;intro q2 c2 F2 w hF2 H)|(go_at_call 107;(obtain⟨qa,ca,G3,rfl,hG3,H3⟩:=H.rowForest1 (i:=4) (k:=6) (k2:=7) (xs:=xa) (ys:=xa++xi) i_4 i_6 (fun x hx=>List.mem_append.2 (.inl hx)) i_7);clear H;(have H:=H3);clear H3;(simp only[sc]at H);(with_reducible refine cht (hr5 _ _ _ _ _ H i_4) H (Still.at (i:=4) i_4) ?_);clear H;intro q5 c5 F5 w hF5 H;try simp only[nr]at H))
    (refine xc Tryz.results64 H ?_)
    have hG3l:∀ b,G3 b→w0.heap.size≤b:=fun b h=>(hG3 b h).elim id (fun h=>h.elim (hF b) (fun h=>(hF2 b h).elim id (hGFl b)))
    rw[HJR.out];exact⟨H.keep,(H.blk .zero).2,q5,c5,F5,rfl,(H.all 9 _ rfl).2 _ (fun _ _=>rfl),fun b h=>⟨(H.all 9 _ rfl).1 b h,.inl ((hF5 b h).elim id (hG3l b))⟩⟩
   ·have d9:((d.kind:Int) != 9)=true:=by rw[bne_iff_ne];omega
    go_upto_region 2 with fail
    obtain⟨T,hT,fw,hf,h0⟩:=fam wr;have e0:=fun x=>hp0 _ (hf x)
    have e1:=fun x=>hp1 _ (hf x)
    have e2:=fun x=>hkd _ (hf x)
    refine zCW fw (by kernel_rfl) (by kernel_rfl) h0 ?_
    repeat (go_big_quiet_step (fail))
    refine wpQuiet_nil ?_
    rintro _ ⟨x,rfl⟩;replace H:=H.call (hf x);obtain⟨wq,hwq⟩:∃ wq,fw x=wq:=⟨_,rfl⟩;rw[hwq]at H ⊢;have hq0:∀ W,Below wq.heap.size wq W→W.cell? ⟨pb,0,none⟩=some (.slice (some ⟨b,off,none⟩) n c):=fun W hb=>(H.call hb).cell .zero 0
    have hq1:∀ W,Below wq.heap.size wq W→W.cell? ⟨pb,1,none⟩=some (.int .i64 (j:Int)):=fun W hb=>(H.call hb).cell .zero 1
    have hqc:∀ W,Below wq.heap.size wq W→∀ k,k<17→W.cell? ⟨b,off+j * 17+k,none⟩=(zBV d)[k]?:=fun W hb=>WKnows.cells ((H.call hb).kn i_1) HDD.out rfl
    clear hwq e0 e1 e2 h0 hf hp0 hp1 hkd hcell;clear x fw hT T
    go_upto_region 3 with fail
    refine zAr 11 [fun v _=>v=pt pb 0,fun v _=>v=pt pb 0,fun v _=>v=pt pb 0,fun v _=>v=.slice (some ⟨b,off,none⟩) n c,fun v _=>v=pt pb 0,fun v _=>v=pt pb 0,fun v _=>v=pt pb 1,fun v _=>v=.int .i64 (j:Int),fun v _=>v=.pointer (some ⟨b,off+j * 17,none⟩),fun v _=>v=zCs d,zGc wq.heap.size (zBV {kind:=0,place:=0}) 226] (fun _=>false) (by kernel_rfl) (by kernel_rfl) (by kernel_rfl) (by repeat (first|exact trivial|refine⟨zAF _,?_⟩|refine⟨zCv _ _ _,?_⟩)) (fun _ _ h=>by cases h) ?ob ?en
    case ob =>
     refine⟨?_,?_,?_,?_,?_,?_,?_,?_,?_,?_,?_,trivial⟩<;>intro A W h
     ·exact zAB rfl rfl (h.f 0)
     ·(have e34:A.eval (.tmp 34)=.pointer (some ⟨pb,0,none⟩):=h.d 0 34;refine zAA rfl ?_;simp only[execOp,e34];simp[go_sem])
     ·(have e35:A.eval (.tmp 35)=.pointer (some ⟨pb,0,none⟩):=h.d 1 35;refine zAA rfl ?_;simp only[execOp,e35];simp[go_sem])
     ·exact zAA rfl (zAC rfl (h.d 2 36) zE5 (hq0 _ h.below)) (by decide)
     ·exact zAB rfl rfl (h.f 0)
     ·(have e38:A.eval (.tmp 38)=.pointer (some ⟨pb,0,none⟩):=h.d 4 38;refine zAA rfl ?_;simp only[execOp,e38];simp[go_sem])
     ·(have e39:A.eval (.tmp 39)=.pointer (some ⟨pb,0,none⟩):=h.d 5 39;refine zAA rfl ?_;simp only[execOp,e39];simp[go_sem])
     ·exact zAA rfl (zAC rfl (h.d 6 40) zAH (hq1 _ h.below)) (by decide)
     ·exact zAo (sz:=17) Tryz.underlying132 (fun w=>by kernel_rfl) rfl rfl (h.d 3 37) (h.d 7 41) (by omega) (by omega)
     ·exact zAA rfl (zAb rfl (h.d 8 42) zBk rfl (hqc _ h.below)) (by decide)
     ·exact zFx rfl rfl (by kernel_rfl) zRw h.below.size (by decide)
    case en =>
     intro vals W hbw hv _;have x10:=hv 10 (by omega);simp only[zAh]at x10
     simp only[fa,Nat.reduceAdd];rw[e_ hv 0,e_ hv 1,e_ hv 2,e_ hv 3,e_ hv 4,e_ hv 5,e_ hv 6,e_ hv 7,e_ hv 8,e_ hv 9];clear hv
     try simp only[pl]
     obtain⟨b7,e7,H7⟩:=H.gainB hbw x10;rw[e7];clear x10 e7 hq0 hq1 hqc H hbw;have H:=H7;clear H7;simp only[ca]at H
     go_upto_region 6 with (first|(first|((with_reducible refine gT ?_);((first|refine aO H ?_|refine aT H ?_);clear H;intro w H;try simp only[nr]at H))|((with_reducible refine gL ?_);refine aG H ?_)))
     have hnx:(∀ b,F b→w0.heap.size≤b):=hF
     by_cases h8:d.kind=8
     ·have d8:((d.kind:Int) == 8)=true:=by rw[beq_iff_eq];omega
      have G2:=Lib.hid (show zAt k (zHE f d) (ws.drop (j+1)) g (xa.map (·.1)) (xi.map (·.1))=some (t,r',g')∧k≤m from ⟨by rw[← zR3 h8,← HD.out];exact G.out.1,by have:=G.out.2;omega⟩)
      have htu:=fun w=>zH0 f d w
      clear h8
      go_wp2_with (first|(first|((with_reducible refine gT ?_);(refine aT H ?_;clear H;intro w H;try simp only[nr]at H))|((with_reducible refine gL ?_);(first|refine aG H ?_|refine aD H ?_)))|((with_reducible refine ch (htu _) H ?_);clear H;intro w H))
      have HC:w.cell? ⟨pb,1,none⟩=some (.int .i64 ((j:Int)+1)):=H.cell .zero 1;go_roundw
      case rel=>(repeat apply Exists.intro);refine⟨?_,rfl⟩;exact⟨j+1,g,k,zHE f d,xa,xi,F,by omega,by omega,by omega,by omega,hF,G2,H.pick [0,1,2,3,4,5,6] _ (by decide) rfl⟩
      case measure=>rw[zDj HM.out,zDj HC];omega
     ·have d8:((d.kind:Int) == 8)=false:=by rw[beq_eq_false_iff_ne];omega
      by_cases h10:d.kind=10
      ·have d10:((d.kind:Int) == 10)=true:=by rw[beq_iff_eq];omega
       have G2:=Lib.hid (show zAt k f (ws.drop (j+1)) g (xa.map (·.1)++[rowT 4 (xi.map (·.1))]) []=some (t,r',g')∧k≤m from ⟨by rw[← zQy h10,← HD.out];exact G.out.1,by have:=G.out.2;omega⟩)
       clear h10 h8 h9;obtain⟨qi,ci,rfl,hqi1,hqi2,_⟩:=H.rowShape (i:=5) i_5;obtain⟨GF,hGF,H2⟩:=H.rowForest (i:=5) (xs:=xi) (K:=F) i_5 rfl (Still.at (i:=6) i_6) (fun x hx=>(H.kn (i:=6) i_6) x (List.mem_append.2 (.inr hx)))
       clear H;have H:=H2;clear H2;simp only[sc]at H;have hGFl:∀ b,GF b→w0.heap.size≤b:=fun b h=>(hGF b h).elim id (hF b)
       clear hGF
       generalize hrt:rowT 4 (xi.map (·.1))=rt at G2
       have hr4:∀ (w:World) (l:List Res),HoldG (·=pb) w0 w l→At l 5 (.kn GF (fun V=>ForestR V GF qi ci (xi.map (·.1))))→Calls Tryz.prog 107 #[.int .i64 4,.slice qi xi.length ci] w fun e w'=>zCP w GF rt e w'∧Below w.heap.size w w':=fun w l h hi=>hrt ▸ zEp 4 qi ci xi.length GF (xi.map (·.1)) w (h.knlt hi) (h.kn hi) (by rw[List.length_map])
       have HRT:=Lib.hid hrt;clear hrt
       go_wp2_with (first|(at_builtin;refine zAX rfl _ _ 85 rfl H evd_ rfl atd_ atd_ Tryz.underlying85 hi0 hz0 hz1 hz2 rfl (by decide) rfl rfl (by unfold maxLen;omega) (by omega) ?_;clear H;intro v2 w H;try simp only[nr]at H)|((with_reducible refine gBS ?_);refine zAL wtd_ _ _ _ rfl H (zAU (rt.d) (.slice q2 rt.kids.length c2)) 87 (by intro W;simp only[ml];(try simp only[pe]);exact zBf _ _ W) ?_;clear H;intro bk w H;try simp only[nr]at H)|((with_reducible refine gL ?_);refine aG H ?_)|(go_at_call 107;(with_reducible refine cht (hr4 _ _ H i_5) H (Still.at (i:=5) i_5) ?_);clear H;intro q2 c2 F2 w hF2 H))
       have hF3:∀ b,(F b∨F2 b)→w0.heap.size≤b:=fun b h=>h.elim (hF b) (fun h=>(hF2 b h).elim id (hGFl b))
       have H2:=(H.rowGrown (i:=4) (k:=6) (k2:=8) (xs:=xa) (ys:=xa++xi) i_4 i_6 i_8 ((xa++[(rt,q2,c2)])++[]) (fun x hx=>by
        rw[List.append_nil]at hx
        exact(List.mem_append.1 hx).imp (fun h=>List.mem_append.2 (.inl h)) List.mem_singleton.1)).addNil 87 10
       have HC:w.cell? ⟨pb,1,none⟩=some (.int .i64 ((j:Int)+1)):=H.cell .zero 1;go_roundw
       case rel=>first|exact⟨j+1,g,k,f,xa++[(rt,q2,c2)],[],(fun b=>F b∨F2 b),by omega,by omega,by (try simp only[List.length_append,List.length_singleton,List.length_nil]);omega,by (try simp only[List.length_append,List.length_singleton,List.length_nil]);omega,hF3,Lib.hid ⟨by (try rw[List.map_append]);exact G2.out.1,G2.out.2⟩,H2.pick [0,1,2,3,4,11,10] _ (by decide) rfl⟩|((repeat apply Exists.intro);refine⟨?_,rfl⟩;exact⟨j+1,g,k,f,xa++[(rt,q2,c2)],[],(fun b=>F b∨F2 b),by omega,by omega,by (try simp only[List.length_append,List.length_singleton,List.length_nil]);omega,by (try simp only[List.length_append,List.length_singleton,List.length_nil]);omega,hF3,Lib.hid ⟨by (try rw[List.map_append]);exact G2.out.1,G2.out.2⟩,H2.pick [0,1,2,3,4,11,10] _ (by decide) rfl⟩)
       case measure=>rw[zDj HM.out,zDj HC];omega
      ·have d10:((d.kind:Int) == 10)=false:=by rw[beq_eq_false_iff_ne];omega
       by_cases h11:d.kind=11
       ·have d11:((d.kind:Int) == 11)=true:=by rw[beq_iff_eq];omega
        obtain⟨ys,x,rfl,hou⟩:=zNw h11 (show zAt (k+1) f (d::ws.drop (j+1)) g (xa.map (·.1)) (xi.map (·.1))=some (t,r',g') by rw[← HD.out];exact G.out.1)
        have G2:=Lib.hid (show zAt k f (ws.drop (j+1)) g (xa.map (·.1)) (ys.map (·.1)++[repT d x.1])=some (t,r',g')∧k≤m from ⟨hou,by have:=G.out.2;omega⟩)
        clear hou h8 h9 h10 h11;obtain⟨qi,ci,rfl,hqi1,hqi2,hqi3⟩:=H.rowShape (i:=5) i_5;obtain⟨gI,rfl⟩:=hqi3 (by simp)
        clear hqi3;have hxg:((ys++[x]).map zAy)[ys.length]?=some (zAy x):=by simp
        have HXG:=Lib.hid hxg;clear hxg;have hyl:((ys++[x]).map zAy).length=ys.length+1:=by simp
        have HYL:=Lib.hid hyl;clear hyl;simp only[List.length_append,List.length_singleton]at H hqi1 hli;unfold maxLen at hqi2
        go_wp2_with (first|((with_reducible refine gL ?_);refine zAS wtd_ _ _ rfl rfl zAR (zAz x) (H.rowCell (i:=5) i_5 (zCH _) HYL.out HXG.out rfl) ?_)|((with_reducible refine gT ?_);refine zFt wtd_ _ _ _ rfl rfl (i:=ys.length) rfl evd_ H (j:=5) i_5 (zCH _) HYL.out (by with_reducible exact zBG zAR) rfl rfl (by omega) ?_;clear H;intro w H;try simp only[nr]at H)|((with_reducible refine gBS ?_);refine zAL wtd_ _ _ _ rfl H (zAU (x.1.d) (.slice x.2.1 x.1.kids.length x.2.2)) 87 (by intro W;simp only[ml];(try simp only[pe]);exact zBf _ _ W) ?_;clear H;intro bk w H;try simp only[nr]at H)|(first|((with_reducible refine gT ?_);(refine aT H ?_;clear H;intro w H;try simp only[nr]at H))|((with_reducible refine gL ?_);(first|refine aG H ?_|refine aD H ?_))|((with_reducible refine gA ?_);(refine bA H ?_;clear H;intro b w H;try simp only[nr]at H))|((with_reducible refine gZ ?_);refine nbR ?_)))
        have e:=zPN (ys:=ys) (x:=x) (x':=((repT d x.1,some ⟨bk,0,none⟩,1):TV)) (c:=zAU {kind:=6,lo:=d.lo,hi:=d.hi,lazy:=d.lazy} (.slice (some ⟨bk,0,none⟩) 1 1)) rfl;rw[e]at H;clear e;have H1:=H.also F (fun V=>ForestR V F x.2.1 x.2.2 x.1.kids) (Still.at (i:=6) i_6) (fun V hV=>((H.kn (i:=6) i_6) x (by simp)).kept hV)
        have hbk:=H.freshB (i:=8) i_8;have H3:=H1.kid (i:=9) (k:=10) i_9 i_10;have hF3:∀ z,((z=bk∨F z)∨F z)→w0.heap.size≤z:=fun z h=>h.elim (fun h=>h.elim (fun e=>e ▸ hbk) (hF z)) (hF z)
        have H2:=H3.also (fun z=>(z=bk∨F z)∨F z) (fun V=>ListR V (fun z=>(z=bk∨F z)∨F z) (xa++(ys++[(repT d x.1,some ⟨bk,0,none⟩,1)]))) ((Still.at (i:=11) (F:=fun z=>z=bk∨F z) (S:=fun V=>ForestR V (fun z=>z=bk∨F z) (some ⟨bk,0,none⟩) 1 [x.1]) i_11).or (Still.at (i:=6) i_6)) (fun V hV y hy=>by
         have hold:∀ y,y ∈ xa++(ys++[x])→ForestR V (fun z=>(z=bk∨F z)∨F z) y.2.1 y.2.2 y.1.kids:=fun y hy=>(((H.kn (i:=6) i_6) y hy).mono (fun _ h=>.inr h)).kept hV
         rcases List.mem_append.1 hy with h|h
         ·exact hold y (List.mem_append.2 (.inl h))
         ·rcases List.mem_append.1 h with h|h
          ·exact hold y (List.mem_append.2 (.inr (List.mem_append.2 (.inl h))))
          ·rw[List.mem_singleton]at h;subst h
           exact(((H3.all 11 _ rfl).2 w (fun _ _=>rfl)).mono (fun _ h=>.inl h)).kept hV)
        have HC:w.cell? ⟨pb,1,none⟩=some (.int .i64 ((j:Int)+1)):=H.cell .zero 1;go_roundw
        case rel=>first|exact⟨j+1,g,k,f,xa,ys++[(repT d x.1,some ⟨bk,0,none⟩,1)],(fun z=>(z=bk∨F z)∨F z),by omega,by omega,by (try simp only[List.length_append,List.length_singleton,List.length_nil]);omega,by (try simp only[List.length_append,List.length_singleton,List.length_nil]);omega,hF3,Lib.hid ⟨by (try rw[List.map_append]);exact G2.out.1,G2.out.2⟩,by rw[show (ys++[((repT d x.1,some ⟨bk,0,none⟩,1):TV)]).length=ys.length+1 from by simp];exact H2.pick [0,1,2,3,4,5,12] _ (by decide) rfl⟩|((repeat apply Exists.intro);refine⟨?_,rfl⟩;exact⟨j+1,g,k,f,xa,ys++[(repT d x.1,some ⟨bk,0,none⟩,1)],(fun z=>(z=bk∨F z)∨F z),by omega,by omega,by (try simp only[List.length_append,List.length_singleton,List.length_nil]);omega,by (try simp only[List.length_append,List.length_singleton,List.length_nil]);omega,hF3,Lib.hid ⟨by (try rw[List.map_append]);exact G2.out.1,G2.out.2⟩,by rw[show (ys++[((repT d x.1,some ⟨bk,0,none⟩,1):TV)]).length=ys.length+1 from by simp];exact H2.pick [0,1,2,3,4,5,12] _ (by decide) rfl⟩)
        case measure=>rw[zDj HM.out,zDj HC];omega
       ·have d11:((d.kind:Int) == 11)=false:=by rw[beq_eq_false_iff_ne];omega
        have hop:=fun w=>zG8 d w
        cases ho:zBF d with
        | true =>
         rw[ho]at hop;obtain⟨t1,d1,r1,g1,hin,hou⟩:=zMr ho (show zAt (k+1) f (d::ws.drop (j+1)) g (xa.map (·.1)) (xi.map (·.1))=some (t,r',g') by rw[← HD.out];exact G.out.1)
         have hfa:=zFX _ _ _ _ _ _ _ _ _ hin;have hsuf:=drop_suffix HN.out (hfa.1.trans (List.drop_suffix _ _));have hl1:r1.length+1≤n - (j+1):=by have:=hfa.1.length_le;rw[List.length_drop,← HN.out]at this;exact this
         have hg1:g1+(r1.length+1)≤(if d.kind=7 then g else g+1)+(n - (j+1)):=by have:=hfa.2;rw[List.length_drop,← HN.out]at this;exact this
         have hgg:(if d.kind=7 then g else g+1)≤g+1:=by split<;>omega
         obtain⟨j',hj'⟩:∃ j',n - (r1.length+1)=j':=⟨_,rfl⟩;have hd1:ws.drop (j'+1)=r1:=by
          have h1:ws.drop j'=d1::r1:=by rw[← hj'];exact hsuf
          rw[← List.drop_drop,h1];rfl
         have hkm:k<m:=by have:=G.out.2;omega
         have hgr:=fun w hP=>zOa pb FW (some ⟨b,off,none⟩) n c ws (j+1) g f d t1 j' g1 w hP (by omega) (by omega) (by omega) (fun w h=>hj' ▸ IH k hkm (j+1) _ _ t1 (d1::r1) g1 w h hin)
         generalize htt:(if d.kind=7 then t1 else zHW (g+1) t1)=tt at hou hgr
         have G2:=Lib.hid (show zAt k f (ws.drop (j'+1)) g1 (xa.map (·.1)) (xi.map (·.1)++[tt])=some (t,r',g')∧k≤m from ⟨by rw[hd1];exact hou,by omega⟩)
         have hb1:j+1≤j':=by omega
         have hb2:j'<n:=by omega
         have hb3:g1≤j':=by omega
         have hpre:∀ (w:World) (l:List Res),HoldG (·=pb) w0 w (.blk pb #[.slice (some ⟨b,off,none⟩) n c,.int .i64 ((j:Int)+1),.int .i64 (g:Int)] 138::.kn FW (WKnows FW (some ⟨b,off,none⟩) n c ws)::l)→AltPre pb 138 FW (some ⟨b,off,none⟩) n c ws (j+1) g w:=fun w l h=>⟨(h.blk .zero).2,h.knlt i_1,HPN.out,h.kn i_1,HOK.out,hlen,hlt,by omega⟩
         clear hin hou hfa hsuf hl1 hg1 hgg hj' hd1 htt IH ho h8 h10 h11 h9
         go_wp2_with (first|(at_builtin;refine zAX rfl _ _ 85 rfl H evd_ rfl atd_ atd_ Tryz.underlying85 hi0 hz0 hz1 hz2 rfl (by decide) rfl rfl (by unfold maxLen;omega) (by omega) ?_;clear H;intro v2 w H;try simp only[nr]at H)|((with_reducible refine gBS ?_);refine zAL wtd_ _ _ _ rfl H (zAU (tt.d) (.slice q2 tt.kids.length m2)) 87 (by intro W;simp only[ml];(try simp only[pe]);exact zBf _ _ W) ?_;clear H;intro bk w H;try simp only[nr]at H)|(first|((with_reducible refine gT ?_);(refine aT H ?_;clear H;intro w H;try simp only[nr]at H))|((with_reducible refine gL ?_);(first|refine aG H ?_|refine aD H ?_))|((with_reducible refine gA ?_);(refine bA H ?_;clear H;intro b w H;try simp only[nr]at H)))|((with_reducible refine ch (hop _) H ?_);clear H;intro w H)|(go_at_call 108;(with_reducible refine chA (hgr _ (hpre _ _ H)) H .zero ?_);clear H;intro q2 m2 F2 w hF2 H;try simp only[nr]at H))
         have H2:=H.rowGrown (i:=5) (k:=6) (k2:=8) (xs:=xi) (ys:=xa++xi) i_5 i_6 i_8 (xa++(xi++[(tt,q2,m2)])) (fun y hy=>by
          rcases List.mem_append.1 hy with h|h
          ·exact .inl (List.mem_append.2 (.inl h))
          ·exact(List.mem_append.1 h).imp (fun h=>List.mem_append.2 (.inr h)) List.mem_singleton.1)
         have hF3:∀ b,(F b∨F2 b)→w0.heap.size≤b:=fun b h=>h.elim (hF b) (hF2 b)
         have HC:w.cell? ⟨pb,1,none⟩=some (.int .i64 ((j':Int)+1)):=H.cell .zero 1;go_roundw
         case rel=>first|exact⟨j'+1,g1,k,f,xa,xi++[(tt,q2,m2)],(fun b=>F b∨F2 b),by omega,by omega,by (try simp only[List.length_append,List.length_singleton,List.length_nil]);omega,by (try simp only[List.length_append,List.length_singleton,List.length_nil]);omega,hF3,Lib.hid ⟨by (try rw[List.map_append]);exact G2.out.1,G2.out.2⟩,H2.pick [0,1,2,3,4,5,11] _ (by decide) rfl⟩|((repeat apply Exists.intro);refine⟨?_,rfl⟩;exact⟨j'+1,g1,k,f,xa,xi++[(tt,q2,m2)],(fun b=>F b∨F2 b),by omega,by omega,by (try simp only[List.length_append,List.length_singleton,List.length_nil]);omega,by (try simp only[List.length_append,List.length_singleton,List.length_nil]);omega,hF3,Lib.hid ⟨by (try rw[List.map_append]);exact G2.out.1,G2.out.2⟩,H2.pick [0,1,2,3,4,5,11] _ (by decide) rfl⟩)
         case measure=>rw[zDj HM.out,zDj HC];omega
        | false =>
         rw[ho]at hop;have h67:d.kind≠6∧d.kind≠7:=by simpa [zBF] using ho
         have G2:=Lib.hid (show zAt k f (ws.drop (j+1)) g (xa.map (·.1)) (xi.map (·.1)++[zFK d f])=some (t,r',g')∧k≤m from ⟨by rw[← zRJ h9 h8 h10 h11 h67.2 h67.1,← HD.out];exact G.out.1,by have:=G.out.2;omega⟩)
         clear h8 h9 h10 h11 h67 ho
         generalize hta:zFK d f=ta at G2
         have hat:∀ w,Calls Tryz.prog 109 #[zCs d,zC0 f] w (Rt (zAc ta.d (.slice none ta.kids.length 0)) w):=fun w=>by
          have:=zPc f d hokd w;rw[← hta,zIF];exact this
         have hk0:ta.kids=[]:=by rw[← hta];exact zIF d f
         have HK:=Lib.hid hk0;clear hk0 hta
         go_wp2_with (first|(at_builtin;refine zAX rfl _ _ 85 rfl H evd_ rfl atd_ atd_ Tryz.underlying85 hi0 hz0 hz1 hz2 rfl (by decide) rfl rfl (by unfold maxLen;omega) (by omega) ?_;clear H;intro v2 w H;try simp only[nr]at H)|((with_reducible refine gBS ?_);refine zAL wtd_ _ _ _ rfl H (zAU (ta.d) (.slice none ta.kids.length 0)) 87 (by intro W;simp only[ml];(try simp only[pe]);exact zBf _ _ W) ?_;clear H;intro bk w H;try simp only[nr]at H)|((with_reducible refine gL ?_);(first|refine aG H ?_|refine aD H ?_))|((with_reducible first|refine ch (hop _) H ?_|refine ch (hat _) H ?_);clear H;intro w H))
         have H1:=H.know (fun _=>False) (fun V=>ForestR V (fun _=>False) none 0 ta.kids) (fun _ h=>h.elim) (fun _ _ _ _ _ h=>h) (fun V _=>by rw[HK.out];exact ForestR.nil _ _ _)
         have H2:=H1.rowGrown (i:=5) (k:=6) (k2:=9) (xs:=xi) (ys:=xa++xi) i_5 i_6 i_9 (xa++(xi++[(ta,none,0)])) (fun y hy=>by
          rcases List.mem_append.1 hy with h|h
          ·exact .inl (List.mem_append.2 (.inl h))
          ·exact(List.mem_append.1 h).imp (fun h=>List.mem_append.2 (.inr h)) List.mem_singleton.1)
         have hF3:∀ b,(F b∨False)→w0.heap.size≤b:=fun b h=>h.elim (hF b) False.elim
         have HC:w.cell? ⟨pb,1,none⟩=some (.int .i64 ((j:Int)+1)):=H.cell .zero 1;go_roundw
         case rel=>first|exact⟨j+1,g,k,f,xa,xi++[(ta,none,0)],(fun b=>F b∨False),by omega,by omega,by (try simp only[List.length_append,List.length_singleton,List.length_nil]);omega,by (try simp only[List.length_append,List.length_singleton,List.length_nil]);omega,hF3,Lib.hid ⟨by (try rw[List.map_append]);exact G2.out.1,G2.out.2⟩,H2.pick [0,1,2,3,4,5,10] _ (by decide) rfl⟩|((repeat apply Exists.intro);refine⟨?_,rfl⟩;exact⟨j+1,g,k,f,xa,xi++[(ta,none,0)],(fun b=>F b∨False),by omega,by omega,by (try simp only[List.length_append,List.length_singleton,List.length_nil]);omega,by (try simp only[List.length_append,List.length_singleton,List.length_nil]);omega,hF3,Lib.hid ⟨by (try rw[List.map_append]);exact G2.out.1,G2.out.2⟩,H2.pick [0,1,2,3,4,5,10] _ (by decide) rfl⟩)
         case measure=>rw[zDj HM.out,zDj HC];omega
  ·have hdj:decide ((j:Int)<(n:Int))=false:=by simp;omega
   have E:=Lib.hid (show some (rowT 5 (xa.map (·.1)++[rowT 4 (xi.map (·.1))]),ws.drop j,g)=some (t,r',g') by
    rw[← G.out.1,show ws.drop j=[] from List.drop_eq_nil_of_le (by rw[← HN.out];omega),zPE])
   go_upto_region 2 with fail
   obtain⟨T,hT,fw,hf,h0⟩:=fam wr;have e0:=fun x=>hp0 _ (hf x)
   have e1:=fun x=>hp1 _ (hf x)
   refine zCW fw (by kernel_rfl) (by kernel_rfl) h0 ?_
   repeat (go_big_quiet_step (fail))
   refine wpQuiet_nil ?_
   rintro _ ⟨x,rfl⟩;replace H:=H.call (hf x);obtain⟨wq,hwq⟩:∃ wq,fw x=wq:=⟨_,rfl⟩;rw[hwq]at H ⊢;clear hwq e0 e1 h0 hf hp0 hp1;clear x fw hT T;obtain⟨qi,ci,rfl,hqi1,hqi2,_⟩:=H.rowShape (i:=5) i_5;obtain⟨GF,hGF,H2⟩:=H.rowForest (i:=5) (xs:=xi) (K:=F) i_5 rfl (Still.at (i:=6) i_6) (fun x hx=>(H.kn (i:=6) i_6) x (List.mem_append.2 (.inr hx)))
   clear H;have H:=H2;clear H2;simp only[sc]at H;have hGFl:∀ b,GF b→w0.heap.size≤b:=fun b h=>(hGF b h).elim id (hF b)
   clear hGF
   generalize hrt:rowT 4 (xi.map (·.1))=rt at E
   have hr4:∀ (w:World) (l:List Res),HoldG (·=pb) w0 w l→At l 5 (.kn GF (fun V=>ForestR V GF qi ci (xi.map (·.1))))→Calls Tryz.prog 107 #[.int .i64 4,.slice qi xi.length ci] w fun e w'=>zCP w GF rt e w'∧Below w.heap.size w w':=fun w l h hi=>hrt ▸ zEp 4 qi ci xi.length GF (xi.map (·.1)) w (h.knlt hi) (h.kn hi) (by rw[List.length_map])
   have HRT:=Lib.hid hrt;clear hrt;simp only[Option.some.injEq,Prod.mk.injEq]at E;obtain⟨ht5,hr5',rfl⟩:=E;have hjr:n - r'.length=j:=by rw[← hr5',List.length_drop,← HN.out];omega
   have hr5:∀ (w:World) (l:List Res) (qa:Option Addr) (ca:Nat) (G3:Nat→Prop),HoldG (·=pb) w0 w l→At l 4 (.kn G3 (fun V=>ForestR V G3 qa ca (xa.map (·.1)++[rt])))→Calls Tryz.prog 107 #[.int .i64 5,.slice qa (xa.length+1) ca] w fun e w'=>zCP w G3 t e w'∧Below w.heap.size w w':=fun w l qa ca G3 h hi=>ht5 ▸ zEp 5 qa ca (xa.length+1) G3 (xa.map (·.1)++[rt]) w (h.knlt hi) (h.kn hi) (by rw[List.length_append,List.length_map];rfl)
   have HJR:=Lib.hid hjr;clear hjr hr5' ht5 hli
   go_wp2_with (first|(at_builtin;refine zAX rfl _ _ 85 rfl H evd_ rfl atd_ atd_ Tryz.underlying85 hi0 hz0 hz1 hz2 rfl (by decide) rfl rfl (by unfold maxLen;omega) (by omega) ?_;clear H;intro v2 w H;try simp only[nr]at H)|((with_reducible refine gBS ?_);refine zAL wtd_ _ _ _ rfl H (zAU (rt.d) (.slice q2 rt.kids.length c2)) 87 (by intro W;simp only[ml];(try simp only[pe]);exact zBf _ _ W) ?_;clear H;intro bk w H;try simp only[nr]at H)|((with_reducible refine gT ?_);(refine aT H ?_;clear H;intro w H;try simp only[nr]at H))|(go_at_call 107;(with_reducible refine cht (hr4 _ _ H i_5) H (Still.at (i:=5) i_5) ?_);clear H;intro q2 c2 F2 w hF2 H)|(go_at_call 107;(obtain⟨qa,ca,G3,rfl,hG3,H3⟩:=H.rowForest1 (i:=4) (k:=6) (k2:=7) (xs:=xa) (ys:=xa++xi) i_4 i_6 (fun x hx=>List.mem_append.2 (.inl hx)) i_7);clear H;(have H:=H3);clear H3;(simp only[sc]at H);(with_reducible refine cht (hr5 _ _ _ _ _ H i_4) H (Still.at (i:=4) i_4) ?_);clear H;intro q5 c5 F5 w hF5 H;try simp only[nr]at H))
   (refine xc Tryz.results64 H ?_)
   have hG3l:∀ b,G3 b→w0.heap.size≤b:=fun b h=>(hG3 b h).elim id (fun h=>h.elim (hF b) (fun h=>(hF2 b h).elim id (hGFl b)))
   rw[HJR.out];exact⟨H.keep,(H.blk .zero).2,q5,c5,F5,rfl,(H.all 9 _ rfl).2 _ (fun _ _=>rfl),fun b h=>⟨(H.all 9 _ rfl).1 b h,.inl ((hF5 b h).elim id (hG3l b))⟩⟩
end
section
open Go.RowKit
theorem zHr {L:Str}:∀ (f k:Nat) (first:Bool) (S:Nat→Nat) (T:Nat→Nat) (e:Nat),zAW S→zBD L f k first S=some (T,e)→zAW T
 | 0,_,_,_,_,_,_,h=>by simp[zBD]at h
 | f+1,k,first,S,T,e,hS,h=>by
  unfold zBD at h;split at h
  ·cases h;exact hS
  ·split at h
   ·cases h
   ·rename_i t e1 hi;exact zHr f e1 false _ T e (zBd (ok2 hS (zEy hi).2.2)) h
theorem zNq {L:Str} {i:Nat} {d:WordD} {e:Nat} (h:zB4 L i=some (d,e)):zAW d.set:=by
 unfold zB4 at h;obtain⟨⟨S,e1⟩,h1,h2⟩:=Option.map_eq_some_iff.1 h
 cases h2
 exact zHr _ _ _ _ _ _ zAa h1
theorem zHD {L:Str}:∀ (f k:Nat) (off opn:Bool) (w d:WordD) (e:Nat),zAV L f k off opn w=some (d,e)→d.set=w.set
 | 0,_,_,_,_,_,_,h=>by simp[zAV]at h
 | f+1,k,off,opn,w,d,e,h=>by
  unfold zAV at h;have IH:=fun k off opn w=>zHD (L:=L) f k off opn w d e
  dsimp only at h
  split at h
  ·split at h
   ·rw[IH _ _ _ _ h];split<;>rfl
   split at h
   ·rw[IH _ _ _ _ h];split<;>rfl
   split at h
   ·rw[IH _ _ _ _ h];split<;>rfl
   split at h
   ·split at h
    ·cases h
    ·exact IH _ _ _ _ h
   split at h
   ·split at h
    ·cases h;rfl
    ·cases h
   split at h
   ·split at h
    ·cases h;rfl
    ·cases h
   ·cases h
  ·cases h
theorem zNJ {L:Str} {i:Nat} {d:WordD} {e:Nat} (h:zCT L i=some (d,e)):zAW d.set:=by
 unfold zCT at h;split at h
 ·rename_i s hs
  cases h
  split at hs
  ·exact zLD hs
  ·cases hs
 ·split at h
  ·cases h;exact zAa
  ·obtain⟨⟨b,e1⟩,h1,h2⟩:=Option.map_eq_some_iff.1 h
   cases h2;exact zB3 _
theorem zEs {L:Str} {i:Nat} {lo hi:Int} {k e:Nat} {d:WordD} (h:zA5 L i lo hi k=.ok (d,e)):zAW d.set:=by
 unfold zA5 at h;split at h
 ·cases h
 ·split at h<;>(cases h;exact zAa)
theorem zGY {α:Type} {o:Option α} {a:α} (h:zHo o=.ok a):o=some a:=by cases o<;>simp[zHo]at h ⊢;exact h
theorem zNx {L:Str} {i:Nat} {d:WordD} {e:Nat} (h:zBK L i=.ok (d,e)):zAW d.set:=by
 unfold zBK at h
 dsimp only at h
 split at h
 ·exact zNJ (zGY h)
 split at h
 ·exact zNq (zGY h)
 split at h
 ·split at h
  ·have h:=zGY h;unfold zBx at h;rw[zHD _ _ _ _ _ _ _ h];exact zAa
  ·cases h;exact zAa
 split at h
 ·split at h
  ·exact zEs h
  ·cases h;exact zB3 _
 split at h
 ·exact zEs h
 split at h
 ·exact zEs h
 split at h
 ·exact zEs h
 split at h
 ·cases h;exact zAa
 ·cases h;exact zB3 _
theorem zFN {L:Str}:∀ (f i:Nat) (ws:List WordD),zBR L f i=.ok ws→∀ d ∈ ws,zAW d.set
 | 0,i,ws,h=>by
  unfold zBR at h;split at h
  ·cases h
  ·cases h;intro d hd;cases hd
 | f+1,i,ws,h=>by
  unfold zBR at h;split at h
  ·split at h
   ·cases h
   ·rename_i w j hw;split at h
    ·cases h
    ·rename_i l hl
     cases h
     intro d hd;rcases List.mem_cons.1 hd with rfl|hd
     ·exact zNx hw
     ·exact zFN f j l hl d hd
  ·cases h;intro d hd;cases hd
theorem zFA {L:Str}:∀ (f i:Nat) (ws:List WordD),zBR L f i=.ok ws→ws.length≤f
 | 0,i,ws,h=>by
  unfold zBR at h;split at h
  ·cases h
  ·cases h;simp
 | f+1,i,ws,h=>by
  unfold zBR at h;split at h
  ·split at h
   ·cases h
   ·rename_i w j hw;split at h
    ·cases h
    ·rename_i l hl
     cases h
     have:=zFA f j l hl;simp;omega
  ·cases h;simp
theorem zFr (k:Int) (ts:List Tree):zAT (rowT k ts)≤1+zAK ts:=by
 unfold rowT;split
 ·simp[zB6,zAT,zAK]
 ·simp[zAK]
 ·simp[zAT]
theorem zOS (d:WordD) (f:zBB):zAT (zFK d f)=1:=by
 have:(zFK d f).kids=[]:=by
  unfold zFK setT spotT zB6
  repeat' split
  all_goals first|rfl|(dsimp only;repeat' split)<;>rfl
 rw[zG4,this];rfl
theorem zH2:∀ (m:Nat) (f:zBB) (r:List WordD) (g:Nat) (all items:List Tree) (t:Tree) (r':List WordD) (g':Nat),zAt m f r g all items=some (t,r',g')→zAT t+3 * r'.length≤3 * r.length+zAK all+zAK items+2
 | 0,f,r,g,all,items,t,r',g',h=>by simp[zAt]at h
 | m+1,f,[],g,all,items,t,r',g',h=>by
  simp only[zAt,Option.some.injEq,Prod.mk.injEq]at h;obtain⟨rfl,rfl,rfl⟩:=h;have a:=zFr 5 (all++[rowT 4 items]);have b:=zFr 4 items;rw[zAe,zBT]at a;simp only[List.length_nil];omega
 | m+1,f,w::r,g,all,items,t,r',g',h=>by
  have IH:=zH2 m;unfold zAt at h;split at h
  ·simp only[Option.some.injEq,Prod.mk.injEq]at h;obtain⟨rfl,rfl,rfl⟩:=h;have a:=zFr 5 (all++[rowT 4 items]);have b:=zFr 4 items;rw[zAe,zBT]at a;simp only[List.length_cons];omega
  split at h
  ·have:=IH _ _ _ _ _ _ _ _ h;simp only[List.length_cons];omega
  split at h
  ·have a:=IH _ _ _ _ _ _ _ _ h;have b:=zFr 4 items;rw[zAe,zBT]at a;simp only[List.length_cons,zAK]at *;omega
  split at h
  ·split at h
   ·cases h
   ·rename_i last hl;have a:=IH _ _ _ _ _ _ _ _ h;rcases List.eq_nil_or_concat items with rfl|⟨ys,y,rfl⟩
    ·simp at hl
    ·simp at hl;subst hl;simp only[List.concat_eq_append,List.dropLast_concat,zAe,zBT]at *;have:zAT (repT w y)=1+zAT y:=by simp[repT,zAT,zAK]
     simp only[List.length_cons];omega
  split at h
  ·split at h
   ·rename_i t1 d1 r1 g1 h1;have a:=IH _ _ _ _ _ _ _ _ h1;have b:=IH _ _ _ _ _ _ _ _ h;rw[zAe,zBT]at b;simp only[List.length_cons,zAK]at *;omega
   ·cases h
  split at h
  ·split at h
   ·rename_i t1 d1 r1 g1 h1;have a:=IH _ _ _ _ _ _ _ _ h1;have b:=IH _ _ _ _ _ _ _ _ h;rw[zAe,zBT]at b;have:zAT (zHW (g+1) t1)=1+zAT t1:=by simp[zHW,zAT,zAK]
    simp only[List.length_cons,zAK]at *;omega
   ·cases h
  ·have a:=IH _ _ _ _ _ _ _ _ h;rw[zAe,zBT,zOS]at a;simp only[List.length_cons];omega
theorem zHw:∀ (m:Nat) (f:zBB) (r:List WordD) (g:Nat) (all items:List Tree) (t:Tree) (r':List WordD) (g':Nat),zAt m f r g all items=some (t,r',g')→r'.length≤r.length
 | 0,f,r,g,all,items,t,r',g',h=>by simp[zAt]at h
 | m+1,f,[],g,all,items,t,r',g',h=>by
  simp only[zAt,Option.some.injEq,Prod.mk.injEq]at h;obtain⟨_,rfl,rfl⟩:=h;exact Nat.le_refl _
 | m+1,f,w::r,g,all,items,t,r',g',h=>by
  have IH:=zHw m;unfold zAt at h;simp only[List.length_cons];split at h
  ·simp only[Option.some.injEq,Prod.mk.injEq]at h;obtain⟨_,rfl,rfl⟩:=h;simp
  split at h
  ·have:=IH _ _ _ _ _ _ _ _ h;omega
  split at h
  ·have:=IH _ _ _ _ _ _ _ _ h;omega
  split at h
  ·split at h
   ·cases h
   ·have:=IH _ _ _ _ _ _ _ _ h;omega
  split at h
  ·split at h
   ·rename_i h1;have:=IH _ _ _ _ _ _ _ _ h1;have:=IH _ _ _ _ _ _ _ _ h;simp only[List.length_cons]at *;omega
   ·cases h
  split at h
  ·split at h
   ·rename_i h1;have:=IH _ _ _ _ _ _ _ _ h1;have:=IH _ _ _ _ _ _ _ _ h;simp only[List.length_cons]at *;omega
   ·cases h
  ·have:=IH _ _ _ _ _ _ _ _ h;omega
theorem zJR:∀ (m:Nat) (r:List WordD) (bare:Bool) (op:List Nat) (f:zBB) (g:Nat) (all items:List Tree),r.length<m→zBJ bare op r=none→(bare=false→items≠[]) →
  ∃ t r' g',zAt m f r g all items=some (t,r',g')∧((op=[]∧r'=[])∨(op≠[]∧∃ d r2,r'=d::r2∧zBJ false op.dropLast r2=none))
 | 0,r,_,_,_,_,_,_,h,_,_=>by omega
 | m+1,[],bare,op,f,g,all,items,_,hw,_=>by
  refine⟨_,_,_,by simp only[zAt];rfl,.inl ⟨?_,rfl⟩⟩
  simpa [zBJ] using hw
 | m+1,w::r,bare,op,f,g,all,items,hm,hw,hi=>by
  have IH:=zJR m;simp only[List.length_cons]at hm;unfold zBJ at hw;split at hw
  ·cases hw
  rename_i hc
  dsimp only at hw
  unfold zAt
  by_cases h9:w.kind=9
  ·rw[if_pos h9];have ho:zBF w=false:=by simp[zBF,h9]
   refine⟨_,_,_,rfl,.inr ⟨fun e=>hc (.inr ⟨h9,e⟩),w,r,rfl,?_⟩⟩
   simpa [ho,h9] using hw
  rw[if_neg h9];rw[if_neg h9]at hw
  by_cases h8:w.kind=8
  ·rw[if_pos h8];have ho:zBF w=false:=by simp[zBF,h8]
   refine IH r true op _ g all items (by omega) (by simpa [ho,h8] using hw) (fun h=>by cases h)
  rw[if_neg h8]
  by_cases h10:w.kind=10
  ·rw[if_pos h10];have ho:zBF w=false:=by simp[zBF,h10]
   exact IH r true op _ g _ [] (by omega) (by simpa [ho,h10] using hw) (fun h=>by cases h)
  rw[if_neg h10]
  by_cases h11:w.kind=11
  ·rw[if_pos h11];have ho:zBF w=false:=by simp[zBF,h11]
   have hb:bare=false:=by
    cases bare with
    | false=>rfl
    | true=>exact(hc (.inl ⟨h11,rfl⟩)).elim
   have hne:=hi hb;rw[List.getLast?_eq_some_getLast hne];exact IH r true op _ g _ _ (by omega) (by simpa [ho,h11] using hw) (fun h=>by cases h)
  rw[if_neg h11];have inner:∀ (f':zBB) (g1:Nat),zBF w=true→∃ t1 d1 r1 g2,zAt m f' r g1 [] []=some (t1,d1::r1,g2)∧zBJ false op r1=none∧r1.length<m:=fun f' g1 ho=>by
   obtain⟨t1,r',g2,h1,h2⟩:=IH r true (op++[w.place]) f' g1 [] [] (by omega) (by simpa [ho] using hw) (fun h=>by cases h)
   rcases h2 with ⟨h2,_⟩|⟨_,d1,r1,rfl,h3⟩
   ·simp at h2
   ·refine⟨t1,d1,r1,g2,h1,by simpa using h3,?_⟩
    have:=zHw _ _ _ _ _ _ _ _ _ h1;simp only[List.length_cons]at this;omega
  by_cases h7:w.kind=7
  ·rw[if_pos h7];obtain⟨t1,d1,r1,g2,h1,h2,h3⟩:=inner (zHE f w) g (by simp[zBF,h7])
   rw[h1];exact IH r1 false op f g2 all _ h3 h2 (fun _=>by simp)
  rw[if_neg h7]
  by_cases h6:w.kind=6
  ·rw[if_pos h6];obtain⟨t1,d1,r1,g2,h1,h2,h3⟩:=inner f (g+1) (by simp[zBF,h6])
   rw[h1];exact IH r1 false op f g2 all _ h3 h2 (fun _=>by simp)
  rw[if_neg h6];have ho:zBF w=false:=by simp[zBF,h6,h7]
  have e8:(w.kind == 8)=false:=by simpa using h8
  have e10:(w.kind == 10)=false:=by simpa using h10
  have e11:(w.kind == 11)=false:=by simpa using h11
  exact IH r false op f g all _ (by omega) (by simpa [ho,e8,e10,e11] using hw) (fun _=>by simp)
theorem zMK {ws:List WordD} (f:zBB) (h:zDb ws=none):∃ t g,zAt (ws.length+1) f ws 0 [] []=some (t,[],g):=by
 obtain⟨t,r',g,h1,h2⟩:=zJR (ws.length+1) ws true [] f 0 [] [] (by omega) h (fun h=>by cases h)
 rcases h2 with ⟨_,rfl⟩|⟨h,_⟩
 ·exact⟨t,g,h1⟩
 ·exact(h rfl).elim
end
end Go.Proofs.YtdoflhjhaciepaaGreat
