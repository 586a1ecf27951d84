/-
  Laws of walks, and walks.
-/
import Derived.Test.YtphjgfjbiimkjaaGreatEc10
import Derived.Test.YtphjgfjbiimkjaaGreatEc3
import Derived.Test.YtphjgfjbiimkjaaGreatEc2
import Derived.Test.YtphjgfjbiimkjaaGreatEc7
import Derived.MapKept
set_option linter.unusedVariables false
set_option linter.unusedSimpArgs false
set_option maxRecDepth 100000
set_option maxHeartbeats 16000000
namespace Go.Proofs.YtphjgfjbiimkjaaGreat
section
open Go.RowKit Go.Shelf
attribute [local go_sem] Oper.semAt_some
section
variable {p:List InstD} {s:Str}
theorem zH5 (i:Nat):∀ (a:List Way) (e:Way) (m:List Int),zBS p s i (a++[e]) m=((zAa p s i (zBv p) [e] (zBS p s i a m).1).1,(zBS p s i a m).2++(zAa p s i (zBv p) [e] (zBS p s i a m).1).2)
 | [],e,m=>by simp[zBS]
 | x::a,e,m=>by
  simp only[List.cons_append,zBS];rw[zH5 i a e];simp
theorem zBp (i:Nat):∀ (n:Nat) (l:List Way) (m:List Int),∀ e ∈ (zAa p s i n l m).2,(atI p e.1).kind=1\/(atI p e.1).kind=5
 | 0,_,_=>fun _ h=>by cases h
 | _+1,[],_=>fun _ h=>by cases h
 | n+1,(k,sl)::r,m=>by
  simp only[zAa];split
  ·exact zBp i n r m
  split
  ·exact zBp i n _ _
  split
  ·exact zBp i n _ _
  split
  ·split
   ·exact zBp i n _ _
   ·exact zBp i n _ _
  split
  ·rename_i h;intro e he;rcases List.mem_cons.1 he with rfl|he
   ·exact h
   ·exact zBp i n _ _ e he
  ·exact zBp i n _ _
theorem zIm (i:Nat):∀ (l:List Way) (m:List Int),∀ e ∈ (zBS p s i l m).2,(atI p e.1).kind=1\/(atI p e.1).kind=5
 | [],_=>fun _ h=>by cases h
 | x::r,m=>fun e he=>by
  simp only[zBS]at he;exact(List.mem_append.1 he).elim (zBp i _ _ _ e) (zIm i r _ e)
end
theorem ItInv.start {ps:List InstD} {L:Str} {i:Nat} {e:WV} {m0:List Int} {ys0 us0:List WV} {ms:Nat} (hlen:m0.length=ps.length) (he:e.1<ps.length/\∃ u ∈ us0,e.2=u.2) (hg:∀ y ∈ ys0,∃ u ∈ us0,y.2=u.2) (hs:∀ u ∈ us0,u.2.1.length=ms) (hr:ys0.length+unm i m0<=ps.length) :
  ItInv ps L i (plW e) m0 ys0 ms [e] ys0 us0 m0 (zBv ps):=by
 refine⟨⟨[],by simp,by simp⟩,?_,Nat.le_refl _,hlen,fun x hx=>by rw[List.mem_singleton]at hx;subst hx;exact he,hg,hs,hr⟩
 have:=zNM i m0;simp only[List.length_cons,List.length_nil,zBv];omega
section
variable {M:Nat->Prop} {w0 w w':World} {l:List Res}
theorem WK.app {us ux:List WV} {V:World} (h1:WK us V) (h2:WK ux V):WK (us++ux) V:=by
 intro x hx;rcases List.mem_append.1 hx with hx|hx
 ·exact⟨(h1 x hx).1.mono (fun b ⟨y,hy,o,e⟩=>⟨y,List.mem_append_left _ hy,o,e⟩),(h1 x hx).2⟩
 ·exact⟨(h2 x hx).1.mono (fun b ⟨y,hy,o,e⟩=>⟨y,List.mem_append_right _ hy,o,e⟩),(h2 x hx).2⟩
theorem FW.app {us ux:List WV} {b:Nat} (h:FW (us++ux) b):FW us b\/FW ux b:=by
 obtain⟨x,hx,o,e⟩:=h;exact(List.mem_append.1 hx).imp (fun hx=>⟨x,hx,o,e⟩) (fun hx=>⟨x,hx,o,e⟩)
theorem HoldG.knApp (H:HoldG M w0 w l) {i j:Nat} {us ux:List WV} (hi:At l i (.kn (FW us) (WK us))) (hj:At l j (.kn (FW ux) (WK ux))):HoldG M w0 w (l.set i (.kn (FW (us++ux)) (WK (us++ux)))):=by
 have hil:i<l.length:=(List.getElem?_eq_some_iff.1 hi.get).1;have H1:=H.knBoth hi hj;have H2:=H1.knTo (i:=i) (F:=fun b=>FW us b\/FW ux b) (S:=fun V=>WK us V/\WK ux V) (G:=FW (us++ux)) (T:=WK (us++ux)) (At.of_get (by rw[List.getElem?_set,if_pos rfl,if_pos hil])) (fun b hb=>hb.app) (fun h=>h.1.app h.2) (fun V h hV=>h.kept hV)
 rwa [List.set_set]at H2
theorem zOA {P:Program} {ops:Array Oper} {rest:List Oper} {o:Oper} {a:Act} {Q:Exit->Act->World->Prop} (hg:Region.wanted o (yielded ops a.tmps)=true) (T:TypeId) (x:Operand) (ho:o.op=.box T x) {v:Value} (hx:a.eval x=v) (H:HoldG M w0 w l)
  (h:∀ b w',w.heap.size<=b->HoldG M w0 w' (l++[.blk b v.cells T])->wpList P ops Q rest (a.put o.dst (.pointer (some ⟨b,0,none⟩))) w'):wpList P ops Q (o::rest) a w :=
 zAu hg fun _ hK=>by
  unfold Oper.wp execOp;simp[ho,hx,Instr.box,newVar,newRow];exact hK _ _ (h _ _ (Nat.le_refl _) (H.alloc _ T))
theorem HoldG.markD (H:HoldG M w0 w l) (hl:∀ r ∈ l,∀ b es c,r≠.mp b es c) {i D:Nat} {Ds:List Nat} (hi:At l i (.kn (· ∈ Ds) (zDa Ds))) (hD:w.heap[D]?=some (.deferred (some []))) :
  HoldG M w0 w (l.set i (.kn (· ∈ D::Ds) (zDa (D::Ds)))):=by
 have hil:i<l.length:=(List.getElem?_eq_some_iff.1 hi.get).1;have H1:=H.knowObj hl hD rfl;have H2:=H1.knBoth (i:=i) (j:=l.length) (F:=(· ∈ Ds)) (S:=zDa Ds) (G:=(·=D)) (T:=fun V=>V.heap[D]?=some (.deferred (some []))) (At.of_get (by rw[List.getElem?_append_left hil];exact hi.get)) (At.of_get (by rw[List.getElem?_append_right (Nat.le_refl _)];simp))
 have H3:=H2.knTo (i:=i) (F:=fun b=>b ∈ Ds\/b=D) (S:=fun V=>zDa Ds V/\V.heap[D]?=some (.deferred (some []))) (G:=(· ∈ D::Ds)) (T:=zDa (D::Ds)) (At.of_get (by rw[List.getElem?_set,if_pos rfl,if_pos (by simp;omega)])) (fun b hb=>(List.mem_cons.1 hb).elim (fun h=>.inr h) .inl) (fun h D' h'=>(List.mem_cons.1 h').elim (fun e=>by rw[e];exact h.2) (h.1 D')) (fun V h hV D' h'=>(hV D' h').trans (h D' h'))
 have H4:=H3.take l.length
 rwa [List.set_set,List.take_set,List.take_left]at H4
end
def zH6 (mb bA bS bM bI:Nat) (e:WV) (i:Nat):List Res :=
 [.blk bM #[.pointer (some ⟨mb,0,none⟩)] 189,.blk bA #[.int .i64 e.1] 3,.blk bI #[.int .i64 i] 3,.blk bS #[.slice e.2.2.1 e.2.1.length e.2.2.2] 55]
theorem zOU (mb:Nat) (e:WV) (i:Nat) (w0:World) :
  Calls Tryz.prog 152 #[.pointer (some ⟨mb,0,none⟩),.int .i64 e.1,.int .i64 i,.slice e.2.2.1 e.2.1.length e.2.2.2] w0 fun r w'=>∃ bA bS bM bI,r=.returned (.func (.func 168) #[] #[.pointer (some ⟨bA,0,none⟩),.pointer (some ⟨bS,0,none⟩),.pointer (some ⟨bM,0,none⟩),.pointer (some ⟨bI,0,none⟩)])/\Hold w0 w' (zH6 mb bA bS bM bI e i):=by
 have H:=Hold.start w0
 go_enter Tryz.func152,Tryz.ntmps152
 go_wp2_with (first|((with_reducible refine kg 4 ?_);(first|refine kA 4 H ?_|refine kS 4 H ?_|refine kB 4 H ?_);clear H;intro b4 w H;try simp only[nr]at H)|((with_reducible refine kg 5 ?_);(first|refine kA 5 H ?_|refine kS 5 H ?_|refine kB 5 H ?_);clear H;intro b5 w H;try simp only[nr]at H)|((with_reducible refine kg 6 ?_);(first|refine kA 6 H ?_|refine kS 6 H ?_|refine kB 6 H ?_);clear H;intro b6 w H;try simp only[nr]at H)|((with_reducible refine kg 7 ?_);(first|refine kA 7 H ?_|refine kS 7 H ?_|refine kB 7 H ?_);clear H;intro b7 w H;try simp only[nr]at H)|fail)
 go_ret;exact⟨_,_,_,_,rfl,H⟩
theorem Stay.exV {α:Type} {B:Nat} {I:α->World->Prop} (h:∀ x,Stay B (I x)):Stay B (fun W=>∃ x,I x W):=fun W W' row ⟨x,hx⟩ hg hr=>⟨x,h x W W' row hx hg hr⟩
theorem Stay.andV {B:Nat} {p:Prop} {I:World->Prop} (h:Stay B I):Stay B (fun W=>p/\I W):=fun W W' row ⟨h1,h2⟩ hg hr=>⟨h1,h W W' row h2 hg hr⟩
theorem Stay.ofOk {B:Nat} {p:Prop} {I:World->Prop} (h:p->Stay B I):Stay B (fun W=>p/\I W):=fun W W' row ⟨h1,h2⟩ hg hr=>⟨h1,h h1 W W' row h2 hg hr⟩
theorem zQS (t:Array Value) (h:t.size=40):∃ x0 x1 x2 x3 x4 x5 x6 x7 x8 x9 x10 x11 x12 x13 x14 x15 x16 x17 x18 x19 x20 x21 x22 x23 x24 x25 x26 x27 x28 x29 x30 x31 x32 x33 x34 x35 x36 x37 x38 x39:Value,t=List.toArray (x0::x1::x2::x3::x4::x5::x6::x7::x8::x9::x10::x11::x12::x13::x14::x15::x16::x17::x18::x19::x20::x21::x22::x23::x24::x25::x26::x27::x28::x29::x30::x31::x32::x33::x34::x35::x36::x37::x38::x39::[]):=by
 rw[zLX t 40 h];exact⟨_,_,_,_,_,_,_,_,_,_,_,_,_,_,_,_,_,_,_,_,_,_,_,_,_,_,_,_,_,_,_,_,_,_,_,_,_,_,_,_,rfl⟩
def zB4 (mb gm mc:Nat) (pp:Option Addr) (cp:Nat) (ps:List InstD) (psl:Option Addr) (csl:Nat) (L:Str) (Fp Fs:Nat->Prop) (lv:Value) (zs:List WV) (nv:Value) (ys us:List WV) (marks:List Int):List Res :=
 [.blk mb #[lv,.slice (some ⟨gm,0,none⟩) ps.length mc,.slice pp ps.length cp,.slice psl L.length csl,nv] 194,.row (.slice (some ⟨gm,0,none⟩) ps.length mc) 3 1 ps.length (marks.map (.int .i64)),.row nv 197 2 ys.length (zAW (ys.map wayC)),
  .kn Fp (InstsR Fp pp cp ps),.kn Fs (BytesR Fs psl csl L),.kn (FW us) (WK us),.row lv 197 2 zs.length (zAW (zs.map wayC))]
def zQs (mb gm mc:Nat) (pp:Option Addr) (cp:Nat) (ps:List InstD) (psl:Option Addr) (csl:Nat) (L:Str) (Fp Fs:Nat->Prop) (lq:Option Addr) (lc:Nat) (xs us:List WV) (m0:List Int) (ms i:Nat) (w0 w:World) (e:Ending) (w':World):Prop :=
 ∃ nq nc ys us' marks',zBS ps L i (xs.map plW) m0=(marks',ys.map plW)/\(∀ y ∈ ys,∃ u ∈ us',y.2=u.2)/\(∀ u ∈ us',u.2.1.length=ms)/\ys.length<=ps.length/\e=.returned (.tuple #[]) /\
  Turned (fun _=>False) w0 w (zB4 mb gm mc pp cp ps psl csl L Fp Fs (.slice lq xs.length lc) xs (.slice none 0 0) [] us m0) (zB4 mb gm mc pp cp ps psl csl L Fp Fs (.slice lq 0 lc) [] (.slice nq ys.length nc) ys us' marks') w'
def zPn (mb b2 gm mc:Nat) (pp:Option Addr) (cp:Nat) (ps:List InstD) (psl:Option Addr) (csl:Nat) (L:Str) (Fp Fs:Nat->Prop) (lq:Option Addr) (lc:Nat) (xs ux:List WV) (m0:List Int) (ms i B:Nat) (w0:World) (rF:Nat->Prop) (rS:World->Prop) (j:Nat) (Ds:List Nat) (w:World):Prop :=
 ∃ nq nc ys us marks,Hid (zBS ps L i ((xs.take j).map plW) m0=(marks,ys.map plW)/\(∀ y ∈ ys,∃ u ∈ us,y.2=u.2)/\(∀ u ∈ us,u.2.1.length=ms)/\marks.length=ps.length/\ys.length+unm i marks<=ps.length/\(∀ b,FW us b->FW ux b\/B<=b)/\Ds.Nodup/\(∀ D ∈ Ds,B<=D)) /\
  Hold w0 w (memL mb (.slice lq xs.length lc) gm mc pp cp ps psl csl L Fp Fs nq nc ys us marks++[.row (.slice lq xs.length lc) 197 2 xs.length (zAW (xs.map wayC)),.blk b2 #[.pointer (some ⟨mb,0,none⟩)] 189,.kn (FW ux) (WK ux),.kn rF rS,.kn (· ∈ Ds) (zDa Ds)])
theorem zNi {P:Program} {fn:Func} {tmps:Array Value} {w:World} (h:fn.results=#[]):(results fn tmps).run P w=.ok (.tuple #[]) w:=by simp[results,h]
def tmpN (t:Array Value) (k:Nat):Nat:=match t[k]? with|some v=>(intOf v).toNat|none=>0
theorem zO1 {n j:Nat} (h:j<n):n - (((j+1:Nat):Int)).toNat<n - ((j:Nat):Int).toNat:=by omega
theorem zJV {n j:Nat} (h:j<n) (hn:n<=1000000):wrap64 ((j:Int)+1)=((j+1:Nat):Int):=by unfold wrap64;omega
theorem zJQ (t:Array Value) (k:Nat) (z:Int) (h:t[k]?=some (.int .i64 z)):tmpN t k=z.toNat:=by unfold tmpN;rw[h];rfl
theorem zPk (mb gm mc:Nat) (pp:Option Addr) (cp:Nat) (ps:List InstD) (psl:Option Addr) (csl:Nat) (L:Str) (Fp Fs:Nat->Prop) (lq:Option Addr) (lc:Nat) (xs ux:List WV) (m0:List Int) (ms i:Nat) (w0 wS:World)
  (hR:zAq ps=true) (hset:∀ x ∈ ps,zAb x.set) (hL:L.length<=1000) (hn4:ps.length<=4000) (hi:i<=L.length) (hms:zBY ps=ms) (hms2:ms<=42)
  (hlen:m0.length=ps.length) (hx:∀ x ∈ xs,x.1<ps.length/\∃ u ∈ ux,x.2=u.2) (hus:∀ u ∈ ux,u.2.1.length=ms) (hxn:xs.length<=1000000)
  (H0:Hold w0 wS (zB4 mb gm mc pp cp ps psl csl L Fp Fs (.slice lq xs.length lc) xs (.slice none 0 0) [] ux m0)) :
  Calls Tryz.prog 113 #[.pointer (some ⟨mb,0,none⟩),.int .i64 i] wS (zQs mb gm mc pp cp ps psl csl L Fp Fs lq lc xs ux m0 ms i w0 wS):=by
 have HW0:=Lib.hid H0.keep.size;have H:=H0.framed;clear H0;obtain⟨rF,hrF⟩:∃ rF,zB3 wS (zB4 mb gm mc pp cp ps psl csl L Fp Fs (.slice lq xs.length lc) xs (.slice none 0 0) [] ux m0)=rF:=⟨_,rfl⟩;obtain⟨rS,hrS⟩:∃ rS,zCO wS (zB4 mb gm mc pp cp ps psl csl L Fp Fs (.slice lq xs.length lc) xs (.slice none 0 0) [] ux m0)=rS:=⟨_,rfl⟩;rw[hrF,hrS]at H;have hrFB:∀ b,rF b->b<wS.heap.size:=fun b hb=>by rw[← hrF]at hb;exact hb.1
 have HRF:=Lib.hid hrF;clear hrF;have HRS:=Lib.hid hrS;clear hrS;have HRB:=Lib.hid hrFB;clear hrFB;simp only[zB4,List.cons_append,List.nil_append]at H;have HFB:=Lib.hid (show (∀ b,Fp b->b<wS.heap.size)/\(∀ b,Fs b->b<wS.heap.size) from ⟨H.knlt (i:=3) i_3,H.knlt (i:=4) i_4⟩)
 have HX:=Lib.hid hx;clear hx;have HUS:=Lib.hid hus;clear hus;refine zHu ?_
 refine callsIn_of_wp_marks Tryz.func113 rfl trivial ?_ rfl;simp only[Tryz.ntmps113,List.size_toArray,List.length_cons,List.length_nil,Nat.reduceAdd,Nat.reduceSub,Array.replicate_succ,Array.replicate_zero,List.push_toArray,List.append_toArray,List.nil_append,List.cons_append];rw[wpIn_wide]
 go_wp2_with (first|((with_reducible show @wpList _ _ _ ({dst:=_,op:=Op.box _ _,type:=_,pos:=_,after:=_,guard:=_}::_) _ _);refine zOA wtd_ _ _ rfl evd_ H ?_;clear H;intro b2 w hb2 H;simp only[Value.cells,List.cons_append,List.nil_append]at H)|((with_reducible refine gL ?_);(first|refine zAE wtd_ _ _ rfl rfl H atd_ zBV rfl ?_|refine zAE wtd_ _ _ rfl rfl H atd_ zAz rfl ?_))|fail)
 have H2:=H.also (FW ux) (WK ux) (Still.at (i:=5) (S:=WK ux) i_5) (fun V hV=>(H.kn (i:=5) i_5).kept hV)
 have H3:=H2.also (· ∈ ([]:List Nat)) (zDa []) (fun b hb=>by cases hb) (fun V hV D hD=>by cases hD)
 clear H H2;have H:=H3.pick [0,1,2,3,4,5,6,8,9,7,10] (memL mb (.slice lq xs.length lc) gm mc pp cp ps psl csl L Fp Fs none 0 [] ux m0++[.row (.slice lq xs.length lc) 197 2 xs.length (zAW (xs.map wayC)),.blk b2 #[.pointer (some ⟨mb,0,none⟩)] 189,.kn (FW ux) (WK ux),.kn rF rS,.kn (· ∈ ([]:List Nat)) (zDa [])]) (by decide) rfl
 clear H3;have HL0:=Lib.hid (show zPn mb b2 gm mc pp cp ps psl csl L Fp Fs lq lc xs ux m0 ms i wS.heap.size w0 rF rS 0 [] w from ⟨none,0,[],ux,m0,Lib.hid ⟨rfl,(fun y h=>by cases h),HUS.out,hlen,(by have:=zNM i m0;simp only[List.length_nil];omega),(fun b h=>.inl h),List.nodup_nil,(fun D h=>by cases h)⟩,H⟩)
 clear H;refine wp_loop (fun a' w'=>∃ (t:Array Value) (Ds:List Nat) (j:Nat),a'={tmps:=t,defers:=zMR Ds}/\t.size=40/\t[1]?=some (.int .i64 i)/\t[2]?=some (.pointer (some ⟨b2,0,none⟩))/\t[11]?=some (.slice lq xs.length lc)/\t[12]?=some (.int .i64 xs.length)/\t[13]?=some (.int .i64 j)/\j<=xs.length/\Hid (zPn mb b2 gm mc pp cp ps psl csl L Fp Fs lq lc xs ux m0 ms i wS.heap.size w0 rF rS j Ds w')) (fun a' w'=>xs.length - tmpN a'.tmps 13) ?start ?round
 case start=>exact⟨_,[],0,rfl,rfl,rfl,rfl,rfl,rfl,rfl,Nat.zero_le _,HL0⟩
 case round =>
  clear HL0;rintro a' w' ⟨t,Ds,j,rfl,ht,e1,e2,e11,e12,e13,hj,HLR⟩;have hl:=zQS t ht;clear ht;obtain⟨u0,u1,u2,u3,u4,u5,u6,u7,u8,u9,u10,u11,u12,u13,u14,u15,u16,u17,u18,u19,u20,u21,u22,u23,u24,u25,u26,u27,u28,u29,u30,u31,u32,u33,u34,u35,u36,u37,u38,u39,hl⟩:=hl;subst hl;replace e1:some u1=some (.int .i64 i):=e1;replace e2:some u2=some (.pointer (some ⟨b2,0,none⟩)):=e2;replace e11:some u11=some (.slice lq xs.length lc):=e11
  replace e12:some u12=some (.int .i64 xs.length):=e12;replace e13:some u13=some (.int .i64 j):=e13
  cases e1;cases e2;cases e11;cases e12;cases e13
  obtain⟨dl,hdl⟩:∃ dl,zMR Ds=dl:=⟨_,rfl⟩;rw[hdl];have HDL:=Lib.hid hdl;clear hdl;obtain⟨nq,nc,ys,us,marks,HP,H⟩:=HLR.out;clear HLR;simp only[memL,List.cons_append,List.nil_append]at H
  by_cases hlt:j<xs.length
  ·have dj:decide ((j:Int)<(xs.length:Int))=true:=decide_eq_true (by omega)
   have dj2:decide (j<xs.length)=true:=decide_eq_true hlt;obtain⟨n,hn⟩:∃ n,xs.length=n:=⟨_,rfl⟩;obtain⟨e,he⟩:∃ e,xs[j]?=some e:=⟨_,List.getElem?_eq_getElem hlt⟩;have HE:=Lib.hid he;have HXC:=Lib.hid (show (xs.map wayC)[j]?=some (wayC e) by rw[List.getElem?_map,he];rfl)
   have HXL:=Lib.hid (show (xs.map wayC).length=n by rw[List.length_map];exact hn)
   have HN:=Lib.hid hn;rw[hn]at H hlt dj dj2 ⊢;have HJ:=Lib.hid hj;clear hj hn he;obtain⟨q0,c0,e0,_,_,hq0⟩:=H.rowShape (i:=6) i_6;simp only[Value.slice.injEq]at e0;obtain⟨rfl,_,rfl⟩:=e0;obtain⟨lg,rfl⟩:=hq0 (by omega)
   go_upto_region 3 with (first|((with_reducible refine gL ?_);(first|refine zAE wtd_ _ _ rfl rfl H atd_ zBV rfl ?_|refine zAE wtd_ _ _ rfl rfl H atd_ zAz rfl ?_|refine zAE wtd_ _ _ rfl rfl H atd_ zAF (yg0 e) ?_|refine zAE wtd_ _ _ rfl rfl H atd_ zAv (yg1 e) ?_))|fail)
   refine zB1 3 [fun v _=>v=.pointer (some ⟨lg,j * 2,none⟩),fun v _=>v=.agg (wayC e),zF4 w'.heap.size #[.int .i64 0,.slice none 0 0] 197] (fun _=>false) (by kernel_rfl) (by kernel_rfl) ⟨zAI _,zAI _,zCl _ _ _,trivial⟩ (fun _ _ h=>by cases h) ?ob ?en
   case ob =>
    refine⟨?_,?_,?_,trivial⟩<;>intro A W h
    ·exact zAU (sz:=2) Tryz.underlying190 (fun w=>by kernel_rfl) rfl rfl (h.f 11) (h.f 13) hlt (Nat.zero_add _) (by decide)
    ·exact zAA rfl (zAk rfl (h.d 0 15) zEC (zC2 e) ((H.call h.below).rowCell (i:=6) i_6 (zDm _) HXL.out HXC.out rfl)) (by decide)
    ·exact zFc rfl rfl (by kernel_rfl) zWay h.below.size (by decide)
   case en =>
    intro vals W hbw hv _;have x2:=hv 2 (by omega);simp only[zAO]at x2
    simp only[fa,Nat.reduceAdd];rw[e_ hv 0,e_ hv 1];clear hv
    try simp only[pl]
    try simp only[pl]
    obtain⟨b5,e5,H8⟩:=H.gainB hbw x2;rw[e5];clear x2 e5 H hbw;have H:=H8;clear H8;simp only[ca]at H
    go_wp2_with (first|((with_reducible refine gTw ?_);refine aTw H ?_;clear H;intro w H;simp only[sc]at H)|((with_reducible refine gL ?_);(first|refine zAE wtd_ _ _ rfl rfl H atd_ zBV rfl ?_|refine zAE wtd_ _ _ rfl rfl H atd_ zAz rfl ?_|refine zAE wtd_ _ _ rfl rfl H atd_ zAF (yg0 e) ?_|refine zAE wtd_ _ _ rfl rfl H atd_ zAv (yg1 e) ?_))|fail)
    refine(zOU mb e i _).mono ?_
    rintro r wB ⟨bA,bS,bM,bI,rfl,HB⟩
    go_wp2_with fail
    rename_i hKc hpz;rw[HN.out.symm]at H;have H1:=H.knApp (i:=5) (j:=8) i_5 i_8;simp only[sc]at H1;have HM:Hold w0 w (memL mb (.slice (some ⟨lg,0,none⟩) xs.length lc) gm mc pp cp ps psl csl L Fp Fs nq nc ys (us++ux) marks):=H1.take 6;obtain⟨mF,hmF⟩:∃ mF,zB3 w (memL mb (.slice (some ⟨lg,0,none⟩) xs.length lc) gm mc pp cp ps psl csl L Fp Fs nq nc ys (us++ux) marks)=mF:=⟨_,rfl⟩;obtain⟨mS,hmS⟩:∃ mS,zCO w (memL mb (.slice (some ⟨lg,0,none⟩) xs.length lc) gm mc pp cp ps psl csl L Fp Fs nq nc ys (us++ux) marks)=mS:=⟨_,rfl⟩
    have HF:=HM.framed;rw[hmF,hmS]at HF;have hmFB:∀ b,mF b->b<w.heap.size:=fun b hb=>by rw[← hmF]at hb;exact hb.1
    have HG:=HF.gainAll HB (by intro r hr F S e;subst e;simp[zH6]at hr)
    have HI:Hold w0 wB (memL mb (.slice (some ⟨lg,0,none⟩) xs.length lc) gm mc pp cp ps psl csl L Fp Fs nq nc ys (us++ux) marks++itL mb bA bS bM bI e i mF mS):=HG.pick [0,1,2,3,4,5,7,8,9,10,6] _ (by decide) rfl
    have hbM:w.heap.size<=bM:=(HB.blk (i:=0) .zero).1.elim id False.elim;have hwB:w.heap.size<=wB.heap.size:=HB.below.size;have hw0:w0.heap.size<=wB.heap.size:=HI.keep.size;have hb2:b2<w.heap.size:=(Array.getElem?_eq_some_iff.1 (H1.blk (i:=7) i_7).2).1;have hokE:∀ (ys:List WV) (us:List WV) (marks:List Int) (nq:Option Addr) (nc:Nat) (ext:List Res),(∀ r ∈ ext,zD1 wB.heap.size r)->∀ r ∈ memL mb (.slice (some ⟨lg,0,none⟩) xs.length lc) gm mc pp cp ps psl csl L Fp Fs nq nc ys us marks++.kn mF mS::ext,zD1 wB.heap.size r:=by
     intro ys us marks nq nc ext hext r hr;simp only[memL,List.cons_append,List.nil_append,List.mem_cons]at hr;rcases hr with rfl|rfl|rfl|rfl|rfl|rfl|rfl|hr
     ·trivial
     ·trivial
     ·trivial
     ·exact fun V _ b hb=>.inl (by have:=HFB.out.1 b hb;omega)
     ·exact fun V _ b hb=>.inl (by have:=HFB.out.2 b hb;omega)
     ·exact zLf _ _
     ·exact fun V _ b hb=>.inl (by have:=hmFB b hb;omega)
     ·exact hext r hr
    have hokI:∀ (ys:List WV) (us:List WV) (marks:List Int) (nq:Option Addr) (nc:Nat),∀ r ∈ memL mb (.slice (some ⟨lg,0,none⟩) xs.length lc) gm mc pp cp ps psl csl L Fp Fs nq nc ys us marks++itL mb bA bS bM bI e i mF mS,zD1 wB.heap.size r:=by
     intro ys us marks nq nc r hr;refine hokE ys us marks nq nc (zH6 mb bA bS bM bI e i) (fun r hr=>?_) r ?_
     ·simp only[zH6,List.mem_cons,List.not_mem_nil,or_false]at hr;rcases hr with rfl|rfl|rfl|rfl<;>trivial
     ·simp only[itL,zH6,List.mem_append,List.mem_cons,List.not_mem_nil,or_false]at hr ⊢;rcases hr with h|h|h|h|h|h
      ·exact .inl h
      ·exact .inr (.inr (.inl h))
      ·exact .inr (.inr (.inr (.inl h)))
      ·exact .inr (.inr (.inr (.inr (.inl h))))
      ·exact .inr (.inr (.inr (.inr (.inr h))))
      ·exact .inr (.inl h)
    obtain⟨p1,p2,p3,p4,p5,p6,p7,p8⟩:=HP.out;have hxe:e ∈ xs:=List.mem_of_getElem? HE.out;have hxe2:=HX.out e hxe;have I0:ItInv ps L i (plW e) marks ys ms [e] ys (us++ux) marks (zBv ps):=ItInv.start p4 ⟨hxe2.1,by obtain⟨u,hu,h⟩:=hxe2.2;exact⟨u,List.mem_append_right _ hu,h⟩⟩ (fun y hy=>by obtain⟨u,hu,h⟩:=p2 y hy;exact⟨u,List.mem_append_left _ hu,h⟩) (fun u hu=>(List.mem_append.1 hu).elim (p3 u) (HUS.out u)) p5
    rw[← wpIn_wide (n:=9)];refine zE0 (σ:=List WV × List WV × List Int × List Res) (α:=WV) rfl (by omega) (gf:=168) (lb:=#[.pointer (some ⟨bA,0,none⟩),.pointer (some ⟨bS,0,none⟩),.pointer (some ⟨bM,0,none⟩),.pointer (some ⟨bI,0,none⟩)]) rfl trivial (enters_of Tryz.func168 (by kernel_rfl) rfl) (encs:=fun x=>#[.agg (wayC x)]) (fun _=>rfl)
     (fun W=>Hold w0 W (memL mb (.slice (some ⟨lg,0,none⟩) xs.length lc) gm mc pp cp ps psl csl L Fp Fs nq nc ys (us++ux) marks++itL mb bA bS bM bI e i mF mS))
     (zP8 mb (.slice (some ⟨lg,0,none⟩) xs.length lc) gm mc pp cp ps psl csl L Fp Fs bA bS bM bI e i mF mS ms w0 ys (us++ux) marks)
     (fun _ _=>False)
     (fun s x W=>((∃ u ∈ s.2.1,x.2=u.2)/\s.1.length<ps.length)/\(∀ r ∈ s.2.2.2,zD1 wB.heap.size r)/\∃ nq nc,Hold w0 W (memL mb (.slice (some ⟨lg,0,none⟩) xs.length lc) gm mc pp cp ps psl csl L Fp Fs nq nc s.1 s.2.1 s.2.2.1++.kn mF mS::s.2.2.2))
     (fun s x W=>(∀ r ∈ s.2.2.2,zD1 wB.heap.size r)/\∃ nq nc,Hold w0 W (memL mb (.slice (some ⟨lg,0,none⟩) xs.length lc) gm mc pp cp ps psl csl L Fp Fs nq nc (s.1++[x]) s.2.1 s.2.2.1++.kn mF mS::s.2.2.2))
     (fun s x a W=>(∀ r ∈ s.2.2.2,zD1 wB.heap.size r)/\∃ nq nc b6 t,(a={tmps:=t,defers:=[]}/\t.size=40/\t[2]?=some (.pointer (some ⟨b2,0,none⟩))/\t[6]?=some (.pointer (some ⟨b6,0,none⟩))/\s.1.length<ps.length)/\Hold w0 W (memL mb (.slice (some ⟨lg,0,none⟩) xs.length lc) gm mc pp cp ps psl csl L Fp Fs nq nc s.1 s.2.1 s.2.2.1++[.kn mF mS,.blk b6 (wayC x) 197]++s.2.2.2))
     (HoldG.stayK (hokI ys (us++ux) marks nq nc) hw0) (Stay.exV fun nq=>Stay.exV fun nc=>Stay.exV fun ys=>Stay.exV fun us=>Stay.exV fun marks=>Stay.exV fun n=>Stay.andV (Stay.andV (HoldG.stayK (hokI ys us marks nq nc) hw0))) (fun _ W W' row h _ _=>h)
     (fun s x=>Stay.ofOk fun h=>Stay.exV fun nq=>Stay.exV fun nc=>HoldG.stayK (hokE _ _ _ _ _ _ h) hw0)
     (fun s x a=>Stay.ofOk fun h=>Stay.exV fun nq=>Stay.exV fun nc=>Stay.exV fun b6=>Stay.exV fun t=>Stay.andV (HoldG.stayK (fun r hr=>by
      rcases List.mem_append.1 hr with hr|hr
      ·rcases List.mem_append.1 hr with hr|hr
       ·exact hokE _ _ _ nq nc [] (fun r hr=>by cases hr) r (List.mem_append_left _ hr)
       ·simp only[List.mem_cons,List.not_mem_nil,or_false]at hr;rcases hr with rfl|rfl
        ·exact fun V _ b hb=>.inl (by have:=hmFB b hb;omega)
        ·trivial
      ·exact h r hr) hw0))
     ?iter HI ?assign ?body ?done ?pan
    case iter =>
     intro l B hB' hY W hI hBW;refine(zLd mb (.slice (some ⟨lg,0,none⟩) xs.length lc) gm mc pp cp ps psl csl L Fp Fs bA bS bM bI e i mF mS ms w0 ys (us++ux) marks 7 hR hset hL hn4 hi hms hms2 l B wB.heap.size hB' hw0 ?_ W nq nc I0 hI hBW).mono (fun r W' h=>⟨h.1,.inl (by obtain⟨v,hv⟩:=h.2.1;exact⟨v,hv,h.2.2⟩)⟩)
     intro nq1 nc1 ys1 us1 marks1 x ext1 W1 hx hext hlen hH hBW1;exact(hY (ys1,us1,marks1,ext1) x W1 ⟨⟨hx,hlen⟩,hext,nq1,nc1,hH⟩ hBW1).mono (fun e W' h=>⟨h.1,h.2.1.2,h.2.2⟩)
    case assign =>
     rintro l ⟨ys1,us1,marks1,ext1⟩ x W ⟨⟨hx,hlen1⟩,hext,nq1,nc1,HW⟩;simp only[List.zip_toArray,List.foldl_toArray,List.zip_cons_cons,List.zip_nil_right,List.zip_nil_left,List.foldl_cons,List.foldl_nil,List.setIfInBounds_toArray,List.set_cons_succ,List.set_cons_zero];refine wpIn_region_lit (zAs (by rintro⟨_,_,h⟩;exact h) _ _ _ rfl ?_)
     clear H HB H1 HM HF HG HI;have H:=Hold.start W
     go_wp2_with (first|((with_reducible refine gTw ?_);refine aTw H ?_;clear H;intro w H;simp only[sc]at H)|((with_reducible refine kg 6 ?_);(first|refine kA 6 H ?_|refine kS 6 H ?_|refine kB 6 H ?_);clear H;intro b6 w H;try simp only[nr]at H)|fail)
     refine⟨KeepsNC.of_below H.below,hext,nq1,nc1,?_⟩
     have H2:=HW.gainAll H (by intro r hr F S e;subst e;simp at hr)
     refine H2.permL ?_
     rw[List.append_assoc];exact List.Perm.append_left _ (.cons _ List.perm_append_comm)
    case body =>
     rintro l ⟨ys1,us1,marks1,ext1⟩ x a1 Wb ⟨hext,nq1,nc1,b6,t,⟨rfl,ht,f2,f6,hlen1⟩,HY⟩;have hl:=zQS t ht;clear ht;obtain⟨v0,v1,v2,v3,v4,v5,v6,v7,v8,v9,v10,v11,v12,v13,v14,v15,v16,v17,v18,v19,v20,v21,v22,v23,v24,v25,v26,v27,v28,v29,v30,v31,v32,v33,v34,v35,v36,v37,v38,v39,hl⟩:=hl;subst hl;replace f2:some v2=some (.pointer (some ⟨b2,0,none⟩)):=f2;replace f6:some v6=some (.pointer (some ⟨b6,0,none⟩)):=f6
     cases f2;cases f6
     have hb2F:zB3 w (memL mb (.slice (some ⟨lg,0,none⟩) xs.length lc) gm mc pp cp ps psl csl L Fp Fs nq nc ys (us++ux) marks) b2:=by
      refine⟨hb2,fun r hr h=>?_⟩
      obtain⟨k,hk⟩:=List.getElem?_of_mem hr;have hk6:k<6:=(List.getElem?_eq_some_iff.1 hk).1;exact H1.apart k 7 r _ (by omega) (by rw[← hk];match k,hk6 with|0,_=>rfl|1,_=>rfl|2,_=>rfl|3,_=>rfl|4,_=>rfl|5,_=>rfl) rfl b2 h rfl
     have hB2:∀ V,mS V->V.heap[b2]?=some (.cells #[.pointer (some ⟨mb,0,none⟩)] 189 (0,0)):=by
      intro V hV;rw[← hmS]at hV;exact(hV b2 hb2F).trans (H1.blk (i:=7) i_7).2
     clear H HB H1 HM HF HG HI;have HA:=HY.left;obtain⟨rF2,hrF2⟩:∃ zF,zB3 Wb (memL mb (.slice (some ⟨lg,0,none⟩) xs.length lc) gm mc pp cp ps psl csl L Fp Fs nq1 nc1 ys1 us1 marks1++[.kn mF mS,.blk b6 (wayC x) 197])=zF:=⟨_,rfl⟩;obtain⟨rS2,hrS2⟩:∃ zF,zCO Wb (memL mb (.slice (some ⟨lg,0,none⟩) xs.length lc) gm mc pp cp ps psl csl L Fp Fs nq1 nc1 ys1 us1 marks1++[.kn mF mS,.blk b6 (wayC x) 197])=zF:=⟨_,rfl⟩
     have HA2:=HA.framed;rw[hrF2,hrS2]at HA2;have HA3:=HA2.knowNC (by intro r hr b es c e;subst e;simp[memL]at hr) wB.heap.size
     have HMS:=HA3.kn (i:=6) i_6;have hmb2:mF b2:=by rw[← hmF];exact hb2F
     have H:=HA3.also (·=b2) (fun V=>V.cell? ⟨b2,0,none⟩=some (.pointer (some ⟨mb,0,none⟩))) (fun b hb=>Still.at (i:=6) (S:=mS) i_6 b (by rw[hb];exact hmb2)) (fun V hV=>by have:=(hV b2 rfl).trans (hB2 _ HMS);exact cell_of_row V b2 0 _ _ _ this)
     clear HA HA2 HA3;simp only[memL,List.cons_append,List.nil_append]at H;obtain⟨iw,hiw,hi0,hi1,hi2⟩:=info_parts zFl;have hyl:ys1.length+1<=maxLen/\(ys1.length+1) * 32<=140737488355328:=⟨zEM (Nat.le_of_lt (Nat.lt_of_lt_of_le hlen1 (Nat.le_trans hn4 (by decide)))) (by decide),zDR (Nat.le_of_lt (Nat.lt_of_lt_of_le hlen1 (Nat.le_trans hn4 (by decide)))) (by decide)⟩
     have HYL:=Lib.hid hyl;clear hyl;refine wpIn_block ?_
     clear dj dj2 hlt;refine zGJ 7 0 [fun v _=>v=pt mb 0,fun v _=>v=pt mb 0,fun v _=>v=pt mb 0,fun v _=>v=pt mb 4,fun v _=>v=.slice nq1 ys1.length nc1,fun v _=>v=.agg (wayC x),FreshS Wb.heap.size (wayC x) 197] (fun _=>false) (by kernel_rfl) (by rintro⟨_,_,h⟩;exact h) rfl (by kernel_rfl) (by kernel_rfl) (by repeat (first|exact trivial|refine⟨zAI _,?_⟩|refine⟨zDC _ _ _,?_⟩)) (fun _ _ h=>by cases h) ?ob ?en ?en2
     case ob =>
      refine⟨?_,?_,?_,?_,?_,?_,?_,trivial⟩<;>intro A W h
      ·exact zAA rfl (zAC rfl (h.f 2) zBV ((H.call h.below).kn (i:=10) i_10)) (by decide)
      ·exact zAA rfl (zAC rfl (h.f 2) zBV ((H.call h.below).kn (i:=10) i_10)) (by decide)
      ·(have e26:A.eval (.tmp 26)=.pointer (some ⟨mb,0,none⟩):=h.d 1 26;refine zAA rfl ?_;simp only[execOp,e26];simp[go_sem])
      ·(have e27:A.eval (.tmp 27)=.pointer (some ⟨mb,0,none⟩):=h.d 2 27;refine zAA rfl ?_;simp only[execOp,e27];simp[go_sem])
      ·exact zAA rfl (zAC rfl (h.d 3 28) zAz ((H.call h.below).cell (i:=0) .zero 4)) (by decide)
      ·exact zAA rfl (zAk rfl (h.f 6) zEC (zC2 x) (fun j _=>by rw[Nat.zero_add];exact(H.call h.below).cell (i:=7) i_7 j)) (by decide)
      ·exact zL8 rfl rfl (h.d 5 30) h.below.size (by decide)
     case en =>
      intro vals W9 hbw hv _;have x6:=hv 6 (by omega);simp only[zAO]at x6
      simp only[fa,Nat.reduceAdd];rw[e_ hv 0,e_ hv 1,e_ hv 2,e_ hv 3,e_ hv 4,e_ hv 5];clear hv
      try simp only[pl]
      try simp only[pl]
      obtain⟨bk,e6,H8⟩:=H.gainS2 hbw x6;rw[e6];clear x6 e6 H hbw;have H:=H8;clear H8;simp only[ca]at H
      go_wp2_with (first|(at_builtin;refine zAx rfl _ _ 190 rfl H (i:=2) (j:=11) evd_ rfl i_2 i_11 Tryz.underlying190 hiw hi0 hi1 hi2 rfl (by decide) rfl rfl HYL.out.1 HYL.out.2 ?_;clear H;intro v2 w H;simp only[sc]at H;(obtain⟨q2,c2,rfl,_,_,_⟩:=H.rowShape (i:=2) i_2))|((with_reducible refine gL ?_);refine zAK wtd_ _ _ rfl rfl zBV (H.kn (i:=10) i_10) ?_)|((with_reducible refine gT ?_);refine zAN wtd_ _ _ _ rfl rfl evd_ H (i:=0) .zero rfl (by show 4<5;omega) (zAD zAz) ?_;clear H;intro w H;simp only[List.setIfInBounds_toArray,List.set_cons_succ,List.set_cons_zero]at H)|fail)
      rw[zCJ,show ys1.length+1=(ys1++[x]).length by simp,← hrF2,← hrS2]at H
      have T:=Turned.of (l2:=memL mb (.slice (some ⟨lg,0,none⟩) xs.length lc) gm mc pp cp ps psl csl L Fp Fs q2 c2 (ys1++[x]) us1 marks1++[.kn mF mS]) H (i:=8) i_8 [0,1,2,3,4,5,6] (by decide) (by decide) rfl (by intro F S hm b hb;refine .inl ⟨.kn F S,?_,hb⟩;simp only[memL,List.cons_append,List.nil_append,List.mem_cons,List.not_mem_nil,or_false,reduceCtorEq,false_or]at hm ⊢;rcases hm with h|h|h|h<;>simp[h])
      have H2:=HY.callL T;rw[List.append_assoc]at H2;exact⟨(H.kn (i:=9) i_9).keeps,hext,q2,c2,H2⟩
     case en2 =>
      intro vals W9 hbw hv _;have v1:vals 1=_:=hv 1 (by omega) (by omega)
      have v2:vals 2=_:=hv 2 (by omega) (by omega)
      have v3:vals 3=_:=hv 3 (by omega) (by omega)
      have v4:vals 4=_:=hv 4 (by omega) (by omega)
      have v5:vals 5=_:=hv 5 (by omega) (by omega)
      have x6:=hv 6 (by omega) (by omega);simp only[zAO]at x6
      simp only[List.take_succ_cons,List.take_zero,List.drop_succ_cons,List.drop_zero,List.drop_nil,List.take_nil,zCr,zHg,List.cons_append,List.nil_append,Nat.reduceEqDiff,if_true,if_false,reduceCtorEq,Nat.zero_add,Nat.reduceAdd];rw[v1,v2,v3,v4,v5];clear hv v1 v2 v3 v4 v5
      try simp only[pl]
      try simp only[pl]
      obtain⟨bk,e6,H8⟩:=H.gainS2 hbw x6;rw[e6];clear x6 e6 H hbw;have H:=H8;clear H8;simp only[ca]at H
      go_wp2_with (first|(at_builtin;refine zAx rfl _ _ 190 rfl H (i:=2) (j:=11) evd_ rfl i_2 i_11 Tryz.underlying190 hiw hi0 hi1 hi2 rfl (by decide) rfl rfl HYL.out.1 HYL.out.2 ?_;clear H;intro v2 w H;simp only[sc]at H;(obtain⟨q2,c2,rfl,_,_,_⟩:=H.rowShape (i:=2) i_2))|((with_reducible refine gL ?_);refine zAK wtd_ _ _ rfl rfl zBV (H.kn (i:=10) i_10) ?_)|((with_reducible refine gT ?_);refine zAN wtd_ _ _ _ rfl rfl evd_ H (i:=0) .zero rfl (by show 4<5;omega) (zAD zAz) ?_;clear H;intro w H;simp only[List.setIfInBounds_toArray,List.set_cons_succ,List.set_cons_zero]at H)|fail)
      rw[zCJ,show ys1.length+1=(ys1++[x]).length by simp,← hrF2,← hrS2]at H
      have T:=Turned.of (l2:=memL mb (.slice (some ⟨lg,0,none⟩) xs.length lc) gm mc pp cp ps psl csl L Fp Fs q2 c2 (ys1++[x]) us1 marks1++[.kn mF mS]) H (i:=8) i_8 [0,1,2,3,4,5,6] (by decide) (by decide) rfl (by intro F S hm b hb;refine .inl ⟨.kn F S,?_,hb⟩;simp only[memL,List.cons_append,List.nil_append,List.mem_cons,List.not_mem_nil,or_false,reduceCtorEq,false_or]at hm ⊢;rcases hm with h|h|h|h<;>simp[h])
      have H2:=HY.callL T;rw[List.append_assoc]at H2;exact⟨(H.kn (i:=9) i_9).keeps,hext,q2,c2,H2⟩
    case done =>
     rintro D W hD ⟨nq',nc',ys',us',marks',n',I,hFW,HW⟩ hK;rw[← hmF,← hmS]at HW;have T:Turned (fun _=>False) w0 w (memL mb (.slice (some ⟨lg,0,none⟩) xs.length lc) gm mc pp cp ps psl csl L Fp Fs nq nc ys (us++ux) marks) (memL mb (.slice (some ⟨lg,0,none⟩) xs.length lc) gm mc pp cp ps psl csl L Fp Fs nq' nc' ys' us' marks') W:=by
      refine Turned.of HW (i:=10) i_10 [0,1,2,3,4,5] (by decide) (by decide) rfl ?_
      intro F S hm b hb;simp only[memL,List.mem_cons,List.not_mem_nil,or_false,reduceCtorEq,false_or,Res.kn.injEq]at hm;rcases hm with ⟨e,_⟩|⟨e,_⟩|⟨e,_⟩<;>rw[e]at hb
      ·exact .inl ⟨.kn Fp (InstsR Fp pp cp ps),by simp[memL],hb⟩
      ·exact .inl ⟨.kn Fs (BytesR Fs psl csl L),by simp[memL],hb⟩
      ·exact(hFW b hb).imp (fun h=>⟨.kn (FW (us++ux)) (WK (us++ux)),by simp[memL],h⟩) (fun h=>by omega)
     have H2:=HoldG.callL (a:=memL mb (.slice (some ⟨lg,0,none⟩) xs.length lc) gm mc pp cp ps psl csl L Fp Fs nq nc ys (us++ux) marks) (ext:=[.row (.slice (some ⟨lg,0,none⟩) xs.length lc) 197 2 xs.length (zAW (xs.map wayC)),.blk b2 #[.pointer (some ⟨mb,0,none⟩)] 189,.kn (FW ux) (WK ux),.kn rF rS,.kn (· ∈ Ds) (zDa Ds),.blk b5 (wayC e) 197]) H1 T;simp only[memL,List.cons_append,List.nil_append]at H2
     have hMD:∀ D ∈ Ds,D<w.heap.size:=H1.knlt (i:=10) i_10;have H3:=H2.markD (by intro r hr b es c e;subst e;simp at hr) (i:=10) i_10 hK
     simp only[sc]at H3;have H4:=H3.take 11
     have hnx:Hid (zPn mb b2 gm mc pp cp ps psl csl L Fp Fs (some ⟨lg,0,none⟩) lc xs ux m0 ms i wS.heap.size w0 rF rS (j+1) (D::Ds) W):=Lib.hid ⟨nq',nc',ys',us',marks',Lib.hid (by
      obtain⟨d1,d2⟩:=I.done;refine⟨?_,I.got,I.size,I.len,I.room,fun b hb=>?_,List.nodup_cons.2 ⟨fun h=>by have:=hMD D h;omega,p7⟩,fun D' h=>(List.mem_cons.1 h).elim (fun h=>by omega) (p8 D')⟩
      ·have hj1:(xs.take (j+1))=xs.take j++[e]:=by rw[List.take_add_one,HE.out];rfl
       rw[hj1,List.map_append,List.map_cons,List.map_nil,zH5,p1,d1,d2]
      ·rcases hFW b hb with h|h
       ·exact h.app.elim (p6 b) .inl
       ·exact .inr (by omega)),H4⟩
     refine hKc _ _ ?_
     clear H HB H1 HM HF HG HI H2 H3 H4 T I hokE hokI I0 HW
     go_wp2_with fail
     have hn9:n<=1000000:=by rw[← HN.out];exact hxn
     have hw:=zJV hlt hn9;simp only[hw];refine⟨⟨_,D::Ds,j+1,by rw[← HDL.out];rfl,rfl,rfl,rfl,rfl,rfl,rfl,Nat.succ_le_of_lt hlt,hnx⟩,?_⟩
     rw[zJQ _ 13 ((j+1:Nat):Int) rfl,zJQ _ 13 (j:Int) rfl];exact zO1 hlt
    case pan=>exact fun D ch W _ h _=>h.elim
  ·have dj:decide ((j:Int)<(xs.length:Int))=false:=decide_eq_false (by omega)
   have dj2:decide (j<xs.length)=false:=decide_eq_false hlt
   go_wp2_with (first|((with_reducible refine gL ?_);(first|refine zAE wtd_ _ _ rfl rfl H atd_ zBV rfl ?_|refine zAE wtd_ _ _ rfl rfl H atd_ zAz rfl ?_))|fail)
   refine(zNa mb lq xs.length lc (.slice (some ⟨gm,0,none⟩) ps.length mc) (.slice pp ps.length cp) (.slice psl L.length csl) (.slice nq ys.length nc) (zAW (xs.map wayC)) (H.pick [0,6] _ (by decide) rfl)).mono ?_
   rintro e w ⟨rfl,T⟩;have H2:=H.callIn (l3:=[.row (.slice (some ⟨gm,0,none⟩) ps.length mc) 3 1 ps.length (marks.map (.int .i64)),.row (.slice nq ys.length nc) 197 2 ys.length (zAW (ys.map wayC)),.kn Fp (InstsR Fp pp cp ps),.kn Fs (BytesR Fs psl csl L),.kn (FW us) (WK us),.blk b2 #[.pointer (some ⟨mb,0,none⟩)] 189,.kn (FW ux) (WK ux),.kn rF rS,.kn (· ∈ Ds) (zDa Ds)]) T [0,6] [1,2,3,4,5,7,8,9,10] rfl rfl (by decide) (by decide)
   clear H T;have H:=H2;clear H2;simp only[ca]at H
   go_wp2_with fail
   rw[← HDL.out];obtain⟨p1,p2,p3,p4,p5,p6,p7,p8⟩:=HP.out;have hjn:xs.take j=xs:=List.take_of_length_le (by omega)
   rw[hjn]at p1;have HM:=H.kn (i:=10) i_10;have H2:=H.pick [0,2,3,4,5,6,1,9] (zB4 mb gm mc pp cp ps psl csl L Fp Fs (.slice lq 0 lc) [] (.slice nq ys.length nc) ys us marks++[.kn rF rS]) (by decide) rfl
   refine zDQ (B:=wS.heap.size) (I:=fun W=>Hold w0 W (zB4 mb gm mc pp cp ps psl csl L Fp Fs (.slice lq 0 lc) [] (.slice nq ys.length nc) ys us marks++[.kn rF rS])) (HoldG.stayK (fun r hr=>?_) HW0.out) Ds _ H2 p7 p8 HM ?_
   ·simp only[zB4,List.cons_append,List.nil_append,List.mem_cons,List.not_mem_nil,or_false]at hr;rcases hr with rfl|rfl|rfl|rfl|rfl|rfl|rfl|rfl
    ·trivial
    ·trivial
    ·trivial
    ·exact fun V _ b hb=>.inl (HFB.out.1 b hb)
    ·exact fun V _ b hb=>.inl (HFB.out.2 b hb)
    ·exact zLf _ _
    ·trivial
    ·exact fun V _ b hb=>.inl (HRB.out b hb)
   ·intro W' H';refine⟨.tuple #[],zNi rfl,nq,nc,ys,us,marks,p1,p2,p3,by omega,rfl,?_⟩
    rw[← HRF.out,← HRS.out]at H';refine Turned.of H' (i:=7) i_7 [0,1,2,3,4,5,6] (by decide) (by decide) rfl ?_
    intro F S hm b hb;simp only[zB4,List.mem_cons,List.not_mem_nil,or_false,reduceCtorEq,false_or,Res.kn.injEq]at hm;rcases hm with ⟨e,_⟩|⟨e,_⟩|⟨e,_⟩<;>rw[e]at hb
    ·exact .inl ⟨.kn Fp (InstsR Fp pp cp ps),by simp[zB4],hb⟩
    ·exact .inl ⟨.kn Fs (BytesR Fs psl csl L),by simp[zB4],hb⟩
    ·exact(p6 b hb).imp (fun h=>⟨.kn (FW ux) (WK ux),by simp[zB4],h⟩) id
end
section
open Go.RowKit
def zAt (n:Nat) (v:Int):Int:=min (max v 0) (n - 1)
def zC1 (n:Nat) (x:InstD):InstD × Bool :=
 if x.kind=1 then ({kind:=x.kind,set:=x.set,next:=zAt n x.next},!eqS x.set zAG)
 else if x.kind=2 then ({kind:=x.kind,next:=zAt n x.next,other:=zAt n x.other},true)
 else if x.kind=3 then ({kind:=x.kind,slot:=min (max x.slot 0) 41,next:=zAt n x.next},true)
 else if x.kind=4 then ({kind:=x.kind,spot:=min (max x.spot 8) 13,next:=zAt n x.next},true)
 else if x.kind=5\/x.kind=6 then ({kind:=x.kind},true)
 else ({kind:=x.kind},false)
def eqI (x y:InstD):Bool:=(x.kind == y.kind)&&(eqS x.set y.set&&((x.next == y.next)&&((x.other == y.other)&&((x.slot == y.slot)&&(x.spot == y.spot)))))
theorem zLD (n:Nat) (hn:0<n) (x:InstD):((zC1 n x).2&&eqI x (zC1 n x).1)=zBG n x:=by
 obtain⟨k,s,a,b,c,d⟩:=x;unfold zC1 zBG inN zAt eqI;have hs:eqS s s=true:=zNj s;simp only
 by_cases h1:k=1
 ·subst h1;simp only[if_true,hs]
  generalize eqS s zAG=q
  rw[Bool.eq_iff_iff];cases q<;>simp<;>omega
 by_cases h2:k=2
 ·subst h2;simp only[if_true];simp only[show ¬ (2:Int)=1 by decide,if_false]
  generalize eqS s zAG=q
  rw[Bool.eq_iff_iff];cases q<;>simp<;>omega
 by_cases h3:k=3
 ·subst h3;simp only[show ¬ (3:Int)=1 by decide,show ¬ (3:Int)=2 by decide,if_false,if_true]
  generalize eqS s zAG=q
  rw[Bool.eq_iff_iff];cases q<;>simp<;>omega
 by_cases h4:k=4
 ·subst h4;simp only[show ¬ (4:Int)=1 by decide,show ¬ (4:Int)=2 by decide,show ¬ (4:Int)=3 by decide,if_false,if_true]
  generalize eqS s zAG=q
  rw[Bool.eq_iff_iff];cases q<;>simp<;>omega
 by_cases h5:k=5\/k=6
 ·simp only[if_neg h1,if_neg h2,if_neg h3,if_neg h4,if_pos h5]
  generalize eqS s zAG=q
  rw[Bool.eq_iff_iff];cases q<;>simp
  intros;constructor<;>(intros;omega)
 ·simp only[if_neg h1,if_neg h2,if_neg h3,if_neg h4,if_neg h5];rfl
end
section
open Go.RowKit Go.MapKept
def Sub (d:TypeDesc) (F:Value->Option Value) (es:Array MapEntry):Prop:=∀ e ∈ es.toList,IsKey d e.key/\F e.key=some e.val
def HasK (es:Array MapEntry) (k:Value):Prop:=∃ e ∈ es.toList,e.key=k
theorem Sub.nil (d:TypeDesc) (F:Value->Option Value):Sub d F #[]:=fun e he=>by simp at he
section
variable {P:Program} {w:World} {T kt et:TypeId} {d:TypeDesc} {F:Value->Option Value} {es:Array MapEntry} {c mb:Nat}
theorem Sub.push (h:Sub d F es) {k v:Value} (hk:IsKey d k) (hF:F k=some v) (b:Nat):Sub d F (es.push {key:=k,val:=v,born:=b}):=by
 intro e he;simp at he;rcases he with he|rfl
 ·exact h e (by simpa using he)
 ·exact⟨hk,hF⟩
theorem HasK.push {k k' v:Value} {b:Nat} (h:HasK es k'):HasK (es.push {key:=k,val:=v,born:=b}) k':=by
 obtain⟨e,he,hk⟩:=h;exact⟨e,(by simp;exact .inl (by simpa using he)),hk⟩
end
structure RelM (d:TypeDesc) (F:Value->Option Value) (n0:Nat) (w w':World):Prop where
 os:w'.os=w.os
 tape:w'.tape=w.tape
 output:w'.output=w.output
 size:w.heap.size<=w'.heap.size
 block:∀ k,k<w.heap.size->w'.heap[k]?=w.heap[k]?\/(n0<=k/\∃ es c es' c',w.heap[k]?=some (.map es c)/\w'.heap[k]?=some (.map es' c')/\(Sub d F es->Sub d F es'/\∀ x,HasK es x->HasK es' x))
section
variable {d:TypeDesc} {F:Value->Option Value} {n0:Nat}
theorem RelM.refl (w:World):RelM d F n0 w w:=⟨rfl,rfl,rfl,Nat.le_refl _,fun _ _=>.inl rfl⟩
theorem RelM.trans (u v w:World) (h:RelM d F n0 u v) (k:RelM d F n0 v w):RelM d F n0 u w:=by
 refine⟨k.os.trans h.os,k.tape.trans h.tape,k.output.trans h.output,Nat.le_trans h.size k.size,fun i hi=>?_⟩
 rcases h.block i hi with e1|⟨hn,es,c,es',c',e1,e2,e3⟩
 ·rcases k.block i (Nat.lt_of_lt_of_le hi h.size) with e2|⟨hn,es,c,es',c',f1,f2,f3⟩
  ·exact .inl (e2.trans e1)
  ·exact .inr ⟨hn,es,c,es',c',e1 ▸ f1,f2,f3⟩
 ·rcases k.block i (Nat.lt_of_lt_of_le hi h.size) with f1|⟨_,fs,x,fs',x',f1,f2,f3⟩
  ·exact .inr ⟨hn,es,c,es',c',e1,f1.trans e2,e3⟩
  ·rw[e2]at f1;cases f1
   exact .inr ⟨hn,es,c,fs',x',e1,f2,fun hs=>⟨(f3 (e3 hs).1).1,fun y hy=>(f3 (e3 hs).1).2 y ((e3 hs).2 y hy)⟩⟩
theorem RelM.of_below {w w':World} (h:Below w.heap.size w w'):RelM d F n0 w w':=⟨h.os,h.tape,h.output,h.size,fun k hk=>.inl (h.block k hk)⟩
theorem RelM.below {w w':World} (h:RelM d F w.heap.size w w'):Below w.heap.size w w' :=
 ⟨h.os,h.tape,h.output,h.size,fun k hk=>by rcases h.block k hk with e|⟨hn,_⟩;exact e;omega⟩
theorem RelM.cells {w w':World} (h:RelM d F n0 w w') {b:Nat} {cs:Array Value} {T:TypeId} {f:Nat × Nat} (hb:w.heap[b]?=some (.cells cs T f)):w'.heap[b]?=some (.cells cs T f):=by
 rcases h.block b (Array.getElem?_eq_some_iff.1 hb).1 with e|⟨_,es,c,es',c',e,_⟩
 ·exact e.trans hb
 ·rw[hb]at e;cases e
theorem RelM.cell {w w':World} (h:RelM d F n0 w w') {a:Addr} {v:Value} (hb:w.cell? a=some v):w'.cell? a=some v:=by
 rcases h.block a.block (by
  rcases Nat.lt_or_ge a.block w.heap.size with h1|h1
  ·exact h1
  ·unfold World.cell? at hb;simp[Array.getElem?_eq_none h1]at hb) with e|⟨_,es,c,es',c',e,_⟩
 ·unfold World.cell? at hb ⊢;rw[e];exact hb
 ·unfold World.cell? at hb;simp[e]at hb
section
variable {P:Program} {ops:Array Oper} {o:Oper} {a:Act} {w:World} {R:World->World->Prop} {S:Value->World->Prop}
theorem zB2 {t:Tmp} (hd:o.dst=some t) (h:zB5 P ops R o a w S):zB5 P ops R o a w (fun v w'=>S v w'/\(o.dst=none->v=zGF o a)):=by
 have hn:∀ v:Value,o.dst=none->v=zGF o a:=fun v e=>by rw[hd]at e;cases e
 unfold zB5 at h ⊢;split at h
 ·rename_i hw;rw[if_pos hw];exact Oper.wp_mono (fun a' w' ⟨v,e,h1,h2⟩=>⟨v,e,h1,h2,hn v⟩) h
 ·rename_i hw;rw[if_neg hw];exact⟨h,hn _⟩
end
end
end
section
open Go.RowKit
structure RelS (b0:Nat) (C:Array Value) (T:TypeId) (w w':World):Prop where
 os:w'.os=w.os
 tape:w'.tape=w.tape
 output:w'.output=w.output
 size:w.heap.size<=w'.heap.size
 old:∀ k,k<w.heap.size->k≠b0->w'.heap[k]?=w.heap[k]?
 at0:w'.heap[b0]?=w.heap[b0]?\/w'.heap[b0]?=some (.cells C T (0,0))\/w.heap.size<=b0
section
variable {b0:Nat} {C:Array Value} {T:TypeId}
theorem RelS.refl (w:World):RelS b0 C T w w:=⟨rfl,rfl,rfl,Nat.le_refl _,fun _ _ _=>rfl,.inl rfl⟩
theorem RelS.trans (u v w:World) (h:RelS b0 C T u v) (k:RelS b0 C T v w):RelS b0 C T u w:=by
 refine⟨k.os.trans h.os,k.tape.trans h.tape,k.output.trans h.output,Nat.le_trans h.size k.size,fun i h1 h2=>(k.old i (Nat.lt_of_lt_of_le h1 h.size) h2).trans (h.old i h1 h2),?_⟩
 have:=h.size;rcases k.at0 with e|e|e
 ·rcases h.at0 with f|f|f
  ·exact .inl (e.trans f)
  ·exact .inr (.inl (e.trans f))
  ·exact .inr (.inr f)
 ·exact .inr (.inl e)
 ·exact .inr (.inr (by omega))
theorem RelS.drew (w:World):RelS b0 C T w {w with drawn:=w.drawn+1}:=⟨rfl,rfl,rfl,Nat.le_refl _,fun _ _ _=>rfl,.inl rfl⟩
theorem RelS.of_below {w w':World} (h:Below w.heap.size w w'):RelS b0 C T w w':=⟨h.os,h.tape,h.output,h.size,fun k hk _=>h.block k hk,by
 by_cases hb:b0<w.heap.size
 ·exact .inl (h.block b0 hb)
 ·exact .inr (.inr (by omega))⟩
def zOI (b0:Nat) (C:Array Value) (T:TypeId) (v:Value) (w:World):Prop:=v=pt b0 0/\w.heap[b0]?=some (.cells C T (0,0))
theorem zIE:zF0 (RelS b0 C T) (zOI b0 C T):=fun v w w' ⟨e,h⟩ hr=>⟨e,by
 have hlt:=(Array.getElem?_eq_some_iff.1 h).1;rcases hr.at0 with f|f|f
 ·exact f.trans h
 ·exact f
 ·omega⟩
theorem HoldG.relS {M:Nat->Prop} {w0 w W:World} {l:List Res} (H:HoldG M w0 w l) {i:Nat} {cs:Array Value} (hi:At l i (.blk b0 cs T)) (hr:RelS b0 C T w W):∃ ds,(ds=cs\/ds=C)/\HoldG M w0 W (l.set i (.blk b0 ds T)):=by
 have hb:=H.blk hi;have hlt:=(Array.getElem?_eq_some_iff.1 hb.2).1;have hg:w.grownBy W (some b0):=⟨hr.os,hr.tape,hr.output,hr.size,fun k h1 h2=>hr.old k h1 (fun e=>h2 (by rw[e]))⟩
 rcases hr.at0 with f|f|f
 ·exact⟨cs,.inl rfl,H.upd hi.get hg ⟨hb.1,f.trans hb.2⟩ (fun _ e=>.inl e)⟩
 ·exact⟨C,.inr rfl,H.upd hi.get hg ⟨hb.1,f⟩ (fun _ e=>.inl e)⟩
 ·omega
theorem HoldG.laidS {M:Nat->Prop} {w0 w W:World} {l:List Res} (H:HoldG M w0 w l) {i:Nat} {cs:Array Value} (hi:At l i (.blk b0 cs T)) (hr:RelS b0 C T w W) {v:Value} (h:zOI b0 C T v W):HoldG M w0 W (l.set i (.blk b0 C T)) :=
 H.upd hi.get ⟨hr.os,hr.tape,hr.output,hr.size,fun k h1 h2=>hr.old k h1 (fun e=>h2 (by rw[e];rfl))⟩ ⟨(H.blk hi).1,h.2⟩ (fun _ e=>.inl e)
theorem zPD {P:Program} {ops:Array Oper} {o:Oper} {a:Act} {w:World} {S:TypeId} {m:Tmp} {y:Operand} (hg:Region.wanted o (yielded ops a.tmps)=true) (hop:o.op=.store S (.tmp m) y) (hdst:o.dst=none) (hm:a.eval (.tmp m)=.pointer (some ⟨b0,0,none⟩)) {cs:Array Value} (hb:w.heap[b0]?=some (.cells cs T (0,0))) (hs:cs.size=C.size) (hy:a.eval y=.agg C) (hT:zDD P S C.size=true) (h1:C.toList.all (·.oneCell')=true) :
  zB5 P ops (RelS b0 C T) o a w (fun v w'=>zOI b0 C T v w'/\(o.dst=none->v=zGF o a)):=by
 have hth:w.there b0 0 C.size:=fun j hj=>by
  rw[cell_of_row w b0 (0+j) cs T (0,0) hb];simp[World.frozen?,hb];omega
 unfold zB5;rw[if_pos hg];unfold Oper.wp;have hr':(execOp a.eval o).run P w=.ok .skip (w.setCells b0 0 C.toList):=by
  unfold execOp;simp only[hop,hm,hy,Instr.storeAt,Instr.sureAddr,Sem.run_bind,Sem.run_pure,Result.andThen_ok,run_storeVar_mid (P:=P) w b0 0 S C hth (by simpa [zDD] using hT) (by rw[Array.all_toList]at h1;exact h1)]
 rw[hr'];simp only[Oper.upon];have hg2:=zBc C.toList 0 w b0;have hh:=zBy C.toList 0 w b0 cs T _ hb;rw[zFL (by omega)]at hh
 refine⟨.pointer (some ⟨b0,0,none⟩),(by rw[hdst];rfl),⟨hg2.os,hg2.tape,hg2.output,hg2.size,fun j hj hne=>hg2.block j hj (fun e=>by cases e;exact hne rfl),.inr (.inl hh)⟩,⟨rfl,hh⟩,fun _=>?_⟩
 unfold zGF ownT;rw[hop];exact hm.symm
end
end
end Go.Proofs.YtphjgfjbiimkjaaGreat
