/-
  Laws of walks, and walks.
-/
import Derived.Test.YtphjgfjbiimkjaaGreatEc17
import Derived.LoopIn
import Derived.Test.YtphjgfjbiimkjaaGreatEc8
set_option linter.unusedVariables false
set_option linter.unusedSimpArgs false
set_option maxRecDepth 100000
set_option maxHeartbeats 16000000
namespace Go.Proofs.YtphjgfjbiimkjaaGreat
section
open Go.RowKit Go.Shelf
attribute [local go_sem] Oper.semAt_some
theorem zNr (p q:Option Addr) (n m c d:Nat) (W:World):(Instr.build 85 #[(0,.slice p n c),(1,.slice q m d)]).run Tryz.prog W=.ok (.agg #[.slice p n c,.slice q m d]) W:=by simp[go_sem]
theorem zOB (p q:Option Addr) (n m c d:Nat) (W:World):(Instr.build 87 #[(0,.agg #[.slice p n c,.slice q m d])]).run Tryz.prog W=.ok (.agg #[.slice p n c,.slice q m d,.int .i64 0,.bool false]) W:=by simp[go_sem]
theorem zQc {ops:Array Oper} {dst:Option Tmp} {ty:TypeId} {pos:String} {aft:Array Edge} {grd:Option (Nat × Bool)} {rest:List Oper} {a:Act} {w:World} {Q:Exit->Act->World->Prop} {x y:Operand} {p q:Option Addr} {n c m d:Nat} (h:wpList Tryz.prog ops Q rest (a.put dst (.agg #[.slice p n c,.slice q m d])) w) (hg:Region.wanted (⟨dst,.build 85 #[(0,x),(1,y)],ty,pos,aft,grd⟩:Oper) (yielded ops a.tmps)=true:=by first|rfl|exact zAT rfl (zAM rfl (by first|rfl|(simp only[pe];rfl)))) (h0:a.eval x=.slice p n c:=by first|(simp only[pe];done)|(simp only[pe];rfl)) (h1:a.eval y=.slice q m d:=by first|(simp only[pe];done)|(simp only[pe];rfl)):wpList Tryz.prog ops Q ((⟨dst,.build 85 #[(0,x),(1,y)],ty,pos,aft,grd⟩:Oper)::rest) a w :=
 zAh hg (by simp only[execOp,List.map_toArray,List.map_cons,List.map_nil,h0,h1,Sem.run_bind,zNr];rfl) h
theorem zQe {ops:Array Oper} {dst:Option Tmp} {ty:TypeId} {pos:String} {aft:Array Edge} {grd:Option (Nat × Bool)} {rest:List Oper} {a:Act} {w:World} {Q:Exit->Act->World->Prop} {x:Operand} {p q:Option Addr} {n c m d:Nat} (h:wpList Tryz.prog ops Q rest (a.put dst (.agg (zBl (.slice p n c) (.slice q m d) 0 false))) w) (hg:Region.wanted (⟨dst,.build 87 #[(0,x)],ty,pos,aft,grd⟩:Oper) (yielded ops a.tmps)=true:=by first|rfl|exact zAT rfl (zAM rfl (by first|rfl|(simp only[pe];rfl)))) (h0:a.eval x=.agg #[.slice p n c,.slice q m d]:=by first|(simp only[pe];done)|(simp only[pe];rfl)):wpList Tryz.prog ops Q ((⟨dst,.build 87 #[(0,x)],ty,pos,aft,grd⟩:Oper)::rest) a w :=
 zAh hg (by simp only[execOp,List.map_toArray,List.map_cons,List.map_nil,h0,Sem.run_bind,zOB];rfl) h
def atM (wb K:Nat) (fv:Value) (W:World):Nat:=2 * (match W.cell? ⟨wb,2,none⟩ with|some (.int _ n)=>K - n.toNat|_=>0)+(match fv with|.slice none _ _=>0|_=>1)
theorem zMY {wb K:Nat} {fv:Value} {W:World} {n:Int} (h:W.cell? ⟨wb,2,none⟩=some (.int .i64 n)):atM wb K fv W=2 * (K - n.toNat)+(match fv with|.slice none _ _=>0|_=>1):=by unfold atM;rw[h]
theorem zO9 (M:Nat->Prop) (w0:World) (pp:Option Addr) (cp:Nat) (ps:List InstD) (psl:Option Addr) (csl:Nat) (L:Str) (Fp Fs:Nat->Prop) (hset:∀ x ∈ ps,zAb x.set) (hL:L.length<=1000) (hFp:∀ b,Fp b->b<w0.heap.size) (hFs:∀ b,Fs b->b<w0.heap.size) (hp:InstsR Fp pp cp ps w0) (hs:BytesR Fs psl csl L w0) (hM:∀ b,M b->¬ Fp b/\¬ Fs b)
  (base wb:Nat) (a:Int) (en:Bool) (lc:List Res) (hlc:lc.all zAY=true) (ha:0<=a/\a<=1001) {w:World} (H:HoldG M w0 w (.blk wb (zBl (.slice pp ps.length cp) (.slice psl L.length csl) a en) 87::lc)) {R:Ending->World->Prop}
  (k0:∀ w',zBu ps L a en=none->KeepsNC base w w'->HoldG M w0 w' (.blk wb (zBl (.slice pp ps.length cp) (.slice psl L.length csl) a en) 87::lc)->R (.returned (.slice none 0 0)) w')
  (k1:∀ sl g c w',zBu ps L a en=some sl->KeepsNC base w w'->HoldG M w0 w' (.row (.slice (some ⟨g,0,none⟩) sl.length c) 3 1 sl.length (sl.map (.int .i64))::.blk wb (zBl (.slice pp ps.length cp) (.slice psl L.length csl) (atN sl) (endN sl)) 87::lc)->R (.returned (.slice (some ⟨g,0,none⟩) sl.length c)) w') :
  Calls Tryz.prog 35 #[.pointer (some ⟨wb,0,none⟩)] w R:=by
 have hpl:(Res.blk wb (zBl (.slice pp ps.length cp) (.slice psl L.length csl) a en) 87::lc).all zAY=true:=by simpa [zAY] using hlc
 have hKN:∀ V,zCO w (.blk wb (zBl (.slice pp ps.length cp) (.slice psl L.length csl) a en) 87::lc) V->KeepsNC base w V:=fun V h=>KeepsNC.of_plain base H hpl h
 have H1:=H.framed;obtain⟨rS,hrS⟩:∃ rS,zCO w (.blk wb (zBl (.slice pp ps.length cp) (.slice psl L.length csl) a en) 87::lc)=rS:=⟨_,rfl⟩;obtain⟨rF,hrF⟩:∃ rF,zB3 w (.blk wb (zBl (.slice pp ps.length cp) (.slice psl L.length csl) a en) 87::lc)=rF:=⟨_,rfl⟩;rw[hrS]at H1 hKN;rw[hrF]at H1;have hb:=H.keep
 have H2:=H1.know Fp (InstsR Fp pp cp ps) (fun b hbF=>Nat.lt_of_lt_of_le (hFp b hbF) H.keep.size) (fun i r hr b hpl hbF=>by
  rcases(Res.Holds.lt (H1.all i r hr) b hpl).1 with h1|h1
  ·have h2:=hFp b hbF;omega
  ·exact(hM b h1).1 hbF) (fun V hV=>hp.kept fun b hbF=>(hV b hbF).trans (hb.old b (hFp b hbF) (fun h=>(hM b h).1 hbF)))
 have H3:=H2.know Fs (BytesR Fs psl csl L) (fun b hbF=>Nat.lt_of_lt_of_le (hFs b hbF) H.keep.size) (fun i r hr b hpl hbF=>by
  rcases(Res.Holds.lt (H2.all i r hr) b hpl).1 with h1|h1
  ·have h2:=hFs b hbF;omega
  ·exact(hM b h1).2 hbF) (fun V hV=>hs.kept fun b hbF=>(hV b hbF).trans (hb.old b (hFs b hbF) (fun h=>(hM b h).2 hbF)))
 have H4:=H3.perms (show List.Perm _ ([.blk wb (zBl (.slice pp ps.length cp) (.slice psl L.length csl) a en) 87,.kn Fp (InstsR Fp pp cp ps),.kn Fs (BytesR Fs psl csl L)]++(.kn rF rS::lc)) from by
  simp only[List.cons_append,List.nil_append,List.append_assoc];refine List.Perm.cons _ ?_
  refine(List.perm_append_comm (l₁:=lc) (l₂:=[_,_,_])).trans ?_
  simp only[List.cons_append,List.nil_append];refine(List.Perm.swap _ _ _).trans ?_
  exact List.Perm.cons _ (List.Perm.swap _ _ _))
 clear H1 H2 H3;refine(zPT M w0 w wb a en pp cp ps psl csl L Fp Fs hset hL ha H4.left).mono fun e w' h=>?_
 unfold zQX at h
 cases hn:zBu ps L a en with
 | none =>
  rw[hn]at h;obtain⟨rfl,T⟩:=h;have H5:=(Turned.frame H4 T).hold;simp only[ca]at H5;refine k0 w' hn (hKN _ (H5.kn (i:=3) i_3)) (HoldG.left (a:=.blk wb (zBl (.slice pp ps.length cp) (.slice psl L.length csl) a en) 87::lc) (ext:=[.kn Fp (InstsR Fp pp cp ps),.kn Fs (BytesR Fs psl csl L),.kn rF rS]) (H5.perms ?_));exact List.Perm.cons _ (List.perm_append_comm (l₁:=[Res.kn Fp (InstsR Fp pp cp ps),Res.kn Fs (BytesR Fs psl csl L),Res.kn rF rS]) (l₂:=lc))
 | some sl =>
  rw[hn]at h;obtain⟨q,c,rfl,T⟩:=h;have H5:=(Turned.frame H4 T).hold;simp only[ca]at H5;have hK:=hKN _ (H5.kn (i:=4) i_4);obtain⟨q2,c2,e2,_,_,hq⟩:=H5.rowShape (i:=3) i_3;simp only[Value.slice.injEq,true_and]at e2;obtain⟨rfl,rfl⟩:=e2;have h2:=(zBU hn).1;obtain⟨g,rfl⟩:=hq (by omega)
  refine k1 sl g c w' hn hK (HoldG.left (a:=.row (.slice (some ⟨g,0,none⟩) sl.length c) 3 1 sl.length (sl.map (.int .i64))::.blk wb (zBl (.slice pp ps.length cp) (.slice psl L.length csl) (atN sl) (endN sl)) 87::lc) (ext:=[.kn Fp (InstsR Fp pp cp ps),.kn Fs (BytesR Fs psl csl L),.kn rF rS]) (H5.perms ?_));refine List.Perm.trans ?_ (List.Perm.swap _ _ _);refine List.Perm.cons _ ?_
  refine List.Perm.trans (List.Perm.trans (List.Perm.cons _ (List.Perm.swap _ _ _)) (List.Perm.swap _ _ _)) ?_
  refine List.Perm.cons _ ?_
  exact(List.perm_append_comm (l₁:=[.kn Fp (InstsR Fp pp cp ps),.kn Fs (BytesR Fs psl csl L),.kn rF rS]) (l₂:=lc))
def NXT (M:Nat->Prop) (w0:World) (wb:Nat) (pv sv:Value) (ps:List InstD) (L:Str) (v:Nat) (lc:List Res) (fv:Value) (W:World):Prop :=
 (fv=.slice none 0 0/\v=(zAX ps L).length/\∃ a e,HoldG M w0 W (.blk wb (zBl pv sv a e) 87::lc)) \/
 (∃ sl g c,fv=.slice (some ⟨g,0,none⟩) sl.length c/\(zAX ps L)[v]?=some sl/\(zAX ps L).drop (v+1)=zC4 ps L (L.length+2) (atN sl) (endN sl)/\(0<=atN sl/\atN sl<=1001)/\HoldG M w0 W (.row (.slice (some ⟨g,0,none⟩) sl.length c) 3 1 sl.length (sl.map (.int .i64))::.blk wb (zBl pv sv (atN sl) (endN sl)) 87::lc))
theorem zQQ (M:Nat->Prop) (w0:World) (pp:Option Addr) (cp:Nat) (ps:List InstD) (psl:Option Addr) (csl:Nat) (L:Str) (Fp Fs:Nat->Prop) (hset:∀ x ∈ ps,zAb x.set) (hL:L.length<=1000) (hFp:∀ b,Fp b->b<w0.heap.size) (hFs:∀ b,Fs b->b<w0.heap.size) (hp:InstsR Fp pp cp ps w0) (hs:BytesR Fs psl csl L w0) (hM:∀ b,M b->¬ Fp b/\¬ Fs b)
  (base wb:Nat) (a:Int) (en:Bool) (v:Nat) (lc:List Res) (hlc:lc.all zAY=true) (ha:0<=a/\a<=1001) (hvl:v<=(zAX ps L).length) (hv:(zAX ps L).drop v=zC4 ps L (L.length+2) a en) {w:World} (H:HoldG M w0 w (.blk wb (zBl (.slice pp ps.length cp) (.slice psl L.length csl) a en) 87::lc)) {R:Ending->World->Prop}
  (k:∀ fv w',NXT M w0 wb (.slice pp ps.length cp) (.slice psl L.length csl) ps L v lc fv w'->KeepsNC base w w'->atM wb (L.length+3) fv w'<2 * ((L.length+3) - a.toNat)+1->R (.returned fv) w') :
  Calls Tryz.prog 35 #[.pointer (some ⟨wb,0,none⟩)] w R:=by
 have hst:=zGn (p:=ps) (s:=L) (a:=a) (e:=en) (n:=L.length+2) (by omega)
 refine zO9 M w0 pp cp ps psl csl L Fp Fs hset hL hFp hFs hp hs hM base wb a en lc hlc ha H (fun w' hn hK H'=>?_) (fun sl g c w' hn hK H'=>?_)
 ·rw[hn]at hst;have hl:v=(zAX ps L).length:=by
   have h1:=congrArg List.length (hv.trans hst);rw[List.length_drop,List.length_nil]at h1;omega
  refine k _ w' (.inl ⟨rfl,hl,a,en,H'⟩) hK ?_
  ·rw[zMY (H'.cell (i:=0) .zero 2)];simp
 ·rw[hn]at hst;obtain⟨n1,n2,n3,n4,n5,n6,n7,_,_⟩:=zBU hn;have hd:=hv.trans hst;have hg:(zAX ps L)[v]?=some sl:=by
   have:=congrArg (fun l=>l[0]?) hd
   simpa [List.getElem?_drop] using this
  have hdr:(zAX ps L).drop (v+1)=zC4 ps L (L.length+2) (atN sl) (endN sl):=by
   have:=congrArg List.tail hd
   simpa [List.tail_drop] using this
  have hle:atN sl<=L.length+1:=by unfold atN;split<;>omega
  refine k _ w' (.inr ⟨sl,g,c,rfl,hg,hdr,⟨by omega,by omega⟩,H'⟩) hK ?_
  rw[zMY (H'.cell (i:=1) i_1 2)];simp only;omega
theorem zJF (M:Nat->Prop) (w0:World) (pp:Option Addr) (cp:Nat) (ps:List InstD) (psl:Option Addr) (csl:Nat) (L:Str) (Fp Fs:Nat->Prop) (hset:∀ x ∈ ps,zAb x.set) (hL:L.length<=1000) (hFp:∀ b,Fp b->b<w0.heap.size) (hFs:∀ b,Fs b->b<w0.heap.size) (hp:InstsR Fp pp cp ps w0) (hs:BytesR Fs psl csl L w0) (hM:∀ b,M b->¬ Fp b/\¬ Fs b)
  (b1 b2:Nat) (C:Nat->List Res->Prop) (Cx:Nat->Code->List Res->Prop) (hC:∀ v l,C v l->l.all zAY=true) (l:Nat) (B:Option Code->World->Prop) (base:Nat) (hB:∀ j W W',KeepsNC base W W'->B j W->B j W')
  (hY:∀ (v:Nat) (sl:zAP) (g c:Nat) (lc E:List Res) W1,(zAX ps L)[v]?=some sl->C v lc->E.all zAY=true->HoldG M w0 W1 (.row (.slice (some ⟨g,0,none⟩) sl.length c) 3 1 sl.length (sl.map (.int .i64))::lc++E)->B none W1->YieldAt Fence.wide 7 Tryz.prog l #[.slice (some ⟨g,0,none⟩) sl.length c] W1 fun e W'=>∃ b,e=.returned (.bool b)/\∃ j:Option Code,b=j.isNone/\(∃ lc',(match j with|none=>C (v+1) lc'|some k=>Cx v k lc')/\HoldG M w0 W' (lc'++E))/\B j W')
  (W:World) (lc0:List Res) (hc0:C 0 lc0) (i1 i2:Nat) (ha1:At lc0 i1 (.blk b1 #[.slice pp ps.length cp] 23)) (ha2:At lc0 i2 (.blk b2 #[.slice psl L.length csl] 25)) (h0:HoldG M w0 W lc0) (hB0:B none W) :
  CallsIn Fence.wide 8 Tryz.prog 34 #[.func (.yield l) #[] #[],.pointer (some ⟨b1,0,none⟩),.pointer (some ⟨b2,0,none⟩)] W fun e W'=>∃ v j,e=.returned v/\B j W'/\match j with|none=>∃ lc,C (zAX ps L).length lc/\HoldG M w0 W' lc|some k=>∃ v lc,v<(zAX ps L).length/\Cx v k lc/\HoldG M w0 W' lc:=by
 refine callsIn_of_wp Tryz.func34 rfl trivial ?_ rfl;simp only[Tryz.ntmps34,List.size_toArray,List.length_cons,List.length_nil,Nat.reduceAdd,Nat.reduceSub,Array.replicate_succ,Array.replicate_zero,List.push_toArray,List.append_toArray,List.nil_append,List.cons_append];have H:=h0;clear h0;have hKN:=Lib.hid fun V=>KeepsNC.of_plain (W':=V) base H (hC 0 lc0 hc0)
 have H1:=H.framed;obtain⟨rS,hrS⟩:∃ rS,zCO W lc0=rS:=⟨_,rfl⟩;obtain⟨rF,hrF⟩:∃ rF,zB3 W lc0=rF:=⟨_,rfl⟩;rw[hrS]at H1 hKN;rw[hrF]at H1;clear hrS hrF H;have H:=H1.perms (show List.Perm _ (.kn rF rS::lc0) from List.perm_append_comm)
 clear H1;have hnx:=Lib.hid (fun wb a en v lc hlc ha hvl hv w H R=>zQQ M w0 pp cp ps psl csl L Fp Fs hset hL hFp hFs hp hs hM base wb a en v lc hlc ha hvl hv (w:=w) H (R:=R))
 clear hset hFp hFs hp hs hM;have HY:=Lib.hid hY;clear hY;have HB:=Lib.hid hB;clear hB;have HC:=Lib.hid hC;clear hC;have HC0:=Lib.hid hc0;clear hc0;refine zGo (wpIn_seq ?_);rw[wpIn_wide]
 go_wp2_with (first|((with_reducible refine gL ?_);refine zAE wtd_ _ _ rfl rfl H (i:=i1+1) (.succ ha1) zCI rfl ?_)|((with_reducible refine gL ?_);refine zAE wtd_ _ _ rfl rfl H (i:=i2+1) (.succ ha2) zA2 rfl ?_)|((with_reducible refine gZ ?_);refine zQc ?_)|((with_reducible refine gZ ?_);refine zQe ?_)|((with_reducible refine kg 10 ?_);(first|refine kA 10 H ?_|refine kS 10 H ?_|refine kB 10 H ?_);clear H;intro b10 w H;try simp only[nr]at H)|fail)
 have hB2:B none w:=HB.out none W w (hKN.out w (H.kn (i:=0) .zero)) hB0;have H2:HoldG M w0 w (.blk b10 (zBl (.slice pp ps.length cp) (.slice psl L.length csl) 0 false) 87::lc0):=by
  refine HoldG.left (ext:=[.kn rF rS]) (H.perms ?_);refine(List.perm_append_comm (l₁:=Res.kn rF rS::lc0) (l₂:=[.blk b10 (zBl (.slice pp ps.length cp) (.slice psl L.length csl) 0 false) 87])).trans ?_
  exact List.Perm.cons _ (List.perm_append_comm (l₁:=[Res.kn rF rS]) (l₂:=lc0))
 clear H hKN hB0;refine wpIn_seq (wpIn_label ?_);refine wpIn_seq ?_
 rw[wpIn_wide]
 go_wp2_with (first|(go_at_call 35;refine hnx.out b10 0 false 0 lc0 (HC.out _ _ HC0.out) ⟨by omega,by omega⟩ (Nat.zero_le _) rfl w H2 _ ?_;intro fv w' hN hK hM))
 have hB3:=HB.out none w w' hK hB2;clear hM hK hB2 H2;refine wpIn_block ?_
 gi_loopw [5] (fun fv wr=>∃ (v:Nat) (lc:List Res),Hid (C v lc/\B none wr)/\NXT M w0 b10 (.slice pp ps.length cp) (.slice psl L.length csl) ps L v lc fv wr) (fun fv wr=>atM b10 (L.length+3) fv wr)
 case atStart=>exact⟨0,lc0,Lib.hid ⟨HC0.out,hB3⟩,hN⟩
 case round =>
  clear hN hB3;obtain⟨v,lc,G,hN⟩:=hrel;rcases hN with ⟨rfl,hv,a,e,H⟩|⟨sl,g,c,rfl,hv,hd,ha,H⟩
  ·rw[wpIn_wide]
   go_wp2_with (first|((with_reducible refine gNF ?_);refine nF ?_))
   refine⟨rfl,.tuple #[],(by first|rfl|simp[results,Tryz.results34,go_sem]),?_⟩
   exact⟨_,none,rfl,G.out.2,lc,hv ▸ G.out.1,HoldG.left (ext:=[_]) (H.perms (List.perm_append_comm (l₁:=[_]) (l₂:=lc)))⟩
  ·have hE:HoldG M w0 wr (.row (.slice (some ⟨g,0,none⟩) sl.length c) 3 1 sl.length (sl.map (.int .i64))::lc++[.blk b10 (zBl (.slice pp ps.length cp) (.slice psl L.length csl) (atN sl) (endN sl)) 87]):=H.perms (List.Perm.cons _ (List.perm_append_comm (l₁:=[_]) (l₂:=lc)));have hlt:v<(zAX ps L).length:=(List.getElem?_eq_some_iff.1 hv).1;have hat:=zMY (K:=L.length+3) (fv:=.slice (some ⟨g,0,none⟩) sl.length c) (H.cell (i:=1) i_1 2)
   have hY2:=HY.out v sl g c lc _ wr hv G.out.1 (by rfl) hE G.out.2
   clear hE H G;refine wpIn_seq ?_
   rw[wpIn_wide]
   go_wp2_with (first|((with_reducible refine gNF ?_);refine nFs ?_))
   refine wpIn_seq (wpIn_block (wpIn_seq (wpIn_region_lit ?_)));refine zIT (by rintro⟨_,_,⟨_,h⟩,_⟩;cases h) [_,_] [_,_] _ _ ?_
   go_wp2_with fail
   refine zLn rfl rfl rfl rfl hY2 ?_
   clear hY2;rintro b W' ⟨jj,rfl,⟨lc',hc',H3⟩,hB3⟩
   cases jj with
   | none =>
    have H4:HoldG M w0 W' (.blk b10 (zBl (.slice pp ps.length cp) (.slice psl L.length csl) (atN sl) (endN sl)) 87::lc'):=H3.perms (List.perm_append_comm (l₁:=lc') (l₂:=[_]));refine zIT (by rintro⟨_,_,⟨_,h⟩,_⟩;cases h) [_] [] _ _ ?_
    go_wp2_with fail
    refine(show Code.wpIn Fence.wide 8 _ _ _ _ _ from ?_)
    rw[wpIn_wide]
    go_wp2_with fail
    rw[wpIn_wide]
    go_wp2_with (first|(go_at_call 35;refine hnx.out b10 _ _ (v+1) lc' (HC.out _ _ hc') ha hlt hd W' H4 _ ?_;intro fv w' hN hK hM))
    refine⟨⟨fv,⟨v+1,lc',Lib.hid ⟨hc',HB.out none W' w' hK hB3⟩,hN⟩,?_⟩,?_⟩
    ·exact⟨_,_,_,_,_,_,_,_,rfl⟩
    ·exact hM
   | some kk =>
    refine zIT (by rintro⟨_,_,⟨_,h⟩,_⟩;cases h) [_] [] _ _ ?_
    go_wp2_with fail
    refine(show Code.wpIn Fence.wide 8 _ _ _ _ _ from ?_)
    rw[wpIn_wide]
    go_wp2_with fail
    refine⟨rfl,.tuple #[],(by first|rfl|simp[results,Tryz.results34,go_sem]),?_⟩
    exact⟨⟨_,rfl⟩,some kk,hB3,v,hlt,lc',hc',HoldG.left H3⟩
theorem zOo (M:Nat->Prop) (w0:World) (pp:Option Addr) (cp:Nat) (ps:List InstD) (psl:Option Addr) (csl:Nat) (L:Str) (Fp Fs:Nat->Prop) (hset:∀ x ∈ ps,zAb x.set) (hL:L.length<=1000) (hFp:∀ b,Fp b->b<w0.heap.size) (hFs:∀ b,Fs b->b<w0.heap.size) (hp:InstsR Fp pp cp ps w0) (hs:BytesR Fs psl csl L w0) (hM:∀ b,M b->¬ Fp b/\¬ Fs b)
  (b1 b2:Nat) (C:Nat->List Res->Prop) (Cx:Nat->Code->List Res->Prop) (hC:∀ v l,C v l->l.all zAY=true) (l:Nat) (B:Option Code->World->Prop) (base:Nat) (hB:∀ j W W',KeepsNC base W W'->B j W->B j W')
  (hY:∀ (v:Nat) (sl:zAP) (g c:Nat) (lc E:List Res) W1,(zAX ps L)[v]?=some sl->C v lc->E.all zAY=true->HoldG M w0 W1 (.row (.slice (some ⟨g,0,none⟩) sl.length c) 3 1 sl.length (sl.map (.int .i64))::lc++E)->B none W1->YieldAt Fence.wide 7 Tryz.prog l #[.slice (some ⟨g,0,none⟩) sl.length c] W1 fun e W'=>∃ b,e=.returned (.bool b)/\∃ j:Option Code,b=j.isNone/\(∃ lc',(match j with|none=>C (v+1) lc'|some k=>Cx v k lc')/\HoldG M w0 W' (lc'++E))/\B j W')
  (W:World) (lc0:List Res) (hc0:C 0 lc0) (h0:HoldG M w0 W (.blk b1 #[.slice pp ps.length cp] 23::.blk b2 #[.slice psl L.length csl] 25::lc0)) (hB0:B none W) :
  CallsIn Fence.wide 8 Tryz.prog 34 #[.func (.yield l) #[] #[],.pointer (some ⟨b1,0,none⟩),.pointer (some ⟨b2,0,none⟩)] W fun e W'=>∃ v j,e=.returned v/\B j W'/\match j with|none=>∃ lc,C (zAX ps L).length lc/\HoldG M w0 W' lc|some k=>∃ v lc,v<(zAX ps L).length/\Cx v k lc/\HoldG M w0 W' lc:=by
 refine(zJF M w0 pp cp ps psl csl L Fp Fs hset hL hFp hFs hp hs hM b1 b2 (fun v lc'=>∃ lc,lc'=.blk b1 #[.slice pp ps.length cp] 23::.blk b2 #[.slice psl L.length csl] 25::lc/\C v lc) (fun v k lc'=>∃ lc,lc'=.blk b1 #[.slice pp ps.length cp] 23::.blk b2 #[.slice psl L.length csl] 25::lc/\Cx v k lc) (fun v l h=>by obtain⟨lc,rfl,h⟩:=h;simpa [zAY] using hC v lc h) l B base hB (fun v sl g c lc' E W1 hv hc hE hW hB1=>?_) W _ ⟨lc0,rfl,hc0⟩ 0 1 .zero i_1 h0 hB0).mono fun e W' h=>?_
 ·obtain⟨lc,rfl,hc⟩:=hc;have hp1:∀ (r x y:Res) (A:List Res),(r::(x::y::A)++E).Perm (r::A++(x::y::E)):=fun r x y A=>by
   refine List.Perm.cons _ ?_
   show (([x,y]++A)++E).Perm (A++([x,y]++E))
   rw[← List.append_assoc];exact List.Perm.append_right _ List.perm_append_comm
  refine(hY v sl g c lc (.blk b1 #[.slice pp ps.length cp] 23::.blk b2 #[.slice psl L.length csl] 25::E) W1 hv hc (by simpa [zAY] using hE) (hW.perms (hp1 _ _ _ _)) hB1).mono fun e W' h=>?_
  obtain⟨b,rfl,j,rfl,⟨lc2,h2,h3⟩,h4⟩:=h;refine⟨_,rfl,j,rfl,⟨.blk b1 #[.slice pp ps.length cp] 23::.blk b2 #[.slice psl L.length csl] 25::lc2,?_,h3.perms ?_⟩,h4⟩
  ·cases j with
   | none=>exact⟨lc2,rfl,h2⟩
   | some k=>exact⟨lc2,rfl,h2⟩
  ·have hp2:∀ (x y:Res) (A:List Res),(A++(x::y::E)).Perm ((x::y::A)++E):=fun x y A=>by
    show (A++([x,y]++E)).Perm (([x,y]++A)++E)
    rw[← List.append_assoc];exact List.Perm.append_right _ List.perm_append_comm
   exact hp2 _ _ _
 ·obtain⟨v,j,h1,h2,h3⟩:=h;refine⟨v,j,h1,h2,?_⟩
  have hdrop:∀ (x y:Res) (A:List Res),HoldG M w0 W' (x::y::A)->HoldG M w0 W' A:=fun x y A h=>HoldG.left (ext:=[x,y]) (h.perms (List.perm_append_comm (l₁:=[x,y]) (l₂:=A)))
  cases j with
  | none=>obtain⟨_,⟨lc,rfl,hc⟩,hH⟩:=h3;exact⟨lc,hc,hdrop _ _ _ hH⟩
  | some k=>obtain⟨v,_,hv,⟨lc,rfl,hc⟩,hH⟩:=h3;exact⟨v,lc,hv,hc,hdrop _ _ _ hH⟩
abbrev zAV:=zAP × Option Addr × Nat
def zAg (x:zAV):Value:=.slice x.2.1 x.1.length x.2.2
def RowsR (F:Nat->Prop) (p:Option Addr) (c:Nat) (xs:List zAV) (V:World):Prop:=RdN 1 V F (.slice p xs.length c) (xs.map fun x=>#[zAg x])/\∀ x ∈ xs,IntsR F x.2.1 x.2.2 x.1 V
section
variable {F:Nat->Prop} {p:Option Addr} {n c:Nat} {xs:List zAV} {V W w0:World}
theorem RowsR.kept (h:RowsR F p c xs W) (hV:∀ b,F b->V.heap[b]?=W.heap[b]?):RowsR F p c xs V:=⟨RdN.kept h.1 hV,fun x hx=>(h.2 x hx).kept hV⟩
theorem RowsR.bound (h:RowsR F p c xs W):xs.length<=c/\c<=9223372036854775807:=by
 obtain⟨p',c',e,h1,h2,_⟩:=h.1;simp only[Value.slice.injEq]at e;obtain⟨rfl,_,rfl⟩:=e;rw[List.length_map]at h1;exact⟨h1,by simpa [maxLen] using h2⟩
theorem RowsR.at (h:RowsR F p c xs W) (hn:0<xs.length):∃ b off,p=some ⟨b,off,none⟩:=by
 obtain⟨p',c',e,_,_,_,h3⟩:=h.1;simp only[Value.slice.injEq]at e;obtain⟨rfl,_,rfl⟩:=e;obtain⟨b,off,e2,_⟩:=h3 0 #[zAg xs[0]] (by rw[List.getElem?_map,List.getElem?_eq_getElem hn];rfl)
 exact⟨b,off,e2⟩
theorem RowsR.cell {b off:Nat} (h:RowsR F (some ⟨b,off,none⟩) c xs W) {j:Nat} {x:zAV} (hj:xs[j]?=some x):W.cell? ⟨b,off+j,none⟩=some (zAg x):=by
 obtain⟨p',c',e,_,_,_,h3⟩:=h.1;obtain⟨b',off',e2,_,_,h4⟩:=h3 j #[zAg x] (by rw[List.getElem?_map,hj];rfl)
 simp only[Value.slice.injEq]at e;obtain⟨rfl,_,rfl⟩:=e;simp only[Option.some.injEq,Addr.mk.injEq]at e2;obtain⟨rfl,rfl,_⟩:=e2;have:=h4 0 (by omega)
 simpa using this
theorem RowsR.nil (F:Nat->Prop) (V:World):RowsR F none 0 [] V:=⟨RdN.nil ..,fun x hx=>by cases hx⟩
end
theorem zCk (q q2:Option Addr) (c c2:Nat) (xs ys:List zAV) (F G:Nat->Prop) (w0:World) (hxy:xs.map (·.1)=ys.map (·.1)) (hF:∀ b,F b->b<w0.heap.size) (hG:∀ b,G b->b<w0.heap.size) (h1:RowsR F q c xs w0) (h2:RowsR G q2 c2 ys w0) :
  Calls Tryz.prog 12 #[.slice q xs.length c,.slice q2 ys.length c2] w0 (Rt (.bool true) w0):=by
 have hb1:=h1.bound;have hat1:=h1.at;have hat2:=h2.at
 have H:=((Hold.start w0).know F (RowsR F q c xs) hF (fun i r h=>by simp at h) (fun V hV=>h1.kept hV)).know G (RowsR G q2 c2 ys) hG (fun i r h=>by
  rcases i with _|i
  ·simp at h;subst h;intro b hb;cases hb
  ·simp at h) (fun V hV=>h2.kept hV)
 simp only[ca]at H;clear h1 h2;have hl:ys.length=xs.length:=by have:=congrArg List.length hxy;simpa using this.symm
 obtain⟨n,hn⟩:∃ n,xs.length=n:=⟨_,rfl⟩;have HN:=Lib.hid hn;have HL:=Lib.hid hl;have HXY:=Lib.hid hxy;rw[hl,hn]at hat2 ⊢;rw[hn]at hb1 hat1;clear hn hl hxy;have hne:((n:Int) != (n:Int))=false:=by simp
 go_enter Tryz.func12,Tryz.ntmps12
 go_wp2_with fail
 go_loopw [5] (fun i wr=>∃ k:Nat,k<=n/\i=.int .i64 k/\Hold w0 wr [.kn F (RowsR F q c xs),.kn G (RowsR G q2 c2 ys)]) (fun i _=>n - (intOf i).toNat)
 case atStart=>exact⟨0,by omega,rfl,H⟩
 case round =>
  clear H;obtain⟨k,hk,rfl,H⟩:=hrel
  by_cases hlt:k<n
  ·have dk:decide (k<n)=true:=decide_eq_true hlt;have dk2:decide ((k:Int)<(n:Int))=true:=decide_eq_true (by omega)
   obtain⟨b1,o1,rfl⟩:=hat1 (by omega)
   obtain⟨b2,o2,rfl⟩:=hat2 (by omega)
   have hkx:k<xs.length:=by rw[HN.out];exact hlt
   have hky:k<ys.length:=by rw[HL.out];exact hkx
   obtain⟨⟨s,px,cx⟩,hx⟩:∃ x,xs[k]?=some x:=⟨_,List.getElem?_eq_getElem hkx⟩;obtain⟨⟨s2,py,cy⟩,hy⟩:∃ y,ys[k]?=some y:=⟨_,List.getElem?_eq_getElem hky⟩;have hss:s2=s:=by
    have:=congrArg (fun l=>l[k]?) HXY.out
    simp only[List.getElem?_map,hx,hy,Option.map_some,Option.some.injEq]at this;exact this.symm
   subst hss;have HC1:=Lib.hid (fun V (h:RowsR F (some ⟨b1,o1,none⟩) c xs V)=>h.cell hx)
   have HC2:=Lib.hid (fun V (h:RowsR G (some ⟨b2,o2,none⟩) c2 ys V)=>h.cell hy)
   have HS:=Lib.hid (fun V (h1:RowsR F (some ⟨b1,o1,none⟩) c xs V) (h2:RowsR G (some ⟨b2,o2,none⟩) c2 ys V) (g1:∀ b,F b->b<V.heap.size) (g2:∀ b,G b->b<V.heap.size)=>zIV px py cx cy s2 F G V g1 g2 (h1.2 _ (List.mem_of_getElem? hx)) (h2.2 _ (List.mem_of_getElem? hy)))
   clear hx hy hkx hky
   go_upto_region 6 with fail
   refine wr_ 10 [fun v _=>v=.slice (some ⟨b1,o1,none⟩) n c,fun v _=>v=.int .i64 (k:Int),fun v _=>v=.pointer (some ⟨b1,o1+k,none⟩),fun v _=>v=.slice px s2.length cx,fun v _=>v=.slice (some ⟨b2,o2,none⟩) n c2,fun v _=>v=.int .i64 (k:Int),fun v _=>v=.pointer (some ⟨b2,o2+k,none⟩),fun v _=>v=.slice py s2.length cy,fun v _=>v=.bool true,fun v _=>v=.bool false] ?ob ?en
   case ob =>
    refine⟨?_,?_,?_,?_,?_,?_,?_,?_,?_,?_,trivial⟩<;>intro A W h
    ·exact zAB rfl rfl (h.f 0)
    ·exact zAB rfl rfl (h.f 5)
    ·exact zAU (sz:=1) Tryz.underlying47 (fun w=>by kernel_rfl) rfl rfl (h.d 0 17) (h.d 1 18) (by omega) (by omega)
    ·exact zAA rfl (zAC rfl (h.d 2 19) zAv (HC1.out _ ((H.call h.below).kn (i:=0) .zero))) (by decide)
    ·exact zAB rfl rfl (h.f 1)
    ·exact zAB rfl rfl (h.f 5)
    ·exact zAU (sz:=1) Tryz.underlying47 (fun w=>by kernel_rfl) rfl rfl (h.d 4 21) (h.d 5 22) (by omega) (by omega)
    ·exact zAA rfl (zAC rfl (h.d 6 23) zAv (HC2.out _ ((H.call h.below).kn (i:=1) i_1))) (by decide)
    ·exact zAc rfl rfl (enters_of Tryz.func18 (by kernel_rfl) rfl) (zBm ⟨(h.d 3 20),(h.d 7 24)⟩) (HS.out _ ((H.call h.below).kn (i:=0) .zero) ((H.call h.below).kn (i:=1) i_1) ((H.call h.below).knlt (i:=0) .zero) ((H.call h.below).knlt (i:=1) i_1))
    ·(have e25:A.eval (.tmp 25)=.bool true:=h.d 8 25;refine zAA rfl ?_;simp only[execOp,e25];(simp[go_sem]<;>first|done|omega|(rw[IntKind.wrap_i64];omega)|(rw[IntKind.wrap_u8];omega)|(rw[IntKind.wrap_u64];omega)))
   case en =>
    intro vals W hbw hv _;simp only[fa,Nat.reduceAdd];rw[e_ hv 0,e_ hv 1,e_ hv 2,e_ hv 3,e_ hv 4,e_ hv 5,e_ hv 6,e_ hv 7,e_ hv 8,e_ hv 9];clear hv
    try simp only[pl]
    replace H:=H.call hbw;clear hbw
    go_wp2_with fail
    go_roundw
    case rel=>exact⟨k+1,by omega,by go_num,H⟩
    case measure=>simp[intOf];omega
  ·obtain rfl:k=n:=by omega
   have dk:decide (k<k)=false:=by simp
   have dk2:decide ((k:Int)<(k:Int))=false:=by simp
   go_wp2_with fail
   go_ret;exact⟨rfl,H.below⟩
theorem zLV:(Tryz.prog.info? 55).map (fun i=>(i.zero,i.size,i.bytes))=some (some (.slice none 0 0),1,24):=by kernel_rfl
theorem zEe (p:Option Addr) (n c:Nat) (W:World):(Instr.buildSlice 47 1 #[(0,.slice p n c)]).run Tryz.prog W=.ok (.slice (some ⟨W.heap.size,0,none⟩) 1 1) (W.alloc (.cells #[.slice p n c] 55)):=by kernel_rfl
def InR (F:Nat->Prop) (xs:List zAV) (V:World):Prop:=∀ x ∈ xs,IntsR F x.2.1 x.2.2 x.1 V
theorem InR.kept {F:Nat->Prop} {xs:List zAV} {V W:World} (h:InR F xs W) (hV:∀ b,F b->V.heap[b]?=W.heap[b]?):InR F xs V:=fun x hx=>(h x hx).kept hV
theorem HoldG.knAdd {M:Nat->Prop} {w0 w:World} {l:List Res} (H:HoldG M w0 w l) {i j:Nat} {F G:Nat->Prop} {xs:List zAV} {x:zAV} (hi:At l i (.kn F (InR F xs))) (hj:At l j (.kn G (IntsR G x.2.1 x.2.2 x.1))):HoldG M w0 w (l.set i (.kn (fun b=>F b\/G b) (InR (fun b=>F b\/G b) (xs++[x])))):=by
 have hil:i<l.length:=(List.getElem?_eq_some_iff.1 hi.get).1;have H1:=H.knBoth hi hj
 have H2:=H1.knTo (i:=i) (G:=fun b=>F b\/G b) (T:=InR (fun b=>F b\/G b) (xs++[x])) (At.of_get (by rw[List.getElem?_set_self hil])) (fun _ h=>h) (fun h y hy=>by
  rcases List.mem_append.1 hy with hy|hy
  ·exact(h.1 y hy).mono (fun _=>.inl)
  ·rw[List.mem_singleton.1 hy];exact h.2.mono (fun _=>.inr)) (fun V h hV=>h.kept hV)
 rwa [List.set_set]at H2
theorem HoldG.rowsR {M:Nat->Prop} {w0 w:World} {l:List Res} (H:HoldG M w0 w l) {i j cap:Nat} {q:Option Addr} {xs:List zAV} {F:Nat->Prop} (hi:At l i (.row (.slice q xs.length cap) 55 1 xs.length (xs.map zAg))) (hj:At l j (.kn F (InR F xs))) (hF:∀ b,F b->w0.heap.size<=b\/M b) :
  ∃ G:Nat->Prop,(∀ b,G b->(w0.heap.size<=b\/M b)/\b<w.heap.size)/\RowsR G q cap xs w:=by
 have ho:=H.all i _ hi.get;have hk:=H.all j _ hj.get;have e:xs.map zAg=zAW (xs.map fun x=>#[zAg x]):=by
  rw[show (xs.map fun x=>#[zAg x])=(xs.map zAg).map (fun v=>#[v]) by rw[List.map_map];rfl,zA7]
 refine⟨fun b=>(Value.slice q xs.length cap).ownBlock=some b\/F b,fun b hb=>hb.elim (fun hb=>ho.lt b hb) (fun hb=>⟨hF b hb,hk.1 b hb⟩),?_,fun x hx=>(hk.2 w (fun _ _=>rfl) x hx).mono (fun _=>.inr)⟩
 unfold Res.Holds at ho;simp only at ho;rw[e]at ho;have h1:=RdN.of_own (V:=w) ho (fun r hr=>by obtain⟨x,_,rfl⟩:=List.mem_map.1 hr;rfl) (List.length_map ..) (fun _ _=>rfl)
 obtain⟨p',c',e1,k1,k2,k0,k3⟩:=h1;rw[List.length_map]at e1 k1;refine⟨p',c',by rw[List.length_map];exact e1,by rw[List.length_map];exact k1,k2,k0,fun j r hj=>?_⟩
 obtain⟨b,off,e2,e3,e4,e5⟩:=k3 j r hj;exact⟨b,off,e2,.inl e3,e4,e5⟩
def zPS (w:World) (rows:List zAP) (e:Ending) (w':World):Prop:=∃ q c xs F,e=.returned (.slice q xs.length c)/\xs.map (·.1)=rows/\RowsR F q c xs w'/\∀ b,F b->b<w'.heap.size/\w.heap.size<=b
def zHh (rows:List zAP) (m:Int):List zAP:=if m<0 then rows else rows.take m.toNat
def spP (e:Bool) (a:Int):Int:=if e then a else -1
def MatF (w0:World) (l:List Res) (r:Option zAP) (v ok:Value) (W:World):Prop:=match r with
 | none=>ok=.bool false/\Hold w0 W l
 | some sl=>∃ g o c F,v=.slice (some ⟨g,o,none⟩) sl.length c/\ok=.bool true/\(∀ b,F b->w0.heap.size<=b)/\Hold w0 W (l++[.kn F (IntsR F (some ⟨g,o,none⟩) c sl)])
theorem zGw (pp:Option Addr) (cp:Nat) (ps:List InstD) (psl:Option Addr) (csl:Nat) (L:Str) (most:Int) (Fp Fs:Nat->Prop) (w0:World) (hset:∀ x ∈ ps,zAb x.set) (hL:L.length<=1000) (hFp:∀ b,Fp b->b<w0.heap.size) (hFs:∀ b,Fs b->b<w0.heap.size) (hp:InstsR Fp pp cp ps w0) (hs:BytesR Fs psl csl L w0) :
  Calls Tryz.prog 11 #[.slice pp ps.length cp,.slice psl L.length csl,.int .i64 most] w0 fun e w'=>zPS w0 (zHh (zAX ps L) most) e w'/\Below w0.heap.size w0 w':=by
 have H:=Hold.insts2 hFp hFs hp hs;clear hp hs;have hm:=Lib.hid (fun a w h1 h2 h3 h4=>zJG pp cp ps psl csl L a Fp Fs w hset hL h1 h2 h3 h4)
 obtain⟨ir,hir,hr0,hr1,hr2⟩:=info_parts zLV;obtain⟨pv,hpv⟩:∃ pv,Value.slice pp ps.length cp=pv:=⟨_,rfl⟩;obtain⟨sv,hsv⟩:∃ sv,Value.slice psl L.length csl=sv:=⟨_,rfl⟩;rw[hpv,hsv]at hm ⊢;clear hset hFp hFs hpv hsv
 go_enter Tryz.func11,Tryz.ntmps11
 go_wp2_with fail
 have H0:Hold w0 w0 [.kn Fp (InstsR Fp pp cp ps),.kn Fs (BytesR Fs psl csl L),.row (.slice none 0 0) 55 1 ([]:List zAV).length (([]:List zAV).map zAg),.kn (fun _=>False) (InR (fun _=>False) [])] :=
  (H.addNil 55 1).know (fun _=>False) (InR (fun _=>False) []) (fun _ h=>h.elim) (fun _ _ _ _ _ h=>h) (fun V _ x hx=>by cases hx)
 clear H
 go_loopw [7,8,9,10,11] (fun ov av sv2 _ _ wr=>∃ (xs:List zAV) (q:Option Addr) (c:Nat) (a:Int) (en:Bool) (FF:Nat->Prop),ov=.slice q xs.length c/\av=.int .i64 a/\sv2=.int .i64 (spP en a)/\Hid ((0<=a/\a<=1001)/\xs.map (·.1)++zC4 ps L (L.length+2) a en=zAX ps L/\(0<=most->xs.length<=most.toNat)/\∀ b,FF b->w0.heap.size<=b)/\Hold w0 wr [.kn Fp (InstsR Fp pp cp ps),.kn Fs (BytesR Fs psl csl L),.row (.slice q xs.length c) 55 1 xs.length (xs.map zAg),.kn FF (InR FF xs)]) (fun _ av _ _ _ _=>1003 - (intOf av).toNat)
 case atStart=>exact⟨[],none,0,0,false,fun _=>False,rfl,rfl,rfl,Lib.hid ⟨⟨by omega,by omega⟩,rfl,fun _=>Nat.zero_le _,fun _ h=>h.elim⟩,H0⟩
 case round =>
  clear H0;obtain⟨xs,q,c,a,en,FF,rfl,rfl,rfl,G,H⟩:=hrel;have hxl:xs.length<=1002:=by
   have h1:=congrArg List.length G.out.2.1;have h2:=zCY (p:=ps) (s:=L) (n:=L.length+2) (a:=0) (e:=false);rw[List.length_append,List.length_map]at h1;unfold zAX at h1;omega
  obtain⟨n,hn⟩:∃ n,xs.length=n:=⟨_,rfl⟩;have HN:=Lib.hid hn;rw[hn]at hxl H ⊢;clear hn;obtain⟨sp,hsp⟩:∃ sp:Int,spP en a=sp:=⟨_,rfl⟩;have SP:=Lib.hid hsp;rw[hsp];clear hsp
  go_upto_region 3 with fail
  go_cut [19] from 10 to 69 (fun v wx=>v=.bool (decide (most<0) || decide ((n:Int)<most))/\Hold w0 wx [.kn Fp (InstsR Fp pp cp ps),.kn Fs (BytesR Fs psl csl L),.row (.slice q n c) 55 1 n (xs.map zAg),.kn FF (InR FF xs)])
  case first =>
   by_cases h0:most<0
   ·have d0:decide (most<0)=true:=decide_eq_true h0;clear h0
    go_wp2_with fail
    go_meet
    case rel=>exact⟨by rw[d0];rfl,H⟩
   ·have d0:decide (most<0)=false:=decide_eq_false h0;clear h0
    go_wp2_with fail
    go_meet
    case rel=>exact⟨by rw[d0];rfl,H⟩
  case rest =>
   clear H;obtain⟨hu,H⟩:=hcut;obtain⟨bg,hbg⟩:∃ bg,(decide (most<0) || decide ((n:Int)<most))=bg:=⟨_,rfl⟩
   rw[hbg]at hu;subst hu;have BG:=Lib.hid hbg;clear hbg
   cases bg with
   | false =>
    have ER:=Lib.hid (show xs.map (·.1)=zHh (zAX ps L) most by
     have hb:=BG.out;simp only[Bool.or_eq_false_iff,decide_eq_false_iff_not]at hb;have hle:=G.out.2.2.1 (by omega)
     rw[HN.out]at hle;unfold zHh
     rw[if_neg hb.1,← G.out.2.1,List.take_append_of_le_length (by rw[List.length_map,HN.out];omega),List.take_of_length_le (by rw[List.length_map,HN.out];omega)])
    go_wp2_with fail
    go_ret;rw[← HN.out]at H ⊢;obtain⟨GG,hG,hR⟩:=H.rowsR (i:=2) (j:=3) i_2 i_3 (fun b hb=>.inl (G.out.2.2.2 b hb))
    exact⟨⟨q,c,xs,GG,rfl,ER.out,hR,fun b hb=>⟨(hG b hb).2,(hG b hb).1.resolve_right id⟩⟩,H.below⟩
   | true =>
    have hstep:=zGn (p:=ps) (s:=L) (a:=a) (e:=en) (n:=L.length+2) (by have:=G.out.1;omega)
    have hns:=zLE (p:=ps) (s:=L) (a:=a) (e:=en) (sp:=sp) G.out.1.1 SP.out.symm;have HST:=Lib.hid hstep;have HNS:=Lib.hid hns;clear hstep hns
    cases hma:zBQ ps L a with
    | none =>
     have hm1:=hm.out a;rw[hma]at hm1
     have ER:=Lib.hid (show xs.map (·.1)=zHh (zAX ps L) most by
      have h1:=HNS.out;rw[hma]at h1;have h2:=HST.out;rw[← h1]at h2;have h3:=G.out.2.1;rw[h2,List.append_nil]at h3;unfold zHh;split
      ·exact h3
      ·rename_i hge;have:=G.out.2.2.1 (by omega)
       rw[← h3,List.take_of_length_le (by rw[List.length_map];exact this)])
     clear hma
     go_wp2_with (first|(go_at_call 31;(have HB:=H.keep.size);refine chRn (hm1 _ (H.knlt (i:=0) .zero) (H.knlt (i:=1) i_1) (H.kn (i:=0) .zero) (H.kn (i:=1) i_1)) H ?_;clear H;intro w H;try simp only[ca]at H))
     go_ret;rw[← HN.out]at H ⊢;obtain⟨GG,hG,hR⟩:=H.rowsR (i:=2) (j:=3) i_2 i_3 (fun b hb=>.inl (G.out.2.2.2 b hb))
     exact⟨⟨q,c,xs,GG,rfl,ER.out,hR,fun b hb=>⟨(hG b hb).2,(hG b hb).1.resolve_right id⟩⟩,H.below⟩
    | some l =>
     obtain⟨m0,m1,m2,m3,m4,m5,m6,m7,m8⟩:=zBh hma;clear m0 m7 m8;have hm1:=hm.out a;rw[hma]at hm1;have E:=HNS.out;rw[hma]at E;simp only at E;have z0:(0:Int)<(l.length:Int):=by omega
     have z1:(1:Int)<(l.length:Int):=by omega
     obtain⟨x0,hx0⟩:∃ x0,l.getD 0 0=x0:=⟨_,rfl⟩;obtain⟨x1,hx1⟩:∃ x1,l.getD 1 0=x1:=⟨_,rfl⟩;rw[hx0,hx1]at E;have E:=Lib.hid E;have X0:=Lib.hid hx0;have X1:=Lib.hid hx1;clear hma hx0 hx1 m4 m5 m6
     repeat ((fail_if_success (with_reducible show Code.wp _ (Code.seq (Code.region 5 _ _) _) _ _ _));first|(go_at_call 31;(have HB:=H.keep.size);refine chRs (hm1 _ (H.knlt (i:=0) .zero) (H.knlt (i:=1) i_1) (H.kn (i:=0) .zero) (H.kn (i:=1) i_1)) H ?_;clear H;intro ql nl Fl w hFl H;try simp only[ca]at H)|go_values|go_skip|go_guarded|go_step|go_upon|go_back|go_simp)
     have hFl0:=Lib.hid (fun b hb=>Nat.le_trans HB (hFl b hb))
     clear HB hFl;obtain⟨g,o,rfl⟩:=(H.kn (i:=4) i_4).at (by omega)
     have hc0:=fun V (h:IntsR Fl (some ⟨g,o,none⟩) nl l V)=>(h.cell0 (k:=0) (by omega)).trans (by rw[X0.out])
     have hc1:=fun V (h:IntsR Fl (some ⟨g,o,none⟩) nl l V)=>(h.cell0 (k:=1) (by omega)).trans (by rw[X1.out])
     simp only[Nat.add_zero]at hc0;have HC0:=Lib.hid hc0;have HC1:=Lib.hid hc1;clear hc0 hc1
     go_cut [10,11] from 20 to 69 (fun v ok wx=>MatF w0 [.kn Fp (InstsR Fp pp cp ps),.kn Fs (BytesR Fs psl csl L),.row (.slice q n c) 55 1 n (xs.map zAg),.kn FF (InR FF xs)] (zBu ps L a en) v ok wx)
     case first =>
      have hc0:=HC0.out;have hc1:=HC1.out
      by_cases h1:x0=sp
      case neg =>
       have d1:(x0 == sp)=false:=by rw[beq_eq_false_iff_ne];exact h1
       go_wp2_with (first|((with_reducible refine gL ?_);refine zAK wtd_ _ _ rfl rfl zAF (hc0 _ (H.kn (i:=4) i_4)) ?_)|((with_reducible refine gL ?_);refine zAK wtd_ _ _ rfl rfl zAF (hc1 _ (H.kn (i:=4) i_4)) ?_))
       go_meet
       case rel=>exact(by rw[← E.out,if_neg (fun h=>h1 h.1)];exact⟨g,o,nl,Fl,rfl,rfl,hFl0.out,H⟩)
      have d1:(x0 == sp)=true:=by rw[beq_iff_eq];exact h1
      by_cases h2:x1=sp
      case neg =>
       have d2:(x1 == sp)=false:=by rw[beq_eq_false_iff_ne];exact h2
       go_wp2_with (first|((with_reducible refine gL ?_);refine zAK wtd_ _ _ rfl rfl zAF (hc0 _ (H.kn (i:=4) i_4)) ?_)|((with_reducible refine gL ?_);refine zAK wtd_ _ _ rfl rfl zAF (hc1 _ (H.kn (i:=4) i_4)) ?_))
       go_meet
       case rel=>exact(by rw[← E.out,if_neg (fun h=>h2 h.2)];exact⟨g,o,nl,Fl,rfl,rfl,hFl0.out,H⟩)
      have d2:(x1 == sp)=true:=by rw[beq_iff_eq];exact h2
      have E2:=Lib.hid (show zBQ ps L (a+1)=zBu ps L a en by rw[← E.out,if_pos ⟨h1,h2⟩])
      have w64:wrap64 (a+1)=a+1:=by have:=G.out.1;unfold wrap64;omega
      have hm2:=hm.out (a+1)
      cases hn:zBu ps L a en with
      | none =>
       rw[E2.out,hn]at hm2
       go_wp2_with (first|((with_reducible refine gL ?_);refine zAK wtd_ _ _ rfl rfl zAF (hc0 _ (H.kn (i:=4) i_4)) ?_)|((with_reducible refine gL ?_);refine zAK wtd_ _ _ rfl rfl zAF (hc1 _ (H.kn (i:=4) i_4)) ?_)|(go_at_call 31;(have HB:=H.keep.size);refine chRn (hm2 _ (H.knlt (i:=0) .zero) (H.knlt (i:=1) i_1) (H.kn (i:=0) .zero) (H.kn (i:=1) i_1)) H ?_;clear H;intro w H;try simp only[ca]at H))
       go_meet
       case rel=>exact(by rw[hn];exact⟨rfl,H.pick [0,1,2,3] _ (by decide) rfl⟩)
      | some s2 =>
       rw[E2.out,hn]at hm2;have k1:=(zBU hn).1
       go_wp2_with (first|((with_reducible refine gL ?_);refine zAK wtd_ _ _ rfl rfl zAF (hc0 _ (H.kn (i:=4) i_4)) ?_)|((with_reducible refine gL ?_);refine zAK wtd_ _ _ rfl rfl zAF (hc1 _ (H.kn (i:=4) i_4)) ?_)|(go_at_call 31;(have HB:=H.keep.size);refine chRs (hm2 _ (H.knlt (i:=0) .zero) (H.knlt (i:=1) i_1) (H.kn (i:=0) .zero) (H.kn (i:=1) i_1)) H ?_;clear H;intro q2 n2 F2 w hF2 H;try simp only[ca]at H))
       obtain⟨g2,o2,rfl⟩:=(H.kn (i:=5) i_5).at (by omega)
       go_meet
       case rel=>exact(by rw[hn];exact⟨g2,o2,n2,F2,rfl,rfl,fun b hb=>Nat.le_trans HB (hF2 b hb),H.pick [0,1,2,3,5] _ (by decide) rfl⟩)
     case rest =>
      clear H hFl0 HC0 HC1 X0 X1 E hm1 z0 z1
      cases hn:zBu ps L a en with
      | none =>
       rw[hn]at hcut;obtain⟨rfl,H⟩:=hcut
       have ER:=Lib.hid (show xs.map (·.1)=zHh (zAX ps L) most by
        have h2:=HST.out;rw[hn]at h2;have h3:=G.out.2.1;rw[h2,List.append_nil]at h3;unfold zHh;split
        ·exact h3
        ·rename_i hge;have:=G.out.2.2.1 (by omega)
         rw[← h3,List.take_of_length_le (by rw[List.length_map];exact this)])
       clear hn
       go_wp2_with fail
       go_ret;rw[← HN.out]at H ⊢;obtain⟨GG,hG,hR⟩:=H.rowsR (i:=2) (j:=3) i_2 i_3 (fun b hb=>.inl (G.out.2.2.2 b hb))
       exact⟨⟨q,c,xs,GG,rfl,ER.out,hR,fun b hb=>⟨(hG b hb).2,(hG b hb).1.resolve_right id⟩⟩,H.below⟩
      | some sl =>
       rw[hn]at hcut;obtain⟨g,o,c2,F2,rfl,rfl,hF2,H⟩:=hcut;obtain⟨k1,k2,k3,k4,k5,k6,k7,k8,k9⟩:=zBU hn;clear k8 k9;simp only[ca]at H
       have LT:=Lib.hid (show 0<=most->n<most.toNat from fun h=>by
        have hb:=BG.out;simp only[Bool.or_eq_true,decide_eq_true_eq]at hb
        omega)
       have GR:=Lib.hid (show xs.map (·.1)++([((sl,some (⟨g,o,none⟩:Addr),c2):zAV)].map (fun x:zAV=>x.1)++zC4 ps L (L.length+2) (atN sl) (endN sl))=zAX ps L by
        have h2:=HST.out;rw[hn]at h2
        rw[← G.out.2.1,h2];rfl)
       obtain⟨x0,hx0⟩:∃ x0,sl.getD 0 0=x0:=⟨_,rfl⟩;obtain⟨x1,hx1⟩:∃ x1,sl.getD 1 0=x1:=⟨_,rfl⟩;have hc0:=fun V (h:IntsR F2 (some ⟨g,o,none⟩) c2 sl V)=>(h.cell0 (k:=0) (by omega)).trans (by rw[hx0])
       have hc1:=fun V (h:IntsR F2 (some ⟨g,o,none⟩) c2 sl V)=>(h.cell0 (k:=1) (by omega)).trans (by rw[hx1])
       simp only[Nat.add_zero]at hc0;rw[hx0,hx1]at k5;rw[hx1]at k6;rw[hx0]at k7;have z0:(0:Int)<(sl.length:Int):=by omega
       have z1:(1:Int)<(sl.length:Int):=by omega
       have w65:wrap64 (x1+1)=x1+1:=by have:=G.out.1;unfold wrap64;omega
       have hEA:atN sl=if x0=x1 then x1+1 else x1:=by unfold atN;rw[hx0,hx1]
       have hEB:endN sl=!decide (x0=x1):=by unfold endN;rw[hx0,hx1]
       have ha0:=G.out.1;have hHN:=HN.out;clear hn k4 hx0 hx1
       go_upto_region 12 with (first|(at_builtin;refine zAx rfl _ _ 47 rfl H (i:=2) (j:=5) evd_ rfl i_2 i_5 Tryz.underlying47 hir hr0 hr1 hr2 rfl (by decide) rfl rfl (by unfold maxLen;omega) (by omega) ?_;clear H;intro v2 w H;try simp only[nr]at H)|((with_reducible refine gBS ?_);refine zAQ wtd_ _ _ _ rfl H #[.slice (some ⟨g,o,none⟩) sl.length c2] 55 (by intro W;simp only[ml];(try simp only[pe]);exact zEe _ _ _ W) ?_;clear H;intro bk w H;try simp only[nr]at H)|((with_reducible refine gL ?_);refine zAK wtd_ _ _ rfl rfl zAF (hc0 _ (H.kn (i:=4) i_4)) ?_)|((with_reducible refine gL ?_);refine zAK wtd_ _ _ rfl rfl zAF (hc1 _ (H.kn (i:=4) i_4)) ?_))
       obtain⟨q2,cq,rfl,_,_,_⟩:=H.rowShape (i:=2) i_2
       by_cases h1:x0=x1
       ·have d1:(x0 == x1)=true:=by rw[beq_iff_eq];exact h1
        rw[if_pos h1]at hEA;rw[decide_eq_true h1]at hEB;rw[hEA,hEB]at GR;clear hEA hEB h1;obtain⟨T,hT,fw,hf,h0⟩:=fam w;have e0:=fun x=>hc0 _ ((H.call (hf x)).kn (i:=4) i_4)
        have e1:=fun x=>hc1 _ ((H.call (hf x)).kn (i:=4) i_4)
        refine zAZ fw (by kernel_rfl) (by kernel_rfl) h0 ?_
        repeat (go_big_quiet_step (fail))
        refine wpQuiet_nil ?_
        rintro _ ⟨x,rfl⟩;replace H:=H.call (hf x);clear e0 e1
        go_wp2_with fail
        have H6:=(H.knAdd (i:=3) (j:=4) (xs:=xs) (x:=((sl,some (⟨g,o,none⟩:Addr),c2):zAV)) i_3 i_4).pick [0,1,2,3] [.kn Fp (InstsR Fp pp cp ps),.kn Fs (BytesR Fs psl csl L),.row (.slice q2 (n+1) cq) 55 1 (n+1) ((xs++[((sl,some (⟨g,o,none⟩:Addr),c2):zAV)]).map zAg),.kn (fun b=>FF b\/F2 b) (InR (fun b=>FF b\/F2 b) (xs++[((sl,some (⟨g,o,none⟩:Addr),c2):zAV)]))] (by decide) (by rw[List.map_append];rfl)
        have hl2:(xs++[((sl,some (⟨g,o,none⟩:Addr),c2):zAV)]:List zAV).length=n+1:=by rw[List.length_append,HN.out];rfl
        go_roundw
        case rel=>exact⟨xs++[((sl,some (⟨g,o,none⟩:Addr),c2):zAV)],q2,cq,x1+1,false,fun b=>FF b\/F2 b,by rw[hl2],rfl,rfl,Lib.hid ⟨⟨by omega,by omega⟩,by rw[List.map_append,List.append_assoc];exact GR.out,fun h=>by rw[hl2];have:=LT.out h;omega,fun b h=>h.elim (G.out.2.2.2 b) (hF2 b)⟩,by rw[hl2];exact H6⟩
        case measure=>simp[intOf];omega
       ·have d1:(x0 == x1)=false:=by rw[beq_eq_false_iff_ne];exact h1
        rw[if_neg h1]at hEA;rw[decide_eq_false h1]at hEB;rw[hEA,hEB]at GR;clear hEA hEB;obtain⟨T,hT,fw,hf,h0⟩:=fam w;have e0:=fun x=>hc0 _ ((H.call (hf x)).kn (i:=4) i_4)
        have e1:=fun x=>hc1 _ ((H.call (hf x)).kn (i:=4) i_4)
        refine zAZ fw (by kernel_rfl) (by kernel_rfl) h0 ?_
        repeat (go_big_quiet_step (fail))
        refine wpQuiet_nil ?_
        rintro _ ⟨x,rfl⟩;replace H:=H.call (hf x);clear e0 e1
        go_wp2_with fail
        have H6:=(H.knAdd (i:=3) (j:=4) (xs:=xs) (x:=((sl,some (⟨g,o,none⟩:Addr),c2):zAV)) i_3 i_4).pick [0,1,2,3] [.kn Fp (InstsR Fp pp cp ps),.kn Fs (BytesR Fs psl csl L),.row (.slice q2 (n+1) cq) 55 1 (n+1) ((xs++[((sl,some (⟨g,o,none⟩:Addr),c2):zAV)]).map zAg),.kn (fun b=>FF b\/F2 b) (InR (fun b=>FF b\/F2 b) (xs++[((sl,some (⟨g,o,none⟩:Addr),c2):zAV)]))] (by decide) (by rw[List.map_append];rfl)
        have hl2:(xs++[((sl,some (⟨g,o,none⟩:Addr),c2):zAV)]:List zAV).length=n+1:=by rw[List.length_append,HN.out];rfl
        go_roundw
        case rel=>exact⟨xs++[((sl,some (⟨g,o,none⟩:Addr),c2):zAV)],q2,cq,x1,true,fun b=>FF b\/F2 b,by rw[hl2],rfl,rfl,Lib.hid ⟨⟨by omega,by omega⟩,by rw[List.map_append,List.append_assoc];exact GR.out,fun h=>by rw[hl2];have:=LT.out h;omega,fun b h=>h.elim (G.out.2.2.2 b) (hF2 b)⟩,by rw[hl2];exact H6⟩
        case measure=>simp[intOf];omega
theorem oneR:oneB Tryz.prog 47=true:=by kernel_rfl
theorem zLa:zBa Tryz.prog 47=#[.slice none 0 0]:=by kernel_rfl
def zA5 (x:zAV):Res:=.row (zAg x) 3 1 x.1.length (x.1.map (.int .i64))
theorem zBk (xs:List zAV):(xs.map zA5).all zAY=true:=by rw[List.all_map];exact List.all_eq_true.2 (fun _ _=>rfl)
theorem zNG (pp:Option Addr) (np cp:Nat) (psl:Option Addr) (nl csl:Nat) (w0:World) :
  Calls Tryz.prog 17 #[.slice pp np cp,.slice psl nl csl] w0 fun e w'=>∃ b1 b2,e=.returned (.func (.func 34) #[] #[.pointer (some ⟨b1,0,none⟩),.pointer (some ⟨b2,0,none⟩)])/\Hold w0 w' [.blk b1 #[.slice pp np cp] 23,.blk b2 #[.slice psl nl csl] 25]:=by
 have H:=Hold.start w0
 go_enter Tryz.func17,Tryz.ntmps17
 go_wp2_with (first|((with_reducible refine kg 2 ?_);(first|refine kA 2 H ?_|refine kS 2 H ?_|refine kB 2 H ?_);clear H;intro b2 w H;try simp only[nr]at H)|((with_reducible refine kg 3 ?_);(first|refine kA 3 H ?_|refine kS 3 H ?_|refine kB 3 H ?_);clear H;intro b3 w H;try simp only[nr]at H)|fail)
 go_ret;exact⟨_,_,rfl,H⟩
theorem zCT {P:Program} {fn:Func} {p:Tmp} {T:TypeId} (hres:fn.results=#[.cell p T]) {tmps:Array Value} {w:World} {b:Nat} (h2:tmps.getD p undef=.pointer (some ⟨b,0,none⟩)) (t2:oneB P T=true) {v:Value} (c2:w.cell? ⟨b,0,none⟩=some v):(results fn tmps).run P w=.ok v w:=by
 have e2:tmps[p]?.getD undef=.pointer (some ⟨b,0,none⟩):=by simpa using h2
 simp[results,hres,e2,asAddr,zCX t2 c2]
def RowsW (w:World) (rows:List zAP) (e:Ending) (w':World):Prop:=∃ (q:Option Addr) (c:Nat) (xs:List zAV),e=.returned (.slice q xs.length c)/\xs.map (·.1)=rows/\Hold w w' (.row (.slice q xs.length c) 55 1 xs.length (xs.map zAg)::xs.map zA5)
abbrev AC (b5 b6:Nat) (most:Int) (q:Option Addr) (c:Nat) (xs:List zAV):List Res:=.blk b5 #[.int .i64 most] 3::.blk b6 #[.slice q xs.length c] 47::.row (.slice q xs.length c) 55 1 xs.length (xs.map zAg)::xs.map zA5
theorem zFY (b5 b6:Nat) (most:Int) (q:Option Addr) (c:Nat) (xs:List zAV):(AC b5 b6 most q c xs).all zAY=true:=by simp only[AC,List.all_cons,zBk];rfl
def CR (rows:List zAP) (b5 b6:Nat) (most:Int) (v:Nat) (lc:List Res):Prop:=∃ (xs:List zAV) (q:Option Addr) (c:Nat),lc=AC b5 b6 most q c xs/\xs.map (·.1)=rows.take v/\xs.length=v/\(v:Int)<most
def CX (rows:List zAP) (b5 b6:Nat) (most:Int) (v:Nat) (k:Code) (lc:List Res):Prop:=k=.exit 0/\∃ (xs:List zAV) (q:Option Addr) (c:Nat),lc=AC b5 b6 most q c xs/\xs.map (·.1)=rows.take (v+1)/\xs.length=v+1/\(v:Int)+1=most
theorem zFW {rows:List zAP} {b5 b6:Nat} {most:Int} {v:Nat} {lc:List Res} (h:CR rows b5 b6 most v lc):lc.all zAY=true:=by
 obtain⟨xs,q,c,rfl,_⟩:=h;exact zFY ..
theorem zJu {rows:List zAP} {b5 b6:Nat} {most:Int} {v:Nat} {k:Code} {lc:List Res} (h:CX rows b5 b6 most v k lc):lc.all zAY=true:=by
 obtain⟨_,xs,q,c,rfl,_⟩:=h;exact zFY ..
theorem zLh {a b r x y z:Res} {I E:List Res}:(a::b::r::x::y::z::(I++E)).Perm ((x::y::z::(I++[r])++E)++[a,b]):=by
 refine(List.perm_append_comm (l₁:=[a,b]) (l₂:=r::x::y::z::(I++E))).trans (List.Perm.append_right _ ?_);have h:(r::x::y::z::(I++E)).Perm ((x::y::z::I)++([r]++E)):=(List.perm_middle (l₁:=x::y::z::I)).symm
 simpa using h
abbrev rowM (x:zAP × Nat × Nat):Res:=.row (.slice (some ⟨x.2.1,0,none⟩) x.1.length x.2.2) 3 1 x.1.length (x.1.map (.int .i64))
theorem zJE (pp:Option Addr) (cp:Nat) (ps:List InstD) (psl:Option Addr) (csl:Nat) (L:Str) (most:Int) (Fp Fs:Nat->Prop) (w0:World) (hset:∀ x ∈ ps,zAb x.set) (hL:L.length<=1000) (hFp:∀ b,Fp b->b<w0.heap.size) (hFs:∀ b,Fs b->b<w0.heap.size) (hp:InstsR Fp pp cp ps w0) (hs:BytesR Fs psl csl L w0) :
  Calls Tryz.prog 13 #[.slice pp ps.length cp,.slice psl L.length csl,.int .i64 most] w0 fun e w'=>RowsW w0 ((zAX ps L).take most.toNat) e w':=by
 have H:=Hold.start w0;obtain⟨ir,hir,hr0,hr1,hr2⟩:=info_parts zLV;refine callsIn_wide.1 (zDX (n:=9) Tryz.func13 rfl ?_);simp only[Tryz.ntmps13,List.size_toArray,List.length_cons,List.length_nil,Nat.reduceAdd,Nat.reduceSub,Array.replicate_succ,Array.replicate_zero,List.push_toArray,List.append_toArray,List.nil_append,List.cons_append];refine zA0 (zBC ?_)
 go_wp2_with (first|((with_reducible show @wpList _ _ _ ({dst:=_,op:=Op.alloc _,type:=_,pos:=_,after:=_,guard:=_}::_) _ _);refine zCa wtd_ _ rfl H (by kernel_rfl) ?_;clear H;intro b6 w H;try simp only[zLa,List.cons_append,List.nil_append]at H)|((with_reducible refine kg 5 ?_);(first|refine kA 5 H ?_|refine kS 5 H ?_|refine kB 5 H ?_);clear H;intro b5 w H;try simp only[nr]at H)|((with_reducible refine kg 6 ?_);(first|refine kA 6 H ?_|refine kS 6 H ?_|refine kB 6 H ?_);clear H;intro b6 w H;try simp only[nr]at H)|fail)
 by_cases hm:most<1
 ·have dm:decide (most<1)=true:=decide_eq_true hm;have ET:=Lib.hid (show (zAX ps L).take most.toNat=[] by rw[show most.toNat=0 by omega];rfl)
  clear hm;refine zBC ?_
  go_wp2_with (first|((with_reducible refine gL ?_);refine zAE wtd_ _ _ rfl rfl H (i:=1) i_1 oneR rfl ?_)|((with_reducible refine gT ?_);refine zAN wtd_ _ _ _ rfl rfl evd_ H (i:=1) i_1 rfl (show 0<1 from Nat.one_pos) (zAD oneR) ?_;clear H;intro w H;try simp only[nr]at H)|((with_reducible refine gL ?_);refine aG H ?_))
  refine⟨_,zCT Tryz.results13 rfl oneR ((H.cell (i:=1) i_1 0).trans rfl),?_⟩
  exact⟨none,0,[],rfl,ET.out.symm,(H.addNil 55 1).pick [2] _ (by decide) rfl⟩
 ·have dm:decide (most<1)=false:=decide_eq_false hm;refine zA0 (zBC ?_)
  go_wp2_with (first|((with_reducible refine gL ?_);refine aG H ?_))
  refine zA0 (zA0 (zBC ?_))
  go_wp2_with (first|(go_at_call 17;refine(zNG pp ps.length cp psl L.length csl _).mono ?_;rintro e w ⟨b1,b2,rfl,K⟩;have H2:=H.gainAll K (by simp);clear H K;have H:=H2;clear H2;simp only[ca]at H)|fail)
  have hB:w0.heap.size<=w.heap.size:=H.keep.size;have hC0:CR (zAX ps L) b5 b6 most 0 (AC b5 b6 most none 0 []):=⟨[],none,0,rfl,rfl,rfl,by omega⟩
  have hI:Hold w0 w (.blk b1 #[.slice pp ps.length cp] 23::.blk b2 #[.slice psl L.length csl] 25::AC b5 b6 most none 0 []):=(H.addNil 55 1).pick [2,3,0,1,4] _ (by decide) rfl
  clear H
  refine zEc (zEo (σ:=Nat × List Res × List Res) (α:=zAP × Nat × Nat) (n:=8) (gf:=34) (lb:=#[.pointer (some ⟨b1,0,none⟩),.pointer (some ⟨b2,0,none⟩)]) rfl (enters_of Tryz.func34 (by kernel_rfl) rfl) (encs:=fun x=>#[.slice (some ⟨x.2.1,0,none⟩) x.1.length x.2.2]) (fun _=>rfl)
   (fun W=>Hold w0 W (.blk b1 #[.slice pp ps.length cp] 23::.blk b2 #[.slice psl L.length csl] 25::AC b5 b6 most none 0 []))
   (fun j W=>match j with|none=>∃ lc,CR (zAX ps L) b5 b6 most (zAX ps L).length lc/\Hold w0 W lc|some k=>∃ v lc,v<(zAX ps L).length/\CX (zAX ps L) b5 b6 most v k lc/\Hold w0 W lc)
   (fun _ _=>False)
   (fun s x W=>((zAX ps L)[s.1]?=some x.1/\CR (zAX ps L) b5 b6 most s.1 s.2.1/\s.2.2.all zAY=true)/\Hold w0 W (rowM x::s.2.1++s.2.2))
   (fun s x j W=>s.2.2.all zAY=true/\∃ lc',(match j with|none=>CR (zAX ps L) b5 b6 most (s.1+1) lc'|some k=>CX (zAX ps L) b5 b6 most s.1 k lc')/\Hold w0 W (lc'++s.2.2))
   (fun _ _ _ _=>False)
   (fun s x a1 W=>a1={tmps:=#[.slice pp ps.length cp,.slice psl L.length csl,.int .i64 most,undef,undef,.pointer (some ⟨b5,0,none⟩),.pointer (some ⟨b6,0,none⟩),.slice (some ⟨x.2.1,0,none⟩) x.1.length x.2.2,.int .i64 most,.bool false,.slice pp ps.length cp,.slice psl L.length csl,.func (.func 34) #[] #[.pointer (some ⟨b1,0,none⟩),.pointer (some ⟨b2,0,none⟩)],.slice (some ⟨x.2.1,0,none⟩) x.1.length x.2.2,undef,undef,undef,undef,undef,undef,undef,undef,undef],defers:=[]}/\((zAX ps L)[s.1]?=some x.1/\CR (zAX ps L) b5 b6 most s.1 s.2.1/\s.2.2.all zAY=true)/\Hold w0 W (rowM x::s.2.1++s.2.2))
   (fun W W' row hs hg hr=>hs.stayC (by simp[zAY]) hB hg hr)
   (fun j W W' row hs hg hr=>(by
    cases j with
    | none=>obtain⟨lc,hc,hs⟩:=hs;exact⟨lc,hc,hs.stayC (zFW hc) hB hg hr⟩
    | some k=>obtain⟨v,lc,hv,hc,hs⟩:=hs;exact⟨v,lc,hv,hc,hs.stayC (zJu hc) hB hg hr⟩))
   (fun s x j W W' row hs hg hr=>(by
    obtain⟨h1,lc',hc,hs⟩:=hs;refine⟨h1,lc',hc,hs.stayC ?_ hB hg hr⟩
    cases j with
    | none=>rw[List.all_append,zFW hc,h1];rfl
    | some k=>rw[List.all_append,zJu hc,h1];rfl))
   (fun s x a1 W W' row hs hg hr=>⟨hs.1,hs.2.1,hs.2.2.stayC (by simp[zAY,zFW hs.2.1.2.1,hs.2.1.2.2]) hB hg hr⟩) ?iter hI ?assign ?body ?done ?pan)
  case iter =>
   intro l B K hBs hKs hBK hY W hI hBW;refine(zOo (fun _=>False) w0 pp cp ps psl csl L Fp Fs hset hL hFp hFs hp hs (fun _ h=>h.elim) b1 b2 (CR (zAX ps L) b5 b6 most) (CX (zAX ps L) b5 b6 most) (fun _ _ h=>zFW h) l B w.heap.size hBs (fun v sl g c lc E W1 hv hc hE hW hB1=>?_) W _ hC0 hI hBW).mono (fun e W' hh=>?_)
   ·refine(hY (v,lc,E) (sl,g,c) W1 ⟨⟨hv,hc,hE⟩,hW⟩ hB1).mono (fun e W' h=>?_)
    rcases h with ⟨j,rfl,⟨_,hq⟩,hb⟩|⟨ch,_,h,_⟩
    ·exact⟨_,rfl,j,rfl,hq,hb⟩
    ·exact h.elim
   ·obtain⟨v,j,rfl,hb,hh⟩:=hh;exact .inl ⟨v,j,rfl,hh,hb⟩
  case assign =>
   rintro l s x W hJ;simp only[List.zip_toArray,List.foldl_toArray,List.zip_cons_cons,List.zip_nil_right,List.zip_nil_left,List.foldl_cons,List.foldl_nil,List.setIfInBounds_toArray,List.set_cons_succ,List.set_cons_zero]
   gi_wp2
   refine⟨fun k o _ hk _=>hk,?_,hJ⟩
   first|trivial|rfl
  case body =>
   rintro l ⟨v,lc,E⟩ ⟨sl,g,c⟩ a1 W ⟨rfl,⟨h1,⟨xs,q,cq,rfl,hx,hxl,hvm⟩,h3⟩,H⟩;simp only[]at h1 h3 H;have hv2:v<=1002:=by
    have:=(List.getElem?_eq_some_iff.1 h1).1;have h2:=zCY (p:=ps) (s:=L) (n:=L.length+2) (a:=0) (e:=false);unfold zAX at this;omega
   have hpl:(rowM (sl,g,c)::AC b5 b6 most q cq xs++E).all zAY=true:=by rw[List.cons_append,List.all_cons,List.all_append,zFY,h3];rfl
   have hKN:=Lib.hid fun V=>KeepsNC.of_plain (W':=V) w.heap.size H hpl
   have H1:=H.framed;obtain⟨rS,hrS⟩:∃ rS,zCO W (rowM (sl,g,c)::AC b5 b6 most q cq xs++E)=rS:=⟨_,rfl⟩;obtain⟨rF,hrF⟩:∃ rF,zB3 W (rowM (sl,g,c)::AC b5 b6 most q cq xs++E)=rF:=⟨_,rfl⟩;rw[hrS]at H1 hKN;rw[hrF]at H1;clear hrS hrF H;have H:=H1.perms (show List.Perm _ (.kn rF rS::(rowM (sl,g,c)::AC b5 b6 most q cq xs++E)) from List.perm_append_comm (l₁:=rowM (sl,g,c)::AC b5 b6 most q cq xs++E) (l₂:=[_]))
   clear H1;simp only[AC,List.cons_append]at H;have hx2:(xs++[((sl,some (⟨g,0,none⟩:Addr),c):zAV)]).map (·.1)=(zAX ps L).take (v+1):=by
    rw[List.map_append,hx,List.take_add_one,h1];rfl
   have hl2:(xs++[((sl,some (⟨g,0,none⟩:Addr),c):zAV)]).length=v+1:=by rw[List.length_append,hxl];rfl
   have hend:∀ V q2 c2 bk,Hold w0 V (.blk bk #[.slice (some ⟨g,0,none⟩) sl.length c] 55::.kn rF rS::rowM (sl,g,c)::.blk b5 #[.int .i64 most] 3::.blk b6 #[.slice q2 (v+1) c2] 47::.row (.slice q2 (v+1) c2) 55 1 (v+1) (xs.map zAg++[.slice (some ⟨g,0,none⟩) sl.length c])::(xs.map zA5++E))->Hold w0 V (AC b5 b6 most q2 c2 (xs++[((sl,some (⟨g,0,none⟩:Addr),c):zAV)])++E):=fun V q2 c2 bk H=>by
    have H2:=HoldG.left (H.perms zLh);simp only[AC,hl2,List.map_append,List.map_cons,List.map_nil];exact H2
   rw[hxl]at H;have HX:=Lib.hid (And.intro hx2 hl2);clear hx2 hl2;have HEND:=Lib.hid hend;clear hend;have H3:=Lib.hid h3;clear h3 hpl;have HVM:=Lib.hid hvm;clear h1 hx hxl hvm;refine wpIn_block (wpIn_seq (wpIn_region_lit (zAs (by rintro⟨_,_,h⟩;exact h) _ _ _ rfl ?_)))
   go_wp2_with (first|((with_reducible refine gL ?_);refine zAE wtd_ _ _ rfl rfl H (i:=3) i_3 oneR rfl ?_)|((with_reducible refine gBS ?_);refine zAQ wtd_ _ _ _ rfl H #[.slice (some ⟨g,0,none⟩) sl.length c] 55 (by intro W;simp only[ml];(try simp only[pe]);exact zEe _ _ _ W) ?_;clear H;intro bk w H;replace H:=H.perms List.perm_append_comm;simp only[ca]at H)|(at_builtin;refine zAx rfl _ _ 47 rfl H (i:=5) (j:=0) evd_ rfl i_5 .zero Tryz.underlying47 hir hr0 hr1 hr2 rfl (by decide) rfl rfl (by unfold maxLen;omega) (by omega) ?_;clear H;intro v2 w H;(try simp only[nr]at H);(obtain⟨q2,c2,rfl,_,_,_⟩:=H.rowShape (i:=5) i_5))|((with_reducible refine gT ?_);refine zAN wtd_ _ _ _ rfl rfl evd_ H (i:=4) i_4 rfl (show 0<1 from Nat.one_pos) (zAD oneR) ?_;clear H;intro w H;try simp only[nr]at H))
   by_cases hvm:(v:Int)+1=most
   ·have dv:(((v:Int)+1) == most)=true:=by rw[beq_iff_eq];exact hvm
    have dv2:((((v+1:Nat):Int)) == most)=true:=by rw[beq_iff_eq];omega
    refine wpIn_seq (wpIn_region_lit (zAs (by rintro⟨_,_,h⟩;exact h) _ _ _ rfl ?_))
    go_wp2_with (first|((with_reducible refine gL ?_);refine zAE wtd_ _ _ rfl rfl H (i:=4) i_4 oneR rfl ?_)|((with_reducible refine gL ?_);refine zAE wtd_ _ _ rfl rfl H (i:=3) i_3 zAF rfl ?_))
    refine wpIn_cond_true rfl (wpIn_exit ?_);exact⟨hKN.out _ (H.kn (i:=1) i_1),(by simpa using H3.out),_,⟨rfl,_,q2,c2,rfl,HX.out.1,HX.out.2,hvm⟩,HEND.out _ _ _ _ H⟩
   ·have dv:(((v:Int)+1) == most)=false:=by rw[beq_eq_false_iff_ne];exact hvm
    have dv2:((((v+1:Nat):Int)) == most)=false:=by rw[beq_eq_false_iff_ne];omega
    refine wpIn_seq (wpIn_region_lit (zAs (by rintro⟨_,_,h⟩;exact h) _ _ _ rfl ?_))
    go_wp2_with (first|((with_reducible refine gL ?_);refine zAE wtd_ _ _ rfl rfl H (i:=4) i_4 oneR rfl ?_)|((with_reducible refine gL ?_);refine zAE wtd_ _ _ rfl rfl H (i:=3) i_3 zAF rfl ?_))
    refine wpIn_cond_false rfl (wpIn_skip ?_);exact⟨hKN.out _ (H.kn (i:=1) i_1),(by simpa using H3.out),_,⟨_,q2,c2,rfl,HX.out.1,HX.out.2,by have:=HVM.out;omega⟩,HEND.out _ _ _ _ H⟩
  case done =>
   rintro D j W hD hS hK;clear hI hC0;have hgen:∃ (xs:List zAV) (q:Option Addr) (c:Nat),xs.map (·.1)=(zAX ps L).take most.toNat/\Hold w0 W (AC b5 b6 most q c xs)/\(j=none\/j=some (.exit 0)):=by
    cases j with
    | none =>
     obtain⟨lc,⟨xs,q,c,rfl,hx,hl,hmm⟩,hs⟩:=hS;refine⟨xs,q,c,?_,hs,.inl rfl⟩;rw[hx,List.take_of_length_le (Nat.le_refl _),List.take_of_length_le (by omega)]
    | some k =>
     obtain⟨v,lc,hv,⟨rfl,xs,q,c,rfl,hx,hl,hmm⟩,hs⟩:=hS;refine⟨xs,q,c,?_,hs,.inr rfl⟩;rw[hx,show v+1=most.toNat by omega]
   obtain⟨xs,q,c,hx,H,hj⟩:=hgen;clear hS;have hKN:=Lib.hid fun V=>KeepsNC.of_plain (W':=V) w.heap.size H (zFY ..)
   have H1:=H.framed;obtain⟨rS,hrS⟩:∃ rS,zCO W (AC b5 b6 most q c xs)=rS:=⟨_,rfl⟩;obtain⟨rF,hrF⟩:∃ rF,zB3 W (AC b5 b6 most q c xs)=rF:=⟨_,rfl⟩;rw[hrS]at H1 hKN;rw[hrF]at H1;clear hrS hrF H;have H:=H1.perms (show List.Perm _ (.kn rF rS::AC b5 b6 most q c xs) from List.perm_append_comm (l₁:=AC b5 b6 most q c xs) (l₂:=[_]))
   clear H1;simp only[AC]at H;have HX:=Lib.hid hx;clear hx;have hD2:w0.heap.size<=D:=Nat.le_trans hB hD;rcases hj with rfl|rfl
   ·refine zA0 (zBC ?_)
    go_wp2_with (first|((with_reducible refine gL ?_);refine zAE wtd_ _ _ rfl rfl H (i:=2) i_2 oneR rfl ?_)|((with_reducible refine gT ?_);refine zAN wtd_ _ _ _ rfl rfl evd_ H (i:=2) i_2 rfl (show 0<1 from Nat.one_pos) (zAD oneR) ?_;clear H;intro w H;try simp only[nr]at H))
    refine zBC ?_
    go_wp2_with fail
    have hK3:=(hKN.out _ (H.kn (i:=0) .zero)).same _ _ hD hK rfl;refine⟨by simp,.inl ⟨D,_,rfl,run_takeDeferred hK3,?_⟩⟩
    have H3:Hold w0 _ (.blk b6 #[.slice q xs.length c] 47::.row (.slice q xs.length c) 55 1 xs.length (xs.map zAg)::xs.map zA5):=HoldG.left (ext:=[.kn rF rS,.blk b5 #[.int .i64 most] 3]) (H.perms (List.perm_append_comm (l₁:=[Res.kn rF rS,.blk b5 #[.int .i64 most] 3]) (l₂:=.blk b6 #[.slice q xs.length c] 47::.row (.slice q xs.length c) 55 1 xs.length (xs.map zAg)::xs.map zA5)));have H5:=Stay.putObj (Stay.plain (by simp only[List.all_cons,zBk];rfl) (Nat.le_refl _)) (.deferred none) H3 hD2 hK3 rfl
    refine⟨_,zCT Tryz.results13 rfl oneR ((H5.cell (i:=0) .zero 0).trans rfl),q,c,xs,rfl,HX.out,?_⟩
    exact HoldG.left (ext:=[.blk b6 #[.slice q xs.length c] 47]) (H5.perms (List.perm_append_comm (l₁:=[Res.blk b6 #[.slice q xs.length c] 47]) (l₂:=.row (.slice q xs.length c) 55 1 xs.length (xs.map zAg)::xs.map zA5)))
   ·simp only[zN9,Exit.inBlock];rw[if_pos trivial];refine zA0 (zBC ?_)
    go_wp2_with (first|((with_reducible refine gL ?_);refine zAE wtd_ _ _ rfl rfl H (i:=2) i_2 oneR rfl ?_)|((with_reducible refine gT ?_);refine zAN wtd_ _ _ _ rfl rfl evd_ H (i:=2) i_2 rfl (show 0<1 from Nat.one_pos) (zAD oneR) ?_;clear H;intro w H;try simp only[nr]at H))
    refine zBC ?_
    go_wp2_with fail
    have hK3:=(hKN.out _ (H.kn (i:=0) .zero)).same _ _ hD hK rfl;refine⟨by simp,.inl ⟨D,_,rfl,run_takeDeferred hK3,?_⟩⟩
    have H3:Hold w0 _ (.blk b6 #[.slice q xs.length c] 47::.row (.slice q xs.length c) 55 1 xs.length (xs.map zAg)::xs.map zA5):=HoldG.left (ext:=[.kn rF rS,.blk b5 #[.int .i64 most] 3]) (H.perms (List.perm_append_comm (l₁:=[Res.kn rF rS,.blk b5 #[.int .i64 most] 3]) (l₂:=.blk b6 #[.slice q xs.length c] 47::.row (.slice q xs.length c) 55 1 xs.length (xs.map zAg)::xs.map zA5)));have H5:=Stay.putObj (Stay.plain (by simp only[List.all_cons,zBk];rfl) (Nat.le_refl _)) (.deferred none) H3 hD2 hK3 rfl
    refine⟨_,zCT Tryz.results13 rfl oneR ((H5.cell (i:=0) .zero 0).trans rfl),q,c,xs,rfl,HX.out,?_⟩
    exact HoldG.left (ext:=[.blk b6 #[.slice q xs.length c] 47]) (H5.perms (List.perm_append_comm (l₁:=[Res.blk b6 #[.slice q xs.length c] 47]) (l₂:=.row (.slice q xs.length c) 55 1 xs.length (xs.map zAg)::xs.map zA5)))
  case pan=>exact fun D ch W _ h _=>h.elim
end
end Go.Proofs.YtphjgfjbiimkjaaGreat
