/-
  Laws of walks, and walks.
-/
import Derived.Test.YtphjgfjbiimkjaaGreatEc11
import Derived.Test.YtphjgfjbiimkjaaGreatEc16
import Derived.Test.YtphjgfjbiimkjaaGreatEc13
import Derived.Deep.CutRange
import Derived.Test.YtphjgfjbiimkjaaGreatEc9
import Derived.RangeFuncLeaves
import Derived.Test.YtphjgfjbiimkjaaGreatEc10
set_option linter.unusedVariables false
set_option linter.unusedSimpArgs false
set_option maxRecDepth 100000
set_option maxHeartbeats 16000000
namespace Go.Proofs.YtphjgfjbiimkjaaGreat
section
open Go.RowKit
structure RelK (b:Nat) (vs:List (Nat × Value)) (w w':World):Prop where
 os:w'.os=w.os
 tape:w'.tape=w.tape
 output:w'.output=w.output
 size:w.heap.size<=w'.heap.size
 old:∀ k,k<w.heap.size->k≠b->w'.heap[k]?=w.heap[k]?
 at0:∀ cs T,w.heap[b]?=some (.cells cs T (0,0))->∃ ds:Array Value,w'.heap[b]?=some (.cells ds T (0,0))/\ds.size=cs.size/\∀ i,ds[i]?=cs[i]?\/∃ v,(i,v) ∈ vs/\ds[i]?=some v
section
variable {b:Nat} {vs:List (Nat × Value)}
theorem RelK.refl (w:World):RelK b vs w w:=⟨rfl,rfl,rfl,Nat.le_refl _,fun _ _ _=>rfl,fun cs T h=>⟨cs,h,rfl,fun _=>.inl rfl⟩⟩
theorem RelK.trans (u v w:World) (h:RelK b vs u v) (k:RelK b vs v w):RelK b vs u w:=by
 refine⟨k.os.trans h.os,k.tape.trans h.tape,k.output.trans h.output,Nat.le_trans h.size k.size,fun i h1 h2=>(k.old i (Nat.lt_of_lt_of_le h1 h.size) h2).trans (h.old i h1 h2),fun cs T hc=>?_⟩
 obtain⟨ds,h1,h2,h3⟩:=h.at0 cs T hc;obtain⟨es,k1,k2,k3⟩:=k.at0 ds T h1;refine⟨es,k1,k2.trans h2,fun i=>?_⟩
 rcases k3 i with e|e
 ·rw[e];exact h3 i
 ·exact .inr e
theorem RelK.drew (w:World):RelK b vs w {w with drawn:=w.drawn+1}:=⟨rfl,rfl,rfl,Nat.le_refl _,fun _ _ _=>rfl,fun cs T h=>⟨cs,h,rfl,fun _=>.inl rfl⟩⟩
theorem RelK.of_below {w w':World} (h:Below w.heap.size w w'):RelK b vs w w':=⟨h.os,h.tape,h.output,h.size,fun k hk _=>h.block k hk,fun cs T hc=>⟨cs,(h.block b (Array.getElem?_eq_some_iff.1 hc).1).trans hc,rfl,fun _=>.inl rfl⟩⟩
def zKt (b i:Nat) (v u:Value) (w:World):Prop:=u=.pointer (some ⟨b,i,none⟩)/\∃ cs T,w.heap[b]?=some (.cells cs T (0,0))/\cs[i]?=some v
theorem zFH {i:Nat} {v:Value} (hd:∀ v',(i,v') ∈ vs->v'=v):zF0 (RelK b vs) (zKt b i v):=fun u w w' ⟨e,cs,T,h1,h2⟩ hr=>by
 obtain⟨ds,k1,_,k3⟩:=hr.at0 cs T h1;refine⟨e,ds,T,k1,?_⟩
 rcases k3 i with f|⟨v',f1,f2⟩
 ·rw[f];exact h2
 ·rw[hd v' f1]at f2;exact f2
theorem HoldG.relK {M:Nat->Prop} {w0 w W:World} {l:List Res} (H:HoldG M w0 w l) {i:Nat} {cs:Array Value} {T:TypeId} (hi:At l i (.blk b cs T)) (hr:RelK b vs w W):∃ ds:Array Value,ds.size=cs.size/\(∀ i,ds[i]?=cs[i]?\/∃ v,(i,v) ∈ vs/\ds[i]?=some v)/\HoldG M w0 W (l.set i (.blk b ds T)):=by
 have hb:=H.blk hi;obtain⟨ds,h1,h2,h3⟩:=hr.at0 cs T hb.2;exact⟨ds,h2,h3,H.upd hi.get ⟨hr.os,hr.tape,hr.output,hr.size,fun k h1 h2=>hr.old k h1 (fun e=>h2 (by rw[e];rfl))⟩ ⟨hb.1,h1⟩ (fun _ e=>.inl e)⟩
theorem zHd {P:Program} {ops:Array Oper} {o:Oper} {a:Act} {w:World} {S:TypeId} {m:Tmp} {y:Operand} {i:Nat} {v:Value} (hg:Region.wanted o (yielded ops a.tmps)=true) (hop:o.op=.store S (.tmp m) y) (hdst:o.dst=none) (hm:a.eval (.tmp m)=.pointer (some ⟨b,i,none⟩)) (hy:a.eval y=v) (hv:(i,v) ∈ vs)
  (hb:∃ cs T,w.heap[b]?=some (.cells cs T (0,0))/\i<cs.size) (hT:zDD P S 1=true) (h1:v.oneCell'=true):zB5 P ops (RelK b vs) o a w (fun u w'=>zKt b i v u w'/\(o.dst=none->u=zGF o a)):=by
 obtain⟨cs,T,hb,hs⟩:=hb;unfold zB5;rw[if_pos hg];unfold Oper.wp;have h0:(⟨b,i,none⟩:Addr).add 0=⟨b,i,none⟩:=by rw[Addr.add_mid];rfl
 have hcell:(w.cell? ⟨b,i,none⟩).isSome=true:=by rw[cell_of_row w b i cs T (0,0) hb];simp[hs]
 have hfz:w.frozen? ⟨b,i,none⟩=false:=by simp[World.frozen?,hb]
 have hr':(execOp a.eval o).run P w=.ok .skip (w.setCell ⟨b,i,none⟩ v):=by
  unfold execOp;simp only[hop,hm,hy,Instr.storeAt,Instr.sureAddr,Sem.run_bind,Sem.run_pure,Result.andThen_ok,zB7 (P:=P) (w:=w) hT h1 hcell hfz h0]
 rw[hr'];simp only[Oper.upon];have hg2:=zBe w b i v;have hh:=heap_setCell (k:=i) hb v;refine⟨.pointer (some ⟨b,i,none⟩),(by rw[hdst];rfl),⟨hg2.os,hg2.tape,hg2.output,hg2.size,fun j hj hne=>hg2.block j hj (fun e=>by cases e;exact hne rfl),fun cs' T' hc=>?_⟩,⟨rfl,_,_,hh,?_⟩,fun _=>?_⟩
 ·rw[hb]at hc;cases hc
  refine⟨_,hh,by simp,fun j=>?_⟩
  by_cases hji:i=j
  ·subst hji;refine .inr ⟨v,hv,?_⟩
   simp[hs]
  ·exact .inl (Array.getElem?_setIfInBounds_ne hji)
 ·simp[hs]
 ·unfold zGF ownT;rw[hop];exact hm.symm
end
end
section
open Go.RowKit Go.Shelf
attribute [local go_sem] Oper.semAt_some
theorem zEw {o:Oper} {a:Act} {w:World} {x y:Operand} {U:TypeId} {p:Option Addr} {n c:Nat} (hop:o.op=.binOp .neq 88 x y U) (hx:a.eval x=.slice p n c) (hy:a.eval y=.slice none 0 0):(execOp a.eval o).run Tryz.prog w=.ok (.value (.bool (!p.isNone))) w:=by
 simp only[execOp,hop,hx,hy];simp[go_sem,binOp,run_equal_slice_nil w 88 _ p n c Tryz.underlying88]
section
variable {ops:Array Oper} {dst:Option Tmp} {ty:TypeId} {pos:String} {aft:Array Edge} {grd:Option (Nat × Bool)} {rest:List Oper} {a:Act} {w:World} {Q:Exit->Act->World->Prop}
theorem gNF {U:TypeId} {x y:Operand} (h:wpList Tryz.prog ops Q ((⟨dst,.binOp .neq 88 x y U,ty,pos,aft,grd⟩:Oper)::rest) a w):wpList Tryz.prog ops Q ((⟨dst,.binOp .neq 88 x y U,ty,pos,aft,grd⟩:Oper)::rest) a w:=h
theorem nF {U:TypeId} {x y:Operand} {p:Option Addr} {n c:Nat} (h:wpList Tryz.prog ops Q rest (a.put dst (.bool (!p.isNone))) w) (hg:Region.wanted (⟨dst,.binOp .neq 88 x y U,ty,pos,aft,grd⟩:Oper) (yielded ops a.tmps)=true:=by first|rfl|exact zAT rfl (zAM rfl (by first|rfl|(simp only[pe];rfl)))) (hx:a.eval x=.slice p n c:=by first|(simp only[pe];done)|(simp only[pe];rfl)) (hy:a.eval y=.slice none 0 0:=by first|(simp only[pe];done)|(simp only[pe];rfl)):wpList Tryz.prog ops Q ((⟨dst,.binOp .neq 88 x y U,ty,pos,aft,grd⟩:Oper)::rest) a w :=
 zAh hg (zEw rfl hx hy) h
end
theorem nFs {ops:Array Oper} {dst:Option Tmp} {ty:TypeId} {pos:String} {aft:Array Edge} {grd:Option (Nat × Bool)} {rest:List Oper} {a:Act} {w:World} {Q:Exit->Act->World->Prop} {U:TypeId} {x y:Operand} {ad:Addr} {n c:Nat} (h:wpList Tryz.prog ops Q rest (a.put dst (.bool true)) w) (hg:Region.wanted (⟨dst,.binOp .neq 88 x y U,ty,pos,aft,grd⟩:Oper) (yielded ops a.tmps)=true:=by first|rfl|exact zAT rfl (zAM rfl (by first|rfl|(simp only[pe];rfl)))) (hx:a.eval x=.slice (some ad) n c:=by first|(simp only[pe];done)|(simp only[pe];rfl)) (hy:a.eval y=.slice none 0 0:=by first|(simp only[pe];done)|(simp only[pe];rfl)):wpList Tryz.prog ops Q ((⟨dst,.binOp .neq 88 x y U,ty,pos,aft,grd⟩:Oper)::rest) a w :=
 zAh hg (zEw (p:=some ad) rfl hx hy) h
theorem zDt {P:Program} {a:Act} {o:Oper} {C:World->Prop} {K:Act->Prop} {v:Value} (h:∀ w,C w->(execOp a.eval o).run P w=.ok (.value v) w) (hk:K (a.put o.dst v)):o.quiet P a C K :=
 ⟨v,fun w hw=>by unfold Oper.quietAt;rw[h w hw];exact⟨rfl,rfl⟩,hk⟩
theorem zDs (b c:Nat) (sl:zAP) (F:Nat->Prop) (w0:World) (h2:2<=sl.length) (h:IntsR F (some ⟨b,0,none⟩) c sl w0) (hF:∀ b,F b->b<w0.heap.size) :
  Calls Tryz.prog 50 #[.slice (some ⟨b,0,none⟩) sl.length c] w0 (Rt (.bool (sl.getD 0 0 == sl.getD 1 0)) w0):=by
 have c0:=fun W (hb:Below w0.heap.size w0 W)=>(h.kept (V:=W) fun b hbF=>hb.block b (hF b hbF)).cell0 (k:=0) (by omega)
 have c1:=fun W (hb:Below w0.heap.size w0 W)=>(h.kept (V:=W) fun b hbF=>hb.block b (hF b hbF)).cell0 (k:=1) (by omega)
 simp only[Nat.zero_add]at c0 c1;have z0:(0:Int)<(sl.length:Int):=by omega
 have z1:(1:Int)<(sl.length:Int):=by omega
 obtain⟨x0,hx0⟩:∃ x0,sl.getD 0 0=x0:=⟨_,rfl⟩;obtain⟨x1,hx1⟩:∃ x1,sl.getD 1 0=x1:=⟨_,rfl⟩;rw[hx0]at c0 ⊢;rw[hx1]at c1 ⊢;clear hx0 hx1 h hF;obtain⟨T,hT,fw,hf,h0⟩:=fam w0;have e0:=fun x=>c0 _ (hf x)
 have e1:=fun x=>c1 _ (hf x)
 clear c0 c1
 go_enter Tryz.func50,Tryz.ntmps50
 go_upto_region 1 with fail
 refine zAZ fw (by kernel_rfl) (by kernel_rfl) h0 ?_
 repeat (go_big_quiet_step (fail))
 refine wpQuiet_nil ?_
 rintro _ ⟨x,rfl⟩;have hb:=hf x;clear e0 e1
 go_wp2_with fail
 go_ret;exact⟨rfl,hb⟩
section
variable {M:Nat->Prop} {P:Program} {f:FuncId} {args:Array Value} {w w0:World} {l:List Res} {R:Ending->World->Prop}
theorem chRE {sl:zAP} (c:Calls P f args w fun e w'=>RunE w (some sl) e w'/\Below w.heap.size w w') (H:HoldG M w0 w l)
  (k:∀ q n w',HoldG M w0 w' (l++[.row (.slice q sl.length n) 3 1 sl.length (sl.map (.int .i64))])->R (.returned (.slice q sl.length n)) w'):Calls P f args w R:=c.mono fun _ w' h=>by
 obtain⟨⟨q,n,rfl,ho⟩,hb⟩:=h;exact k q n w' (H.gainRowX hb ho)
theorem zQD (c:Calls P f args w fun e w'=>RunE w none e w'/\Below w.heap.size w w') (H:HoldG M w0 w l)
  (k:∀ w',HoldG M w0 w' l->R (.returned (.slice none 0 0)) w'):Calls P f args w R:=c.mono fun _ w' h=>by
 obtain⟨rfl,hb⟩:=h;exact k w' (H.call hb)
end
abbrev zBl (pv sv:Value) (a:Int) (e:Bool):Array Value:=#[pv,sv,.int .i64 a,.bool e]
def zQf (M:Nat->Prop) (w0:World) (l:List Res) (r:Option zAP) (v:Value) (W:World):Prop:=match r with
 | none=>v=.slice none 0 0/\HoldG M w0 W l
 | some sl=>∃ g c,v=.slice (some ⟨g,0,none⟩) sl.length c/\HoldG M w0 W (l++[.row (.slice (some ⟨g,0,none⟩) sl.length c) 3 1 sl.length (sl.map (.int .i64))])
def zQX (M:Nat->Prop) (w0 w:World) (l1:List Res) (l2:zAP->List Res) (r:Option zAP) (e:Ending) (w':World):Prop:=match r with
 | none=>e=.returned (.slice none 0 0)/\Turned M w0 w l1 l1 w'
 | some sl=>∃ q c,e=.returned (.slice q sl.length c)/\Turned M w0 w l1 (l2 sl++[.row (.slice q sl.length c) 3 1 sl.length (sl.map (.int .i64))]) w'
theorem zKB {pv sv x y:Value} {a:Int} {e:Bool} {ds:Array Value} (hs:ds.size=4) (h:∀ i,ds[i]?=(zBl pv sv a e)[i]?\/∃ v,(i,v) ∈ ([(2,x),(3,y)]:List (Nat × Value))/\ds[i]?=some v) (h2:ds[2]?=some x) (h3:ds[3]?=some y):ds=#[pv,sv,x,y]:=by
 apply Array.ext_getElem?;intro i
 match i with
 | 0=>rcases h 0 with e|⟨v,e,_⟩<;>first|exact e|(simp at e)
 | 1=>rcases h 1 with e|⟨v,e,_⟩<;>first|exact e|(simp at e)
 | 2=>exact h2
 | 3=>exact h3
 | i+4=>rw[Array.getElem?_eq_none (by omega)];rfl
theorem zNS {w:World} {Fp Fs:Nat->Prop} {P S:World->Prop} {b1 b2:Nat} {c1 c2:Array Value} {T1 T2:TypeId} {l:List Res} (hl:∀ F S,Res.kn F S ∉ l):∀ F S',Res.kn F S' ∈ Res.blk b2 c2 T2::.kn Fp P::.kn Fs S::l->∀ b,F b->(∃ s ∈ [Res.blk b1 c1 T1,.kn Fp P,.kn Fs S],s.foot b)\/w.heap.size<=b:=fun F S' hm b hb=>by
 rcases List.mem_cons.1 hm with h|h
 ·cases h
 rcases List.mem_cons.1 h with h|h
 ·cases h;exact .inl ⟨_,.tail _ (.head _),hb⟩
 rcases List.mem_cons.1 h with h|h
 ·cases h;exact .inl ⟨_,.tail _ (.tail _ (.head _)),hb⟩
 ·exact absurd h (hl _ _)
theorem zPT (M:Nat->Prop) (w0 w:World) (wb:Nat) (a:Int) (en:Bool) (pp:Option Addr) (cp:Nat) (ps:List InstD) (psl:Option Addr) (csl:Nat) (L:Str) (Fp Fs:Nat->Prop) (hset:∀ x ∈ ps,zAb x.set) (hL:L.length<=1000) (ha:0<=a/\a<=1001)
  (H0:HoldG M w0 w [.blk wb (zBl (.slice pp ps.length cp) (.slice psl L.length csl) a en) 87,.kn Fp (InstsR Fp pp cp ps),.kn Fs (BytesR Fs psl csl L)]) :
  Calls Tryz.prog 35 #[.pointer (some ⟨wb,0,none⟩)] w fun x w'=>zQX M w0 w [.blk wb (zBl (.slice pp ps.length cp) (.slice psl L.length csl) a en) 87,.kn Fp (InstsR Fp pp cp ps),.kn Fs (BytesR Fs psl csl L)] (fun sl=>[.blk wb (zBl (.slice pp ps.length cp) (.slice psl L.length csl) (atN sl) (endN sl)) 87,.kn Fp (InstsR Fp pp cp ps),.kn Fs (BytesR Fs psl csl L)]) (zBu ps L a en) x w':=by
 have H:=H0.framed;clear H0;obtain⟨rF,hrF⟩:∃ rF,zB3 w [.blk wb (zBl (.slice pp ps.length cp) (.slice psl L.length csl) a en) 87,.kn Fp (InstsR Fp pp cp ps),.kn Fs (BytesR Fs psl csl L)]=rF:=⟨_,rfl⟩;obtain⟨rS,hrS⟩:∃ rS,zCO w [.blk wb (zBl (.slice pp ps.length cp) (.slice psl L.length csl) a en) 87,.kn Fp (InstsR Fp pp cp ps),.kn Fs (BytesR Fs psl csl L)]=rS:=⟨_,rfl⟩;rw[hrF,hrS]at H;simp only[ca]at H
 have RS:=Lib.hid hrS;have RF:=Lib.hid hrF;clear hrF hrS;have hrun:=Lib.hid (fun a w h1 h2 h3 h4=>zP6 pp cp ps psl csl L a Fp Fs w hset hL h1 h2 h3 h4)
 obtain⟨pv,hpv⟩:∃ pv,Value.slice pp ps.length cp=pv:=⟨_,rfl⟩;obtain⟨sv,hsv⟩:∃ sv,Value.slice psl L.length csl=sv:=⟨_,rfl⟩;rw[hpv,hsv]at hrun;have PV:=Lib.hid hpv;have SV:=Lib.hid hsv;rw[hpv,hsv]at H ⊢;rw[hpv,hsv]at RS RF;clear hpv hsv hset;have w64:wrap64 (a+1)=a+1:=by unfold wrap64;omega
 go_enter Tryz.func35,Tryz.ntmps35
 go_upto_region 1 with fail
 have hcs:=fun W hb k=>(H.call (W':=W) hb).cell (i:=0) .zero k
 refine wr_ 8 [fun v _=>v=pt wb 0,fun v _=>v=pt wb 0,fun v _=>v=pt wb 0,fun v _=>v=.agg #[pv,sv],fun v _=>v=pt wb 0,fun v _=>v=pt wb 0,fun v _=>v=pt wb 2,fun v _=>v=.int .i64 a] ?ob ?en
 case ob =>
  refine⟨?_,?_,?_,?_,?_,?_,?_,?_,trivial⟩<;>intro A W h
  ·exact zAB rfl rfl (h.f 0)
  ·(have e4:A.eval (.tmp 4)=.pointer (some ⟨wb,0,none⟩):=h.d 0 4;refine zAA rfl ?_;simp only[execOp,e4];(simp[go_sem]<;>first|done|omega|(rw[IntKind.wrap_i64];omega)|(rw[IntKind.wrap_u8];omega)|(rw[IntKind.wrap_u64];omega)))
  ·(have e5:A.eval (.tmp 5)=.pointer (some ⟨wb,0,none⟩):=h.d 1 5;refine zAA rfl ?_;simp only[execOp,e5];(simp[go_sem]<;>first|done|omega|(rw[IntKind.wrap_i64];omega)|(rw[IntKind.wrap_u8];omega)|(rw[IntKind.wrap_u64];omega)))
  ·exact zAA rfl (zAk (vs:=#[pv,sv]) rfl (h.d 2 6) zJw rfl (fun j hj=>by rw[Nat.zero_add,hcs _ h.below j];match j,hj with|0,_=>rfl|1,_=>rfl)) (by decide)
  ·exact zAB rfl rfl (h.f 0)
  ·(have e8:A.eval (.tmp 8)=.pointer (some ⟨wb,0,none⟩):=h.d 4 8;refine zAA rfl ?_;simp only[execOp,e8];(simp[go_sem]<;>first|done|omega|(rw[IntKind.wrap_i64];omega)|(rw[IntKind.wrap_u8];omega)|(rw[IntKind.wrap_u64];omega)))
  ·(have e9:A.eval (.tmp 9)=.pointer (some ⟨wb,0,none⟩):=h.d 5 9;refine zAA rfl ?_;simp only[execOp,e9];(simp[go_sem]<;>first|done|omega|(rw[IntKind.wrap_i64];omega)|(rw[IntKind.wrap_u8];omega)|(rw[IntKind.wrap_u64];omega)))
  ·exact zAA rfl (zAC rfl (h.d 6 10) zAF (hcs _ h.below 2)) (by decide)
 case en =>
  intro vals W hbw hv _;simp only[fa,Nat.reduceAdd];rw[e_ hv 0,e_ hv 1,e_ hv 2,e_ hv 3,e_ hv 4,e_ hv 5,e_ hv 6,e_ hv 7];clear hv
  try simp only[pl]
  replace H:=H.call hbw;clear hbw hcs
  cases hm:zBQ ps L a with
  | none =>
   have hv:=fun w h1 h2 h3 h4=>hrun.out a w h1 h2 h3 h4
   rw[hm]at hv;have E:=Lib.hid (show zBu ps L a en=none by unfold zBu;rw[hm])
   clear hm hrun
   go_upto_region 2 with (first|(go_at_call 49;refine zQD (hv _ (H.knlt (i:=1) i_1) (H.knlt (i:=2) i_2) (H.kn (i:=1) i_1) (H.kn (i:=2) i_2)) H ?_;clear H;intro w H;try simp only[ca]at H))
   obtain⟨T,hT,fw,hf,h0⟩:=fam w;refine zAZ fw (by kernel_rfl) (by kernel_rfl) h0 ?_
   repeat (go_big_quiet_step (fail))
   refine wpQuiet_nil ?_
   rintro _ ⟨x,rfl⟩;replace H:=H.call (hf x)
   go_wp2_with (first|((with_reducible refine gNF ?_);refine nF ?_))
   go_ret;rw[E.out];rw[← RF.out,← RS.out]at H;exact⟨rfl,Turned.of H (i:=3) i_3 [0,1,2] (by decide) (by decide) rfl (zNS (fun _ _ h=>by cases h))⟩
  | some sl =>
   obtain⟨m0,m1,m2,m3,m4,m5,m6,m7,m8⟩:=zBh hm;clear m0 m7 m8;have hv:=fun w h1 h2 h3 h4=>hrun.out a w h1 h2 h3 h4
   rw[hm]at hv;obtain⟨x0,hx0⟩:∃ x0,sl.getD 0 0=x0:=⟨_,rfl⟩;obtain⟨x1,hx1⟩:∃ x1,sl.getD 1 0=x1:=⟨_,rfl⟩;have E:zBu ps L a en=if en=true/\x0=x1/\x0=a then zBQ ps L (a+1) else some sl:=by unfold zBu;rw[hm,← hx0,← hx1]
   have X0:=Lib.hid hx0;have X1:=Lib.hid hx1;have E:=Lib.hid E;rw[hx0,hx1]at m5;rw[hx0]at m4;rw[hx1]at m6;clear hm hx0 hx1
   repeat ((fail_if_success (with_reducible show Code.wp _ (Code.seq (Code.region 2 _ _) _) _ _ _));first|(go_at_call 49;refine chRE (hv _ (H.knlt (i:=1) i_1) (H.knlt (i:=2) i_2) (H.kn (i:=1) i_1) (H.kn (i:=2) i_2)) H ?_;clear H;intro q n w H;try simp only[ca]at H)|go_values|go_skip|go_guarded|go_step|go_upon|go_back|go_simp)
   obtain⟨q2,c2,e2,_,_,hq⟩:=H.rowShape (i:=4) i_4;simp only[Value.slice.injEq,true_and]at e2;obtain⟨rfl,rfl⟩:=e2;obtain⟨g,rfl⟩:=hq (by omega)
   clear hq hv
   go_cut [3] from 13 to 44 (fun v wx=>zQf M w0 [.blk wb (zBl pv sv a en) 87,.kn Fp (InstsR Fp pp cp ps),.kn Fs (BytesR Fs psl csl L),.kn rF rS] (zBu ps L a en) v wx)
   case first =>
    go_upto_region 2 with fail
    cases en with
    | false =>
     have z0:(0:Int)<(sl.length:Int):=by omega
     have z1:(1:Int)<(sl.length:Int):=by omega
     have c0:=fun W hb=>(H.call (W':=W) hb).rowAt1 (i:=4) i_4 (k:=0) (by omega)
     rw[X0.out]at c0;have c3:=fun W hb=>(H.call (W':=W) hb).cell (i:=0) .zero 3
     have c2:=fun W hb=>(H.call (W':=W) hb).cell (i:=0) .zero 2
     simp only[List.getElem?_toArray,List.getElem?_cons_zero,List.getElem?_cons_succ]at c2 c3;have ce:∀ W,Below w.heap.size w W->Calls Tryz.prog 50 #[.slice (some ⟨g,0,none⟩) sl.length n] W fun e w'=>e=.returned (.bool (x0 == x1))/\Below W.heap.size W w':=fun W hb=>by
      have H2:=H.call (W':=W) hb;obtain⟨F,hF,hI⟩:=H2.rowInts (i:=4) i_4;have:=zDs g n sl F W (by omega) hI (fun b hb=>(hF b hb).2)
      rw[X0.out,X1.out]at this;exact this
     obtain⟨T,hT,fw,hf,h0⟩:=fam w;have e0:=fun x=>c0 _ (hf x)
     have e2:=fun x=>c2 _ (hf x)
     have e3:=fun x=>c3 _ (hf x)
     have HC:=Lib.hid (fun x=>zFb hf h0 x (ce _ (hf x)))
     clear c0 c2 c3 ce;refine zAZ fw (by kernel_rfl) (by kernel_rfl) h0 ?_
     go_big_quiet_step (fail)
     go_big_quiet_want
     refine zDt (v:=.bool true) (fun _ _=>zEw (p:=some ⟨g,0,none⟩) rfl rfl rfl) ?_
     simp only[pl]
     go_big_quiet_on
     repeat (go_big_quiet_step (with_reducible exact HC.out _))
     refine wpQuiet_nil ?_
     rintro _ ⟨x,rfl⟩;replace H:=H.call (hf x);clear e0 e2 e3 HC
     go_wp2_with fail
     go_meet
     case rel=>exact(by rw[E.out,if_neg (fun h=>Bool.noConfusion h.1)];exact⟨g,n,rfl,H⟩)
    | true =>
     by_cases h1:x0=x1
     case neg =>
      have d1:(x0 == x1)=false:=by rw[beq_eq_false_iff_ne];exact h1
      have z0:(0:Int)<(sl.length:Int):=by omega
      have z1:(1:Int)<(sl.length:Int):=by omega
      have c0:=fun W hb=>(H.call (W':=W) hb).rowAt1 (i:=4) i_4 (k:=0) (by omega)
      rw[X0.out]at c0;have c3:=fun W hb=>(H.call (W':=W) hb).cell (i:=0) .zero 3
      have c2:=fun W hb=>(H.call (W':=W) hb).cell (i:=0) .zero 2
      simp only[List.getElem?_toArray,List.getElem?_cons_zero,List.getElem?_cons_succ]at c2 c3;have ce:∀ W,Below w.heap.size w W->Calls Tryz.prog 50 #[.slice (some ⟨g,0,none⟩) sl.length n] W fun e w'=>e=.returned (.bool false)/\Below W.heap.size W w':=fun W hb=>by
       have H2:=H.call (W':=W) hb;obtain⟨F,hF,hI⟩:=H2.rowInts (i:=4) i_4;have:=zDs g n sl F W (by omega) hI (fun b hb=>(hF b hb).2)
       rw[X0.out,X1.out,d1]at this;exact this
      obtain⟨T,hT,fw,hf,h0⟩:=fam w;have e0:=fun x=>c0 _ (hf x)
      have e2:=fun x=>c2 _ (hf x)
      have e3:=fun x=>c3 _ (hf x)
      have HC:=Lib.hid (fun x=>zFb hf h0 x (ce _ (hf x)))
      clear c0 c2 c3 ce;refine zAZ fw (by kernel_rfl) (by kernel_rfl) h0 ?_
      go_big_quiet_step (fail)
      go_big_quiet_want
      refine zDt (v:=.bool true) (fun _ _=>zEw (p:=some ⟨g,0,none⟩) rfl rfl rfl) ?_
      simp only[pl]
      go_big_quiet_on
      repeat (go_big_quiet_step (with_reducible exact HC.out _))
      refine wpQuiet_nil ?_
      rintro _ ⟨x,rfl⟩;replace H:=H.call (hf x);clear e0 e2 e3 HC
      go_wp2_with fail
      go_meet
      case rel=>exact(by rw[E.out,if_neg (fun h=>h1 h.2.1)];exact⟨g,n,rfl,H⟩)
     have d1:(x0 == x1)=true:=by rw[beq_iff_eq];exact h1
     by_cases h2:x0=a
     case neg =>
      have d2:(x0 == a)=false:=by rw[beq_eq_false_iff_ne];exact h2
      have z0:(0:Int)<(sl.length:Int):=by omega
      have z1:(1:Int)<(sl.length:Int):=by omega
      have c0:=fun W hb=>(H.call (W':=W) hb).rowAt1 (i:=4) i_4 (k:=0) (by omega)
      rw[X0.out]at c0;have c3:=fun W hb=>(H.call (W':=W) hb).cell (i:=0) .zero 3
      have c2:=fun W hb=>(H.call (W':=W) hb).cell (i:=0) .zero 2
      simp only[List.getElem?_toArray,List.getElem?_cons_zero,List.getElem?_cons_succ]at c2 c3;have ce:∀ W,Below w.heap.size w W->Calls Tryz.prog 50 #[.slice (some ⟨g,0,none⟩) sl.length n] W fun e w'=>e=.returned (.bool true)/\Below W.heap.size W w':=fun W hb=>by
       have H2:=H.call (W':=W) hb;obtain⟨F,hF,hI⟩:=H2.rowInts (i:=4) i_4;have:=zDs g n sl F W (by omega) hI (fun b hb=>(hF b hb).2)
       rw[X0.out,X1.out,d1]at this;exact this
      obtain⟨T,hT,fw,hf,h0⟩:=fam w;have e0:=fun x=>c0 _ (hf x)
      have e2:=fun x=>c2 _ (hf x)
      have e3:=fun x=>c3 _ (hf x)
      have HC:=Lib.hid (fun x=>zFb hf h0 x (ce _ (hf x)))
      clear c0 c2 c3 ce;refine zAZ fw (by kernel_rfl) (by kernel_rfl) h0 ?_
      go_big_quiet_step (fail)
      go_big_quiet_want
      refine zDt (v:=.bool true) (fun _ _=>zEw (p:=some ⟨g,0,none⟩) rfl rfl rfl) ?_
      simp only[pl]
      go_big_quiet_on
      repeat (go_big_quiet_step (with_reducible exact HC.out _))
      refine wpQuiet_nil ?_
      rintro _ ⟨x,rfl⟩;replace H:=H.call (hf x);clear e0 e2 e3 HC
      go_wp2_with fail
      go_meet
      case rel=>exact(by rw[E.out,if_neg (fun h=>h2 h.2.2)];exact⟨g,n,rfl,H⟩)
     have d2:(x0 == a)=true:=by rw[beq_iff_eq];exact h2
     have E2:=Lib.hid (show zBu ps L a true=zBQ ps L (a+1) by rw[E.out,if_pos ⟨rfl,h1,h2⟩])
     have z0:(0:Int)<(sl.length:Int):=by omega
     have z1:(1:Int)<(sl.length:Int):=by omega
     have c0:=fun W hb=>(H.call (W':=W) hb).rowAt1 (i:=4) i_4 (k:=0) (by omega)
     rw[X0.out]at c0;have c3:=fun W hb=>(H.call (W':=W) hb).cell (i:=0) .zero 3
     have c2:=fun W hb=>(H.call (W':=W) hb).cell (i:=0) .zero 2
     simp only[List.getElem?_toArray,List.getElem?_cons_zero,List.getElem?_cons_succ]at c2 c3;have ce:∀ W,Below w.heap.size w W->Calls Tryz.prog 50 #[.slice (some ⟨g,0,none⟩) sl.length n] W fun e w'=>e=.returned (.bool true)/\Below W.heap.size W w':=fun W hb=>by
      have H2:=H.call (W':=W) hb;obtain⟨F,hF,hI⟩:=H2.rowInts (i:=4) i_4;have:=zDs g n sl F W (by omega) hI (fun b hb=>(hF b hb).2)
      rw[X0.out,X1.out,d1]at this;exact this
     obtain⟨T,hT,fw,hf,h0⟩:=fam w;have e0:=fun x=>c0 _ (hf x)
     have e2:=fun x=>c2 _ (hf x)
     have e3:=fun x=>c3 _ (hf x)
     have HC:=Lib.hid (fun x=>zFb hf h0 x (ce _ (hf x)))
     clear c0 c2 c3 ce;refine zAZ fw (by kernel_rfl) (by kernel_rfl) h0 ?_
     go_big_quiet_step (fail)
     go_big_quiet_want
     refine zDt (v:=.bool true) (fun _ _=>zEw (p:=some ⟨g,0,none⟩) rfl rfl rfl) ?_
     simp only[pl]
     go_big_quiet_on
     repeat (go_big_quiet_step (with_reducible exact HC.out _))
     refine wpQuiet_nil ?_
     rintro _ ⟨x,rfl⟩;replace H:=H.call (hf x);clear e0 e2 e3 HC
     go_upto_region 3 with fail
     have hcs:=fun W hb k=>(H.call (W':=W) hb).cell (i:=0) .zero k
     refine wr_ 9 [fun v _=>v=pt wb 0,fun v _=>v=pt wb 0,fun v _=>v=pt wb 0,fun v _=>v=.agg #[pv,sv],fun v _=>v=pt wb 0,fun v _=>v=pt wb 0,fun v _=>v=pt wb 2,fun v _=>v=.int .i64 a,fun v _=>v=.int .i64 (a+1)] ?ob ?en
     case ob =>
      refine⟨?_,?_,?_,?_,?_,?_,?_,?_,?_,trivial⟩<;>intro A W h
      ·exact zAB rfl rfl (h.f 0)
      ·(have e35:A.eval (.tmp 35)=.pointer (some ⟨wb,0,none⟩):=h.d 0 35;refine zAA rfl ?_;simp only[execOp,e35];(simp[go_sem]<;>first|done|omega|(rw[IntKind.wrap_i64];omega)|(rw[IntKind.wrap_u8];omega)|(rw[IntKind.wrap_u64];omega)))
      ·(have e36:A.eval (.tmp 36)=.pointer (some ⟨wb,0,none⟩):=h.d 1 36;refine zAA rfl ?_;simp only[execOp,e36];(simp[go_sem]<;>first|done|omega|(rw[IntKind.wrap_i64];omega)|(rw[IntKind.wrap_u8];omega)|(rw[IntKind.wrap_u64];omega)))
      ·exact zAA rfl (zAk (vs:=#[pv,sv]) rfl (h.d 2 37) zJw rfl (fun j hj=>by rw[Nat.zero_add,hcs _ h.below j];match j,hj with|0,_=>rfl|1,_=>rfl)) (by decide)
      ·exact zAB rfl rfl (h.f 0)
      ·(have e39:A.eval (.tmp 39)=.pointer (some ⟨wb,0,none⟩):=h.d 4 39;refine zAA rfl ?_;simp only[execOp,e39];(simp[go_sem]<;>first|done|omega|(rw[IntKind.wrap_i64];omega)|(rw[IntKind.wrap_u8];omega)|(rw[IntKind.wrap_u64];omega)))
      ·(have e40:A.eval (.tmp 40)=.pointer (some ⟨wb,0,none⟩):=h.d 5 40;refine zAA rfl ?_;simp only[execOp,e40];(simp[go_sem]<;>first|done|omega|(rw[IntKind.wrap_i64];omega)|(rw[IntKind.wrap_u8];omega)|(rw[IntKind.wrap_u64];omega)))
      ·exact zAA rfl (zAC rfl (h.d 6 41) zAF (hcs _ h.below 2)) (by decide)
      ·(have e42:A.eval (.tmp 42)=.int .i64 a:=h.d 7 42;refine zAA rfl ?_;simp only[execOp,e42];(simp[go_sem]<;>first|done|omega|(rw[IntKind.wrap_i64];omega)|(rw[IntKind.wrap_u8];omega)|(rw[IntKind.wrap_u64];omega)))
     case en =>
      intro vals W hbw hv _;simp only[fa,Nat.reduceAdd];rw[e_ hv 0,e_ hv 1,e_ hv 2,e_ hv 3,e_ hv 4,e_ hv 5,e_ hv 6,e_ hv 7,e_ hv 8];clear hv
      try simp only[pl]
      replace H:=H.call hbw;clear hbw hcs;have hv:=fun w h1 h2 h3 h4=>hrun.out (a+1) w h1 h2 h3 h4
      cases hm2:zBQ ps L (a+1) with
      | none =>
       rw[hm2]at hv
       go_wp2_with (first|(go_at_call 49;refine zQD (hv _ (H.knlt (i:=1) i_1) (H.knlt (i:=2) i_2) (H.kn (i:=1) i_1) (H.kn (i:=2) i_2)) H ?_;clear H;intro w H;try simp only[ca]at H))
       go_meet
       case rel=>exact(by rw[E2.out,hm2];exact⟨rfl,H.pick [0,1,2,3] _ (by decide) rfl⟩)
      | some s2 =>
       have k1:=(zBh hm2).2.1;rw[hm2]at hv
       go_wp2_with (first|(go_at_call 49;refine chRE (hv _ (H.knlt (i:=1) i_1) (H.knlt (i:=2) i_2) (H.kn (i:=1) i_1) (H.kn (i:=2) i_2)) H ?_;clear H;intro q2 n2 w H;try simp only[ca]at H))
       obtain⟨q3,c3,e3,_,_,hq⟩:=H.rowShape (i:=5) i_5;simp only[Value.slice.injEq,true_and]at e3;obtain⟨rfl,rfl⟩:=e3;obtain⟨g2,rfl⟩:=hq (by omega)
       go_meet
       case rel=>exact(by rw[E2.out,hm2];exact⟨g2,n2,rfl,H.pick [0,1,2,3,5] _ (by decide) rfl⟩)
   case rest =>
    clear X0 X1 m1 m2 m3 m4 m5 m6 E
    cases hn:zBu ps L a en with
    | none =>
     rw[hn]at hcut;obtain⟨rfl,H⟩:=hcut
     go_wp2_with (first|((with_reducible refine gNF ?_);refine nF ?_))
     go_ret;rw[← RF.out,← RS.out]at H;rw[hn];exact⟨rfl,Turned.of H (i:=3) i_3 [0,1,2] (by decide) (by decide) rfl (zNS (fun _ _ h=>by cases h))⟩
    | some s3 =>
     rw[hn]at hcut;clear H;obtain⟨m1,m2,m3,m4,m5,m6,m7,k8,k9⟩:=zBU hn;clear k8 k9;obtain⟨g,n,rfl,H⟩:=hcut;simp only[ca]at H;obtain⟨x0,hx0⟩:∃ x0,s3.getD 0 0=x0:=⟨_,rfl⟩;obtain⟨x1,hx1⟩:∃ x1,s3.getD 1 0=x1:=⟨_,rfl⟩;have X0:=Lib.hid hx0;have X1:=Lib.hid hx1;rw[hx0,hx1]at m5;rw[hx1]at m6;have w65:wrap64 (x1+1)=x1+1:=by rw[hx0]at m7;unfold wrap64;omega
     have HNX:=Lib.hid hn;clear m4 m7 hn
     by_cases h1:x0=x1
     ·have d1:(x0 == x1)=true:=by rw[beq_iff_eq];exact h1
      have EA:=Lib.hid (show atN s3=x1+1 by unfold atN;rw[hx0,hx1,if_pos h1])
      have EB:=Lib.hid (show endN s3=false by unfold endN;rw[hx0,hx1];simp[h1])
      clear hx0 hx1 h1
      go_upto_region 5 with (first|((with_reducible refine gNF ?_);refine nFs ?_))
      have c0:=fun W hb=>(H.call (W':=W) hb).rowAt1 (i:=4) i_4 (k:=1) (by omega)
      obtain⟨wq,hwq⟩:∃ wq,wc=wq:=⟨_,rfl⟩;have hS:∀ W,RelK wb [(2,.int .i64 x1),(3,.bool false)] wc W->∃ ds:Array Value,ds.size=4/\(∀ i,ds[i]?=(zBl pv sv a en)[i]?\/∃ v,(i,v) ∈ ([(2,.int .i64 x1),(3,.bool false)]:List (Nat × Value))/\ds[i]?=some v)/\HoldG M w0 W [.blk wb ds 87,.kn Fp (InstsR Fp pp cp ps),.kn Fs (BytesR Fs psl csl L),.kn rF rS,.row (.slice (some ⟨g,0,none⟩) s3.length n) 3 1 s3.length (s3.map (.int .i64))]:=fun W hr=>by
       obtain⟨ds,h1,h2,h3⟩:=H.relK (i:=0) .zero hr;exact⟨ds,h1,h2,h3⟩
      refine zCb (RelK wb [(2,.int .i64 x1),(3,.bool false)]) RelK.refl RelK.trans RelK.drew 14 [fun u _=>u=pt wb 0,fun u _=>u=pt wb 0,fun u _=>u=.slice (some ⟨g,0,none⟩) s3.length n,fun u _=>u=pt g 1,fun u _=>u=.int .i64 x1,fun u _=>u=.slice (some ⟨g,0,none⟩) s3.length n,fun u _=>u=.bool true,fun u _=>u=.bool false,fun u _=>u=pt wb 0,fun u _=>u=pt wb 2,zKt wb 2 (.int .i64 x1),fun u _=>u=pt wb 0,fun u _=>u=pt wb 3,zKt wb 3 (.bool false)] (by repeat (first|exact trivial|refine⟨zBr _,?_⟩|refine⟨zFH (fun v' hv'=>by simpa using hv'),?_⟩)) (by kernel_rfl) (by kernel_rfl) (by kernel_rfl) ?ob ?en
      case ob =>
       refine⟨?_,?_,?_,?_,?_,?_,?_,?_,?_,?_,?_,?_,?_,?_,trivial⟩<;>intro A W h
       ·exact zB2 rfl (zAR RelK.refl rfl rfl (h.f 0))
       ·exact zB2 rfl (zAR RelK.refl rfl rfl (h.f 0))
       ·exact zB2 rfl (zAR RelK.refl rfl rfl (h.f 3))
       ·exact zB2 rfl (zAH RelK.refl rfl (zEZ (i:=1) Tryz.underlying88 (fun w=>by kernel_rfl) rfl (h.d 2 49) rfl (by omega)))
       ·(obtain⟨ds,_,_,H2⟩:=hS W h.rel;exact zB2 rfl (zAH RelK.refl rfl (zAC rfl (h.d 3 50) zAF (by have:=H2.rowAt1 (i:=4) i_4 (k:=1) (by omega);rw[X1.out]at this;exact this))))
       ·exact zB2 rfl (zAR RelK.refl rfl rfl (h.f 3))
       ·(obtain⟨ds,_,_,H2⟩:=hS W h.rel;obtain⟨F,hF,hI⟩:=H2.rowInts (i:=4) i_4;exact zB2 rfl (zAw rfl rfl (fun args w=>by kernel_rfl) (vs:=#[.slice (some ⟨g,0,none⟩) s3.length n]) (by have e:A.eval (.tmp 52)=.slice (some ⟨g,0,none⟩) s3.length n:=h.d 5 52;simp only[List.map_toArray,List.map_cons,List.map_nil,e]) ((zDs g n s3 F W (by omega) hI (fun b hb=>(hF b hb).2)).mono fun e w' hh=>⟨by have h9:=hh.1;rw[X0.out,X1.out,d1]at h9;exact h9,RelK.of_below hh.2⟩)))
       ·(have e:A.eval (.tmp 53)=.bool true:=h.d 6 53;refine zB2 rfl (zAH RelK.refl rfl ?_);simp only[execOp,e];simp[go_sem])
       ·(have e:A.eval (.tmp 47)=.pointer (some ⟨wb,0,none⟩):=h.d 0 47;refine zB2 rfl (zAH RelK.refl rfl ?_);simp only[execOp,e];simp[go_sem])
       ·(have e:A.eval (.tmp 55)=.pointer (some ⟨wb,0,none⟩):=h.d 8 55;refine zB2 rfl (zAH RelK.refl rfl ?_);simp only[execOp,e];simp[go_sem])
       ·(obtain⟨ds,hz,_,H2⟩:=hS W h.rel;exact zHd rfl rfl rfl (h.d 9 56) (h.d 4 51) (.head _) ⟨ds,_,(H2.blk (i:=0) .zero).2,by omega⟩ (zAD zAF) rfl)
       ·(have e:A.eval (.tmp 48)=.pointer (some ⟨wb,0,none⟩):=h.d 1 48;refine zB2 rfl (zAH RelK.refl rfl ?_);simp only[execOp,e];simp[go_sem])
       ·(have e:A.eval (.tmp 57)=.pointer (some ⟨wb,0,none⟩):=h.d 11 57;refine zB2 rfl (zAH RelK.refl rfl ?_);simp only[execOp,e];simp[go_sem])
       ·(obtain⟨ds,hz,_,H2⟩:=hS W h.rel;exact zHd rfl rfl rfl (h.d 12 58) (h.d 7 54) (.tail _ (.head _)) ⟨ds,_,(H2.blk (i:=0) .zero).2,by omega⟩ (zAD zC7) rfl)
      case en =>
       intro vals W1 hrel hv hlk;have v0:vals 0=.pointer (some ⟨wb,0,none⟩):=hv 0 (by omega)
       have v1:vals 1=.pointer (some ⟨wb,0,none⟩):=hv 1 (by omega)
       have v2:vals 2=.slice (some ⟨g,0,none⟩) s3.length n:=hv 2 (by omega)
       have v3:vals 3=.pointer (some ⟨g,1,none⟩):=hv 3 (by omega)
       have v4:vals 4=.int .i64 x1:=hv 4 (by omega)
       have v5:vals 5=.slice (some ⟨g,0,none⟩) s3.length n:=hv 5 (by omega)
       have v6:vals 6=.bool true:=hv 6 (by omega)
       have v7:vals 7=.bool false:=hv 7 (by omega)
       have v8:vals 8=.pointer (some ⟨wb,0,none⟩):=hv 8 (by omega)
       have v9:vals 9=.pointer (some ⟨wb,2,none⟩):=hv 9 (by omega)
       have v11:vals 11=.pointer (some ⟨wb,0,none⟩):=hv 11 (by omega)
       have v12:vals 12=.pointer (some ⟨wb,3,none⟩):=hv 12 (by omega)
       obtain⟨ds,hz,hd,H2⟩:=hS W1 hrel;have hblk:=(H2.blk (i:=0) .zero).2;have hds:ds=zBl pv sv x1 false:=by
        obtain⟨_,cs6,T6,x6,y6⟩:=hv 10 (by omega)
        obtain⟨_,cs7,T7,x7,y7⟩:=hv 13 (by omega)
        rw[hblk]at x6 x7
        cases x6;cases x7
        exact zKB hz hd y6 y7
       rw[hds]at H2;simp only[fa,Nat.reduceAdd];rw[v0,v1,v2,v3,v4,v5,v6,v7,v8,v9,v11,v12];clear hv v0 v1 v2 v3 v4 v5 v6 v7 v8 v9 v11 v12 hlk hrel H hS hblk hds hd hz c0;have H:=H2;clear H2;simp only[pl]
       go_wp2_with (first|(first|((with_reducible refine gT ?_);(refine aO H ?_;clear H;intro w H;try simp only[nr]at H))|((with_reducible refine gL ?_);refine aG H ?_)))
       go_ret;rw[← RF.out,← RS.out]at H;rw[HNX.out];exact⟨_,_,rfl,by (try rw[w65]at H);(show Turned _ _ _ _ ([.blk wb (zBl pv sv (atN s3) (endN s3)) 87,.kn Fp (InstsR Fp pp cp ps),.kn Fs (BytesR Fs psl csl L)]++_) _);rw[EA.out,EB.out];exact Turned.of H (i:=3) i_3 [0,1,2,4] (by decide) (by decide) rfl (zNS (fun _ _ h=>by simp at h))⟩
     ·have d1:(x0 == x1)=false:=by rw[beq_eq_false_iff_ne];exact h1
      have EA:=Lib.hid (show atN s3=x1 by unfold atN;rw[hx0,hx1,if_neg h1])
      have EB:=Lib.hid (show endN s3=true by unfold endN;rw[hx0,hx1];simp[h1])
      clear hx0 hx1 h1
      go_upto_region 5 with (first|((with_reducible refine gNF ?_);refine nFs ?_))
      have c0:=fun W hb=>(H.call (W':=W) hb).rowAt1 (i:=4) i_4 (k:=1) (by omega)
      obtain⟨wq,hwq⟩:∃ wq,wc=wq:=⟨_,rfl⟩;have hS:∀ W,RelK wb [(2,.int .i64 x1),(3,.bool true)] wc W->∃ ds:Array Value,ds.size=4/\(∀ i,ds[i]?=(zBl pv sv a en)[i]?\/∃ v,(i,v) ∈ ([(2,.int .i64 x1),(3,.bool true)]:List (Nat × Value))/\ds[i]?=some v)/\HoldG M w0 W [.blk wb ds 87,.kn Fp (InstsR Fp pp cp ps),.kn Fs (BytesR Fs psl csl L),.kn rF rS,.row (.slice (some ⟨g,0,none⟩) s3.length n) 3 1 s3.length (s3.map (.int .i64))]:=fun W hr=>by
       obtain⟨ds,h1,h2,h3⟩:=H.relK (i:=0) .zero hr;exact⟨ds,h1,h2,h3⟩
      refine zCb (RelK wb [(2,.int .i64 x1),(3,.bool true)]) RelK.refl RelK.trans RelK.drew 14 [fun u _=>u=pt wb 0,fun u _=>u=pt wb 0,fun u _=>u=.slice (some ⟨g,0,none⟩) s3.length n,fun u _=>u=pt g 1,fun u _=>u=.int .i64 x1,fun u _=>u=.slice (some ⟨g,0,none⟩) s3.length n,fun u _=>u=.bool false,fun u _=>u=.bool true,fun u _=>u=pt wb 0,fun u _=>u=pt wb 2,zKt wb 2 (.int .i64 x1),fun u _=>u=pt wb 0,fun u _=>u=pt wb 3,zKt wb 3 (.bool true)] (by repeat (first|exact trivial|refine⟨zBr _,?_⟩|refine⟨zFH (fun v' hv'=>by simpa using hv'),?_⟩)) (by kernel_rfl) (by kernel_rfl) (by kernel_rfl) ?ob ?en
      case ob =>
       refine⟨?_,?_,?_,?_,?_,?_,?_,?_,?_,?_,?_,?_,?_,?_,trivial⟩<;>intro A W h
       ·exact zB2 rfl (zAR RelK.refl rfl rfl (h.f 0))
       ·exact zB2 rfl (zAR RelK.refl rfl rfl (h.f 0))
       ·exact zB2 rfl (zAR RelK.refl rfl rfl (h.f 3))
       ·exact zB2 rfl (zAH RelK.refl rfl (zEZ (i:=1) Tryz.underlying88 (fun w=>by kernel_rfl) rfl (h.d 2 49) rfl (by omega)))
       ·(obtain⟨ds,_,_,H2⟩:=hS W h.rel;exact zB2 rfl (zAH RelK.refl rfl (zAC rfl (h.d 3 50) zAF (by have:=H2.rowAt1 (i:=4) i_4 (k:=1) (by omega);rw[X1.out]at this;exact this))))
       ·exact zB2 rfl (zAR RelK.refl rfl rfl (h.f 3))
       ·(obtain⟨ds,_,_,H2⟩:=hS W h.rel;obtain⟨F,hF,hI⟩:=H2.rowInts (i:=4) i_4;exact zB2 rfl (zAw rfl rfl (fun args w=>by kernel_rfl) (vs:=#[.slice (some ⟨g,0,none⟩) s3.length n]) (by have e:A.eval (.tmp 52)=.slice (some ⟨g,0,none⟩) s3.length n:=h.d 5 52;simp only[List.map_toArray,List.map_cons,List.map_nil,e]) ((zDs g n s3 F W (by omega) hI (fun b hb=>(hF b hb).2)).mono fun e w' hh=>⟨by have h9:=hh.1;rw[X0.out,X1.out,d1]at h9;exact h9,RelK.of_below hh.2⟩)))
       ·(have e:A.eval (.tmp 53)=.bool false:=h.d 6 53;refine zB2 rfl (zAH RelK.refl rfl ?_);simp only[execOp,e];simp[go_sem])
       ·(have e:A.eval (.tmp 47)=.pointer (some ⟨wb,0,none⟩):=h.d 0 47;refine zB2 rfl (zAH RelK.refl rfl ?_);simp only[execOp,e];simp[go_sem])
       ·(have e:A.eval (.tmp 55)=.pointer (some ⟨wb,0,none⟩):=h.d 8 55;refine zB2 rfl (zAH RelK.refl rfl ?_);simp only[execOp,e];simp[go_sem])
       ·(obtain⟨ds,hz,_,H2⟩:=hS W h.rel;exact zHd rfl rfl rfl (h.d 9 56) (h.d 4 51) (.head _) ⟨ds,_,(H2.blk (i:=0) .zero).2,by omega⟩ (zAD zAF) rfl)
       ·(have e:A.eval (.tmp 48)=.pointer (some ⟨wb,0,none⟩):=h.d 1 48;refine zB2 rfl (zAH RelK.refl rfl ?_);simp only[execOp,e];simp[go_sem])
       ·(have e:A.eval (.tmp 57)=.pointer (some ⟨wb,0,none⟩):=h.d 11 57;refine zB2 rfl (zAH RelK.refl rfl ?_);simp only[execOp,e];simp[go_sem])
       ·(obtain⟨ds,hz,_,H2⟩:=hS W h.rel;exact zHd rfl rfl rfl (h.d 12 58) (h.d 7 54) (.tail _ (.head _)) ⟨ds,_,(H2.blk (i:=0) .zero).2,by omega⟩ (zAD zC7) rfl)
      case en =>
       intro vals W1 hrel hv hlk;have v0:vals 0=.pointer (some ⟨wb,0,none⟩):=hv 0 (by omega)
       have v1:vals 1=.pointer (some ⟨wb,0,none⟩):=hv 1 (by omega)
       have v2:vals 2=.slice (some ⟨g,0,none⟩) s3.length n:=hv 2 (by omega)
       have v3:vals 3=.pointer (some ⟨g,1,none⟩):=hv 3 (by omega)
       have v4:vals 4=.int .i64 x1:=hv 4 (by omega)
       have v5:vals 5=.slice (some ⟨g,0,none⟩) s3.length n:=hv 5 (by omega)
       have v6:vals 6=.bool false:=hv 6 (by omega)
       have v7:vals 7=.bool true:=hv 7 (by omega)
       have v8:vals 8=.pointer (some ⟨wb,0,none⟩):=hv 8 (by omega)
       have v9:vals 9=.pointer (some ⟨wb,2,none⟩):=hv 9 (by omega)
       have v11:vals 11=.pointer (some ⟨wb,0,none⟩):=hv 11 (by omega)
       have v12:vals 12=.pointer (some ⟨wb,3,none⟩):=hv 12 (by omega)
       obtain⟨ds,hz,hd,H2⟩:=hS W1 hrel;have hblk:=(H2.blk (i:=0) .zero).2;have hds:ds=zBl pv sv x1 true:=by
        obtain⟨_,cs6,T6,x6,y6⟩:=hv 10 (by omega)
        obtain⟨_,cs7,T7,x7,y7⟩:=hv 13 (by omega)
        rw[hblk]at x6 x7
        cases x6;cases x7
        exact zKB hz hd y6 y7
       rw[hds]at H2;simp only[fa,Nat.reduceAdd];rw[v0,v1,v2,v3,v4,v5,v6,v7,v8,v9,v11,v12];clear hv v0 v1 v2 v3 v4 v5 v6 v7 v8 v9 v11 v12 hlk hrel H hS hblk hds hd hz c0;have H:=H2;clear H2;simp only[pl]
       go_wp2_with (first|((with_reducible refine gL ?_);refine aG H ?_))
       go_ret;rw[← RF.out,← RS.out]at H;rw[HNX.out];exact⟨_,_,rfl,by (try rw[w65]at H);(show Turned _ _ _ _ ([.blk wb (zBl pv sv (atN s3) (endN s3)) 87,.kn Fp (InstsR Fp pp cp ps),.kn Fs (BytesR Fs psl csl L)]++_) _);rw[EA.out,EB.out];exact Turned.of H (i:=3) i_3 [0,1,2,4] (by decide) (by decide) rfl (zNS (fun _ _ h=>by simp at h))⟩
end
section
open Go.RowKit
def wpR (P:Program) (c:Code) (Q:Exit->Act->World->Prop) (a:Act) (w:World):Prop :=
 ∀ (b:Frame) (k:List Item) (cs:List Frame),b.roundOf=none->(∃ fn,P.funcs[b.fn]?=some fn) ->
  ∃ e a' w',Q e a' w'/\ArrivesIn (Machine.fenced P Fence.wide) P (lone (b.atR a (.code c::k)) cs w) b k cs e a' w'
section
variable {n:Nat} {P:Program} {Q:Exit->Act->World->Prop} {a:Act} {w:World}
theorem zP0 {c:Code} (h:c.wpIn Fence.wide n P Q a w):wpR P c Q a w:=fun b k cs hro _=>h b k cs hro trivial (room_wide _)
theorem zBC {c:Code} (h:c.wp P Q a w):wpR P c Q a w:=zP0 (n:=0) (wpIn_wide.2 h)
theorem zA0 {x y:Code} (h:wpR P x (Exit.then (wpR P y Q) Q) a w):wpR P (.seq x y) Q a w:=by
 intro b k cs hro hb;have h0:(lone (b.atR a (.code (.seq x y)::k)) cs w).fenced P Fence.wide:=fenced_wide _ _;obtain⟨e,a₁,w₁,hq,harr⟩:=h b (.code y::k) cs hro hb
 cases e with
 | normal =>
  obtain⟨e₂,a₂,w₂,hq₂,harr₂⟩:=hq b k cs hro hb;exact⟨e₂,a₂,w₂,hq₂,.of_steps (.head h0 stepR_seq harr) harr₂⟩
 | exit id=>exact⟨_,a₁,w₁,hq,.of_steps (.one h0 stepR_seq) (.pass (x:=.code y) rfl (fun _ _=>.inl (by simp)) harr)⟩
 | goto l=>exact⟨_,a₁,w₁,hq,.of_steps (.one h0 stepR_seq) (.pass (x:=.code y) rfl (fun _ _=>.inl (by simp)) harr)⟩
 | ret=>exact⟨_,a₁,w₁,hq,.of_steps (.one h0 stepR_seq) (.pass (x:=.code y) rfl (fun _ _=>.inl (by simp)) harr)⟩
 | panic ch=>exact⟨_,a₁,w₁,hq,.of_steps (.one h0 stepR_seq) (.pass (x:=.code y) rfl (fun _ _=>.inl (by simp)) harr)⟩
 | outgrown=>exact⟨_,a₁,w₁,hq,.of_steps (.one h0 stepR_seq) (.pass (x:=.code y) rfl (fun _ _=>.inl (by simp)) harr)⟩
theorem zEc {id:Nat} {c:Code} (h:wpR P c (Exit.inBlock id Q) a w):wpR P (.block id c) Q a w:=by
 intro b k cs hro hb;have h0:(lone (b.atR a (.code (.block id c)::k)) cs w).fenced P Fence.wide:=fenced_wide _ _;obtain⟨e,a₁,w₁,hq,harr⟩:=h b (.inBlock id::k) cs hro hb
 cases e with
 | normal=>exact⟨.normal,a₁,w₁,hq,.head h0 stepR_block (StepsIn.trans harr (.one (fenced_wide _ _) stepR_inBlock))⟩
 | exit id' =>
  by_cases hid:id'=id
  ·simp only[Exit.inBlock,hid,if_true]at hq;exact⟨.normal,a₁,w₁,hq,.head h0 stepR_block (harr.1 k (by simp[exitTo,hid]))⟩
  ·simp only[Exit.inBlock,hid,if_false]at hq;have this:(id == id')=false:=by simp;exact fun h=>hid h.symm
   have hx:exitTo id' (.inBlock id::k)=exitTo id' k:=by simp[exitTo,this]
   exact⟨.exit id',a₁,w₁,hq,fun k' hk=>.head h0 stepR_block (harr.1 k' (by rw[hx];exact hk)),
    fun hr' hk=>let ⟨k₁,h1,h2⟩:=harr.2 hr' (by rw[hx];exact hk);⟨k₁,h1,.head h0 stepR_block h2⟩⟩
 | goto l =>
  have hx:gotoIn l (.inBlock id::k)=gotoIn l k:=by simp[gotoIn]
  exact⟨_,a₁,w₁,hq,fun k' hk=>.head h0 stepR_block (harr.1 k' (by rw[hx];exact hk)),
   fun hr' hk=>let ⟨k₁,h1,h2⟩:=harr.2 hr' (by rw[hx];exact hk);⟨k₁,h1,.head h0 stepR_block h2⟩⟩
 | ret=>exact⟨_,a₁,w₁,hq,.of_steps (.one h0 stepR_block) harr⟩
 | panic ch=>exact⟨_,a₁,w₁,hq,.of_steps (.one h0 stepR_block) harr⟩
 | outgrown=>exact⟨_,a₁,w₁,hq,.of_steps (.one h0 stepR_block) harr⟩
theorem zDX {f:FuncId} {fn:Func} {c:Code} {args:Array Value} {R:Ending->World->Prop} (hf:P.funcs[f]?=some fn) (hb:fn.body=some c)
  (h:wpR P c (bodyPostM Fence.wide n P fn R) {tmps:=args++Array.replicate (fn.ntmps - args.size) undef,defers:=[]} w):CallsIn Fence.wide n P f args w R:=by
 have hF:Fence.wide.fn f:=trivial;refine⟨hF,fun cs hr=>?_⟩
 let b:Frame:={(default:Frame) with fn:=f,kind:=.normal,roundOf:=none}
 have henter:Frame.enter P f args .normal =
   b.atR {tmps:=args++Array.replicate (fn.ntmps - args.size) undef,defers:=[]} [.code c]:=by
  simp[Frame.enter,Frame.atR,hf,hb,b]
 obtain⟨e,a',w',hq,harr⟩:=h b [] cs rfl ⟨fn,hf⟩;rw[← henter]at harr
 cases e with
 | normal =>
  obtain⟨e',w'',fr',hR,hs,hfn,hl⟩:=leaves_stepsInM a'.defers .returning w' {b.atR a' [] with mode:=.returning} cs rfl rfl rfl hf rfl hF hr hq
  exact⟨e',w'',fr',hR,ComesIn.of_steps (StepsIn.trans harr (.one (fenced_calm (fr:=b.atR a' []) hF hr rfl) (stepR_end rfl))) hs,hfn,hl⟩
 | ret =>
  obtain⟨todo,hs₀⟩:=harr.1 rfl;obtain⟨e',w'',fr',hR,hs,hfn,hl⟩:=leaves_stepsInM a'.defers .returning w' {b.atR a' todo with mode:=.returning} cs rfl rfl rfl hf rfl hF hr hq
  exact⟨e',w'',fr',hR,ComesIn.of_steps hs₀ hs,hfn,hl⟩
 | panic chain =>
  obtain⟨todo,hs₀⟩:=harr;obtain⟨e',w'',fr',hR,hs,hfn,hl⟩:=leaves_stepsInM a'.defers (.panicking chain) w' {b.atR a' todo with mode:=.panicking chain} cs rfl rfl rfl hf rfl hF hr hq
  exact⟨e',w'',fr',hR,ComesIn.of_steps hs₀ hs,hfn,hl⟩
 | exit id=>exact hq.elim
 | goto l=>exact hq.elim
 | outgrown=>exact⟨.outgrown,w',b,hq,harr.resolve_left (by simp[b]),rfl,trivial⟩
def zLL (P:Program) (l:Nat) (R:Ending->World->Prop):Exit->Act->World->Prop
 | .panic ch,a,w=>a.defers=[]/\R (.panicked ch) w
 | e,a,w=>roundPost P l R e a w
theorem zFT {l:Nat} {f:FuncId} {fn0:Func} {tmps:Array Value} {assign body:Code} {R:Ending->World->Prop} (hf:P.funcs[f]?=some fn0)
  (h:assign.wpIn (Fence.wide.inRound l) n P (Exit.then (fun a₁ w₁=>∃ w₂,(Instr.beginRound l).run P w₁=.ok () w₂/\body.wpIn (Fence.wide.inRound l) n P (zLL P l R) a₁ w₂) (fun _ _ _=>False))
   {tmps:=tmps,defers:=[]} w) :
  RoundIn Fence.wide n P l f tmps assign body w R:=by
 have hF:Fence.wide.fn f:=trivial;refine⟨hF,fun c cs hr=>?_⟩
 let b:Frame:={(default:Frame) with fn:=f,kind:=.normal,roundOf:=some l}
 have hb0:Frame.round l f tmps assign body .normal=b.atR {tmps:=tmps,defers:=[]} [.code assign,.beginRound,.code body]:=by
  simp[Frame.round,Frame.atR,b]
 have hr':(Fence.wide.inRound l).room ((c::cs).length+1+n):=hr;have hF':(Fence.wide.inRound l).fn b.fn:=hF;obtain⟨e,a₁,w₁,hq,harr⟩:=h b [.beginRound,.code body] (c::cs) rfl hF' hr';rw[← hb0]at harr
 cases e with
 | normal =>
  obtain⟨w₂,hbr,hbody⟩:=hq;have s1:StepsIn (Machine.fenced P (Fence.wide.inRound l)) P (lone (b.atR a₁ [.beginRound,.code body]) (c::cs) w₁) (lone (b.atR a₁ [.code body]) (c::cs) w₂) :=
   .one (fenced_calm (fr:=b.atR a₁ [.beginRound,.code body]) hF' hr' rfl) (stepR_beginRound rfl hbr)
  obtain⟨e₂,a₂,w₃,hq₂,harr₂⟩:=hbody b [] (c::cs) rfl hF' hr'
  cases e₂ with
  | normal =>
   obtain⟨v,w₄,hend,hR⟩:=hq₂;exact⟨.returned v,w₄,hR,(StepsIn.trans harr s1).trans (StepsIn.trans harr₂ (.one (fenced_calm (fr:=b.atR a₂ []) hF' hr' rfl) (stepR_round_end rfl rfl hend)))⟩
  | ret =>
   obtain⟨v,w₄,hend,hR⟩:=hq₂;obtain⟨k₁,hs⟩:=harr₂.2 rfl;exact⟨.returned v,w₄,hR,(StepsIn.trans harr s1).trans (StepsIn.trans hs (.one (fenced_calm (fr:=b.atR a₂ (.code .ret::k₁)) hF' hr' rfl) (stepR_round_ret rfl rfl hend)))⟩
  | exit id =>
   obtain⟨v,w₄,hend,hR⟩:=hq₂;obtain⟨k₁,hk,hs⟩:=harr₂.2 rfl rfl;exact⟨.returned v,w₄,hR,(StepsIn.trans harr s1).trans (StepsIn.trans hs (.one (fenced_calm (fr:=b.atR a₂ (.code (.exit id)::k₁)) hF' hr' rfl) (stepR_round_exit rfl rfl hk hend)))⟩
  | goto t =>
   obtain⟨v,w₄,hend,hR⟩:=hq₂;obtain⟨k₁,hk,hs⟩:=harr₂.2 rfl rfl;exact⟨.returned v,w₄,hR,(StepsIn.trans harr s1).trans (StepsIn.trans hs (.one (fenced_calm (fr:=b.atR a₂ (.code (.goto t)::k₁)) hF' hr' rfl) (stepR_round_goto rfl rfl hk hend)))⟩
  | panic chain =>
   obtain⟨hd,hR⟩:=hq₂;obtain⟨todo,hs⟩:=harr₂;refine⟨.panicked chain,w₃,hR,(StepsIn.trans harr s1).trans (StepsIn.trans hs (.one (fenced_wide _ _) (step_leave_panicked ?_)))⟩;exact⟨rfl,hd,fn0,hf⟩
  | outgrown=>exact hq₂.elim
 | exit id=>exact hq.elim
 | goto t=>exact hq.elim
 | ret=>exact hq.elim
 | panic chain=>exact hq.elim
 | outgrown=>exact hq.elim
theorem zHf {g:Operand} {ps:Array Tmp} {assign body:Code}
  (h:∀ fn,(∃ f,P.funcs[fn]?=some f)->∃ (l:Nat) (mark:List Deferred) (w₁:World) (d:Deferred) (w₁':World) (f:FuncId) (args:Array Value) (w₂:World),
   (Instr.enterLoop fn a.tmps ps assign body none).run P w=.ok (l,mark) w₁ /\
   (resolve a.eval (rangeCall g l) 0).run P w₁=.ok d w₁' /\
   (invoke d.target d.args).run P w₁'=.ok (.enter f args) w₂ /\
   CallsIn Fence.wide n P f args w₂ (rangePost Fence.wide n P l Q {a with defers:=mark++a.defers})) :
  wpR P (Code.rangeFunc g ps assign body) Q a w:=by
 intro b k cs hro hb;have hr:=room_wide;obtain⟨l,mark,w₁,d,w₁',f,args,w₂,he,hres,hinv,hF,hcall⟩:=h b.fn hb;rw[← hro]at he;have h0:(lone (b.atR a (.code (.rangeFunc g ps assign body)::k)) cs w).fenced P Fence.wide:=fenced_wide _ _;have henter:=stepR_rangeFunc (P:=P) (b:=b) (a:=a) (k:=k) (cs:=cs) (w:=w) he hres hinv;obtain⟨e,w₃,fr,hR,hsteps,hfn,hleave⟩:=hcall (b.atR {a with defers:=mark++a.defers} (.inRangeFunc l::k)::cs) (hr _)
 cases e with
 | outgrown =>
  obtain⟨a₀,w₀,hq⟩:=hR;exact⟨.outgrown,a₀,w₀,hq,.inr (Outgrown.of_steps (.one henter) hsteps)⟩
 | returned v =>
  have hl:(lone fr (b.atR {a with defers:=mark++a.defers} (.inRangeFunc l::k)::cs) w₃).fenced P Fence.wide:=fenced_wide _ _
  obtain⟨jump,w₄,hend,hj⟩:=hR;have sback:StepsIn (Machine.fenced P Fence.wide) P (lone (b.atR a (.code (.rangeFunc g ps assign body)::k)) cs w) (lone (b.atR {a with defers:=mark++a.defers} ((jump.map Item.code).toList++k)) cs w₄):=by
   refine .head h0 henter (StepsIn.trans hsteps (.head hl ?_ (.one (fenced_wide _ _) (stepR_endRangeFunc hend))));rw[← finish_atR_inRangeFunc l v];exact step_leave_returned hleave
  cases jump with
  | none=>exact⟨.normal,_,w₄,hj,sback⟩
  | some c =>
   obtain⟨e',a'',w₅,hq,harr⟩:=hj b k cs hro trivial (hr _);exact⟨e',a'',w₅,hq,.of_steps sback harr⟩
 | panicked chain =>
  have hl:(lone fr (b.atR {a with defers:=mark++a.defers} (.inRangeFunc l::k)::cs) w₃).fenced P Fence.wide:=fenced_wide _ _
  refine⟨.panic chain,_,w₃,hR,.inRangeFunc l::k,.head h0 henter (StepsIn.trans hsteps (.one hl ?_))⟩;rw[← Frame.raise_atR];exact step_leave_panicked hleave
end
def zP5 (B:Nat) (Y:Option Code->World->Prop) (X:List PanicEntry->World->Prop) (W:World):Exit->Act->World->Prop
 | .normal,_,W'=>KeepsNC B W W'/\Y none W'
 | .ret,_,W'=>KeepsNC B W W'/\Y (some .ret) W'
 | .exit id,_,W'=>KeepsNC B W W'/\Y (some (.exit id)) W'
 | .goto t,_,W'=>KeepsNC B W W'/\Y (some (.goto t)) W'
 | .panic ch,a,W'=>a.defers=[]/\KeepsNC B W W'/\X ch W'
 | .outgrown,_,_=>False
def zN9 (Q:Exit->Act->World->Prop) (a:Act) (W:World):Option Code->Prop
 | none=>Q .normal a W
 | some .ret=>Q .ret a W
 | some (.exit id)=>Q (.exit id) a W
 | some (.goto t)=>Q (.goto t) a W
 | _=>False
theorem zEo {σ α:Type} {n:Nat} {P:Program} {g:Operand} {ps:Array Tmp} {assign body:Code} {Q:Exit->Act->World->Prop} {a:Act} {w:World}
  {gf:Nat} {lb:Array Value} (hg:a.eval g=.func (.func gf) #[] lb) (eg:∀ args w,(callFunc gf args).run P w=.ok (.enter gf args) w)
  {encs:α->Array Value} (hps:∀ x,(encs x).size=ps.size)
  (I0:World->Prop) (S:Option Code->World->Prop) (Pn:List PanicEntry->World->Prop) (Yp:σ->α->World->Prop) (Yq:σ->α->Option Code->World->Prop) (Yx:σ->α->List PanicEntry->World->Prop) (Ya:σ->α->Act->World->Prop)
  (st0:Stay w.heap.size I0) (stS:∀ j,Stay w.heap.size (S j)) (stYq:∀ s x j,Stay w.heap.size (Yq s x j)) (stYa:∀ s x a,Stay w.heap.size (Ya s x a))
  (hiter:∀ (l:Nat) (B:Option Code->World->Prop) (K:World->Prop),(∀ j W W',KeepsNC w.heap.size W W'->B j W->B j W')->(∀ W W',KeepsNC w.heap.size W W'->K W->K W')->(∀ j W,B j W->K W) ->
   (∀ s x W1,Yp s x W1->B none W1->YieldAt Fence.wide (n - 1) P l (encs x) W1 fun e W'=>(∃ j:Option Code,e=.returned (.bool j.isNone)/\Yq s x j W'/\B j W')\/∃ ch,e=.panicked ch/\Yx s x ch W'/\K W') ->
   ∀ W,I0 W->B none W->CallsIn Fence.wide n P gf (#[.func (.yield l) #[] #[]]++lb) W fun e W'=>(∃ v j,e=.returned v/\S j W'/\B j W')\/∃ ch,e=.panicked ch/\Pn ch W'/\K W')
  (h0:I0 w)
  (hassign:∀ (l:Nat) (s:σ) (x:α) (W:World),Yp s x W ->
   assign.wpIn (Fence.wide.inRound l) (n - 1) P (Exit.then (fun a1 W1=>KeepsNC w.heap.size W W1/\Ya s x a1 W1) (fun _ _ _=>False)) {tmps:=(ps.zip (encs x)).foldl (fun t (p,v)=>t.setIfInBounds p v) a.tmps,defers:=[]} W)
  (hbody:∀ (l:Nat) (s:σ) (x:α) (a1:Act) (W:World),Ya s x a1 W->body.wpIn (Fence.wide.inRound l) (n - 1) P (zP5 w.heap.size (Yq s x) (Yx s x) W) a1 W)
  (hdone:∀ (D:Nat) (j:Option Code) (W:World),w.heap.size<=D->S j W->W.heap[D]?=some (.deferred (some []))->zN9 Q {a with defers:={target:=.collected D,args:=#[]}::a.defers} W j)
  (hpan:∀ (D:Nat) (ch:List PanicEntry) (W:World),w.heap.size<=D->Pn ch W->W.heap[D]?=some (.deferred (some []))->Q (.panic ch) {a with defers:={target:=.collected D,args:=#[]}::a.defers} W) :
  wpR P (Code.rangeFunc g ps assign body) Q a w:=by
 refine zHf (n:=n) ?_
 intro fn hfn;obtain⟨fn0,hfn⟩:=hfn;obtain⟨rec,hrec⟩:∃ rec:LoopState->Option Code->Loop,rec=fun st pe=>{state:=st,pending:=pe,fn,tmps:=a.tmps,params:=ps,assign,body,defers:=w.heap.size}:=⟨_,rfl⟩
 obtain⟨W1,hW1⟩:∃ W1,(w.alloc (.deferred (some []))).alloc (.loop (rec .ready none))=W1:=⟨_,rfl⟩;have hL1:W1.heap[w.heap.size+1]?=some (.loop (rec .ready none)):=by
  rw[← hW1];have:=World.alloc_heap_new (w.alloc (.deferred (some []))) (.loop (rec .ready none));rwa [World.size_alloc]at this
 have hK1:W1.heap[w.heap.size]?=some (.deferred (some [])):=by
  rw[← hW1];exact(Below.heap_alloc _ _ _ (by simp)).trans (World.alloc_heap_new w _)
 have hI1:I0 W1:=by rw[← hW1];exact st0.alloc _ (st0.alloc _ h0)
 refine⟨w.heap.size+1,[{target:=.collected w.heap.size,args:=#[]}],W1,{target:=.fn (.func gf) lb,args:=#[.func (.yield (w.heap.size+1)) #[] #[]]},W1,gf,
  #[.func (.yield (w.heap.size+1)) #[] #[]]++lb,W1,?_,?_,?_,?_⟩
 ·rw[← hW1,hrec];exact run_enterLoop_outer _ _ _ _ _
 ·simp only[resolve,hg];simp[go_sem]
 ·simp[invoke,go_sem,eg]
 ·refine(hiter (w.heap.size+1) (fun j W=>W.heap[w.heap.size+1]?=some (.loop (rec (if j.isNone then .ready else .done) j))/\W.heap[w.heap.size]?=some (.deferred (some []))) (fun W=>W.heap[w.heap.size]?=some (.deferred (some [])))
   (fun j W W' hk hB=>⟨hk.same _ _ (by omega) hB.1 rfl,hk.same _ _ (Nat.le_refl _) hB.2 rfl⟩) (fun W W' hk hB=>hk.same _ _ (Nat.le_refl _) hB rfl) (fun j W hB=>hB.2) ?_ W1 hI1 ⟨hL1,hK1⟩).mono ?_
  ·rintro s x W hy ⟨hl,hk⟩;have hl:W.heap[w.heap.size+1]?=some (.loop (rec .ready none)):=hl;have hlt:w.heap.size+1<W.heap.size:=(Array.getElem?_eq_some_iff.1 hl).1;have hyr:=run_yield (P:=P) (args:=encs x) hl (by rw[hrec];exact hps x)
   rw[hrec]at hyr;refine⟨fn,_,assign,body,hyr,zFT hfn (wpIn_mono (hassign (w.heap.size+1) s x W hy) ?_)⟩;rintro e a1 Wa hp
   cases e with
   | normal =>
    obtain⟨hka,hya⟩:=hp;have hla:=hka.same _ _ (by omega) hl rfl
    have hda:=hka.same _ _ (Nat.le_refl _) hk rfl;refine⟨_,run_beginRound hla (by rw[hrec]),?_⟩
    have hlt2:w.heap.size+1<Wa.heap.size:=(Array.getElem?_eq_some_iff.1 hla).1;have hl2:(Wa.putObj (w.heap.size+1) (.loop {rec .ready none with state:=.busy})).heap[w.heap.size+1]?=some (.loop {rec .ready none with state:=.busy}):=World.putObj_heap_same hlt2
    have hk2:(Wa.putObj (w.heap.size+1) (.loop {rec .ready none with state:=.busy})).heap[w.heap.size]?=some (.deferred (some [])):=(World.putObj_heap_other (by omega)).trans hda
    refine wpIn_mono (hbody _ s x a1 _ ((stYa s x a1).putObj _ hya (by omega) hla rfl)) ?_
    have key:∀ (j:Option Code) (W3:World),KeepsNC w.heap.size (Wa.putObj (w.heap.size+1) (.loop {rec .ready none with state:=.busy})) W3->Yq s x j W3->∃ v w',(Instr.endRound (w.heap.size+1) j).run P W3=.ok v w'/\((∃ j:Option Code,Ending.returned v=.returned (.bool j.isNone)/\Yq s x j w'/\w'.heap[w.heap.size+1]?=some (.loop (rec (if j.isNone then .ready else .done) j))/\w'.heap[w.heap.size]?=some (.deferred (some [])))\/∃ ch,Ending.returned v=.panicked ch/\Yx s x ch w'/\w'.heap[w.heap.size]?=some (.deferred (some []))):=by
     intro j W3 hk3 hq3;have hl3:=hk3.same _ _ (by omega) hl2 rfl
     have hd3:=hk3.same _ _ (Nat.le_refl _) hk2 rfl;have hre:=run_endRound (P:=P) j hl3;refine⟨_,_,hre,.inl ⟨j,rfl,(stYq s x j).putObj _ hq3 (by omega) hl3 rfl,?_,(World.putObj_heap_other (by omega)).trans hd3⟩⟩
     rw[World.putObj_heap_same (Array.getElem?_eq_some_iff.1 hl3).1,hrec]
    rintro e a3 W3 hp
    cases e with
    | normal=>exact key none W3 hp.1 hp.2
    | ret=>exact key (some .ret) W3 hp.1 hp.2
    | exit id=>exact key (some (.exit id)) W3 hp.1 hp.2
    | goto t=>exact key (some (.goto t)) W3 hp.1 hp.2
    | panic ch=>exact⟨hp.1,.inr ⟨ch,rfl,hp.2.2,hp.2.1.same _ _ (Nat.le_refl _) hk2 rfl⟩⟩
    | outgrown=>exact hp.elim
   | ret=>exact hp.elim
   | exit id=>exact hp.elim
   | goto t=>exact hp.elim
   | panic ch=>exact hp.elim
   | outgrown=>exact hp.elim
  ·rintro e W2 (⟨v,j,rfl,hS,hl,hk⟩|⟨ch,rfl,hP,hk⟩)
   ·have hd:=hdone w.heap.size j _ (Nat.le_refl _) ((stS j).putObj (.loop {rec (if j.isNone then .ready else .done) j with state:=.exhausted}) hS (by omega) hl rfl) ((World.putObj_heap_other (by omega)).trans hk)
    have hend:=run_endLoop (P:=P) hl (by rw[hrec];cases j<;>simp)
    subst hrec;refine⟨j,_,hend,?_⟩
    cases j with
    | none=>exact hd
    | some c =>
     cases c with
     | ret=>exact wpIn_ret hd
     | exit id=>exact wpIn_exit hd
     | goto t=>exact wpIn_goto hd
     | _=>exact hd.elim
   ·exact hpan _ ch _ (Nat.le_refl _) hP hk
section
variable {P:Program} {ops:Array Oper} {Q:Exit->Act->World->Prop} {fuel:Nat} {listed:Array Bool} {a:Act} {w:World}
theorem zOC {o:Oper} {K:Act->World->Prop} {Q':Exit->Act->World->Prop} (h:o.wp P a w K Q') (h1:∀ c a w,Q' (.panic c) a w->Q (.panic c) a w) (h2:LetsOut Q'->LetsOut Q):o.wp P a w K Q:=by
 unfold Oper.wp at *
 generalize (execOp a.eval o).run P w=r at *
 cases r with
 | ok n w' =>
  cases n<;>simp only[Oper.upon]at h ⊢ <;>
   first
    | exact h
    | exact Calls.mono h (fun e w'' he=>by
      cases e with
      | returned v=>exact he
      | panicked c=>exact h1 _ _ _ he
      | outgrown=>exact h2 he)
    | exact h.elim
 | halt x w'=>cases x<;>simp only[Oper.upon]at h ⊢<;>first|exact h1 _ _ _ h|exact h|exact h.elim
end
def CellsAt (W:World) (b:Nat):Prop:=∃ o,W.heap[b]?=some o/\o.isCells=true
def zAY:Res->Bool|.kn _ _=>false|.mp _ _ _=>false|_=>true
section
variable {M:Nat->Prop} {w0 w w' W W':World} {l l1 l2 R:List Res}
theorem HoldG.perms (H:HoldG M w0 w l) (p:l.Perm l2):HoldG M w0 w l2:=by
 have hp:l.Pairwise (fun r s=>zHj r s/\zHj s r):=by
  rw[List.pairwise_iff_getElem];intro i j hi hj hij;exact⟨H.apart i j _ _ (by omega) (List.getElem?_eq_getElem hi) (List.getElem?_eq_getElem hj),H.apart j i _ _ (by omega) (List.getElem?_eq_getElem hj) (List.getElem?_eq_getElem hi)⟩
 have hp2:=hp.perm p (fun h=>⟨h.2,h.1⟩)
 rw[List.pairwise_iff_getElem]at hp2;refine⟨H.keep,fun i r h=>?_,fun i j r s hij hr hs=>?_⟩
 ·obtain⟨k,hk⟩:=List.getElem?_of_mem (p.symm.subset (List.mem_of_getElem? h));exact H.all k r hk
 ·obtain⟨h1,rfl⟩:=List.getElem?_eq_some_iff.1 hr;obtain⟨h2,rfl⟩:=List.getElem?_eq_some_iff.1 hs;rcases Nat.lt_or_ge i j with h|h
  ·exact(hp2 i j h1 h2 h).1
  ·exact(hp2 j i h2 h1 (by omega)).2
theorem HoldG.placeCells (H:HoldG M w0 W l) (hl:l.all zAY=true) {r:Res} (hr:r ∈ l) {b:Nat} (hb:r.place=some b):CellsAt W b:=by
 obtain⟨i,hi⟩:=List.getElem?_of_mem hr;have hA:=H.all i r hi;have hc:=List.all_eq_true.1 hl r hr
 cases r with
 | blk b' cs T=>cases hb;exact⟨_,hA.2,rfl⟩
 | row v e sz n xs =>
  obtain⟨_,⟨hv,_⟩|⟨g,cap,cur,rfl,_,hg',_⟩⟩:=hA
  ·have h2:v.ownBlock=some b:=hb;rw[hv]at h2;cases h2
  ·have:g=b:=by simpa [Res.place,Value.ownBlock] using hb
   subst this;exact⟨_,hg',rfl⟩
 | mp b' es c=>cases hc
 | kn F S=>cases hc
theorem HoldG.footCells (H:HoldG M w0 W l) (hl:l.all zAY=true) {i:Nat} {r:Res} (hi:l[i]?=some r) {b:Nat} (hb:r.foot b):CellsAt W b:=by
 have hr:=List.mem_of_getElem? hi
 cases r with
 | kn F S=>exact absurd (List.all_eq_true.1 hl _ hr) (by simp[zAY])
 | blk b' cs T=>exact H.placeCells hl hr (b:=b) (by cases hb;rfl)
 | row v e sz n xs=>exact H.placeCells hl hr (b:=b) hb
 | mp b' es c=>exact absurd (List.all_eq_true.1 hl _ hr) (by simp[zAY])
theorem CellsAt.grown {B:Nat} {row:Option Nat} {b:Nat} (h:CellsAt W b) (hg:W.grownBy W' row) (hr:∀ r,row=some r->B<=r/\∃ o:Obj,W.heap[r]?=some o/\o.isCells=false):W'.heap[b]?=W.heap[b]?:=by
 obtain⟨o,h1,h2⟩:=h;refine hg.block b (Array.getElem?_eq_some_iff.1 h1).1 (fun e=>?_)
 obtain⟨_,o',h3,h4⟩:=hr b e.symm;rw[h1]at h3;cases h3;rw[h2]at h4;cases h4
theorem HoldG.stayC (H:HoldG M w0 W l) (hl:l.all zAY=true) {B:Nat} (hB:w0.heap.size<=B) {row:Option Nat} (hg:W.grownBy W' row) (hr:∀ r,row=some r->B<=r/\∃ o:Obj,W.heap[r]?=some o/\o.isCells=false):HoldG M w0 W' l :=
 ⟨H.keep.trans ⟨hg.os,hg.tape,hg.output,hg.size,fun k h1 h2=>hg.block k (Nat.lt_of_lt_of_le h1 H.keep.size) (fun e=>by have:=(hr k e.symm).1;omega)⟩,fun i s hs=>(H.all i s hs).kept (fun b hb=>(H.footCells hl hs hb).grown hg hr) hg.size,H.apart⟩
theorem Stay.plain (hl:l.all zAY=true) {B:Nat} (hB:w0.heap.size<=B):Stay B (fun W=>HoldG M w0 W l):=fun W W' row H hg hr=>H.stayC hl hB hg hr
theorem KeepsNC.of_plain (B:Nat) (H:HoldG M w0 W l) (hl:l.all zAY=true) (h:zCO W l W'):KeepsNC B W W':=fun k o _ hk ho=>by
 refine(h k ⟨(Array.getElem?_eq_some_iff.1 hk).1,fun r hr e=>?_⟩).trans hk
 obtain⟨o',h1,h2⟩:=H.placeCells hl hr e;rw[hk]at h1;cases h1;rw[ho]at h2;cases h2
end
section
variable {M:Nat->Prop} {w0 w w':World} {l l1 l2 R A B:List Res}
theorem Turned.frame (H:HoldG M w0 w (l1++R)) (T:Turned M w0 w l1 l2 w'):Turned M w0 w (l1++R) (l2++R) w':=by
 have hr:∀ b,zB3 w (l1++R) b->zB3 w l1 b:=fun b h=>⟨h.1,fun r hr=>h.2 r (List.mem_append_left _ hr)⟩
 refine⟨H.callL T,fun b hb=>T.rest b (hr b hb),fun b hb=>T.lt b (hr b hb),fun r h b hp=>?_,fun r h b hp=>?_⟩
 ·rcases List.mem_append.1 h with h|h
  ·exact(T.place r h b hp).imp (fun ⟨s,hs,e⟩=>⟨s,List.mem_append_left _ hs,e⟩) id
  ·exact .inl ⟨r,List.mem_append_right _ h,hp⟩
 ·rcases List.mem_append.1 h with h|h
  ·exact(T.foot r h b hp).imp (fun ⟨s,hs,e⟩=>⟨s,List.mem_append_left _ hs,e⟩) id
  ·exact .inl ⟨r,List.mem_append_right _ h,hp⟩
end
section
variable {n:Nat} {P:Program} {ops:Array Oper} {Q:Exit->Act->World->Prop} {o:Oper} {rest:List Oper} {a:Act} {w:World}
theorem zIT (hQ:¬ LetsOut Q):∀ (l1 l2:List Oper) (a:Act) (w:World),wpList P ops (Exit.then (wpListIn Fence.wide n P ops Q l2) Q) l1 a w->wpListIn Fence.wide n P ops Q (l1++l2) a w
 | [],l2,a,w,h=>by simpa [wpList,Exit.then] using h
 | o::l1,l2,a,w,h=>by
  unfold wpList at h;rw[List.cons_append];unfold wpListIn;split at h
  ·rename_i hw;rw[if_pos hw];rcases h with h|⟨_,a1,w1,h1⟩
   ·refine zLM (zOC (Oper.wp_mono (fun a' w' h'=>zIT hQ l1 l2 a' w' h') h) (fun c a w h=>h) ?_)
    rintro⟨a1,w1,h1⟩;exact⟨a1,w1,h1⟩
   ·exact(hQ ⟨a1,w1,h1⟩).elim
  ·rename_i hw;rw[if_neg hw];exact⟨fun _ _=>trivial,zIT hQ l1 l2 _ w h⟩
theorem zLn {l:Nat} {x y:Operand} {ts:Array TypeId} {v:Value} {T:Bool->World->Prop} (hg:o.guard=none) (hop:o.op=Op.call {callee:=Callee.value x,args:=#[y],argTypes:=ts}) (hx:a.eval x=.func (.yield l) #[] #[]) (hy:a.eval y=v)
  (hY:YieldAt Fence.wide (n - 1) P l #[v] w fun e W'=>∃ b,e=.returned (.bool b)/\T b W') (h1:∀ b W',T b W'->wpListIn Fence.wide n P ops Q rest (a.put o.dst (.bool b)) W'):wpListIn Fence.wide n P ops Q (o::rest) a w:=by
 obtain⟨fn,tmps,assign,body,hyr,hR⟩:=hY;refine wpListIn_plain hg fun K hK=>?_
 refine⟨fun _ _=>trivial,?_⟩
 rw[show o.semAt Fence.wide.round a.eval=execOp a.eval o from rfl]
 have hr:(execOp a.eval o).run P w=.ok (.round l fn tmps assign body) w:=by
  simp only[execOp,hop];simp only[resolve,hx,List.map_toArray,List.map_cons,List.map_nil,hy,Sem.run_bind,Sem.run_pure,Result.andThen_ok,invoke];exact hyr
 rw[hr];simp only[Oper.uponIn];refine⟨fun h=>by simp[Fence.wide]at h,hR.mono ?_⟩
 rintro e w' ⟨b,rfl,hT⟩;exact hK _ _ (h1 b w' hT)
end
end
end Go.Proofs.YtphjgfjbiimkjaaGreat
