/-
  Laws of walks, and walks.
-/
import Derived.Test.YtphjgfjbiimkjaaGreatEc7
import Derived.Laws.Bits64b
import Derived.Laws.CopyOwn
import Derived.OrdersIn
import Derived.Test.YtphjgfjbiimkjaaGreatEc4
import Derived.Test.YtphjgfjbiimkjaaGreatEc3
import Derived.Test.YtphjgfjbiimkjaaGreatEc2
set_option linter.unusedVariables false
set_option linter.unusedSimpArgs false
set_option maxRecDepth 100000
set_option maxHeartbeats 16000000
namespace Go.Proofs.YtphjgfjbiimkjaaGreat
section
open Go.RowKit Go.Shelf
attribute [local go_sem] Oper.semAt_some
abbrev zFR (mb:Nat) (lv mk nv:Value) (pp:Option Addr) (cp:Nat) (ps:List InstD) (psl:Option Addr) (csl:Nat) (L:Str) (Fp Fs Fk:Nat->Prop) (zs ys:List WV):List Res :=
 [.blk mb #[lv,mk,.slice pp ps.length cp,.slice psl L.length csl,nv] 194,.row lv 197 2 zs.length (zAW (zs.map wayC)),.kn Fp (InstsR Fp pp cp ps),.kn Fs (BytesR Fs psl csl L),.kn Fk (zN0 Fk ys)]
def zQg (mb:Nat) (lv mk nv:Value) (pp:Option Addr) (cp:Nat) (ps:List InstD) (psl:Option Addr) (csl:Nat) (L:Str) (Fp Fs Fk:Nat->Prop) (ys:List WV) (i:Nat) (M:Nat->Prop) (w0 w:World) (e:Ending) (w':World):Prop :=
 ∃ (lv':Value) (zs:List WV) (fd:Option WV),zA9 ps L i (ys.map plW)=(fd.map (·.2.1),zs.map plW)/\(∀ z ∈ zs,z.1<ps.length/\∃ y ∈ ys,z.2=y.2)/\(∀ y,fd=some y->y ∈ ys) /\
  e=.returned (match fd with|some y=>.slice y.2.2.1 y.2.1.length y.2.2.2|none=>.slice none 0 0) /\
  Turned M w0 w (zFR mb lv mk nv pp cp ps psl csl L Fp Fs Fk [] ys++[.row nv 197 2 ys.length (zAW (ys.map wayC))]) (zFR mb lv' mk (.slice none 0 0) pp cp ps psl csl L Fp Fs Fk zs ys) w'
theorem zNW {ps:List InstD} {L:Str} {i:Nat} {ys:List Way} {zs:List Way} {j:Nat} {k:Nat} {sl:zAP} (h:zA9 ps L i (ys.take j)=(none,zs)) (hy:ys[j]?=some (k,sl)) (h5:(atI ps k).kind≠5) (b:Bool) (hb:(i<L.length/\hasB (atI ps k).set (byt L i)=true)↔b=true) :
  zA9 ps L i (ys.take (j+1))=(none,if b then zs++[((atI ps k).next.toNat,sl)] else zs):=by
 rw[zHK hy,zC9,h];simp only[zA9,if_neg h5]
 cases b with
 | true=>rw[if_pos (hb.2 rfl)];rfl
 | false=>rw[if_neg (fun h=>by have:=hb.1 h;cases this)];simp
theorem zMe {ps:List InstD} {L:Str} {i:Nat} {ys:List Way} {zs:List Way} {j:Nat} {k:Nat} {sl:zAP} (h:zA9 ps L i (ys.take j)=(none,zs)) (hy:ys[j]?=some (k,sl)) (h5:(atI ps k).kind=5):zA9 ps L i ys=(some sl,zs):=by
 have e:ys=ys.take j++((k,sl)::ys.drop (j+1)):=by
  conv=>lhs;rw[← List.take_append_drop j ys]
  congr 1
  obtain⟨hlt,e⟩:=List.getElem?_eq_some_iff.1 hy;rw[← e];exact List.drop_eq_getElem_cons hlt
 rw[e,zC9,h];simp[zA9,h5]
theorem zFl:(Tryz.prog.info? 197).map (fun i=>(i.zero,i.size,i.bytes))=some (some (.agg #[.int .i64 0,.slice none 0 0]),2,32):=by kernel_rfl
theorem zCJ (xs:List WV) (y:WV):zAW (xs.map wayC)++(wayC y).toList=zAW ((xs++[y]).map wayC):=by
 rw[List.map_append,zDU];simp[zAW]
theorem zJ2 (k:Int) (q:Option Addr) (n c:Nat) (W:World):(Instr.build 197 #[(0,.int .i64 k),(1,.slice q n c)]).run Tryz.prog W=.ok (.agg #[.int .i64 k,.slice q n c]) W:=by simp[go_sem]
theorem zEV (x:WV) (W:World):(Instr.buildSlice 190 1 #[(0,.agg (wayC x))]).run Tryz.prog W=.ok (.slice (some ⟨W.heap.size,0,none⟩) 1 1) (W.alloc (.cells (wayC x) 197)):=by kernel_rfl
theorem zL8 {ops:Array Oper} {o:Oper} {a:Act} {w:World} {x:Operand} {d:WV} {n0:Nat} {D:Prop} (hg:Region.wanted o (yielded ops a.tmps)=true) (hop:o.op=Op.buildSlice 190 1 #[(0,x)]) (hx:a.eval x=.agg (wayC d)) (hn:n0<=w.heap.size) (hD:¬ D) :
  zA4 Tryz.prog ops o a w (fun v w'=>FreshS n0 (wayC d) 197 v w'/\(D->w.heap.size<=blk v)):=by
 refine zBo hg (v:=.slice (some ⟨w.heap.size,0,none⟩) 1 1) (w':=w.alloc (.cells (wayC d) 197)) ?_ ((Below.refl _ w).alloc (Nat.le_refl _) _) ⟨⟨w.heap.size,rfl,hn,World.alloc_heap_new w _⟩,fun h=>(hD h).elim⟩
 simp only[execOp,hop,List.map_toArray,List.map_cons,List.map_nil,hx,Sem.run_bind,zEV];rfl
theorem HoldG.gainS2 {M:Nat->Prop} {w0 w w':World} {l:List Res} (H:HoldG M w0 w l) (hb:Below w.heap.size w w') {cs:Array Value} {T:TypeId} {v:Value} (h:FreshS w.heap.size cs T v w'):∃ b,v=.slice (some ⟨b,0,none⟩) 1 1/\HoldG M w0 w' (l++[.blk b cs T]):=by
 obtain⟨b,e,h1,h2⟩:=h;obtain⟨b',e',H2⟩:=H.gainB hb (v:=.pointer (some ⟨b,0,none⟩)) ⟨b,rfl,h1,h2⟩
 cases e'
 exact⟨b,e,H2⟩
theorem zEL {o:Oper} {a:Act} {w:World} {x y:Operand} {k:Int} {d:zAP × Option Addr × Nat} (hop:o.op=.build 197 #[(0,x),(1,y)]) (hx:a.eval x=.int .i64 k) (hy:a.eval y=.slice d.2.1 d.1.length d.2.2) (hk:0<=k):(execOp a.eval o).run Tryz.prog w=.ok (.value (.agg (wayC (k.toNat,d)))) w:=by
 have e:wayC (k.toNat,d)=#[.int .i64 k,.slice d.2.1 d.1.length d.2.2]:=by
  unfold wayC;simp only[Int.toNat_of_nonneg hk]
 rw[e];simp only[execOp,hop,List.map_toArray,List.map_cons,List.map_nil,hx,hy,Sem.run_bind,zJ2];rfl
section
variable {M:Nat->Prop} {ops:Array Oper} {dst:Option Tmp} {ty:TypeId} {pos:String} {aft:Array Edge} {grd:Option (Nat × Bool)} {rest:List Oper} {a:Act} {w w0:World} {l:List Res} {Q:Exit->Act->World->Prop}
theorem zM5:(zBa Tryz.prog 197).size=2:=by kernel_rfl
theorem gTw {x y:Operand} (h:wpList Tryz.prog ops Q ((⟨dst,.store 197 x y,ty,pos,aft,grd⟩:Oper)::rest) a w):wpList Tryz.prog ops Q ((⟨dst,.store 197 x y,ty,pos,aft,grd⟩:Oper)::rest) a w:=h
theorem aTw (H:HoldG M w0 w l) {x y:Operand} {i b:Nat} {cs:Array Value} {U:TypeId} {d:WV} (h:∀ w',HoldG M w0 w' (l.set i (.blk b (wayC d) U))->wpList Tryz.prog ops Q rest (a.put dst undef) w') (hg:Region.wanted (⟨dst,.store 197 x y,ty,pos,aft,grd⟩:Oper) (yielded ops a.tmps)=true:=by first|rfl|exact zAT rfl (zAM rfl (by first|rfl|(simp only[pe];rfl)))) (hx:a.eval x=.pointer (some ⟨b,0,none⟩):=by exact rfl) (hy:a.eval y=.agg (wayC d):=by first|(simp only[pe];done)|(simp only[pe];rfl)) (hi:At l i (.blk b cs U):=by repeat (first|(with_reducible exact At.zero)|apply At.succ)) (hn:cs.size=2:=by first|(with_reducible exact zM5)|rfl):wpList Tryz.prog ops Q ((⟨dst,.store 197 x y,ty,pos,aft,grd⟩:Oper)::rest) a w :=
 zFr hg 197 x y rfl hx hy H hi (zEX zEC) rfl hn rfl h
theorem aGw1 (H:HoldG M w0 w l) {T:TypeId} {x:Operand} {i b:Nat} {d:WV} {U:TypeId} (h:wpList Tryz.prog ops Q rest (a.put dst (.slice d.2.2.1 d.2.1.length d.2.2.2)) w) (hg:Region.wanted (⟨dst,.load T x,ty,pos,aft,grd⟩:Oper) (yielded ops a.tmps)=true:=by first|rfl|exact zAT rfl (zAM rfl (by first|rfl|(simp only[pe];rfl)))) (hx:a.eval x=.pointer (some ⟨b,1,none⟩):=by exact rfl) (hi:At l i (.blk b (wayC d) U):=by repeat (first|(with_reducible exact At.zero)|apply At.succ)) (hT:oneB Tryz.prog T=true:=by with_reducible exact zAv):wpList Tryz.prog ops Q ((⟨dst,.load T x,ty,pos,aft,grd⟩:Oper)::rest) a w :=
 zAE hg T x rfl hx H hi hT (yg1 d) h
theorem bWay {x y:Operand} {k:Int} {q:Option Addr} {n c:Nat} (h:wpList Tryz.prog ops Q rest (a.put dst (.agg #[.int .i64 k,.slice q n c])) w) (hg:Region.wanted (⟨dst,.build 197 #[(0,x),(1,y)],ty,pos,aft,grd⟩:Oper) (yielded ops a.tmps)=true:=by first|rfl|exact zAT rfl (zAM rfl (by first|rfl|(simp only[pe];rfl)))) (h0:a.eval x=.int .i64 k:=by first|(simp only[pe];done)|(simp only[pe];rfl)) (h1:a.eval y=.slice q n c:=by first|(simp only[pe];done)|(simp only[pe];rfl)):wpList Tryz.prog ops Q ((⟨dst,.build 197 #[(0,x),(1,y)],ty,pos,aft,grd⟩:Oper)::rest) a w :=
 zAh hg (by simp only[execOp,List.map_toArray,List.map_cons,List.map_nil,h0,h1,Sem.run_bind,zJ2];rfl) h
end
theorem zJ1 {M:Nat->Prop} {w0 w W:World} {l:List Res} {mb:Nat} {lv mk nv lv':Value} {pp:Option Addr} {cp:Nat} {ps:List InstD} {psl:Option Addr} {csl:Nat} {L:Str} {Fp Fs Fk:Nat->Prop} {zs ys:List WV} (H:HoldG M w0 W l) {q:Nat}
  (hi:At l q (.kn (zB3 w (zFR mb lv mk nv pp cp ps psl csl L Fp Fs Fk [] ys++[.row nv 197 2 ys.length (zAW (ys.map wayC))])) (zCO w (zFR mb lv mk nv pp cp ps psl csl L Fp Fs Fk [] ys++[.row nv 197 2 ys.length (zAW (ys.map wayC))])))) (hq:4<q)
  (h:[0,1,2,3,4].map (fun j=>l[j]?)=(zFR mb lv' mk (.slice none 0 0) pp cp ps psl csl L Fp Fs Fk zs ys).map some) :
  Turned M w0 w (zFR mb lv mk nv pp cp ps psl csl L Fp Fs Fk [] ys++[.row nv 197 2 ys.length (zAW (ys.map wayC))]) (zFR mb lv' mk (.slice none 0 0) pp cp ps psl csl L Fp Fs Fk zs ys) W :=
 Turned.of H hi [0,1,2,3,4] (by decide) (by simp;omega) h (fun F S hm b hb=>by
  simp at hm;rcases hm with ⟨rfl,rfl⟩|⟨rfl,rfl⟩|⟨rfl,rfl⟩
  ·exact .inl ⟨.kn F (InstsR F pp cp ps),by simp,hb⟩
  ·exact .inl ⟨.kn F (BytesR F psl csl L),by simp,hb⟩
  ·exact .inl ⟨.kn F (zN0 F ys),by simp,hb⟩)
theorem zO8 (mb:Nat) (mk nv:Value) (lq:Option Addr) (lc:Nat) (pp:Option Addr) (cp:Nat) (ps:List InstD) (psl:Option Addr) (csl:Nat) (L:Str) (Fp Fs Fk:Nat->Prop) (ys:List WV) (i:Nat) (M:Nat->Prop) (w0 w:World) (hR:zAq ps=true) (hset:∀ x ∈ ps,zAb x.set) (hin:∀ y ∈ ys,y.1<ps.length/\((atI ps y.1).kind=1\/(atI ps y.1).kind=5)) (hyn:ys.length<=1000000)
  (H0:HoldG M w0 w (zFR mb (.slice lq 0 lc) mk nv pp cp ps psl csl L Fp Fs Fk [] ys++[.row nv 197 2 ys.length (zAW (ys.map wayC))])) :
  Calls Tryz.prog 114 #[.pointer (some ⟨mb,0,none⟩),.int .i64 i] w (zQg mb (.slice lq 0 lc) mk nv pp cp ps psl csl L Fp Fs Fk ys i M w0 w):=by
 have H:=H0.framed;clear H0;obtain⟨rF,hrF⟩:∃ rF,zB3 w (zFR mb (.slice lq 0 lc) mk nv pp cp ps psl csl L Fp Fs Fk [] ys++[.row nv 197 2 ys.length (zAW (ys.map wayC))])=rF:=⟨_,rfl⟩;obtain⟨rS,hrS⟩:∃ rS,zCO w (zFR mb (.slice lq 0 lc) mk nv pp cp ps psl csl L Fp Fs Fk [] ys++[.row nv 197 2 ys.length (zAW (ys.map wayC))])=rS:=⟨_,rfl⟩;rw[hrF,hrS]at H;simp only[zFR,List.cons_append,List.nil_append]at H
 obtain⟨q0,c0,rfl,_,_,hq0⟩:=H.rowShape (i:=5) i_5;obtain⟨n,hn⟩:∃ n,ys.length=n:=⟨_,rfl⟩;have HYL:=Lib.hid (show (ys.map wayC).length=n by rw[List.length_map];exact hn)
 have HN:=Lib.hid hn;rw[hn]at H hq0 hyn;clear hn;obtain⟨iw,hiw,hw0,hw1,hw2⟩:=info_parts zFl
 go_enter Tryz.func114,Tryz.ntmps114
 go_wp2_with (first|((with_reducible refine gL ?_);refine zAE wtd_ _ _ rfl rfl H (i:=0) .zero zAz rfl ?_)|((with_reducible refine gT ?_);refine zAN wtd_ _ _ _ rfl rfl evd_ H (i:=0) .zero rfl (by show 4<5;omega) (zAD zAz) ?_;clear H;intro w H;simp only[sc]at H)|fail)
 go_loopw [18] (fun ix wr=>∃ (j:Nat) (vq:Option Addr) (vc:Nat) (zs:List WV),j<=n/\ix=.int .i64 j/\Hid (zA9 ps L i ((ys.map plW).take j)=(none,zs.map plW))/\Hid (∀ z ∈ zs,z.1<ps.length/\∃ y ∈ ys,z.2=y.2)/\zs.length<=j/\HoldG M w0 wr [.blk mb #[.slice vq zs.length vc,mk,.slice pp ps.length cp,.slice psl L.length csl,.slice none 0 0] 194,.row (.slice vq zs.length vc) 197 2 zs.length (zAW (zs.map wayC)),.kn Fp (InstsR Fp pp cp ps),.kn Fs (BytesR Fs psl csl L),.kn Fk (zN0 Fk ys),.row (.slice q0 n c0) 197 2 n (zAW (ys.map wayC)),.kn rF rS]) (fun ix _=>n+1 - (intOf ix).toNat)
 case atStart=>exact⟨0,lq,lc,[],by omega,rfl,Lib.hid rfl,Lib.hid (fun _ h=>by cases h),by simp,H⟩
 case round =>
  clear H;obtain⟨j,vq,vc,zs,hj,rfl,ES,EZ,hzl,H⟩:=hrel
  by_cases hlt:j<n
  ·have dj:decide (j<n)=true:=decide_eq_true hlt;have dj2:decide ((j:Int)<(n:Int))=true:=decide_eq_true (by omega)
   obtain⟨y,hy⟩:∃ y,ys[j]?=some y:=⟨_,List.getElem?_eq_getElem (by rw[HN.out];exact hlt)⟩
   have HYX:=Lib.hid (show (ys.map wayC)[j]?=some (wayC y) by rw[List.getElem?_map,hy];rfl)
   have hyp:(ys.map plW)[j]?=some (y.1,y.2.1):=by rw[List.getElem?_map,hy];rfl
   have hmem:=List.mem_of_getElem? hy;obtain⟨hk,hkind⟩:=hin y hmem;obtain⟨g0,rfl⟩:=hq0 (by omega)
   obtain⟨x,hx⟩:∃ x,ps[y.1]?=some x:=⟨_,List.getElem?_eq_getElem hk⟩;have hat:=zBZ hx;have hri:=zF8 hR hx;have hsx:=hset x (List.mem_of_getElem? hx);obtain⟨bp,op,hpp⟩:=(H.kn (i:=2) i_2).at (by omega)
   subst hpp;have hcell:∀ V,InstsR Fp (some ⟨bp,op,none⟩) cp ps V->∀ q,q<9->V.cell? ⟨bp,op+y.1 * 9+q,none⟩=(zAf x)[q]?:=fun V h=>h.cells hx rfl
   go_upto_region 6 with (first|((with_reducible refine gL ?_);refine zCW wtd_ _ _ rfl rfl zEC (zC2 y) (H.rowCell (i:=5) i_5 (zDm _) HYL.out HYX.out rfl) ?_)|((with_reducible refine gTw ?_);refine aTw H ?_;clear H;intro w H;simp only[sc]at H)|((with_reducible refine kg 7 ?_);(first|refine kA 7 H ?_|refine kS 7 H ?_|refine kB 7 H ?_);clear H;intro b7 w H;try simp only[nr]at H)|fail)
   refine zAd 9 [fun v _=>v=pt mb 0,fun v _=>v=pt mb 0,fun v _=>v=pt mb 2,fun v _=>v=.slice (some ⟨bp,op,none⟩) ps.length cp,fun v _=>v=pt b7 0,fun v _=>v=.int .i64 (y.1:Nat),fun v _=>v=.pointer (some ⟨bp,op+y.1 * 9,none⟩),fun v _=>v=zA8 x,zF4 w.heap.size (zAf {kind:=0}) 33] (fun _=>false) (by kernel_rfl) (by kernel_rfl) (by kernel_rfl) (by repeat (first|exact trivial|refine⟨zAI _,?_⟩|refine⟨zCl _ _ _,?_⟩)) (fun _ _ h=>by cases h) ?ob ?en
   case ob =>
    refine⟨?_,?_,?_,?_,?_,?_,?_,?_,?_,trivial⟩<;>intro A W h
    ·exact zAB rfl rfl (h.f 0)
    ·(have e22:A.eval (.tmp 22)=.pointer (some ⟨mb,0,none⟩):=h.d 0 22;refine zAA rfl ?_;simp only[execOp,e22];simp[go_sem])
    ·(have e23:A.eval (.tmp 23)=.pointer (some ⟨mb,0,none⟩):=h.d 1 23;refine zAA rfl ?_;simp only[execOp,e23];simp[go_sem])
    ·exact zAA rfl (zAC rfl (h.d 2 24) zCI ((H.call h.below).cell (i:=0) .zero 2)) (by decide)
    ·(have e7:A.eval (.tmp 7)=.pointer (some ⟨b7,0,none⟩):=h.f 7;refine zAA rfl ?_;simp only[execOp,e7];simp[go_sem])
    ·exact zAA rfl (zAC rfl (h.d 4 26) zAF (((H.call h.below).cell (i:=7) i_7 0).trans (yg0 y))) (by decide)
    ·exact zAU (sz:=9) Tryz.underlying23 (fun w=>by kernel_rfl) rfl rfl (h.d 3 25) (h.d 5 27) hk rfl (by decide)
    ·exact zAA rfl (zAk rfl (h.d 6 28) zAp rfl (hcell _ ((H.call h.below).kn (i:=2) i_2))) (by decide)
    ·exact zFc rfl rfl (by kernel_rfl) zHL h.below.size (by decide)
   case en =>
    intro vals W hbw hv _;have x8:=hv 8 (by omega);simp only[zAO]at x8
    simp only[fa,Nat.reduceAdd];rw[e_ hv 0,e_ hv 1,e_ hv 2,e_ hv 3,e_ hv 4,e_ hv 5,e_ hv 6,e_ hv 7];clear hv
    try simp only[pl]
    try simp only[pl]
    obtain⟨b8,e8,H8⟩:=H.gainB hbw x8;rw[e8];clear x8 e8 H hbw;have H:=H8;clear H8;simp only[ca]at H
    go_upto_region 7 with (first|((with_reducible refine gTi ?_);refine aTi H ?_;clear H;intro w H;try simp only[nr]at H))
    by_cases k5:x.kind=5
    ·have d5:(x.kind == 5)=true:=by rw[beq_iff_eq];exact k5
     have E:=Lib.hid (zMe ES.out hyp (by rw[hat];exact k5))
     clear hcell hyp hri hsx k5 hkind hx hat
     go_wp2_with (first|((with_reducible refine gL ?_);refine aGw1 H ?_)|((with_reducible refine gL ?_);refine aGi H ?_))
     go_ret;rw[← hrF,← hrS]at H;exact⟨.slice vq zs.length vc,zs,some y,E.out,EZ.out,fun y' h=>(by cases h;exact hmem),rfl,zJ1 H (q:=6) i_6 (by decide) rfl⟩
    ·have d5:(x.kind == 5)=false:=by rw[beq_eq_false_iff_ne];exact k5
     have h1:x.kind=1:=by rw[hat]at hkind;exact hkind.resolve_right k5
     have hnx:=zCU hri (.inl h1);have hon:=fun b hb=>zNW ES.out hyp (by rw[hat];exact k5) b hb
     rw[hat]at hon
     by_cases hiL:i<L.length
     ·obtain⟨bs,os,hbs⟩:=(H.kn (i:=3) i_3).at (by omega)
      subst hbs;have hha:=fun w=>zPF x.set hsx (byt L i) (zKO L i) w
      cases hs:hasB x.set (byt L i) with
      | true =>
       rw[hs]at hha;have E:=Lib.hid (hon true ⟨fun _=>rfl,fun _=>⟨hiL,hs⟩⟩)
       clear hon hcell hyp hri hsx k5 hkind hx hat hs h1
       go_upto_region 9 with (first|((with_reducible refine gL ?_);refine aGi H ?_))
       refine wr_ 20 [fun v _=>v=.int .i64 (i:Nat),fun v _=>v=pt mb 0,fun v _=>v=pt mb 0,fun v _=>v=pt mb 3,fun v _=>v=.slice (some ⟨bs,os,none⟩) L.length csl,fun v _=>v=.int .i64 ((L.length:Nat):Int),fun v _=>v=.bool true,fun v _=>v=.bool true,fun v _=>v=pt b8 1,fun v _=>v=setV x.set,fun v _=>v=pt mb 0,fun v _=>v=pt mb 0,fun v _=>v=pt mb 3,fun v _=>v=.slice (some ⟨bs,os,none⟩) L.length csl,fun v _=>v=.int .i64 (i:Nat),fun v _=>v=.pointer (some ⟨bs,os+i,none⟩),fun v _=>v=.int .u8 (byt L i),fun v _=>v=.bool true,fun v _=>v=.bool true,fun v _=>v=.bool true] ?ob ?en
       case ob =>
        refine⟨?_,?_,?_,?_,?_,?_,?_,?_,?_,?_,?_,?_,?_,?_,?_,?_,?_,?_,?_,?_,trivial⟩<;>intro A W h
        ·exact zAB rfl rfl (h.f 1)
        ·exact zAB rfl rfl (h.f 0)
        ·(have e38:A.eval (.tmp 38)=.pointer (some ⟨mb,0,none⟩):=h.d 1 38;refine zAA rfl ?_;simp only[execOp,e38];simp[go_sem])
        ·(have e39:A.eval (.tmp 39)=.pointer (some ⟨mb,0,none⟩):=h.d 2 39;refine zAA rfl ?_;simp only[execOp,e39];simp[go_sem])
        ·exact zAA rfl (zAC rfl (h.d 3 40) zA2 ((H.call h.below).cell (i:=0) .zero 3)) (by decide)
        ·exact zBB Tryz.underlying25 rfl rfl (h.d 4 41)
        ·(have e37:A.eval (.tmp 37)=.int .i64 (i:Nat):=h.d 0 37;have e42:A.eval (.tmp 42)=.int .i64 ((L.length:Nat):Int):=h.d 5 42;refine zAA rfl ?_;simp only[execOp,e37,e42];(simp[go_sem]<;>omega))
        ·exact zAB rfl rfl (h.d 6 43)
        ·(have e8:A.eval (.tmp 8)=.pointer (some ⟨b8,0,none⟩):=h.f 8;refine zAA (wg (h.d 7 44)) ?_;simp only[execOp,e8];simp[go_sem])
        ·exact zAA (wg (h.d 7 44)) (zAk rfl (h.d 8 45) zBj rfl (fun j hj=>by have h1:=(H.call h.below).cell (i:=8) i_8 (1+j);rcases j with _|_|_|_|j<;>first|exact h1|omega)) (by decide)
        ·exact zAB (wg (h.d 7 44)) rfl (h.f 0)
        ·(have e47:A.eval (.tmp 47)=.pointer (some ⟨mb,0,none⟩):=h.d 10 47;refine zAA (wg (h.d 7 44)) ?_;simp only[execOp,e47];simp[go_sem])
        ·(have e48:A.eval (.tmp 48)=.pointer (some ⟨mb,0,none⟩):=h.d 11 48;refine zAA (wg (h.d 7 44)) ?_;simp only[execOp,e48];simp[go_sem])
        ·exact zAA (wg (h.d 7 44)) (zAC rfl (h.d 12 49) zA2 ((H.call h.below).cell (i:=0) .zero 3)) (by decide)
        ·exact zAB (wg (h.d 7 44)) rfl (h.f 1)
        ·exact zAU (sz:=1) Tryz.underlying25 (fun w=>by kernel_rfl) (wg (h.d 7 44)) rfl (h.d 13 50) (h.d 14 51) (by omega) (by omega)
        ·exact zAA (wg (h.d 7 44)) (zAC rfl (h.d 15 52) zBd (((H.call h.below).kn (i:=3) i_3).cell hiL)) (by decide)
        ·exact zAc (wg (h.d 7 44)) rfl (enters_of Tryz.func154 (by kernel_rfl) rfl) (zBm ⟨(h.d 9 46),(h.d 16 53)⟩) (hha W)
        ·exact zAy rfl rfl (h.d 7 44) (h.d 17 54)
        ·exact zCK rfl rfl (h.d 18 55)
       case en =>
        intro vals W9 hbw hv _;simp only[fa,Nat.reduceAdd];rw[e_ hv 0,e_ hv 1,e_ hv 2,e_ hv 3,e_ hv 4,e_ hv 5,e_ hv 6,e_ hv 7,e_ hv 8,e_ hv 9,e_ hv 10,e_ hv 11,e_ hv 12,e_ hv 13,e_ hv 14,e_ hv 15,e_ hv 16,e_ hv 17,e_ hv 18,e_ hv 19];clear hv
        try simp only[pl]
        try simp only[pl]
        have H:=H.call hbw
        go_upto_region 10 with fail
        refine zDx 12 0 [fun v _=>v=pt mb 0,fun v _=>v=pt mb 0,fun v _=>v=pt mb 0,fun v _=>v=pt mb 0,fun v _=>v=pt mb 0,fun v _=>v=.slice vq zs.length vc,fun v _=>v=pt b8 5,fun v _=>v=.int .i64 x.next,fun v _=>v=pt b7 1,fun v _=>v=.slice y.2.2.1 y.2.1.length y.2.2.2,fun v _=>v=.agg (wayC (x.next.toNat,y.2)),FreshS W9.heap.size (wayC (x.next.toNat,y.2)) 197] (fun _=>false) (by kernel_rfl) (by kernel_rfl) (by kernel_rfl) (by repeat (first|exact trivial|refine⟨zAI _,?_⟩|refine⟨zDC _ _ _,?_⟩)) (fun _ _ h=>by cases h) ?ob ?en ?en2
        case ob =>
         refine⟨?_,?_,?_,?_,?_,?_,?_,?_,?_,?_,?_,?_,trivial⟩<;>intro A W h
         ·exact zAB rfl rfl (h.f 0)
         ·exact zAB rfl rfl (h.f 0)
         ·(have e57:A.eval (.tmp 57)=.pointer (some ⟨mb,0,none⟩):=h.d 1 57;refine zAA rfl ?_;simp only[execOp,e57];simp[go_sem])
         ·(have e58:A.eval (.tmp 58)=.pointer (some ⟨mb,0,none⟩):=h.d 2 58;refine zAA rfl ?_;simp only[execOp,e58];simp[go_sem])
         ·(have e59:A.eval (.tmp 59)=.pointer (some ⟨mb,0,none⟩):=h.d 3 59;refine zAA rfl ?_;simp only[execOp,e59];simp[go_sem])
         ·exact zAA rfl (zAC rfl (h.d 4 60) zAz ((H.call h.below).cell (i:=0) .zero 0)) (by decide)
         ·(have e8:A.eval (.tmp 8)=.pointer (some ⟨b8,0,none⟩):=h.f 8;refine zAA rfl ?_;simp only[execOp,e8];simp[go_sem])
         ·exact zAA rfl (zAC rfl (h.d 6 62) zAF (((H.call h.below).cell (i:=8) i_8 5).trans (ig5 x))) (by decide)
         ·(have e7:A.eval (.tmp 7)=.pointer (some ⟨b7,0,none⟩):=h.f 7;refine zAA rfl ?_;simp only[execOp,e7];simp[go_sem])
         ·exact zAA rfl (zAC rfl (h.d 8 64) zAv (((H.call h.below).cell (i:=7) i_7 1).trans (yg1 y))) (by decide)
         ·exact zAA rfl (zEL rfl (h.d 7 63) (h.d 9 65) hnx.1) (by decide)
         ·exact zL8 rfl rfl (h.d 10 66) h.below.size (by decide)
        case en =>
         intro vals W hbw hv _;have x11:=hv 11 (by omega);simp only[zAO]at x11
         simp only[fa,Nat.reduceAdd];rw[e_ hv 0,e_ hv 1,e_ hv 2,e_ hv 3,e_ hv 4,e_ hv 5,e_ hv 6,e_ hv 7,e_ hv 8,e_ hv 9,e_ hv 10];clear hv
         try simp only[pl]
         try simp only[pl]
         obtain⟨bk,e11,H8⟩:=H.gainS2 hbw x11;rw[e11];clear x11 e11 H hbw;have H:=H8;clear H8;simp only[ca]at H
         go_wp2_with (first|(at_builtin;refine zAx rfl _ _ 190 rfl H (i:=1) (j:=9) evd_ rfl i_1 i_9 Tryz.underlying190 hiw hw0 hw1 hw2 rfl (by decide) rfl rfl (by unfold maxLen;omega) (by omega) ?_;clear H;intro v2 w H;(try simp only[nr]at H);(obtain⟨q2,c2,rfl,_,_,_⟩:=H.rowShape (i:=1) i_1))|((with_reducible refine gT ?_);refine zAN wtd_ _ _ _ rfl rfl evd_ H (i:=0) .zero rfl (by show 0<5;omega) (zAD zAz) ?_;clear H;intro w H;simp only[sc]at H)|fail)
         rw[zCJ,show zs.length+1=(zs++[((x.next.toNat,y.2):WV)]).length by simp]at H
         go_roundw
         case rel=>exact⟨j+1,q2,c2,zs++[((x.next.toNat,y.2):WV)],by omega,by go_num,Lib.hid (by rw[E.out,List.map_append];rfl),Lib.hid (fun z hz=>(List.mem_append.1 hz).elim (EZ.out z) (fun h=>by rw[List.mem_singleton]at h;subst h;exact⟨by show x.next.toNat<_;omega,y,hmem,rfl⟩)),by simp;omega,H.pick [0,1,2,3,4,5,6] _ (by decide) rfl⟩
         case measure=>simp[intOf];omega
        case en2 =>
         intro vals W hbw hv _;have v1:vals 1=_:=hv 1 (by omega) (by omega)
         have v2:vals 2=_:=hv 2 (by omega) (by omega)
         have v3:vals 3=_:=hv 3 (by omega) (by omega)
         have v4:vals 4=_:=hv 4 (by omega) (by omega)
         have v5:vals 5=_:=hv 5 (by omega) (by omega)
         have v6:vals 6=_:=hv 6 (by omega) (by omega)
         have v7:vals 7=_:=hv 7 (by omega) (by omega)
         have v8:vals 8=_:=hv 8 (by omega) (by omega)
         have v9:vals 9=_:=hv 9 (by omega) (by omega)
         have v10:vals 10=_:=hv 10 (by omega) (by omega)
         have x11:=hv 11 (by omega) (by omega);simp only[zAO]at x11
         simp only[List.take_succ_cons,List.take_zero,List.drop_succ_cons,List.drop_zero,List.drop_nil,List.take_nil,zCr,zHg,List.cons_append,List.nil_append,Nat.reduceEqDiff,if_true,if_false,reduceCtorEq,Nat.zero_add,Nat.reduceAdd];rw[v1,v2,v3,v4,v5,v6,v7,v8,v9,v10];clear hv v1 v2 v3 v4 v5 v6 v7 v8 v9 v10
         try simp only[pl]
         try simp only[pl]
         obtain⟨bk,e11,H8⟩:=H.gainS2 hbw x11;rw[e11];clear x11 e11 H hbw;have H:=H8;clear H8;simp only[ca]at H
         go_wp2_with (first|(at_builtin;refine zAx rfl _ _ 190 rfl H (i:=1) (j:=9) evd_ rfl i_1 i_9 Tryz.underlying190 hiw hw0 hw1 hw2 rfl (by decide) rfl rfl (by unfold maxLen;omega) (by omega) ?_;clear H;intro v2 w H;(try simp only[nr]at H);(obtain⟨q2,c2,rfl,_,_,_⟩:=H.rowShape (i:=1) i_1))|((with_reducible refine gT ?_);refine zAN wtd_ _ _ _ rfl rfl evd_ H (i:=0) .zero rfl (by show 0<5;omega) (zAD zAz) ?_;clear H;intro w H;simp only[sc]at H)|fail)
         rw[zCJ,show zs.length+1=(zs++[((x.next.toNat,y.2):WV)]).length by simp]at H
         go_roundw
         case rel=>exact⟨j+1,q2,c2,zs++[((x.next.toNat,y.2):WV)],by omega,by go_num,Lib.hid (by rw[E.out,List.map_append];rfl),Lib.hid (fun z hz=>(List.mem_append.1 hz).elim (EZ.out z) (fun h=>by rw[List.mem_singleton]at h;subst h;exact⟨by show x.next.toNat<_;omega,y,hmem,rfl⟩)),by simp;omega,H.pick [0,1,2,3,4,5,6] _ (by decide) rfl⟩
         case measure=>simp[intOf];omega
      | false =>
       rw[hs]at hha;have E:=Lib.hid (hon false ⟨fun h=>(by rw[hs]at h;exact absurd h.2 (by decide)),fun h=>by cases h⟩)
       clear hon hcell hyp hri hsx k5 hkind hx hat hs h1
       go_upto_region 9 with (first|((with_reducible refine gL ?_);refine aGi H ?_))
       refine wr_ 20 [fun v _=>v=.int .i64 (i:Nat),fun v _=>v=pt mb 0,fun v _=>v=pt mb 0,fun v _=>v=pt mb 3,fun v _=>v=.slice (some ⟨bs,os,none⟩) L.length csl,fun v _=>v=.int .i64 ((L.length:Nat):Int),fun v _=>v=.bool true,fun v _=>v=.bool true,fun v _=>v=pt b8 1,fun v _=>v=setV x.set,fun v _=>v=pt mb 0,fun v _=>v=pt mb 0,fun v _=>v=pt mb 3,fun v _=>v=.slice (some ⟨bs,os,none⟩) L.length csl,fun v _=>v=.int .i64 (i:Nat),fun v _=>v=.pointer (some ⟨bs,os+i,none⟩),fun v _=>v=.int .u8 (byt L i),fun v _=>v=.bool false,fun v _=>v=.bool false,fun v _=>v=.bool false] ?ob ?en
       case ob =>
        refine⟨?_,?_,?_,?_,?_,?_,?_,?_,?_,?_,?_,?_,?_,?_,?_,?_,?_,?_,?_,?_,trivial⟩<;>intro A W h
        ·exact zAB rfl rfl (h.f 1)
        ·exact zAB rfl rfl (h.f 0)
        ·(have e38:A.eval (.tmp 38)=.pointer (some ⟨mb,0,none⟩):=h.d 1 38;refine zAA rfl ?_;simp only[execOp,e38];simp[go_sem])
        ·(have e39:A.eval (.tmp 39)=.pointer (some ⟨mb,0,none⟩):=h.d 2 39;refine zAA rfl ?_;simp only[execOp,e39];simp[go_sem])
        ·exact zAA rfl (zAC rfl (h.d 3 40) zA2 ((H.call h.below).cell (i:=0) .zero 3)) (by decide)
        ·exact zBB Tryz.underlying25 rfl rfl (h.d 4 41)
        ·(have e37:A.eval (.tmp 37)=.int .i64 (i:Nat):=h.d 0 37;have e42:A.eval (.tmp 42)=.int .i64 ((L.length:Nat):Int):=h.d 5 42;refine zAA rfl ?_;simp only[execOp,e37,e42];(simp[go_sem]<;>omega))
        ·exact zAB rfl rfl (h.d 6 43)
        ·(have e8:A.eval (.tmp 8)=.pointer (some ⟨b8,0,none⟩):=h.f 8;refine zAA (wg (h.d 7 44)) ?_;simp only[execOp,e8];simp[go_sem])
        ·exact zAA (wg (h.d 7 44)) (zAk rfl (h.d 8 45) zBj rfl (fun j hj=>by have h1:=(H.call h.below).cell (i:=8) i_8 (1+j);rcases j with _|_|_|_|j<;>first|exact h1|omega)) (by decide)
        ·exact zAB (wg (h.d 7 44)) rfl (h.f 0)
        ·(have e47:A.eval (.tmp 47)=.pointer (some ⟨mb,0,none⟩):=h.d 10 47;refine zAA (wg (h.d 7 44)) ?_;simp only[execOp,e47];simp[go_sem])
        ·(have e48:A.eval (.tmp 48)=.pointer (some ⟨mb,0,none⟩):=h.d 11 48;refine zAA (wg (h.d 7 44)) ?_;simp only[execOp,e48];simp[go_sem])
        ·exact zAA (wg (h.d 7 44)) (zAC rfl (h.d 12 49) zA2 ((H.call h.below).cell (i:=0) .zero 3)) (by decide)
        ·exact zAB (wg (h.d 7 44)) rfl (h.f 1)
        ·exact zAU (sz:=1) Tryz.underlying25 (fun w=>by kernel_rfl) (wg (h.d 7 44)) rfl (h.d 13 50) (h.d 14 51) (by omega) (by omega)
        ·exact zAA (wg (h.d 7 44)) (zAC rfl (h.d 15 52) zBd (((H.call h.below).kn (i:=3) i_3).cell hiL)) (by decide)
        ·exact zAc (wg (h.d 7 44)) rfl (enters_of Tryz.func154 (by kernel_rfl) rfl) (zBm ⟨(h.d 9 46),(h.d 16 53)⟩) (hha W)
        ·exact zAy rfl rfl (h.d 7 44) (h.d 17 54)
        ·exact zCK rfl rfl (h.d 18 55)
       case en =>
        intro vals W hbw hv _;simp only[fa,Nat.reduceAdd];rw[e_ hv 0,e_ hv 1,e_ hv 2,e_ hv 3,e_ hv 4,e_ hv 5,e_ hv 6,e_ hv 7,e_ hv 8,e_ hv 9,e_ hv 10,e_ hv 11,e_ hv 12,e_ hv 13,e_ hv 14,e_ hv 15,e_ hv 16,e_ hv 17,e_ hv 18,e_ hv 19];clear hv
        try simp only[pl]
        try simp only[pl]
        have H:=H.call hbw
        go_wp2_with (first|fail)
        go_roundw
        case rel=>exact⟨j+1,vq,vc,zs,by omega,by go_num,Lib.hid E.out,EZ,by omega,H.pick [0,1,2,3,4,5,6] _ (by decide) rfl⟩
        case measure=>simp[intOf];omega
     ·have E:=Lib.hid (hon false ⟨fun h=>absurd h.1 hiL,fun h=>by cases h⟩)
      have hiE2:L.length<=i:=by omega
      have di:=decide_eq_false hiL;clear hon hcell hyp hri hsx k5 hkind hx hat h1 hiL
      go_upto_region 9 with (first|((with_reducible refine gL ?_);refine aGi H ?_))
      refine wr_ 20 [fun v _=>v=.int .i64 (i:Nat),fun v _=>v=pt mb 0,fun v _=>v=pt mb 0,fun v _=>v=pt mb 3,fun v _=>v=.slice psl L.length csl,fun v _=>v=.int .i64 ((L.length:Nat):Int),fun v _=>v=.bool false,fun v _=>v=.bool false,fun v _=>v=undef,fun v _=>v=undef,fun v _=>v=undef,fun v _=>v=undef,fun v _=>v=undef,fun v _=>v=undef,fun v _=>v=undef,fun v _=>v=undef,fun v _=>v=undef,fun v _=>v=undef,fun v _=>v=Value.bool false,fun v _=>v=Value.bool false] ?ob ?en
      case ob =>
       refine⟨?_,?_,?_,?_,?_,?_,?_,?_,?_,?_,?_,?_,?_,?_,?_,?_,?_,?_,?_,?_,trivial⟩<;>intro A W h
       ·exact zAB rfl rfl (h.f 1)
       ·exact zAB rfl rfl (h.f 0)
       ·(have e38:A.eval (.tmp 38)=.pointer (some ⟨mb,0,none⟩):=h.d 1 38;refine zAA rfl ?_;simp only[execOp,e38];simp[go_sem])
       ·(have e39:A.eval (.tmp 39)=.pointer (some ⟨mb,0,none⟩):=h.d 2 39;refine zAA rfl ?_;simp only[execOp,e39];simp[go_sem])
       ·exact zAA rfl (zAC rfl (h.d 3 40) zA2 ((H.call h.below).cell (i:=0) .zero 3)) (by decide)
       ·exact zBB Tryz.underlying25 rfl rfl (h.d 4 41)
       ·(have e37:A.eval (.tmp 37)=.int .i64 (i:Nat):=h.d 0 37;have e42:A.eval (.tmp 42)=.int .i64 ((L.length:Nat):Int):=h.d 5 42;refine zAA rfl ?_;simp only[execOp,e37,e42];(simp[go_sem]<;>omega))
       ·exact zAB rfl rfl (h.d 6 43)
       ·exact rsk (h.d 7 44)
       ·exact rsk (h.d 7 44)
       ·exact rsk (h.d 7 44)
       ·exact rsk (h.d 7 44)
       ·exact rsk (h.d 7 44)
       ·exact rsk (h.d 7 44)
       ·exact rsk (h.d 7 44)
       ·exact rsk (h.d 7 44)
       ·exact rsk (h.d 7 44)
       ·exact rsk (h.d 7 44)
       ·exact zAy rfl rfl (h.d 7 44) (rfl)
       ·exact zCK rfl rfl (h.d 18 55)
      case en =>
       intro vals W hbw hv _;simp only[fa,Nat.reduceAdd];rw[e_ hv 0,e_ hv 1,e_ hv 2,e_ hv 3,e_ hv 4,e_ hv 5,e_ hv 6,e_ hv 7,e_ hv 8,e_ hv 9,e_ hv 10,e_ hv 11,e_ hv 12,e_ hv 13,e_ hv 14,e_ hv 15,e_ hv 16,e_ hv 17,e_ hv 18,e_ hv 19];clear hv
       try simp only[pl]
       try simp only[pl]
       have H:=H.call hbw
       go_wp2_with (first|fail)
       go_roundw
       case rel=>exact⟨j+1,vq,vc,zs,by omega,by go_num,Lib.hid E.out,EZ,by omega,H.pick [0,1,2,3,4,5,6] _ (by decide) rfl⟩
       case measure=>simp[intOf];omega
  ·have hjn:j=n:=by omega
   have dj:decide (j<n)=false:=decide_eq_false hlt;have dj2:decide ((j:Int)<(n:Int))=false:=decide_eq_false (by omega)
   have E:=ES.out;rw[List.take_of_length_le (by rw[List.length_map,HN.out];omega)]at E
   have E:=Lib.hid E;clear hjn
   go_wp2_with (first|fail)
   go_ret;rw[← hrF,← hrS]at H;exact⟨.slice vq zs.length vc,zs,none,E.out,EZ.out,fun y' h=>(by cases h),rfl,zJ1 H (q:=6) i_6 (by decide) rfl⟩
theorem zPJ (a:Nat) (ha:a<1000):bits .and .u64 (a:Int) 4294967295=(a:Int):=by
 have h:=bits_and_u64_nat a 4294967295 (by omega) (by omega)
 have e:a &&& 4294967295=a % 4294967296:=Nat.and_two_pow_sub_one_eq_mod a 32;rw[e,Nat.mod_eq_of_lt (by omega)]at h
 exact h
theorem zQk:bits .and .u64 (1:Int) 4294967295=1:=zPJ 1 (by omega)
theorem zQd:bits .and .u64 (0:Int) 4294967295=0:=zPJ 0 (by omega)
theorem divN (a:Nat) (ha:a<1000):(a:Int) / 4294967296=0:=by omega
theorem zQI (a:Nat) (ha:a<1000):IntKind.u64.wrap (a:Int)=(a:Int):=by rw[IntKind.wrap_u64];omega
theorem zQi:IntKind.u64.wrap 0=0:=rfl
theorem zK5 (n:Nat) (hn:n<1000) (w:World):Calls Tryz.prog 167 #[.int .u64 1,.int .u64 n] w fun e w'=>e=.returned (.tuple #[.int .u64 0,.int .u64 n])/\w'=w:=by
 go_enter Tryz.func167,Tryz.ntmps167
 go_wp2
 simp only[zPJ n hn,zQk,zQd,divN n hn,zQI n hn,zQi,Int.one_mul,Int.zero_mul,Int.mul_zero,Int.add_zero,Int.zero_add,Int.reduceDiv,Int.reduceMul,Int.reduceAdd]
 go_ret2
 exact⟨rfl,rfl⟩
theorem zOV (n:Nat) (hn:n<1000) (w:World):Calls Tryz.prog 151 #[.int .u64 1,.int .u64 n] w fun e w'=>e=.returned (.tuple #[.int .u64 0,.int .u64 n])/\w'=w:=by
 have c64:=zK5 n hn w
 go_enter Tryz.func151,Tryz.ntmps151
 go_wp2_with (go_at_call 167;refine c64.mono ?_;rintro e w' ⟨rfl,hw⟩;rw[hw])
 go_ret2
 exact⟨rfl,rfl⟩
theorem zIj (W:World) (b:Nat) (cs:Array Value):W.grownBy (W.setRow b cs) (some b):=by
 refine⟨rfl,rfl,rfl,by simp[World.setRow],fun j hj hne=>setRow_other W b j cs (fun e=>hne (by rw[e]))⟩
theorem zFq {P:Program} {ops:Array Oper} {rest:List Oper} {o:Oper} {a:Act} {w w0:World} {Q:Exit->Act->World->Prop} {l:List Res} {M:Nat->Prop} (hgd:o.guard=none) (d s:Operand) (dT sT:TypeId)
  (ho:o.op=.call {callee:=.builtin .copy,args:=#[d,s],argTypes:=#[dT,sT]}) {e:TypeId} (hu:P.underlying dT=some (.slice e)) (hsz:(P.info? e).map (·.size)=some 1)
  {g off dLen dCap sLen sCap:Nat} {ad:Addr} (hd:a.eval d=.slice (some ⟨g,off,none⟩) dLen dCap) (hs:a.eval s=.slice (some ad) sLen sCap) (H:HoldG M w0 w l) {j n cap:Nat} {xs:List Value}
  (hi:At l j (.row (.slice (some ⟨g,0,none⟩) n cap) e 1 n xs)) (hl:xs.length=n) (cs:List Value) (hn:cs.length=Nat.min sLen dLen) (hsrc:∀ k v,cs[k]?=some v->w.cell? (ad.add k)=some v) (hfit:off+cs.length<=n) (h1:∀ v ∈ cs,v.oneCell'=true)
  (h:∀ w',HoldG M w0 w' (l.set j (.row (.slice (some ⟨g,0,none⟩) n cap) e 1 n (xs.take off++(cs++xs.drop (off+cs.length)))))->wpList P ops Q rest (a.put o.dst (goInt cs.length)) w'):wpList P ops Q (o::rest) a w:=by
 obtain⟨hlen,⟨hv',_⟩|⟨g',cap',cur,hv',hb,hg',hn',hc,hsz',ht⟩⟩:=H.all j _ hi.get
 ·cases hv'
 ·cases hv'
  refine wpList_copy_own hgd d s dT sT ho e hu hsz g off dLen dCap ad sLen sCap hd hs cur e hg' cs hn hsrc (by omega) h1 ?_
  refine h _ (H.upd hi.get (zIj w g _) ⟨?_,.inr ⟨g,cap,_,rfl,hb,setRow_heap w g _ _ e _ hg',hn',hc,?_,?_⟩⟩ (fun _ e=>.inl e))
  ·simp;omega
  ·simp;omega
  ·simp only[Nat.mul_one]at ht ⊢;rw[← ht];apply List.ext_getElem?;intro k;simp only[List.getElem?_append,List.getElem?_take,List.getElem?_drop,List.length_take,List.length_drop,Array.length_toList];split<;>split<;>(try split)<;>(try split)<;>(try split)<;>(try split)<;>first|rfl|omega|(congr 1;omega)|(symm;apply List.getElem?_eq_none;simp;omega)|skip
def rpt (v:Int) (j n:Nat):List Value:=List.replicate j (.int .i64 v)++List.replicate (n - j) (.int .i64 0)
theorem zE5 {v:Int} {j n:Nat} (h:j<=n):(rpt v j n).length=n:=by simp[rpt];omega
theorem zNY {v:Int} {j n k:Nat} (h:k<=j):(rpt v j n).take k=List.replicate k (.int .i64 v):=by
 unfold rpt;rw[List.take_append_of_le_length (by simpa using h),List.take_replicate,Nat.min_eq_left h]
theorem zOK {v:Int} {j n k:Nat} (h:j<=k):(rpt v j n).drop k=List.replicate (n - k) (.int .i64 0):=by
 unfold rpt;rw[List.drop_append,List.drop_of_length_le (by simpa using h),List.drop_replicate,List.nil_append]
 congr 1;simp;omega
theorem zJt {v:Int} {j n:Nat} (h:j<=n) (m:Nat) (hm:j+m<=n):(rpt v j n).take j++(List.replicate m (.int .i64 v)++(rpt v j n).drop (j+m))=rpt v (j+m) n:=by
 rw[zNY (Nat.le_refl _),zOK (by omega),← List.append_assoc,List.replicate_append_replicate]
 rfl
theorem IntsR.cell {F:Nat->Prop} {b off c:Nat} {xs:List Int} {W:World} (h:IntsR F (some ⟨b,off,none⟩) c xs W) {j:Nat} (hj:j<xs.length):W.cell? ⟨b,off+j,none⟩=some (.int .i64 xs[j]):=by
 obtain⟨p',c',e,_,_,_,h3⟩:=h;obtain⟨b',off',e2,_,_,h4⟩:=h3 j #[.int .i64 xs[j]] (by rw[List.getElem?_map,List.getElem?_eq_getElem hj];rfl)
 simp only[Value.slice.injEq]at e;obtain⟨rfl,_,rfl⟩:=e;simp only[Option.some.injEq,Addr.mk.injEq]at e2;obtain⟨rfl,rfl,_⟩:=e2;have:=h4 0 (by omega)
 simpa using this
theorem zJi {M:Nat->Prop} {w0 W:World} {l:List Res} (H:HoldG M w0 W l) {i gs n j:Nat} {v:Int} {e:TypeId} (hi:At l i (.row (.slice (some ⟨gs,0,none⟩) n n) e 1 n (rpt v j n))) (hj:j<=n) {k:Nat} (hk:k<j):W.cell? ⟨gs,k,none⟩=some (.int .i64 v):=by
 obtain⟨hlen,⟨hv',_⟩|⟨g',cap',cur,hv',hb,hg',hn',hc,hsz',ht⟩⟩:=H.all i _ hi.get
 ·cases hv'
 ·cases hv'
  have:cur.toList.take n=rpt v j n:=by simpa using ht
  have h2:(cur.toList.take n)[k]?=some (.int .i64 v):=by
   rw[this,rpt,List.getElem?_append_left (by simp;omega),List.getElem?_replicate,if_pos (by omega)]
  rw[List.getElem?_take,if_pos (by omega)]at h2
  have h3:W.cell? ⟨gs,k,none⟩=cur[k]?:=by simp[World.cell?,hg']
  rw[h3]
  simpa using h2
theorem zOM (g n j:Nat) (hj:j<n) (W:World):(Instr.slice 55 (.slice (some ⟨g,0,none⟩) n n) (some (.int .i64 (j:Int))) none none).run Tryz.prog W=.ok (.slice (some ⟨g,j,none⟩) (n - j) (n - j)) W:=by
 have he:Tryz.prog.elem 55=3:=by simp[Program.elem,Tryz.underlying55]
 have hz:∀ w,(sizeOf 3).run Tryz.prog w=.ok 1 w:=fun w=>by kernel_rfl
 rw[run_slice_l W 55 _ n n (by rw[he];exact Tryz.underlying55) .i64 j (by omega) (by omega),he,hz]
 simp[Result.andThen,sliced,Addr.add];rw[if_neg (by omega)]
 split
 ·rename_i h;subst h;rfl
 ·rfl
theorem zP1 (g n j:Nat) (hj:j<=n) (W:World):(Instr.slice 55 (.slice (some ⟨g,0,none⟩) n n) none (some (.int .i64 (j:Int))) none).run Tryz.prog W=.ok (.slice (some ⟨g,0,none⟩) j n) W:=by
 have he:Tryz.prog.elem 55=3:=by simp[Program.elem,Tryz.underlying55]
 have hz:∀ w,(sizeOf 3).run Tryz.prog w=.ok 1 w:=fun w=>by kernel_rfl
 rw[run_slice_h W 55 _ n n (by rw[he];exact Tryz.underlying55) .i64 j (by omega) (by omega),he,hz]
 simp[Result.andThen,sliced,Addr.add]
theorem zLR (q:Option Addr) (c:Nat) (v:Int) (n:Nat) (F:Nat->Prop) (w0:World) (hn2:2<=n) (hn:n<=50) (hF:∀ b,F b->b<w0.heap.size) (h:IntsR F q c [v] w0) :
  Calls Tryz.prog 111 #[.slice q 1 c,.int .i64 n] w0 fun e w'=>OwnI w0 (List.replicate n v) e w':=by
 have H:=(Hold.start w0).know F (IntsR F q c [v]) hF (fun i r h=>by simp at h) (fun V hV=>h.kept hV)
 simp only[List.nil_append]at H;obtain⟨bq,oq,hq⟩:=h.at (by simp)
 subst hq;clear h;obtain⟨ii,hii,hi0,hi1,hi2⟩:=info_parts zEO;have hmul:=fun w=>zOV n (by omega) w
 have d1:decide ((n:Int)<0)=false:=decide_eq_false (by omega)
 have d2:decide ((9223372036854775807:Int)<(n:Int))=false:=decide_eq_false (by omega)
 have w1:IntKind.u64.wrap (n:Int)=(n:Int):=zQI n (by omega)
 have w2:wrap64 (n:Int)=(n:Int):=by unfold wrap64;omega
 have w3:IntKind.u64.wrap 1=1:=rfl
 go_enter Tryz.func111,Tryz.ntmps111
 go_upto_region 4 with (first|fail|(go_at_call 151;refine(hmul _).mono ?_;rintro e w' ⟨rfl,hw⟩;rw[hw]))
 go_upto_region 6 with (first|fail)
 go_upto_region 7 with (first|((with_reducible refine gMS ?_);refine zHU rfl _ _ 55 rfl H Tryz.underlying55 hii hi0 hi1 hi2 rfl (n:=n) (by first|rfl|(rw[← w2];rfl)) (by first|rfl|(rw[← w2];rfl)) (by omega) (by unfold maxLen;omega) ?_;clear H;intro gs w H;simp only[ca]at H)|fail)
 rw[show List.replicate n (Value.int .i64 0)=rpt v 0 n by simp[rpt]]at H
 have hk:w.cell? ⟨bq,oq,none⟩=some (.int .i64 v):=IntsR.cell (j:=0) (H.kn (i:=0) .zero) (by simp)
 go_upto_region 8 with (first|((with_reducible show @wpList _ _ _ ({dst:=_,op:=Op.call {callee:=.builtin .copy,args:=_,argTypes:=_},type:=_,pos:=_,after:=_,guard:=_}::_) _ _);(go_loud (refine zFq rfl _ _ _ _ rfl Tryz.underlying55 (by kernel_rfl) evd_ evd_ H (j:=1) i_1 (zE5 (Nat.zero_le _)) [.int .i64 v] (by show 1=min _ _;omega) (fun k u hu=>by rcases k with _|k;(· cases hu;exact hk);(· simp at hu)) (by simp;omega) (by intro u hu;simp at hu;subst hu;rfl) ?_));clear H;intro w H;try simp only[sc]at H)|fail)
 have hcp:(rpt v 0 n).take 0++([Value.int .i64 v]++(rpt v 0 n).drop (0+[Value.int .i64 v].length))=rpt v 1 n:=by
  have:=zJt (v:=v) (j:=0) (n:=n) (by omega) 1 (by omega)
  simpa using this
 rw[hcp]at H;clear hcp hk hmul w1 w3 d1 d2
 go_loopw [8] (fun ix wr=>∃ (j:Nat),1<=j/\j<=n/\ix=.int .i64 j/\Hold w0 wr [.kn F (IntsR F (some ⟨bq,oq,none⟩) c [v]),.row (.slice (some ⟨gs,0,none⟩) n n) 3 1 n (rpt v j n)]) (fun v _=>n - (intOf v).toNat)
 case atStart=>exact⟨1,by omega,by omega,rfl,H⟩
 case round =>
  clear H;obtain⟨j,hj1,hj,rfl,H⟩:=hrel
  by_cases hlt:j<n
  ·have dj:decide (j<n)=true:=decide_eq_true hlt;have dj2:decide ((j:Int)<(n:Int))=true:=decide_eq_true (by omega)
   obtain⟨m,hm⟩:∃ m,Nat.min j (n - j)=m:=⟨_,rfl⟩;have hm1:1<=m:=by rw[← hm];show 1<=min j (n - j);omega
   have hm2:m<=n - j:=by rw[← hm];show min j (n - j)<=_;omega
   have hm3:m<=j:=by rw[← hm];show min j (n - j)<=_;omega
   have hel:Tryz.prog.underlying 55=some (.slice (Tryz.prog.elem 55)):=by kernel_rfl
   have hrun1:=zOM gs n j hlt;have hrun2:=zP1 gs n j hj;have hcp:=zJt (v:=v) hj m (by omega)
   have HEL:=Lib.hid hel;clear hel;have HM:=Lib.hid hm;clear hm;have HP:=Lib.hid hcp;clear hcp
   go_upto_region 9 with (first|fail)
   refine zDx 7 0 [fun v _=>v=.int .i64 (j:Nat),fun v _=>v=.slice (some ⟨gs,0,none⟩) n n,fun v _=>v=.int .i64 (j:Nat),fun v _=>v=.slice (some ⟨gs,j,none⟩) (n - j) (n - j),fun v _=>v=.slice (some ⟨gs,0,none⟩) n n,fun v _=>v=.int .i64 (j:Nat),fun v _=>v=.slice (some ⟨gs,0,none⟩) j n] (fun _=>false) (by kernel_rfl) (by kernel_rfl) (by kernel_rfl) (by repeat (first|exact trivial|refine⟨zAI _,?_⟩)) (fun _ _ h=>by cases h) ?ob ?en ?en2
   case ob =>
    refine⟨?_,?_,?_,?_,?_,?_,?_,trivial⟩<;>intro A W h
    ·exact zAB rfl rfl (h.f 8)
    ·exact zAB rfl rfl (h.f 7)
    ·exact zAB rfl rfl (h.f 8)
    ·(have e39:A.eval (.tmp 39)=.slice (some ⟨gs,0,none⟩) n n:=h.d 1 39;have e40:A.eval (.tmp 40)=.int .i64 (j:Nat):=h.d 2 40;refine zAA rfl ?_;simp only[execOp,e39,e40];(simp only[Option.map,e40,Sem.run_bind,run_sliceAt_slice (h:=HEL.out),hrun1,Result.andThen_ok,Sem.run_pure]))
    ·exact zAB rfl rfl (h.f 7)
    ·exact zAB rfl rfl (h.f 8)
    ·(have e42:A.eval (.tmp 42)=.slice (some ⟨gs,0,none⟩) n n:=h.d 4 42;have e43:A.eval (.tmp 43)=.int .i64 (j:Nat):=h.d 5 43;refine zAA rfl ?_;simp only[execOp,e42,e43];(simp only[Option.map,e43,Sem.run_bind,run_sliceAt_slice (h:=HEL.out),hrun2,Result.andThen_ok,Sem.run_pure]))
   case en =>
    intro vals W hbw hv _;simp only[fa,Nat.reduceAdd];rw[e_ hv 0,e_ hv 1,e_ hv 2,e_ hv 3,e_ hv 4,e_ hv 5,e_ hv 6];clear hv
    try simp only[pl]
    try simp only[pl]
    have H:=H.call hbw;refine zFq rfl _ _ _ _ rfl Tryz.underlying55 (by kernel_rfl) evd_ evd_ H (j:=1) i_1 (zE5 hj) (List.replicate m (.int .i64 v)) (by rw[List.length_replicate];exact HM.out.symm) (fun k u hu=>by rw[List.getElem?_replicate]at hu;(split at hu<;>cases hu);rename_i hk;have:=zJi H (i:=1) i_1 hj (k:=k) (by omega);rw[Addr.add_mid,Nat.zero_add];exact this) (by simp;omega) (by intro u hu;rw[List.mem_replicate]at hu;rw[hu.2];rfl) ?_
    clear H;intro w H;(try simp only[sc]at H);simp only[List.length_replicate]at H;rw[HP.out]at H
    go_wp2_with (first|fail)
    go_roundw
    case rel=>exact⟨j+m,by omega,by omega,by go_num,H⟩
    case measure=>simp[intOf];omega
   case en2 =>
    intro vals W hbw hv _;have v1:vals 1=_:=hv 1 (by omega) (by omega)
    have v2:vals 2=_:=hv 2 (by omega) (by omega)
    have v3:vals 3=_:=hv 3 (by omega) (by omega)
    have v4:vals 4=_:=hv 4 (by omega) (by omega)
    have v5:vals 5=_:=hv 5 (by omega) (by omega)
    have v6:vals 6=_:=hv 6 (by omega) (by omega)
    simp only[List.take_succ_cons,List.take_zero,List.drop_succ_cons,List.drop_zero,List.drop_nil,List.take_nil,zCr,zHg,List.cons_append,List.nil_append,Nat.reduceEqDiff,if_true,if_false,reduceCtorEq,Nat.zero_add,Nat.reduceAdd];rw[v1,v2,v3,v4,v5,v6];clear hv v1 v2 v3 v4 v5 v6
    try simp only[pl]
    try simp only[pl]
    have H:=H.call hbw;refine zFq rfl _ _ _ _ rfl Tryz.underlying55 (by kernel_rfl) evd_ evd_ H (j:=1) i_1 (zE5 hj) (List.replicate m (.int .i64 v)) (by rw[List.length_replicate];exact HM.out.symm) (fun k u hu=>by rw[List.getElem?_replicate]at hu;(split at hu<;>cases hu);rename_i hk;have:=zJi H (i:=1) i_1 hj (k:=k) (by omega);rw[Addr.add_mid,Nat.zero_add];exact this) (by simp;omega) (by intro u hu;rw[List.mem_replicate]at hu;rw[hu.2];rfl) ?_
    clear H;intro w H;(try simp only[sc]at H);simp only[List.length_replicate]at H;rw[HP.out]at H
    go_wp2_with (first|fail)
    go_roundw
    case rel=>exact⟨j+m,by omega,by omega,by go_num,H⟩
    case measure=>simp[intOf];omega
  ·have hjn:j=n:=by omega
   subst hjn;have dj:decide (j<j)=false:=by simp
   have dj2:decide ((j:Int)<(j:Int))=false:=by simp
   go_wp2_with (first|fail)
   go_ret;rw[show rpt v j j=(List.replicate j v).map (.int .i64) by simp[rpt]]at H
   refine⟨some ⟨gs,0,none⟩,j,by simp,?_,H.below⟩
   have:=H.all 1 _ rfl;rw[List.length_replicate];exact this
end
section
open Go.RowKit
structure RCtxS (l:List Oper) (Ss:Nat->Value->World->Prop) (R:World->World->Prop) (a0:Act) (w0:World) (o:Oper) (a:Act) (w:World):Prop where
 rel:R w0 w
 frame:∀ t,l.any (fun o=>o.dst == some t)=false->a.eval (.tmp t)=a0.eval (.tmp t)
 dep:∀ j d,o.after.toList.any (fun e=>Region.binds .any e&&e.on == j)=true->(l[j]?).bind (·.dst)=some d->Ss j (a.eval (.tmp d)) w
 defers:a.defers=a0.defers
def zOu (P:Program) (ops:Array Oper) (R:World->World->Prop) (Q:Exit->Act->World->Prop) (o:Oper) (a:Act) (w:World) (s:Value->World->Prop):Prop :=
 if Region.wanted o (yielded ops a.tmps) then o.wp P a w (fun a' w'=>∃ v,a'=a.put o.dst v/\R w w'/\s v w') Q else s undef w
def OblS (P:Program) (Q:Exit->Act->World->Prop) (l hd:List Oper) (R0 R:World->World->Prop) (Sp:List Nat) (St:Nat->World->Prop) (L:List (Value->World->Prop)) (a0:Act) (w0:World):List Oper->Nat->Prop
 | [],_=>True
 | o::r,i=>(match Sp.idxOf? i with
   | none=>∀ a w,RCtxS hd (zAO L) R a0 w0 o a w->zB5 P l.toArray R0 o a w (zAO L i)
   | some r=>∀ a w,RCtxS hd (zAO L) R a0 w0 o a w->St r w->zOu P l.toArray R Q o a w (fun v w'=>zAO L i v w'/\St (r+1) w'))/\OblS P Q l hd R0 R Sp St L a0 w0 r (i+1)
theorem OblS.get {P:Program} {Q:Exit->Act->World->Prop} {l hd:List Oper} {R0 R:World->World->Prop} {Sp:List Nat} {St:Nat->World->Prop} {L:List (Value->World->Prop)} {a0:Act} {w0:World}:∀ (r:List Oper) (k:Nat),OblS P Q l hd R0 R Sp St L a0 w0 r k->∀ i o,r[i]?=some o ->
  (match Sp.idxOf? (k+i) with
   | none=>∀ a w,RCtxS hd (zAO L) R a0 w0 o a w->zB5 P l.toArray R0 o a w (zAO L (k+i))
   | some r=>∀ a w,RCtxS hd (zAO L) R a0 w0 o a w->St r w->zOu P l.toArray R Q o a w (fun v w'=>zAO L (k+i) v w'/\St (r+1) w'))
 | [],_,_,_,_,h=>by simp at h
 | o::r,k,h,0,o',h'=>by simp at h';subst h';exact h.1
 | o::r,k,h,i+1,o',h'=>by
  have:=OblS.get r (k+1) h.2 i o' (by simpa using h')
  rwa [show k+1+i=k+(i+1) from by omega]at this
theorem RCtxS.d {l:List Oper} {Ss:Nat->Value->World->Prop} {R:World->World->Prop} {a0:Act} {w0:World} {o:Oper} {a:Act} {w:World} (h:RCtxS l Ss R a0 w0 o a w) (j d:Nat) (h1:o.after.toList.any (fun e=>Region.binds .any e&&e.on == j)=true:=by exact rfl) (h2:(l[j]?).bind (·.dst)=some d:=by exact rfl):Ss j (a.eval (.tmp d)) w:=h.dep j d h1 h2
theorem RCtxS.f {l:List Oper} {Ss:Nat->Value->World->Prop} {R:World->World->Prop} {a0:Act} {w0:World} {o:Oper} {a:Act} {w:World} (h:RCtxS l Ss R a0 w0 o a w) (t:Nat) (h1:l.any (fun o=>o.dst == some t)=false:=by exact rfl):a.eval (.tmp t)=a0.eval (.tmp t):=h.frame t h1
theorem zD0 {m:Nat} {P:Program} {row:String} {args:Array Value} {w:World} {R:Value->World->Prop} (h:Rows P row args w R):RowsIn Fence.wide m P row args w R :=
 fun c cs _=>let ⟨v,w',r,s⟩:=h c cs;⟨v,w',r,stepsIn_wide.2 s⟩
theorem zLM {m:Nat} {P:Program} {o:Oper} {a:Act} {w:World} {K:Act->World->Prop} {Q:Exit->Act->World->Prop} (h:o.wp P a w K Q):o.wpIn Fence.wide m P a w K Q:=by
 unfold Oper.wp at h;refine⟨fun _ _=>trivial,?_⟩
 rw[show o.semAt Fence.wide.round a.eval=execOp a.eval o from rfl]
 generalize (execOp a.eval o).run P w=r at *
 cases r with
 | ok x w' =>
  cases x<;>simp only[Oper.upon,Oper.uponIn]at h ⊢ <;>
   first
    | exact h
    | exact⟨fun h=>by simp[Fence.wide]at h,callsIn_wide.2 h⟩
    | exact⟨fun h=>by simp[Fence.wide]at h,zD0 h⟩
    | exact h.elim
 | halt x w'=>cases x<;>simp only[Oper.upon,Oper.uponIn]at h ⊢<;>first|exact h|exact h.elim
def zOv (m:Nat) (P:Program) (ops:Array Oper) (R:World->World->Prop) (Q:Exit->Act->World->Prop) (o:Oper) (a:Act) (w:World) (s:Value->World->Prop):Prop :=
 if Region.wanted o (yielded ops a.tmps) then o.wpIn Fence.wide m P a w (fun a' w'=>∃ v,a'=a.put o.dst v/\R w w'/\s v w') Q else s undef w
def depB (l:List Oper):Nat->Nat->Nat->Bool
 | 0,_,_=>false
 | f+1,i,j=>match l[j]? with
  | some o=>o.after.toList.any (fun e=>Region.binds .any e&&(e.on == i || depB l f i e.on))
  | none=>false
def OblI (m:Nat) (P:Program) (Q:Exit->Act->World->Prop) (l hd:List Oper) (R0 R:World->World->Prop) (Sp:List Nat) (St:Nat->World->Prop) (L:List (Value->World->Prop)) (a0:Act) (w0:World):List Oper->Nat->Prop
 | [],_=>True
 | o::r,i=>(match Sp.idxOf? i with
   | none=>∀ a w,RCtxS hd (zAO L) R a0 w0 o a w->∀ r,St r w->(∀ (k j:Nat),Sp[k]?=some j->depB l l.length i j=true->r<=k)->zB5 P l.toArray R0 o a w (zAO L i)
   | some r=>∀ a w,RCtxS hd (zAO L) R a0 w0 o a w->St r w->zOv m P l.toArray R Q o a w (fun v w'=>zAO L i v w'/\St (r+1) w'))/\OblI m P Q l hd R0 R Sp St L a0 w0 r (i+1)
theorem OblI.get {m:Nat} {P:Program} {Q:Exit->Act->World->Prop} {l hd:List Oper} {R0 R:World->World->Prop} {Sp:List Nat} {St:Nat->World->Prop} {L:List (Value->World->Prop)} {a0:Act} {w0:World}:∀ (r:List Oper) (k:Nat),OblI m P Q l hd R0 R Sp St L a0 w0 r k->∀ i o,r[i]?=some o ->
  (match Sp.idxOf? (k+i) with
   | none=>∀ a w,RCtxS hd (zAO L) R a0 w0 o a w->∀ r,St r w->(∀ (q j:Nat),Sp[q]?=some j->depB l l.length (k+i) j=true->r<=q)->zB5 P l.toArray R0 o a w (zAO L (k+i))
   | some r=>∀ a w,RCtxS hd (zAO L) R a0 w0 o a w->St r w->zOv m P l.toArray R Q o a w (fun v w'=>zAO L (k+i) v w'/\St (r+1) w'))
 | [],_,_,_,_,h=>by simp at h
 | o::r,k,h,0,o',h'=>by simp at h';subst h';exact h.1
 | o::r,k,h,i+1,o',h'=>by
  have:=OblI.get r (k+1) h.2 i o' (by simpa using h')
  rwa [show k+1+i=k+(i+1) from by omega]at this
def Stay (B:Nat) (I:World->Prop):Prop:=∀ W W' row,I W->W.grownBy W' row->(∀ r,row=some r->B<=r/\∃ o:Obj,W.heap[r]?=some o/\o.isCells=false)->I W'
theorem Stay.putObj {B:Nat} {I:World->Prop} (h:Stay B I) {W:World} {l:Nat} {o:Obj} (o':Obj) (hs:I W) (hB:B<=l) (hl:W.heap[l]?=some o) (ho:o.isCells=false):I (W.putObj l o') :=
 h W _ (some l) hs (grownBy_putObj' W l o') (fun r e=>by cases e;exact⟨hB,o,hl,ho⟩)
theorem Stay.alloc {B:Nat} {I:World->Prop} (h:Stay B I) {W:World} (o:Obj) (hs:I W):I (W.alloc o) :=
 h W _ none hs (World.grownBy_alloc W o none) (fun r e=>by cases e)
variable {F:Fence} {n:Nat} {P:Program}
def zD1 (B:Nat):Res->Prop
 | .mp _ _ _=>False
 | .kn F S=>∀ V,S V->∀ b,F b->b<B\/∃ o:Obj,V.heap[b]?=some o/\o.isCells=true
 | _=>True
theorem HoldG.stayK {M:Nat->Prop} {w0:World} {l:List Res} {B:Nat} (hl:∀ r ∈ l,zD1 B r) (hB:w0.heap.size<=B):Stay B (fun W=>HoldG M w0 W l):=by
 intro W W' row H hg hr;refine⟨H.keep.trans ⟨hg.os,hg.tape,hg.output,hg.size,fun k h1 h2=>hg.block k (Nat.lt_of_lt_of_le h1 H.keep.size) (fun e=>by have:=(hr k e.symm).1;omega)⟩,fun i s hs=>?_,H.apart⟩
 have hA:=H.all i s hs;have hc:=hl s (List.mem_of_getElem? hs)
 cases s with
 | blk b' cs T =>
  refine hA.keptF (fun b hb=>hg.block b ((Array.getElem?_eq_some_iff.1 (by cases hb;exact hA.2)).1) (fun e=>?_)) (fun b hb=>Nat.lt_of_lt_of_le ((Array.getElem?_eq_some_iff.1 (by cases hb;exact hA.2)).1) hg.size)
  obtain⟨_,o,ho,hcell⟩:=hr b e.symm
  cases hb
  rw[hA.2]at ho;cases ho;cases hcell
 | row v e sz n xs =>
  have hlt:∀ b,(Res.row v e sz n xs).foot b->b<W.heap.size:=fun b hb=>(hA.lt b hb).2
  refine hA.keptF (fun b hb=>hg.block b (hlt b hb) (fun e=>?_)) (fun b hb=>Nat.lt_of_lt_of_le (hlt b hb) hg.size)
  obtain⟨_,o,ho,hcell⟩:=hr b e.symm;obtain⟨_,⟨hv,_⟩|⟨g,cap,cur,rfl,_,hg',_⟩⟩:=hA
  ·have h2:v.ownBlock=some b:=hb;rw[hv]at h2;cases h2
  ·have:g=b:=by simpa [Res.foot,Value.ownBlock] using hb
   subst this;rw[hg']at ho;cases ho;cases hcell
 | mp b' es c=>exact hc.elim
 | kn F S =>
  have hS:S W:=hA.2 W (fun _ _=>rfl)
  refine hA.keptF (fun b hb=>hg.block b (hA.1 b hb) (fun e=>?_)) (fun b hb=>Nat.lt_of_lt_of_le (hA.1 b hb) hg.size)
  obtain⟨hBb,o,ho,hcell⟩:=hr b e.symm;rcases hc W hS b hb with h|⟨o',ho',hc'⟩
  ·omega
  ·rw[ho']at ho;cases ho;rw[hc']at hcell;cases hcell
theorem HoldG.knBoth {M:Nat->Prop} {w0 w:World} {l:List Res} (H:HoldG M w0 w l) {i j:Nat} {F G:Nat->Prop} {S T:World->Prop} (hi:At l i (.kn F S)) (hj:At l j (.kn G T)):HoldG M w0 w (l.set i (.kn (fun b=>F b\/G b) (fun V=>S V/\T V))):=by
 have hA:=H.all i _ hi.get;have hB:=H.all j _ hj.get;have hil:i<l.length:=(List.getElem?_eq_some_iff.1 hi.get).1;refine⟨H.keep,fun k r hr=>?_,fun k m r s hkm hr hs=>?_⟩
 ·rw[List.getElem?_set]at hr;split at hr
  ·rename_i e;subst e;simp only[hil,if_true,Option.some.injEq]at hr;subst hr;exact⟨fun b hb=>hb.elim (hA.1 b) (hB.1 b),fun W' hW=>⟨hA.2 W' (fun b hb=>hW b (.inl hb)),hB.2 W' (fun b hb=>hW b (.inr hb))⟩⟩
  ·exact H.all k r hr
 ·rw[List.getElem?_set]at hr hs;split at hr
  ·rename_i e;subst e;simp only[hil,if_true,Option.some.injEq]at hr;subst hr;intro b hb;cases hb
  ·split at hs
   ·rename_i e;subst e;simp only[hil,if_true,Option.some.injEq]at hs;subst hs;intro b hb hf;rcases hf with hf|hf
    ·exact H.apart k i r _ hkm hr hi.get b hb hf
    ·by_cases hkj:k=j
     ·subst hkj;have:=hj.get;rw[this]at hr;cases hr;cases hb
     ·exact H.apart k j r _ hkj hr hj.get b hb hf
   ·exact H.apart k m r s hkm hr hs
end
section
open Go.RowKit Go.Shelf
attribute [local go_sem] Oper.semAt_some
theorem IntsR.mono {F G:Nat->Prop} {p:Option Addr} {c:Nat} {xs:List Int} {V:World} (h:IntsR F p c xs V) (hG:∀ b,F b->G b):IntsR G p c xs V:=by
 obtain⟨p',c',e,h1,h2,h0,h3⟩:=h;refine⟨p',c',e,h1,h2,h0,fun j r hr=>?_⟩
 obtain⟨b,off,e2,hb,h4⟩:=h3 j r hr;exact⟨b,off,e2,hG b hb,h4⟩
theorem IntsR.narrow {F:Nat->Prop} {p:Option Addr} {c:Nat} {xs:List Int} {V:World} (h:IntsR F p c xs V) (hn:0<xs.length):∃ b off,p=some ⟨b,off,none⟩/\F b/\IntsR (·=b) p c xs V:=by
 obtain⟨p',c',e,h1,h2,h0,h3⟩:=h;have e':=e;simp only[Value.slice.injEq]at e';obtain⟨rfl,_,rfl⟩:=e';obtain⟨b,off,e2,hb,_⟩:=h3 0 #[.int .i64 xs[0]] (by rw[List.getElem?_map,List.getElem?_eq_getElem hn];rfl)
 refine⟨b,off,e2,hb,p,c,e,h1,h2,h0,fun j r hr=>?_⟩
 obtain⟨b',off',e3,hb',h4⟩:=h3 j r hr;refine⟨b',off',e3,?_,h4⟩;rw[e2]at e3;simp only[Option.some.injEq,Addr.mk.injEq]at e3;exact e3.1.symm
def FW (us:List WV) (b:Nat):Prop:=∃ x ∈ us,∃ o,x.2.2.1=some ⟨b,o,none⟩
def WK (us:List WV) (V:World):Prop:=∀ x ∈ us,IntsR (FW us) x.2.2.1 x.2.2.2 x.2.1 V/\0<x.2.1.length
theorem WK.kept {us:List WV} {V W:World} (h:WK us W) (hV:∀ b,FW us b->V.heap[b]?=W.heap[b]?):WK us V:=fun x hx=>⟨(h x hx).1.kept hV,(h x hx).2⟩
theorem WK.cells {us:List WV} {V:World} (h:WK us V) {b:Nat} (hb:FW us b):∃ o:Obj,V.heap[b]?=some o/\o.isCells=true:=by
 obtain⟨x,hx,o,e⟩:=hb;obtain⟨h1,h2⟩:=h x hx;rw[e]at h1;have:=h1.cell (j:=0) h2;simp only[World.cell?]at this;split at this
 ·rename_i cs _ _ hc;exact⟨_,hc,rfl⟩
 ·cases this
theorem WK.sub {us vs:List WV} {V:World} (h:WK us V) (hs:∀ x ∈ vs,∃ y ∈ us,x.2=y.2):WK vs V:=by
 intro x hx;obtain⟨y,hy,e⟩:=hs x hx;obtain⟨h1,h2⟩:=h y hy;rw[← e]at h1 h2;obtain⟨b,off,e1,_,h3⟩:=h1.narrow h2;exact⟨h3.mono (fun b' hb'=>⟨x,hx,off,by rw[hb',e1]⟩),h2⟩
theorem FW.sub {us vs:List WV} (hs:∀ x ∈ vs,∃ y ∈ us,x.2=y.2) {b:Nat} (h:FW vs b):FW us b:=by
 obtain⟨x,hx,o,e⟩:=h;obtain⟨y,hy,e2⟩:=hs x hx;exact⟨y,hy,o,by rw[← e2];exact e⟩
theorem zLf (B:Nat) (us:List WV):zD1 B (.kn (FW us) (WK us)):=fun V h b hb=>.inr (h.cells hb)
theorem WK.ints {us:List WV} {V:World} (h:WK us V) {x:WV} (hx:x ∈ us):IntsR (FW us) x.2.2.1 x.2.2.2 x.2.1 V:=(h x hx).1
theorem At.of_get {α:Type}:∀ {l:List α} {i:Nat} {r:α},l[i]?=some r->At l i r
 | [],i,r,h=>by simp at h
 | x::l,0,r,h=>by simp at h;subst h;exact .zero
 | x::l,i+1,r,h=>.succ (At.of_get (by simpa using h))
section
variable {M:Nat->Prop} {w0 w w':World} {l:List Res}
theorem HoldG.knTo (H:HoldG M w0 w l) {i:Nat} {F G:Nat->Prop} {S T:World->Prop} (hi:At l i (.kn F S)) (hG:∀ b,G b->F b) (hT:S w->T w) (hk:∀ V,T w->(∀ b,G b->V.heap[b]?=w.heap[b]?)->T V):HoldG M w0 w (l.set i (.kn G T)):=by
 have hA:=H.all i _ hi.get;have hil:i<l.length:=(List.getElem?_eq_some_iff.1 hi.get).1;have hT':=hT (hA.2 w (fun _ _=>rfl))
 refine⟨H.keep,fun k r hr=>?_,fun k m r s hkm hr hs=>?_⟩
 ·rw[List.getElem?_set]at hr;split at hr
  ·simp only[Option.some.injEq]at hr;subst hr;exact⟨fun b hb=>hA.1 b (hG b hb),fun W' hW=>hk W' hT' hW⟩
  ·exact H.all k r hr
 ·rw[List.getElem?_set]at hr hs;split at hr
  ·simp only[Option.some.injEq]at hr;subst hr;intro b hb;cases hb
  ·split at hs
   ·rename_i e;subst e;simp only[Option.some.injEq]at hs;subst hs;intro b hb hf;exact H.apart k i r _ hkm hr hi.get b hb (hG b hf)
   ·exact H.apart k m r s hkm hr hs
end
end
section
open Go.RowKit Go.Shelf
structure ItInv (ps:List InstD) (L:Str) (i:Nat) (e0:Way) (m0:List Int) (ys0:List WV) (ms:Nat) (td ys us:List WV) (marks:List Int) (n:Nat):Prop where
 run:∃ outs,ys.map plW=ys0.map plW++outs/\zAa ps L i (zBv ps) [e0] m0=((zAa ps L i n (td.reverse.map plW) marks).1,outs++(zAa ps L i n (td.reverse.map plW) marks).2)
 fuel:3 * unm i marks+td.length<n
 top:n<=zBv ps
 len:marks.length=ps.length
 todo:∀ x ∈ td,x.1<ps.length/\∃ u ∈ us,x.2=u.2
 got:∀ y ∈ ys,∃ u ∈ us,y.2=u.2
 size:∀ u ∈ us,u.2.1.length=ms
 room:ys.length+unm i marks<=ps.length
namespace ItInv
variable {ps:List InstD} {L:Str} {i:Nat} {e0:Way} {m0:List Int} {ys0:List WV} {ms:Nat} {td ys us:List WV} {marks:List Int} {n:Nat} {e:WV} {x:InstD}
theorem rev (td:List WV) (e:WV):(td++[e]).reverse.map plW=(e.1,e.2.1)::td.reverse.map plW:=by simp[plW]
theorem pos (I:ItInv ps L i e0 m0 ys0 ms (td++[e]) ys us marks n):∃ k,n=k+1:=⟨n - 1,by have:=I.fuel;omega⟩
theorem seen (I:ItInv ps L i e0 m0 ys0 ms (td++[e]) ys us marks n) (h:marks.getD e.1 0=(i:Int)+1):ItInv ps L i e0 m0 ys0 ms td ys us marks (n - 1):=by
 obtain⟨k,rfl⟩:=I.pos;obtain⟨outs,h1,h2⟩:=I.run;have hf:=I.fuel;refine⟨⟨outs,h1,?_⟩,?_,?_,I.len,fun x hx=>I.todo x (List.mem_append_left _ hx),I.got,I.size,I.room⟩
 ·rw[h2,rev];simp only[zAa,h,if_true,Nat.add_sub_cancel]
 ·simp at hf ⊢;omega
 ·have:=I.top;omega
theorem unm1 (I:ItInv ps L i e0 m0 ys0 ms (td++[e]) ys us marks n) (h:marks.getD e.1 0≠(i:Int)+1):unm i (marks.set e.1 ((i:Int)+1))+1=unm i marks :=
 zJO (by rw[I.len];exact(I.todo e (by simp)).1) h
theorem next (I:ItInv ps L i e0 m0 ys0 ms (td++[e]) ys us marks n) (h:marks.getD e.1 0≠(i:Int)+1) {us' td':List WV} (hu:∀ u ∈ us,u ∈ us') (hs:∀ u ∈ us',u.2.1.length=ms) (ht:∀ x ∈ td',x.1<ps.length/\∃ u ∈ us',x.2=u.2) (hl:td'.length<=2)
  (hw:∀ k,zAa ps L i (k+1) ((e.1,e.2.1)::td.reverse.map plW) marks=zAa ps L i k (td'.reverse.map plW++td.reverse.map plW) (marks.set e.1 ((i:Int)+1))):ItInv ps L i e0 m0 ys0 ms (td++td') ys us' (marks.set e.1 ((i:Int)+1)) (n - 1):=by
 obtain⟨k,rfl⟩:=I.pos;obtain⟨outs,h1,h2⟩:=I.run;have hf:=I.fuel;have hun:=I.unm1 h;refine⟨⟨outs,h1,?_⟩,?_,?_,by rw[List.length_set];exact I.len,fun x hx=>?_,fun y hy=>?_,hs,?_⟩
 ·rw[h2,rev,hw];simp
 ·simp at hf ⊢;omega
 ·have:=I.top;omega
 ·rcases List.mem_append.1 hx with hx|hx
  ·obtain⟨h1,u,hu1,h2⟩:=I.todo x (List.mem_append_left _ hx);exact⟨h1,u,hu u hu1,h2⟩
  ·exact ht x hx
 ·obtain⟨u,hu1,h2⟩:=I.got y hy;exact⟨u,hu u hu1,h2⟩
 ·have:=I.room;omega
theorem known (I:ItInv ps L i e0 m0 ys0 ms (td++[e]) ys us marks n):e.1<ps.length/\∃ u ∈ us,e.2=u.2:=I.todo e (by simp)
theorem split (I:ItInv ps L i e0 m0 ys0 ms (td++[e]) ys us marks n) (h:marks.getD e.1 0≠(i:Int)+1) (hx:ps[e.1]?=some x) (hk:x.kind=2) (hn:0<=x.next/\x.next<ps.length) (ho:0<=x.other/\x.other<ps.length) :
  ItInv ps L i e0 m0 ys0 ms (td++[(x.other.toNat,e.2),(x.next.toNat,e.2)]) ys us (marks.set e.1 ((i:Int)+1)) (n - 1):=by
 have hat:=zBZ hx;refine I.next h (fun _ h=>h) I.size (fun y hy=>?_) (by simp) (fun k=>?_)
 ·simp only[List.mem_cons,List.not_mem_nil,or_false]at hy;rcases hy with rfl|rfl
  ·exact⟨by show x.other.toNat<_;omega,I.known.2⟩
  ·exact⟨by show x.next.toNat<_;omega,I.known.2⟩
 ·simp only[zAa,if_neg h,hat,hk,if_true];rfl
theorem save (I:ItInv ps L i e0 m0 ys0 ms (td++[e]) ys us marks n) (h:marks.getD e.1 0≠(i:Int)+1) (hx:ps[e.1]?=some x) (hk:x.kind=3) (hn:0<=x.next/\x.next<ps.length) (q:Option Addr) (c:Nat) :
  ItInv ps L i e0 m0 ys0 ms (td++[(x.next.toNat,e.2.1.set x.slot.toNat i,q,c)]) ys (us++[(x.next.toNat,e.2.1.set x.slot.toNat i,q,c)]) (marks.set e.1 ((i:Int)+1)) (n - 1):=by
 have hat:=zBZ hx;obtain⟨u,hu,he⟩:=I.known.2;refine I.next h (fun _ h=>List.mem_append_left _ h) (fun y hy=>?_) (fun y hy=>?_) (by simp) (fun k=>?_)
 ·rcases List.mem_append.1 hy with hy|hy
  ·exact I.size y hy
  ·rw[List.mem_singleton]at hy;subst hy
   show (e.2.1.set _ _).length=ms
   rw[List.length_set,he];exact I.size u hu
 ·rw[List.mem_singleton]at hy;subst hy;exact⟨by show x.next.toNat<_;omega,_,List.mem_append_right _ (List.mem_singleton.2 rfl),rfl⟩
 ·simp only[zAa,if_neg h,hat,hk,if_true];rfl
theorem spotT (I:ItInv ps L i e0 m0 ys0 ms (td++[e]) ys us marks n) (h:marks.getD e.1 0≠(i:Int)+1) (hx:ps[e.1]?=some x) (hk:x.kind=4) (hn:0<=x.next/\x.next<ps.length) (hs:zBz x.spot L i=true) :
  ItInv ps L i e0 m0 ys0 ms (td++[(x.next.toNat,e.2)]) ys us (marks.set e.1 ((i:Int)+1)) (n - 1):=by
 have hat:=zBZ hx;refine I.next h (fun _ h=>h) I.size (fun y hy=>?_) (by simp) (fun k=>?_)
 ·rw[List.mem_singleton]at hy;subst hy;exact⟨by show x.next.toNat<_;omega,I.known.2⟩
 ·simp only[zAa,if_neg h,hat,hk,hs,if_true];rfl
theorem spotF (I:ItInv ps L i e0 m0 ys0 ms (td++[e]) ys us marks n) (h:marks.getD e.1 0≠(i:Int)+1) (hx:ps[e.1]?=some x) (hk:x.kind=4) (hs:zBz x.spot L i=false) :
  ItInv ps L i e0 m0 ys0 ms td ys us (marks.set e.1 ((i:Int)+1)) (n - 1):=by
 have hat:=zBZ hx
 have:=I.next (td':=[]) h (fun _ h=>h) I.size (fun y hy=>by simp at hy) (by simp) (fun k=>by
  simp only[zAa,if_neg h,hat,hk,hs,if_true]
  rfl)
 simpa using this
theorem out (I:ItInv ps L i e0 m0 ys0 ms (td++[e]) ys us marks n) (h:marks.getD e.1 0≠(i:Int)+1) (hx:ps[e.1]?=some x) (hk:x.kind=1\/x.kind=5) :
  ItInv ps L i e0 m0 ys0 ms td (ys++[e]) us (marks.set e.1 ((i:Int)+1)) (n - 1):=by
 have hat:=zBZ hx;obtain⟨k,rfl⟩:=I.pos;obtain⟨outs,h1,h2⟩:=I.run;have hf:=I.fuel;have hun:=I.unm1 h;refine⟨⟨outs++[plW e],by rw[List.map_append,h1];simp,?_⟩,?_,?_,by rw[List.length_set];exact I.len,fun x hx=>I.todo x (List.mem_append_left _ hx),fun y hy=>?_,I.size,?_⟩
 ·rw[h2,rev];have e2:¬ x.kind=2:=by omega
  have e3:¬ x.kind=3:=by omega
  have e4:¬ x.kind=4:=by omega
  simp only[zAa,if_neg h,hat,if_neg e2,if_neg e3,if_neg e4,if_pos hk,Nat.add_sub_cancel,List.append_assoc,List.cons_append,List.nil_append];rfl
 ·simp at hf ⊢;omega
 ·have:=I.top;omega
 ·rcases List.mem_append.1 hy with hy|hy
  ·exact I.got y hy
  ·rw[List.mem_singleton]at hy;subst hy;exact I.known.2
 ·have:=I.room;simp;omega
theorem done (I:ItInv ps L i e0 m0 ys0 ms [] ys us marks n):marks=(zAa ps L i (zBv ps) [e0] m0).1/\ys.map plW=ys0.map plW++(zAa ps L i (zBv ps) [e0] m0).2:=by
 obtain⟨outs,h1,h2⟩:=I.run;have e1:zAa ps L i n (([]:List WV).reverse.map plW) marks=(marks,[]):=by cases n<;>rfl
 rw[e1,List.append_nil]at h2;rw[h2];exact⟨rfl,h1⟩
end ItInv
end
section
open Go.RowKit
def zE8 (l:List Oper):Bool:=l.all (fun o=>match o.op with|.defer _=>false|_=>true)
theorem zFE {k l:Nat} {P:Program} {o:Oper} {a:Act} {w:World} {K:Act->World->Prop} {Q:Exit->Act->World->Prop} (hd:∀ c,o.op≠.defer c) (h:o.wp P a w K Q):o.wpIn (Fence.wide.inRound l) k P a w K Q:=by
 unfold Oper.wp at h;refine⟨fun _ _=>trivial,?_⟩
 rw[show o.semAt (Fence.wide.inRound l).round a.eval=execOp a.eval o from Oper.semAt_some l a.eval o hd]
 generalize (execOp a.eval o).run P w=r at *
 cases r with
 | ok x w' =>
  cases x<;>simp only[Oper.upon,Oper.uponIn]at h ⊢ <;>
   first
    | exact h
    | exact⟨fun h=>by simp[Fence.wide,Fence.inRound]at h,CallsIn.inRound l (callsIn_wide.2 h)⟩
    | exact⟨fun h=>by simp[Fence.wide,Fence.inRound]at h,zD0 (m:=k - 1) h⟩
    | exact h.elim
 | halt x w'=>cases x<;>simp only[Oper.upon,Oper.uponIn]at h ⊢<;>first|exact h|exact h.elim
theorem zAs {k l:Nat} {P:Program} {ops:Array Oper} {Q:Exit->Act->World->Prop} (hQ:¬ LetsOut Q):∀ (r:List Oper) (a:Act) (w:World),zE8 r=true->wpList P ops Q r a w->wpListIn (Fence.wide.inRound l) k P ops Q r a w
 | [],_,_,_,h=>h
 | o::r,a,w,hc,h=>by
  simp only[zE8,List.all_cons,Bool.and_eq_true]at hc;have ih:=zAs (k:=k) (l:=l) (P:=P) (ops:=ops) (Q:=Q) hQ r;unfold wpList at h;unfold wpListIn;split at h
  ·rename_i hw;rw[if_pos hw];exact zFE (fun c e=>by rw[e]at hc;simp at hc) (Oper.wp_mono (fun a' w' h'=>ih a' w' (by simpa [zE8] using hc.2) h') (h.resolve_right (fun h=>hQ h.2)))
  ·rename_i hw;rw[if_neg hw];exact⟨fun _ _=>trivial,ih _ _ (by simpa [zE8] using hc.2) h⟩
end
end Go.Proofs.YtphjgfjbiimkjaaGreat
