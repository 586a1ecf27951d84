/-
  Laws of walks, and walks.
-/
import Derived.Test.YtalggmbdpmdcbaaGreatPf14
import Derived.Test.YtalggmbdpmdcbaaGreatPf9
import Derived.Test.YtalggmbdpmdcbaaGreatPf7
import Derived.Test.YtalggmbdpmdcbaaGreatPf6
set_option linter.unusedVariables false
set_option linter.unusedSimpArgs false
set_option maxRecDepth 100000
set_option maxHeartbeats 16000000
namespace Go.Proofs.YtalggmbdpmdcbaaGreat
section
open Go.RowKit Go.Shelf
attribute [local go_sem] Oper.semAt_some
theorem HoldG.gainRowZ {M:Nat->Prop} {w0 w w':World} {l:List Res} (H:HoldG M w0 w l) (hb:Below w.heap.size w w') {e:TypeId} {sz n:Nat} {v:Value} {xs:List Value} (ho:w'.ownsRow w.heap.size e sz v n xs):HoldG M w0 w' (l++[.row v e sz n xs]):=by
 have H':=H.call hb;have hlt:=fun b (hv:v.ownBlock=some b)=>World.ownsRow.lt ho b hv
 refine⟨H'.keep,?_,?_⟩
 ·intro j s hs;rw[List.getElem?_append]at hs;split at hs
  ·exact H'.all j s hs
  ·rcases List.getElem?_eq_some_iff.1 hs with ⟨h3,h4⟩
   simp at h3;simp[h3]at h4;subst h4;obtain⟨hl,h'|⟨g,cap,cur,hv,hg,r⟩⟩:=ho
   ·exact⟨hl,.inl h'⟩
   ·exact⟨hl,.inr ⟨g,cap,cur,hv,Nat.le_trans H.keep.size hg,r⟩⟩
 ·intro j k s t hjk hs ht;rw[List.getElem?_append]at hs ht;split at hs
  ·split at ht
   ·exact H.apart j k s t hjk hs ht
   ·rcases List.getElem?_eq_some_iff.1 ht with ⟨h3,h4⟩
    simp at h3;simp[h3]at h4;subst h4;intro z hz1 hz2;have h1:=((H.all j s hs).lt z hz1).2;have:=(hlt z hz2).1;omega
  ·rcases List.getElem?_eq_some_iff.1 hs with ⟨h3,h4⟩
   simp at h3;simp[h3]at h4;subst h4;split at ht
   ·intro z hz1 hz2;have h1:=(H.all k t ht).ltf z hz2;have:=(hlt z hz1).1;omega
   ·rcases List.getElem?_eq_some_iff.1 ht with ⟨h5,h6⟩
    simp at h5;omega
theorem chOZ {M:Nat->Prop} {P:Program} {f:FuncId} {args:Array Value} {w w0:World} {l:List Res} {xs:List TV} {N:Nat} {R:Ending->World->Prop} (hN:xs.length=N) (c:Calls P f args w (OwnZ w xs)) (H:HoldG M w0 w l)
  (k:∀ q n w',HoldG M w0 w' (l++[.row (.slice q N n) 96 11 N (zAG (xs.map sizX))])->R (.returned (.slice q N n)) w'):Calls P f args w R:=by
 subst hN;exact c.mono fun _ w' ⟨q,n,e,ho,hb⟩=>by subst e;exact k q n w' (H.gainRowZ hb ho)
theorem zDG {P:Program} {ev:Operand->Value} {w:World} {o:Oper} {x y:Operand} {ts:Array TypeId} {i j v:Int} (hv:max i j=v) (hop:o.op=Op.call {callee:=.builtin .max,args:=#[x,y],argTypes:=ts}) (hx:ev x=.int .i64 i) (hy:ev y=.int .i64 j) :
  (execOp ev o).run P w=.ok (.value (.int .i64 v)) w:=by
 subst hv;exact zEk hop hx hy
theorem zJv {d:NodeD} {l:List Tree} {t:Tree} (h:zCq d l=some t):zAB t<=4000:=by
 unfold zCq at h;split at h
 ·cases h;simpa [zAB] using ‹_›
 ·cases h
theorem zJ8 {lo:Nat} {p q2:Option Addr} {c m2:Nat} {x:TV} {a:Tree} {F F1:Nat->Prop} {w:World} (h:SKnows F p 1 c [x] w) (h1:ForestR w F1 q2 m2 a.kids):ListR w (fun b=>F b\/F1 b) (List.replicate lo x++[(a,q2,m2)]):=fun y hy=>by
 rcases List.mem_append.1 hy with hy|hy
 ·obtain rfl:=List.eq_of_mem_replicate hy;exact(h.2 y (List.mem_singleton.2 rfl)).mono (fun _ h=>.inl h)
 ·obtain rfl:=List.mem_singleton.1 hy;exact h1.mono (fun _ h=>.inr h)
theorem zIt {n:NodeD} {k:Tree}:∀ {m:Nat} {r:List Tree},zEW n k m=some r->r.length<=1/\zAF r<=4000
 | 0,r,h=>by cases h;exact⟨by simp,by simp[zAF]⟩
 | m+1,r,h=>by
  simp only[zEW]at h;split at h
  ·cases h
  ·split at h
   ·cases h
   ·split at h
    ·cases h
    ·rename_i a ha
     cases h
     refine⟨by simp,?_⟩
     rw[zAx];exact zJv ha
theorem zG2 {n:NodeD} {k:Tree} {j:Nat} (h:zEW n k j=none):∀ i,zEW n k (j+i)=none
 | 0=>h
 | i+1=>by rw[← Nat.add_assoc];simp only[zEW,zG2 h i]
theorem zCn (x:TV) (rs:List TV):(sizC x.1.d (.slice x.2.1 x.1.kids.length x.2.2) (zAB x.1)).toList++zAG (rs.map sizX)=zAG ((x::rs).map sizX):=by simp[zAG]
theorem zCc (xs:List TV):∀ u ∈ zAG (xs.map sizX),u.oneCell'=true:=by
 intro u hu;simp only[zAG,List.map_map,List.mem_flatten,List.mem_map]at hu;obtain⟨l,⟨x,_,rfl⟩,hu⟩:=hu;have:(sizX x).toList.all (·.oneCell')=true:=rfl;exact List.all_eq_true.1 this u hu
theorem zDN {p q:Option Addr} {c m n:Nat} {x:TV} {rs:List TV} {F F1:Nat->Prop} {w:World} (h:SKnows F p 1 c [x] w) (h1:SKnows F1 q n m rs w):ListR w (fun b=>F b\/F1 b) (x::rs):=fun y hy=>by
 rcases List.mem_cons.1 hy with rfl|hy
 ·exact(h.2 y (List.mem_singleton.2 rfl)).mono (fun _ h=>.inl h)
 ·exact(h1.2 y hy).mono (fun _ h=>.inr h)
theorem zIc {lo:Nat} {p q:Option Addr} {c m n:Nat} {x:TV} {rs:List TV} {F F1:Nat->Prop} {w:World} (h:SKnows F p 1 c [x] w) (h1:SKnows F1 q n m rs w):ListR w (fun b=>F b\/F1 b) (List.replicate lo x++rs):=fun y hy=>by
 rcases List.mem_append.1 hy with hy|hy
 ·obtain rfl:=List.eq_of_mem_replicate hy;exact(h.2 y (List.mem_singleton.2 rfl)).mono (fun _ h=>.inl h)
 ·exact(h1.2 y hy).mono (fun _ h=>.inr h)
theorem HoldG.blkRowH {w0 w:World} {l:List Res} (H:Hold w0 w l) {i b sz:Nat} {cs:Array Value} {T:TypeId} (hi:At l i (.blk b cs T)) (hs:cs.size=sz):Hold w0 w (l.set i (.row (.slice (some ⟨b,0,none⟩) 1 1) T sz 1 cs.toList)) :=
 H.blkRow hi ((H.blk hi).1.resolve_right id) hs
theorem zIT (n:Nat) (m:Int) (h:n<=2000) (h1:0<=m) (h2:m<=100):wrap64 ((n:Int) * m)=n * m:=by
 have h3:(0:Int)<=(n:Int) * m:=Int.mul_nonneg (by omega) h1
 have h4:(n:Int) * m<=2000 * 100:=Int.mul_le_mul (by omega) h2 h1 (by decide)
 unfold wrap64;omega
theorem zGW (k:Tree):∀ n,zAF (List.replicate n k)=n * zAB k
 | 0=>by simp[zAF]
 | n+1=>by rw[List.replicate_succ,zAF,zGW k n,Nat.succ_mul,Nat.add_comm]
theorem zIz (rv:Value) (d:NodeD) (p0:Option Addr) (n0 c0:Nat) (p:Option Addr) (c:Nat) (x:TV) (F:Nat->Prop) (w0:World) (hlo:0<=d.lo/\d.lo<=100) (hhi:d.hi = -1\/d.lo<=d.hi/\d.hi<=100) (hF:∀ b,F b->b<w0.heap.size) (h:SKnows F p 1 c [x] w0) (hsz:zAB x.1<=2000) (hA:¬ (d.hi=0\/x.1.d.kind=1\/x.1.d.kind=2/\d.lo=0)) (a3:x.1.d.kind≠2) (hbig:¬ (4000:Int)<(zAB x.1:Int) * max d.lo d.hi) (hn:¬ d.hi<0) :
  Calls Tryz.prog 39 #[rv,zAV d (.slice p0 n0 c0),.slice p 1 c] w0 fun e w'=>SizOut w0 F (zBU d x.1) e w'/\Below w0.heap.size w0 w':=by
 have H:=Hold.sknows hF h;obtain⟨i0,hi0,hz0,hz1,hz2⟩:=info_parts zDL;have hc1:=h.bound.2.1;have hc2:=h.bound.2.2;obtain⟨b,off,rfl⟩:=h.at (by simp)
 clear h;have his:=fun w k=>zL8 x.1.d (.slice x.2.1 x.1.kids.length x.2.2) (zAB x.1) k w
 have hcell:∀ V,SKnows F (some ⟨b,off,none⟩) 1 c [x] V->∀ k,k<11->V.cell? ⟨b,off+k,none⟩=(sizX x)[k]?:=fun V h=>h.cells (j:=0) rfl (by omega)
 have E:zBU d x.1=zBU d x.1:=rfl
 conv at E=>rhs;unfold zBU
 rw[if_neg hA]at E;have d1:(d.hi == 0)=false:=by rw[beq_eq_false_iff_ne];exact fun e=>hA (.inl e)
 have d2:(x.1.d.kind == 1)=false:=by rw[beq_eq_false_iff_ne];exact fun e=>hA (.inr (.inl e))
 rw[if_neg a3]at E;have d3:(x.1.d.kind == 2)=false:=by rw[beq_eq_false_iff_ne];exact a3
 clear hA;have hyes:=fun w=>zBt w
 have hno:=fun w=>zCP w
 obtain⟨lo,hl⟩:∃ lo:Nat,d.lo=lo:=⟨d.lo.toNat,by omega⟩
 have hlo2:lo<=100:=by omega
 have hrp:=fun w (h1:∀ b,F b->b<w.heap.size) (h2:SKnows F (some ⟨b,off,none⟩) 1 c [x] w)=>show Calls Tryz.prog 95 #[.slice (some ⟨b,off,none⟩) 1 c,.int .i64 d.lo] w (OwnZ w (List.replicate lo x)) from (by rw[hl];exact zGn (some ⟨b,off,none⟩) c x lo F w (by omega) h1 h2)
 obtain⟨mx,hmx⟩:∃ mx,max d.lo d.hi=mx:=⟨_,rfl⟩;rw[hmx]at E;have hwm:wrap64 ((zAB x.1:Int) * mx)=(zAB x.1:Int) * mx:=zIT _ _ hsz (by omega) (by omega)
 have HMX:=Lib.hid hmx;clear hmx;rw[if_neg (by rw[← HMX.out];exact hbig)]at E
 have hdm:decide (wrap64 ((zAB x.1:Int) * mx)<=4000)=true:=by rw[hwm];exact decide_eq_true (by rw[← HMX.out];omega)
 have HDM:=Lib.hid hdm;have HL:=Lib.hid hl;clear hwm hdm hl a3;have hrl:(List.replicate lo x).length=lo:=List.length_replicate ..;have hRL:=Lib.hid hrl;have hsl:zAF ((List.replicate lo x).map (·.1))<=200000:=by
  rw[List.map_replicate,zGW];have:=Nat.mul_le_mul hlo2 hsz;omega
 have HSL:=Lib.hid hsl;clear hsl hrl;have dn:decide (d.hi<0)=false:=by simp;omega
 rw[if_neg hn]at E;obtain⟨m,hm⟩:∃ m:Nat,d.hi - d.lo=m:=⟨(d.hi - d.lo).toNat,by omega⟩
 have hm2:m<=100:=by omega
 rw[hm,Int.toNat_natCast,HL.out,Int.toNat_natCast]at E;have EE:=Lib.hid E;clear E;have HM:=Lib.hid hm;clear hn
 go_enter Tryz.func39,Tryz.ntmps39
 go_upto_region 13 with (first|((with_reducible refine gLz ?_);refine zAO wtd_ _ _ rfl rfl zAm (zA4 x) (hcell _ (H.kn (i:=0) .zero)) ?_)|((with_reducible refine kg 4 ?_);(first|refine kA 4 H ?_|refine kS 4 H ?_|refine kB 4 H ?_);clear H;intro b4 w H;try simp only[nr]at H)|((with_reducible refine kg 6 ?_);(first|refine kA 6 H ?_|refine kS 6 H ?_|refine kB 6 H ?_);clear H;intro b6 w H;try simp only[nr]at H)|((with_reducible refine kg 7 ?_);(first|refine kA 7 H ?_|refine kS 7 H ?_|refine kB 7 H ?_);clear H;intro b7 w H;try simp only[nr]at H)|(first|((with_reducible refine gTz ?_);refine aTz H ?_;clear H;intro w H;try simp only[nr]at H)|((with_reducible refine gLz ?_);refine aLz H ?_)|((with_reducible refine gL ?_);refine aGz H ?_)|((with_reducible refine gL ?_);refine aG H ?_))|((with_reducible refine ch (his _ _) H ?_);clear H;intro w H)|((with_reducible show @wpList _ _ _ ({dst:=_,op:=Op.call {callee:=.builtin .max,args:=_,argTypes:=_},type:=_,pos:=_,after:=_,guard:=_}::_) _ _);refine zAK rfl (zDG HMX.out rfl rfl rfl) ?_)|(go_at_call 94;rw[HDM.out];refine ch (hyes _) H ?_;clear H;intro w H)|(go_at_call 95;refine chOZ hRL.out (hrp _ (H.knlt .zero) (H.kn .zero)) H ?_;clear H;intro qa ma w H;simp only[ca]at H))
 replace H:=H.know (fun _=>False) (SKnows (fun _=>False) none 0 0 []) (fun _ h=>h.elim) (fun _ _ _ _ _ h=>h) (fun V _=>SKnows.nil V _)
 simp only[List.nil_append,List.cons_append]at H
 go_wp2_with (first|((with_reducible refine gLz ?_);refine zAO wtd_ _ _ rfl rfl zAm (zA4 x) (hcell _ (H.kn (i:=0) .zero)) ?_)|((with_reducible refine kg 4 ?_);(first|refine kA 4 H ?_|refine kS 4 H ?_|refine kB 4 H ?_);clear H;intro b4 w H;try simp only[nr]at H)|((with_reducible refine kg 6 ?_);(first|refine kA 6 H ?_|refine kS 6 H ?_|refine kB 6 H ?_);clear H;intro b6 w H;try simp only[nr]at H)|((with_reducible refine kg 7 ?_);(first|refine kA 7 H ?_|refine kS 7 H ?_|refine kB 7 H ?_);clear H;intro b7 w H;try simp only[nr]at H)|((with_reducible refine gL ?_);refine aG H ?_)|((with_reducible refine ch (his _ _) H ?_);clear H;intro w H)|((with_reducible show @wpList _ _ _ ({dst:=_,op:=Op.call {callee:=.builtin .max,args:=_,argTypes:=_},type:=_,pos:=_,after:=_,guard:=_}::_) _ _);refine zAK rfl (zDG HMX.out rfl rfl rfl) ?_)|(go_at_call 94;rw[HDM.out];refine ch (hyes _) H ?_;clear H;intro w H)|(go_at_call 95;refine chOZ hRL.out (hrp _ (H.knlt .zero) (H.kn .zero)) H ?_;clear H;intro qa ma w H;simp only[ca]at H))
 go_loopw [9,60] (fun rw_ ix wr=>∃ (j:Nat) (q1:Option Addr) (c1:Nat) (rs:List TV) (F1:Nat->Prop),j<=m/\rw_=.slice q1 rs.length c1/\ix=.int .i64 j/\Hid (zEW d x.1 j=some (rs.map (·.1)))/\(∀ b,F1 b->w0.heap.size<=b\/F b)/\Hold w0 wr [.kn F (SKnows F (some ⟨b,off,none⟩) 1 c [x]),.blk b4 (zAR d (.slice p0 n0 c0)) 28,.blk b6 (zBx Tryz.prog 96) 96,.blk b7 (sizC x.1.d (.slice x.2.1 x.1.kids.length x.2.2) (zAB x.1)) 96,.row (.slice qa lo ma) 96 11 lo (zAG ((List.replicate lo x).map sizX)),.kn F1 (SKnows F1 q1 rs.length c1 rs)]) (fun _ ix _=>m+1 - (intOf ix).toNat)
 case atStart=>exact⟨0,none,0,[],fun _=>False,by omega,rfl,rfl,Lib.hid rfl,fun _ h=>h.elim,H⟩
 case round =>
  clear H;obtain⟨j,q1,c1,rs,F1,hj,rfl,rfl,ER,hF1,H⟩:=hrel;have hsm:=zIt ER.out;have hrl1:rs.length<=1:=by have:=hsm.1;rwa [List.length_map]at this
  by_cases hlt:j<m
  ·have dj:decide ((j:Int)<d.hi - d.lo)=true:=by have:=HM.out;simp;omega
   have dj2:decide ((j:Int)<(m:Int))=true:=by simp;omega
   have hca:∀ (w:World) q n G,(∀ b,G b->b<w.heap.size)->SKnows G q (1+rs.length) n (x::rs) w->Calls Tryz.prog 88 #[.slice q (1+rs.length) n] w fun e w'=>SizOut w G (catQ (x.1::rs.map (·.1))) e w'/\Below w.heap.size w w':=fun w q n G h1 h2=>by
    have e1:(x::rs).length=1+rs.length:=by rw[List.length_cons];omega
    have:=zJx q n (x::rs) G w h1 (by rw[e1];exact h2) (by
     have:=hsm.2;simp only[List.map_cons,zAF]
     omega)
    rwa [e1]at this
   have hstep:∀ o,(match catQ (x.1::rs.map (·.1)) with|none=>none|some c=>match zEO d 1 c with|none=>none|some a=>some [a])=o->zEW d x.1 (j+1)=o:=fun o h=>by simp only[zEW,ER.out];exact h
   have hout:zEW d x.1 (j+1)=none->zBU d x.1=none:=fun h=>by
    rw[EE.out];have:=zG2 h (m - (j+1));rw[show j+1+(m - (j+1))=m by omega]at this
    rw[this]
   cases hq:catQ (x.1::rs.map (·.1)) with
   | none =>
    rw[hq]at hca hstep;have HO:=Lib.hid (hout (hstep none rfl));clear hq hstep hout
    go_upto_region 15 with (first|fail)
    refine zDi (n:=9) H (by kernel_rfl) rfl ?_
    clear H;intro W H;refine zD0 (fuel:=8) 0 1 3 (by decide +kernel) rfl rfl rfl rfl rfl rfl ?_ ?_ ?_
    iterate 5
     all_goals
      intro KK hK;simp only[List.getElem_toArray,List.getElem_cons_succ,List.getElem_cons_zero]
      go_wp2_with (first|(((with_reducible refine gBS ?_);refine zAY wtd_ _ _ _ rfl H (sizC (x.1.d) (.slice x.2.1 x.1.kids.length x.2.2) (zAB x.1)) 96 (by intro W;simp only[ml];(try simp only[pe]);exact zBj _ _ _ W) ?_;clear H;intro bk w H;try simp only[nr]at H);(have H2:=H.blkRowH (sz:=11) (i:=6) i_6 rfl);clear H;(have H:=H2);clear H2;simp only[sc]at H)|(at_builtin;refine zBC rfl _ _ 156 rfl H (i:=6) evd_ evd_ i_6 (H.kn (i:=5) i_5).1 (zB2 _) Tryz.underlying156 hi0 hz0 hz1 hz2 rfl (by decide) (zCc _) (by unfold maxLen;omega) (by omega) ?_;clear H;intro v2 w H;(try simp only[nr]at H);(obtain⟨q3,c3,rfl,_,_,_⟩:=H.rowShape (i:=6) i_6);(rw[zCn x rs]at H);(obtain⟨G,hG,H2⟩:=H.rowSized (i:=6) (xs:=x::rs) (K:=fun b=>F b\/F1 b) i_6 (by simp;omega) ((Still.at (i:=0) .zero).or (Still.at (i:=5) i_5)) (zDN (H.kn (i:=0) .zero) (H.kn (i:=5) i_5)));clear H;(have H:=H2);clear H2;simp only[sc]at H)|(go_at_call 88;refine zCI (hca _ _ _ _ (H.knlt (i:=6) i_6) (H.kn (i:=6) i_6)) H ?_;clear H;intro w H)|((with_reducible refine gLz ?_);refine aLz H ?_)|((with_reducible refine gLn ?_);refine aD H ?_))
      first|(refine hK.out.1 _ _ ?_;first|((with_reducible show wpAny _ _ _ _ 8 _ _ _);first|refine zAw (fuel:=7) 1 3 (by decide +kernel) rfl rfl rfl rfl ?_ ?_|refine zD0 (fuel:=7) 0 2 3 (by decide +kernel) rfl rfl rfl rfl rfl rfl ?_ ?_ ?_|refine zAw (fuel:=7) 0 1 (by decide +kernel) rfl rfl rfl rfl ?_ ?_)|((with_reducible show wpAny _ _ _ _ 7 _ _ _);first|refine zAw (fuel:=6) 2 3 (by decide +kernel) rfl rfl rfl rfl ?_ ?_|refine zAf (fuel:=6) 1 (by decide +kernel) rfl rfl ?_|refine zAw (fuel:=6) 0 3 (by decide +kernel) rfl rfl rfl rfl ?_ ?_|refine zAw (fuel:=6) 0 2 (by decide +kernel) rfl rfl rfl rfl ?_ ?_)|((with_reducible show wpAny _ _ _ _ 6 _ _ _);first|refine zAf (fuel:=5) 3 (by decide +kernel) rfl rfl ?_|refine zAf (fuel:=5) 2 (by decide +kernel) rfl rfl ?_|refine zAw (fuel:=5) 0 4 (by decide +kernel) rfl rfl rfl rfl ?_ ?_)|((with_reducible show wpAny _ _ _ _ 5 _ _ _);first|refine zAf (fuel:=4) 4 (by decide +kernel) rfl rfl ?_|refine zAw (fuel:=4) 0 5 (by decide +kernel) rfl rfl rfl rfl ?_ ?_)|((with_reducible show wpAny _ _ _ _ 4 _ _ _);refine zAf (fuel:=3) 5 (by decide +kernel) rfl rfl ?_))|(refine hK.out.2 _ _ _ ?_;exact⟨rfl,by rw[HO.out];rfl,H.below⟩)
    all_goals
     intro KK hK;simp only[List.getElem_toArray,List.getElem_cons_succ,List.getElem_cons_zero]
     go_wp2_with (first|(((with_reducible refine gBS ?_);refine zAY wtd_ _ _ _ rfl H (sizC (x.1.d) (.slice x.2.1 x.1.kids.length x.2.2) (zAB x.1)) 96 (by intro W;simp only[ml];(try simp only[pe]);exact zBj _ _ _ W) ?_;clear H;intro bk w H;try simp only[nr]at H);(have H2:=H.blkRowH (sz:=11) (i:=6) i_6 rfl);clear H;(have H:=H2);clear H2;simp only[sc]at H)|(at_builtin;refine zBC rfl _ _ 156 rfl H (i:=6) evd_ evd_ i_6 (H.kn (i:=5) i_5).1 (zB2 _) Tryz.underlying156 hi0 hz0 hz1 hz2 rfl (by decide) (zCc _) (by unfold maxLen;omega) (by omega) ?_;clear H;intro v2 w H;(try simp only[nr]at H);(obtain⟨q3,c3,rfl,_,_,_⟩:=H.rowShape (i:=6) i_6);(rw[zCn x rs]at H);(obtain⟨G,hG,H2⟩:=H.rowSized (i:=6) (xs:=x::rs) (K:=fun b=>F b\/F1 b) i_6 (by simp;omega) ((Still.at (i:=0) .zero).or (Still.at (i:=5) i_5)) (zDN (H.kn (i:=0) .zero) (H.kn (i:=5) i_5)));clear H;(have H:=H2);clear H2;simp only[sc]at H)|(go_at_call 88;refine zCI (hca _ _ _ _ (H.knlt (i:=6) i_6) (H.kn (i:=6) i_6)) H ?_;clear H;intro w H)|((with_reducible refine gLz ?_);refine aLz H ?_)|((with_reducible refine gLn ?_);refine aD H ?_))
     first|(refine hK.out.1 _ _ ?_)|(refine hK.out.2 _ _ _ ?_;exact⟨rfl,by rw[HO.out];rfl,H.below⟩)
   | some cc =>
    rw[hq]at hca hstep;have hcs:zAB cc<=1000000:=by
     have h1:=zE6 hq;have h2:=zMs (x.1::rs.map (·.1));have:=hsm.2;simp only[zAF]at h2;rw[h1]at h2;omega
    have hag:∀ (w:World) q n G,(∀ b,G b->b<w.heap.size)->ForestR w G q n cc.kids->Calls Tryz.prog 96 #[zAV d (.slice p0 n0 c0),.int .i64 1,sizV cc.d (.slice q cc.kids.length n) (zAB cc)] w fun e w'=>SizOut w G (zEO d 1 cc) e w'/\Below w.heap.size w w':=fun w q n G h1 h2=>zJk d p0 n0 c0 1 cc q n G w h1 h2 (by omega)
    cases ha:zEO d 1 cc with
    | none =>
     rw[ha]at hag;simp only[ha]at hstep;have HO:=Lib.hid (hout (hstep none rfl));clear hq hstep hout ha
     go_upto_region 15 with (first|fail)
     refine zDi (n:=9) H (by kernel_rfl) rfl ?_
     clear H;intro W H;refine zD0 (fuel:=8) 0 1 3 (by decide +kernel) rfl rfl rfl rfl rfl rfl ?_ ?_ ?_
     iterate 6
      all_goals
       intro KK hK;simp only[List.getElem_toArray,List.getElem_cons_succ,List.getElem_cons_zero]
       go_wp2_with (first|(((with_reducible refine gBS ?_);refine zAY wtd_ _ _ _ rfl H (sizC (x.1.d) (.slice x.2.1 x.1.kids.length x.2.2) (zAB x.1)) 96 (by intro W;simp only[ml];(try simp only[pe]);exact zBj _ _ _ W) ?_;clear H;intro bk w H;try simp only[nr]at H);(have H2:=H.blkRowH (sz:=11) (i:=6) i_6 rfl);clear H;(have H:=H2);clear H2;simp only[sc]at H)|(at_builtin;refine zBC rfl _ _ 156 rfl H (i:=6) evd_ evd_ i_6 (H.kn (i:=5) i_5).1 (zB2 _) Tryz.underlying156 hi0 hz0 hz1 hz2 rfl (by decide) (zCc _) (by unfold maxLen;omega) (by omega) ?_;clear H;intro v2 w H;(try simp only[nr]at H);(obtain⟨q3,c3,rfl,_,_,_⟩:=H.rowShape (i:=6) i_6);(rw[zCn x rs]at H);(obtain⟨G,hG,H2⟩:=H.rowSized (i:=6) (xs:=x::rs) (K:=fun b=>F b\/F1 b) i_6 (by simp;omega) ((Still.at (i:=0) .zero).or (Still.at (i:=5) i_5)) (zDN (H.kn (i:=0) .zero) (H.kn (i:=5) i_5)));clear H;(have H:=H2);clear H2;simp only[sc]at H)|(go_at_call 88;refine chz (hca _ _ _ _ (H.knlt (i:=6) i_6) (H.kn (i:=6) i_6)) H (Still.at (i:=6) i_6) ?_;clear H;intro q4 m4 F4 w hF4 H;simp only[ca]at H)|(go_at_call 96;refine zCI (hag _ _ _ _ (H.knlt (i:=7) i_7) (H.kn (i:=7) i_7)) H ?_;clear H;intro w H)|((with_reducible refine gLz ?_);refine aLz H ?_)|((with_reducible refine gLn ?_);refine aD H ?_))
       first|(refine hK.out.1 _ _ ?_;first|((with_reducible show wpAny _ _ _ _ 8 _ _ _);first|refine zAw (fuel:=7) 1 3 (by decide +kernel) rfl rfl rfl rfl ?_ ?_|refine zD0 (fuel:=7) 0 2 3 (by decide +kernel) rfl rfl rfl rfl rfl rfl ?_ ?_ ?_|refine zAw (fuel:=7) 0 1 (by decide +kernel) rfl rfl rfl rfl ?_ ?_)|((with_reducible show wpAny _ _ _ _ 7 _ _ _);first|refine zAw (fuel:=6) 2 3 (by decide +kernel) rfl rfl rfl rfl ?_ ?_|refine zAf (fuel:=6) 1 (by decide +kernel) rfl rfl ?_|refine zAw (fuel:=6) 0 3 (by decide +kernel) rfl rfl rfl rfl ?_ ?_|refine zAw (fuel:=6) 0 2 (by decide +kernel) rfl rfl rfl rfl ?_ ?_)|((with_reducible show wpAny _ _ _ _ 6 _ _ _);first|refine zAf (fuel:=5) 3 (by decide +kernel) rfl rfl ?_|refine zAf (fuel:=5) 2 (by decide +kernel) rfl rfl ?_|refine zAw (fuel:=5) 0 4 (by decide +kernel) rfl rfl rfl rfl ?_ ?_)|((with_reducible show wpAny _ _ _ _ 5 _ _ _);first|refine zAf (fuel:=4) 4 (by decide +kernel) rfl rfl ?_|refine zAw (fuel:=4) 0 5 (by decide +kernel) rfl rfl rfl rfl ?_ ?_)|((with_reducible show wpAny _ _ _ _ 4 _ _ _);first|refine zAf (fuel:=3) 5 (by decide +kernel) rfl rfl ?_|refine zAf (fuel:=3) 0 (by decide +kernel) rfl rfl ?_)|((with_reducible show wpAny _ _ _ _ 3 _ _ _);refine zAf (fuel:=2) 6 (by decide +kernel) rfl rfl ?_))|(refine hK.out.2 _ _ _ ?_;exact⟨rfl,by rw[HO.out];rfl,H.below⟩)
     all_goals
      intro KK hK;simp only[List.getElem_toArray,List.getElem_cons_succ,List.getElem_cons_zero]
      go_wp2_with (first|(((with_reducible refine gBS ?_);refine zAY wtd_ _ _ _ rfl H (sizC (x.1.d) (.slice x.2.1 x.1.kids.length x.2.2) (zAB x.1)) 96 (by intro W;simp only[ml];(try simp only[pe]);exact zBj _ _ _ W) ?_;clear H;intro bk w H;try simp only[nr]at H);(have H2:=H.blkRowH (sz:=11) (i:=6) i_6 rfl);clear H;(have H:=H2);clear H2;simp only[sc]at H)|(at_builtin;refine zBC rfl _ _ 156 rfl H (i:=6) evd_ evd_ i_6 (H.kn (i:=5) i_5).1 (zB2 _) Tryz.underlying156 hi0 hz0 hz1 hz2 rfl (by decide) (zCc _) (by unfold maxLen;omega) (by omega) ?_;clear H;intro v2 w H;(try simp only[nr]at H);(obtain⟨q3,c3,rfl,_,_,_⟩:=H.rowShape (i:=6) i_6);(rw[zCn x rs]at H);(obtain⟨G,hG,H2⟩:=H.rowSized (i:=6) (xs:=x::rs) (K:=fun b=>F b\/F1 b) i_6 (by simp;omega) ((Still.at (i:=0) .zero).or (Still.at (i:=5) i_5)) (zDN (H.kn (i:=0) .zero) (H.kn (i:=5) i_5)));clear H;(have H:=H2);clear H2;simp only[sc]at H)|(go_at_call 88;refine chz (hca _ _ _ _ (H.knlt (i:=6) i_6) (H.kn (i:=6) i_6)) H (Still.at (i:=6) i_6) ?_;clear H;intro q4 m4 F4 w hF4 H;simp only[ca]at H)|(go_at_call 96;refine zCI (hag _ _ _ _ (H.knlt (i:=7) i_7) (H.kn (i:=7) i_7)) H ?_;clear H;intro w H)|((with_reducible refine gLz ?_);refine aLz H ?_)|((with_reducible refine gLn ?_);refine aD H ?_))
      first|(refine hK.out.1 _ _ ?_)|(refine hK.out.2 _ _ _ ?_;exact⟨rfl,by rw[HO.out];rfl,H.below⟩)
    | some a =>
     rw[ha]at hag;simp only[ha]at hstep;have HS:=Lib.hid (hstep _ rfl);clear hq hstep hout ha
     go_upto_region 15 with (first|fail)
     refine zDi (n:=9) H (by kernel_rfl) rfl ?_
     clear H;intro W H;refine zD0 (fuel:=8) 0 1 3 (by decide +kernel) rfl rfl rfl rfl rfl rfl ?_ ?_ ?_
     iterate 8
      all_goals
       intro KK hK;simp only[List.getElem_toArray,List.getElem_cons_succ,List.getElem_cons_zero]
       go_wp2_with (first|(((with_reducible refine gBS ?_);refine zAY wtd_ _ _ _ rfl H (sizC (x.1.d) (.slice x.2.1 x.1.kids.length x.2.2) (zAB x.1)) 96 (by intro W;simp only[ml];(try simp only[pe]);exact zBj _ _ _ W) ?_;clear H;intro bk w H;try simp only[nr]at H);(have H2:=H.blkRowH (sz:=11) (i:=6) i_6 rfl);clear H;(have H:=H2);clear H2;simp only[sc]at H)|(at_builtin;refine zBC rfl _ _ 156 rfl H (i:=6) evd_ evd_ i_6 (H.kn (i:=5) i_5).1 (zB2 _) Tryz.underlying156 hi0 hz0 hz1 hz2 rfl (by decide) (zCc _) (by unfold maxLen;omega) (by omega) ?_;clear H;intro v2 w H;(try simp only[nr]at H);(obtain⟨q3,c3,rfl,_,_,_⟩:=H.rowShape (i:=6) i_6);(rw[zCn x rs]at H);(obtain⟨G,hG,H2⟩:=H.rowSized (i:=6) (xs:=x::rs) (K:=fun b=>F b\/F1 b) i_6 (by simp;omega) ((Still.at (i:=0) .zero).or (Still.at (i:=5) i_5)) (zDN (H.kn (i:=0) .zero) (H.kn (i:=5) i_5)));clear H;(have H:=H2);clear H2;simp only[sc]at H)|(go_at_call 88;refine chz (hca _ _ _ _ (H.knlt (i:=6) i_6) (H.kn (i:=6) i_6)) H (Still.at (i:=6) i_6) ?_;clear H;intro q4 m4 F4 w hF4 H;simp only[ca]at H)|(go_at_call 96;refine chz (hag _ _ _ _ (H.knlt (i:=7) i_7) (H.kn (i:=7) i_7)) H (Still.at (i:=7) i_7) ?_;clear H;intro q5 m5 F5 w hF5 H;simp only[ca]at H)|((with_reducible refine gBS ?_);refine zAY wtd_ _ _ _ rfl H (sizC (a.d) (.slice q5 a.kids.length m5) (zAB a)) 96 (by intro W;simp only[ml];(try simp only[pe]);exact zBj _ _ _ W) ?_;clear H;intro bk2 w H;try simp only[nr]at H)|((with_reducible refine gLz ?_);refine aLz H ?_)|((with_reducible refine gLn ?_);refine aD H ?_))
       refine hK.out.1 _ _ ?_
       first|((with_reducible show wpAny _ _ _ _ 8 _ _ _);first|refine zAw (fuel:=7) 1 3 (by decide +kernel) rfl rfl rfl rfl ?_ ?_|refine zD0 (fuel:=7) 0 2 3 (by decide +kernel) rfl rfl rfl rfl rfl rfl ?_ ?_ ?_|refine zAw (fuel:=7) 0 1 (by decide +kernel) rfl rfl rfl rfl ?_ ?_)|((with_reducible show wpAny _ _ _ _ 7 _ _ _);first|refine zAw (fuel:=6) 2 3 (by decide +kernel) rfl rfl rfl rfl ?_ ?_|refine zAf (fuel:=6) 1 (by decide +kernel) rfl rfl ?_|refine zAw (fuel:=6) 0 3 (by decide +kernel) rfl rfl rfl rfl ?_ ?_|refine zAw (fuel:=6) 0 2 (by decide +kernel) rfl rfl rfl rfl ?_ ?_)|((with_reducible show wpAny _ _ _ _ 6 _ _ _);first|refine zAf (fuel:=5) 3 (by decide +kernel) rfl rfl ?_|refine zAf (fuel:=5) 2 (by decide +kernel) rfl rfl ?_|refine zAw (fuel:=5) 0 4 (by decide +kernel) rfl rfl rfl rfl ?_ ?_)|((with_reducible show wpAny _ _ _ _ 5 _ _ _);first|refine zAf (fuel:=4) 4 (by decide +kernel) rfl rfl ?_|refine zAw (fuel:=4) 0 5 (by decide +kernel) rfl rfl rfl rfl ?_ ?_)|((with_reducible show wpAny _ _ _ _ 4 _ _ _);first|refine zAf (fuel:=3) 5 (by decide +kernel) rfl rfl ?_|refine zAf (fuel:=3) 0 (by decide +kernel) rfl rfl ?_)|((with_reducible show wpAny _ _ _ _ 3 _ _ _);refine zAf (fuel:=2) 6 (by decide +kernel) rfl rfl ?_)|((with_reducible show wpAny _ _ _ _ 2 _ _ _);refine zAf (fuel:=1) 7 (by decide +kernel) rfl rfl ?_)|((with_reducible show wpAny _ _ _ _ 1 _ _ _);refine zAf (fuel:=0) 8 (by decide +kernel) rfl rfl ?_)
     all_goals
      intro KK hK;simp only[List.getElem_toArray,List.getElem_cons_succ,List.getElem_cons_zero]
      go_wp2_with (first|(((with_reducible refine gBS ?_);refine zAY wtd_ _ _ _ rfl H (sizC (x.1.d) (.slice x.2.1 x.1.kids.length x.2.2) (zAB x.1)) 96 (by intro W;simp only[ml];(try simp only[pe]);exact zBj _ _ _ W) ?_;clear H;intro bk w H;try simp only[nr]at H);(have H2:=H.blkRowH (sz:=11) (i:=6) i_6 rfl);clear H;(have H:=H2);clear H2;simp only[sc]at H)|(at_builtin;refine zBC rfl _ _ 156 rfl H (i:=6) evd_ evd_ i_6 (H.kn (i:=5) i_5).1 (zB2 _) Tryz.underlying156 hi0 hz0 hz1 hz2 rfl (by decide) (zCc _) (by unfold maxLen;omega) (by omega) ?_;clear H;intro v2 w H;(try simp only[nr]at H);(obtain⟨q3,c3,rfl,_,_,_⟩:=H.rowShape (i:=6) i_6);(rw[zCn x rs]at H);(obtain⟨G,hG,H2⟩:=H.rowSized (i:=6) (xs:=x::rs) (K:=fun b=>F b\/F1 b) i_6 (by simp;omega) ((Still.at (i:=0) .zero).or (Still.at (i:=5) i_5)) (zDN (H.kn (i:=0) .zero) (H.kn (i:=5) i_5)));clear H;(have H:=H2);clear H2;simp only[sc]at H)|(go_at_call 88;refine chz (hca _ _ _ _ (H.knlt (i:=6) i_6) (H.kn (i:=6) i_6)) H (Still.at (i:=6) i_6) ?_;clear H;intro q4 m4 F4 w hF4 H;simp only[ca]at H)|(go_at_call 96;refine chz (hag _ _ _ _ (H.knlt (i:=7) i_7) (H.kn (i:=7) i_7)) H (Still.at (i:=7) i_7) ?_;clear H;intro q5 m5 F5 w hF5 H;simp only[ca]at H)|((with_reducible refine gBS ?_);refine zAY wtd_ _ _ _ rfl H (sizC (a.d) (.slice q5 a.kids.length m5) (zAB a)) 96 (by intro W;simp only[ml];(try simp only[pe]);exact zBj _ _ _ W) ?_;clear H;intro bk2 w H;try simp only[nr]at H)|((with_reducible refine gLz ?_);refine aLz H ?_)|((with_reducible refine gLn ?_);refine aD H ?_))
      refine hK.out.1 _ _ ?_
     all_goals
      refine zI7 (by kernel_rfl) ?_
      clear hK;obtain⟨G2,hG2,H2⟩:=H.oneSized (i:=9) (x:=(a,q5,m5)) (K:=F5) i_9 (Still.at (i:=8) i_8) (H.kn (i:=8) i_8);simp only[sc]at H2;have hGl:∀ z,G2 z->w0.heap.size<=z\/F z:=fun z h=>(hG2 z h).elim .inl fun h=>(hF5 z h).elim .inl fun h=>(hF4 z h).elim .inl fun h=>(hG z h).elim .inl fun h=>h.elim .inr (hF1 z)
      clear H hG2 hF5 hF4 hG
      go_wp2_with fail
      go_roundw
      case rel=>exact⟨j+1,some ⟨bk2,0,none⟩,1,[(a,q5,m5)],G2,by omega,rfl,by go_num,HS,hGl,H2.pick [0,1,2,3,4,9] _ (by decide) rfl⟩
      case measure=>simp[intOf];omega
  ·have hjm:j=m:=by omega
   have dj:decide ((j:Int)<d.hi - d.lo)=false:=by have:=HM.out;simp;omega
   have dj2:decide ((j:Int)<(m:Int))=false:=by simp;omega
   have EQ:zBU d x.1=catQ (List.replicate lo x.1++rs.map (·.1)):=by rw[EE.out,← hjm,ER.out]
   have hca:∀ (w:World) q n G,(∀ b,G b->b<w.heap.size)->SKnows G q (lo+rs.length) n (List.replicate lo x++rs) w->Calls Tryz.prog 88 #[.slice q (lo+rs.length) n] w fun e w'=>SizOut w G (zBU d x.1) e w'/\Below w.heap.size w w':=fun w q n G h1 h2=>by
    have e1:(List.replicate lo x++rs).length=lo+rs.length:=by simp
    have e2:(List.replicate lo x++rs).map (·.1)=List.replicate lo x.1++rs.map (·.1):=by rw[List.map_append,List.map_replicate]
    have:=zJx q n (List.replicate lo x++rs) G w h1 (by rw[e1];exact h2) (by
     have:=HSL.out;have:=hsm.2;rw[List.map_append,zAZ]
     omega)
    rwa [e1,e2,← EQ]at this
   clear EQ hsm
   cases hq:zBU d x.1 with
   | some t =>
    rw[hq]at hca;have HQ:=Lib.hid hq;clear hq
    go_wp2_with (first|(at_builtin;refine zBC rfl _ _ 156 rfl H (i:=4) evd_ evd_ i_4 (H.kn (i:=5) i_5).1 (zB2 _) Tryz.underlying156 hi0 hz0 hz1 hz2 rfl (by decide) (zCc _) (by unfold maxLen;omega) (by omega) ?_;clear H;intro v2 w H;(try simp only[nr]at H);(obtain⟨q3,c3,rfl,_,_,_⟩:=H.rowShape (i:=4) i_4);(rw[← zBI,← List.map_append]at H);(obtain⟨G,hG,H2⟩:=H.rowSized (i:=4) (xs:=List.replicate lo x++rs) (K:=fun b=>F b\/F1 b) i_4 (by simp) ((Still.at (i:=0) .zero).or (Still.at (i:=5) i_5)) (zIc (H.kn (i:=0) .zero) (H.kn (i:=5) i_5)));clear H;(have H:=H2);clear H2;simp only[sc]at H)|(go_at_call 88;refine chz (hca _ _ _ _ (H.knlt (i:=4) i_4) (H.kn (i:=4) i_4)) H (Still.at (i:=4) i_4) ?_;clear H;intro q4 m4 F4 w hF4 H;simp only[ca]at H)|((with_reducible refine gTz ?_);refine aTz H ?_;clear H;intro w H;try simp only[nr]at H))
    refine xcz Tryz.results39 H ?_
    rw[HQ.out];exact⟨⟨q4,m4,F4,rfl,H.kn (i:=6) i_6,fun b h=>⟨H.knlt (i:=6) i_6 b h,(hF4 b h).elim .inl (fun h=>(hG b h).elim .inl (fun h=>h.elim .inr (hF1 b)))⟩⟩,H.below⟩
   | none =>
    rw[hq]at hca;have HQ:=Lib.hid hq;clear hq
    go_wp2_with (first|(at_builtin;refine zBC rfl _ _ 156 rfl H (i:=4) evd_ evd_ i_4 (H.kn (i:=5) i_5).1 (zB2 _) Tryz.underlying156 hi0 hz0 hz1 hz2 rfl (by decide) (zCc _) (by unfold maxLen;omega) (by omega) ?_;clear H;intro v2 w H;(try simp only[nr]at H);(obtain⟨q3,c3,rfl,_,_,_⟩:=H.rowShape (i:=4) i_4);(rw[← zBI,← List.map_append]at H);(obtain⟨G,hG,H2⟩:=H.rowSized (i:=4) (xs:=List.replicate lo x++rs) (K:=fun b=>F b\/F1 b) i_4 (by simp) ((Still.at (i:=0) .zero).or (Still.at (i:=5) i_5)) (zIc (H.kn (i:=0) .zero) (H.kn (i:=5) i_5)));clear H;(have H:=H2);clear H2;simp only[sc]at H)|(go_at_call 88;refine zCI (hca _ _ _ _ (H.knlt (i:=4) i_4) (H.kn (i:=4) i_4)) H ?_;clear H;intro w H)|fail)
    exact⟨rfl,by rw[HQ.out];rfl,H.below⟩
theorem zK2 (rv:Value) (d:NodeD) (p0:Option Addr) (n0 c0:Nat) (p:Option Addr) (c:Nat) (x:TV) (F:Nat->Prop) (w0:World) (hlo:0<=d.lo/\d.lo<=100) (hhi:d.hi = -1\/d.lo<=d.hi/\d.hi<=100) (hF:∀ b,F b->b<w0.heap.size) (h:SKnows F p 1 c [x] w0) (hsz:zAB x.1<=2000) (hkx:zAk x.1=true) :
  Calls Tryz.prog 39 #[rv,zAV d (.slice p0 n0 c0),.slice p 1 c] w0 fun e w'=>SizOut w0 F (zBU d x.1) e w'/\Below w0.heap.size w0 w':=by
 by_cases hL:(¬ (d.hi=0\/x.1.d.kind=1\/x.1.d.kind=2/\d.lo=0))/\x.1.d.kind≠2/\(¬ (4000:Int)<(zAB x.1:Int) * max d.lo d.hi)/\¬ d.hi<0
 ·exact zIz rv d p0 n0 c0 p c x F w0 hlo hhi hF h hsz hL.1 hL.2.1 hL.2.2.1 hL.2.2.2
 have HLL:=Lib.hid hL;clear hL;have H:=Hold.sknows hF h;obtain⟨i0,hi0,hz0,hz1,hz2⟩:=info_parts zDL;have hc1:=h.bound.2.1;have hc2:=h.bound.2.2;obtain⟨b,off,rfl⟩:=h.at (by simp)
 clear h;have his:=fun w k=>zL8 x.1.d (.slice x.2.1 x.1.kids.length x.2.2) (zAB x.1) k w
 have hcell:∀ V,SKnows F (some ⟨b,off,none⟩) 1 c [x] V->∀ k,k<11->V.cell? ⟨b,off+k,none⟩=(sizX x)[k]?:=fun V h=>h.cells (j:=0) rfl (by omega)
 have hba:=fun w=>zJC 1 w
 have E:zBU d x.1=zBU d x.1:=rfl
 conv at E=>rhs;unfold zBU
 by_cases hA:d.hi=0\/x.1.d.kind=1\/x.1.d.kind=2/\d.lo=0
 ·rw[if_pos hA]at E;rw[E];clear E
  by_cases a1:d.hi=0
  ·have d1:(d.hi == 0)=true:=by rw[beq_iff_eq];exact a1
   clear hA a1
   go_enter Tryz.func39,Tryz.ntmps39
   go_wp2_with (first|((with_reducible refine gLz ?_);refine zAO wtd_ _ _ rfl rfl zAm (zA4 x) (hcell _ (H.kn (i:=0) .zero)) ?_)|((with_reducible refine kg 4 ?_);(first|refine kA 4 H ?_|refine kS 4 H ?_|refine kB 4 H ?_);clear H;intro b4 w H;try simp only[nr]at H)|((with_reducible refine kg 6 ?_);(first|refine kA 6 H ?_|refine kS 6 H ?_|refine kB 6 H ?_);clear H;intro b6 w H;try simp only[nr]at H)|((with_reducible refine kg 7 ?_);(first|refine kA 7 H ?_|refine kS 7 H ?_|refine kB 7 H ?_);clear H;intro b7 w H;try simp only[nr]at H)|(first|((with_reducible refine gTz ?_);refine aTz H ?_;clear H;intro w H;try simp only[nr]at H)|((with_reducible refine gL ?_);refine aG H ?_))|((with_reducible refine ch (hba _) H ?_);clear H;intro w H))
   refine xcz Tryz.results39 H ?_
   exact⟨SizOut.leaf (k:=1),H.below⟩
  ·have d1:(d.hi == 0)=false:=by rw[beq_eq_false_iff_ne];exact a1
   by_cases a2:x.1.d.kind=1
   ·have d2:(x.1.d.kind == 1)=true:=by rw[beq_iff_eq];exact a2
    clear hA a1 a2
    go_enter Tryz.func39,Tryz.ntmps39
    go_wp2_with (first|((with_reducible refine gLz ?_);refine zAO wtd_ _ _ rfl rfl zAm (zA4 x) (hcell _ (H.kn (i:=0) .zero)) ?_)|((with_reducible refine kg 4 ?_);(first|refine kA 4 H ?_|refine kS 4 H ?_|refine kB 4 H ?_);clear H;intro b4 w H;try simp only[nr]at H)|((with_reducible refine kg 6 ?_);(first|refine kA 6 H ?_|refine kS 6 H ?_|refine kB 6 H ?_);clear H;intro b6 w H;try simp only[nr]at H)|((with_reducible refine kg 7 ?_);(first|refine kA 7 H ?_|refine kS 7 H ?_|refine kB 7 H ?_);clear H;intro b7 w H;try simp only[nr]at H)|(first|((with_reducible refine gTz ?_);refine aTz H ?_;clear H;intro w H;try simp only[nr]at H)|((with_reducible refine gLz ?_);refine aLz H ?_)|((with_reducible refine gL ?_);refine aG H ?_))|((with_reducible first|refine ch (hba _) H ?_|refine ch (his _ _) H ?_);clear H;intro w H))
    refine xcz Tryz.results39 H ?_
    exact⟨SizOut.leaf (k:=1),H.below⟩
   ·have d2:(x.1.d.kind == 1)=false:=by rw[beq_eq_false_iff_ne];exact a2
    have a3:x.1.d.kind=2/\d.lo=0:=by rcases hA with h|h|h<;>first|contradiction|exact h
    have d3:(x.1.d.kind == 2)=true:=by rw[beq_iff_eq];exact a3.1
    have d4:(d.lo == 0)=true:=by rw[beq_iff_eq];exact a3.2
    clear hA a1 a2 a3
    go_enter Tryz.func39,Tryz.ntmps39
    go_wp2_with (first|((with_reducible refine gLz ?_);refine zAO wtd_ _ _ rfl rfl zAm (zA4 x) (hcell _ (H.kn (i:=0) .zero)) ?_)|((with_reducible refine kg 4 ?_);(first|refine kA 4 H ?_|refine kS 4 H ?_|refine kB 4 H ?_);clear H;intro b4 w H;try simp only[nr]at H)|((with_reducible refine kg 6 ?_);(first|refine kA 6 H ?_|refine kS 6 H ?_|refine kB 6 H ?_);clear H;intro b6 w H;try simp only[nr]at H)|((with_reducible refine kg 7 ?_);(first|refine kA 7 H ?_|refine kS 7 H ?_|refine kB 7 H ?_);clear H;intro b7 w H;try simp only[nr]at H)|(first|((with_reducible refine gTz ?_);refine aTz H ?_;clear H;intro w H;try simp only[nr]at H)|((with_reducible refine gLz ?_);refine aLz H ?_)|((with_reducible refine gL ?_);refine aG H ?_))|((with_reducible first|refine ch (hba _) H ?_|refine ch (his _ _) H ?_);clear H;intro w H))
    refine xcz Tryz.results39 H ?_
    exact⟨SizOut.leaf (k:=1),H.below⟩
 rw[if_neg hA]at E;have d1:(d.hi == 0)=false:=by rw[beq_eq_false_iff_ne];exact fun e=>hA (.inl e)
 have d2:(x.1.d.kind == 1)=false:=by rw[beq_eq_false_iff_ne];exact fun e=>hA (.inr (.inl e))
 by_cases a3:x.1.d.kind=2
 ·rw[if_pos a3]at E;rw[E];have d3:(x.1.d.kind == 2)=true:=by rw[beq_iff_eq];exact a3
  have d4:(d.lo == 0)=false:=by rw[beq_eq_false_iff_ne];exact fun e=>hA (.inr (.inr ⟨a3,e⟩))
  have HC:=Lib.hid (zG1 hkx a3);clear hA a3 E hkx
  go_enter Tryz.func39,Tryz.ntmps39
  go_wp2_with (first|((with_reducible refine gLz ?_);refine zAO wtd_ _ _ rfl rfl zAm (zA4 x) (hcell _ (H.kn (i:=0) .zero)) ?_)|((with_reducible refine kg 4 ?_);(first|refine kA 4 H ?_|refine kS 4 H ?_|refine kB 4 H ?_);clear H;intro b4 w H;try simp only[nr]at H)|((with_reducible refine kg 6 ?_);(first|refine kA 6 H ?_|refine kS 6 H ?_|refine kB 6 H ?_);clear H;intro b6 w H;try simp only[nr]at H)|((with_reducible refine kg 7 ?_);(first|refine kA 7 H ?_|refine kS 7 H ?_|refine kB 7 H ?_);clear H;intro b7 w H;try simp only[nr]at H)|(first|((with_reducible refine gTz ?_);refine aTz H ?_;clear H;intro w H;try simp only[nr]at H)|((with_reducible refine gLz ?_);refine aLz H ?_)|((with_reducible refine gL ?_);refine aG H ?_))|((with_reducible first|refine ch (hba _) H ?_|refine ch (his _ _) H ?_);clear H;intro w H))
  refine xcz Tryz.results39 H ?_
  exact⟨SizOut.clean HC.out ((H.kn (i:=0) .zero).2 x (List.mem_singleton.2 rfl)) (fun b h=>⟨H.knlt .zero b h,.inr h⟩),H.below⟩
 rw[if_neg a3]at E;have d3:(x.1.d.kind == 2)=false:=by rw[beq_eq_false_iff_ne];exact a3
 have hyes:=fun w=>zBt w
 have hno:=fun w=>zCP w
 obtain⟨lo,hl⟩:∃ lo:Nat,d.lo=lo:=⟨d.lo.toNat,by omega⟩
 have hlo2:lo<=100:=by omega
 have hrp:=fun w (h1:∀ b,F b->b<w.heap.size) (h2:SKnows F (some ⟨b,off,none⟩) 1 c [x] w)=>show Calls Tryz.prog 95 #[.slice (some ⟨b,off,none⟩) 1 c,.int .i64 d.lo] w (OwnZ w (List.replicate lo x)) from (by rw[hl];exact zGn (some ⟨b,off,none⟩) c x lo F w (by omega) h1 h2)
 obtain⟨mx,hmx⟩:∃ mx,max d.lo d.hi=mx:=⟨_,rfl⟩;rw[hmx]at E;have hwm:wrap64 ((zAB x.1:Int) * mx)=(zAB x.1:Int) * mx:=zIT _ _ hsz (by omega) (by omega)
 have HMX:=Lib.hid hmx;clear hmx
 by_cases hbig:(4000:Int)<(zAB x.1:Int) * mx
 ·rw[if_pos hbig]at E;rw[E];have hdm:decide (wrap64 ((zAB x.1:Int) * mx)<=4000)=false:=by rw[hwm];exact decide_eq_false (by omega)
  have HDM:=Lib.hid hdm;clear E hbig hwm hdm hl a3
  go_enter Tryz.func39,Tryz.ntmps39
  go_wp2_with (first|((with_reducible refine gLz ?_);refine zAO wtd_ _ _ rfl rfl zAm (zA4 x) (hcell _ (H.kn (i:=0) .zero)) ?_)|((with_reducible refine kg 4 ?_);(first|refine kA 4 H ?_|refine kS 4 H ?_|refine kB 4 H ?_);clear H;intro b4 w H;try simp only[nr]at H)|((with_reducible refine kg 6 ?_);(first|refine kA 6 H ?_|refine kS 6 H ?_|refine kB 6 H ?_);clear H;intro b6 w H;try simp only[nr]at H)|((with_reducible refine kg 7 ?_);(first|refine kA 7 H ?_|refine kS 7 H ?_|refine kB 7 H ?_);clear H;intro b7 w H;try simp only[nr]at H)|(first|((with_reducible refine gTz ?_);refine aTz H ?_;clear H;intro w H;try simp only[nr]at H)|((with_reducible refine gLz ?_);refine aLz H ?_)|((with_reducible refine gL ?_);refine aGz H ?_)|((with_reducible refine gL ?_);refine aG H ?_))|((with_reducible refine ch (his _ _) H ?_);clear H;intro w H)|((with_reducible show @wpList _ _ _ ({dst:=_,op:=Op.call {callee:=.builtin .max,args:=_,argTypes:=_},type:=_,pos:=_,after:=_,guard:=_}::_) _ _);refine zAK rfl (zDG HMX.out rfl rfl rfl) ?_)|(go_at_call 94;rw[HDM.out];refine ch (hno _) H ?_;clear H;intro w H))
  exact⟨rfl,rfl,H.below⟩
 rw[if_neg hbig]at E;have hdm:decide (wrap64 ((zAB x.1:Int) * mx)<=4000)=true:=by rw[hwm];exact decide_eq_true (by omega)
 have HDM:=Lib.hid hdm;have HL:=Lib.hid hl;clear hwm hdm hl;have hrl:(List.replicate lo x).length=lo:=List.length_replicate ..;have hRL:=Lib.hid hrl;have hsl:zAF ((List.replicate lo x).map (·.1))<=200000:=by
  rw[List.map_replicate,zGW];have:=Nat.mul_le_mul hlo2 hsz;omega
 have HSL:=Lib.hid hsl;clear hsl hrl
 by_cases hn:d.hi<0
 ·clear hA a3 hbig;have dn:decide (d.hi<0)=true:=by simp;exact hn
  rw[if_pos hn]at E;have hag:=fun w (h1:∀ b,F b->b<w.heap.size) (h2:ForestR w F x.2.1 x.2.2 x.1.kids)=>zJk d p0 n0 c0 (-1) x.1 x.2.1 x.2.2 F w h1 h2 (by omega)
  cases ha:zEO d (-1) x.1 with
  | none =>
   rw[ha]at E hag;simp only[]at E;rw[E];clear E ha hn
   go_enter Tryz.func39,Tryz.ntmps39
   go_wp2_with (first|((with_reducible refine gLz ?_);refine zAO wtd_ _ _ rfl rfl zAm (zA4 x) (hcell _ (H.kn (i:=0) .zero)) ?_)|((with_reducible refine kg 4 ?_);(first|refine kA 4 H ?_|refine kS 4 H ?_|refine kB 4 H ?_);clear H;intro b4 w H;try simp only[nr]at H)|((with_reducible refine kg 6 ?_);(first|refine kA 6 H ?_|refine kS 6 H ?_|refine kB 6 H ?_);clear H;intro b6 w H;try simp only[nr]at H)|((with_reducible refine kg 7 ?_);(first|refine kA 7 H ?_|refine kS 7 H ?_|refine kB 7 H ?_);clear H;intro b7 w H;try simp only[nr]at H)|(first|((with_reducible refine gTz ?_);refine aTz H ?_;clear H;intro w H;try simp only[nr]at H)|((with_reducible refine gLz ?_);refine aLz H ?_)|((with_reducible refine gL ?_);refine aGz H ?_)|((with_reducible refine gL ?_);(first|refine aG H ?_|refine aD H ?_)))|((with_reducible refine ch (his _ _) H ?_);clear H;intro w H)|((with_reducible show @wpList _ _ _ ({dst:=_,op:=Op.call {callee:=.builtin .max,args:=_,argTypes:=_},type:=_,pos:=_,after:=_,guard:=_}::_) _ _);refine zAK rfl (zDG HMX.out rfl rfl rfl) ?_)|(go_at_call 94;rw[HDM.out];refine ch (hyes _) H ?_;clear H;intro w H)|(go_at_call 95;refine chOZ hRL.out (hrp _ (H.knlt .zero) (H.kn .zero)) H ?_;clear H;intro q1 m1 w H;simp only[ca]at H)|(go_at_call 96;refine zCI (hag _ (H.knlt .zero) ((H.kn (i:=0) .zero).2 x (List.mem_singleton.2 rfl))) H ?_;clear H;intro w H))
   exact⟨rfl,rfl,H.below⟩
  | some a =>
   rw[ha]at E hag;simp only[]at E;rw[HL.out,Int.toNat_natCast]at E;have has:zAB a<=4000:=zJv ha;have hca:∀ (w:World) q m q2 m2 G,(∀ b,G b->b<w.heap.size)->SKnows G q (lo+1) m (List.replicate lo x++[(a,q2,m2)]) w->Calls Tryz.prog 88 #[.slice q (lo+1) m] w fun e w'=>SizOut w G (catQ (List.replicate lo x.1++[a])) e w'/\Below w.heap.size w w':=fun w q m q2 m2 G h1 h2=>by
    have e1:(List.replicate lo x++[((a,q2,m2):TV)]).length=lo+1:=by simp
    have e2:(List.replicate lo x++[((a,q2,m2):TV)]).map (·.1)=List.replicate lo x.1++[a]:=by rw[List.map_append,List.map_replicate];rfl
    have:=zJx q m (List.replicate lo x++[((a,q2,m2):TV)]) G w h1 (by rw[e1];exact h2) (by
     have:=HSL.out;rw[List.map_append,zAZ];simp only[List.map_cons,List.map_nil,zAF]
     omega)
    rwa [e1,e2]at this
   rw[← E]at hca;clear E ha hn has
   cases hq:zBU d x.1 with
   | some t =>
    rw[hq]at hca;clear hq
    go_enter Tryz.func39,Tryz.ntmps39
    go_wp2_with (first|((with_reducible refine gLz ?_);refine zAO wtd_ _ _ rfl rfl zAm (zA4 x) (hcell _ (H.kn (i:=0) .zero)) ?_)|((with_reducible refine kg 4 ?_);(first|refine kA 4 H ?_|refine kS 4 H ?_|refine kB 4 H ?_);clear H;intro b4 w H;try simp only[nr]at H)|((with_reducible refine kg 6 ?_);(first|refine kA 6 H ?_|refine kS 6 H ?_|refine kB 6 H ?_);clear H;intro b6 w H;try simp only[nr]at H)|((with_reducible refine kg 7 ?_);(first|refine kA 7 H ?_|refine kS 7 H ?_|refine kB 7 H ?_);clear H;intro b7 w H;try simp only[nr]at H)|(first|((with_reducible refine gTz ?_);refine aTz H ?_;clear H;intro w H;try simp only[nr]at H)|((with_reducible refine gLz ?_);refine aLz H ?_)|((with_reducible refine gL ?_);refine aGz H ?_)|((with_reducible refine gL ?_);(first|refine aG H ?_|refine aD H ?_)))|((with_reducible refine ch (his _ _) H ?_);clear H;intro w H)|((with_reducible show @wpList _ _ _ ({dst:=_,op:=Op.call {callee:=.builtin .max,args:=_,argTypes:=_},type:=_,pos:=_,after:=_,guard:=_}::_) _ _);refine zAK rfl (zDG HMX.out rfl rfl rfl) ?_)|(go_at_call 94;rw[HDM.out];refine ch (hyes _) H ?_;clear H;intro w H)|(go_at_call 95;refine chOZ hRL.out (hrp _ (H.knlt .zero) (H.kn .zero)) H ?_;clear H;intro q1 m1 w H;simp only[ca]at H)|(go_at_call 96;refine chz (hag _ (H.knlt .zero) ((H.kn (i:=0) .zero).2 x (List.mem_singleton.2 rfl))) H (Still.at (i:=0) .zero) ?_;clear H;intro q2 m2 F1 w hF1 H;simp only[ca]at H)|((with_reducible refine gBS ?_);refine zAY wtd_ _ _ _ rfl H (sizC (a.d) (.slice q2 a.kids.length m2) (zAB a)) 96 (by intro W;simp only[ml];(try simp only[pe]);exact zBj _ _ _ W) ?_;clear H;intro bk w H;try simp only[nr]at H)|(at_builtin;refine zA8 rfl _ _ 156 rfl H (i:=4) (j:=6) evd_ rfl i_4 i_6 Tryz.underlying156 hi0 hz0 hz1 hz2 rfl (by decide) rfl rfl (by unfold maxLen;omega) (by omega) ?_;clear H;intro v2 w H;(try simp only[nr]at H);(obtain⟨q3,c3,rfl,_,_,_⟩:=H.rowShape (i:=4) i_4);(rw[zEv (List.replicate lo x) (a,q2,m2)]at H);(obtain⟨G,hG,H2⟩:=H.rowSized (i:=4) (xs:=List.replicate lo x++[(a,q2,m2)]) (K:=fun b=>F b\/F1 b) i_4 (by simp) ((Still.at (i:=0) .zero).or (Still.at (i:=5) i_5)) (zJ8 (H.kn (i:=0) .zero) (H.kn (i:=5) i_5)));clear H;(have H:=H2);clear H2;simp only[sc]at H)|(go_at_call 88;refine chz (hca _ _ _ _ _ _ (H.knlt (i:=4) i_4) (H.kn (i:=4) i_4)) H (Still.at (i:=4) i_4) ?_;clear H;intro q4 m4 F4 w hF4 H;simp only[ca]at H))
    refine xcz Tryz.results39 H ?_
    exact⟨⟨q4,m4,F4,rfl,H.kn (i:=7) i_7,fun b h=>⟨H.knlt (i:=7) i_7 b h,(hF4 b h).elim .inl (fun h=>(hG b h).elim .inl (fun h=>h.elim .inr (hF1 b)))⟩⟩,H.below⟩
   | none =>
    rw[hq]at hca;clear hq
    go_enter Tryz.func39,Tryz.ntmps39
    go_wp2_with (first|((with_reducible refine gLz ?_);refine zAO wtd_ _ _ rfl rfl zAm (zA4 x) (hcell _ (H.kn (i:=0) .zero)) ?_)|((with_reducible refine kg 4 ?_);(first|refine kA 4 H ?_|refine kS 4 H ?_|refine kB 4 H ?_);clear H;intro b4 w H;try simp only[nr]at H)|((with_reducible refine kg 6 ?_);(first|refine kA 6 H ?_|refine kS 6 H ?_|refine kB 6 H ?_);clear H;intro b6 w H;try simp only[nr]at H)|((with_reducible refine kg 7 ?_);(first|refine kA 7 H ?_|refine kS 7 H ?_|refine kB 7 H ?_);clear H;intro b7 w H;try simp only[nr]at H)|(first|((with_reducible refine gTz ?_);refine aTz H ?_;clear H;intro w H;try simp only[nr]at H)|((with_reducible refine gLz ?_);refine aLz H ?_)|((with_reducible refine gL ?_);refine aGz H ?_)|((with_reducible refine gL ?_);(first|refine aG H ?_|refine aD H ?_)))|((with_reducible refine ch (his _ _) H ?_);clear H;intro w H)|((with_reducible show @wpList _ _ _ ({dst:=_,op:=Op.call {callee:=.builtin .max,args:=_,argTypes:=_},type:=_,pos:=_,after:=_,guard:=_}::_) _ _);refine zAK rfl (zDG HMX.out rfl rfl rfl) ?_)|(go_at_call 94;rw[HDM.out];refine ch (hyes _) H ?_;clear H;intro w H)|(go_at_call 95;refine chOZ hRL.out (hrp _ (H.knlt .zero) (H.kn .zero)) H ?_;clear H;intro q1 m1 w H;simp only[ca]at H)|(go_at_call 96;refine chz (hag _ (H.knlt .zero) ((H.kn (i:=0) .zero).2 x (List.mem_singleton.2 rfl))) H (Still.at (i:=0) .zero) ?_;clear H;intro q2 m2 F1 w hF1 H;simp only[ca]at H)|((with_reducible refine gBS ?_);refine zAY wtd_ _ _ _ rfl H (sizC (a.d) (.slice q2 a.kids.length m2) (zAB a)) 96 (by intro W;simp only[ml];(try simp only[pe]);exact zBj _ _ _ W) ?_;clear H;intro bk w H;try simp only[nr]at H)|(at_builtin;refine zA8 rfl _ _ 156 rfl H (i:=4) (j:=6) evd_ rfl i_4 i_6 Tryz.underlying156 hi0 hz0 hz1 hz2 rfl (by decide) rfl rfl (by unfold maxLen;omega) (by omega) ?_;clear H;intro v2 w H;(try simp only[nr]at H);(obtain⟨q3,c3,rfl,_,_,_⟩:=H.rowShape (i:=4) i_4);(rw[zEv (List.replicate lo x) (a,q2,m2)]at H);(obtain⟨G,hG,H2⟩:=H.rowSized (i:=4) (xs:=List.replicate lo x++[(a,q2,m2)]) (K:=fun b=>F b\/F1 b) i_4 (by simp) ((Still.at (i:=0) .zero).or (Still.at (i:=5) i_5)) (zJ8 (H.kn (i:=0) .zero) (H.kn (i:=5) i_5)));clear H;(have H:=H2);clear H2;simp only[sc]at H)|(go_at_call 88;refine zCI (hca _ _ _ _ _ _ (H.knlt (i:=4) i_4) (H.kn (i:=4) i_4)) H ?_;clear H;intro w H))
    exact⟨rfl,rfl,H.below⟩
 ·exact absurd ⟨hA,a3,by rw[HMX.out];exact hbig,hn⟩ HLL.out
end
section
open Go.RowKit Go.Shelf Go.MapKept
attribute [local go_sem] Oper.semAt_some
def zCd (sb:Nat):Value->Option Value
 | .int .i64 k=>if k=4 then some (.func (.func 36) #[.pointer (some ⟨sb,0,none⟩)] #[]) else if k=5 then some (.func (.func 37) #[.pointer (some ⟨sb,0,none⟩)] #[])
  else if k=7 then some (.func (.func 38) #[.pointer (some ⟨sb,0,none⟩)] #[]) else if k=6 then some (.func (.func 39) #[.pointer (some ⟨sb,0,none⟩)] #[]) else none
 | _=>none
def SimK (sb mb:Nat) (V:World):Prop:=∃ es ck,V.heap[sb]?=some (.cells #[.map (some mb)] 93 (0,0))/\V.heap[mb]?=some (.map es ck)/\zHu (.int .i64) (zCd sb) es
theorem SimK.kept {sb mb:Nat} {V W:World} (h:SimK sb mb W) (hV:∀ b,b=sb\/b=mb->V.heap[b]?=W.heap[b]?):SimK sb mb V:=by
 obtain⟨es,ck,h1,h2,h3⟩:=h;exact⟨es,ck,(hV sb (.inl rfl)).trans h1,(hV mb (.inr rfl)).trans h2,h3⟩
theorem SimK.load {sb mb:Nat} {V:World} (h:SimK sb mb V):V.cell? ⟨sb,0,none⟩=some (.map (some mb)):=by
 obtain⟨es,ck,h1,_⟩:=h;exact cell_of_row V sb 0 _ _ _ h1
theorem zDO:oneB Tryz.prog 91=true:=by kernel_rfl
theorem zBh:Tryz.prog.underlying 22=some (.int .i64):=by kernel_rfl
theorem zIH:∃ et,Tryz.prog.underlying 91=some (.map 22 et)/\∀ W,(zeroValue et).run Tryz.prog W=.ok (.nilFunc) W:=by
 refine⟨94,by kernel_rfl,fun W=>by kernel_rfl⟩
end
end Go.Proofs.YtalggmbdpmdcbaaGreat
