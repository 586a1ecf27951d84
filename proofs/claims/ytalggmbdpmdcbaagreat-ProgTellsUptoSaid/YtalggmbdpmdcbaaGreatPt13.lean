/-
  Laws of walks, and walks.
-/
import Derived.Test.YtalggmbdpmdcbaaGreatPt7
import Derived.Test.YtalggmbdpmdcbaaGreatPt10
import Derived.Test.YtalggmbdpmdcbaaGreatPt8
import Derived.Test.YtalggmbdpmdcbaaGreatPt5
set_option linter.unusedVariables false
set_option linter.unusedSimpArgs false
set_option maxRecDepth 100000
set_option maxHeartbeats 16000000
namespace Go.Proofs.YtalggmbdpmdcbaaGreat
section
open Go.RowKit Go.Shelf
attribute [local go_sem] Oper.semAt_some
def TreeB (w:World) (G:Nat->Prop) (o:Option Tree) (e:Ending) (w':World):Prop:=match o with
 | some t=>∃ p c F,e=.returned (.tuple #[zAQ t.d (.slice p t.kids.length c),.bool true])/\ForestR w' F p c t.kids/\∀ b,F b->b<w'.heap.size/\(w.heap.size<=b\/G b)
 | none=>∃ d p n c,e=.returned (.tuple #[zAQ d (.slice p n c),.bool false])
theorem TreeB.leaf {w w':World} {G:Nat->Prop} {o:Option Tree} {k:Int} (h:o=some (zBj k)):TreeB w G o (.returned (.tuple #[zAQ {kind:=k} nilS,.bool true])) w':=by
 subst h;exact⟨none,0,fun _=>False,rfl,ForestR.nil ..,fun _ h=>h.elim⟩
theorem TreeB.no {w w':World} {G:Nat->Prop} {o:Option Tree} {d:NodeD} {p:Option Addr} {n c:Nat} (h:o=none):TreeB w G o (.returned (.tuple #[zAQ d (.slice p n c),.bool false])) w':=by
 subst h;exact⟨d,p,n,c,rfl⟩
theorem zNo (d:NodeD) (k:Int):((((d.hi) == (0)) || ((k) == (1))) || (((k) == (2))&&((d.lo) == (0))))=decide (d.hi=0\/k=1\/k=2/\d.lo=0):=by
 rw[Bool.eq_iff_iff];simp[or_assoc]
theorem zJR {P:Program} {a:Act} {o:Oper} {C:World->Prop} {K:Act->Prop} {v:Value} (h:∀ w,C w->(execOp a.eval o).run P w=.ok (.value v) w) (hk:K (a.put o.dst v)):o.quiet P a C K :=
 ⟨v,fun w hw=>by unfold Oper.quietAt;rw[h w hw];exact⟨rfl,rfl⟩,hk⟩
theorem zPs (a b:Int):Builtin.max2 (.int .i64 a) (.int .i64 b)=pure (.int .i64 (max a b)):=by
 show (pure (.int .i64 (if b > a then b else a)):Sem Value)=_
 rw[show (if b > a then b else a)=max a b by omega]
theorem zPk {P:Program} {ev:Operand->Value} {w:World} {o:Oper} {x y z:Operand} {ts:Array TypeId} {i j k:Int} (hop:o.op=Op.call {callee:=.builtin .max,args:=#[x,y,z],argTypes:=ts}) (hx:ev x=.int .i64 i) (hy:ev y=.int .i64 j) (hz:ev z=.int .i64 k) :
  (execOp ev o).run P w=.ok (.value (.int .i64 (max (max i j) k))) w:=by
 simp[execOp,hop,hx,hy,hz,go_sem,Builtin.max_,zPs]
theorem zIf (k:Tree):∀ n,zAD (List.replicate n k)=n * zAC k
 | 0=>by simp[zAD]
 | n+1=>by rw[List.replicate_succ,zAD,zIf k n,Nat.succ_mul,Nat.add_comm]
theorem zNi (k:TV) (n:Nat):zAE ((List.replicate n k).map zAR)++(zAO k.1.d (.slice k.2.1 k.1.kids.length k.2.2)).toList=zAE ((List.replicate (n+1) k).map zAR):=by
 rw[List.replicate_succ',List.map_append,zAo];simp[zAE]
theorem zMo (xs:List TV) (y:TV):zAE (xs.map zAR)++(zAO y.1.d (.slice y.2.1 y.1.kids.length y.2.2)).toList=zAE ((xs++[y]).map zAR):=by
 rw[List.map_append,zAo];simp[zAE]
theorem zNC (k:TV) (n:Nat):(List.replicate n k).map (·.1)=List.replicate n k.1:=by rw[List.map_replicate]
theorem zOu (n:Nat) (m:Int) (h:n<=2000) (h1:0<=m) (h2:m<=100):wrap64 ((n:Int) * m)=n * m:=by
 have h3:(0:Int)<=(n:Int) * m:=Int.mul_nonneg (by omega) h1
 have h4:(n:Int) * m<=2000 * 100:=Int.mul_le_mul (by omega) h2 h1 (by decide)
 unfold wrap64;omega
theorem chk {M:Nat->Prop} {P:Program} {f:FuncId} {args:Array Value} {w w0:World} {l:List Res} {ts:List Tree} {G:Nat->Prop} {R:Ending->World->Prop} (c:Calls P f args w fun e w'=>zE9 w G ts e w'/\Below w.heap.size w w') (H:HoldG M w0 w l) (hG:Still l G)
  (k:∀ p n F (xs:List TV) w',Hid (xs.map (·.1)=ts)->(∀ b,F b->w0.heap.size<=b\/G b)->HoldG M w0 w' (l++[.kn F (Knows F p xs.length n xs)])->R (.returned (.slice p xs.length n)) w'):Calls P f args w R:=c.mono fun _ w' h=>by
 obtain⟨⟨p,n,F,rfl,hs,hF⟩,hb⟩:=h;obtain⟨xs,h1,h2,rfl⟩:=hs.open;have hl:(xs.map (·.1)).length=xs.length:=List.length_map ..;rw[hl];exact k p n F xs w' (Lib.hid rfl) (fun b h=>(hF b h).2.imp (fun h=>Nat.le_trans H.keep.size h) id) (H.learn hb hG hF (fun V hV=>⟨h1.kept hV,h2.kept hV⟩))
theorem zJy (d:NodeD) (p0:Option Addr) (n0 c0:Nat) (k:Tree) (p:Option Addr) (c:Nat) (F:Nat->Prop) (w0:World) (hlo:0<=d.lo/\d.lo<=100) (hhi:d.hi = -1\/d.lo<=d.hi/\d.hi<=100) (hk:zAC k<=2000) (hF:∀ b,F b->b<w0.heap.size) (h:ForestR w0 F p c k.kids) :
  Calls Tryz.prog 164 #[zAQ d (.slice p0 n0 c0),zAQ k.d (.slice p k.kids.length c)] w0 fun e w'=>TreeB w0 F (zCQ d k) e w'/\Below w0.heap.size w0 w':=by
 obtain⟨i0,hi0,hz0,hz1,hz2⟩:=info_parts zB1;have H:=(Hold.start w0).know F (fun V=>ForestR V F p c k.kids) hF (fun i r h=>by simp at h) (fun V hV=>h.kept hV)
 clear h;simp only[List.nil_append]at H;have E:zCQ d k=zCQ d k:=rfl
 conv at E=>rhs;unfold zCQ
 have hem:=fun w=>zJ8 w
 have hno:=fun w=>zIw w
 go_enter Tryz.func164,Tryz.ntmps164
 go_upto_region 1 with (first|((with_reducible refine kg 2 ?_);(first|refine kA 2 H ?_|refine kS 2 H ?_|refine kB 2 H ?_);clear H;intro b2 w H;try simp only[nr]at H)|((with_reducible refine kg 3 ?_);(first|refine kA 3 H ?_|refine kS 3 H ?_|refine kB 3 H ?_);clear H;intro b3 w H;try simp only[nr]at H)|((with_reducible refine kg 4 ?_);(first|refine kA 4 H ?_|refine kS 4 H ?_|refine kB 4 H ?_);clear H;intro b4 w H;try simp only[nr]at H)|fail)
 refine ws_ 19 [fun v _=>v=Value.pointer (some ⟨b2,7,none⟩),fun v _=>v=Value.int .i64 (d.hi),fun v _=>v=Value.bool ((d.hi) == (0)),fun v _=>v=Value.bool ((d.hi) == (0)),fun v _=>v=iT (true) ((d.hi) == (0)) false (.pointer (some ⟨b3,0,none⟩)),fun v _=>v=iT (true) ((d.hi) == (0)) false (.int .i64 (k.d.kind)),fun v _=>v=iT (true) ((d.hi) == (0)) false (.bool ((k.d.kind) == (1))),fun v _=>v=Value.bool (((d.hi) == (0)) || ((k.d.kind) == (1))),fun v _=>v=Value.bool (((d.hi) == (0)) || ((k.d.kind) == (1))),fun v _=>v=iT (true) (((d.hi) == (0)) || ((k.d.kind) == (1))) false (.pointer (some ⟨b3,0,none⟩)),fun v _=>v=iT (true) (((d.hi) == (0)) || ((k.d.kind) == (1))) false (.int .i64 (k.d.kind)),fun v _=>v=iT (true) (((d.hi) == (0)) || ((k.d.kind) == (1))) false (.bool ((k.d.kind) == (2))),fun v _=>v=iT (true) (((d.hi) == (0)) || ((k.d.kind) == (1))) false (.bool ((k.d.kind) == (2))),fun v _=>v=iT ((true)&&((((d.hi) == (0)) || ((k.d.kind) == (1))) == false)) ((k.d.kind) == (2)) true (.pointer (some ⟨b2,6,none⟩)),fun v _=>v=iT ((true)&&((((d.hi) == (0)) || ((k.d.kind) == (1))) == false)) ((k.d.kind) == (2)) true (.int .i64 (d.lo)),fun v _=>v=iT ((true)&&((((d.hi) == (0)) || ((k.d.kind) == (1))) == false)) ((k.d.kind) == (2)) true (.bool ((d.lo) == (0))),fun v _=>v=iT (true) (((d.hi) == (0)) || ((k.d.kind) == (1))) false (.bool (((k.d.kind) == (2))&&((d.lo) == (0)))),fun v _=>v=Value.bool ((((d.hi) == (0)) || ((k.d.kind) == (1))) || (((k.d.kind) == (2))&&((d.lo) == (0)))),fun v _=>v=Value.bool ((((d.hi) == (0)) || ((k.d.kind) == (1))) || (((k.d.kind) == (2))&&((d.lo) == (0))))] ?ob ?en
 case ob =>
  refine⟨?_,?_,?_,?_,?_,?_,?_,?_,?_,?_,?_,?_,?_,?_,?_,?_,?_,?_,?_,trivial⟩<;>intro A W h
  ·exact zAA rfl ((by have e:A.eval (.tmp 2)=Value.pointer (some ⟨b2,0,none⟩):=h.f 2;simp only[execOp,e];simp[go_sem]))
  ·exact zAA rfl (zAG rfl (h.d 0 9) zAI ((H.call h.below).cell (i:=1) i_1 7))
  ·exact zAA rfl ((by have e10:A.eval (.tmp 10)=Value.int .i64 (d.hi):=h.d 1 10;simp only[execOp,e10];simp[go_sem]))
  ·exact zAA rfl (zAl (.inl rfl) (h.d 2 11))
  ·refine sy_ (h.d 3 12) fun hC=>?_;exact(by have e:A.eval (.tmp 3)=Value.pointer (some ⟨b3,0,none⟩):=h.f 3;simp only[execOp,e];simp[go_sem])
  ·refine sy_ (h.d 3 12) fun hC=>?_;exact zAG rfl (zAS (h.d 4 13) hC) zAh ((H.call h.below).cell (i:=2) i_2 0)
  ·refine sy_ (h.d 3 12) fun hC=>?_;exact(by have e14:A.eval (.tmp 14)=Value.int .i64 (k.d.kind):=zAS (h.d 5 14) hC;simp only[execOp,e14];simp[go_sem])
  ·exact zAA rfl (zHt rfl (h.d 3 12) (fun hb2=>zAS (h.d 6 15) (by (first|(rw[hb2];rfl)|simp[hb2]))))
  ·exact zAA rfl (zAl (.inl rfl) (h.d 7 16))
  ·refine sy_ (h.d 8 17) fun hC=>?_;exact(by have e:A.eval (.tmp 3)=Value.pointer (some ⟨b3,0,none⟩):=h.f 3;simp only[execOp,e];simp[go_sem])
  ·refine sy_ (h.d 8 17) fun hC=>?_;exact zAG rfl (zAS (h.d 9 18) hC) zAh ((H.call h.below).cell (i:=2) i_2 0)
  ·refine sy_ (h.d 8 17) fun hC=>?_;exact(by have e19:A.eval (.tmp 19)=Value.int .i64 (k.d.kind):=zAS (h.d 10 19) hC;simp only[execOp,e19];simp[go_sem])
  ·refine sy_ (h.d 8 17) fun hC=>?_;exact zAl (.inl rfl) (zAS (h.d 11 20) hC)
  ·refine sy_ (h.d 12 21) fun hC=>?_;exact(by have e:A.eval (.tmp 2)=Value.pointer (some ⟨b2,0,none⟩):=h.f 2;simp only[execOp,e];simp[go_sem])
  ·refine sy_ (h.d 12 21) fun hC=>?_;exact zAG rfl (zAS (h.d 13 22) hC) zAI ((H.call h.below).cell (i:=1) i_1 6)
  ·refine sy_ (h.d 12 21) fun hC=>?_;exact(by have e23:A.eval (.tmp 23)=Value.int .i64 (d.lo):=zAS (h.d 14 23) hC;simp only[execOp,e23];simp[go_sem])
  ·refine sy_ (h.d 8 17) fun hC=>?_;exact zBJ rfl (zAS (h.d 12 21) hC) (fun hb2=>zAS (h.d 15 24) (by (first|(rw[hC,hb2];rfl)|(rw[hb2];rfl)|simp[hb2,hC])))
  ·exact zAA rfl (zHt rfl (h.d 8 17) (fun hb2=>zAS (h.d 16 25) (by (first|(rw[hb2];rfl)|simp[hb2]))))
  ·exact zAA rfl (zAl (.inr rfl) (h.d 17 26))
 case en =>
  intro vals W hbw hv _;have v18:vals 18=_:=hv 18 (by omega)
  simp only[fa,Nat.reduceAdd];rw[v18];clear hv v18
  try simp only[pl]
  have H:=H.call hbw;rw[zNo]
  by_cases hA:d.hi=0\/k.d.kind=1\/k.d.kind=2/\d.lo=0
  ·rw[if_pos hA]at E;have E2:=Lib.hid E;clear E;rw[decide_eq_true hA];clear hA
   go_wp2_with (first|((with_reducible refine gT ?_);(refine aT H ?_;clear H;intro w H;try simp only[nr]at H))|((with_reducible refine ch (hem _) H ?_);clear H;intro w H))
   (refine xct Tryz.results164 H ?_)
   exact⟨TreeB.leaf E2.out,H.below⟩
  ·rw[if_neg hA]at E;rw[decide_eq_false hA];have hhi0:d.hi≠0:=fun e=>hA (.inl e)
   clear hA
   by_cases h2:k.d.kind=2
   ·have d2:(k.d.kind == 2)=true:=by rw[beq_iff_eq];exact h2
    rw[if_pos h2]at E;have E2:=Lib.hid E;clear E h2
    go_wp2_with (first|(first|((with_reducible refine gT ?_);(refine aT H ?_;clear H;intro w H;try simp only[nr]at H))|((with_reducible refine gL ?_);refine aG H ?_))|((with_reducible refine ch (hno _) H ?_);clear H;intro w H))
    (refine xct Tryz.results164 H ?_)
    exact⟨TreeB.leaf E2.out,H.below⟩
   ·have d2:(k.d.kind == 2)=false:=by rw[beq_eq_false_iff_ne];exact h2
    rw[if_neg h2]at E;clear h2
    go_upto_region 5 with (first|((with_reducible refine gL ?_);refine aG H ?_))
    go_wp2_with fail
    obtain⟨T,hT,fw,hf,h0⟩:=fam W;have e6:=fun x=>(H.call (hf x)).cell (i:=1) i_1 6
    have e7:=fun x=>(H.call (hf x)).cell (i:=1) i_1 7
    simp only[ng6,ng7]at e6 e7;have hC:=fun x=>zPX hf h0 x (zGk _ k p _ c F (fw x) hk (by decide) ((H.call (hf x)).knlt .zero) ((H.call (hf x)).kn .zero) rfl)
    refine zCl fw (by kernel_rfl) (by kernel_rfl) h0 ?_
    go_big_quiet_want
    refine zJR (v:=zAQ k.d (.slice p k.kids.length c)) ?_ ?_
    ·rintro _ ⟨x,rfl⟩;exact zAV rfl rfl zAK rfl (fun j _=>by rw[Nat.zero_add];exact(H.call (hf x)).cell (i:=2) i_2 j)
    simp only[pl]
    go_big_quiet_on
    repeat (go_big_quiet_step (with_reducible exact hC _))
    go_big_quiet_want
    refine zJR (fun _ _=>zPk rfl rfl rfl rfl) ?_
    simp only[pl]
    go_big_quiet_on
    repeat (go_big_quiet_step (fail))
    refine wpQuiet_nil ?_
    rintro _ ⟨x,rfl⟩;replace H:=H.call (hf x);obtain⟨wq,hwq⟩:∃ wq,fw x=wq:=⟨_,rfl⟩;rw[hwq]at H ⊢;clear hwq e6 e7 hC h0 hf;clear x fw hT T;rw[zOu _ _ hk (by omega) (by omega)]
    have hmx:max (max d.lo d.hi) 1=max d.lo (max d.hi 1):=by omega
    rw[hmx]at E ⊢;clear hmx
    by_cases h4:(4000:Int)<(zAC k:Int) * max d.lo (max d.hi 1)
    ·rw[if_pos h4]at E;rw[decide_eq_true h4];have E2:=Lib.hid E;clear E h4
     go_wp2_with (first|((with_reducible refine gT ?_);(refine aT H ?_;clear H;intro w H;try simp only[nr]at H))|((with_reducible refine ch (hno _) H ?_);clear H;intro w H))
     (refine xct Tryz.results164 H ?_)
     exact⟨TreeB.no E2.out,H.below⟩
    ·rw[if_neg h4]at E;rw[decide_eq_false h4];have E2:=Lib.hid E;clear E h4;obtain⟨lo,hl⟩:∃ lo:Nat,d.lo=lo:=⟨d.lo.toNat,by omega⟩
     have hlo2:lo<=100:=by omega
     have HLO:=Lib.hid hl;clear hl;replace H:=H.addNil 28 10;simp only[List.nil_append,List.cons_append]at H
     go_wp2_with fail
     go_loopw [6,7] (fun vs ix wr=>∃ (j:Nat) (vq:Option Addr) (vc:Nat),j<=lo/\vs=.slice vq j vc/\ix=.int .i64 j/\Hold w0 wr [.kn F (fun V=>ForestR V F p c k.kids),.blk b2 (zAO d (.slice p0 n0 c0)) 28,.blk b3 (zAO k.d (.slice p k.kids.length c)) 28,.blk b4 (zAO {kind:=0} nilS) 28,.row (.slice vq j vc) 28 10 j (zAE ((List.replicate j ((k,p,c):TV)).map zAR))]) (fun _ ix _=>lo+1 - (intOf ix).toNat)
     case atStart=>exact⟨0,none,0,by omega,rfl,rfl,H⟩
     case round =>
      clear H;obtain⟨j,vq,vc,hj,rfl,rfl,H⟩:=hrel
      by_cases hlt:j<lo
      ·have dj:decide ((j:Int)<d.lo)=true:=by have:=HLO.out;simp;omega
       go_wp2_with (first|(at_builtin;refine zAk rfl _ _ 26 rfl H (i:=4) (j:=5) evd_ rfl i_4 i_5 Tryz.underlying26 hi0 hz0 hz1 hz2 rfl (by decide) rfl rfl (by unfold maxLen;omega) (by omega) ?_;clear H;intro v2 w H;(try simp only[nr]at H);(obtain⟨q2,c2,rfl,_,_,_⟩:=H.rowShape (i:=4) i_4))|((with_reducible refine gBS ?_);refine zAY wtd_ _ _ _ rfl H (zAO (k.d) (.slice p k.kids.length c)) 28 (by intro W;simp only[ml];(try simp only[pe]);exact zBQ _ _ W) ?_;clear H;intro bk w H;try simp only[nr]at H)|((with_reducible refine gL ?_);(first|refine aG H ?_|refine aD H ?_)))
       rw[zNi (k,p,c) j]at H;go_roundw
       case rel=>exact⟨j+1,q2,c2,by omega,rfl,by go_num,H.pick [0,1,2,3,4] _ (by decide) rfl⟩
       case measure=>simp[intOf];omega
      ·have hjn:j=lo:=by omega
       have dj:decide ((j:Int)<d.lo)=false:=by have:=HLO.out;simp;omega
       clear hj hlt;have HSZ:=Lib.hid (zIf k j);have HSZ2:=Lib.hid (show j * zAC k<=100 * 2000 from Nat.mul_le_mul (by omega) hk)
       have hj1:j<=100:=by omega
       have HJN:=Lib.hid hjn;clear hjn
       by_cases hn:d.hi<0
       ·have dn:decide (d.hi<0)=true:=by simp;exact hn
        have hag:=fun (w:World) (h1:∀ b,F b->b<w.heap.size) (h2:ForestR w F p c k.kids)=>show Calls Tryz.prog 189 #[.agg (zAO d (.slice p0 n0 c0)),.agg (zAO k.d (.slice p k.kids.length c)),.int .i64 (-1)] w fun e w'=>zB7 w F (zB9 d k (-1)) e w'/\Below w.heap.size w w' from zJt d p0 n0 c0 k p c (-1) F w h1 h2
        have E3:=Lib.hid (show zCQ d k=some (catT (List.replicate j k++[zB9 d k (-1)])) by rw[E2.out,if_pos hn,HLO.out,Int.toNat_natCast,HJN.out])
        clear E2 hn
        go_upto_region 13 with (first|((with_reducible refine gL ?_);refine aG H ?_))
        clear hhi0 d2 dj dn hhi hlo hem hno hlo2
        go_upto_region 15 with (first|(at_builtin;refine zAk rfl _ _ 26 rfl H (i:=4) (j:=6) evd_ rfl i_4 i_6 Tryz.underlying26 hi0 hz0 hz1 hz2 rfl (by decide) rfl rfl (by unfold maxLen;omega) (by omega) ?_;clear H;intro v2 w H;try simp only[nr]at H)|((with_reducible refine gBS ?_);refine zAY wtd_ _ _ _ rfl H (zAO ((zB9 d k (-1)).d) (.slice q1 (zB9 d k (-1)).kids.length m1)) 28 (by intro W;simp only[ml];(try simp only[pe]);exact zBQ _ _ W) ?_;clear H;intro bk w H;try simp only[nr]at H)|((with_reducible refine gL ?_);refine aD H ?_)|(go_at_call 189;refine cht (hag _ (H.knlt (i:=0) .zero) (H.kn (i:=0) .zero)) H (Still.at (i:=0) .zero) ?_;clear H;intro q1 m1 F1 w hF1 H))
        obtain⟨q2,c2,rfl,_,_,_⟩:=H.rowShape (i:=4) i_4;rw[zMo (List.replicate j ((k,p,c):TV)) (zB9 d k (-1),q1,m1)]at H
        obtain⟨G,hG,H2⟩:=H.rowForest (i:=4) (xs:=List.replicate j ((k,p,c):TV)++[(zB9 d k (-1),q1,m1)]) (K:=fun b=>F b\/F1 b) i_4 (by simp) ((Still.at (i:=0) .zero).or (Still.at (i:=5) i_5)) (fun y hy=>by
         rcases List.mem_append.1 hy with hy|hy
         ·obtain rfl:=List.eq_of_mem_replicate hy;exact(H.kn (i:=0) .zero).mono (fun _ h=>.inl h)
         ·obtain rfl:=List.mem_singleton.1 hy
          exact(H.kn (i:=5) i_5).mono (fun _ h=>.inr h))
        clear H;have H:=H2;clear H2;simp only[sc]at H;have EM:(List.replicate j ((k,p,c):TV)++[((zB9 d k (-1),q1,m1):TV)]).map (·.1)=List.replicate j k++[zB9 d k (-1)]:=by rw[List.map_append,zNC];rfl
        rw[EM]at H;have hsz:zAD (List.replicate j k++[zB9 d k (-1)])<=1000000000:=by
         have h1:=HSZ.out;have h2:=HSZ2.out;have h3:=zD4 d k (-1);rw[zAc,h1];simp only[zAD];omega
        have hGl:∀ b,G b->w0.heap.size<=b\/F b:=fun b hb=>(hG b hb).elim .inl (fun h=>h.elim .inr (fun h=>hF1 b h))
        clear hG EM hag HSZ HSZ2;have hcat:=fun W (h1:∀ b,G b->b<W.heap.size) (h2:ForestR W G q2 c2 _)=>zIc q2 (j+1) c2 G (List.replicate j k++[zB9 d k (-1)]) W h1 h2 (by simp) hsz
        generalize catT (List.replicate j k++[zB9 d k (-1)])=ct at hcat E3
        clear hsz
        go_wp2_with (first|((with_reducible refine gT ?_);(refine aT H ?_;clear H;intro w H;try simp only[nr]at H))|(go_at_call 161;refine cht (hcat _ (H.knlt (i:=4) i_4) (H.kn (i:=4) i_4)) H (Still.at (i:=4) i_4) ?_;clear H;intro q3 m3 F3 w hF3 H;simp only[ca]at H))
        (refine xct Tryz.results164 H ?_)
        refine⟨?_,H.below⟩;rw[E3.out];exact⟨q3,m3,F3,rfl,H.kn (i:=7) i_7,fun b h=>⟨H.knlt (i:=7) i_7 b h,(hF3 b h).elim .inl (hGl b)⟩⟩
       ·have dn:decide (d.hi<0)=false:=by simp;omega
        obtain⟨m,hm⟩:∃ m:Nat,d.hi - d.lo=m:=⟨(d.hi - d.lo).toNat,by omega⟩
        have hm2:m<=100:=by omega
        have hw1:IntKind.i64.wrap (d.hi - d.lo)=d.hi - d.lo:=by rw[IntKind.wrap_i64];omega
        have E3:=Lib.hid (show zCQ d k=some (catT (List.replicate j k++zCV d k m)) by rw[E2.out,if_neg hn,HLO.out,Int.toNat_natCast,HJN.out,← HLO.out,hm,Int.toNat_natCast])
        have hre:=fun (w:World) (h1:∀ b,F b->b<w.heap.size) (h2:ForestR w F p c k.kids)=>show Calls Tryz.prog 190 #[.agg (zAO d (.slice p0 n0 c0)),.agg (zAO k.d (.slice p k.kids.length c)),.int .i64 (d.hi - d.lo)] w fun e w'=>zE9 w F (zCV d k m) e w'/\Below w.heap.size w w' from (by rw[hm];exact zLA m d p0 n0 c0 k p c F w hm2 hk h1 h2)
        have HSR:=Lib.hid (zFf d k m);have HLR:=Lib.hid (zLl d k m);have hmk:m * (zAC k+2)<=100 * 2002:=Nat.mul_le_mul hm2 (by omega)
        have HMK:=Lib.hid hmk;clear hmk
        generalize zCV d k m=rs at hre HSR HLR E3
        clear E2 hn hm hhi0 d2 hem hno hlo2
        go_upto_region 14 with (first|((with_reducible refine gL ?_);refine aG H ?_))
        clear dn dj
        go_upto_region 15 with (first|(at_builtin;(have HL1:=HLR.out);(have HX1:=congrArg List.length HX.out);(rw[List.length_map]at HX1);refine zBA rfl _ _ 26 rfl H (i:=4) evd_ evd_ i_4 (Knows.rd (H.kn (i:=5) i_5)) (zBS _) Tryz.underlying26 hi0 hz0 hz1 hz2 rfl (by decide) (zFu _) (by unfold maxLen;omega) (by omega) ?_;clear H HL1 HX1;intro v2 w H;try simp only[nr]at H)|((with_reducible refine gL ?_);(first|refine aG H ?_|refine aD H ?_))|(go_at_call 190;refine chk (hre _ (H.knlt (i:=0) .zero) (H.kn (i:=0) .zero)) H (Still.at (i:=0) .zero) ?_;clear H;intro q1 m1 F1 xs w HX hF1 H;simp only[ca]at H))
        obtain⟨q2,c2,rfl,_,_,_⟩:=H.rowShape (i:=4) i_4;rw[← zAo,← List.map_append]at H
        obtain⟨G,hG,H2⟩:=H.rowForest (i:=4) (xs:=List.replicate j ((k,p,c):TV)++xs) (K:=fun b=>F b\/F1 b) i_4 (by simp) ((Still.at (i:=0) .zero).or (Still.at (i:=5) i_5)) (fun y hy=>by
         rcases List.mem_append.1 hy with hy|hy
         ·obtain rfl:=List.eq_of_mem_replicate hy;exact(H.kn (i:=0) .zero).mono (fun _ h=>.inl h)
         ·exact((H.kn (i:=5) i_5).2 y hy).mono (fun _ h=>.inr h))
        clear H;have H:=H2;clear H2;simp only[sc]at H;have EM:(List.replicate j ((k,p,c):TV)++xs).map (·.1)=List.replicate j k++rs:=by rw[List.map_append,zNC,HX.out]
        have hxl:j+xs.length=(List.replicate j k++rs).length:=by rw[← HX.out];simp
        rw[EM]at H;have hsz:zAD (List.replicate j k++rs)<=1000000000:=by
         have h1:=HSZ.out;have h2:=HSZ2.out;have h3:=HSR.out;have h4:=HMK.out;rw[zAc,h1];omega
        have hGl:∀ b,G b->w0.heap.size<=b\/F b:=fun b hb=>(hG b hb).elim .inl (fun h=>h.elim .inr (fun h=>hF1 b h))
        have hcat:=fun W (h1:∀ b,G b->b<W.heap.size) (h2:ForestR W G q2 c2 _)=>zIc q2 (j+xs.length) c2 G (List.replicate j k++rs) W h1 h2 hxl hsz
        clear hG EM hre HSZ HSZ2 hxl
        generalize catT (List.replicate j k++rs)=ct at hcat E3
        clear hsz
        go_wp2_with (first|((with_reducible refine gT ?_);(refine aT H ?_;clear H;intro w H;try simp only[nr]at H))|(go_at_call 161;refine cht (hcat _ (H.knlt (i:=4) i_4) (H.kn (i:=4) i_4)) H (Still.at (i:=4) i_4) ?_;clear H;intro q3 m3 F3 w hF3 H;simp only[ca]at H))
        (refine xct Tryz.results164 H ?_)
        refine⟨?_,H.below⟩;rw[E3.out];exact⟨q3,m3,F3,rfl,H.kn (i:=6) i_6,fun b h=>⟨H.knlt (i:=6) i_6 b h,(hF3 b h).elim .inl (hGl b)⟩⟩
section
variable {M:Nat->Prop} {P:Program} {f:FuncId} {args:Array Value} {w w0:World} {l:List Res} {G:Nat->Prop} {R:Ending->World->Prop}
theorem zLN {t:Tree} (c:Calls P f args w fun e w'=>TreeB w G (some t) e w'/\Below w.heap.size w w') (H:HoldG M w0 w l) (hG:Still l G)
  (k:∀ p n F w',(∀ b,F b->w0.heap.size<=b\/G b)->HoldG M w0 w' (l++[.kn F (fun V=>ForestR V F p n t.kids)])->R (.returned (.tuple #[zAQ t.d (.slice p t.kids.length n),.bool true])) w'):Calls P f args w R:=c.mono fun _ w' h=>by
 obtain⟨⟨p,n,F,rfl,hs,hF⟩,hb⟩:=h;exact k p n F w' (fun b h=>(hF b h).2.imp (fun h=>Nat.le_trans H.keep.size h) id) (H.learn hb hG hF (fun V hV=>hs.kept hV))
theorem zLM (c:Calls P f args w fun e w'=>TreeB w G none e w'/\Below w.heap.size w w') (H:HoldG M w0 w l)
  (k:∀ d p n m w',HoldG M w0 w' l->R (.returned (.tuple #[zAQ d (.slice p n m),.bool false])) w'):Calls P f args w R:=c.mono fun _ w' h=>by
 obtain⟨⟨d,p,n,m,rfl⟩,hb⟩:=h;exact k d p n m w' (H.call hb)
theorem HoldG.rowKnows (H:HoldG M w0 w l) {i N cap:Nat} {q:Option Addr} {T:TypeId} {xs:List TV} {K:Nat->Prop} (hi:At l i (.row (.slice q N cap) T 10 N (zAE (xs.map zAR)))) (hN:xs.length=N) (hK:Still l K) (hL:ListR w K xs) :
  ∃ G:Nat->Prop,(∀ b,G b->w0.heap.size<=b\/K b)/\HoldG M w0 w (l.set i (.kn G (Knows G q N cap xs))):=by
 have ho:=H.all i _ hi.get;have hrd:∀ V:World,(∀ b,(Value.slice q N cap).ownBlock=some b->V.heap[b]?=w.heap[b]?)->RdN 10 V (fun b=>(Value.slice q N cap).ownBlock=some b) (.slice q N cap) (xs.map zAR):=fun V hV=>RdN.of_own ho (zBS xs) (by rw[List.length_map];exact hN) hV
 refine⟨fun b=>(Value.slice q N cap).ownBlock=some b\/K b,fun b hb=>hb.imp (fun hb=>?_) id,H.restG hi _ _ (fun b hb=>hb.imp id (hK b)) (fun V hV=>⟨(hrd V (fun b hb=>hV b (.inl hb))).mono (fun _ h=>.inl h),fun x hx=>((hL x hx).mono (fun _ h=>.inr h)).kept hV⟩)⟩
 obtain⟨_,⟨hv,_⟩|⟨g,cap',cur,hv,hg,_⟩⟩:=ho
 ·cases hv;cases hb
 ·cases hv;cases hb;exact hg
end
theorem Knows.forestN {F:Nat->Prop} {p:Option Addr} {n c:Nat} {xs:List TV} {V:World} (h:Knows F p n c xs V) (hn:xs.length=n):ForestR V F p c (xs.map (·.1)):=.mk _ _ _ xs (by rw[List.length_map,hn];exact h.1) h.2 rfl
theorem ok_7 {d:NodeD} {k:Nat} (h:zA7 d k=true) (h7:d.kind=7):k=1:=by
 simp[zA7,zAf,h7]at h;omega
theorem ok_6 {d:NodeD} {k:Nat} (h:zA7 d k=true) (h6:d.kind=6):k=1/\(0<=d.lo/\d.lo<=100)/\(d.hi = -1\/d.lo<=d.hi/\d.hi<=100):=by
 simp[zA7,zAf,h6]at h;omega
def CallB (n:Nat) (G:Nat->Prop) (o:Option Tree) (v:Value) (W:World):Prop:=match o with
 | some t=>∃ q m F,v=.tuple #[zAQ t.d (.slice q t.kids.length m),.bool true]/\ForestR W F q m t.kids/\∀ b,F b->b<W.heap.size/\(n<=b\/G b)
 | none=>∃ d q k m,v=.tuple #[zAQ d (.slice q k m),.bool false]
def FstB (n:Nat) (G:Nat->Prop) (o:Option Tree) (v:Value) (W:World):Prop:=match o with
 | some t=>∃ q m F,v=zAQ t.d (.slice q t.kids.length m)/\ForestR W F q m t.kids/\∀ b,F b->b<W.heap.size/\(n<=b\/G b)
 | none=>∃ d q k m,v=zAQ d (.slice q k m)
theorem zGD {n:Nat} {G:Nat->Prop} {o:Option Tree}:zEz (CallB n G o):=fun v w w' h hb=>by
 cases o with
 | none=>exact h
 | some t =>
  obtain⟨q,m,F,e,hs,hF⟩:=h;exact⟨q,m,F,e,hs.kept (fun b h=>hb.block b (hF b h).1),fun b h=>⟨Nat.lt_of_lt_of_le (hF b h).1 hb.size,(hF b h).2⟩⟩
theorem zKI {n:Nat} {G:Nat->Prop} {o:Option Tree}:zEz (FstB n G o):=fun v w w' h hb=>by
 cases o with
 | none=>exact h
 | some t =>
  obtain⟨q,m,F,e,hs,hF⟩:=h;exact⟨q,m,F,e,hs.kept (fun b h=>hb.block b (hF b h).1),fun b h=>⟨Nat.lt_of_lt_of_le (hF b h).1 hb.size,(hF b h).2⟩⟩
theorem CallB.fst {n:Nat} {G:Nat->Prop} {o:Option Tree} {v:Value} {W:World} (h:CallB n G o v W):∃ x,v=.tuple #[x,.bool o.isSome]/\FstB n G o x W:=by
 cases o with
 | none =>
  obtain⟨d,q,k,m,e⟩:=h;exact⟨_,e,d,q,k,m,rfl⟩
 | some t =>
  obtain⟨q,m,F,e,hs,hF⟩:=h;exact⟨_,e,q,m,F,rfl,hs,hF⟩
theorem TreeB.callB {n:Nat} {w w':World} {G:Nat->Prop} {o:Option Tree} {e:Ending} (h:TreeB w G o e w') (hn:n<=w.heap.size):∃ v,e=.returned v/\CallB n G o v w':=by
 cases o with
 | none =>
  obtain⟨d,p,k,c,rfl⟩:=h;exact⟨_,rfl,d,p,k,c,rfl⟩
 | some t =>
  obtain⟨p,c,F,rfl,hs,hF⟩:=h;exact⟨_,rfl,p,c,F,rfl,hs,fun b h=>⟨(hF b h).1,(hF b h).2.imp (Nat.le_trans hn) id⟩⟩
theorem zRx (t:Array Value) (h:t.size=73):∃ x0 x1 x2 x3 x4 x5 x6 x7 x8 x9 x10 x11 x12 x13 x14 x15 x16 x17 x18 x19 x20 x21 x22 x23 x24 x25 x26 x27 x28 x29 x30 x31 x32 x33 x34 x35 x36 x37 x38 x39 x40 x41 x42 x43 x44 x45 x46 x47 x48 x49 x50 x51 x52 x53 x54 x55 x56 x57 x58 x59 x60 x61 x62 x63 x64 x65 x66 x67 x68 x69 x70 x71 x72:Value,t=List.toArray (x0::x1::x2::x3::x4::x5::x6::x7::x8::x9::x10::x11::x12::x13::x14::x15::x16::x17::x18::x19::x20::x21::x22::x23::x24::x25::x26::x27::x28::x29::x30::x31::x32::x33::x34::x35::x36::x37::x38::x39::x40::x41::x42::x43::x44::x45::x46::x47::x48::x49::x50::x51::x52::x53::x54::x55::x56::x57::x58::x59::x60::x61::x62::x63::x64::x65::x66::x67::x68::x69::x70::x71::x72::[]):=by
 rw[zKX t 73 h];exact⟨_,_,_,_,_,_,_,_,_,_,_,_,_,_,_,_,_,_,_,_,_,_,_,_,_,_,_,_,_,_,_,_,_,_,_,_,_,_,_,_,_,_,_,_,_,_,_,_,_,_,_,_,_,_,_,_,_,_,_,_,_,_,_,_,_,_,_,_,_,_,_,_,_,rfl⟩
theorem zJ4 {d:NodeD} {k s:Tree} (h:zCQ d k=some s) (hk:zAC k<=2000) (hl0:0<=d.lo) (hlo:d.lo<=100) (hhi:d.hi<=100):zAC s<=1000000:=by
 unfold zCQ at h;split at h
 ·cases h;rw[zDt];omega
 split at h
 ·cases h;rw[zDt];omega
 split at h
 ·cases h
 ·cases h
  refine Nat.le_trans (zES _) ?_
  have h1:d.lo.toNat * zAC k<=100 * 2000:=Nat.mul_le_mul (by omega) hk
  rw[zAc,zIf];split
  ·rw[zA6,zD4];omega
  ·rename_i hn;have h2:=zFf d k (d.hi - d.lo).toNat;have h3:(d.hi - d.lo).toNat * (zAC k+2)<=100 * 2002:=Nat.mul_le_mul (by omega) (by omega)
   omega
def zR9 (w0 w:World) (F:Nat->Prop) (b2 b8:Nat) (o:Option Tree):Prop:=match o with
 | some t=>∃ q c G,(∀ b,G b->w0.heap.size<=b\/F b)/\Hold w0 w [.blk b2 (zAO {kind:=0} nilS) 28,.blk b8 (zAO t.d (.slice q t.kids.length c)) 28,.kn G (fun V=>ForestR V G q c t.kids)]
 | none=>∃ d q n c,Hold w0 w [.blk b2 (zAO {kind:=0} nilS) 28,.blk b8 (zAO d (.slice q n c)) 28]
theorem zHu:∀ (m:Nat) (t:Tree) (p:Option Addr) (n c:Nat) (F:Nat->Prop) (w0:World),zAC t<=m->m<=2000->zAi t=true->(∀ b,F b->b<w0.heap.size)->ForestR w0 F p c t.kids->n=t.kids.length ->
  Calls Tryz.prog 119 #[zAQ t.d (.slice p n c)] w0 fun e w'=>TreeB w0 F (zAv t) e w'/\Below w0.heap.size w0 w'
 | 0,t,_,_,_,_,_,hm,_,_,_,_,_=>by have:=zAy t;omega
 | m+1,.mk d ts,p,n,c,F,w0,hm,hm2,hkd,hF,h,hn=>by
  have IH:=zHu m;obtain⟨i0,hi0,hz0,hz1,hz2⟩:=info_parts zB1;simp only[Tree.kids,Tree.d]at h hn ⊢;simp only[zAi,Bool.and_eq_true]at hkd;obtain⟨xs,h1,h2,rfl⟩:=h.open;have hn':=hn;rw[List.length_map]at hn;rw[← hn]at h1;have hK:Knows F p n c xs w0:=⟨h1,h2⟩;clear h h1 h2;have H:=Hold.knows hF hK;have hc1:=hK.bound.2.1;have hc2:=hK.bound.2.2;have hp:=hK.at;clear hK;simp only[zAC]at hm;have hnl:n<=2000:=by have:=zBP (xs.map (·.1));omega
  have HN:=Lib.hid hn;have HN2:=Lib.hid hn';clear hn hn';have HKD:=Lib.hid hkd;clear hkd;have hno:=fun w=>zIw w
  go_enter Tryz.func119,Tryz.ntmps119
  replace H:=(H.addNil 28 10).know (fun _=>False) (fun V=>ListR V (fun _=>False) []) (fun _ h=>h.elim) (fun _ _ _ _ _ h=>h) (fun V _=>ListR.nil _ _)
  simp only[List.nil_append,List.cons_append]at H
  go_wp2_with (first|((with_reducible refine kg 1 ?_);(first|refine kA 1 H ?_|refine kS 1 H ?_|refine kB 1 H ?_);clear H;intro b1 w H;try simp only[nr]at H)|((with_reducible refine kg 2 ?_);(first|refine kA 2 H ?_|refine kS 2 H ?_|refine kB 2 H ?_);clear H;intro b2 w H;try simp only[nr]at H)|fail)
  go_loopw [4,5] (fun vs ix wr=>∃ (j:Nat) (xa:List TV) (vq:Option Addr) (vc:Nat) (Fa:Nat->Prop),j<=n/\vs=.slice vq j vc/\ix=.int .i64 j/\xa.length=j/\Hid (zAs ((xs.map (·.1)).take j)=some (xa.map (·.1)))/\(∀ b,Fa b->w0.heap.size<=b\/F b)/\Hold w0 wr [.kn F (Knows F p n c xs),.row (.slice vq j vc) 28 10 j (zAE (xa.map zAR)),.kn Fa (fun V=>ListR V Fa xa),.blk b1 (zAO d (.slice p n c)) 28,.blk b2 (zAO {kind:=0} nilS) 28]) (fun _ ix _=>n+1 - (intOf ix).toNat)
  case atStart=>exact⟨0,[],none,0,fun _=>False,by omega,rfl,rfl,rfl,Lib.hid rfl,fun _ h=>h.elim,H⟩
  case round =>
   clear H;obtain⟨j,xa,vq,vc,Fa,hj,rfl,rfl,hxl,E,hFa,H⟩:=hrel
   by_cases hlt:j<n
   ·have dj:decide ((j:Int)<(n:Int))=true:=by simp;omega
    obtain⟨x,hx⟩:∃ x,xs[j]?=some x:=⟨_,List.getElem?_eq_getElem (by rw[← HN.out];exact hlt)⟩
    obtain⟨b,off,rfl⟩:=hp (by rw[← HN.out];omega)
    have hs1:=zCC hx;have hmem:=List.mem_of_getElem? hx;have hx':(xs.map (·.1))[j]?=some x.1:=by rw[List.getElem?_map,hx];rfl
    have hkx:zAi x.1=true:=zCv HKD.out.2 hx';have hcell:∀ V,Knows F (some ⟨b,off,none⟩) n c xs V->∀ k,k<10->V.cell? ⟨b,off+j * 10+k,none⟩=(zAR x)[k]?:=fun V h=>h.cells hx rfl
    have ih:=fun w (hw:∀ b,F b->b<w.heap.size) (hk:Knows F (some ⟨b,off,none⟩) n c xs w)=>IH x.1 x.2.1 _ x.2.2 F w (by omega) (by omega) hkx hw (hk.2 x hmem) rfl
    have HX:=Lib.hid hxl;clear IH hx hmem hp hs1 hxl hkx
    cases hsx:zAv x.1 with
    | none =>
     rw[hsx]at ih;have E2:=Lib.hid (show zAv (.mk d (xs.map (·.1)))=none by rw[zAv,zEJ hx' hsx])
     clear hsx hx'
     go_wp2_with (first|((with_reducible refine gL ?_);refine zAM wtd_ _ _ rfl rfl zAK (zAW x) (hcell _ (H.kn (i:=0) .zero)) ?_)|(first|((with_reducible refine gT ?_);(refine aT H ?_;clear H;intro w H;try simp only[nr]at H))|((with_reducible refine gL ?_);refine aG H ?_)|((with_reducible refine gA ?_);(refine bA H ?_;clear H;intro b w H;try simp only[nr]at H)))|(go_at_call 119;refine zLM (ih _ (H.knlt (i:=0) .zero) (H.kn (i:=0) .zero)) H ?_;clear H;intro d1 q1 k1 m1 w H)|((with_reducible refine ch (hno _) H ?_);clear H;intro w H))
     (refine xct Tryz.results119 H ?_)
     exact⟨TreeB.no E2.out,H.below⟩
    | some s =>
     rw[hsx]at ih;have E2:=Lib.hid (show zAs ((xs.map (·.1)).take (j+1))=some (xa.map (·.1)++[s]) by rw[zBc hx'];exact zEB _ _ E.out hsx)
     clear hsx hx'
     go_wp2_with (first|((with_reducible refine gL ?_);refine zAM wtd_ _ _ rfl rfl zAK (zAW x) (hcell _ (H.kn (i:=0) .zero)) ?_)|(at_builtin;refine zAk rfl _ _ 26 rfl H (i:=1) (j:=7) evd_ rfl i_1 i_7 Tryz.underlying26 hi0 hz0 hz1 hz2 rfl (by decide) rfl rfl (by unfold maxLen;omega) (by omega) ?_;clear H;intro v2 w H;(try simp only[nr]at H);(obtain⟨q2,c2,rfl,_,_,_⟩:=H.rowShape (i:=1) i_1))|((with_reducible refine gBS ?_);refine zAY wtd_ _ _ _ rfl H (zAO (s.d) (.slice q1 s.kids.length m1)) 28 (by intro W;simp only[ml];(try simp only[pe]);exact zBQ _ _ W) ?_;clear H;intro bk w H;try simp only[nr]at H)|(first|((with_reducible refine gT ?_);(refine aT H ?_;clear H;intro w H;try simp only[nr]at H))|((with_reducible refine gL ?_);(first|refine aG H ?_|refine aD H ?_))|((with_reducible refine gA ?_);(refine bA H ?_;clear H;intro b w H;try simp only[nr]at H)))|(go_at_call 119;refine zLN (ih _ (H.knlt (i:=0) .zero) (H.kn (i:=0) .zero)) H (Still.at (i:=0) .zero) ?_;clear H;intro q1 m1 F1 w hF1 H;simp only[ca]at H))
     have H2:=H.rowGrown (i:=1) (k:=2) (k2:=5) (xs:=xa) (ys:=xa) (by rw[HX.out];exact i_1) i_2 i_5 (xa++[(s,q1,m1)]) (fun y hy=>(List.mem_append.1 hy).imp id List.mem_singleton.1)
     have hl2:(xa++[((s,q1,m1):TV)]).length=j+1:=by simp[HX.out]
     rw[hl2]at H2;have HL:=Lib.hid hl2;clear hl2;go_roundw
     case rel=>exact⟨j+1,xa++[(s,q1,m1)],q2,c2,fun b=>Fa b\/F1 b,by omega,rfl,by go_num,HL.out,Lib.hid (by rw[List.map_append];exact E2.out),fun b h=>h.elim (hFa b) (hF1 b),H2.pick [0,1,8,3,4] _ (by decide) rfl⟩
     case measure=>simp[intOf];omega
   ·have hjn:n=j:=by omega
    subst hjn;have dj:decide ((n:Int)<(n:Int))=false:=by simp
    have EX:=Lib.hid (show zAs (xs.map (·.1))=some (xa.map (·.1)) by rw[← E.out,List.take_of_length_le (by rw[List.length_map,← HN.out];omega)])
    clear IH hlt hj
    go_upto_block 2 with (first|((with_reducible refine kg 8 ?_);(first|refine kA 8 H ?_|refine kS 8 H ?_|refine kB 8 H ?_);clear H;intro b8 w H;try simp only[nr]at H)|(first|((with_reducible refine gT ?_);(refine aT H ?_;clear H;intro w H;try simp only[nr]at H))|((with_reducible refine gL ?_);(first|refine aG H ?_|refine aD H ?_))))
    obtain⟨Gk,hGk,H2⟩:=H.rowKnows (i:=1) i_1 hxl (Still.at (i:=2) i_2) (H.kn (i:=2) i_2);clear H;have H:=H2;clear H2;simp only[sc]at H;have hGl:∀ b,Gk b->w0.heap.size<=b\/F b:=fun b hb=>(hGk b hb).elim .inl (hFa b)
    obtain⟨o,ho⟩:∃ o,ruleT d (.mk d (xs.map (·.1))) (xa.map (·.1))=o:=⟨_,rfl⟩;have ER:=Lib.hid (show zAv (.mk d (xs.map (·.1)))=capT o by rw[zAv,EX.out,← ho])
    have HO:=Lib.hid ho;clear ho;have HXL:=Lib.hid hxl;clear hxl dj E;simp only[pl];refine wp_cut (fun a' w'=>(∃ t:Array Value,a'=({tmps:=t,defers:=[]}:Act)/\t.size=73/\t[1]?=some (.pointer (some ⟨b1,0,none⟩))/\t[2]?=some (.pointer (some ⟨b2,0,none⟩))/\t[8]?=some (.pointer (some ⟨b8,0,none⟩))/\t[9]?=some (.bool o.isSome))/\zR9 w0 w' F b2 b8 o) ?rest ?first
    case first =>
     intro J K' hJ hM
     by_cases h7:d.kind=7
     ·have d7:(d.kind == 7)=true:=by rw[beq_iff_eq];exact h7
      have hn1:n=1:=by rw[HN2.out];exact ok_7 HKD.out.1 h7
      obtain⟨y,rfl⟩:=List.length_eq_one_iff.1 (HXL.out.trans hn1);subst hn1;obtain⟨g,off,rfl⟩:=(H.kn (i:=1) i_1).at (by simp)
      have hkd:∀ V,Knows Gk (some ⟨g,off,none⟩) 1 vc [y] V->V.cell? ⟨g,off,none⟩=some (.int .i64 y.1.d.kind):=fun V h=>(h.cells (j:=0) rfl rfl 0 (by decide)).trans rfl
      by_cases h2:y.1.d.kind=2
      ·have dh:(y.1.d.kind == 2)=true:=by rw[beq_iff_eq];exact h2
       have eo:o=some (zBj 2):=by rw[← HO.out,ruleT.eq_def,if_pos h7];simp[h2]
       subst eo;clear h7 h2
       go_wp2_with (first|((with_reducible refine gT ?_);refine zAb wtd_ _ _ _ rfl rfl evd_ H (i:=5) i_5 rfl (by show 5<10;omega) (by with_reducible exact zAH zAz) ?_;clear H;intro w H;(rw[zEj]at H);try simp only[nr]at H)|((with_reducible refine gL ?_);refine zAT wtd_ _ _ rfl rfl zAh (hkd _ (H.kn (i:=1) i_1)) ?_)|((with_reducible refine gT ?_);((first|refine aO H ?_|refine aT H ?_);clear H;intro w H;try simp only[nr]at H))|((with_reducible refine ch (hno _) H ?_);clear H;intro w H))
       have H2:=H.also (fun _=>False) (fun V=>ForestR V (fun _=>False) none 0 []) Still.none (fun V _=>ForestR.nil ..)
       have H3:=H2.pick [4,5,6] [.blk b2 (zAO {kind:=0} nilS) 28,.blk b8 (zAO {kind:=2} nilS) 28,.kn (fun _=>False) (fun V=>ForestR V (fun _=>False) none 0 [])] (by decide) rfl
       (refine Met.intro ?_;go_step;exact⟨⟨_,rfl,rfl,rfl,rfl,rfl,rfl⟩,⟨none,0,fun _=>False,fun _ h=>h.elim,H3⟩⟩)
      ·have dh:(y.1.d.kind == 2)=false:=by rw[beq_eq_false_iff_ne];exact h2
       have eo:o=some (.mk d [y.1]):=by rw[← HO.out,ruleT.eq_def,if_pos h7];simp[h2]
       subst eo;clear h7 h2
       go_wp2_with (first|((with_reducible refine gT ?_);refine zAb wtd_ _ _ _ rfl rfl evd_ H (i:=5) i_5 rfl (by show 5<10;omega) (by with_reducible exact zAH zAz) ?_;clear H;intro w H;(rw[zEj]at H);try simp only[nr]at H)|((with_reducible refine gL ?_);refine zAT wtd_ _ _ rfl rfl zAh (hkd _ (H.kn (i:=1) i_1)) ?_)|((with_reducible refine gT ?_);(refine aO H ?_;clear H;intro w H;try simp only[nr]at H)))
       have H2:=H.also Gk (fun V=>ForestR V Gk (some ⟨g,off,none⟩) vc [y.1]) (Still.at (i:=1) i_1) (fun V hV=>((H.kn (i:=1) i_1).forestN rfl).kept hV)
       have H3:=H2.pick [4,5,6] [.blk b2 (zAO {kind:=0} nilS) 28,.blk b8 (zAO d (.slice (some ⟨g,off,none⟩) 1 vc)) 28,.kn Gk (fun V=>ForestR V Gk (some ⟨g,off,none⟩) vc [y.1])] (by decide) rfl
       (refine Met.intro ?_;go_step;exact⟨⟨_,rfl,rfl,rfl,rfl,rfl,rfl⟩,⟨some ⟨g,off,none⟩,vc,Gk,hGl,H3⟩⟩)
     ·have d7:(d.kind == 7)=false:=by rw[beq_eq_false_iff_ne];exact h7
      by_cases h4:d.kind=4
      ·have d4:(d.kind == 4)=true:=by rw[beq_iff_eq];exact h4
       have eo:o=some (catT (xa.map (·.1))):=by rw[← HO.out,ruleT.eq_def,if_neg h7,if_pos h4]
       subst eo;have hsz:zAD (xa.map (·.1))<=1000000000:=by have:=zCL EX.out;have h2:=HN2.out;omega
       have hcat:=fun W (h1:∀ b,Gk b->b<W.heap.size) (h2:Knows Gk vq n vc xa W)=>zIc vq n vc Gk (xa.map (·.1)) W h1 (h2.forestN HXL.out) (by rw[List.length_map,HXL.out]) hsz
       obtain⟨ct,hct⟩:∃ ct,catT (xa.map (·.1))=ct:=⟨_,rfl⟩;rw[hct]at hcat hJ ER HO;clear h7 h4 hsz hct
       go_wp2_with (first|((with_reducible refine gT ?_);(refine aT H ?_;clear H;intro w H;try simp only[nr]at H))|(go_at_call 161;refine cht (hcat _ (H.knlt (i:=1) i_1) (H.kn (i:=1) i_1)) H (Still.at (i:=1) i_1) ?_;clear H;intro q3 m3 F3 w hF3 H;simp only[ca]at H))
       have hF4:∀ b,F3 b->w0.heap.size<=b\/F b:=fun b h=>(hF3 b h).elim .inl (hGl b)
       have H3:=H.pick [4,5,6] [.blk b2 (zAO {kind:=0} nilS) 28,.blk b8 (zAO ct.d (.slice q3 ct.kids.length m3)) 28,.kn F3 (fun V=>ForestR V F3 q3 m3 ct.kids)] (by decide) rfl
       (refine Met.intro ?_;go_step;exact⟨⟨_,rfl,rfl,rfl,rfl,rfl,rfl⟩,⟨q3,m3,F3,hF4,H3⟩⟩)
      ·have d4:(d.kind == 4)=false:=by rw[beq_eq_false_iff_ne];exact h4
       by_cases h5:d.kind=5
       ·have d5:(d.kind == 5)=true:=by rw[beq_iff_eq];exact h5
        have eo:o=some (rowN 5 (zBV (xa.map (·.1)) 5 2) (zBj 2)):=by rw[← HO.out,ruleT.eq_def,if_neg h7,if_neg h4,if_pos h5]
        subst eo;have hsz:zAD (xa.map (·.1))<=1000000000:=by have:=zCL EX.out;have h2:=HN2.out;omega
        have hfl:=fun W (h1:∀ b,Gk b->b<W.heap.size) (h2:Knows Gk vq n vc xa W)=>zLD vq n vc 5 2 Gk (xa.map (·.1)) W h1 (h2.forestN HXL.out) (by rw[List.length_map,HXL.out]) hsz
        obtain⟨fts,hft⟩:∃ fts,zBV (xa.map (·.1)) 5 2=fts:=⟨_,rfl⟩;rw[hft]at hfl hJ ER HO;have hrow:=fun W q m F (h1:∀ b,F b->b<W.heap.size) (h2:ForestR W F q m fts)=>zJU 5 2 q m fts.length F fts W h1 h2 rfl
        obtain⟨ct,hct⟩:∃ ct,rowN 5 fts (zBj 2)=ct:=⟨_,rfl⟩;rw[hct]at hrow hJ ER HO;clear h7 h4 h5 hsz hct hft
        go_wp2_with (first|((with_reducible refine gT ?_);(refine aT H ?_;clear H;intro w H;try simp only[nr]at H))|(go_at_call 163;refine chl (hfl _ (H.knlt (i:=1) i_1) (H.kn (i:=1) i_1)) H (Still.at (i:=1) i_1) ?_;clear H;intro q1 m1 F1 w hF1 H;simp only[ca]at H)|((with_reducible refine ch (hno _) H ?_);clear H;intro w H)|(go_at_call 162;refine cht (hrow _ _ _ _ (H.knlt (i:=6) i_6) (H.kn (i:=6) i_6)) H (Still.at (i:=6) i_6) ?_;clear H;intro q3 m3 F3 w hF3 H;simp only[ca]at H))
        have hF4:∀ b,F3 b->w0.heap.size<=b\/F b:=fun b h=>(hF3 b h).elim .inl (fun h=>(hF1 b h).elim .inl (hGl b))
        have H3:=H.pick [4,5,7] [.blk b2 (zAO {kind:=0} nilS) 28,.blk b8 (zAO ct.d (.slice q3 ct.kids.length m3)) 28,.kn F3 (fun V=>ForestR V F3 q3 m3 ct.kids)] (by decide) rfl
        (refine Met.intro ?_;go_step;exact⟨⟨_,rfl,rfl,rfl,rfl,rfl,rfl⟩,⟨q3,m3,F3,hF4,H3⟩⟩)
       ·have d5:(d.kind == 5)=false:=by rw[beq_eq_false_iff_ne];exact h5
        by_cases h6:d.kind=6
        ·have d6:(d.kind == 6)=true:=by rw[beq_iff_eq];exact h6
         obtain⟨hn1',hlo,hhi⟩:=ok_6 HKD.out.1 h6;have hn1:n=1:=by rw[HN2.out];exact hn1'
         obtain⟨y,rfl⟩:=List.length_eq_one_iff.1 (HXL.out.trans hn1);subst hn1;clear hn1';obtain⟨g,off,rfl⟩:=(H.kn (i:=1) i_1).at (by simp)
         have hky:zAC y.1<=2000:=by
          have h1:=zCL EX.out;rw[← HN2.out]at h1
          simpa [zAD] using h1
         have eo:o=zCQ d y.1:=by rw[← HO.out,ruleT.eq_def,if_neg h7,if_neg h4,if_neg h5,if_pos h6];rfl
         have hrep:=fun W (h1:∀ b,Gk b->b<W.heap.size) (h2:Knows Gk (some ⟨g,off,none⟩) 1 vc [y] W)=>zJy d p 1 c y.1 y.2.1 y.2.2 Gk W hlo hhi hky h1 (h2.2 y (List.mem_singleton.2 rfl))
         rw[← eo]at hrep;clear h7 h4 h5 h6 eo hlo hhi hky
         go_upto_region 21 with (first|fail)
         have HSW:=Lib.hid H.keep.size;refine zDl 8 7 [fun v _=>v=zAQ d (.slice p 1 c),fun v _=>v=.slice (some ⟨g,off,none⟩) 1 vc,fun v _=>v=.pointer (some ⟨g,off,none⟩),fun v _=>v=.agg (zAR y),CallB w.heap.size Gk o,CallB w.heap.size Gk o,FstB w.heap.size Gk o,fun v _=>v=.bool o.isSome] (fun _=>false) (by kernel_rfl) (by kernel_rfl) (by kernel_rfl) ⟨zAJ _,zAJ _,zAJ _,zAJ _,zGD,zGD,zKI,zAJ _,trivial⟩ (fun _ _ h=>by cases h) ?ob ?en ?en2
         case ob =>
          refine⟨?_,?_,?_,?_,?_,?_,?_,?_,trivial⟩<;>intro A W h
          ·exact zAA rfl (zAV rfl (h.f 1) zAK rfl (fun k _=>by rw[Nat.zero_add];exact(H.call h.below).cell (i:=3) i_3 k)) (by decide)
          ·exact zAB rfl rfl (h.f 4) (by decide)
          ·(have e60:A.eval (.tmp 60)=.slice (some ⟨g,off,none⟩) 1 vc:=h.d 1 60;refine zAA rfl ?_ (by decide);simp only[execOp,e60];simp[go_sem])
          ·exact zAA rfl (zAV rfl (h.d 2 61) zAK (zAW y) (fun k hk=>((H.call h.below).kn (i:=1) i_1).cells (j:=0) rfl rfl k hk)) (by decide)
          ·refine zDY rfl rfl (enters_of Tryz.func164 (by kernel_rfl) rfl) (zFI ⟨h.d 0 59,h.d 3 62⟩) ((hrep W ((H.call h.below).knlt (i:=1) i_1) ((H.call h.below).kn (i:=1) i_1)).mono ?_)
           rintro e w' ⟨hT,hb⟩;obtain⟨v,he,hv⟩:=hT.callB h.below.size;exact⟨v,he,hb,hv,fun h=>by cases h⟩
          ·refine zC7 rfl ?_ (Below.refl _ W) ⟨h.d 4 63,fun h=>by cases h⟩
           simp only[execOp];rfl
          ·obtain⟨x,ex,hx⟩:=CallB.fst (h.d 5 58);refine zC7 rfl ?_ (Below.refl _ W) ⟨hx,fun h=>by cases h⟩
           simp only[execOp,ex];simp[go_sem]
          ·obtain⟨x,ex,hx⟩:=CallB.fst (h.d 5 58);refine zAA rfl ?_ (by decide)
           simp only[execOp,ex];simp[go_sem]
         case en =>
          intro vals W hbw hv _;have v0:vals 0=zAQ d (.slice p 1 c):=hv 0 (by omega)
          have v1:vals 1=.slice (some ⟨g,off,none⟩) 1 vc:=hv 1 (by omega)
          have v2:vals 2=.pointer (some ⟨g,off,none⟩):=hv 2 (by omega)
          have v3:vals 3=.agg (zAR y):=hv 3 (by omega)
          have v7:vals 7=.bool o.isSome:=hv 7 (by omega)
          have x6:FstB w.heap.size Gk o (vals 6) W:=hv 6 (by omega)
          simp only[fa,Nat.reduceAdd];rw[v0,v1,v2,v3,v7];clear hv v0 v1 v2 v3 v7;simp only[pl];clear hrep
          cases o with
          | none =>
           obtain⟨d1,q1,n1,c1,e6⟩:=x6;rw[e6];clear e6;replace H:=H.call hbw;clear hbw
           go_wp2_with (first|((with_reducible refine gT ?_);(refine aT H ?_;clear H;intro w H;try simp only[nr]at H)))
           have H3:=H.pick [4,5] [.blk b2 (zAO {kind:=0} nilS) 28,.blk b8 (zAO d1 (.slice q1 n1 c1)) 28] (by decide) rfl
           (refine Met.intro ?_;go_step;exact⟨⟨_,rfl,rfl,rfl,rfl,rfl,rfl⟩,⟨d1,q1,n1,c1,H3⟩⟩)
          | some ct =>
           obtain⟨q3,m3,F3,e6,hs,hF3⟩:=x6;rw[e6];clear e6;replace H:=H.learn hbw (Still.at (i:=1) i_1) hF3 (fun V hV=>hs.kept hV);simp only[ca]at H
           have hF4:∀ b,F3 b->w0.heap.size<=b\/F b:=fun b h=>(hF3 b h).2.elim (fun h=>.inl (Nat.le_trans HSW.out h)) (hGl b)
           clear hbw hs hF3
           go_wp2_with (first|((with_reducible refine gT ?_);(refine aT H ?_;clear H;intro w H;try simp only[nr]at H)))
           have H3:=H.pick [4,5,6] [.blk b2 (zAO {kind:=0} nilS) 28,.blk b8 (zAO ct.d (.slice q3 ct.kids.length m3)) 28,.kn F3 (fun V=>ForestR V F3 q3 m3 ct.kids)] (by decide) rfl
           (refine Met.intro ?_;go_step;exact⟨⟨_,rfl,rfl,rfl,rfl,rfl,rfl⟩,⟨q3,m3,F3,hF4,H3⟩⟩)
         case en2 =>
          intro vals W hbw hv _;have v0:vals 0=zAQ d (.slice p 1 c):=hv 0 (by omega) (by omega)
          have v1:vals 1=.slice (some ⟨g,off,none⟩) 1 vc:=hv 1 (by omega) (by omega)
          have v2:vals 2=.pointer (some ⟨g,off,none⟩):=hv 2 (by omega) (by omega)
          have v3:vals 3=.agg (zAR y):=hv 3 (by omega) (by omega)
          obtain⟨x5,v5,_⟩:=CallB.fst (show CallB w.heap.size Gk o (vals 5) W from hv 5 (by omega) (by omega))
          have x6:FstB w.heap.size Gk o (vals 6) W:=hv 6 (by omega) (by omega)
          simp only[List.take_succ_cons,List.take_zero,List.drop_succ_cons,List.drop_zero,List.drop_nil,List.take_nil,zEZ,zLz,List.cons_append,List.nil_append,Nat.reduceEqDiff,if_true,if_false,reduceCtorEq,Nat.zero_add,Nat.reduceAdd];rw[v0,v1,v2,v3,v5];clear hv v0 v1 v2 v3 v5;simp only[pl];clear hrep
          cases o with
          | none =>
           obtain⟨d1,q1,n1,c1,e6⟩:=x6;rw[e6];clear e6;replace H:=H.call hbw;clear hbw
           go_wp2_with (first|((with_reducible refine gT ?_);(refine aT H ?_;clear H;intro w H;try simp only[nr]at H)))
           have H3:=H.pick [4,5] [.blk b2 (zAO {kind:=0} nilS) 28,.blk b8 (zAO d1 (.slice q1 n1 c1)) 28] (by decide) rfl
           (refine Met.intro ?_;go_step;exact⟨⟨_,rfl,rfl,rfl,rfl,rfl,rfl⟩,⟨d1,q1,n1,c1,H3⟩⟩)
          | some ct =>
           obtain⟨q3,m3,F3,e6,hs,hF3⟩:=x6;rw[e6];clear e6;replace H:=H.learn hbw (Still.at (i:=1) i_1) hF3 (fun V hV=>hs.kept hV);simp only[ca]at H
           have hF4:∀ b,F3 b->w0.heap.size<=b\/F b:=fun b h=>(hF3 b h).2.elim (fun h=>.inl (Nat.le_trans HSW.out h)) (hGl b)
           clear hbw hs hF3
           go_wp2_with (first|((with_reducible refine gT ?_);(refine aT H ?_;clear H;intro w H;try simp only[nr]at H)))
           have H3:=H.pick [4,5,6] [.blk b2 (zAO {kind:=0} nilS) 28,.blk b8 (zAO ct.d (.slice q3 ct.kids.length m3)) 28,.kn F3 (fun V=>ForestR V F3 q3 m3 ct.kids)] (by decide) rfl
           (refine Met.intro ?_;go_step;exact⟨⟨_,rfl,rfl,rfl,rfl,rfl,rfl⟩,⟨q3,m3,F3,hF4,H3⟩⟩)
        ·have d6:(d.kind == 6)=false:=by rw[beq_eq_false_iff_ne];exact h6
         have eo:o=some (.mk d (xs.map (·.1))):=by rw[← HO.out,ruleT.eq_def,if_neg h7,if_neg h4,if_neg h5,if_neg h6]
         subst eo;clear h7 h4 h5 h6
         go_wp2_with (first|fail)
         have H2:=H.also F (fun V=>ForestR V F p c (xs.map (·.1))) (Still.at (i:=0) .zero) (fun V hV=>((H.kn (i:=0) .zero).forestN HN.out.symm).kept hV)
         have H3:Hold w0 w [.blk b2 (zAO {kind:=0} nilS) 28,.blk b8 (zAO d (.slice p (xs.map (·.1)).length c)) 28,.kn F (fun V=>ForestR V F p c (xs.map (·.1)))]:=by
          rw[← HN2.out];exact H2.pick [4,5,6] _ (by decide) rfl
         (refine Met.intro ?_;go_step;exact⟨⟨_,rfl,rfl,rfl,rfl,rfl,rfl⟩,⟨p,c,F,fun _ h=>.inr h,H3⟩⟩)
    (rintro _ wc ⟨⟨t,rfl,ht,e1,e2,e8,e9⟩,hcut⟩;have hl:=zRx t ht;clear ht;obtain⟨u0,hl⟩:=hl;obtain⟨u1,hl⟩:=hl;obtain⟨u2,hl⟩:=hl;obtain⟨u3,hl⟩:=hl;obtain⟨u4,hl⟩:=hl;obtain⟨u5,hl⟩:=hl;obtain⟨u6,hl⟩:=hl;obtain⟨u7,hl⟩:=hl;obtain⟨u8,hl⟩:=hl;obtain⟨u9,hl⟩:=hl;obtain⟨u10,hl⟩:=hl;obtain⟨u11,hl⟩:=hl;obtain⟨u12,hl⟩:=hl;obtain⟨u13,hl⟩:=hl;obtain⟨u14,hl⟩:=hl;obtain⟨u15,hl⟩:=hl;obtain⟨u16,hl⟩:=hl;obtain⟨u17,hl⟩:=hl;obtain⟨u18,hl⟩:=hl;obtain⟨u19,hl⟩:=hl;obtain⟨u20,hl⟩:=hl;obtain⟨u21,hl⟩:=hl;obtain⟨u22,hl⟩:=hl;obtain⟨u23,hl⟩:=hl;obtain⟨u24,hl⟩:=hl;obtain⟨u25,hl⟩:=hl;obtain⟨u26,hl⟩:=hl;obtain⟨u27,hl⟩:=hl;obtain⟨u28,hl⟩:=hl;obtain⟨u29,hl⟩:=hl;obtain⟨u30,hl⟩:=hl;obtain⟨u31,hl⟩:=hl;obtain⟨u32,hl⟩:=hl;obtain⟨u33,hl⟩:=hl;obtain⟨u34,hl⟩:=hl;obtain⟨u35,hl⟩:=hl;obtain⟨u36,hl⟩:=hl;obtain⟨u37,hl⟩:=hl;obtain⟨u38,hl⟩:=hl;obtain⟨u39,hl⟩:=hl;obtain⟨u40,hl⟩:=hl;obtain⟨u41,hl⟩:=hl;obtain⟨u42,hl⟩:=hl;obtain⟨u43,hl⟩:=hl;obtain⟨u44,hl⟩:=hl;obtain⟨u45,hl⟩:=hl;obtain⟨u46,hl⟩:=hl;obtain⟨u47,hl⟩:=hl;obtain⟨u48,hl⟩:=hl;obtain⟨u49,hl⟩:=hl;obtain⟨u50,hl⟩:=hl;obtain⟨u51,hl⟩:=hl;obtain⟨u52,hl⟩:=hl;obtain⟨u53,hl⟩:=hl;obtain⟨u54,hl⟩:=hl;obtain⟨u55,hl⟩:=hl;obtain⟨u56,hl⟩:=hl;obtain⟨u57,hl⟩:=hl;obtain⟨u58,hl⟩:=hl;obtain⟨u59,hl⟩:=hl;obtain⟨u60,hl⟩:=hl;obtain⟨u61,hl⟩:=hl;obtain⟨u62,hl⟩:=hl;obtain⟨u63,hl⟩:=hl;obtain⟨u64,hl⟩:=hl;obtain⟨u65,hl⟩:=hl;obtain⟨u66,hl⟩:=hl;obtain⟨u67,hl⟩:=hl;obtain⟨u68,hl⟩:=hl;obtain⟨u69,hl⟩:=hl;obtain⟨u70,hl⟩:=hl;obtain⟨u71,hl⟩:=hl;obtain⟨u72,hl⟩:=hl;subst hl;(replace e1:some u1=some (.pointer (some ⟨b1,0,none⟩)):=e1);(cases e1);(replace e2:some u2=some (.pointer (some ⟨b2,0,none⟩)):=e2);(cases e2);(replace e8:some u8=some (.pointer (some ⟨b8,0,none⟩)):=e8);(cases e8);(replace e9:some u9=some (.bool o.isSome):=e9);(cases e9))
    clear H
    cases o with
    | none =>
     obtain⟨d1,q1,n1,c1,H⟩:=hcut
     go_upto_region 22 with fail
     have hS:∀ W,RelS b2 (zAO d1 (.slice q1 n1 c1)) 28 wc W->∃ ds,ds.size=10/\Hold w0 W [.blk b2 ds 28,.blk b8 (zAO d1 (.slice q1 n1 c1)) 28]:=fun W hr=>by
      obtain⟨ds,hds,H2⟩:=H.relS (i:=0) .zero hr;exact⟨ds,by rcases hds with rfl|rfl<;>rfl,H2⟩
     refine zCF (RelS b2 (zAO d1 (.slice q1 n1 c1)) 28) RelS.refl RelS.trans RelS.drew 8 [fun v _=>v=zAQ d1 (.slice q1 n1 c1),fun v _=>v=.bool false,fun v _=>v=.bool false,fun v _=>v=undef,fun v _=>v=undef,fun v _=>v=undef,fun v _=>v=.bool false,zK5 b2 (zAO d1 (.slice q1 n1 c1)) 28]
      ⟨zAe _,zAe _,zAe _,zAe _,zAe _,zAe _,zAe _,zDd,trivial⟩ (by kernel_rfl) (by kernel_rfl) (by kernel_rfl) ?ob ?en
     case ob =>
      refine⟨?_,?_,?_,?_,?_,?_,?_,?_,trivial⟩<;>intro A W h
      ·obtain⟨ds,hsz,H2⟩:=hS W h.rel;exact zB8 rfl (zAF RelS.refl rfl (zAV rfl (h.f 8) zAK rfl (fun k _=>by rw[Nat.zero_add];exact H2.cell (i:=1) i_1 k)))
      ·exact zB8 rfl (zAa RelS.refl rfl rfl (h.f 9))
      ·exact zB8 rfl (zAa RelS.refl rfl rfl (h.d 1 67))
      ·exact zB8 rfl (zKj (zDC rfl (zAN (d:=68) rfl (h.d 2 68)) (by decide)) rfl)
      ·exact zB8 rfl (zKj (zDC rfl (zAN (d:=68) rfl (h.d 2 68)) (by decide)) rfl)
      ·exact zB8 rfl (zKj (zDC rfl (zAN (d:=68) rfl (h.d 2 68)) (by decide)) rfl)
      ·exact zB8 rfl (zBf RelS.refl rfl rfl (h.d 2 68) rfl)
      ·obtain⟨ds,hsz,H2⟩:=hS W h.rel;exact zIo rfl rfl rfl (h.f 2) (H2.blk (i:=0) .zero).2 hsz (h.d 0 66) (zAu (n:=10) zAK) rfl
     case en =>
      intro vals W1 hrel hv hlk;have v0:vals 0=zAQ d1 (.slice q1 n1 c1):=hv 0 (by omega)
      have v1:vals 1=.bool false:=hv 1 (by omega)
      have v2:vals 2=.bool false:=hv 2 (by omega)
      have v3:vals 3=undef:=hv 3 (by omega)
      have v4:vals 4=undef:=hv 4 (by omega)
      have v5:vals 5=undef:=hv 5 (by omega)
      have v6:vals 6=.bool false:=hv 6 (by omega)
      have H2:=H.laidS (i:=0) .zero hrel (hv 7 (by omega))
      simp only[fa,Nat.reduceAdd];rw[v0,v1,v2,v3,v4,v5,v6];clear hv v0 v1 v2 v3 v4 v5 v6 hlk hrel H hS;have H:=H2;clear H2;simp only[sc]at H;simp only[pl]
      go_wp2_with fail
      (refine xct Tryz.results119 H ?_)
      exact⟨TreeB.no ER.out,H.below⟩
    | some t =>
     obtain⟨q1,c1,G1,hG1,H⟩:=hcut;have hsz:zAC t<=1000000000000:=by
      have h1:=zCL EX.out;have h2:=HN2.out;rw[← h2]at h1;have h3:=HO.out;unfold ruleT at h3;split at h3
      ·split at h3
       ·cases h3
       ·split at h3
        ·cases h3;rw[zDt];omega
        ·cases h3;simp only[zAC];omega
      split at h3
      ·cases h3;have:=zES (xa.map (·.1));omega
      split at h3
      ·cases h3
       have h5:=zJO 5 (zBV (xa.map (·.1)) 5 2) (zBj 2) (zDt 2);have h6:=zDP (xa.map (·.1)) 5 2;omega
      split at h3
      ·rename_i h6;obtain⟨hk1,hlo,hhi⟩:=ok_6 HKD.out.1 h6;split at h3
       ·cases h3
       ·rename_i l k r hl;rw[hl]at h1;simp only[zAD]at h1;rw[← h2]at hk1;have:=zJ4 h3 (by omega) hlo.1 (by omega) (by omega)
        omega
      ·cases h3;simp only[zAC];omega
     clear HO
     go_upto_region 22 with fail
     have hS:∀ W,RelS b2 (zAO t.d (.slice q1 t.kids.length c1)) 28 wc W->∃ ds,ds.size=10/\Hold w0 W [.blk b2 ds 28,.blk b8 (zAO t.d (.slice q1 t.kids.length c1)) 28,.kn G1 (fun V=>ForestR V G1 q1 c1 t.kids)]:=fun W hr=>by
      obtain⟨ds,hds,H2⟩:=H.relS (i:=0) .zero hr;exact⟨ds,by rcases hds with rfl|rfl<;>rfl,H2⟩
     refine zCF (RelS b2 (zAO t.d (.slice q1 t.kids.length c1)) 28) RelS.refl RelS.trans RelS.drew 8 [fun v _=>v=zAQ t.d (.slice q1 t.kids.length c1),fun v _=>v=.bool true,fun v _=>v=.bool true,fun v _=>v=zAQ t.d (.slice q1 t.kids.length c1),fun v _=>v=.int .i64 (zAC t),fun v _=>v=.bool (decide ((zAC t:Int)<=2000)),fun v _=>v=.bool (decide ((zAC t:Int)<=2000)),zK5 b2 (zAO t.d (.slice q1 t.kids.length c1)) 28]
      ⟨zAe _,zAe _,zAe _,zAe _,zAe _,zAe _,zAe _,zDd,trivial⟩ (by kernel_rfl) (by kernel_rfl) (by kernel_rfl) ?ob ?en
     case ob =>
      refine⟨?_,?_,?_,?_,?_,?_,?_,?_,trivial⟩<;>intro A W h
      ·obtain⟨ds,hsz,H2⟩:=hS W h.rel;exact zB8 rfl (zAF RelS.refl rfl (zAV rfl (h.f 8) zAK rfl (fun k _=>by rw[Nat.zero_add];exact H2.cell (i:=1) i_1 k)))
      ·exact zB8 rfl (zAa RelS.refl rfl rfl (h.f 9))
      ·exact zB8 rfl (zAa RelS.refl rfl rfl (h.d 1 67))
      ·obtain⟨ds,hsz,H2⟩:=hS W h.rel;exact zB8 rfl (zAF RelS.refl (wg (h.d 2 68)) (zAV rfl (h.f 8) zAK rfl (fun k _=>by rw[Nat.zero_add];exact H2.cell (i:=1) i_1 k)))
      ·obtain⟨ds,hsz2,H2⟩:=hS W h.rel;exact zB8 rfl (zBF (wg (h.d 2 68)) rfl (enters_of Tryz.func159 (by kernel_rfl) rfl) (zDH (h.d 3 69)) ((zGk _ t q1 _ c1 G1 W hsz (by decide) (H2.knlt (i:=2) i_2) (H2.kn (i:=2) i_2) rfl).mono fun _ _ ⟨h1,h2⟩=>⟨h1,RelS.of_below h2⟩))
      ·(have e70:A.eval (.tmp 70)=.int .i64 (zAC t):=h.d 4 70;refine zB8 rfl (zAF RelS.refl (wg (h.d 2 68)) ?_);simp only[execOp,e70];simp[go_sem])
      ·exact zB8 rfl (zBf RelS.refl rfl rfl (h.d 2 68) (h.d 5 71))
      ·obtain⟨ds,hsz,H2⟩:=hS W h.rel;exact zIo rfl rfl rfl (h.f 2) (H2.blk (i:=0) .zero).2 hsz (h.d 0 66) (zAu (n:=10) zAK) rfl
     case en =>
      intro vals W1 hrel hv hlk;have v0:vals 0=zAQ t.d (.slice q1 t.kids.length c1):=hv 0 (by omega)
      have v1:vals 1=.bool true:=hv 1 (by omega)
      have v2:vals 2=.bool true:=hv 2 (by omega)
      have v3:vals 3=zAQ t.d (.slice q1 t.kids.length c1):=hv 3 (by omega)
      have v4:vals 4=.int .i64 (zAC t):=hv 4 (by omega)
      have v5:vals 5=.bool (decide ((zAC t:Int)<=2000)):=hv 5 (by omega)
      have v6:vals 6=.bool (decide ((zAC t:Int)<=2000)):=hv 6 (by omega)
      have H2:=H.laidS (i:=0) .zero hrel (hv 7 (by omega))
      simp only[fa,Nat.reduceAdd];rw[v0,v1,v2,v3,v4,v5,v6];clear hv v0 v1 v2 v3 v4 v5 v6 hlk hrel H hS;have H:=H2;clear H2;simp only[sc]at H;simp only[pl]
      go_wp2_with fail
      (refine xct Tryz.results119 H ?_)
      refine⟨?_,H.below⟩;rw[ER.out]
      by_cases hz:zAC t<=2000
      ·rw[show capT (some t)=some t from if_pos hz,decide_eq_true (by omega:(zAC t:Int)<=2000)]
       exact⟨q1,c1,G1,rfl,H.kn (i:=2) i_2,fun b h=>⟨H.knlt (i:=2) i_2 b h,hG1 b h⟩⟩
      ·rw[show capT (some t)=none from if_neg hz,decide_eq_false (by omega:¬ (zAC t:Int)<=2000)]
       exact⟨t.d,q1,_,c1,rfl⟩
theorem zEj (d:NodeD) (s v:Value):(zAO d s).setIfInBounds 5 v=zAO d v:=rfl
theorem zHv:∀ (m:Nat) (t:Tree) (p:Option Addr) (n c:Nat) (F:Nat->Prop) (w0:World),zAC t<=m->m<=1000000000->(∀ b,F b->b<w0.heap.size)->ForestR w0 F p c t.kids->n=t.kids.length ->
  Calls Tryz.prog 120 #[zAQ t.d (.slice p n c)] w0 fun e w'=>zB7 w0 (fun _=>False) t e w'/\Below w0.heap.size w0 w'
 | 0,t,_,_,_,_,_,hm,_,_,_,_=>by have:=zAy t;omega
 | m+1,.mk d ts,p,n,c,F,w0,hm,hm2,hF,h,hn=>by
  have IH:=zHv m;obtain⟨i0,hi0,hz0,hz1,hz2⟩:=info_parts zB1;simp only[Tree.kids,Tree.d]at h hn ⊢;obtain⟨xs,h1,h2,rfl⟩:=h.open;have hn':=hn;rw[List.length_map]at hn;rw[← hn]at h1;have hK:Knows F p n c xs w0:=⟨h1,h2⟩;clear h h1 h2;have H:=Hold.knows hF hK;have hc1:=hK.bound.2.1;have hc2:=hK.bound.2.2;have hp:=hK.at;clear hK;simp only[zAC]at hm;have hnl:n<=1000000000:=by have:=zBP (xs.map (·.1));omega
  have HN:=Lib.hid hn;have HN2:=Lib.hid hn';clear hn hn'
  go_enter Tryz.func120,Tryz.ntmps120
  go_upto_region 3 with (first|((with_reducible refine gT ?_);refine zAb wtd_ _ _ _ rfl rfl evd_ H (i:=3) i_3 rfl (by show 5<10;omega) (by with_reducible exact zAH zAz) ?_;clear H;intro w H;(rw[zEj]at H);try simp only[nr]at H)|((with_reducible refine kg 1 ?_);(first|refine kA 1 H ?_|refine kS 1 H ?_|refine kB 1 H ?_);clear H;intro b1 w H;try simp only[nr]at H)|((with_reducible refine kg 2 ?_);(first|refine kA 2 H ?_|refine kS 2 H ?_|refine kB 2 H ?_);clear H;intro b2 w H;try simp only[nr]at H)|((with_reducible refine kg 3 ?_);(first|refine kA 3 H ?_|refine kS 3 H ?_|refine kB 3 H ?_);clear H;intro b3 w H;try simp only[nr]at H)|(first|((with_reducible refine gT ?_);(refine aT H ?_;clear H;intro w H;try simp only[nr]at H))|((with_reducible refine gL ?_);refine aD H ?_)))
  replace H:=(H.addNil 28 10).know (fun _=>False) (fun V=>ListR V (fun _=>False) []) (fun _ h=>h.elim) (fun _ _ _ _ _ h=>h) (fun V _=>ListR.nil _ _)
  simp only[List.nil_append,List.cons_append]at H
  go_wp2_with fail
  go_loopw [4] (fun ix wr=>∃ (j:Nat) (xa:List TV) (vq:Option Addr) (vc:Nat) (Fa:Nat->Prop),j<=n/\ix=.int .i64 j/\xa.length=j/\Hid (xa.map (·.1)=(xs.map (·.1)).take j)/\(∀ b,Fa b->w0.heap.size<=b)/\Hold w0 wr [.kn F (Knows F p n c xs),.blk b1 (zAO d (.slice p n c)) 28,.blk b2 (zAO {kind:=0} nilS) 28,.blk b3 (zAO d (.slice vq j vc)) 28,.row (.slice vq j vc) 28 10 j (zAE (xa.map zAR)),.kn Fa (fun V=>ListR V Fa xa)]) (fun ix _=>n+1 - (intOf ix).toNat)
  case atStart=>exact⟨0,[],none,0,fun _=>False,by omega,rfl,rfl,Lib.hid rfl,fun _ h=>h.elim,H⟩
  case round =>
   clear H;obtain⟨j,xa,vq,vc,Fa,hj,rfl,hxl,E,hFa,H⟩:=hrel
   by_cases hlt:j<n
   ·have dj:decide ((j:Int)<(n:Int))=true:=by simp;omega
    obtain⟨x,hx⟩:∃ x,xs[j]?=some x:=⟨_,List.getElem?_eq_getElem (by rw[← HN.out];exact hlt)⟩
    obtain⟨b,off,rfl⟩:=hp (by rw[← HN.out];omega)
    have hs1:=zCC hx;have hmem:=List.mem_of_getElem? hx;have hcell:∀ V,Knows F (some ⟨b,off,none⟩) n c xs V->∀ k,k<10->V.cell? ⟨b,off+j * 10+k,none⟩=(zAR x)[k]?:=fun V h=>h.cells hx rfl
    have ih:=fun w (hw:∀ b,F b->b<w.heap.size) (hk:Knows F (some ⟨b,off,none⟩) n c xs w)=>IH x.1 x.2.1 _ x.2.2 F w (by omega) (by omega) hw (hk.2 x hmem) rfl
    have E2:=Lib.hid (show xa.map (·.1)++[x.1]=(xs.map (·.1)).take (j+1) by rw[E.out,zBc (i:=j) (x:=x.1) (by rw[List.getElem?_map,hx];rfl)])
    have HX:=Lib.hid hxl;clear IH hx hmem hp hs1 hxl
    go_wp2_with (first|((with_reducible refine gT ?_);refine zAb wtd_ _ _ _ rfl rfl evd_ H (i:=3) i_3 rfl (by show 5<10;omega) (by with_reducible exact zAH zAz) ?_;clear H;intro w H;(rw[zEj]at H);try simp only[nr]at H)|((with_reducible refine gL ?_);refine zAM wtd_ _ _ rfl rfl zAK (zAW x) (hcell _ (H.kn (i:=0) .zero)) ?_)|(at_builtin;refine zAk rfl _ _ 26 rfl H (i:=4) (j:=8) evd_ rfl i_4 i_8 Tryz.underlying26 hi0 hz0 hz1 hz2 rfl (by decide) rfl rfl (by unfold maxLen;omega) (by omega) ?_;clear H;intro v2 w H;(try simp only[nr]at H);(obtain⟨q2,c2,rfl,_,_,_⟩:=H.rowShape (i:=4) i_4))|((with_reducible refine gBS ?_);refine zAY wtd_ _ _ _ rfl H (zAO (x.1.d) (.slice q1 x.1.kids.length m1)) 28 (by intro W;simp only[ml];(try simp only[pe]);exact zBQ _ _ W) ?_;clear H;intro bk w H;try simp only[nr]at H)|(first|((with_reducible refine gT ?_);(refine aT H ?_;clear H;intro w H;try simp only[nr]at H))|((with_reducible refine gL ?_);(first|refine aG H ?_|refine aD H ?_))|((with_reducible refine gA ?_);(refine bA H ?_;clear H;intro b w H;try simp only[nr]at H)))|(go_at_call 120;(with_reducible refine cht (ih _ (H.knlt (i:=0) .zero) (H.kn (i:=0) .zero)) H Still.none ?_);clear H;intro q1 m1 F1 w hF1 H))
    have H2:=H.rowGrown (i:=4) (k:=5) (k2:=6) (xs:=xa) (ys:=xa) (by rw[HX.out];exact i_4) i_5 i_6 (xa++[(x.1,q1,m1)]) (fun y hy=>(List.mem_append.1 hy).imp id List.mem_singleton.1)
    have hl2:(xa++[((x.1,q1,m1):TV)]).length=j+1:=by simp[HX.out]
    rw[hl2]at H2;have HL:=Lib.hid hl2;clear hl2;go_roundw
    case rel=>exact⟨j+1,xa++[(x.1,q1,m1)],q2,c2,fun b=>Fa b\/F1 b,by omega,by go_num,HL.out,Lib.hid (by rw[List.map_append];exact E2.out),fun b h=>h.elim (hFa b) (fun h=>(hF1 b h).elim id False.elim),H2.pick [0,1,2,3,4,9] _ (by decide) rfl⟩
    case measure=>simp[intOf];omega
   ·have hjn:j=n:=by omega
    have dj:decide ((j:Int)<(n:Int))=false:=by simp;omega
    have EX:=Lib.hid (show xa.map (·.1)=xs.map (·.1) by rw[E.out,List.take_of_length_le (by rw[List.length_map,← HN.out];omega)])
    obtain⟨G,hG,H2⟩:=H.rowForest (i:=4) (xs:=xa) (K:=Fa) i_4 hxl (Still.at (i:=5) i_5) (H.kn (i:=5) i_5);clear H;have H:=H2;clear H2;simp only[sc]at H;have HJ:=Lib.hid hjn;clear hjn hxl
    go_wp2_with (first|(first|((with_reducible refine gT ?_);(refine aT H ?_;clear H;intro w H;try simp only[nr]at H))|((with_reducible refine gL ?_);(first|refine aG H ?_|refine aD H ?_))))
    (refine xc Tryz.results120 H ?_)
    refine⟨⟨vq,vc,G,?_,?_,fun b h=>⟨H.knlt (i:=4) i_4 b h,.inl ((hG b h).elim id (hFa b))⟩⟩,H.below⟩
    ·show Ending.returned (zAQ d (.slice vq j vc))=Ending.returned (zAQ d (.slice vq (xs.map (·.1)).length vc))
     rw[← HN2.out,HJ.out]
    ·have:=H.kn (i:=4) i_4;rw[EX.out]at this;exact this
end
end Go.Proofs.YtalggmbdpmdcbaaGreat
