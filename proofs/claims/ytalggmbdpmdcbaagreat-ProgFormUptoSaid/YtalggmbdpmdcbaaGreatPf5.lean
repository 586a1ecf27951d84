/-
  Laws of walks, and walks.
-/
import Derived.Test.YtalggmbdpmdcbaaGreatPf4
import Derived.Test.YtalggmbdpmdcbaaGreatPf2
import Derived.Test.YtalggmbdpmdcbaaGreatPf1
import Derived.Test.YtalggmbdpmdcbaaGreatPf3
import Derived.Deep.CutBlock
import Derived.Laws.Slices
set_option linter.unusedVariables false
set_option linter.unusedSimpArgs false
set_option maxRecDepth 100000
set_option maxHeartbeats 16000000
namespace Go.Proofs.YtalggmbdpmdcbaaGreat
section
open Go.RowKit Go.Shelf
attribute [local go_sem] Oper.semAt_some
def WKnows (F:Nat->Prop) (p:Option Addr) (n c:Nat) (ws:List WordD) (V:World):Prop:=RdN 17 V F (.slice p n c) (ws.map zB1)
section
variable {F:Nat->Prop} {p:Option Addr} {n c:Nat} {ws:List WordD} {V W w0:World}
theorem WKnows.kept (h:WKnows F p n c ws W) (hV:∀ b,F b->V.heap[b]?=W.heap[b]?):WKnows F p n c ws V:=RdN.kept h hV
theorem WKnows.cells {b off:Nat} (h:WKnows F (some ⟨b,off,none⟩) n c ws V) {j:Nat} {d:WordD} (hj:ws[j]?=some d) {q:Nat} (hq:off+j * 17=q):∀ k,k<17->V.cell? ⟨b,q+k,none⟩=(zB1 d)[k]?:=by
 obtain⟨p,c,e1,_,_,_,h3⟩:=h;obtain⟨b',off',e2,_,_,h4⟩:=h3 j (zB1 d) (by rw[List.getElem?_map,hj];rfl)
 cases e1;cases e2;subst hq
 exact h4
theorem WKnows.kind {b off:Nat} (h:WKnows F (some ⟨b,off,none⟩) n c ws V) {j:Nat} {d:WordD} (hj:ws[j]?=some d):V.cell? ⟨b,off+j * 17,none⟩=some (.int .i64 d.kind):=h.cells hj rfl 0 (by omega)
theorem WKnows.place {b off:Nat} (h:WKnows F (some ⟨b,off,none⟩) n c ws V) {j:Nat} {d:WordD} (hj:ws[j]?=some d):V.cell? ⟨b,off+j * 17+1,none⟩=some (.int .i64 d.place):=h.cells hj rfl 1 (by omega)
theorem WKnows.bound (h:WKnows F p n c ws V):n=ws.length/\n<=c/\c<=9223372036854775807:=by
 obtain⟨p,c,e1,h1,h2,_,h3⟩:=h
 cases e1
 unfold maxLen at h2;rw[List.length_map]at h1 ⊢;exact⟨rfl,h1,h2⟩
theorem WKnows.at (h:WKnows F p n c ws V) (h0:0<ws.length):∃ b off,p=some ⟨b,off,none⟩:=by
 obtain⟨p,c,e1,h1,h2,_,h3⟩:=h
 cases e1
 obtain⟨b,off,e,_⟩:=h3 0 _ (by rw[List.getElem?_map,List.getElem?_eq_getElem h0];rfl)
 exact⟨b,off,e⟩
end
def zGC (l:List Nat):List Value:=l.map (fun a:Nat=>Value.int .i64 (a:Int))
theorem zMi {l:List Nat} {j a:Nat} (h:l[j]?=some a):(zGC l)[j]?=some (.int .i64 (a:Int)):=by simp[zGC,h]
def zIm (o:Option Nat):Int:=match o with|some a=>a|none => -1
theorem zNz:(Tryz.prog.info? 3).map (fun i=>(i.zero,i.size,i.bytes))=some (some (.int .i64 0),1,8):=by kernel_rfl
theorem zN1 {l:List Nat} (h:l≠[]):∃ a,l[l.length - 1]?=some a/\l.getLast?=some a:=by
 refine⟨l.getLast h,?_,List.getLast?_eq_some_getLast h⟩;rw[← List.getLast?_eq_getElem?];exact List.getLast?_eq_some_getLast h
theorem zIb (p:Option Addr) (n c:Nat) (F:Nat->Prop) (ws:List WordD) (w0:World) (hF:∀ b,F b->b<w0.heap.size) (hK:WKnows F p n c ws w0) (hn2:n<=1000) :
  Calls Tryz.prog 100 #[.slice p n c] w0 (Rt (.int .i64 (zIm (zCy ws))) w0):=by
 obtain⟨i0,hi0,hz0,hz1,hz2⟩:=info_parts zNz;have H:=(Hold.start w0).know F (WKnows F p n c ws) hF (fun i r h=>by simp at h) (fun V hV=>hK.kept hV)
 have hb:=hK.bound;have hp:=hK.at;clear hK;have HN:=Lib.hid hb.1;have hc1:=hb.2.1;have hc2:=hb.2.2;clear hb
 go_enter Tryz.func100,Tryz.ntmps100
 go_wp2_with (first|fail)
 replace H:=H.addNil 3 1;simp only[List.nil_append,List.cons_append]at H
 go_loopw [3,4] (fun v i wr=>∃ (j:Nat) (op:List Nat),j<=n/\i=.int .i64 j/\op.length<=j/\Hid (zCy ws=zBA (zCg ws j) op (ws.drop j))/\Hold w0 wr [.kn F (WKnows F p n c ws),.row v 3 1 op.length (zGC op)]) (fun _ i _=>n+1 - (intOf i).toNat)
 case atStart=>exact⟨0,[],by omega,rfl,by simp,Lib.hid rfl,(by simpa [zGC] using H)⟩
 case round =>
  clear H;obtain⟨j,op,hj,rfl,hol,G,H⟩:=hrel
  by_cases hlt:j<n
  ·have dj:decide ((j:Int)<(n:Int))=true:=by simp;omega
   obtain⟨d,hd⟩:∃ d,ws[j]?=some d:=⟨_,List.getElem?_eq_getElem (by rw[← HN.out];exact hlt)⟩
   obtain⟨b,off,rfl⟩:=hp (by rw[← HN.out];omega)
   clear hp;have hkd:∀ V,WKnows F (some ⟨b,off,none⟩) n c ws V->V.cell? ⟨b,off+j * 17,none⟩=some (.int .i64 d.kind):=fun V h=>h.kind hd
   have hpl:∀ V,WKnows F (some ⟨b,off,none⟩) n c ws V->V.cell? ⟨b,off+j * 17+1,none⟩=some (.int .i64 d.place):=fun V h=>h.place hd
   have hcell:∀ V,WKnows F (some ⟨b,off,none⟩) n c ws V->∀ k,k<17->V.cell? ⟨b,off+j * 17+k,none⟩=(zB1 d)[k]?:=fun V h=>h.cells hd rfl
   have HD:=Lib.hid hd;clear hd;obtain⟨q,cap,rfl,hq1,hq2,hq3⟩:=H.rowShape i_1;unfold maxLen at hq2
   generalize hm:op.length=m at hol H hq1 hq3
   have HM:=Lib.hid hm;clear hm
   go_upto_region 5 with fail
   go_cut [5] from 6 to 99 (fun v wx=>v=.bool (zCg ws j)/\Hold w0 wx [.kn F (WKnows F (some ⟨b,off,none⟩) n c ws),.row (.slice q m cap) 3 1 m (zGC op)])
   case first =>
    rcases j with _|k
    ·go_wp2_with (first|fail)
     go_meet
     case rel=>exact⟨rfl,H⟩
    ·obtain⟨d',hd'⟩:∃ d',ws[k]?=some d':=⟨_,List.getElem?_eq_getElem (by rw[← HN.out];omega)⟩
     have hkd':∀ V,WKnows F (some ⟨b,off,none⟩) n c ws V->V.cell? ⟨b,off+k * 17,none⟩=some (.int .i64 d'.kind):=fun V h=>h.kind hd'
     have hcell':∀ V,WKnows F (some ⟨b,off,none⟩) n c ws V->∀ q,q<17->V.cell? ⟨b,off+k * 17+q,none⟩=(zB1 d')[q]?:=fun V h=>h.cells hd' rfl
     have hb':=zDY hd';clear hd';have hop:=fun w=>zF4 d' w
     have hkn:decide (k<n)=true:=by simp;omega
     have hk0:((k:Int)+1 == 0)=false:=by rw[beq_eq_false_iff_ne];omega
     cases ho:zA7 d' with
     | true =>
      have E:=Lib.hid (show zCg ws (k+1)=true by rw[hb'];simp[zHY,ho])
      rw[ho]at hop;clear ho hb'
      go_wp2_with (first|((with_reducible refine gL ?_);refine zAO wtd_ _ _ rfl rfl zBQ rfl (hcell' _ (H.kn .zero)) ?_)|fail|((with_reducible refine ch (hop _) H ?_);clear H;intro w H))
      go_meet
      case rel=>exact⟨by rw[E.out],H⟩
     | false =>
      rw[ho]at hop
      by_cases h8:d'.kind=8
      ·have d8:((d'.kind:Int) == 8)=true:=by rw[beq_iff_eq];omega
       have E:=Lib.hid (show zCg ws (k+1)=true by rw[hb'];simp[zHY,h8])
       clear ho hb' h8
       go_wp2_with (first|((with_reducible refine gL ?_);refine zAO wtd_ _ _ rfl rfl zBQ rfl (hcell' _ (H.kn .zero)) ?_)|((with_reducible refine gL ?_);refine zAM wtd_ _ _ rfl rfl zAC (hkd' _ (H.kn .zero)) ?_)|fail|((with_reducible refine ch (hop _) H ?_);clear H;intro w H))
       go_meet
       case rel=>exact⟨by rw[E.out],H⟩
      ·have d8:((d'.kind:Int) == 8)=false:=by rw[beq_eq_false_iff_ne];omega
       by_cases h10:d'.kind=10
       ·have d10:((d'.kind:Int) == 10)=true:=by rw[beq_iff_eq];omega
        have E:=Lib.hid (show zCg ws (k+1)=true by rw[hb'];simp[zHY,h10])
        clear ho hb' h8 h10
        go_wp2_with (first|((with_reducible refine gL ?_);refine zAO wtd_ _ _ rfl rfl zBQ rfl (hcell' _ (H.kn .zero)) ?_)|((with_reducible refine gL ?_);refine zAM wtd_ _ _ rfl rfl zAC (hkd' _ (H.kn .zero)) ?_)|fail|((with_reducible refine ch (hop _) H ?_);clear H;intro w H))
        go_meet
        case rel=>exact⟨by rw[E.out],H⟩
       ·have d10:((d'.kind:Int) == 10)=false:=by rw[beq_eq_false_iff_ne];omega
        have E:=Lib.hid (show zCg ws (k+1)=((d'.kind:Int) == 11) by
         rw[hb'];simp only[zHY,ho,show (d'.kind == 8)=false from by simpa using h8,show (d'.kind == 10)=false from by simpa using h10,Bool.false_or]
         rw[Bool.eq_iff_iff,beq_iff_eq,beq_iff_eq];omega)
        clear ho hb' h8 h10
        go_wp2_with (first|((with_reducible refine gL ?_);refine zAO wtd_ _ _ rfl rfl zBQ rfl (hcell' _ (H.kn .zero)) ?_)|((with_reducible refine gL ?_);refine zAM wtd_ _ _ rfl rfl zAC (hkd' _ (H.kn .zero)) ?_)|fail|((with_reducible refine ch (hop _) H ?_);clear H;intro w H))
        go_meet
        case rel=>exact⟨by rw[E.out],H⟩
   case rest =>
    obtain⟨rfl,H⟩:=hcut;have hop:=fun w=>zF4 d w
    by_cases h11:d.kind=11
    ·have d11:((d.kind:Int) == 11)=true:=by rw[beq_iff_eq];omega
     have d9:((d.kind:Int) == 9)=false:=by rw[beq_eq_false_iff_ne];omega
     have ho:zA7 d=false:=by simp[zA7,h11]
     cases hb:zCg ws j with
     | true =>
      have E:=Lib.hid (show zIm (zCy ws)=d.place by rw[G.out,zIa HD.out (.inl ⟨h11,hb⟩)];rfl)
      clear h11 ho hb
      go_wp2_with (first|((with_reducible refine gL ?_);refine zAM wtd_ _ _ rfl rfl zAC (hkd _ (H.kn .zero)) ?_)|((with_reducible refine gL ?_);refine zAM wtd_ _ _ rfl rfl zAC (hpl _ (H.kn .zero)) ?_)|fail)
      go_ret;exact⟨reti E.out.symm,H.below⟩
     | false =>
      have G2:=Lib.hid (show zCy ws=zBA (zCg ws (j+1)) op (ws.drop (j+1)) by rw[G.out,hb,zJt HD.out (by simp[h11]) ho (by omega)])
      rw[ho]at hop;clear h11 ho hb
      go_wp2_with (first|((with_reducible refine gL ?_);refine zAO wtd_ _ _ rfl rfl zBQ rfl (hcell _ (H.kn .zero)) ?_)|((with_reducible refine gL ?_);refine zAM wtd_ _ _ rfl rfl zAC (hkd _ (H.kn .zero)) ?_)|fail|((with_reducible refine ch (hop _) H ?_);clear H;intro w H))
      go_roundw
      case rel=>exact⟨j+1,op,by omega,by go_num,by rw[HM.out];omega,G2,by rw[HM.out];exact H⟩
      case measure=>simp[intOf];omega
    ·have d11:((d.kind:Int) == 11)=false:=by rw[beq_eq_false_iff_ne];omega
     by_cases h9:d.kind=9
     ·have d9:((d.kind:Int) == 9)=true:=by rw[beq_iff_eq];omega
      have ho:zA7 d=false:=by simp[zA7,h9]
      rw[ho]at hop;rcases m with _|m
      ·have E:=Lib.hid (show zIm (zCy ws)=d.place by rw[G.out,zIa HD.out (.inr ⟨h9,List.length_eq_zero_iff.1 HM.out⟩)];rfl)
       clear h9 h11 ho hq1 hq3
       go_wp2_with (first|((with_reducible refine gL ?_);refine zAM wtd_ _ _ rfl rfl zAC (hkd _ (H.kn .zero)) ?_)|((with_reducible refine gL ?_);refine zAM wtd_ _ _ rfl rfl zAC (hpl _ (H.kn .zero)) ?_)|fail)
       go_ret;exact⟨reti E.out.symm,H.below⟩
      ·obtain⟨g,rfl⟩:=hq3 (by omega)
       clear hq3;have hm0:((m:Int)+1 == 0)=false:=by rw[beq_eq_false_iff_ne];omega
       have G2:=Lib.hid (show zCy ws=zBA (zCg ws (j+1)) op.dropLast (ws.drop (j+1)) by rw[G.out,zJW HD.out h9 (fun e=>by have:=HM.out;rw[e]at this;simp at this)])
       clear h9 h11 ho
       go_wp2_with (first|((with_reducible refine gL ?_);refine zAO wtd_ _ _ rfl rfl zBQ rfl (hcell _ (H.kn .zero)) ?_)|((with_reducible refine gL ?_);refine zAM wtd_ _ _ rfl rfl zAC (hkd _ (H.kn .zero)) ?_)|((with_reducible refine gL ?_);refine zAM wtd_ _ _ rfl rfl zAC (hpl _ (H.kn .zero)) ?_)|fail|((with_reducible refine ch (hop _) H ?_);clear H;intro w H))
       have H2:=H.cutRow i_1 (m:=m) (by omega)
       go_roundw
       case rel=>exact⟨j+1,op.dropLast,by omega,by go_num,by rw[List.length_dropLast,HM.out];omega,G2,by
        rw[List.length_dropLast,HM.out];have e:(zGC op).take (m * 1)=zGC op.dropLast:=by
         rw[Nat.mul_one,List.dropLast_eq_take,HM.out];simp[zGC,List.map_take]
        rw[e]at H2
        exact H2⟩
       case measure=>simp[intOf];omega
     ·have d9:((d.kind:Int) == 9)=false:=by rw[beq_eq_false_iff_ne];omega
      cases ho:zA7 d with
      | true =>
       have G2:=Lib.hid (show zCy ws=zBA (zCg ws (j+1)) (op++[d.place]) (ws.drop (j+1)) by rw[G.out,zKW HD.out ho])
       rw[ho]at hop;clear h9 h11 ho
       go_wp2_with (first|((with_reducible refine gL ?_);refine zAO wtd_ _ _ rfl rfl zBQ rfl (hcell _ (H.kn .zero)) ?_)|((with_reducible refine gL ?_);refine zAM wtd_ _ _ rfl rfl zAC (hkd _ (H.kn .zero)) ?_)|((with_reducible refine gL ?_);refine zAM wtd_ _ _ rfl rfl zAC (hpl _ (H.kn .zero)) ?_)|(at_builtin;refine zA8 rfl _ _ 44 rfl H evd_ rfl atd_ atd_ Tryz.underlying44 hi0 hz0 hz1 hz2 rfl (by decide) rfl rfl (by unfold maxLen;omega) (by omega) ?_;clear H;intro v2 w H;try simp only[nr]at H)|((with_reducible refine gBS ?_);refine zAY wtd_ _ _ _ rfl H (#[.int .i64 (d.place:Int)]) 3 (by intro W;simp only[ml];(try simp only[pe]);(try unfold setV);simp[go_sem]<;>rfl) ?_;clear H;intro b w H;try simp only[nr]at H)|fail|((with_reducible refine ch (hop _) H ?_);clear H;intro w H))
       go_roundw
       case rel=>exact⟨j+1,op++[d.place],by omega,by go_num,by rw[List.length_append,HM.out,List.length_singleton];omega,G2,by
        rw[List.length_append,HM.out,List.length_singleton];have e:zGC op++[.int .i64 (d.place:Int)]=zGC (op++[d.place]):=by simp[zGC]
        rw[← e]
        exact H.take 2⟩
       case measure=>simp[intOf];omega
      | false =>
       have G2:=Lib.hid (show zCy ws=zBA (zCg ws (j+1)) op (ws.drop (j+1)) by rw[G.out,zJt HD.out (by omega) ho h9])
       rw[ho]at hop;clear h9 h11 ho
       go_wp2_with (first|((with_reducible refine gL ?_);refine zAO wtd_ _ _ rfl rfl zBQ rfl (hcell _ (H.kn .zero)) ?_)|((with_reducible refine gL ?_);refine zAM wtd_ _ _ rfl rfl zAC (hkd _ (H.kn .zero)) ?_)|((with_reducible refine gL ?_);refine zAM wtd_ _ _ rfl rfl zAC (hpl _ (H.kn .zero)) ?_)|fail|((with_reducible refine ch (hop _) H ?_);clear H;intro w H))
       go_roundw
       case rel=>exact⟨j+1,op,by omega,by go_num,by rw[HM.out];omega,G2,by rw[HM.out];exact H⟩
       case measure=>simp[intOf];omega
  ·have dj:decide ((j:Int)<(n:Int))=false:=by simp;omega
   have E:=Lib.hid (show zCy ws=op.getLast? by rw[G.out,zMc (by have:=HN.out;omega)])
   obtain⟨q,cap,rfl,hq1,hq2,hq3⟩:=H.rowShape i_1;unfold maxLen at hq2
   generalize hm:op.length=m at hol H hq1 hq3
   rcases m with _|m
   ·have E2:=Lib.hid (show zIm (zCy ws) = -1 by rw[E.out,List.length_eq_zero_iff.1 hm];rfl)
    clear hm hp hq3
    go_wp2_with (first|fail)
    go_ret;exact⟨reti E2.out.symm,H.below⟩
   ·obtain⟨a,ha,hl⟩:=zN1 (l:=op) (fun e=>by rw[e]at hm;simp at hm)
    have E2:=Lib.hid (show zIm (zCy ws)=(a:Int) by rw[E.out,hl];rfl)
    rw[hm,Nat.add_sub_cancel]at ha;have HA:=Lib.hid (zMi ha);obtain⟨g,rfl⟩:=hq3 (by omega)
    have dm:decide ((0:Int)<(m:Int)+1)=true:=by rw[decide_eq_true_iff];omega
    clear hm hp hq3 ha hl
    go_wp2_with (first|((with_reducible refine gL ?_);refine zAM wtd_ _ _ rfl rfl zAC (H.row1 i_1 HA.out) ?_)|fail)
    go_ret;exact⟨reti E2.out.symm,H.below⟩
abbrev pC (p:Option Addr) (n c:Nat) (j g:Nat):Array Value:=#[.slice p n c,.int .i64 (j:Int),.int .i64 (g:Int)]
structure AltPre (pb:Nat) (U:TypeId) (FW:Nat->Prop) (p:Option Addr) (n c:Nat) (ws:List WordD) (j g:Nat) (w:World):Prop where
 cells:w.heap[pb]?=some (.cells (pC p n c j g) U (0,0))
 lt:∀ b,FW b->b<w.heap.size
 ne:¬ FW pb
 words:WKnows FW p n c ws w
 ok:∀ d ∈ ws,zAv d.set
 len:n<=1000
 jn:j<=n
 gn:g<=j
def zGE (pb:Nat) (U:TypeId) (p:Option Addr) (n c:Nat) (t:Tree) (j g:Nat) (w:World) (e:Ending) (w':World):Prop :=
 KeepBut (·=pb) w.heap.size w w'/\w'.heap[pb]?=some (.cells (pC p n c j g) U (0,0))/\zCf w (fun _=>False) t e w'
theorem chA {M:Nat->Prop} {P:Program} {f:FuncId} {args:Array Value} {w w0:World} {l:List Res} {pb:Nat} {U:TypeId} {p:Option Addr} {n c j g:Nat} {t:Tree} {R:Ending->World->Prop} (k:Calls P f args w (zGE pb U p n c t j g w)) (H:HoldG M w0 w l) {i:Nat} {cs:Array Value} (hi:At l i (.blk pb cs U))
  (h:∀ q m F w',(∀ b,F b->w0.heap.size<=b)->HoldG M w0 w' (l.set i (.blk pb (pC p n c j g) U)++[.kn F (fun V=>ForestR V F q m t.kids)])->R (.returned (zAV t.d (.slice q t.kids.length m))) w'):Calls P f args w R:=k.mono fun _ w' h'=>by
 obtain⟨hk,hb,q,m,F,rfl,hs,hF⟩:=h';exact h q m F w' (fun b hb=>by rcases(hF b hb).2 with h1|h1;exact Nat.le_trans H.keep.size h1;exact h1.elim) (H.learnBut hi hk hb Still.none hF (fun V hV=>hs.kept hV))
section
variable {M:Nat->Prop} {w0 w:World} {l:List Res}
theorem zOj {V W:World} {F:Nat->Prop} {b:Nat} {t:Tree} {q:Option Addr} {m:Nat} {T:TypeId} (hb:W.heap[b]?=some (.cells (zAR t.d (.slice q t.kids.length m)) T (0,0))) (hF:ForestR W F q m t.kids) (hV:∀ k,(k=b\/F k)->V.heap[k]?=W.heap[k]?):ForestR V (fun k=>k=b\/F k) (some ⟨b,0,none⟩) 1 [t]:=by
 refine .mk _ _ _ [(t,q,m)] ⟨_,1,rfl,by simp,by decide,(fun h=>by cases h),fun j r hj=>⟨b,0,rfl,.inl rfl,?_,fun k hk=>?_⟩⟩ (fun x hx=>?_) rfl
 ·match j,hj with
  | 0,hj=>simp at hj;subst hj;rfl
 ·match j,hj with
  | 0,hj =>
   simp only[List.map_cons,List.map_nil,List.getElem?_cons_zero,Option.some.injEq]at hj;subst hj;rw[cell_of_row V b _ _ T (0,0) ((hV b (.inl rfl)).trans hb)];simp
 ·rw[List.mem_singleton]at hx;subst hx;exact(hF.mono (fun _ h=>.inr h)).kept hV
theorem HoldG.freshB {pb b i:Nat} {cs ds:Array Value} {U T:TypeId} (H:HoldG (·=pb) w0 w (.blk pb cs U::l)) (hi:At l i (.blk b ds T)):w0.heap.size<=b:=by
 rcases(H.blk (.succ hi)).1 with h|h
 ·exact h
 ·exact(H.apart 0 (i+1) _ _ (by omega) rfl (At.get (.succ hi)) pb rfl (by rw[h];exact rfl)).elim
theorem HoldG.kid (H:HoldG M w0 w l) {i k b:Nat} {F:Nat->Prop} {t:Tree} {q:Option Addr} {m:Nat} {T:TypeId} (hi:At l i (.blk b (zAR t.d (.slice q t.kids.length m)) T)) (hk:At l k (.kn F (fun V=>ForestR V F q m t.kids))) :
  HoldG M w0 w (l.set i (.kn (fun k=>some b=some k) (fun V=>V.heap[b]?=some (.cells (zAR t.d (.slice q t.kids.length m)) T (0,0))))++[.kn (fun k=>k=b\/F k) (fun V=>ForestR V (fun k=>k=b\/F k) (some ⟨b,0,none⟩) 1 [t])]):=by
 have hb:=(H.blk hi).2;have H2:=H.rest hi (fun V=>V.heap[b]?=some (.cells (zAR t.d (.slice q t.kids.length m)) T (0,0))) (fun V hV=>(hV b rfl).trans hb)
 refine H2.also _ _ (fun z hz=>?_) (fun V hV=>zOj hb (H.kn hk) hV)
 have hil:i<l.length:=(List.getElem?_eq_some_iff.1 hi.get).1;have hne:i≠k:=fun e=>by subst e;have:=hi.get.symm.trans hk.get;cases this
 rcases hz with e|h
 ·exact⟨i,_,by rw[List.getElem?_set,if_pos rfl,if_pos hil],rfl,by rw[e];exact rfl⟩
 ·exact⟨k,.kn F (fun V=>ForestR V F q m t.kids),by rw[List.getElem?_set,if_neg hne];exact hk.get,rfl,h⟩
end
theorem zMT (pb:Nat) (FW:Nat->Prop) (p:Option Addr) (n c:Nat) (ws:List WordD) (j g:Nat) (f:zBL) (d:WordD) (t:Tree) (j' g':Nat) (w0:World) (hP:AltPre pb 174 FW p n c ws j g w0) (hj':j'<n) (hg1:g+1<=j) (hg':g'<=j')
  (A:∀ w,AltPre pb 174 FW p n c ws j (if d.kind=7 then g else g+1) w->Calls Tryz.prog 101 #[.pointer (some ⟨pb,0,none⟩),zCN (if d.kind=7 then zGR f d else f)] w (zGE pb 174 p n c t j' g' w)) :
  Calls Tryz.prog 153 #[.pointer (some ⟨pb,0,none⟩),zC3 d,zCN f] w0 (zGE pb 174 p n c (if d.kind=7 then t else zFv (g+1) t) (j'+1) g' w0):=by
 have H:=(HoldG.startB hP.cells).know FW (WKnows FW p n c ws) hP.lt (fun i r h b hb=>by
  match i,h with
  | 0,h=>cases h;cases hb;exact hP.ne) (fun V hV=>hP.words.kept hV)
 simp only[ca]at H;have hlen:=hP.len;have hjn:=hP.jn;have hgn:=hP.gn;have hpre:∀ (g1:Nat) (w:World) (l:List Res),g1<=j->HoldG (·=pb) w0 w (.blk pb (pC p n c j g1) 174::.kn FW (WKnows FW p n c ws)::l)->AltPre pb 174 FW p n c ws j g1 w:=fun g1 w l h1 h=>⟨(h.blk .zero).2,h.knlt i_1,hP.ne,h.kn i_1,hP.ok,hP.len,hP.jn,h1⟩
 have hpre1:∀ (w:World) (l:List Res),HoldG (·=pb) w0 w (.blk pb #[.slice p n c,.int .i64 (j:Int),.int .i64 ((g:Int)+1)] 174::.kn FW (WKnows FW p n c ws)::l)->AltPre pb 174 FW p n c ws j (g+1) w:=fun w l h=>hpre (g+1) w l hg1 h
 by_cases h7:d.kind=7
 ·have d7:((d.kind:Int) == 7)=true:=by rw[beq_iff_eq];omega
  simp only[h7,if_true]at A ⊢;have htu:=fun w=>zG7 f d w
  clear h7
  go_enter Tryz.func153,Tryz.ntmps153
  go_wp2_with (first|(first|((with_reducible refine gT ?_);((first|refine aO H ?_|refine aT H ?_);clear H;intro w H;try simp only[nr]at H))|((with_reducible refine gL ?_);(first|refine aG H ?_|refine aD H ?_))|((with_reducible refine gX ?_);(refine bB H ?_;clear H;intro b w H;try simp only[nr]at H))|((with_reducible refine gA ?_);(refine bA H ?_;clear H;intro b w H;try simp only[nr]at H)))|((with_reducible refine ch (htu _) H ?_);clear H;intro w H)|(go_at_call 101;(with_reducible refine chA (A _ (hpre g _ _ (by omega) H)) H .zero ?_);clear H;intro q m F w hF H))
  (refine xc Tryz.results153 H ?_)
  exact⟨H.keep,(H.blk .zero).2,q,m,F,rfl,H.kn (i:=5) i_5,fun b h=>⟨H.knlt i_5 b h,.inl (hF b h)⟩⟩
 ·have d7:((d.kind:Int) == 7)=false:=by rw[beq_eq_false_iff_ne];omega
  simp only[h7,if_false]at A ⊢;clear h7
  go_enter Tryz.func153,Tryz.ntmps153
  go_upto_region 8 with (first|(first|((with_reducible refine gT ?_);((first|refine aO H ?_|refine aT H ?_);clear H;intro w H;try simp only[nr]at H))|((with_reducible refine gL ?_);(first|refine aG H ?_|refine aD H ?_))|((with_reducible refine gX ?_);(refine bB H ?_;clear H;intro b w H;try simp only[nr]at H))|((with_reducible refine gA ?_);(refine bA H ?_;clear H;intro b w H;try simp only[nr]at H)))|(go_at_call 101;(with_reducible refine chA (A _ (hpre1 _ _ H)) H .zero ?_);clear H;intro q m F w hF H))
  go_wp2_with (first|((with_reducible refine gBS ?_);refine zAY wtd_ _ _ _ rfl H (zAR (t.d) (.slice q t.kids.length m)) 28 (by intro W;simp only[ml];(try simp only[pe]);exact zCX _ _ W) ?_;clear H;intro bk w H;try simp only[nr]at H)|(first|((with_reducible refine gT ?_);((first|refine aO H ?_|refine aT H ?_);clear H;intro w H;try simp only[nr]at H))|((with_reducible refine gL ?_);(first|refine aG H ?_|refine aD H ?_))|((with_reducible refine gZ ?_);refine nbG ?_)))
  (refine xc Tryz.results153 H ?_)
  have hkk:w0.heap.size<=bk:=H.freshB (i:=6) i_6;have H2:=H.kid (i:=7) (k:=5) i_7 i_5;exact⟨H.keep,(H.blk .zero).2,some ⟨bk,0,none⟩,1,_,rfl,(H2.all 8 _ rfl).2 w (fun _ _=>rfl),fun b h=>⟨(H2.all 8 _ rfl).1 b h,.inl (h.elim (fun e=>e ▸ hkk) (hF b))⟩⟩
end
section
open Go.RowKit
def zJq (n0:Nat) (cs:Array Value) (T:TypeId) (v:Value) (W:World):Prop:=∃ b,v=pt b 0/\n0<=b/\W.heap[b]?=some (.cells cs T (0,0))
theorem zIl (n0:Nat) (cs:Array Value) (T:TypeId):zGT (zJq n0 cs T):=fun v w w' ⟨b,e,h1,h2⟩ hb=>⟨b,e,h1,(hb.block b (Array.getElem?_eq_some_iff.1 h2).1).trans h2⟩
theorem zNs {P:Program} {ops:Array Oper} {o:Oper} {a:Act} {w:World} {n0:Nat} {T:TypeId} {cs:Array Value} {D:Prop} (hg:Region.wanted o (yielded ops a.tmps)=true) (hop:o.op=Op.alloc T) (hi:((P.info? T).bind (·.zero)).isSome=true) (hz:zBx P T=cs) (hn:n0<=w.heap.size) (hD:¬ D:=by decide) :
  zBZ P ops o a w (fun v w'=>zJq n0 cs T v w'/\(D->w.heap.size<=blk v)):=by
 subst hz
 cases hi1:P.info? T with
 | none=>simp[hi1]at hi
 | some i0 =>
  cases hz:i0.zero with
  | none=>simp[hi1,hz]at hi
  | some z =>
   have hzc:zBx P T=z.cells:=by simp[zBx,hi1,hz]
   refine zDn hg (v:=.pointer (some ⟨w.heap.size,0,none⟩)) (w':=w.alloc (.cells (zBx P T) T)) ?_ ((Below.refl _ w).alloc (Nat.le_refl _) _) ⟨⟨w.heap.size,rfl,hn,World.alloc_heap_new w _⟩,fun h=>(hD h).elim⟩
   rw[hzc];simp[execOp,hop,Instr.alloc,zeroValue,typeInfo,hi1,hz,newVar,newRow]
theorem HoldG.gainB {M:Nat->Prop} {w0 w w':World} {l:List Res} (H:HoldG M w0 w l) (hb:Below w.heap.size w w') {cs:Array Value} {T:TypeId} {v:Value} (h:zJq w.heap.size cs T v w'):∃ b,v=pt b 0/\HoldG M w0 w' (l++[.blk b cs T]):=by
 obtain⟨b,e,h1,h2⟩:=h;refine⟨b,e,(H.call hb).keep,?_,?_⟩
 ·intro j s hs;rw[List.getElem?_append]at hs;split at hs
  ·exact(H.call hb).all j s hs
  ·rcases List.getElem?_eq_some_iff.1 hs with ⟨h3,h4⟩
   simp at h3;simp[h3]at h4;subst h4;exact⟨.inl (Nat.le_trans H.keep.size h1),h2⟩
 ·intro j k s t hjk hs ht;rw[List.getElem?_append]at hs ht;split at hs
  ·split at ht
   ·exact H.apart j k s t hjk hs ht
   ·rcases List.getElem?_eq_some_iff.1 ht with ⟨h3,h4⟩
    simp at h3;simp[h3]at h4;subst h4;intro z hz1 hz2;have:=((H.all j s hs).lt z hz1).2;have e:some b=some z:=hz2
    cases e;omega
  ·rcases List.getElem?_eq_some_iff.1 hs with ⟨h3,h4⟩
   simp at h3;simp[h3]at h4;subst h4;split at ht
   ·intro z hz1 hz2;have:=(H.all k t ht).ltf z hz2
    cases hz1;omega
   ·rcases List.getElem?_eq_some_iff.1 ht with ⟨h5,h6⟩
    simp at h5;omega
def zCo (n0:Nat) (cs:Array Value) (T:TypeId) (v:Value) (W:World):Prop:=∃ b,v=.slice (some ⟨b,0,none⟩) 1 1/\n0<=b/\W.heap[b]?=some (.cells cs T (0,0))
theorem zA1 (n0:Nat) (cs:Array Value) (T:TypeId):zGT (zCo n0 cs T):=fun v w w' ⟨b,e,h1,h2⟩ hb=>⟨b,e,h1,(hb.block b (Array.getElem?_eq_some_iff.1 h2).1).trans h2⟩
theorem HoldG.gainS {M:Nat->Prop} {w0 w w':World} {l:List Res} (H:HoldG M w0 w l) (hb:Below w.heap.size w w') {cs:Array Value} {T:TypeId} {v:Value} (h:zCo w.heap.size cs T v w'):∃ b,v=.slice (some ⟨b,0,none⟩) 1 1/\HoldG M w0 w' (l++[.blk b cs T]):=by
 obtain⟨b,e,h1,h2⟩:=h;obtain⟨b',e',H2⟩:=H.gainB hb (v:=.pointer (some ⟨b,0,none⟩)) ⟨b,rfl,h1,h2⟩
 cases e'
 exact⟨b,e,H2⟩
theorem zPy {P:Program} {ops:Array Oper} {o:Oper} {a:Act} {w:World} {n0:Nat} {x:Operand} {TS T:TypeId} {cs:Array Value} {D:Prop} (hg:Region.wanted o (yielded ops a.tmps)=true) (hop:o.op=Op.buildSlice TS 1 #[(0,x)]) (hx:a.eval x=.agg cs)
  (hr:∀ W:World,(Instr.buildSlice TS 1 #[(0,.agg cs)]).run P W=.ok (.slice (some ⟨W.heap.size,0,none⟩) 1 1) (W.alloc (.cells cs T))) (hn:n0<=w.heap.size) (hD:¬ D:=by decide):zBZ P ops o a w (fun v w'=>zCo n0 cs T v w'/\(D->w.heap.size<=blk v)):=by
 refine zDn hg (v:=.slice (some ⟨w.heap.size,0,none⟩) 1 1) (w':=w.alloc (.cells cs T)) ?_ ((Below.refl _ w).alloc (Nat.le_refl _) _) ⟨⟨w.heap.size,rfl,hn,World.alloc_heap_new w _⟩,fun h=>(hD h).elim⟩
 simp only[execOp,hop,List.map_toArray,List.map_cons,List.map_nil,hx,Sem.run_bind,hr];rfl
end
section
open Go.RowKit Go.Shelf
attribute [local go_sem] Oper.semAt_some
theorem zES:∀ (m:Nat) (f:zBL) (r:List WordD) (g:Nat) (all items:List Tree) (t:Tree) (r':List WordD) (g':Nat),zAq m f r g all items=some (t,r',g')->r' <:+ r/\g'+r'.length<=g+r.length
 | 0,f,r,g,all,items,t,r',g',h=>by simp[zAq]at h
 | m+1,f,[],g,all,items,t,r',g',h=>by
  simp only[zAq,Option.some.injEq,Prod.mk.injEq]at h;obtain⟨_,rfl,rfl⟩:=h;exact⟨List.suffix_refl _,by simp⟩
 | m+1,f,w::r,g,all,items,t,r',g',h=>by
  have IH:=zES m;have hs:r <:+ w::r:=List.suffix_cons w r;have step:∀ {f g2 all items},g2<=g+1->zAq m f r g2 all items=some (t,r',g')->r' <:+ w::r/\g'+r'.length<=g+(w::r).length:=fun hg e=>by
   have:=IH _ _ _ _ _ _ _ _ e;exact⟨this.1.trans hs,by have:=this.2;simp only[List.length_cons];omega⟩
  unfold zAq at h;split at h
  ·simp only[Option.some.injEq,Prod.mk.injEq]at h;obtain⟨_,rfl,rfl⟩:=h;exact⟨List.suffix_refl _,by omega⟩
  split at h
  ·exact step (by omega) h
  split at h
  ·exact step (by omega) h
  split at h
  ·split at h
   ·cases h
   ·exact step (by omega) h
  split at h
  ·split at h
   ·rename_i t1 d1 r1 g1 h1;have a:=IH _ _ _ _ _ _ _ _ h1;have b:=IH _ _ _ _ _ _ _ _ h;refine⟨(b.1.trans (List.suffix_cons d1 r1)).trans (a.1.trans hs),?_⟩
    have:=a.2;have:=b.2;simp only[List.length_cons]at *;omega
   ·cases h
  split at h
  ·split at h
   ·rename_i t1 d1 r1 g1 h1;have a:=IH _ _ _ _ _ _ _ _ h1;have b:=IH _ _ _ _ _ _ _ _ h;refine⟨(b.1.trans (List.suffix_cons d1 r1)).trans (a.1.trans hs),?_⟩
    have:=a.2;have:=b.2;simp only[List.length_cons]at *;omega
   ·cases h
  ·exact step (by omega) h
theorem zDo:(Tryz.prog.info? 28).map (fun i=>(i.zero,i.size,i.bytes))=some (some (.agg (zAR {kind:=0} nilS)),10,96):=by kernel_rfl
section
variable {M:Nat->Prop} {w0 w:World} {l:List Res}
theorem HoldG.rowForest (H:HoldG M w0 w l) {i N cap:Nat} {q:Option Addr} {T:TypeId} {xs:List TV} {K:Nat->Prop} (hi:At l i (.row (.slice q N cap) T 10 N (zAG (xs.map zAT)))) (hN:xs.length=N) (hK:Still l K) (hL:ListR w K xs) :
  ∃ G:Nat->Prop,(∀ b,G b->w0.heap.size<=b\/K b)/\HoldG M w0 w (l.set i (.kn G (fun V=>ForestR V G q cap (xs.map (·.1))))):=by
 have ho:=H.all i _ hi.get;have hrd:∀ V:World,(∀ b,(Value.slice q N cap).ownBlock=some b->V.heap[b]?=w.heap[b]?)->RdN 10 V (fun b=>(Value.slice q N cap).ownBlock=some b) (.slice q N cap) (xs.map zAT):=fun V hV=>RdN.of_own ho (zBy xs) (by rw[List.length_map];exact hN) hV
 refine⟨fun b=>(Value.slice q N cap).ownBlock=some b\/K b,fun b hb=>hb.imp (fun hb=>?_) id,H.restG hi _ _ (fun b hb=>hb.imp id (hK b)) (fun V hV=>.mk _ _ _ xs (by rw[List.length_map,hN];exact(hrd V (fun b hb=>hV b (.inl hb))).mono (fun _ h=>.inl h)) (fun x hx=>((hL x hx).mono (fun _ h=>.inr h)).kept hV) rfl)⟩
 obtain⟨_,⟨hv,_⟩|⟨g,cap',cur,hv,hg,_⟩⟩:=ho
 ·cases hv;cases hb
 ·cases hv;cases hb;exact hg
theorem HoldG.rowForest1 (H:HoldG M w0 w l) {i k k2:Nat} {v:Value} {T:TypeId} {xs ys:List TV} {F F2:Nat->Prop} {t:Tree} {q2:Option Addr} {c2:Nat} (hi:At l i (.row v T 10 (xs.length+1) (zAG (xs.map zAT)++(zAR t.d (.slice q2 t.kids.length c2)).toList))) (hk:At l k (.kn F (fun V=>ListR V F ys))) (hsub:∀ x ∈ xs,x ∈ ys)
  (hk2:At l k2 (.kn F2 (fun V=>ForestR V F2 q2 c2 t.kids))):∃ (q:Option Addr) (cap:Nat) (G:Nat->Prop),v=.slice q (xs.length+1) cap/\(∀ b,G b->w0.heap.size<=b\/F b\/F2 b)/\HoldG M w0 w (l.set i (.kn G (fun V=>ForestR V G q cap (xs.map (·.1)++[t])))):=by
 obtain⟨q,cap,rfl,_,_,_⟩:=H.rowShape hi;have e:zAG (xs.map zAT)++(zAR t.d (.slice q2 t.kids.length c2)).toList=zAG ((xs++[((t,q2,c2):TV)]).map zAT):=by rw[List.map_append,zBI];simp[zAG]
 rw[e]at hi;obtain⟨G,hG,H2⟩:=H.rowForest (K:=fun b=>F b\/F2 b) hi (by simp) ((Still.at hk).or (Still.at hk2)) (ListR.append (fun x hx=>(H.kn hk x (hsub x hx)).mono (fun _ h=>.inl h)) (ListR.one ((H.kn hk2).mono (fun _ h=>.inr h))))
 refine⟨q,cap,G,rfl,hG,?_⟩
 simpa using H2
theorem HoldG.rowGrown (H:HoldG M w0 w l) {i k k2:Nat} {v:Value} {T:TypeId} {xs ys:List TV} {F F2:Nat->Prop} {t:Tree} {q2:Option Addr} {c2:Nat} (hi:At l i (.row v T 10 (xs.length+1) (zAG (xs.map zAT)++(zAR t.d (.slice q2 t.kids.length c2)).toList))) (hk:At l k (.kn F (fun V=>ListR V F ys)))
  (hk2:At l k2 (.kn F2 (fun V=>ForestR V F2 q2 c2 t.kids))) (zs:List TV) (hsub:∀ x ∈ zs,x ∈ ys\/x=(t,q2,c2)):HoldG M w0 w (l.set i (.row v T 10 (xs++[((t,q2,c2):TV)]).length (zAG ((xs++[((t,q2,c2):TV)]).map zAT)))++[.kn (fun b=>F b\/F2 b) (fun V=>ListR V (fun b=>F b\/F2 b) zs)]):=by
 have e:zAG (xs.map zAT)++(zAR t.d (.slice q2 t.kids.length c2)).toList=zAG ((xs++[((t,q2,c2):TV)]).map zAT):=by rw[List.map_append,zBI];simp[zAG]
 have el:xs.length+1=(xs++[((t,q2,c2):TV)]).length:=by simp
 rw[e,el]at hi;have hs:l.set i (.row v T 10 (xs++[((t,q2,c2):TV)]).length (zAG ((xs++[((t,q2,c2):TV)]).map zAT)))=l:=by
  apply List.ext_getElem?;intro j;rw[List.getElem?_set];split
  ·rename_i e;subst e;have:=hi.get;rw[if_pos (List.getElem?_eq_some_iff.1 this).1,this]
  ·rfl
 rw[hs];refine H.also _ _ ((Still.at hk).or (Still.at hk2)) (fun V hV x hx=>?_)
 rcases hsub x hx with h|rfl
 ·exact((H.kn hk x h).mono (fun _ h=>.inl h)).kept hV
 ·exact((H.kn hk2).mono (fun _ h=>.inr h)).kept hV
end
section
variable {m:Nat} {f:zBL} {w:WordD} {r:List WordD} {g:Nat} {all items:List Tree}
theorem zNu:zAq (m+1) f [] g all items=some (rowT 5 (all++[rowT 4 items]),[],g):=by simp only[zAq]
theorem zPl (h:w.kind=9):zAq (m+1) f (w::r) g all items=some (rowT 5 (all++[rowT 4 items]),w::r,g):=by simp only[zAq,h,if_true]
theorem zPx (h:w.kind=8):zAq (m+1) f (w::r) g all items=zAq m (zGR f w) r g all items:=by simp[zAq,h]
theorem zOh (h:w.kind=10):zAq (m+1) f (w::r) g all items=zAq m f r g (all++[rowT 4 items]) []:=by simp[zAq,h]
theorem zO0 (h:w.kind=11):zAq (m+1) f (w::r) g all items=match items.getLast? with|none=>none|some last=>zAq m f r g all (items.dropLast++[repT w last]):=by simp[zAq,h];rfl
theorem zPT (h:w.kind=7):zAq (m+1) f (w::r) g all items=match zAq m (zGR f w) r g [] [] with|some (t,_::r',g')=>zAq m f r' g' all (items++[t])|_=>none:=by simp[zAq,h];rfl
theorem zPf (h:w.kind=6):zAq (m+1) f (w::r) g all items=match zAq m f r (g+1) [] [] with|some (t,_::r',g')=>zAq m f r' g' all (items++[zFv (g+1) t])|_=>none:=by simp[zAq,h];rfl
theorem zOu (h9:w.kind≠9) (h8:w.kind≠8) (h10:w.kind≠10) (h11:w.kind≠11) (h7:w.kind≠7) (h6:w.kind≠6):zAq (m+1) f (w::r) g all items=zAq m f r g all (items++[zFM w f]):=by simp[zAq, *]
end
def posM (pb n:Nat) (w:World):Nat:=match w.cell? ⟨pb,1,none⟩ with|some (.int _ z)=>n+1 - z.toNat|_=>0
theorem zC5 {pb n:Nat} {w:World} {k:IntKind} {z:Int} (h:w.cell? ⟨pb,1,none⟩=some (.int k z)):posM pb n w=n+1 - z.toNat:=by unfold posM;rw[h]
theorem zHJ (d:WordD) (f:zBL):(zFM d f).kids=[]:=by
 unfold zFM setT zLk zBs
 repeat' split
 all_goals first|rfl|(dsimp only;repeat' split)<;>rfl
theorem zME {m:Nat} {f:zBL} {w:WordD} {r:List WordD} {g:Nat} {all items:List Tree} {t:Tree} {r':List WordD} {g':Nat} (h:zA7 w=true) (e:zAq (m+1) f (w::r) g all items=some (t,r',g')) :
  ∃ t1 d1 r1 g1,zAq m (if w.kind=7 then zGR f w else f) r (if w.kind=7 then g else g+1) [] []=some (t1,d1::r1,g1)/\zAq m f r1 g1 all (items++[if w.kind=7 then t1 else zFv (g+1) t1])=some (t,r',g'):=by
 have hk:w.kind=6\/w.kind=7:=by simpa [zA7] using h
 by_cases h7:w.kind=7
 ·rw[zPT h7]at e;simp only[h7,if_true];split at e
  ·rename_i t1 d1 r1 g1 h1;exact⟨t1,d1,r1,g1,h1,e⟩
  ·cases e
 ·rw[zPf (by omega)]at e
  simp only[h7,if_false];split at e
  ·rename_i t1 d1 r1 g1 h1;exact⟨t1,d1,r1,g1,h1,e⟩
  ·cases e
theorem zLi {m:Nat} {f:zBL} {w:WordD} {r:List WordD} {g:Nat} {all:List Tree} {xs:List TV} {t:Tree} {r':List WordD} {g':Nat} (h:w.kind=11) (e:zAq (m+1) f (w::r) g all (xs.map (·.1))=some (t,r',g')) :
  ∃ ys x,xs=ys++[x]/\zAq m f r g all (ys.map (·.1)++[repT w x.1])=some (t,r',g'):=by
 rw[zO0 h]at e;rcases List.eq_nil_or_concat xs with rfl|⟨ys,x,rfl⟩
 ·simp at e
 ·refine⟨ys,x,by simp,?_⟩
  simpa using e
theorem drop_suffix {α:Type} {ws r:List α} {n:Nat} (hn:n=ws.length) (h:r <:+ ws):ws.drop (n - r.length)=r:=by
 subst hn;exact(List.suffix_iff_eq_drop.1 h).symm
theorem zNF {ys:List TV} {x x':TV} {c:Array Value} (h:zAT x'=c):((ys++[x]).map zAT).set ys.length c=(ys++[x']).map zAT:=by
 subst h;have:(ys.map zAT).length=ys.length:=List.length_map ..;rw[List.map_append,List.map_append,List.set_append,if_neg (by omega),this,Nat.sub_self];rfl
end
section
open Go.RowKit
def zBM (d:NodeD) (k:Nat):Bool :=
 if d.kind=3 then !eqS d.set zAN&&((k:Int) == 0)&&!(d.group != 0)
  else if d.kind=4\/d.kind=5 then decide (1<(k:Int))&&!(!eqS d.set zAN)&&!(d.group != 0)
  else if d.kind=6 then ((k:Int) == 1)&&!(!eqS d.set zAN)&&!(d.group != 0)&&decide (0<=d.lo)&&decide (d.lo<=100)&&(d.hi == -1 || decide (d.lo<=d.hi)&&decide (d.hi<=100))
  else if d.kind=7 then ((k:Int) == 1)&&!(!eqS d.set zAN)&&decide (0<d.group)&&decide (d.group<=20)
  else decide (1<=d.kind)&&decide (d.kind<=13)&&((k:Int) == 0)&&!(!eqS d.set zAN)&&!(d.group != 0)
def zCs (d:NodeD):Bool:=!((d.kind != 6)&&((d.lo != 0) || (d.hi != 0) || d.lazy))
def zAu (d:NodeD) (k:Nat):Bool:=zBM d k&&zCs d
mutual
def zAk:Tree->Bool
 | .mk d ks=>zAu d ks.length&&zAU ks
def zAU:List Tree->Bool
 | []=>true
 | t::r=>zAk t&&zAU r
end
theorem zFq (t:Tree):zAk t=(zAu t.d t.kids.length&&zAU t.kids):=by cases t;simp[zAk,Tree.kids,Tree.d]
theorem zFr:∀ {ts:List Tree} {i:Nat} {t:Tree},zAU ts=true->ts[i]?=some t->zAk t=true
 | [],_,_,_,h=>by simp at h
 | t::r,0,u,h,hi=>by simp only[zAU,Bool.and_eq_true]at h;simp at hi;subst hi;exact h.1
 | t::r,i+1,u,h,hi=>by simp only[zAU,Bool.and_eq_true]at h;exact zFr h.2 (by simpa using hi)
theorem zEH:∀ (a b:List Tree),zAU (a++b)=(zAU a&&zAU b)
 | [],b=>by simp[zAU]
 | t::r,b=>by simp only[List.cons_append,zAU];rw[zEH r b,Bool.and_assoc]
def zDz (i o:Int) (t:Tree):List Tree:=if t.d.kind=i then t.kids else if t.d.kind=o then [] else [t]
def zBK (ts:List Tree) (i o:Int):List Tree:=ts.flatMap (zDz i o)
def rowN (k:Int) (ts:List Tree) (none_:Tree):Tree:=match ts with
 | []=>none_
 | [t]=>t
 | _=>.mk {kind:=k} ts
def catT (ts:List Tree):Tree:=if ts.any (fun t=>t.d.kind == 2) then zBs 2 else rowN 4 (zBK ts 4 1) (zBs 1)
def zC9 (n:NodeD) (k:Tree) (most:Int):Tree:=.mk {kind:=6,hi:=most,lazy:=n.lazy} [k]
def zCi (n:NodeD) (k:Tree):Nat->List Tree
 | 0=>[]
 | m+1=>[zC9 n (catT (k::zCi n k m)) 1]
def zC7 (n:NodeD) (k:Tree):Option Tree :=
 if n.hi=0\/k.d.kind=1\/k.d.kind=2/\n.lo=0 then some (zBs 1)
 else if k.d.kind=2 then some (zBs 2)
 else if 4000<(zAB k:Int) * max (max n.lo n.hi) 1 then none
 else some (catT (List.replicate n.lo.toNat k++if n.hi<0 then [zC9 n k (-1)] else zCi n k (n.hi - n.lo).toNat))
def zKO (d:NodeD) (t:Tree) (l:List Tree):Option Tree :=
 if d.kind=7 then (match l with|[]=>none|k::_=>if k.d.kind=2 then some (zBs 2) else some (.mk d l))
 else if d.kind=4 then some (catT l)
 else if d.kind=5 then some (rowN 5 (zBK l 5 2) (zBs 2))
 else if d.kind=6 then (match l with|[]=>none|k::_=>zC7 d k)
 else some t
def capT (o:Option Tree):Option Tree:=match o with|some t=>if zAB t<=2000 then some t else none|none=>none
mutual
def zAn:Tree->Option Tree
 | .mk d ks=>match zAc ks with|none=>none|some l=>capT (zKO d (.mk d ks) l)
def zAc:List Tree->Option (List Tree)
 | []=>some []
 | t::r=>match zAn t with|none=>none|some x=>match zAc r with|none=>none|some l=>some (x::l)
end
def zBB (t:Tree):Except Nat Tree:=if zAk t=true/\zAB t<=2000 then (match zAn t with|none=>.error 7|some s=>.ok s) else .error 2
theorem zKb (ts:List Tree) (t:Tree) (i o:Int):zBK (ts++[t]) i o=zBK ts i o++zDz i o t:=by simp[zBK]
theorem zKF {ts:List Tree} {j:Nat} {t:Tree} (h:ts[j]?=some t) (i o:Int):zBK (ts.take (j+1)) i o=zBK (ts.take j) i o++zDz i o t:=by rw[zBb h,zKb]
theorem zKJ (i o:Int) (t:Tree):zAF (zDz i o t)<=zAB t:=by
 unfold zDz;split
 ·rw[zC0 t];omega
 split
 ·simp[zAF]
 ·rw[zAx];exact Nat.le_refl _
theorem zDB:∀ (ts:List Tree) (i o:Int),zAF (zBK ts i o)<=zAF ts
 | [],_,_=>by simp[zBK]
 | t::r,i,o=>by
  have:=zDB r i o;have:=zKJ i o t;simp only[zBK,List.flatMap_cons]at *;rw[zAZ];simp only[zAF];omega
theorem zLJ (k:Int) (ts:List Tree) (d:Tree) (hd:zAB d=1):zAB (rowN k ts d)<=1+zAF ts:=by
 unfold rowN;split
 ·omega
 ·rw[zAx];omega
 ·simp[zAB]
theorem zH6 (k:Int):zAB (zBs k)=1:=by simp[zBs,zAB,zAF]
theorem zMs (ts:List Tree):zAB (catT ts)<=1+zAF ts:=by
 unfold catT;split
 ·rw[zH6];omega
 ·have:=zLJ 4 (zBK ts 4 1) (zBs 1) (zH6 1);have:=zDB ts 4 1;omega
theorem zGx (n:NodeD) (k:Tree) (m:Int):zAB (zC9 n k m)=1+zAB k:=by simp[zC9,zAB,zAF]
theorem zEl:∀ (a:List Tree) (t:Tree) {l:List Tree} {x:Tree},zAc a=some l->zAn t=some x->zAc (a++[t])=some (l++[x])
 | [],t,l,x,h,hx=>by
  simp only[zAc,Option.some.injEq]at h;subst h;simp[zAc,hx]
 | u::r,t,l,x,h,hx=>by
  simp only[zAc]at h
  cases hu:zAn u with
  | none=>rw[hu]at h;cases h
  | some y =>
   rw[hu]at h
   cases hr:zAc r with
   | none=>rw[hr]at h;cases h
   | some l' =>
    rw[hr]at h;simp only[Option.some.injEq]at h;subst h;simp only[List.cons_append,zAc,hu,zEl r t hr hx]
theorem zEn:∀ {ts:List Tree} {i:Nat} {t:Tree},ts[i]?=some t->zAn t=none->zAc ts=none
 | [],_,_,h,_=>by simp at h
 | u::r,0,t,h,hn=>by simp at h;subst h;simp[zAc,hn]
 | u::r,i+1,t,h,hn=>by
  simp only[zAc];rw[zEn (ts:=r) (i:=i) (by simpa using h) hn]
  cases zAn u<;>rfl
theorem zDu:∀ {ts l:List Tree},zAc ts=some l->l.length=ts.length
 | [],l,h=>by simp[zAc]at h;subst h;rfl
 | u::r,l,h=>by
  simp only[zAc]at h;split at h
  ·cases h
  ·split at h
   ·cases h
   ·rename_i l' hl
    cases h
    simp[zDu hl]
theorem zPP {o:Option Tree} {t:Tree} (h:capT o=some t):zAB t<=2000:=by
 unfold capT at h;split at h
 ·split at h
  ·cases h;assumption
  ·cases h
 ·cases h
theorem zED {t s:Tree} (h:zAn t=some s):zAB s<=2000:=by
 cases t with
 | mk d ks =>
  simp only[zAn]at h;split at h
  ·cases h
  ·exact zPP h
theorem zE3:∀ {ts l:List Tree},zAc ts=some l->zAF l<=2000 * ts.length
 | [],l,h=>by simp[zAc]at h;subst h;simp[zAF]
 | u::r,l,h=>by
  simp only[zAc]at h;split at h
  ·cases h
  ·rename_i x hx;split at h
   ·cases h
   ·rename_i l' hl
    cases h
    have:=zE3 hl;have:=zED hx;simp only[zAF,List.length_cons];omega
end
section
open Go.RowKit Go.Shelf
attribute [local go_sem] Oper.semAt_some
section
variable {P:Program} {ops:Array Oper} {rest:List Oper} {o:Oper} {a:Act} {w w0:World} {Q:Exit->Act->World->Prop} {l:List Res} {M:Nat->Prop}
theorem zBC (hg:o.guard=none) (s x:Operand) (T:TypeId) (ho:o.op=.call {callee:=.builtin .append,args:=#[s,x],argTypes:=#[T,T]}) (H:HoldG M w0 w l) {i:Nat} {v:Value} {e:TypeId} {sz n m c:Nat} {q:Option Addr} {xs:List Value} {F:Nat->Prop} {rows:List (Array Value)}
  (hs:a.eval s=v) (hx:a.eval x=.slice q m c) (hi:At l i (.row v e sz n xs)) (hR:RdN sz w F (.slice q m c) rows) (hrs:∀ r ∈ rows,r.size=sz) {it:TypeInfo} {z:Value} {bytes:Nat}
  (h1:P.underlying T=some (.slice e)) (h2:P.info? e=some it) (h3:it.zero=some z) (h4:it.size=sz) (h5:it.bytes=bytes) (h6:z.cells.size=sz) (h7:0<sz) (h1c:∀ u ∈ zAG rows,u.oneCell'=true)
  (b1:n+m<=maxLen) (b2:(n+m) * bytes<=140737488355328)
  (h:∀ v' w',HoldG M w0 w' (l.set i (.row v' e sz (n+m) (xs++zAG rows)))->wpList P ops Q rest (a.put o.dst v') w'):wpList P ops Q (o::rest) a w:=by
 obtain⟨p,cap,e1,r1,r2,r0,r3⟩:=hR
 cases e1
 have key:∀ ad:Addr,q=some ad->(∀ j u,(zAG rows)[j]?=some u->w.cell? (ad.add j)=some u)->wpList P ops Q (o::rest) a w:=fun ad hq hc=>by
  subst hq;refine wpList_append_own_at w hg s x T ho w0.heap.size e it z sz bytes h1 h2 h3 h4 h5 h6 h7 v n xs hs (H.all i _ hi.get) ad rows.length c (zAG rows) hx (zBF hrs) hc h1c b1 b2 H.keep.size (fun v' w' r1 r2 _ r4=>h v' w' ?_)
  refine H.upd hi.get (by exact r2) r1 (fun b' hb'=>?_)
  rcases r4 with r4|r4
  ·left;show v.ownBlock=some b';rw[← r4];exact hb'
  ·right;have:v'.ownBlock=some b':=hb';rw[r4]at this
   cases this;exact Nat.le_refl _
 cases rows with
 | nil =>
  cases q with
  | none =>
   have hc0:=r0 rfl;subst hc0;refine wpList_append_own_none hg s x T ho w0.heap.size e it sz h1 h2 v n xs hs (H.all i _ hi.get) hx ?_
   have hset:l.set i (.row v e sz (n+0) (xs++zAG []))=l:=by
    apply List.ext_getElem?;intro j;rw[List.getElem?_set];split
    ·rename_i e;subst e;have:=hi.get;rw[if_pos (List.getElem?_eq_some_iff.1 this).1,this];simp[zAG]
    ·rfl
   have:=h v w (by rw[show (List.length ([]:List (Array Value)))=0 from rfl,hset];exact H)
   exact this
  | some ad=>exact key ad rfl (fun j u hj=>by simp[zAG]at hj)
 | cons r rows =>
  obtain⟨b,off,hq,hF,_,_⟩:=r3 0 r rfl;refine key _ hq (fun j u hj=>?_)
  have hlen:(zAG (r::rows)).length=(r::rows).length * sz:=zBF hrs;have hjl:=(List.getElem?_eq_some_iff.1 hj).1;have hd:j=j / sz * sz+j % sz:=by rw[Nat.mul_comm];exact(Nat.div_add_mod j sz).symm
  have hm:j % sz<sz:=Nat.mod_lt _ h7;have hqq:j / sz<(r::rows).length:=Nat.div_lt_of_lt_mul (by rw[Nat.mul_comm];omega)
  have hget:(r::rows)[j / sz]?=some (r::rows)[j / sz]:=List.getElem?_eq_getElem hqq;obtain⟨b',off',hq',_,_,hk⟩:=r3 (j / sz) _ hget;rw[hq]at hq';cases hq'
  have h8:=zCE hrs hget hm;rw[← hd,hj]at h8;have h9:=hk (j % sz) hm;rw[← h8]at h9;rw[Addr.add_mid,← h9]
  congr 2;omega
end
section
variable {P:Program} {ops:Array Oper} {rest:List Oper} {o:Oper} {a:Act} {w w0:World} {Q:Exit->Act->World->Prop} {l:List Res} {M:Nat->Prop}
end
theorem zLR {xs:List TV} {j:Nat} {x:TV} (h:xs[j]?=some x) (i o:Int):zBK ((xs.map (·.1)).take (j+1)) i o=zBK ((xs.map (·.1)).take j) i o++zDz i o x.1:=zKF (by rw[List.getElem?_map,h];rfl) i o
theorem zNv (xs:List TV) (j:Nat) (i o:Int):(zBK ((xs.map (·.1)).take j) i o).length<=zAF (xs.map (·.1)):=by
 refine Nat.le_trans (zBp _) (Nat.le_trans (zDB _ _ _) ?_)
 conv=>rhs;rw[← List.take_append_drop j (xs.map (·.1)),zAZ]
 omega
end
section
open Go.RowKit
abbrev zNR:=Nat->Nat->Value->World->Prop
def zLd:List zNR->Nat->zNR
 | [],_=>fun _ _ _ _=>True
 | s::_,0=>s
 | _::r,i+1=>zLd r i
def OblT (P:Program) (l hd:List Oper) (L:List zNR) (a0:Act) (w0:World):List Oper->Nat->Prop
 | [],_=>True
 | o::r,i=>(∀ a w,RCtx hd (fun i v w=>∃ N M,zLd L i N M v w) a0 w0 o a w->zBZ P l.toArray o a w (fun v w'=>zLd L i w.heap.size w'.heap.size v w'))/\OblT P l hd L a0 w0 r (i+1)
theorem OblT.get {P:Program} {l hd:List Oper} {L:List zNR} {a0:Act} {w0:World}:∀ (r:List Oper) (k:Nat),OblT P l hd L a0 w0 r k->∀ i o,r[i]?=some o ->
  ∀ a w,RCtx hd (fun i v w=>∃ N M,zLd L i N M v w) a0 w0 o a w->zBZ P l.toArray o a w (fun v w'=>zLd L (k+i) w.heap.size w'.heap.size v w')
 | [],_,_,_,_,h=>by simp at h
 | o::r,k,h,0,o',h'=>by simp at h';subst h';exact h.1
 | o::r,k,h,i+1,o',h'=>by
  have:=OblT.get r (k+1) h.2 i o' (by simpa using h')
  rwa [show k+1+i=k+(i+1) from by omega]at this
section
variable {P:Program} {ops:Array Oper} {o:Oper} {a:Act} {w:World}
end
end
section
open Go.RowKit Go.Shelf
attribute [local go_sem] Oper.semAt_some
section
variable {M:Nat->Prop} {w0 w W:World} {l:List Res}
theorem HoldG.blkRow (H:HoldG M w0 w l) {i b sz:Nat} {cs:Array Value} {T:TypeId} (hi:At l i (.blk b cs T)) (hb:w0.heap.size<=b) (hs:cs.size=sz):HoldG M w0 w (l.set i (.row (.slice (some ⟨b,0,none⟩) 1 1) T sz 1 cs.toList)) :=
 H.upd hi.get ⟨rfl,rfl,rfl,Nat.le_refl _,fun _ _ _=>rfl⟩ ⟨by rw[Array.length_toList,hs,Nat.one_mul],.inr ⟨b,1,cs,rfl,hb,(H.blk hi).2,Nat.le_refl _,by decide,by rw[hs,Nat.one_mul],by rw[Nat.one_mul,← hs];exact List.take_of_length_le (by simp)⟩⟩ (fun _ e=>.inl e)
end
section
variable {P:Program} {ops:Array Oper} {o:Oper} {a:Act} {w:World}
end
end
section
open Go.RowKit
theorem zPJ (t:Array Value) (n:Nat) (h:t.size=n):t=((List.range n).map (fun i=>t.getD i undef)).toArray:=by
 subst h;apply Array.ext
 ·simp
 ·intro i h1 h2;simp[h1]
section
variable {P:Program} {ops:Array Oper} {o:Oper} {a:Act} {w:World} {D:Prop}
theorem zQP {j:Nat} {d:Tmp} {want c b:Bool} {v:Value} (hgd:o.guard=some (j,want)) (hj:(ops[j]?).bind (·.dst)=some d) (hy:a.eval (.tmp d)=bif c then .bool b else undef) (hr:c=true->b=want->(execOp a.eval o).run P w=.ok (.value v) w) (hD:¬ D) :
  zBZ P ops o a w (fun v' _=>v'=(bif (c&&(b == want)) then v else undef)/\(D->w.heap.size<=blk v')):=by
 cases c with
 | false =>
  exact zJM (zIP hgd (zHk hj hy)) ⟨rfl,fun h=>(hD h).elim⟩
 | true =>
  by_cases hb:b=want
  ·subst hb;refine zDn (zAQ hgd (zAI hj hy)) (hr rfl rfl) (Below.refl _ w) ⟨?_,fun h=>(hD h).elim⟩
   simp
  ·refine zJM (zFW hgd (zAI hj hy) hb) ⟨?_,fun h=>(hD h).elim⟩
   have:(b == want)=false:=by simpa using hb
   simp[this]
abbrev iT (c b want:Bool) (v:Value):Value:=bif c&&(b == want) then v else undef
theorem sy_ {j:Nat} {d:Tmp} {want c b:Bool} {v:Value} (hy:a.eval (.tmp d)=bif c then .bool b else undef) (hr:(c&&(b == want))=true->(execOp a.eval o).run P w=.ok (.value v) w) (hgd:o.guard=some (j,want):=by rfl) (hj:(ops[j]?).bind (·.dst)=some d:=by rfl) (hD:¬ D:=by decide) :
  zBZ P ops o a w (fun v' _=>v'=(bif (c&&(b == want)) then v else undef)/\(D->w.heap.size<=blk v')) :=
 zQP hgd hj hy (fun hc hb=>hr (Bool.and_eq_true_iff.2 ⟨hc,beq_iff_eq.2 hb⟩)) hD
theorem zFD {x y:Operand} {b q:Bool} (hop:o.op=Op.pick x y (.const (.bool false))) (hx:a.eval x=.bool b) (hy:b=true->a.eval y=.bool q):(execOp a.eval o).run P w=.ok (.value (.bool (b&&q))) w:=by
 cases b with
 | false=>simp only[execOp,hop,hx];rfl
 | true=>simp only[execOp,hop,hx,hy rfl];rfl
theorem zEK {x:Operand} {v:Value} (hop:o.op=Op.move x\/o.op=Op.assign x) (hx:a.eval x=v):(execOp a.eval o).run P w=.ok (.value v) w:=by
 rcases hop with h|h<;>(simp only[execOp,h,hx];rfl)
theorem zBG {α:Type} {x u v:α} {c:Bool} (h:x=bif c then u else v) (hc:c=true):x=u:=by rw[h,hc];rfl
end
end
section
open Go.RowKit Go.Shelf
attribute [local go_sem] Oper.semAt_some

end
section
open Go.RowKit
structure InstD where
 kind:Int
 set:Nat->Nat:=zAN
 next:Int:=0
 other:Int:=0
 slot:Int:=0
 spot:Int:=0
abbrev zLO:=List Int
abbrev Ent:=Nat × Nat × zLO
abbrev Way:=Nat × zLO
def zQG (b:Nat):Bool:=decide (48<=b)&&decide (b<=57) || decide (97<=b)&&decide (b<=122) || decide (65<=b)&&decide (b<=90) || b == 95
def zNy (s:Str) (i:Int):Bool:=if i<0\/(s.length:Int)<=i then false else zQG (byt s i.toNat)
def zPo (k:Int) (s:Str) (i:Int):Bool :=
 if i<0\/(s.length:Int)<i then false
 else if k=8 then i == 0
 else if k=9 then i == s.length
 else if k=10 then i == 0 || byt s (i - 1).toNat == 10
 else if k=11 then i == s.length || byt s i.toNat == 10
 else if k=12 then zNy s (i - 1) != zNy s i
 else if k=13 then zNy s (i - 1) == zNy s i
 else false
def inN (n:Nat) (x:Int):Bool:=decide (0<=x)&&decide (x<n)
def zDj (n:Nat) (x:InstD):Bool :=
 if x.kind=1 then !eqS x.set zAN&&inN n x.next&&(x.other == 0)&&(x.slot == 0)&&(x.spot == 0)
 else if x.kind=2 then eqS x.set zAN&&inN n x.next&&inN n x.other&&(x.slot == 0)&&(x.spot == 0)
 else if x.kind=3 then eqS x.set zAN&&inN n x.next&&(x.other == 0)&&inN 42 x.slot&&(x.spot == 0)
 else if x.kind=4 then eqS x.set zAN&&inN n x.next&&(x.other == 0)&&(x.slot == 0)&&(decide (8<=x.spot)&&decide (x.spot<=13))
 else if x.kind=5\/x.kind=6 then eqS x.set zAN&&(x.next == 0)&&(x.other == 0)&&(x.slot == 0)&&(x.spot == 0)
 else false
def zFY (p:List InstD):Bool:=decide (1<=p.length)&&decide (p.length<=4000)&&p.all (zDj p.length)
section
variable (p:List InstD) (s:Str)
def atI (k:Nat):InstD:=p.getD k {kind:=6}
def sucE (k i:Nat) (sl:zLO):List Ent :=
 let x:=atI p k
 if x.kind=1 then (if i<s.length/\hasB x.set (byt s i)=true then [(x.next.toNat,i+1,sl)] else [])
 else if x.kind=2 then [(x.next.toNat,i,sl),(x.other.toNat,i,sl)]
 else if x.kind=3 then [(x.next.toNat,i,sl.set x.slot.toNat i)]
 else if x.kind=4 then (if zPo x.spot s i=true then [(x.next.toNat,i,sl)] else [])
 else []
def upS (S:Nat->Nat->Bool) (k i:Nat):Nat->Nat->Bool:=fun a j=>if a=k/\j=i then true else S a j
inductive Dfs (f:Option zLO):List Ent->(Nat->Nat->Bool)->Option zLO->Prop
 | nil (S):Dfs f [] S f
 | seen (k i sl r S res) (h:S k i=true) (hr:Dfs f r S res):Dfs f ((k,i,sl)::r) S res
 | hit (k i sl r S) (h:S k i=false) (hk:(atI p k).kind=5):Dfs f ((k,i,sl)::r) S (some sl)
 | go (k i sl r S res) (h:S k i=false) (hk:(atI p k).kind≠5) (hr:Dfs f (sucE p s k i sl++r) (upS S k i) res):Dfs f ((k,i,sl)::r) S res
variable {p s}
def at_ (i:Nat) (l:List Way):List Ent:=l.map fun e=>(e.1,i,e.2)
end
end
section
open Go.RowKit Go.Shelf
def zAJ (x:InstD):Array Value:=#[.int .i64 x.kind,.int .u64 (x.set 0),.int .u64 (x.set 1),.int .u64 (x.set 2),.int .u64 (x.set 3),.int .i64 x.next,.int .i64 x.other,.int .i64 x.slot,.int .i64 x.spot]
abbrev zA2 (x:InstD):Value:=.agg (zAJ x)
theorem ig0 (x:InstD):(zAJ x)[0]?=some (.int .i64 x.kind):=rfl
theorem ig5 (x:InstD):(zAJ x)[5]?=some (.int .i64 x.next):=rfl
theorem ig6 (x:InstD):(zAJ x)[6]?=some (.int .i64 x.other):=rfl
theorem ig7 (x:InstD):(zAJ x)[7]?=some (.int .i64 x.slot):=rfl
theorem zAW (xs:List InstD):∀ r ∈ xs.map zAJ,r.size=9:=by
 intro r hr;obtain⟨x,_,rfl⟩:=List.mem_map.1 hr;rfl
def InstsR (F:Nat->Prop) (p:Option Addr) (c:Nat) (xs:List InstD) (V:World):Prop:=RdN 9 V F (.slice p xs.length c) (xs.map zAJ)
section
variable {F:Nat->Prop} {p:Option Addr} {n c:Nat} {xs:List InstD} {V W w0:World}
theorem InstsR.kept (h:InstsR F p c xs W) (hV:∀ b,F b->V.heap[b]?=W.heap[b]?):InstsR F p c xs V:=RdN.kept h hV
theorem InstsR.bound (h:InstsR F p c xs W):xs.length<=c/\c<=9223372036854775807:=by
 obtain⟨p',c',e,h1,h2,_⟩:=h;simp only[Value.slice.injEq]at e;obtain⟨rfl,_,rfl⟩:=e;rw[List.length_map]at h1;exact⟨h1,by simpa [maxLen] using h2⟩
theorem InstsR.at (h:InstsR F p c xs W) (hn:0<xs.length):∃ b off,p=some ⟨b,off,none⟩:=by
 obtain⟨p',c',e,_,_,_,h3⟩:=h;simp only[Value.slice.injEq]at e;obtain⟨rfl,_,rfl⟩:=e;obtain⟨b,off,e2,_⟩:=h3 0 (zAJ xs[0]) (by rw[List.getElem?_map,List.getElem?_eq_getElem hn];rfl)
 exact⟨b,off,e2⟩
theorem InstsR.cells {b off:Nat} (h:InstsR F (some ⟨b,off,none⟩) c xs V) {j:Nat} {x:InstD} (hj:xs[j]?=some x) {q:Nat} (hq:off+j * 9=q):∀ k,k<9->V.cell? ⟨b,q+k,none⟩=(zAJ x)[k]?:=by
 obtain⟨p,c,e1,_,_,_,h3⟩:=h;obtain⟨b',off',e2,_,_,h4⟩:=h3 j (zAJ x) (by rw[List.getElem?_map,hj];rfl)
 simp only[Value.slice.injEq]at e1;obtain⟨rfl,_,rfl⟩:=e1
 cases e2;subst hq
 exact h4
theorem Hold.insts (hF:∀ b,F b->b<w0.heap.size) (h:InstsR F p c xs w0):Hold w0 w0 [.kn F (InstsR F p c xs)] :=
 (Hold.start w0).know F (InstsR F p c xs) hF (fun i r h=>by simp at h) (fun V hV=>h.kept hV)
end
theorem zAj:rowB Tryz.prog 47 9=true:=by kernel_rfl
theorem zJJ:zBx Tryz.prog 47=zAJ {kind:=0}:=by kernel_rfl
theorem zHI:(zBx Tryz.prog 47).size=9:=by kernel_rfl
theorem zLr {o:Oper} {a:Act} {w:World} {x y:Operand} {U:TypeId} {s u:Nat->Nat} (hop:o.op=.binOp .neq 25 x y U) (hx:a.eval x=setV s) (hy:a.eval y=setV u):(execOp a.eval o).run Tryz.prog w=.ok (.value (.bool (!(eqS s u)))) w:=by
 have he:=zGb s u w;simp only[execOp,hop,hx,hy];unfold setV;simp[go_sem,he]
theorem zJz {o:Oper} {a:Act} {w:World} (hop:o.op=.build 25 #[]):(execOp a.eval o).run Tryz.prog w=.ok (.value (setV zAN)) w:=by
 have h:(Instr.build 25 #[]).run Tryz.prog w=.ok (setV zAN) w:=by kernel_rfl
 simp only[execOp,hop,List.map_toArray,List.map_nil,Sem.run_bind,h];rfl
theorem zNS {P:Program} {o:Oper} {a:Act} {w:World} {x:Operand} {t e:TypeId} (hu:P.underlying t=some (.slice e)) {p:Option Addr} {n c:Nat} (hop:o.op=Op.call {callee:=Callee.builtin Builtin.len,args:=#[x],argTypes:=#[t]}) (hx:a.eval x=.slice p n c) :
  (execOp a.eval o).run P w=.ok (.value (.int .i64 n)) w:=by
 simp only[execOp,hop,resolve,invoke,builtin,List.map_toArray,List.map_cons,List.map_nil,hx];simp[go_sem,Builtin.len_,run_underlying hu]
theorem zGN (k:Int) (W:World):(Instr.build 47 #[(0,.int .i64 k)]).run Tryz.prog W=.ok (zA2 {kind:=k}) W:=by simp[go_sem];rfl
theorem zPA (k n:Int) (s:Nat->Nat) (W:World):(Instr.build 47 #[(0,.int .i64 k),(1,setV s),(2,.int .i64 n)]).run Tryz.prog W=.ok (zA2 {kind:=k,set:=s,next:=n}) W:=by unfold setV;simp[go_sem];rfl
theorem zMg (k n o:Int) (W:World):(Instr.build 47 #[(0,.int .i64 k),(2,.int .i64 n),(3,.int .i64 o)]).run Tryz.prog W=.ok (zA2 {kind:=k,next:=n,other:=o}) W:=by simp[go_sem];rfl
theorem zGF (k l n:Int) (W:World):(Instr.build 47 #[(0,.int .i64 k),(4,.int .i64 l),(2,.int .i64 n)]).run Tryz.prog W=.ok (zA2 {kind:=k,slot:=l,next:=n}) W:=by simp[go_sem];rfl
theorem zO4 (k p n:Int) (W:World):(Instr.build 47 #[(0,.int .i64 k),(5,.int .i64 p),(2,.int .i64 n)]).run Tryz.prog W=.ok (zA2 {kind:=k,spot:=p,next:=n}) W:=by simp[go_sem];rfl
theorem zLC (k n:Int) (W:World):(Instr.build 47 #[(0,.int .i64 k),(2,.int .i64 n)]).run Tryz.prog W=.ok (zA2 {kind:=k,next:=n}) W:=by simp[go_sem];rfl
theorem zOV (k l:Int) (W:World):(Instr.build 47 #[(0,.int .i64 k),(4,.int .i64 l)]).run Tryz.prog W=.ok (zA2 {kind:=k,slot:=l}) W:=by simp[go_sem];rfl
section
variable {M:Nat->Prop} {ops:Array Oper} {dst:Option Tmp} {ty:TypeId} {pos:String} {aft:Array Edge} {grd:Option (Nat × Bool)} {rest:List Oper} {a:Act} {w w0:World} {l:List Res} {Q:Exit->Act->World->Prop}
theorem gTi {x y:Operand} (h:wpList Tryz.prog ops Q ((⟨dst,.store 47 x y,ty,pos,aft,grd⟩:Oper)::rest) a w):wpList Tryz.prog ops Q ((⟨dst,.store 47 x y,ty,pos,aft,grd⟩:Oper)::rest) a w:=h
theorem gLi {x:Operand} (h:wpList Tryz.prog ops Q ((⟨dst,.load 47 x,ty,pos,aft,grd⟩:Oper)::rest) a w):wpList Tryz.prog ops Q ((⟨dst,.load 47 x,ty,pos,aft,grd⟩:Oper)::rest) a w:=h
theorem gBi {x:Array (Nat × Operand)} (h:wpList Tryz.prog ops Q ((⟨dst,.build 47 x,ty,pos,aft,grd⟩:Oper)::rest) a w):wpList Tryz.prog ops Q ((⟨dst,.build 47 x,ty,pos,aft,grd⟩:Oper)::rest) a w:=h
theorem ib1 {x0:Operand} {k:Int} (h:wpList Tryz.prog ops Q rest (a.put dst (zA2 {kind:=k})) w) (hg:Region.wanted (⟨dst,.build 47 #[(0,x0)],ty,pos,aft,grd⟩:Oper) (yielded ops a.tmps)=true:=by first|rfl|exact zAQ rfl (zAI rfl (by first|rfl|(simp only[pe];rfl)))) (h0:a.eval x0=.int .i64 k:=by first|(simp only[pe];done)|(simp only[pe];rfl)):wpList Tryz.prog ops Q ((⟨dst,.build 47 #[(0,x0)],ty,pos,aft,grd⟩:Oper)::rest) a w :=
 zAK hg (by
  simp only[execOp,List.map_toArray,List.map_cons,List.map_nil,h0,Sem.run_bind,zGN];rfl) h
theorem ib2 {x0 x1 x2:Operand} {k n:Int} {s:Nat->Nat} (h:wpList Tryz.prog ops Q rest (a.put dst (zA2 {kind:=k,set:=s,next:=n})) w) (hg:Region.wanted (⟨dst,.build 47 #[(0,x0),(1,x1),(2,x2)],ty,pos,aft,grd⟩:Oper) (yielded ops a.tmps)=true:=by first|rfl|exact zAQ rfl (zAI rfl (by first|rfl|(simp only[pe];rfl)))) (h0:a.eval x0=.int .i64 k:=by first|(simp only[pe];done)|(simp only[pe];rfl)) (h1:a.eval x1=setV s:=by (try simp only[pe]);with_reducible rfl) (h2:a.eval x2=.int .i64 n:=by first|(simp only[pe];done)|(simp only[pe];rfl)):wpList Tryz.prog ops Q ((⟨dst,.build 47 #[(0,x0),(1,x1),(2,x2)],ty,pos,aft,grd⟩:Oper)::rest) a w :=
 zAK hg (by
  simp only[execOp,List.map_toArray,List.map_cons,List.map_nil,h0,h1,h2,Sem.run_bind,zPA];rfl) h
theorem ib3 {x0 x2 x3:Operand} {k n o:Int} (h:wpList Tryz.prog ops Q rest (a.put dst (zA2 {kind:=k,next:=n,other:=o})) w) (hg:Region.wanted (⟨dst,.build 47 #[(0,x0),(2,x2),(3,x3)],ty,pos,aft,grd⟩:Oper) (yielded ops a.tmps)=true:=by first|rfl|exact zAQ rfl (zAI rfl (by first|rfl|(simp only[pe];rfl)))) (h0:a.eval x0=.int .i64 k:=by first|(simp only[pe];done)|(simp only[pe];rfl)) (h2:a.eval x2=.int .i64 n:=by first|(simp only[pe];done)|(simp only[pe];rfl)) (h3:a.eval x3=.int .i64 o:=by first|(simp only[pe];done)|(simp only[pe];rfl)):wpList Tryz.prog ops Q ((⟨dst,.build 47 #[(0,x0),(2,x2),(3,x3)],ty,pos,aft,grd⟩:Oper)::rest) a w :=
 zAK hg (by
  simp only[execOp,List.map_toArray,List.map_cons,List.map_nil,h0,h2,h3,Sem.run_bind,zMg];rfl) h
theorem ib4 {x0 x4 x2:Operand} {k l n:Int} (h:wpList Tryz.prog ops Q rest (a.put dst (zA2 {kind:=k,slot:=l,next:=n})) w) (hg:Region.wanted (⟨dst,.build 47 #[(0,x0),(4,x4),(2,x2)],ty,pos,aft,grd⟩:Oper) (yielded ops a.tmps)=true:=by first|rfl|exact zAQ rfl (zAI rfl (by first|rfl|(simp only[pe];rfl)))) (h0:a.eval x0=.int .i64 k:=by first|(simp only[pe];done)|(simp only[pe];rfl)) (h4:a.eval x4=.int .i64 l:=by first|(simp only[pe];done)|(simp only[pe];rfl)) (h2:a.eval x2=.int .i64 n:=by first|(simp only[pe];done)|(simp only[pe];rfl)):wpList Tryz.prog ops Q ((⟨dst,.build 47 #[(0,x0),(4,x4),(2,x2)],ty,pos,aft,grd⟩:Oper)::rest) a w :=
 zAK hg (by
  simp only[execOp,List.map_toArray,List.map_cons,List.map_nil,h0,h4,h2,Sem.run_bind,zGF];rfl) h
theorem ib5 {x0 x5 x2:Operand} {k p n:Int} (h:wpList Tryz.prog ops Q rest (a.put dst (zA2 {kind:=k,spot:=p,next:=n})) w) (hg:Region.wanted (⟨dst,.build 47 #[(0,x0),(5,x5),(2,x2)],ty,pos,aft,grd⟩:Oper) (yielded ops a.tmps)=true:=by first|rfl|exact zAQ rfl (zAI rfl (by first|rfl|(simp only[pe];rfl)))) (h0:a.eval x0=.int .i64 k:=by first|(simp only[pe];done)|(simp only[pe];rfl)) (h5:a.eval x5=.int .i64 p:=by first|(simp only[pe];done)|(simp only[pe];rfl)) (h2:a.eval x2=.int .i64 n:=by first|(simp only[pe];done)|(simp only[pe];rfl)):wpList Tryz.prog ops Q ((⟨dst,.build 47 #[(0,x0),(5,x5),(2,x2)],ty,pos,aft,grd⟩:Oper)::rest) a w :=
 zAK hg (by
  simp only[execOp,List.map_toArray,List.map_cons,List.map_nil,h0,h5,h2,Sem.run_bind,zO4];rfl) h
theorem ib6 {x0 x2:Operand} {k n:Int} (h:wpList Tryz.prog ops Q rest (a.put dst (zA2 {kind:=k,next:=n})) w) (hg:Region.wanted (⟨dst,.build 47 #[(0,x0),(2,x2)],ty,pos,aft,grd⟩:Oper) (yielded ops a.tmps)=true:=by first|rfl|exact zAQ rfl (zAI rfl (by first|rfl|(simp only[pe];rfl)))) (h0:a.eval x0=.int .i64 k:=by first|(simp only[pe];done)|(simp only[pe];rfl)) (h2:a.eval x2=.int .i64 n:=by first|(simp only[pe];done)|(simp only[pe];rfl)):wpList Tryz.prog ops Q ((⟨dst,.build 47 #[(0,x0),(2,x2)],ty,pos,aft,grd⟩:Oper)::rest) a w :=
 zAK hg (by
  simp only[execOp,List.map_toArray,List.map_cons,List.map_nil,h0,h2,Sem.run_bind,zLC];rfl) h
theorem aTi (H:HoldG M w0 w l) {x y:Operand} {i b:Nat} {cs:Array Value} {U:TypeId} {d:InstD} (h:∀ w',HoldG M w0 w' (l.set i (.blk b (zAJ d) U))->wpList Tryz.prog ops Q rest (a.put dst undef) w') (hg:Region.wanted (⟨dst,.store 47 x y,ty,pos,aft,grd⟩:Oper) (yielded ops a.tmps)=true:=by first|rfl|exact zAQ rfl (zAI rfl (by first|rfl|(simp only[pe];rfl)))) (hx:a.eval x=.pointer (some ⟨b,0,none⟩):=by exact rfl) (hy:a.eval y=zA2 d:=by first|(simp only[pe];done)|(simp only[pe];rfl)) (hi:At l i (.blk b cs U):=by repeat (first|(with_reducible exact At.zero)|apply At.succ)) (hn:cs.size=9:=by first|(with_reducible exact zHI)|rfl):wpList Tryz.prog ops Q ((⟨dst,.store 47 x y,ty,pos,aft,grd⟩:Oper)::rest) a w :=
 zDx hg 47 x y rfl hx hy H hi (zAr zAj) rfl hn rfl h
theorem aLi (H:HoldG M w0 w l) {x:Operand} {i b:Nat} {cs:Array Value} {U:TypeId} (h:wpList Tryz.prog ops Q rest (a.put dst (.agg cs)) w) (hg:Region.wanted (⟨dst,.load 47 x,ty,pos,aft,grd⟩:Oper) (yielded ops a.tmps)=true:=by first|rfl|exact zAQ rfl (zAI rfl (by first|rfl|(simp only[pe];rfl)))) (hx:a.eval x=.pointer (some ⟨b,0,none⟩):=by exact rfl) (hi:At l i (.blk b cs U):=by repeat (first|(with_reducible exact At.zero)|apply At.succ)) (hn:cs.size=9:=by first|(with_reducible exact zHI)|rfl):wpList Tryz.prog ops Q ((⟨dst,.load 47 x,ty,pos,aft,grd⟩:Oper)::rest) a w :=
 zFk hg 47 x rfl hx H hi zAj hn h
theorem aGi (H:HoldG M w0 w l) {T:TypeId} {x:Operand} {i b:Nat} {d:InstD} {U:TypeId} {k:Nat} {v:Value} (h:wpList Tryz.prog ops Q rest (a.put dst v) w) (hg:Region.wanted (⟨dst,.load T x,ty,pos,aft,grd⟩:Oper) (yielded ops a.tmps)=true:=by first|rfl|exact zAQ rfl (zAI rfl (by first|rfl|(simp only[pe];rfl)))) (hx:a.eval x=.pointer (some ⟨b,k,none⟩):=by exact rfl) (hi:At l i (.blk b (zAJ d) U):=by repeat (first|(with_reducible exact At.zero)|apply At.succ)) (hv:(zAJ d)[k]?=some v:=by first|(with_reducible exact ig0 _)|(with_reducible exact ig5 _)|(with_reducible exact ig6 _)|(with_reducible exact ig7 _)|(with_reducible exact ig8 _)) (hT:oneB Tryz.prog T=true:=by first|(with_reducible exact zAC)|(with_reducible exact zAd)|(with_reducible exact zAh)):wpList Tryz.prog ops Q ((⟨dst,.load T x,ty,pos,aft,grd⟩:Oper)::rest) a w :=
 zEq hg T x rfl hx H hi hT hv h
end
end
section
open Go.RowKit
attribute [local go_sem] Oper.semAt_some
section
variable {o:Oper} {a:Act} {w:World} {x y:Operand} {U:TypeId}
end
end
section
open Go.RowKit Go.Shelf
attribute [local go_sem] Oper.semAt_some
def zFI (p:List InstD):Int:=p.foldl (fun m x=>max m x.slot) 1
def zH0 (p:List InstD):Int:=wrap64 (wrap64 (wrap64 ((zFI p).tdiv 2) * 2)+2)
theorem zKw {xs:List InstD} {j:Nat} {x:InstD} (h:xs[j]?=some x):zFI (xs.take (j+1))=max (zFI (xs.take j)) x.slot:=by
 rw[zBb h];simp[zFI]
theorem zL9 {α:Type} {f:α->Bool} {xs:List α} {j:Nat} {x:α} (hx:xs[j]?=some x) (h:(xs.take j).all f=true) (hf:f x=true):(xs.take (j+1)).all f=true:=by
 rw[zBb hx,List.all_append,h];simp[hf]
end
section
open Go.RowKit
def zA0 (n:Nat) (v:Int):Int:=min (max v 0) (n - 1)
def zDF (n:Nat) (x:InstD):InstD × Bool :=
 if x.kind=1 then ({kind:=x.kind,set:=x.set,next:=zA0 n x.next},!eqS x.set zAN)
 else if x.kind=2 then ({kind:=x.kind,next:=zA0 n x.next,other:=zA0 n x.other},true)
 else if x.kind=3 then ({kind:=x.kind,slot:=min (max x.slot 0) 41,next:=zA0 n x.next},true)
 else if x.kind=4 then ({kind:=x.kind,spot:=min (max x.spot 8) 13,next:=zA0 n x.next},true)
 else if x.kind=5\/x.kind=6 then ({kind:=x.kind},true)
 else ({kind:=x.kind},false)
def eqI (x y:InstD):Bool:=(x.kind == y.kind)&&(eqS x.set y.set&&((x.next == y.next)&&((x.other == y.other)&&((x.slot == y.slot)&&(x.spot == y.spot)))))
theorem zK1 (n:Nat) (hn:0<n) (x:InstD):((zDF n x).2&&eqI x (zDF n x).1)=zDj n x:=by
 obtain⟨k,s,a,b,c,d⟩:=x;unfold zDF zDj inN zA0 eqI;have hs:eqS s s=true:=zCW s;simp only
 by_cases h1:k=1
 ·subst h1;simp only[if_true,hs]
  generalize eqS s zAN=q
  rw[Bool.eq_iff_iff];cases q<;>simp<;>omega
 by_cases h2:k=2
 ·subst h2;simp only[if_true];simp only[show ¬ (2:Int)=1 by decide,if_false]
  generalize eqS s zAN=q
  rw[Bool.eq_iff_iff];cases q<;>simp<;>omega
 by_cases h3:k=3
 ·subst h3;simp only[show ¬ (3:Int)=1 by decide,show ¬ (3:Int)=2 by decide,if_false,if_true]
  generalize eqS s zAN=q
  rw[Bool.eq_iff_iff];cases q<;>simp<;>omega
 by_cases h4:k=4
 ·subst h4;simp only[show ¬ (4:Int)=1 by decide,show ¬ (4:Int)=2 by decide,show ¬ (4:Int)=3 by decide,if_false,if_true]
  generalize eqS s zAN=q
  rw[Bool.eq_iff_iff];cases q<;>simp<;>omega
 by_cases h5:k=5\/k=6
 ·simp only[if_neg h1,if_neg h2,if_neg h3,if_neg h4,if_pos h5]
  generalize eqS s zAN=q
  rw[Bool.eq_iff_iff];cases q<;>simp
  intros;constructor<;>(intros;omega)
 ·simp only[if_neg h1,if_neg h2,if_neg h3,if_neg h4,if_neg h5];rfl
end
end Go.Proofs.YtalggmbdpmdcbaaGreat
