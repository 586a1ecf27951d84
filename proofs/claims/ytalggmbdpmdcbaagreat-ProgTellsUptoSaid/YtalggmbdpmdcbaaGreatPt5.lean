/-
  Laws of walks, and walks.
-/
import Derived.Test.YtalggmbdpmdcbaaGreatPt4
import Derived.Test.YtalggmbdpmdcbaaGreatPt2
import Derived.Test.YtalggmbdpmdcbaaGreatPt1
import Derived.Test.YtalggmbdpmdcbaaGreatPt3
set_option linter.unusedVariables false
set_option linter.unusedSimpArgs false
set_option maxRecDepth 100000
set_option maxHeartbeats 16000000
namespace Go.Proofs.YtalggmbdpmdcbaaGreat
section
open Go.RowKit Go.Shelf
attribute [local go_sem] Oper.semAt_some
def WKnows (F:Nat->Prop) (p:Option Addr) (n c:Nat) (ws:List WordD) (V:World):Prop:=RdN 17 V F (.slice p n c) (ws.map zCM)
section
variable {F:Nat->Prop} {p:Option Addr} {n c:Nat} {ws:List WordD} {V W w0:World}
theorem WKnows.kept (h:WKnows F p n c ws W) (hV:∀ b,F b->V.heap[b]?=W.heap[b]?):WKnows F p n c ws V:=RdN.kept h hV
theorem WKnows.cells {b off:Nat} (h:WKnows F (some ⟨b,off,none⟩) n c ws V) {j:Nat} {d:WordD} (hj:ws[j]?=some d) {q:Nat} (hq:off+j * 17=q):∀ k,k<17->V.cell? ⟨b,q+k,none⟩=(zCM d)[k]?:=by
 obtain⟨p,c,e1,_,_,_,h3⟩:=h;obtain⟨b',off',e2,_,_,h4⟩:=h3 j (zCM d) (by rw[List.getElem?_map,hj];rfl)
 cases e1;cases e2;subst hq
 exact h4
theorem WKnows.kind {b off:Nat} (h:WKnows F (some ⟨b,off,none⟩) n c ws V) {j:Nat} {d:WordD} (hj:ws[j]?=some d):V.cell? ⟨b,off+j * 17,none⟩=some (.int .i64 d.kind):=h.cells hj rfl 0 (by omega)
theorem WKnows.place {b off:Nat} (h:WKnows F (some ⟨b,off,none⟩) n c ws V) {j:Nat} {d:WordD} (hj:ws[j]?=some d):V.cell? ⟨b,off+j * 17+1,none⟩=some (.int .i64 d.place):=h.cells hj rfl 1 (by omega)
theorem WKnows.bound (h:WKnows F p n c ws V):n=ws.length/\n<=c/\c<=9223372036854775807:=by
 obtain⟨p,c,e1,h1,h2,_,h3⟩:=h
 cases e1
 unfold maxLen at h2;rw[List.length_map]at h1 ⊢;exact⟨rfl,h1,h2⟩
theorem WKnows.at (h:WKnows F p n c ws V) (h0:0<ws.length):∃ b off,p=some ⟨b,off,none⟩:=by
 obtain⟨p,c,e1,h1,h2,_,h3⟩:=h
 cases e1
 obtain⟨b,off,e,_⟩:=h3 0 _ (by rw[List.getElem?_map,List.getElem?_eq_getElem h0];rfl)
 exact⟨b,off,e⟩
end
def zHF (l:List Nat):List Value:=l.map (fun a:Nat=>Value.int .i64 (a:Int))
theorem zMh {l:List Nat} {j a:Nat} (h:l[j]?=some a):(zHF l)[j]?=some (.int .i64 (a:Int)):=by simp[zHF,h]
def zJs (o:Option Nat):Int:=match o with|some a=>a|none => -1
theorem zOp:(Tryz.prog.info? 3).map (fun i=>(i.zero,i.size,i.bytes))=some (some (.int .i64 0),1,8):=by kernel_rfl
theorem zOs {l:List Nat} (h:l≠[]):∃ a,l[l.length - 1]?=some a/\l.getLast?=some a:=by
 refine⟨l.getLast h,?_,List.getLast?_eq_some_getLast h⟩;rw[← List.getLast?_eq_getElem?];exact List.getLast?_eq_some_getLast h
theorem zJi (p:Option Addr) (n c:Nat) (F:Nat->Prop) (ws:List WordD) (w0:World) (hF:∀ b,F b->b<w0.heap.size) (hK:WKnows F p n c ws w0) (hn2:n<=1000) :
  Calls Tryz.prog 100 #[.slice p n c] w0 (Rt (.int .i64 (zJs (zDe ws))) w0):=by
 obtain⟨i0,hi0,hz0,hz1,hz2⟩:=info_parts zOp;have H:=(Hold.start w0).know F (WKnows F p n c ws) hF (fun i r h=>by simp at h) (fun V hV=>hK.kept hV)
 have hb:=hK.bound;have hp:=hK.at;clear hK;have HN:=Lib.hid hb.1;have hc1:=hb.2.1;have hc2:=hb.2.2;clear hb
 go_enter Tryz.func100,Tryz.ntmps100
 go_wp2_with (first|fail)
 replace H:=H.addNil 3 1;simp only[List.nil_append,List.cons_append]at H
 go_loopw [3,4] (fun v i wr=>∃ (j:Nat) (op:List Nat),j<=n/\i=.int .i64 j/\op.length<=j/\Hid (zDe ws=zBT (zDJ ws j) op (ws.drop j))/\Hold w0 wr [.kn F (WKnows F p n c ws),.row v 3 1 op.length (zHF op)]) (fun _ i _=>n+1 - (intOf i).toNat)
 case atStart=>exact⟨0,[],by omega,rfl,by simp,Lib.hid rfl,(by simpa [zHF] using H)⟩
 case round =>
  clear H;obtain⟨j,op,hj,rfl,hol,G,H⟩:=hrel
  by_cases hlt:j<n
  ·have dj:decide ((j:Int)<(n:Int))=true:=by simp;omega
   obtain⟨d,hd⟩:∃ d,ws[j]?=some d:=⟨_,List.getElem?_eq_getElem (by rw[← HN.out];exact hlt)⟩
   obtain⟨b,off,rfl⟩:=hp (by rw[← HN.out];omega)
   clear hp;have hkd:∀ V,WKnows F (some ⟨b,off,none⟩) n c ws V->V.cell? ⟨b,off+j * 17,none⟩=some (.int .i64 d.kind):=fun V h=>h.kind hd
   have hpl:∀ V,WKnows F (some ⟨b,off,none⟩) n c ws V->V.cell? ⟨b,off+j * 17+1,none⟩=some (.int .i64 d.place):=fun V h=>h.place hd
   have hcell:∀ V,WKnows F (some ⟨b,off,none⟩) n c ws V->∀ k,k<17->V.cell? ⟨b,off+j * 17+k,none⟩=(zCM d)[k]?:=fun V h=>h.cells hd rfl
   have HD:=Lib.hid hd;clear hd;obtain⟨q,cap,rfl,hq1,hq2,hq3⟩:=H.rowShape i_1;unfold maxLen at hq2
   generalize hm:op.length=m at hol H hq1 hq3
   have HM:=Lib.hid hm;clear hm
   go_upto_region 5 with fail
   go_cut [5] from 6 to 99 (fun v wx=>v=.bool (zDJ ws j)/\Hold w0 wx [.kn F (WKnows F (some ⟨b,off,none⟩) n c ws),.row (.slice q m cap) 3 1 m (zHF op)])
   case first =>
    rcases j with _|k
    ·go_wp2_with (first|fail)
     go_meet
     case rel=>exact⟨rfl,H⟩
    ·obtain⟨d',hd'⟩:∃ d',ws[k]?=some d':=⟨_,List.getElem?_eq_getElem (by rw[← HN.out];omega)⟩
     have hkd':∀ V,WKnows F (some ⟨b,off,none⟩) n c ws V->V.cell? ⟨b,off+k * 17,none⟩=some (.int .i64 d'.kind):=fun V h=>h.kind hd'
     have hcell':∀ V,WKnows F (some ⟨b,off,none⟩) n c ws V->∀ q,q<17->V.cell? ⟨b,off+k * 17+q,none⟩=(zCM d')[q]?:=fun V h=>h.cells hd' rfl
     have hb':=zEH hd';clear hd';have hop:=fun w=>zHc d' w
     have hkn:decide (k<n)=true:=by simp;omega
     have hk0:((k:Int)+1 == 0)=false:=by rw[beq_eq_false_iff_ne];omega
     cases ho:zBK d' with
     | true =>
      have E:=Lib.hid (show zDJ ws (k+1)=true by rw[hb'];simp[zI3,ho])
      rw[ho]at hop;clear ho hb'
      go_wp2_with (first|((with_reducible refine gL ?_);refine zAM wtd_ _ _ rfl rfl zBk rfl (hcell' _ (H.kn .zero)) ?_)|fail|((with_reducible refine ch (hop _) H ?_);clear H;intro w H))
      go_meet
      case rel=>exact⟨by rw[E.out],H⟩
     | false =>
      rw[ho]at hop
      by_cases h8:d'.kind=8
      ·have d8:((d'.kind:Int) == 8)=true:=by rw[beq_iff_eq];omega
       have E:=Lib.hid (show zDJ ws (k+1)=true by rw[hb'];simp[zI3,h8])
       clear ho hb' h8
       go_wp2_with (first|((with_reducible refine gL ?_);refine zAM wtd_ _ _ rfl rfl zBk rfl (hcell' _ (H.kn .zero)) ?_)|((with_reducible refine gL ?_);refine zAT wtd_ _ _ rfl rfl zAI (hkd' _ (H.kn .zero)) ?_)|fail|((with_reducible refine ch (hop _) H ?_);clear H;intro w H))
       go_meet
       case rel=>exact⟨by rw[E.out],H⟩
      ·have d8:((d'.kind:Int) == 8)=false:=by rw[beq_eq_false_iff_ne];omega
       by_cases h10:d'.kind=10
       ·have d10:((d'.kind:Int) == 10)=true:=by rw[beq_iff_eq];omega
        have E:=Lib.hid (show zDJ ws (k+1)=true by rw[hb'];simp[zI3,h10])
        clear ho hb' h8 h10
        go_wp2_with (first|((with_reducible refine gL ?_);refine zAM wtd_ _ _ rfl rfl zBk rfl (hcell' _ (H.kn .zero)) ?_)|((with_reducible refine gL ?_);refine zAT wtd_ _ _ rfl rfl zAI (hkd' _ (H.kn .zero)) ?_)|fail|((with_reducible refine ch (hop _) H ?_);clear H;intro w H))
        go_meet
        case rel=>exact⟨by rw[E.out],H⟩
       ·have d10:((d'.kind:Int) == 10)=false:=by rw[beq_eq_false_iff_ne];omega
        have E:=Lib.hid (show zDJ ws (k+1)=((d'.kind:Int) == 11) by
         rw[hb'];simp only[zI3,ho,show (d'.kind == 8)=false from by simpa using h8,show (d'.kind == 10)=false from by simpa using h10,Bool.false_or]
         rw[Bool.eq_iff_iff,beq_iff_eq,beq_iff_eq];omega)
        clear ho hb' h8 h10
        go_wp2_with (first|((with_reducible refine gL ?_);refine zAM wtd_ _ _ rfl rfl zBk rfl (hcell' _ (H.kn .zero)) ?_)|((with_reducible refine gL ?_);refine zAT wtd_ _ _ rfl rfl zAI (hkd' _ (H.kn .zero)) ?_)|fail|((with_reducible refine ch (hop _) H ?_);clear H;intro w H))
        go_meet
        case rel=>exact⟨by rw[E.out],H⟩
   case rest =>
    obtain⟨rfl,H⟩:=hcut;have hop:=fun w=>zHc d w
    by_cases h11:d.kind=11
    ·have d11:((d.kind:Int) == 11)=true:=by rw[beq_iff_eq];omega
     have d9:((d.kind:Int) == 9)=false:=by rw[beq_eq_false_iff_ne];omega
     have ho:zBK d=false:=by simp[zBK,h11]
     cases hb:zDJ ws j with
     | true =>
      have E:=Lib.hid (show zJs (zDe ws)=d.place by rw[G.out,zJm HD.out (.inl ⟨h11,hb⟩)];rfl)
      clear h11 ho hb
      go_wp2_with (first|((with_reducible refine gL ?_);refine zAT wtd_ _ _ rfl rfl zAI (hkd _ (H.kn .zero)) ?_)|((with_reducible refine gL ?_);refine zAT wtd_ _ _ rfl rfl zAI (hpl _ (H.kn .zero)) ?_)|fail)
      go_ret;exact⟨reti E.out.symm,H.below⟩
     | false =>
      have G2:=Lib.hid (show zDe ws=zBT (zDJ ws (j+1)) op (ws.drop (j+1)) by rw[G.out,hb,zLK HD.out (by simp[h11]) ho (by omega)])
      rw[ho]at hop;clear h11 ho hb
      go_wp2_with (first|((with_reducible refine gL ?_);refine zAM wtd_ _ _ rfl rfl zBk rfl (hcell _ (H.kn .zero)) ?_)|((with_reducible refine gL ?_);refine zAT wtd_ _ _ rfl rfl zAI (hkd _ (H.kn .zero)) ?_)|fail|((with_reducible refine ch (hop _) H ?_);clear H;intro w H))
      go_roundw
      case rel=>exact⟨j+1,op,by omega,by go_num,by rw[HM.out];omega,G2,by rw[HM.out];exact H⟩
      case measure=>simp[intOf];omega
    ·have d11:((d.kind:Int) == 11)=false:=by rw[beq_eq_false_iff_ne];omega
     by_cases h9:d.kind=9
     ·have d9:((d.kind:Int) == 9)=true:=by rw[beq_iff_eq];omega
      have ho:zBK d=false:=by simp[zBK,h9]
      rw[ho]at hop;rcases m with _|m
      ·have E:=Lib.hid (show zJs (zDe ws)=d.place by rw[G.out,zJm HD.out (.inr ⟨h9,List.length_eq_zero_iff.1 HM.out⟩)];rfl)
       clear h9 h11 ho hq1 hq3
       go_wp2_with (first|((with_reducible refine gL ?_);refine zAT wtd_ _ _ rfl rfl zAI (hkd _ (H.kn .zero)) ?_)|((with_reducible refine gL ?_);refine zAT wtd_ _ _ rfl rfl zAI (hpl _ (H.kn .zero)) ?_)|fail)
       go_ret;exact⟨reti E.out.symm,H.below⟩
      ·obtain⟨g,rfl⟩:=hq3 (by omega)
       clear hq3;have hm0:((m:Int)+1 == 0)=false:=by rw[beq_eq_false_iff_ne];omega
       have G2:=Lib.hid (show zDe ws=zBT (zDJ ws (j+1)) op.dropLast (ws.drop (j+1)) by rw[G.out,zKS HD.out h9 (fun e=>by have:=HM.out;rw[e]at this;simp at this)])
       clear h9 h11 ho
       go_wp2_with (first|((with_reducible refine gL ?_);refine zAM wtd_ _ _ rfl rfl zBk rfl (hcell _ (H.kn .zero)) ?_)|((with_reducible refine gL ?_);refine zAT wtd_ _ _ rfl rfl zAI (hkd _ (H.kn .zero)) ?_)|((with_reducible refine gL ?_);refine zAT wtd_ _ _ rfl rfl zAI (hpl _ (H.kn .zero)) ?_)|fail|((with_reducible refine ch (hop _) H ?_);clear H;intro w H))
       have H2:=H.cutRow i_1 (m:=m) (by omega)
       go_roundw
       case rel=>exact⟨j+1,op.dropLast,by omega,by go_num,by rw[List.length_dropLast,HM.out];omega,G2,by
        rw[List.length_dropLast,HM.out];have e:(zHF op).take (m * 1)=zHF op.dropLast:=by
         rw[Nat.mul_one,List.dropLast_eq_take,HM.out];simp[zHF,List.map_take]
        rw[e]at H2
        exact H2⟩
       case measure=>simp[intOf];omega
     ·have d9:((d.kind:Int) == 9)=false:=by rw[beq_eq_false_iff_ne];omega
      cases ho:zBK d with
      | true =>
       have G2:=Lib.hid (show zDe ws=zBT (zDJ ws (j+1)) (op++[d.place]) (ws.drop (j+1)) by rw[G.out,zMA HD.out ho])
       rw[ho]at hop;clear h9 h11 ho
       go_wp2_with (first|((with_reducible refine gL ?_);refine zAM wtd_ _ _ rfl rfl zBk rfl (hcell _ (H.kn .zero)) ?_)|((with_reducible refine gL ?_);refine zAT wtd_ _ _ rfl rfl zAI (hkd _ (H.kn .zero)) ?_)|((with_reducible refine gL ?_);refine zAT wtd_ _ _ rfl rfl zAI (hpl _ (H.kn .zero)) ?_)|(at_builtin;refine zAk rfl _ _ 44 rfl H evd_ rfl atd_ atd_ Tryz.underlying44 hi0 hz0 hz1 hz2 rfl (by decide) rfl rfl (by unfold maxLen;omega) (by omega) ?_;clear H;intro v2 w H;try simp only[nr]at H)|((with_reducible refine gBS ?_);refine zAY wtd_ _ _ _ rfl H (#[.int .i64 (d.place:Int)]) 3 (by intro W;simp only[ml];(try simp only[pe]);(try unfold setV);simp[go_sem]<;>rfl) ?_;clear H;intro b w H;try simp only[nr]at H)|fail|((with_reducible refine ch (hop _) H ?_);clear H;intro w H))
       go_roundw
       case rel=>exact⟨j+1,op++[d.place],by omega,by go_num,by rw[List.length_append,HM.out,List.length_singleton];omega,G2,by
        rw[List.length_append,HM.out,List.length_singleton];have e:zHF op++[.int .i64 (d.place:Int)]=zHF (op++[d.place]):=by simp[zHF]
        rw[← e]
        exact H.take 2⟩
       case measure=>simp[intOf];omega
      | false =>
       have G2:=Lib.hid (show zDe ws=zBT (zDJ ws (j+1)) op (ws.drop (j+1)) by rw[G.out,zLK HD.out (by omega) ho h9])
       rw[ho]at hop;clear h9 h11 ho
       go_wp2_with (first|((with_reducible refine gL ?_);refine zAM wtd_ _ _ rfl rfl zBk rfl (hcell _ (H.kn .zero)) ?_)|((with_reducible refine gL ?_);refine zAT wtd_ _ _ rfl rfl zAI (hkd _ (H.kn .zero)) ?_)|((with_reducible refine gL ?_);refine zAT wtd_ _ _ rfl rfl zAI (hpl _ (H.kn .zero)) ?_)|fail|((with_reducible refine ch (hop _) H ?_);clear H;intro w H))
       go_roundw
       case rel=>exact⟨j+1,op,by omega,by go_num,by rw[HM.out];omega,G2,by rw[HM.out];exact H⟩
       case measure=>simp[intOf];omega
  ·have dj:decide ((j:Int)<(n:Int))=false:=by simp;omega
   have E:=Lib.hid (show zDe ws=op.getLast? by rw[G.out,zM6 (by have:=HN.out;omega)])
   obtain⟨q,cap,rfl,hq1,hq2,hq3⟩:=H.rowShape i_1;unfold maxLen at hq2
   generalize hm:op.length=m at hol H hq1 hq3
   rcases m with _|m
   ·have E2:=Lib.hid (show zJs (zDe ws) = -1 by rw[E.out,List.length_eq_zero_iff.1 hm];rfl)
    clear hm hp hq3
    go_wp2_with (first|fail)
    go_ret;exact⟨reti E2.out.symm,H.below⟩
   ·obtain⟨a,ha,hl⟩:=zOs (l:=op) (fun e=>by rw[e]at hm;simp at hm)
    have E2:=Lib.hid (show zJs (zDe ws)=(a:Int) by rw[E.out,hl];rfl)
    rw[hm,Nat.add_sub_cancel]at ha;have HA:=Lib.hid (zMh ha);obtain⟨g,rfl⟩:=hq3 (by omega)
    have dm:decide ((0:Int)<(m:Int)+1)=true:=by rw[decide_eq_true_iff];omega
    clear hm hp hq3 ha hl
    go_wp2_with (first|((with_reducible refine gL ?_);refine zAT wtd_ _ _ rfl rfl zAI (H.row1 i_1 HA.out) ?_)|fail)
    go_ret;exact⟨reti E2.out.symm,H.below⟩
abbrev pC (p:Option Addr) (n c:Nat) (j g:Nat):Array Value:=#[.slice p n c,.int .i64 (j:Int),.int .i64 (g:Int)]
structure AltPre (pb:Nat) (U:TypeId) (FW:Nat->Prop) (p:Option Addr) (n c:Nat) (ws:List WordD) (j g:Nat) (w:World):Prop where
 cells:w.heap[pb]?=some (.cells (pC p n c j g) U (0,0))
 lt:∀ b,FW b->b<w.heap.size
 ne:¬ FW pb
 words:WKnows FW p n c ws w
 ok:∀ d ∈ ws,zA9 d.set
 len:n<=1000
 jn:j<=n
 gn:g<=j
def zHb (pb:Nat) (U:TypeId) (p:Option Addr) (n c:Nat) (t:Tree) (j g:Nat) (w:World) (e:Ending) (w':World):Prop :=
 KeepBut (·=pb) w.heap.size w w'/\w'.heap[pb]?=some (.cells (pC p n c j g) U (0,0))/\zB7 w (fun _=>False) t e w'
theorem chA {M:Nat->Prop} {P:Program} {f:FuncId} {args:Array Value} {w w0:World} {l:List Res} {pb:Nat} {U:TypeId} {p:Option Addr} {n c j g:Nat} {t:Tree} {R:Ending->World->Prop} (k:Calls P f args w (zHb pb U p n c t j g w)) (H:HoldG M w0 w l) {i:Nat} {cs:Array Value} (hi:At l i (.blk pb cs U))
  (h:∀ q m F w',(∀ b,F b->w0.heap.size<=b)->HoldG M w0 w' (l.set i (.blk pb (pC p n c j g) U)++[.kn F (fun V=>ForestR V F q m t.kids)])->R (.returned (zAQ t.d (.slice q t.kids.length m))) w'):Calls P f args w R:=k.mono fun _ w' h'=>by
 obtain⟨hk,hb,q,m,F,rfl,hs,hF⟩:=h';exact h q m F w' (fun b hb=>by rcases(hF b hb).2 with h1|h1;exact Nat.le_trans H.keep.size h1;exact h1.elim) (H.learnBut hi hk hb Still.none hF (fun V hV=>hs.kept hV))
section
variable {M:Nat->Prop} {w0 w:World} {l:List Res}
theorem zMy {V W:World} {F:Nat->Prop} {b:Nat} {t:Tree} {q:Option Addr} {m:Nat} {T:TypeId} (hb:W.heap[b]?=some (.cells (zAO t.d (.slice q t.kids.length m)) T (0,0))) (hF:ForestR W F q m t.kids) (hV:∀ k,(k=b\/F k)->V.heap[k]?=W.heap[k]?):ForestR V (fun k=>k=b\/F k) (some ⟨b,0,none⟩) 1 [t]:=by
 refine .mk _ _ _ [(t,q,m)] ⟨_,1,rfl,by simp,by decide,(fun h=>by cases h),fun j r hj=>⟨b,0,rfl,.inl rfl,?_,fun k hk=>?_⟩⟩ (fun x hx=>?_) rfl
 ·match j,hj with
  | 0,hj=>simp at hj;subst hj;rfl
 ·match j,hj with
  | 0,hj =>
   simp only[List.map_cons,List.map_nil,List.getElem?_cons_zero,Option.some.injEq]at hj;subst hj;rw[cell_of_row V b _ _ T (0,0) ((hV b (.inl rfl)).trans hb)];simp
 ·rw[List.mem_singleton]at hx;subst hx;exact(hF.mono (fun _ h=>.inr h)).kept hV
theorem HoldG.freshB {pb b i:Nat} {cs ds:Array Value} {U T:TypeId} (H:HoldG (·=pb) w0 w (.blk pb cs U::l)) (hi:At l i (.blk b ds T)):w0.heap.size<=b:=by
 rcases(H.blk (.succ hi)).1 with h|h
 ·exact h
 ·exact(H.apart 0 (i+1) _ _ (by omega) rfl (At.get (.succ hi)) pb rfl (by rw[h];exact rfl)).elim
theorem HoldG.kid (H:HoldG M w0 w l) {i k b:Nat} {F:Nat->Prop} {t:Tree} {q:Option Addr} {m:Nat} {T:TypeId} (hi:At l i (.blk b (zAO t.d (.slice q t.kids.length m)) T)) (hk:At l k (.kn F (fun V=>ForestR V F q m t.kids))) :
  HoldG M w0 w (l.set i (.kn (fun k=>some b=some k) (fun V=>V.heap[b]?=some (.cells (zAO t.d (.slice q t.kids.length m)) T (0,0))))++[.kn (fun k=>k=b\/F k) (fun V=>ForestR V (fun k=>k=b\/F k) (some ⟨b,0,none⟩) 1 [t])]):=by
 have hb:=(H.blk hi).2;have H2:=H.rest hi (fun V=>V.heap[b]?=some (.cells (zAO t.d (.slice q t.kids.length m)) T (0,0))) (fun V hV=>(hV b rfl).trans hb)
 refine H2.also _ _ (fun z hz=>?_) (fun V hV=>zMy hb (H.kn hk) hV)
 have hil:i<l.length:=(List.getElem?_eq_some_iff.1 hi.get).1;have hne:i≠k:=fun e=>by subst e;have:=hi.get.symm.trans hk.get;cases this
 rcases hz with e|h
 ·exact⟨i,_,by rw[List.getElem?_set,if_pos rfl,if_pos hil],rfl,by rw[e];exact rfl⟩
 ·exact⟨k,.kn F (fun V=>ForestR V F q m t.kids),by rw[List.getElem?_set,if_neg hne];exact hk.get,rfl,h⟩
end
theorem zOd (pb:Nat) (FW:Nat->Prop) (p:Option Addr) (n c:Nat) (ws:List WordD) (j g:Nat) (f:zBZ) (d:WordD) (t:Tree) (j' g':Nat) (w0:World) (hP:AltPre pb 174 FW p n c ws j g w0) (hj':j'<n) (hg1:g+1<=j) (hg':g'<=j')
  (A:∀ w,AltPre pb 174 FW p n c ws j (if d.kind=7 then g else g+1) w->Calls Tryz.prog 101 #[.pointer (some ⟨pb,0,none⟩),zCp (if d.kind=7 then zHG f d else f)] w (zHb pb 174 p n c t j' g' w)) :
  Calls Tryz.prog 153 #[.pointer (some ⟨pb,0,none⟩),zDm d,zCp f] w0 (zHb pb 174 p n c (if d.kind=7 then t else zG1 (g+1) t) (j'+1) g' w0):=by
 have H:=(HoldG.startB hP.cells).know FW (WKnows FW p n c ws) hP.lt (fun i r h b hb=>by
  match i,h with
  | 0,h=>cases h;cases hb;exact hP.ne) (fun V hV=>hP.words.kept hV)
 simp only[ca]at H;have hlen:=hP.len;have hjn:=hP.jn;have hgn:=hP.gn;have hpre:∀ (g1:Nat) (w:World) (l:List Res),g1<=j->HoldG (·=pb) w0 w (.blk pb (pC p n c j g1) 174::.kn FW (WKnows FW p n c ws)::l)->AltPre pb 174 FW p n c ws j g1 w:=fun g1 w l h1 h=>⟨(h.blk .zero).2,h.knlt i_1,hP.ne,h.kn i_1,hP.ok,hP.len,hP.jn,h1⟩
 have hpre1:∀ (w:World) (l:List Res),HoldG (·=pb) w0 w (.blk pb #[.slice p n c,.int .i64 (j:Int),.int .i64 ((g:Int)+1)] 174::.kn FW (WKnows FW p n c ws)::l)->AltPre pb 174 FW p n c ws j (g+1) w:=fun w l h=>hpre (g+1) w l hg1 h
 by_cases h7:d.kind=7
 ·have d7:((d.kind:Int) == 7)=true:=by rw[beq_iff_eq];omega
  simp only[h7,if_true]at A ⊢;have htu:=fun w=>zH9 f d w
  clear h7
  go_enter Tryz.func153,Tryz.ntmps153
  go_wp2_with (first|(first|((with_reducible refine gT ?_);((first|refine aO H ?_|refine aT H ?_);clear H;intro w H;try simp only[nr]at H))|((with_reducible refine gL ?_);(first|refine aG H ?_|refine aD H ?_))|((with_reducible refine gX ?_);(refine bB H ?_;clear H;intro b w H;try simp only[nr]at H))|((with_reducible refine gA ?_);(refine bA H ?_;clear H;intro b w H;try simp only[nr]at H)))|((with_reducible refine ch (htu _) H ?_);clear H;intro w H)|(go_at_call 101;(with_reducible refine chA (A _ (hpre g _ _ (by omega) H)) H .zero ?_);clear H;intro q m F w hF H))
  (refine xc Tryz.results153 H ?_)
  exact⟨H.keep,(H.blk .zero).2,q,m,F,rfl,H.kn (i:=5) i_5,fun b h=>⟨H.knlt i_5 b h,.inl (hF b h)⟩⟩
 ·have d7:((d.kind:Int) == 7)=false:=by rw[beq_eq_false_iff_ne];omega
  simp only[h7,if_false]at A ⊢;clear h7
  go_enter Tryz.func153,Tryz.ntmps153
  go_upto_region 8 with (first|(first|((with_reducible refine gT ?_);((first|refine aO H ?_|refine aT H ?_);clear H;intro w H;try simp only[nr]at H))|((with_reducible refine gL ?_);(first|refine aG H ?_|refine aD H ?_))|((with_reducible refine gX ?_);(refine bB H ?_;clear H;intro b w H;try simp only[nr]at H))|((with_reducible refine gA ?_);(refine bA H ?_;clear H;intro b w H;try simp only[nr]at H)))|(go_at_call 101;(with_reducible refine chA (A _ (hpre1 _ _ H)) H .zero ?_);clear H;intro q m F w hF H))
  go_wp2_with (first|((with_reducible refine gBS ?_);refine zAY wtd_ _ _ _ rfl H (zAO (t.d) (.slice q t.kids.length m)) 28 (by intro W;simp only[ml];(try simp only[pe]);exact zBQ _ _ W) ?_;clear H;intro bk w H;try simp only[nr]at H)|(first|((with_reducible refine gT ?_);((first|refine aO H ?_|refine aT H ?_);clear H;intro w H;try simp only[nr]at H))|((with_reducible refine gL ?_);(first|refine aG H ?_|refine aD H ?_))|((with_reducible refine gZ ?_);refine nbG ?_)))
  (refine xc Tryz.results153 H ?_)
  have hkk:w0.heap.size<=bk:=H.freshB (i:=6) i_6;have H2:=H.kid (i:=7) (k:=5) i_7 i_5;exact⟨H.keep,(H.blk .zero).2,some ⟨bk,0,none⟩,1,_,rfl,(H2.all 8 _ rfl).2 w (fun _ _=>rfl),fun b h=>⟨(H2.all 8 _ rfl).1 b h,.inl (h.elim (fun e=>e ▸ hkk) (hF b))⟩⟩
end
section
open Go.RowKit
def zLU (n0:Nat) (cs:Array Value) (T:TypeId) (v:Value) (W:World):Prop:=∃ b,v=pt b 0/\n0<=b/\W.heap[b]?=some (.cells cs T (0,0))
theorem zJS (n0:Nat) (cs:Array Value) (T:TypeId):zEz (zLU n0 cs T):=fun v w w' ⟨b,e,h1,h2⟩ hb=>⟨b,e,h1,(hb.block b (Array.getElem?_eq_some_iff.1 h2).1).trans h2⟩
theorem zPc {P:Program} {ops:Array Oper} {o:Oper} {a:Act} {w:World} {n0:Nat} {T:TypeId} {cs:Array Value} {D:Prop} (hg:Region.wanted o (yielded ops a.tmps)=true) (hop:o.op=Op.alloc T) (hi:((P.info? T).bind (·.zero)).isSome=true) (hz:zCH P T=cs) (hn:n0<=w.heap.size) (hD:¬ D:=by decide) :
  zBU P ops o a w (fun v w'=>zLU n0 cs T v w'/\(D->w.heap.size<=blk v)):=by
 subst hz
 cases hi1:P.info? T with
 | none=>simp[hi1]at hi
 | some i0 =>
  cases hz:i0.zero with
  | none=>simp[hi1,hz]at hi
  | some z =>
   have hzc:zCH P T=z.cells:=by simp[zCH,hi1,hz]
   refine zC7 hg (v:=.pointer (some ⟨w.heap.size,0,none⟩)) (w':=w.alloc (.cells (zCH P T) T)) ?_ ((Below.refl _ w).alloc (Nat.le_refl _) _) ⟨⟨w.heap.size,rfl,hn,World.alloc_heap_new w _⟩,fun h=>(hD h).elim⟩
   rw[hzc];simp[execOp,hop,Instr.alloc,zeroValue,typeInfo,hi1,hz,newVar,newRow]
theorem HoldG.gainB {M:Nat->Prop} {w0 w w':World} {l:List Res} (H:HoldG M w0 w l) (hb:Below w.heap.size w w') {cs:Array Value} {T:TypeId} {v:Value} (h:zLU w.heap.size cs T v w'):∃ b,v=pt b 0/\HoldG M w0 w' (l++[.blk b cs T]):=by
 obtain⟨b,e,h1,h2⟩:=h;refine⟨b,e,(H.call hb).keep,?_,?_⟩
 ·intro j s hs;rw[List.getElem?_append]at hs;split at hs
  ·exact(H.call hb).all j s hs
  ·rcases List.getElem?_eq_some_iff.1 hs with ⟨h3,h4⟩
   simp at h3;simp[h3]at h4;subst h4;exact⟨.inl (Nat.le_trans H.keep.size h1),h2⟩
 ·intro j k s t hjk hs ht;rw[List.getElem?_append]at hs ht;split at hs
  ·split at ht
   ·exact H.apart j k s t hjk hs ht
   ·rcases List.getElem?_eq_some_iff.1 ht with ⟨h3,h4⟩
    simp at h3;simp[h3]at h4;subst h4;intro z hz1 hz2;have:=((H.all j s hs).lt z hz1).2;have e:some b=some z:=hz2
    cases e;omega
  ·rcases List.getElem?_eq_some_iff.1 hs with ⟨h3,h4⟩
   simp at h3;simp[h3]at h4;subst h4;split at ht
   ·intro z hz1 hz2;have:=(H.all k t ht).ltf z hz2
    cases hz1;omega
   ·rcases List.getElem?_eq_some_iff.1 ht with ⟨h5,h6⟩
    simp at h5;omega
def zCk (n0:Nat) (cs:Array Value) (T:TypeId) (v:Value) (W:World):Prop:=∃ b,v=.slice (some ⟨b,0,none⟩) 1 1/\n0<=b/\W.heap[b]?=some (.cells cs T (0,0))
theorem zA3 (n0:Nat) (cs:Array Value) (T:TypeId):zEz (zCk n0 cs T):=fun v w w' ⟨b,e,h1,h2⟩ hb=>⟨b,e,h1,(hb.block b (Array.getElem?_eq_some_iff.1 h2).1).trans h2⟩
theorem HoldG.gainS {M:Nat->Prop} {w0 w w':World} {l:List Res} (H:HoldG M w0 w l) (hb:Below w.heap.size w w') {cs:Array Value} {T:TypeId} {v:Value} (h:zCk w.heap.size cs T v w'):∃ b,v=.slice (some ⟨b,0,none⟩) 1 1/\HoldG M w0 w' (l++[.blk b cs T]):=by
 obtain⟨b,e,h1,h2⟩:=h;obtain⟨b',e',H2⟩:=H.gainB hb (v:=.pointer (some ⟨b,0,none⟩)) ⟨b,rfl,h1,h2⟩
 cases e'
 exact⟨b,e,H2⟩
theorem zRG {P:Program} {ops:Array Oper} {o:Oper} {a:Act} {w:World} {n0:Nat} {x:Operand} {TS T:TypeId} {cs:Array Value} {D:Prop} (hg:Region.wanted o (yielded ops a.tmps)=true) (hop:o.op=Op.buildSlice TS 1 #[(0,x)]) (hx:a.eval x=.agg cs)
  (hr:∀ W:World,(Instr.buildSlice TS 1 #[(0,.agg cs)]).run P W=.ok (.slice (some ⟨W.heap.size,0,none⟩) 1 1) (W.alloc (.cells cs T))) (hn:n0<=w.heap.size) (hD:¬ D:=by decide):zBU P ops o a w (fun v w'=>zCk n0 cs T v w'/\(D->w.heap.size<=blk v)):=by
 refine zC7 hg (v:=.slice (some ⟨w.heap.size,0,none⟩) 1 1) (w':=w.alloc (.cells cs T)) ?_ ((Below.refl _ w).alloc (Nat.le_refl _) _) ⟨⟨w.heap.size,rfl,hn,World.alloc_heap_new w _⟩,fun h=>(hD h).elim⟩
 simp only[execOp,hop,List.map_toArray,List.map_cons,List.map_nil,hx,Sem.run_bind,hr];rfl
end
section
open Go.RowKit Go.Shelf
attribute [local go_sem] Oper.semAt_some
theorem zE5:∀ (m:Nat) (f:zBZ) (r:List WordD) (g:Nat) (all items:List Tree) (t:Tree) (r':List WordD) (g':Nat),zA4 m f r g all items=some (t,r',g')->r' <:+ r/\g'+r'.length<=g+r.length
 | 0,f,r,g,all,items,t,r',g',h=>by simp[zA4]at h
 | m+1,f,[],g,all,items,t,r',g',h=>by
  simp only[zA4,Option.some.injEq,Prod.mk.injEq]at h;obtain⟨_,rfl,rfl⟩:=h;exact⟨List.suffix_refl _,by simp⟩
 | m+1,f,w::r,g,all,items,t,r',g',h=>by
  have IH:=zE5 m;have hs:r <:+ w::r:=List.suffix_cons w r;have step:∀ {f g2 all items},g2<=g+1->zA4 m f r g2 all items=some (t,r',g')->r' <:+ w::r/\g'+r'.length<=g+(w::r).length:=fun hg e=>by
   have:=IH _ _ _ _ _ _ _ _ e;exact⟨this.1.trans hs,by have:=this.2;simp only[List.length_cons];omega⟩
  unfold zA4 at h;split at h
  ·simp only[Option.some.injEq,Prod.mk.injEq]at h;obtain⟨_,rfl,rfl⟩:=h;exact⟨List.suffix_refl _,by omega⟩
  split at h
  ·exact step (by omega) h
  split at h
  ·exact step (by omega) h
  split at h
  ·split at h
   ·cases h
   ·exact step (by omega) h
  split at h
  ·split at h
   ·rename_i t1 d1 r1 g1 h1;have a:=IH _ _ _ _ _ _ _ _ h1;have b:=IH _ _ _ _ _ _ _ _ h;refine⟨(b.1.trans (List.suffix_cons d1 r1)).trans (a.1.trans hs),?_⟩
    have:=a.2;have:=b.2;simp only[List.length_cons]at *;omega
   ·cases h
  split at h
  ·split at h
   ·rename_i t1 d1 r1 g1 h1;have a:=IH _ _ _ _ _ _ _ _ h1;have b:=IH _ _ _ _ _ _ _ _ h;refine⟨(b.1.trans (List.suffix_cons d1 r1)).trans (a.1.trans hs),?_⟩
    have:=a.2;have:=b.2;simp only[List.length_cons]at *;omega
   ·cases h
  ·exact step (by omega) h
theorem zB1:(Tryz.prog.info? 28).map (fun i=>(i.zero,i.size,i.bytes))=some (some (.agg (zAO {kind:=0} nilS)),10,96):=by kernel_rfl
section
variable {M:Nat->Prop} {w0 w:World} {l:List Res}
theorem HoldG.rowForest (H:HoldG M w0 w l) {i N cap:Nat} {q:Option Addr} {T:TypeId} {xs:List TV} {K:Nat->Prop} (hi:At l i (.row (.slice q N cap) T 10 N (zAE (xs.map zAR)))) (hN:xs.length=N) (hK:Still l K) (hL:ListR w K xs) :
  ∃ G:Nat->Prop,(∀ b,G b->w0.heap.size<=b\/K b)/\HoldG M w0 w (l.set i (.kn G (fun V=>ForestR V G q cap (xs.map (·.1))))):=by
 have ho:=H.all i _ hi.get;have hrd:∀ V:World,(∀ b,(Value.slice q N cap).ownBlock=some b->V.heap[b]?=w.heap[b]?)->RdN 10 V (fun b=>(Value.slice q N cap).ownBlock=some b) (.slice q N cap) (xs.map zAR):=fun V hV=>RdN.of_own ho (zBS xs) (by rw[List.length_map];exact hN) hV
 refine⟨fun b=>(Value.slice q N cap).ownBlock=some b\/K b,fun b hb=>hb.imp (fun hb=>?_) id,H.restG hi _ _ (fun b hb=>hb.imp id (hK b)) (fun V hV=>.mk _ _ _ xs (by rw[List.length_map,hN];exact(hrd V (fun b hb=>hV b (.inl hb))).mono (fun _ h=>.inl h)) (fun x hx=>((hL x hx).mono (fun _ h=>.inr h)).kept hV) rfl)⟩
 obtain⟨_,⟨hv,_⟩|⟨g,cap',cur,hv,hg,_⟩⟩:=ho
 ·cases hv;cases hb
 ·cases hv;cases hb;exact hg
theorem HoldG.rowForest1 (H:HoldG M w0 w l) {i k k2:Nat} {v:Value} {T:TypeId} {xs ys:List TV} {F F2:Nat->Prop} {t:Tree} {q2:Option Addr} {c2:Nat} (hi:At l i (.row v T 10 (xs.length+1) (zAE (xs.map zAR)++(zAO t.d (.slice q2 t.kids.length c2)).toList))) (hk:At l k (.kn F (fun V=>ListR V F ys))) (hsub:∀ x ∈ xs,x ∈ ys)
  (hk2:At l k2 (.kn F2 (fun V=>ForestR V F2 q2 c2 t.kids))):∃ (q:Option Addr) (cap:Nat) (G:Nat->Prop),v=.slice q (xs.length+1) cap/\(∀ b,G b->w0.heap.size<=b\/F b\/F2 b)/\HoldG M w0 w (l.set i (.kn G (fun V=>ForestR V G q cap (xs.map (·.1)++[t])))):=by
 obtain⟨q,cap,rfl,_,_,_⟩:=H.rowShape hi;have e:zAE (xs.map zAR)++(zAO t.d (.slice q2 t.kids.length c2)).toList=zAE ((xs++[((t,q2,c2):TV)]).map zAR):=by rw[List.map_append,zAo];simp[zAE]
 rw[e]at hi;obtain⟨G,hG,H2⟩:=H.rowForest (K:=fun b=>F b\/F2 b) hi (by simp) ((Still.at hk).or (Still.at hk2)) (ListR.append (fun x hx=>(H.kn hk x (hsub x hx)).mono (fun _ h=>.inl h)) (ListR.one ((H.kn hk2).mono (fun _ h=>.inr h))))
 refine⟨q,cap,G,rfl,hG,?_⟩
 simpa using H2
theorem HoldG.rowGrown (H:HoldG M w0 w l) {i k k2:Nat} {v:Value} {T:TypeId} {xs ys:List TV} {F F2:Nat->Prop} {t:Tree} {q2:Option Addr} {c2:Nat} (hi:At l i (.row v T 10 (xs.length+1) (zAE (xs.map zAR)++(zAO t.d (.slice q2 t.kids.length c2)).toList))) (hk:At l k (.kn F (fun V=>ListR V F ys)))
  (hk2:At l k2 (.kn F2 (fun V=>ForestR V F2 q2 c2 t.kids))) (zs:List TV) (hsub:∀ x ∈ zs,x ∈ ys\/x=(t,q2,c2)):HoldG M w0 w (l.set i (.row v T 10 (xs++[((t,q2,c2):TV)]).length (zAE ((xs++[((t,q2,c2):TV)]).map zAR)))++[.kn (fun b=>F b\/F2 b) (fun V=>ListR V (fun b=>F b\/F2 b) zs)]):=by
 have e:zAE (xs.map zAR)++(zAO t.d (.slice q2 t.kids.length c2)).toList=zAE ((xs++[((t,q2,c2):TV)]).map zAR):=by rw[List.map_append,zAo];simp[zAE]
 have el:xs.length+1=(xs++[((t,q2,c2):TV)]).length:=by simp
 rw[e,el]at hi;have hs:l.set i (.row v T 10 (xs++[((t,q2,c2):TV)]).length (zAE ((xs++[((t,q2,c2):TV)]).map zAR)))=l:=by
  apply List.ext_getElem?;intro j;rw[List.getElem?_set];split
  ·rename_i e;subst e;have:=hi.get;rw[if_pos (List.getElem?_eq_some_iff.1 this).1,this]
  ·rfl
 rw[hs];refine H.also _ _ ((Still.at hk).or (Still.at hk2)) (fun V hV x hx=>?_)
 rcases hsub x hx with h|rfl
 ·exact((H.kn hk x h).mono (fun _ h=>.inl h)).kept hV
 ·exact((H.kn hk2).mono (fun _ h=>.inr h)).kept hV
end
section
variable {m:Nat} {f:zBZ} {w:WordD} {r:List WordD} {g:Nat} {all items:List Tree}
theorem zPA:zA4 (m+1) f [] g all items=some (rowT 5 (all++[rowT 4 items]),[],g):=by simp only[zA4]
theorem zRf (h:w.kind=9):zA4 (m+1) f (w::r) g all items=some (rowT 5 (all++[rowT 4 items]),w::r,g):=by simp only[zA4,h,if_true]
theorem zRl (h:w.kind=8):zA4 (m+1) f (w::r) g all items=zA4 m (zHG f w) r g all items:=by simp[zA4,h]
theorem zQ3 (h:w.kind=10):zA4 (m+1) f (w::r) g all items=zA4 m f r g (all++[rowT 4 items]) []:=by simp[zA4,h]
theorem zQw (h:w.kind=11):zA4 (m+1) f (w::r) g all items=match items.getLast? with|none=>none|some last=>zA4 m f r g all (items.dropLast++[repT w last]):=by simp[zA4,h];rfl
theorem zRj (h:w.kind=7):zA4 (m+1) f (w::r) g all items=match zA4 m (zHG f w) r g [] [] with|some (t,_::r',g')=>zA4 m f r' g' all (items++[t])|_=>none:=by simp[zA4,h];rfl
theorem zRa (h:w.kind=6):zA4 (m+1) f (w::r) g all items=match zA4 m f r (g+1) [] [] with|some (t,_::r',g')=>zA4 m f r' g' all (items++[zG1 (g+1) t])|_=>none:=by simp[zA4,h];rfl
theorem zQV (h9:w.kind≠9) (h8:w.kind≠8) (h10:w.kind≠10) (h11:w.kind≠11) (h7:w.kind≠7) (h6:w.kind≠6):zA4 (m+1) f (w::r) g all items=zA4 m f r g all (items++[zFz w f]):=by simp[zA4, *]
end
def posM (pb n:Nat) (w:World):Nat:=match w.cell? ⟨pb,1,none⟩ with|some (.int _ z)=>n+1 - z.toNat|_=>0
theorem zDn {pb n:Nat} {w:World} {k:IntKind} {z:Int} (h:w.cell? ⟨pb,1,none⟩=some (.int k z)):posM pb n w=n+1 - z.toNat:=by unfold posM;rw[h]
theorem zIG (d:WordD) (f:zBZ):(zFz d f).kids=[]:=by
 unfold zFz setT zNu zBj
 repeat' split
 all_goals first|rfl|(dsimp only;repeat' split)<;>rfl
theorem zNR {m:Nat} {f:zBZ} {w:WordD} {r:List WordD} {g:Nat} {all items:List Tree} {t:Tree} {r':List WordD} {g':Nat} (h:zBK w=true) (e:zA4 (m+1) f (w::r) g all items=some (t,r',g')) :
  ∃ t1 d1 r1 g1,zA4 m (if w.kind=7 then zHG f w else f) r (if w.kind=7 then g else g+1) [] []=some (t1,d1::r1,g1)/\zA4 m f r1 g1 all (items++[if w.kind=7 then t1 else zG1 (g+1) t1])=some (t,r',g'):=by
 have hk:w.kind=6\/w.kind=7:=by simpa [zBK] using h
 by_cases h7:w.kind=7
 ·rw[zRj h7]at e;simp only[h7,if_true];split at e
  ·rename_i t1 d1 r1 g1 h1;exact⟨t1,d1,r1,g1,h1,e⟩
  ·cases e
 ·rw[zRa (by omega)]at e
  simp only[h7,if_false];split at e
  ·rename_i t1 d1 r1 g1 h1;exact⟨t1,d1,r1,g1,h1,e⟩
  ·cases e
theorem zNk {m:Nat} {f:zBZ} {w:WordD} {r:List WordD} {g:Nat} {all:List Tree} {xs:List TV} {t:Tree} {r':List WordD} {g':Nat} (h:w.kind=11) (e:zA4 (m+1) f (w::r) g all (xs.map (·.1))=some (t,r',g')) :
  ∃ ys x,xs=ys++[x]/\zA4 m f r g all (ys.map (·.1)++[repT w x.1])=some (t,r',g'):=by
 rw[zQw h]at e;rcases List.eq_nil_or_concat xs with rfl|⟨ys,x,rfl⟩
 ·simp at e
 ·refine⟨ys,x,by simp,?_⟩
  simpa using e
theorem drop_suffix {α:Type} {ws r:List α} {n:Nat} (hn:n=ws.length) (h:r <:+ ws):ws.drop (n - r.length)=r:=by
 subst hn;exact(List.suffix_iff_eq_drop.1 h).symm
theorem zO0 {ys:List TV} {x x':TV} {c:Array Value} (h:zAR x'=c):((ys++[x]).map zAR).set ys.length c=(ys++[x']).map zAR:=by
 subst h;have:(ys.map zAR).length=ys.length:=List.length_map ..;rw[List.map_append,List.map_append,List.set_append,if_neg (by omega),this,Nat.sub_self];rfl
end
section
open Go.RowKit
def zAf (d:NodeD) (k:Nat):Bool :=
 if d.kind=3 then !eqS d.set zAU&&((k:Int) == 0)&&!(d.group != 0)
  else if d.kind=4\/d.kind=5 then decide (1<(k:Int))&&!(!eqS d.set zAU)&&!(d.group != 0)
  else if d.kind=6 then ((k:Int) == 1)&&!(!eqS d.set zAU)&&!(d.group != 0)&&decide (0<=d.lo)&&decide (d.lo<=100)&&(d.hi == -1 || decide (d.lo<=d.hi)&&decide (d.hi<=100))
  else if d.kind=7 then ((k:Int) == 1)&&!(!eqS d.set zAU)&&decide (0<d.group)&&decide (d.group<=20)
  else decide (1<=d.kind)&&decide (d.kind<=13)&&((k:Int) == 0)&&!(!eqS d.set zAU)&&!(d.group != 0)
def zDI (d:NodeD):Bool:=!((d.kind != 6)&&((d.lo != 0) || (d.hi != 0) || d.lazy))
def zA7 (d:NodeD) (k:Nat):Bool:=zAf d k&&zDI d
mutual
def zAi:Tree->Bool
 | .mk d ks=>zA7 d ks.length&&zAd ks
def zAd:List Tree->Bool
 | []=>true
 | t::r=>zAi t&&zAd r
end
theorem zGo (t:Tree):zAi t=(zA7 t.d t.kids.length&&zAd t.kids):=by cases t;simp[zAi,Tree.kids,Tree.d]
theorem zCv:∀ {ts:List Tree} {i:Nat} {t:Tree},zAd ts=true->ts[i]?=some t->zAi t=true
 | [],_,_,_,h=>by simp at h
 | t::r,0,u,h,hi=>by simp only[zAd,Bool.and_eq_true]at h;simp at hi;subst hi;exact h.1
 | t::r,i+1,u,h,hi=>by simp only[zAd,Bool.and_eq_true]at h;exact zCv h.2 (by simpa using hi)
theorem zC5:∀ (a b:List Tree),zAd (a++b)=(zAd a&&zAd b)
 | [],b=>by simp[zAd]
 | t::r,b=>by simp only[List.cons_append,zAd];rw[zC5 r b,Bool.and_assoc]
theorem zGP {ts:List Tree} {i:Nat} {t:Tree} (h:ts[i]?=some t):zAd (ts.take (i+1))=(zAd (ts.take i)&&zAi t):=by
 rw[zBc h,zC5];simp[zAd]
theorem zJ9 {ts:List Tree} {i:Nat} {t:Tree} (h:ts[i]?=some t) (hf:zAi t=false):zAd ts=false:=by
 have:zAd ts=(zAd (ts.take (i+1))&&zAd (ts.drop (i+1))):=by rw[← zC5,List.take_append_drop]
 rw[this,zGP h,hf];simp
def zFh (i o:Int) (t:Tree):List Tree:=if t.d.kind=i then t.kids else if t.d.kind=o then [] else [t]
def zBV (ts:List Tree) (i o:Int):List Tree:=ts.flatMap (zFh i o)
def rowN (k:Int) (ts:List Tree) (none_:Tree):Tree:=match ts with
 | []=>none_
 | [t]=>t
 | _=>.mk {kind:=k} ts
def catT (ts:List Tree):Tree:=if ts.any (fun t=>t.d.kind == 2) then zBj 2 else rowN 4 (zBV ts 4 1) (zBj 1)
def zB9 (n:NodeD) (k:Tree) (most:Int):Tree:=.mk {kind:=6,hi:=most,lazy:=n.lazy} [k]
def zCV (n:NodeD) (k:Tree):Nat->List Tree
 | 0=>[]
 | m+1=>[zB9 n (catT (k::zCV n k m)) 1]
def zCQ (n:NodeD) (k:Tree):Option Tree :=
 if n.hi=0\/k.d.kind=1\/k.d.kind=2/\n.lo=0 then some (zBj 1)
 else if k.d.kind=2 then some (zBj 2)
 else if 4000<(zAC k:Int) * max (max n.lo n.hi) 1 then none
 else some (catT (List.replicate n.lo.toNat k++if n.hi<0 then [zB9 n k (-1)] else zCV n k (n.hi - n.lo).toNat))
def ruleT (d:NodeD) (t:Tree) (l:List Tree):Option Tree :=
 if d.kind=7 then (match l with|[]=>none|k::_=>if k.d.kind=2 then some (zBj 2) else some (.mk d l))
 else if d.kind=4 then some (catT l)
 else if d.kind=5 then some (rowN 5 (zBV l 5 2) (zBj 2))
 else if d.kind=6 then (match l with|[]=>none|k::_=>zCQ d k)
 else some t
def capT (o:Option Tree):Option Tree:=match o with|some t=>if zAC t<=2000 then some t else none|none=>none
mutual
def zAv:Tree->Option Tree
 | .mk d ks=>match zAs ks with|none=>none|some l=>capT (ruleT d (.mk d ks) l)
def zAs:List Tree->Option (List Tree)
 | []=>some []
 | t::r=>match zAv t with|none=>none|some x=>match zAs r with|none=>none|some l=>some (x::l)
end
def zBa (t:Tree):Except Nat Tree:=if zAi t=true/\zAC t<=2000 then (match zAv t with|none=>.error 7|some s=>.ok s) else .error 2
theorem zMR (ts:List Tree) (t:Tree) (i o:Int):zBV (ts++[t]) i o=zBV ts i o++zFh i o t:=by simp[zBV]
theorem zL8 {ts:List Tree} {j:Nat} {t:Tree} (h:ts[j]?=some t) (i o:Int):zBV (ts.take (j+1)) i o=zBV (ts.take j) i o++zFh i o t:=by rw[zBc h,zMR]
theorem zMO (i o:Int) (t:Tree):zAD (zFh i o t)<=zAC t:=by
 unfold zFh;split
 ·rw[zCI t];omega
 split
 ·simp[zAD]
 ·rw[zA6];exact Nat.le_refl _
theorem zDP:∀ (ts:List Tree) (i o:Int),zAD (zBV ts i o)<=zAD ts
 | [],_,_=>by simp[zBV]
 | t::r,i,o=>by
  have:=zDP r i o;have:=zMO i o t;simp only[zBV,List.flatMap_cons]at *;rw[zAc];simp only[zAD];omega
theorem zJO (k:Int) (ts:List Tree) (d:Tree) (hd:zAC d=1):zAC (rowN k ts d)<=1+zAD ts:=by
 unfold rowN;split
 ·omega
 ·rw[zA6];omega
 ·simp[zAC]
theorem zDt (k:Int):zAC (zBj k)=1:=by simp[zBj,zAC,zAD]
theorem zES (ts:List Tree):zAC (catT ts)<=1+zAD ts:=by
 unfold catT;split
 ·rw[zDt];omega
 ·have:=zJO 4 (zBV ts 4 1) (zBj 1) (zDt 1);have:=zDP ts 4 1;omega
theorem zD4 (n:NodeD) (k:Tree) (m:Int):zAC (zB9 n k m)=1+zAC k:=by simp[zB9,zAC,zAD]
theorem zFf (n:NodeD) (k:Tree):∀ m:Nat,zAD (zCV n k m)<=m * (zAC k+2)
 | 0=>by simp[zCV,zAD]
 | m+1=>by
  have ih:=zFf n k m;simp only[zCV];rw[zA6,zD4];have:=zES (k::zCV n k m);simp only[zAD]at this;rw[Nat.succ_mul];omega
theorem zLl (n:NodeD) (k:Tree) (m:Nat):(zCV n k m).length<=1:=by cases m<;>simp[zCV]
theorem zEB:∀ (a:List Tree) (t:Tree) {l:List Tree} {x:Tree},zAs a=some l->zAv t=some x->zAs (a++[t])=some (l++[x])
 | [],t,l,x,h,hx=>by
  simp only[zAs,Option.some.injEq]at h;subst h;simp[zAs,hx]
 | u::r,t,l,x,h,hx=>by
  simp only[zAs]at h
  cases hu:zAv u with
  | none=>rw[hu]at h;cases h
  | some y =>
   rw[hu]at h
   cases hr:zAs r with
   | none=>rw[hr]at h;cases h
   | some l' =>
    rw[hr]at h;simp only[Option.some.injEq]at h;subst h;simp only[List.cons_append,zAs,hu,zEB r t hr hx]
theorem zEJ:∀ {ts:List Tree} {i:Nat} {t:Tree},ts[i]?=some t->zAv t=none->zAs ts=none
 | [],_,_,h,_=>by simp at h
 | u::r,0,t,h,hn=>by simp at h;subst h;simp[zAs,hn]
 | u::r,i+1,t,h,hn=>by
  simp only[zAs];rw[zEJ (ts:=r) (i:=i) (by simpa using h) hn]
  cases zAv u<;>rfl
theorem zGT:∀ {ts l:List Tree},zAs ts=some l->l.length=ts.length
 | [],l,h=>by simp[zAs]at h;subst h;rfl
 | u::r,l,h=>by
  simp only[zAs]at h;split at h
  ·cases h
  ·split at h
   ·cases h
   ·rename_i l' hl
    cases h
    simp[zGT hl]
theorem zQh {o:Option Tree} {t:Tree} (h:capT o=some t):zAC t<=2000:=by
 unfold capT at h;split at h
 ·split at h
  ·cases h;assumption
  ·cases h
 ·cases h
theorem zD0 {t s:Tree} (h:zAv t=some s):zAC s<=2000:=by
 cases t with
 | mk d ks =>
  simp only[zAv]at h;split at h
  ·cases h
  ·exact zQh h
theorem zCL:∀ {ts l:List Tree},zAs ts=some l->zAD l<=2000 * ts.length
 | [],l,h=>by simp[zAs]at h;subst h;simp[zAD]
 | u::r,l,h=>by
  simp only[zAs]at h;split at h
  ·cases h
  ·rename_i x hx;split at h
   ·cases h
   ·rename_i l' hl
    cases h
    have:=zCL hl;have:=zD0 hx;simp only[zAD,List.length_cons];omega
end
section
open Go.RowKit Go.Shelf
attribute [local go_sem] Oper.semAt_some
section
variable {P:Program} {ops:Array Oper} {rest:List Oper} {o:Oper} {a:Act} {w w0:World} {Q:Exit->Act->World->Prop} {l:List Res} {M:Nat->Prop}
theorem zBA (hg:o.guard=none) (s x:Operand) (T:TypeId) (ho:o.op=.call {callee:=.builtin .append,args:=#[s,x],argTypes:=#[T,T]}) (H:HoldG M w0 w l) {i:Nat} {v:Value} {e:TypeId} {sz n m c:Nat} {q:Option Addr} {xs:List Value} {F:Nat->Prop} {rows:List (Array Value)}
  (hs:a.eval s=v) (hx:a.eval x=.slice q m c) (hi:At l i (.row v e sz n xs)) (hR:RdN sz w F (.slice q m c) rows) (hrs:∀ r ∈ rows,r.size=sz) {it:TypeInfo} {z:Value} {bytes:Nat}
  (h1:P.underlying T=some (.slice e)) (h2:P.info? e=some it) (h3:it.zero=some z) (h4:it.size=sz) (h5:it.bytes=bytes) (h6:z.cells.size=sz) (h7:0<sz) (h1c:∀ u ∈ zAE rows,u.oneCell'=true)
  (b1:n+m<=maxLen) (b2:(n+m) * bytes<=140737488355328)
  (h:∀ v' w',HoldG M w0 w' (l.set i (.row v' e sz (n+m) (xs++zAE rows)))->wpList P ops Q rest (a.put o.dst v') w'):wpList P ops Q (o::rest) a w:=by
 obtain⟨p,cap,e1,r1,r2,r0,r3⟩:=hR
 cases e1
 have key:∀ ad:Addr,q=some ad->(∀ j u,(zAE rows)[j]?=some u->w.cell? (ad.add j)=some u)->wpList P ops Q (o::rest) a w:=fun ad hq hc=>by
  subst hq;refine wpList_append_own_at w hg s x T ho w0.heap.size e it z sz bytes h1 h2 h3 h4 h5 h6 h7 v n xs hs (H.all i _ hi.get) ad rows.length c (zAE rows) hx (zBN hrs) hc h1c b1 b2 H.keep.size (fun v' w' r1 r2 _ r4=>h v' w' ?_)
  refine H.upd hi.get (by exact r2) r1 (fun b' hb'=>?_)
  rcases r4 with r4|r4
  ·left;show v.ownBlock=some b';rw[← r4];exact hb'
  ·right;have:v'.ownBlock=some b':=hb';rw[r4]at this
   cases this;exact Nat.le_refl _
 cases rows with
 | nil =>
  cases q with
  | none =>
   have hc0:=r0 rfl;subst hc0;refine wpList_append_own_none hg s x T ho w0.heap.size e it sz h1 h2 v n xs hs (H.all i _ hi.get) hx ?_
   have hset:l.set i (.row v e sz (n+0) (xs++zAE []))=l:=by
    apply List.ext_getElem?;intro j;rw[List.getElem?_set];split
    ·rename_i e;subst e;have:=hi.get;rw[if_pos (List.getElem?_eq_some_iff.1 this).1,this];simp[zAE]
    ·rfl
   have:=h v w (by rw[show (List.length ([]:List (Array Value)))=0 from rfl,hset];exact H)
   exact this
  | some ad=>exact key ad rfl (fun j u hj=>by simp[zAE]at hj)
 | cons r rows =>
  obtain⟨b,off,hq,hF,_,_⟩:=r3 0 r rfl;refine key _ hq (fun j u hj=>?_)
  have hlen:(zAE (r::rows)).length=(r::rows).length * sz:=zBN hrs;have hjl:=(List.getElem?_eq_some_iff.1 hj).1;have hd:j=j / sz * sz+j % sz:=by rw[Nat.mul_comm];exact(Nat.div_add_mod j sz).symm
  have hm:j % sz<sz:=Nat.mod_lt _ h7;have hqq:j / sz<(r::rows).length:=Nat.div_lt_of_lt_mul (by rw[Nat.mul_comm];omega)
  have hget:(r::rows)[j / sz]?=some (r::rows)[j / sz]:=List.getElem?_eq_getElem hqq;obtain⟨b',off',hq',_,_,hk⟩:=r3 (j / sz) _ hget;rw[hq]at hq';cases hq'
  have h8:=zCU hrs hget hm;rw[← hd,hj]at h8;have h9:=hk (j % sz) hm;rw[← h8]at h9;rw[Addr.add_mid,← h9]
  congr 2;omega
end
section
variable {P:Program} {ops:Array Oper} {rest:List Oper} {o:Oper} {a:Act} {w w0:World} {Q:Exit->Act->World->Prop} {l:List Res} {M:Nat->Prop}
end
theorem zIw (w0:World):Calls Tryz.prog 160 #[] w0 (Rt (zAQ {kind:=2} nilS) w0):=by
 have H:=Hold.start w0
 go_enter Tryz.func160,Tryz.ntmps160
 go_wp2_with (first|(first|((with_reducible refine gT ?_);(refine aT H ?_;clear H;intro w H;try simp only[nr]at H))|((with_reducible refine gA ?_);(refine bA H ?_;clear H;intro b w H;try simp only[nr]at H))|((with_reducible refine gZ ?_);refine nb1 ?_)))
 (refine xc Tryz.results160 H ?_)
 exact⟨rfl,H.below⟩
theorem zJ8 (w0:World):Calls Tryz.prog 188 #[] w0 (Rt (zAQ {kind:=1} nilS) w0):=by
 have H:=Hold.start w0
 go_enter Tryz.func188,Tryz.ntmps188
 go_wp2_with (first|(first|((with_reducible refine gT ?_);(refine aT H ?_;clear H;intro w H;try simp only[nr]at H))|((with_reducible refine gA ?_);(refine bA H ?_;clear H;intro b w H;try simp only[nr]at H))|((with_reducible refine gZ ?_);refine nb1 ?_)))
 (refine xc Tryz.results188 H ?_)
 exact⟨rfl,H.below⟩
theorem zGk:∀ (m:Nat) (t:Tree) (p:Option Addr) (n c:Nat) (F:Nat->Prop) (w0:World),zAC t<=m->m<=1000000000000->(∀ b,F b->b<w0.heap.size)->ForestR w0 F p c t.kids->n=t.kids.length ->
  Calls Tryz.prog 159 #[zAQ t.d (.slice p n c)] w0 (Rt (.int .i64 (zAC t)) w0)
 | 0,t,_,_,_,_,_,hm,_,_,_,_=>by have:=zAy t;omega
 | m+1,.mk d ts,p,n,c,F,w0,hm,hm2,hF,h,hn=>by
  have IH:=zGk m;simp only[Tree.kids,Tree.d]at h hn ⊢;obtain⟨xs,h1,h2,rfl⟩:=h.open;rw[List.length_map]at hn;rw[← hn]at h1;have hK:Knows F p n c xs w0:=⟨h1,h2⟩;clear h h1 h2;have H:=Hold.knows hF hK;have hc1:=hK.bound.2.1;have hc2:=hK.bound.2.2;have hp:=hK.at;clear hK;have E:zAC (.mk d (xs.map (·.1)))=1+zAD (xs.map (·.1)):=by simp[zAC]
  rw[E]at hm;have E2:=Lib.hid E;clear E;have HN:=Lib.hid hn;clear hn
  go_enter Tryz.func159,Tryz.ntmps159
  go_wp2_with (first|((with_reducible refine kg 1 ?_);(first|refine kA 1 H ?_|refine kS 1 H ?_|refine kB 1 H ?_);clear H;intro b1 w H;try simp only[nr]at H)|fail)
  go_loopw [3,4] (fun k i wr=>∃ j:Nat,j<=n/\i=.int .i64 j/\k=.int .i64 ((1+zAD ((xs.map (·.1)).take j):Nat):Int)/\Hold w0 wr [.kn F (Knows F p n c xs),.blk b1 (zAO d (.slice p n c)) 28]) (fun _ i _=>n+1 - (intOf i).toNat)
  case atStart=>exact⟨0,by omega,rfl,by simp[zAD],H⟩
  case round =>
   clear H;obtain⟨j,hj,rfl,rfl,H⟩:=hrel
   by_cases hlt:j<n
   ·have dj:decide ((j:Int)<(n:Int))=true:=by simp;omega
    obtain⟨x,hx⟩:∃ x,xs[j]?=some x:=⟨_,List.getElem?_eq_getElem (by rw[← HN.out];exact hlt)⟩
    obtain⟨b,off,rfl⟩:=hp (by rw[← HN.out];omega)
    have hs1:=zCC hx;have HS:=Lib.hid (zJK hx);have hmem:=List.mem_of_getElem? hx;have hcell:∀ V,Knows F (some ⟨b,off,none⟩) n c xs V->∀ k,k<10->V.cell? ⟨b,off+j * 10+k,none⟩=(zAR x)[k]?:=fun V h=>h.cells hx rfl
    have ih:=fun w (hw:∀ b,F b->b<w.heap.size) (hk:Knows F (some ⟨b,off,none⟩) n c xs w)=>IH x.1 x.2.1 _ x.2.2 F w (by omega) (by omega) hw (hk.2 x hmem) rfl
    clear IH hx hmem hp
    generalize zAD ((xs.map (·.1)).take j)=S at *
    go_wp2_with (first|((with_reducible refine gL ?_);refine zAM wtd_ _ _ rfl rfl zAK (zAW x) (hcell _ (H.kn .zero)) ?_)|((with_reducible refine gL ?_);refine aG H ?_)|((with_reducible refine ch (ih _ (H.knlt .zero) (H.kn .zero)) H ?_);clear H;intro w H))
    go_roundw
    case rel=>exact⟨j+1,by omega,by go_num,by rw[HS.out];go_num,H⟩
    case measure=>simp[intOf];omega
   ·have dj:decide ((j:Int)<(n:Int))=false:=by simp;omega
    obtain rfl:j=n:=by omega
    go_wp2_with (first|((with_reducible refine gL ?_);refine aG H ?_))
    go_ret;exact⟨reti (by rw[E2.out,List.take_of_length_le (by rw[List.length_map,← HN.out];exact Nat.le_refl _)];omega),H.below⟩
theorem zJt (d:NodeD) (p0:Option Addr) (n0 c0:Nat) (t:Tree) (p:Option Addr) (c:Nat) (m:Int) (F:Nat->Prop) (w0:World) (hF:∀ b,F b->b<w0.heap.size) (h:ForestR w0 F p c t.kids) :
  Calls Tryz.prog 189 #[zAQ d (.slice p0 n0 c0),zAQ t.d (.slice p t.kids.length c),.int .i64 m] w0 fun e w'=>zB7 w0 F (zB9 d t m) e w'/\Below w0.heap.size w0 w':=by
 have H:=(Hold.start w0).know F (fun V=>ForestR V F p c t.kids) hF (fun i r h=>by simp at h) (fun V hV=>h.kept hV)
 clear h;simp only[List.nil_append]at H
 go_enter Tryz.func189,Tryz.ntmps189
 go_wp2_with (first|((with_reducible refine gBS ?_);refine zAY wtd_ _ _ _ rfl H (zAO (t.d) (.slice p t.kids.length c)) 28 (by intro W;simp only[ml];(try simp only[pe]);exact zBQ _ _ W) ?_;clear H;intro bk w H;try simp only[nr]at H)|(first|((with_reducible refine gT ?_);(refine aT H ?_;clear H;intro w H;try simp only[nr]at H))|((with_reducible refine gL ?_);(first|refine aG H ?_|refine aD H ?_))|((with_reducible refine gX ?_);(refine bB H ?_;clear H;intro b w H;try simp only[nr]at H))|((with_reducible refine gA ?_);(refine bA H ?_;clear H;intro b w H;try simp only[nr]at H))|((with_reducible refine gZ ?_);refine nbA ?_)))
 (refine xc Tryz.results189 H ?_)
 have hb:=(H.blk (i:=4) i_4).1;have H2:=H.kid (i:=4) (k:=0) i_4 .zero;exact⟨⟨some ⟨bk,0,none⟩,1,_,rfl,(H2.all 5 _ rfl).2 _ (fun _ _=>rfl),fun z hz=>⟨(H2.all 5 _ rfl).1 z hz,hz.elim (fun e=>.inl (by subst e;exact hb.elim id False.elim)) .inr⟩⟩,H.below⟩
theorem zJU (k q:Int) (p:Option Addr) (c n:Nat) (F:Nat->Prop) (ts:List Tree) (w0:World) (hF:∀ b,F b->b<w0.heap.size) (h:ForestR w0 F p c ts) (hn:n=ts.length) :
  Calls Tryz.prog 162 #[.int .i64 k,.slice p n c,zAQ {kind:=q} nilS] w0 fun e w'=>zB7 w0 F (rowN k ts (zBj q)) e w'/\Below w0.heap.size w0 w':=by
 obtain⟨xs,h1,h2,rfl⟩:=h.open;rw[List.length_map]at hn;rw[← hn]at h1;have hK:Knows F p n c xs w0:=⟨h1,h2⟩;clear h h1 h2;have H:=Hold.knows hF hK;have hc1:=hK.bound.2.1;have hc2:=hK.bound.2.2;have hp:=hK.at;rcases xs with _|⟨x,_|⟨y,xs⟩⟩
 ·obtain rfl:n=0:=hn;clear hp
  go_enter Tryz.func162,Tryz.ntmps162
  go_wp2_with (first|(first|((with_reducible refine gT ?_);(refine aT H ?_;clear H;intro w H;try simp only[nr]at H))|((with_reducible refine gL ?_);refine aD H ?_)|((with_reducible refine gX ?_);(refine bB H ?_;clear H;intro b w H;try simp only[nr]at H))|((with_reducible refine gA ?_);(refine bA H ?_;clear H;intro b w H;try simp only[nr]at H))))
  (refine xc Tryz.results162 H ?_)
  exact⟨⟨none,0,fun _=>False,rfl,ForestR.nil ..,fun _ h=>h.elim⟩,H.below⟩
 ·obtain rfl:n=1:=hn;obtain⟨b,off,rfl⟩:=hp (by simp)
  clear hp;have hcell:∀ V,Knows F (some ⟨b,off,none⟩) 1 c [x] V->∀ k,k<10->V.cell? ⟨b,off+k,none⟩=(zAR x)[k]?:=fun V h=>h.cells (j:=0) rfl rfl
  go_enter Tryz.func162,Tryz.ntmps162
  go_wp2_with (first|((with_reducible refine gL ?_);refine zAM wtd_ _ _ rfl rfl zAK (zAW x) (hcell _ (H.kn .zero)) ?_)|(first|((with_reducible refine gT ?_);(refine aT H ?_;clear H;intro w H;try simp only[nr]at H))|((with_reducible refine gX ?_);(refine bB H ?_;clear H;intro b w H;try simp only[nr]at H))|((with_reducible refine gA ?_);(refine bA H ?_;clear H;intro b w H;try simp only[nr]at H))))
  (refine xc Tryz.results162 H ?_)
  exact⟨⟨_,_,F,rfl,(H.kn (i:=0) .zero).2 x (List.mem_singleton.2 rfl),fun b h=>⟨H.knlt .zero b h,.inr h⟩⟩,H.below⟩
 ·clear hp;have h2:2<=n:=by rw[hn];simp
  have HN:=Lib.hid hn;clear hn;have d0:((n:Int) == 0)=false:=by rw[beq_eq_false_iff_ne];omega
  have d1:((n:Int) == 1)=false:=by rw[beq_eq_false_iff_ne];omega
  go_enter Tryz.func162,Tryz.ntmps162
  go_wp2_with (first|(first|((with_reducible refine gT ?_);(refine aT H ?_;clear H;intro w H;try simp only[nr]at H))|((with_reducible refine gX ?_);(refine bB H ?_;clear H;intro b w H;try simp only[nr]at H))|((with_reducible refine gA ?_);(refine bA H ?_;clear H;intro b w H;try simp only[nr]at H))|((with_reducible refine gZ ?_);refine nbK ?_)))
  (refine xc Tryz.results162 H ?_)
  have e:n=((x::y::xs).map (·.1)).length:=by rw[HN.out,List.length_map]
  refine⟨⟨p,c,F,by rw[e];rfl,?_,fun b h=>⟨H.knlt .zero b h,.inr h⟩⟩,H.below⟩
  have:=H.kn (i:=0) .zero;rw[e]at this;exact this.forest
def zE9 (w:World) (G:Nat->Prop) (ts:List Tree) (e:Ending) (w':World):Prop :=
 ∃ p c F,e=.returned (.slice p ts.length c)/\ForestR w' F p c ts/\∀ b,F b->b<w'.heap.size/\(w.heap.size<=b\/G b)
theorem chl {M:Nat->Prop} {P:Program} {f:FuncId} {args:Array Value} {w w0:World} {l:List Res} {ts:List Tree} {G:Nat->Prop} {R:Ending->World->Prop} (c:Calls P f args w fun e w'=>zE9 w G ts e w'/\Below w.heap.size w w') (H:HoldG M w0 w l) (hG:Still l G)
  (k:∀ p n F w',(∀ b,F b->w0.heap.size<=b\/G b)->HoldG M w0 w' (l++[.kn F (fun V=>ForestR V F p n ts)])->R (.returned (.slice p ts.length n)) w'):Calls P f args w R:=c.mono fun _ w' h=>by
 obtain⟨⟨p,n,F,rfl,hs,hF⟩,hb⟩:=h;exact k p n F w' (fun b h=>(hF b h).2.imp (fun h=>Nat.le_trans H.keep.size h) id) (H.learn hb hG hF (fun V hV=>hs.kept hV))
theorem zJg {xs:List TV} {j:Nat} {x:TV} (h:xs[j]?=some x) (i o:Int):zBV ((xs.map (·.1)).take (j+1)) i o=zBV ((xs.map (·.1)).take j) i o++zFh i o x.1:=zL8 (by rw[List.getElem?_map,h];rfl) i o
theorem zLC (xs:List TV) (j:Nat) (i o:Int):(zBV ((xs.map (·.1)).take j) i o).length<=zAD (xs.map (·.1)):=by
 refine Nat.le_trans (zBP _) (Nat.le_trans (zDP _ _ _) ?_)
 conv=>rhs;rw[← List.take_append_drop j (xs.map (·.1)),zAc]
 omega
theorem zFu (xs:List TV):∀ u ∈ zAE (xs.map zAR),u.oneCell'=true:=by
 intro u hu;simp only[zAE,List.map_map,List.mem_flatten,List.mem_map]at hu;obtain⟨l,⟨x,_,rfl⟩,hu⟩:=hu;have:(zAR x).toList.all (·.oneCell')=true:=rfl;exact List.all_eq_true.1 this u hu
def FlatK (F:Nat->Prop) (p:Option Addr) (n c:Nat) (xs xa:List TV) (V:World):Prop:=Knows F p n c xs V/\ListR V F xa
theorem FlatK.kept {F:Nat->Prop} {p:Option Addr} {n c:Nat} {xs xa:List TV} {V W:World} (h:FlatK F p n c xs xa W) (hV:∀ b,F b->V.heap[b]?=W.heap[b]?):FlatK F p n c xs xa V:=⟨h.1.kept hV,h.2.kept hV⟩
theorem zLD (p:Option Addr) (n c:Nat) (i o:Int) (F:Nat->Prop) (ts:List Tree) (w0:World) (hF:∀ b,F b->b<w0.heap.size) (h:ForestR w0 F p c ts) (hn:n=ts.length) (hsz:zAD ts<=1000000000) :
  Calls Tryz.prog 163 #[.slice p n c,.int .i64 i,.int .i64 o] w0 fun e w'=>zE9 w0 F (zBV ts i o) e w'/\Below w0.heap.size w0 w':=by
 obtain⟨i0,hi0,hz0,hz1,hz2⟩:=info_parts zB1;obtain⟨xs,h1,h2,rfl⟩:=h.open;rw[List.length_map]at hn;rw[← hn]at h1;have hK:FlatK F p n c xs [] w0:=⟨⟨h1,h2⟩,ListR.nil _ _⟩;clear h h1 h2;have H:=(Hold.start w0).know F (FlatK F p n c xs []) hF (fun i r h=>by simp at h) (fun V hV=>hK.kept hV)
 have hc1:=hK.1.bound.2.1;have hc2:=hK.1.bound.2.2;have hp:=hK.1.at;have HN:=Lib.hid hn;clear hn hK
 go_enter Tryz.func163,Tryz.ntmps163
 go_wp2_with (first|fail)
 replace H:=H.addNil 28 10;simp only[List.nil_append,List.cons_append]at H
 go_loopw [7,8] (fun v ix wr=>∃ (j:Nat) (xa:List TV),j<=n/\ix=.int .i64 j/\Hid (xa.map (·.1)=zBV ((xs.map (·.1)).take j) i o)/\Hold w0 wr [.kn F (FlatK F p n c xs xa),.row v 28 10 xa.length (zAE (xa.map zAR))]) (fun _ ix _=>n+1 - (intOf ix).toNat)
 case atStart=>exact⟨0,[],by omega,rfl,Lib.hid (by simp[zBV]),H⟩
 case round =>
  clear H;obtain⟨j,xa,hj,rfl,E,H⟩:=hrel;have hla:xa.length<=1000000000:=by
   have h1:=zLC xs j i o;have h2:xa.length=(xa.map (·.1)).length:=(List.length_map ..).symm;rw[h2,E.out];omega
  by_cases hlt:j<n
  ·have dj:decide ((j:Int)<(n:Int))=true:=by simp;omega
   obtain⟨x,hx⟩:∃ x,xs[j]?=some x:=⟨_,List.getElem?_eq_getElem (by rw[← HN.out];exact hlt)⟩
   obtain⟨b,off,rfl⟩:=hp (by rw[← HN.out];omega)
   have hs1:=zCC hx;have hmem:=List.mem_of_getElem? hx;have EF:=Lib.hid (zJg hx i o);have hcell:∀ V,FlatK F (some ⟨b,off,none⟩) n c xs xa V->∀ k,k<10->V.cell? ⟨b,off+j * 10+k,none⟩=(zAR x)[k]?:=fun V h=>h.1.cells hx rfl
   have hkind:∀ V,FlatK F (some ⟨b,off,none⟩) n c xs xa V->V.cell? ⟨b,off+j * 10,none⟩=some (.int .i64 x.1.d.kind):=fun V h=>hcell V h 0 (by omega)
   have hkids:∀ V,FlatK F (some ⟨b,off,none⟩) n c xs xa V->V.cell? ⟨b,off+j * 10+5,none⟩=some (.slice x.2.1 x.1.kids.length x.2.2):=fun V h=>hcell V h 5 (by omega)
   clear hp hx
   by_cases hi:x.1.d.kind=i
   ·have di:(x.1.d.kind == i)=true:=by rw[beq_iff_eq];exact hi
    obtain⟨ys,hy1,hy2,hy3⟩:=((H.kn (i:=0) .zero).1.2 x hmem).open;have hyl:x.1.kids.length=ys.length:=by rw[hy3,List.length_map]
    have hks:ys.length<=1000000000:=by
     have h1:=zBP x.1.kids;have h2:=zCI x.1;omega
    have H1:=H.also F (fun V=>FlatK F (some ⟨b,off,none⟩) n c xs (xa++ys) V/\RdN 10 V F (.slice x.2.1 ys.length x.2.2) (ys.map zAR)) (Still.at (i:=0) .zero) (fun V hV=>⟨⟨((H.kn (i:=0) .zero).1).kept hV,(ListR.append (H.kn (i:=0) .zero).2 hy2).kept hV⟩,hy1.kept hV⟩)
    simp only[ca]at H1;rw[hyl]at hkids;have E2:=Lib.hid (show (xa++ys).map (·.1)=zBV ((xs.map (·.1)).take (j+1)) i o by rw[EF.out,List.map_append,E.out,zFh,if_pos hi,hy3])
    clear H hy1 hy2 hy3 hyl hmem hs1 hi;have H:=H1;clear H1
    go_wp2_with (first|((with_reducible refine gL ?_);refine zAT wtd_ _ _ rfl rfl zAh (hkind _ (H.kn (i:=0) .zero)) ?_)|((with_reducible refine gL ?_);refine zAT wtd_ _ _ rfl rfl zAz (hkids _ (H.kn (i:=0) .zero)) ?_)|(at_builtin;refine zBA rfl _ _ 26 rfl H (i:=1) evd_ evd_ i_1 (H.kn (i:=2) i_2).2 (zBS _) Tryz.underlying26 hi0 hz0 hz1 hz2 rfl (by decide) (zFu _) (by unfold maxLen;omega) (by omega) ?_;clear H;intro v2 w H;try simp only[nr]at H)|fail)
    have H2:=(H.also F (FlatK F (some ⟨b,off,none⟩) n c xs (xa++ys)) (Still.at (i:=2) i_2) (fun V hV=>((H.kn (i:=2) i_2).1).kept hV)).pick [3,1] [.kn F (FlatK F (some ⟨b,off,none⟩) n c xs (xa++ys)),.row v2 28 10 (xa.length+ys.length) (zAE (xa.map zAR)++zAE (ys.map zAR))] (by decide) rfl
    go_roundw
    case rel=>exact⟨j+1,xa++ys,by omega,by go_num,E2,by rw[List.length_append,List.map_append,zAo];exact H2⟩
    case measure=>simp[intOf];omega
   ·have di:(x.1.d.kind == i)=false:=by rw[beq_eq_false_iff_ne];exact hi
    by_cases ho:x.1.d.kind=o
    ·have do_:(x.1.d.kind == o)=true:=by rw[beq_iff_eq];exact ho
     have E2:=Lib.hid (show xa.map (·.1)=zBV ((xs.map (·.1)).take (j+1)) i o by rw[EF.out,E.out,zFh,if_neg hi,if_pos ho,List.append_nil])
     clear hmem hs1 hi ho
     go_wp2_with (first|((with_reducible refine gL ?_);refine zAT wtd_ _ _ rfl rfl zAh (hkind _ (H.kn (i:=0) .zero)) ?_)|fail)
     go_roundw
     case rel=>exact⟨j+1,xa,by omega,by go_num,E2,H⟩
     case measure=>simp[intOf];omega
    ·have do_:(x.1.d.kind == o)=false:=by rw[beq_eq_false_iff_ne];exact ho
     have E2:=Lib.hid (show (xa++[x]).map (·.1)=zBV ((xs.map (·.1)).take (j+1)) i o by rw[EF.out,List.map_append,E.out,zFh,if_neg hi,if_neg ho];rfl)
     have hL:=fun V (h:FlatK F (some ⟨b,off,none⟩) n c xs xa V)=>(show ListR V F (xa++[x]) from ListR.append h.2 (fun y hy=>by rw[List.mem_singleton]at hy;subst hy;exact h.1.2 _ hmem))
     clear hs1 hi ho
     go_wp2_with (first|((with_reducible refine gL ?_);refine zAT wtd_ _ _ rfl rfl zAh (hkind _ (H.kn (i:=0) .zero)) ?_)|((with_reducible refine gL ?_);refine zAM wtd_ _ _ rfl rfl zAK (zAW x) (hcell _ (H.kn (i:=0) .zero)) ?_)|(at_builtin;refine zAk rfl _ _ 26 rfl H evd_ rfl atd_ atd_ Tryz.underlying26 hi0 hz0 hz1 hz2 rfl (by decide) rfl rfl (by unfold maxLen;omega) (by omega) ?_;clear H;intro v2 w H;try simp only[nr]at H)|((with_reducible refine gBS ?_);refine zAY wtd_ _ _ _ rfl H (zAO (x.1.d) (.slice x.2.1 x.1.kids.length x.2.2)) 28 (by intro W;simp only[ml];(try simp only[pe]);exact zBQ _ _ W) ?_;clear H;intro bk w H;try simp only[nr]at H)|fail)
     have H2:=(H.also F (FlatK F (some ⟨b,off,none⟩) n c xs (xa++[x])) (Still.at (i:=0) .zero) (fun V hV=>FlatK.kept ⟨(H.kn (i:=0) .zero).1,hL _ (H.kn (i:=0) .zero)⟩ hV)).pick [3,1] [.kn F (FlatK F (some ⟨b,off,none⟩) n c xs (xa++[x])),.row v2 28 10 (xa.length+1) (zAE (xa.map zAR)++(zAR x).toList)] (by decide) rfl
     go_roundw
     case rel=>exact⟨j+1,xa++[x],by omega,by go_num,E2,by rw[List.length_append,List.map_append,zAo,List.length_singleton,List.map_singleton,zJw];exact H2⟩
     case measure=>simp[intOf];omega
  ·have dj:decide ((j:Int)<(n:Int))=false:=by simp;omega
   have E2:xa.map (·.1)=zBV (xs.map (·.1)) i o:=by rw[E.out,List.take_of_length_le (by rw[List.length_map,← HN.out];omega)]
   have EL:=Lib.hid E2;clear E2;obtain⟨q,cap,rfl,_,_,_⟩:=H.rowShape (i:=1) i_1;obtain⟨G,hG,H2⟩:=H.rowForest (i:=1) (xs:=xa) (K:=F) i_1 rfl (Still.at (i:=0) .zero) (H.kn (i:=0) .zero).2;clear H;have H:=H2;clear H2;simp only[sc]at H
   go_wp2_with (first|fail)
   go_ret;refine⟨?_,H.below⟩;rw[← EL.out];exact⟨q,cap,G,by rw[List.length_map];rfl,H.kn (i:=1) i_1,fun b h=>⟨H.knlt (i:=1) i_1 b h,hG b h⟩⟩
end
end Go.Proofs.YtalggmbdpmdcbaaGreat
