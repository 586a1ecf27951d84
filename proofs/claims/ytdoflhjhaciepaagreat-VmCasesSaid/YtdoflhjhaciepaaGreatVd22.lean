/-
  Laws of walks, and walks.
-/
import Derived.Test.YtdoflhjhaciepaaGreatVd15
import Derived.Test.YtdoflhjhaciepaaGreatVd20
import Derived.Test.YtdoflhjhaciepaaGreatVd21
import Derived.Test.YtdoflhjhaciepaaGreatVd17
import Derived.Test.YtdoflhjhaciepaaGreatVd19
set_option linter.unusedVariables false
set_option linter.unusedSimpArgs false
set_option maxRecDepth 100000
set_option maxHeartbeats 16000000
namespace Go.Proofs.YtdoflhjhaciepaaGreat
section
open Go.RowKit Go.Shelf
attribute [local go_sem] Oper.semAt_some
theorem zRy (w0:World):Calls Tryz.prog 130 #[.int .u8 123] w0 (Rt (setV (ofS [123])) w0):=zER 123 (by omega) w0
theorem zL3 {L:Str} {i lo e:Nat} {hi:Int} (h:zBg L i=some (lo,hi,e)) (hi2:i<L.length):lo≤101 ∧ -1≤hi∧hi≤101∧i+2≤e∧e≤L.length:=by
 unfold zBg at h;split at h
 ·cases h
 ·rename_i n k hn;have h1:=zDD hn (by omega)
  split at h
  ·rename_i ha;have:=zET ha (by simp)
   simp at this
   cases h
   omega
  ·split at h
   ·rename_i ha;have h2:=zET ha (by simp)
    simp at h2;split at h
    ·cases h
    ·rename_i m e' hm;have h3:=zDD hm (by omega)
     split at h
     ·rename_i hb;have h4:=zET hb (by simp)
      simp at h4
      cases h
      omega
     ·cases h
   ·split at h
    ·rename_i hb;have h4:=zET hb (by simp)
     simp at h4
     cases h
     omega
    ·cases h
theorem zQ6 {L:Str} {i:Nat} (h:atP L i [40,63]=true):byt L i=40:=by
 by_cases hc:byt L i=40
 ·exact hc
 by_cases hi:i<L.length
 ·rw[at2 hi hc]at h;cases h
 ·have:=zET h (by simp);simp at this;omega
theorem zO0 (L:Str) (i:Nat) (hL:L.length≤2000) (hi:i<L.length) (w0:World):Calls Tryz.prog 104 #[.string ⟨L.toArray⟩,.int .i64 i] w0 fun e w'=>RepR (zBK L i) e∧Below w0.heap.size w0 w':=by
 have H:=Hold.start w0;have hbl:=zCf L i
 by_cases hc:byt L i=92
 ·have hf:=fun w=>zNI L i hL hi w
  have hw:=w_92 hc;have hsg:∀ w,Calls Tryz.prog 123 #[.int .u8 92,.int .i64 i] w (Rt (zCs {kind:=0,place:=i}) w):=fun w=>zF9 92 i (by omega) w
  cases hs:zCT L i with
  | none =>
   rw[hs]at hf hw;simp only[WordR]at hf;have E:=Lib.hid (show zBK L i=.error 4 by rw[hw];rfl);clear hw hs
   go_enter Tryz.func104,Tryz.ntmps104
   go_wp2_with (first|(first|((with_reducible refine gT ?_);(refine aT H ?_;clear H;intro w H;try simp only[nr]at H))|((with_reducible refine gL ?_);refine aD H ?_)|((with_reducible refine gA ?_);(refine bA H ?_;clear H;intro b w H;try simp only[nr]at H))|((with_reducible refine gI ?_);refine aI ?_))|((with_reducible refine ch (hsg _) H ?_);clear H;intro w H)|(go_at_call 124;(with_reducible refine(hf _).mono ?_);rintro e w ⟨⟨wd,rfl⟩,hb⟩;replace H:=H.call hb;clear hb))
   (refine xctt Tryz.results104 H ?_)
   exact⟨RepR.no (w:=wd) E.out,H.below⟩
  | some p =>
   obtain⟨d,k⟩:=p;rw[hs]at hf hw;simp only[WordR]at hf;have E:=Lib.hid (show zBK L i=.ok (d,k) by rw[hw];rfl);clear hw hs
   have dk:decide ((k:Int)<0)=false:=by simp
   go_enter Tryz.func104,Tryz.ntmps104
   go_wp2_with (first|(first|((with_reducible refine gT ?_);(refine aT H ?_;clear H;intro w H;try simp only[nr]at H))|((with_reducible refine gL ?_);refine aD H ?_)|((with_reducible refine gA ?_);(refine bA H ?_;clear H;intro b w H;try simp only[nr]at H))|((with_reducible refine gI ?_);refine aI ?_))|((with_reducible first|refine ch (hsg _) H ?_|refine ch (hf _) H ?_);clear H;intro w H))
   (refine xctt Tryz.results104 H ?_)
   exact⟨RepR.ok (w:=d) E.out,H.below⟩
 have n92:((byt L i:Int) == 92)=false:=by rw[beq_eq_false_iff_ne];omega
 have m92:=Lib.hid hc;clear hc
 by_cases hc:byt L i=91
 ·have hf:=fun w=>zOP L i hL hi w
  have hw:=w_91 hc;have hsg:∀ w,Calls Tryz.prog 123 #[.int .u8 91,.int .i64 i] w (Rt (zCs {kind:=0,place:=i}) w):=fun w=>zF9 91 i (by omega) w
  cases hs:zB4 L i with
  | none =>
   rw[hs]at hf hw;simp only[WordR]at hf;have E:=Lib.hid (show zBK L i=.error 4 by rw[hw];rfl);clear hw hs
   go_enter Tryz.func104,Tryz.ntmps104
   go_wp2_with (first|(first|((with_reducible refine gT ?_);(refine aT H ?_;clear H;intro w H;try simp only[nr]at H))|((with_reducible refine gL ?_);refine aD H ?_)|((with_reducible refine gA ?_);(refine bA H ?_;clear H;intro b w H;try simp only[nr]at H))|((with_reducible refine gI ?_);refine aI ?_))|((with_reducible refine ch (hsg _) H ?_);clear H;intro w H)|(go_at_call 125;(with_reducible refine(hf _).mono ?_);rintro e w ⟨⟨wd,rfl⟩,hb⟩;replace H:=H.call hb;clear hb))
   (refine xctt Tryz.results104 H ?_)
   exact⟨RepR.no (w:=wd) E.out,H.below⟩
  | some p =>
   obtain⟨d,k⟩:=p;rw[hs]at hf hw;simp only[WordR]at hf;have E:=Lib.hid (show zBK L i=.ok (d,k) by rw[hw];rfl);clear hw hs
   have dk:decide ((k:Int)<0)=false:=by simp
   go_enter Tryz.func104,Tryz.ntmps104
   go_wp2_with (first|(first|((with_reducible refine gT ?_);(refine aT H ?_;clear H;intro w H;try simp only[nr]at H))|((with_reducible refine gL ?_);refine aD H ?_)|((with_reducible refine gA ?_);(refine bA H ?_;clear H;intro b w H;try simp only[nr]at H))|((with_reducible refine gI ?_);refine aI ?_))|((with_reducible first|refine ch (hsg _) H ?_|refine ch (hf _) H ?_);clear H;intro w H))
   (refine xctt Tryz.results104 H ?_)
   exact⟨RepR.ok (w:=d) E.out,H.below⟩
 have n91:((byt L i:Int) == 91)=false:=by rw[beq_eq_false_iff_ne];omega
 have m91:=Lib.hid hc;clear hc
 by_cases hc:byt L i=123
 ·have ha:atP L i [40,63]=false:=at2 hi (fun h=>by omega)
  have hat:=fun w=>zDV L [40,63] i hL (by simp) (by simp) (by omega) w
  rw[ha]at hat;clear ha;have hf:=fun w=>zLw L i hL hi w
  have hw:=zSU hc;have hsg:∀ w,Calls Tryz.prog 123 #[.int .u8 123,.int .i64 i] w (Rt (zCs {kind:=0,place:=i}) w):=fun w=>zF9 123 i (by omega) w
  cases hs:zBg L i with
  | none =>
   rw[hs]at hf hw;simp only[brW,Option.map_none,WordR]at hf hw;have E:=Lib.hid hw;clear hw hs
   go_enter Tryz.func104,Tryz.ntmps104
   go_wp2_with (first|((with_reducible show @wpList _ _ _ ({dst:=_,op:=Op.build _ #[(0,Operand.const (Value.int IntKind.i64 1)),(1,_),(2,_)],type:=_,pos:=_,after:=_,guard:=_}::_) _ _);refine zD8 wtd_ rfl rfl (by (try simp only[pe]);with_reducible rfl) ?_)|(first|((with_reducible refine gT ?_);(refine aT H ?_;clear H;intro w H;try simp only[nr]at H))|((with_reducible refine gL ?_);refine aD H ?_)|((with_reducible refine gA ?_);(refine bA H ?_;clear H;intro b w H;try simp only[nr]at H))|((with_reducible refine gI ?_);refine aI ?_))|((with_reducible first|refine ch (hsg _) H ?_|refine ch (hat _) H ?_);clear H;intro w H)|(go_at_call 128;(with_reducible refine(hf _).mono ?_);rintro e w ⟨⟨wd,rfl⟩,hb⟩;replace H:=H.call hb;clear hb)|((with_reducible refine ch (zRy _) H ?_);clear H;intro w H))
   (refine xctt Tryz.results104 H ?_)
   exact⟨RepR.ok (w:={kind:=1,place:=i,set:=ofS [123]}) E.out,H.below⟩
  | some p =>
   obtain⟨lo,hi3,e⟩:=p;have hk:=zL3 hs hi;rw[hs]at hf hw;simp only[brW,Option.map_some,WordR]at hf hw;clear hs;have dk:decide (0≤(e:Int))=true:=by simp
   have hw2:=hw;clear hw;have hw:=hw2;have hr:=fun w=>zHz L i e lo hi3 hL (by omega) (by omega) (by omega) w
   cases hp:zA5 L i lo hi3 e with
   | error x =>
    rw[hp]at hr hw;simp only[RepR]at hr;have E:=Lib.hid hw;clear hw hp
    go_enter Tryz.func104,Tryz.ntmps104
    go_wp2_with (first|((with_reducible show @wpList _ _ _ ({dst:=_,op:=Op.build _ #[(0,Operand.const (Value.int IntKind.i64 1)),(1,_),(2,_)],type:=_,pos:=_,after:=_,guard:=_}::_) _ _);refine zD8 wtd_ rfl rfl (by (try simp only[pe]);with_reducible rfl) ?_)|(first|((with_reducible refine gT ?_);(refine aT H ?_;clear H;intro w H;try simp only[nr]at H))|((with_reducible refine gL ?_);refine aD H ?_)|((with_reducible refine gA ?_);(refine bA H ?_;clear H;intro b w H;try simp only[nr]at H))|((with_reducible refine gI ?_);refine aI ?_))|((with_reducible first|refine ch (hsg _) H ?_|refine ch (hat _) H ?_|refine ch (hf _) H ?_);clear H;intro w H)|(go_at_call 129;(with_reducible refine(hr _).mono ?_);rintro e w ⟨⟨wd,kk,rfl⟩,hb⟩;replace H:=H.call hb;clear hb))
    (refine xctt Tryz.results104 H ?_)
    exact⟨RepR.no (w:=wd) E.out,H.below⟩
   | ok p =>
    obtain⟨d,k⟩:=p;rw[hp]at hr hw;simp only[RepR]at hr;have E:=Lib.hid hw;clear hw hp
    go_enter Tryz.func104,Tryz.ntmps104
    go_wp2_with (first|((with_reducible show @wpList _ _ _ ({dst:=_,op:=Op.build _ #[(0,Operand.const (Value.int IntKind.i64 1)),(1,_),(2,_)],type:=_,pos:=_,after:=_,guard:=_}::_) _ _);refine zD8 wtd_ rfl rfl (by (try simp only[pe]);with_reducible rfl) ?_)|(first|((with_reducible refine gT ?_);(refine aT H ?_;clear H;intro w H;try simp only[nr]at H))|((with_reducible refine gL ?_);refine aD H ?_)|((with_reducible refine gA ?_);(refine bA H ?_;clear H;intro b w H;try simp only[nr]at H))|((with_reducible refine gI ?_);refine aI ?_))|((with_reducible first|refine ch (hsg _) H ?_|refine ch (hat _) H ?_|refine ch (hf _) H ?_|refine ch (hr _) H ?_);clear H;intro w H))
    (refine xctt Tryz.results104 H ?_)
    exact⟨RepR.ok (w:=d) E.out,H.below⟩
 have m123:=Lib.hid hc;clear hc
 cases hq:atP L i [40,63] with
 | false=>exact zID hL hi m92.out m91.out m123.out hq w0
 | true =>
  have hc:byt L i=40:=zQ6 hq;have hat:=fun w=>zDV L [40,63] i hL (by simp) (by simp) (by omega) w
  have ha:atP L (i+1) [63]=true:=by rw[← at2' hi hc];exact hq
  rw[hq]at hat;clear hq m123;have hl:=zET ha (by simp)
  simp only[List.length_cons,List.length_nil,Nat.zero_add]at hl;have hf:=fun w=>zNg L i hL (by omega) w
  have hw:=w_40 hc;rw[ha,if_pos rfl]at hw;clear ha;have hsg:∀ w,Calls Tryz.prog 123 #[.int .u8 40,.int .i64 i] w (Rt (zCs {kind:=6,place:=i}) w):=fun w=>zF9 40 i (by omega) w
  cases hs:zBx L i with
  | none =>
   rw[hs]at hf hw;simp only[WordR]at hf;have E:=Lib.hid (show zBK L i=.error 4 by rw[hw];rfl);clear hw hs
   go_enter Tryz.func104,Tryz.ntmps104
   go_wp2_with (first|(first|((with_reducible refine gT ?_);(refine aT H ?_;clear H;intro w H;try simp only[nr]at H))|((with_reducible refine gL ?_);refine aD H ?_)|((with_reducible refine gA ?_);(refine bA H ?_;clear H;intro b w H;try simp only[nr]at H))|((with_reducible refine gI ?_);refine aI ?_))|((with_reducible first|refine ch (hsg _) H ?_|refine ch (hat _) H ?_);clear H;intro w H)|(go_at_call 127;(with_reducible refine(hf _).mono ?_);rintro e w ⟨⟨wd,rfl⟩,hb⟩;replace H:=H.call hb;clear hb))
   (refine xctt Tryz.results104 H ?_)
   exact⟨RepR.no (w:=wd) E.out,H.below⟩
  | some p =>
   obtain⟨d,k⟩:=p;rw[hs]at hf hw;simp only[WordR]at hf;have E:=Lib.hid (show zBK L i=.ok (d,k) by rw[hw];rfl);clear hw hs
   have dk:decide ((k:Int)<0)=false:=by simp
   go_enter Tryz.func104,Tryz.ntmps104
   go_wp2_with (first|(first|((with_reducible refine gT ?_);(refine aT H ?_;clear H;intro w H;try simp only[nr]at H))|((with_reducible refine gL ?_);refine aD H ?_)|((with_reducible refine gA ?_);(refine bA H ?_;clear H;intro b w H;try simp only[nr]at H))|((with_reducible refine gI ?_);refine aI ?_))|((with_reducible first|refine ch (hsg _) H ?_|refine ch (hat _) H ?_|refine ch (hf _) H ?_);clear H;intro w H))
   (refine xctt Tryz.results104 H ?_)
   exact⟨RepR.ok (w:=d) E.out,H.below⟩
theorem zRM (L:Str) (h:L.length≤1000):zJe L:=fun i hi w=>zO0 L i (by omega) hi w
end
section
open Go.RowKit Go.Shelf

theorem zOw (L:Str) (w0:World):Calls Tryz.prog 13 #[.string ⟨L.toArray⟩] w0 fun e w'=>zIn w0 (zEe L) e w'∧Below w0.heap.size w0 w':=zJo L (zRM L) w0
end
section
open Go.RowKit Go.Shelf
attribute [local go_sem] Oper.semAt_some
theorem zDm (n m:Int) (w0:World):Calls Tryz.prog 14 #[.int .i64 n,.int .i64 m] w0 (Rt (zAu {kind:=2,next:=n,other:=m}) w0):=by
 have H:=Hold.start w0
 go_enter Tryz.func14,Tryz.ntmps14
 go_wp2_with (first|(first|((with_reducible refine gTi ?_);refine aTi H ?_;clear H;intro w H;try simp only[nr]at H)|((with_reducible refine gBi ?_);refine ib3 ?_)|((with_reducible refine gA ?_);(refine bA H ?_;clear H;intro b w H;try simp only[nr]at H))))
 refine zKK Tryz.results14 rfl H (i:=0) .zero zAk (by rfl) rfl ?_
 exact⟨rfl,H.below⟩
theorem zE8 (n m:Int) (w0:World):Calls Tryz.prog 15 #[.int .i64 n,.int .i64 m] w0 (Rt (zAu {kind:=3,slot:=n,next:=m}) w0):=by
 have H:=Hold.start w0
 go_enter Tryz.func15,Tryz.ntmps15
 go_wp2_with (first|(first|((with_reducible refine gTi ?_);refine aTi H ?_;clear H;intro w H;try simp only[nr]at H)|((with_reducible refine gBi ?_);refine ib4 ?_)|((with_reducible refine gA ?_);(refine bA H ?_;clear H;intro b w H;try simp only[nr]at H))))
 refine zKK Tryz.results15 rfl H (i:=0) .zero zAk (by rfl) rfl ?_
 exact⟨rfl,H.below⟩
def aabL:Str:=[97,97,98]
def aabC:Array Value:=#[.int .u8 97,.int .u8 97,.int .u8 98]
theorem zMO:∃ d,(zEe [97])[1]?=some d:=by
 have h:((zEe [97])[1]?).isSome=true:=by decide +kernel
 exact Option.isSome_iff_exists.1 h
def digC:Array Value:=#[.int .u8 97,.int .u8 98,.int .u8 10]
theorem zRv {m:Nat} (h:m<3):∃ x:UInt8,digC[m]?=some (.int .u8 x.toNat):=by
 match m,h with
 | 0,_=>exact⟨97,rfl⟩
 | 1,_=>exact⟨98,rfl⟩
 | 2,_=>exact⟨10,rfl⟩
theorem zJl (hmade:∀ (L:Str) (w0:World),Calls Tryz.prog 13 #[.string ⟨L.toArray⟩] w0 fun e w'=>zIn w0 (zEe L) e w'∧Below w0.heap.size w0 w') (w0:World) :
  Calls Tryz.prog 4 #[] w0 (Rt (.bool true) w0):=by
 have H:=Hold.start w0;obtain⟨i0,hi0,hz0,hz1,hz2⟩:=info_parts zH9
 go_enter Tryz.func4,Tryz.ntmps4
 go_wp2_with (first|((with_reducible show @wpList _ _ _ ({dst:=_,op:=Op.buildSlice _ 27 _,type:=_,pos:=_,after:=_,guard:=_}::_) _ _);refine zAL wtd_ _ _ _ rfl H texC 9 (by intro W;kernel_rfl) ?_;clear H;intro bt w H;simp only[List.nil_append]at H)|fail)
 go_loopw [2] (fun k wr=>∃ i:Nat,k=.int .i64 i∧i≤27∧Hold w0 wr [.blk bt texC 9]) (fun k _=>28 - (intOf k).toNat)
 case atStart=>exact⟨0,rfl,by omega,H⟩
 case round =>
  clear H;obtain⟨i,rfl,hi,H⟩:=hrel
  by_cases hlt:i<27
  ·have di:decide ((i:Int)<27)=true:=by simp;omega
   obtain⟨L,hL⟩:=zSD hlt;have hm:=hmade L;have hset:=zHV L;obtain⟨ps,hps⟩:∃ ps,zEe L=ps:=⟨_,rfl⟩;rw[hps]at hm hset;clear hps
   go_wp2_with (first|((with_reducible refine gIA ?_);refine zAZ wtd_ (zIX Tryz.underlying35 (fun w=>by kernel_rfl) rfl evd_ evd_ hlt) ?_)|((with_reducible refine gL ?_);refine zAJ wtd_ _ _ rfl rfl zIY ((H.cell (i:=0) .zero i).trans hL) ?_)|(go_at_call 13;refine zOK (hm _) H ?_;clear H;intro q n F w hF H;clear hF;simp only[ca]at H)|fail)
   go_loopw [4] (fun k wr=>∃ j:Nat,k=.int .i64 j∧j≤243∧Hold w0 wr [.blk bt texC 9,.kn F (InstsR F q n ps)]) (fun k _=>244 - (intOf k).toNat)
   case atStart=>exact⟨0,rfl,by omega,H⟩
   case round =>
    clear H;obtain⟨k,rfl,hk,H⟩:=hrel
    by_cases hkt:k<243
    ·have dk:decide ((k:Int)<243)=true:=by simp;omega
     go_wp2_with (first|fail)
     replace H:=H.addNil 5 1;simp only[ca]at H
     go_loopw [5,6] (fun v k wr=>∃ (j c:Nat) (qs:Option Addr) (S:Str),k=.int .i64 j∧v=.slice qs S.length c∧S.length+j≤243∧Hold w0 wr [.blk bt texC 9,.kn F (InstsR F q n ps),.row (.slice qs S.length c) 5 1 S.length (S.map fun b=>.int .u8 b.toNat)]) (fun _ k _=>(intOf k).toNat+1)
     case atStart=>exact⟨k,0,none,[],rfl,rfl,by simp;omega,H⟩
     case round =>
      clear H;obtain⟨j,c,qs,S,rfl,rfl,hS,H⟩:=hrel
      by_cases hj0:0<j
      ·have dj:decide (0<(j:Int))=true:=by simp;omega
       obtain⟨m,hmq⟩:∃ m,j % 3=m:=⟨_,rfl⟩;have hm3:m<3:=by omega
       obtain⟨x,hx⟩:=zRv hm3;have hmod:Int.tmod (j:Int) 3=(m:Int):=by rw[Int.tmod_eq_emod_of_nonneg (by omega)];omega
       obtain⟨j2,hj2⟩:∃ j2,j / 3=j2:=⟨_,rfl⟩;have hquo:Int.tdiv (j:Int) 3=(j2:Int):=by rw[Int.tdiv_eq_ediv_of_nonneg (by omega)];omega
       have hj3:j2<j:=by omega
       clear hmq hj2
       go_wp2_with (first|((with_reducible show @wpList _ _ _ ({dst:=_,op:=Op.buildSlice _ 3 _,type:=_,pos:=_,after:=_,guard:=_}::_) _ _);refine zAL wtd_ _ _ _ rfl H digC 5 (by intro W;kernel_rfl) ?_;clear H;intro bd w H;simp only[ca]at H)|((with_reducible refine gIA ?_);refine zAZ wtd_ (zIX Tryz.underlying23 (fun w=>by kernel_rfl) rfl evd_ evd_ hm3) ?_)|((with_reducible refine gL ?_);refine zAJ wtd_ _ _ rfl rfl zB0 ((H.cell (i:=3) i_3 m).trans hx) ?_)|((with_reducible show @wpList _ _ _ ({dst:=_,op:=Op.buildSlice _ 1 _,type:=_,pos:=_,after:=_,guard:=_}::_) _ _);refine zAL wtd_ _ _ _ rfl H #[.int .u8 x.toNat] 5 (by intro W;simp only[ml];(try simp only[pe]);kernel_rfl) ?_;clear H;intro be w H;simp only[ca]at H)|(at_builtin;refine zAX rfl _ _ 23 rfl H (i:=2) (j:=4) evd_ rfl i_2 i_4 Tryz.underlying23 hi0 hz0 hz1 hz2 rfl (by decide) rfl rfl (by unfold maxLen;omega) (by omega) ?_;clear H;intro v2 w H;simp only[sc]at H;(obtain⟨q2,c2,rfl,_,_,_⟩:=H.rowShape (i:=2) i_2))|fail)
       go_roundw
       case rel=>exact⟨j2,c2,q2,S++[x],rfl,by rw[List.length_append];rfl,by simp;omega,by rw[List.map_append,List.length_append];exact H.take 3⟩
       case measure=>simp[intOf];omega
      ·have dj:decide (0<(j:Int))=false:=by simp;omega
       have hSL:S.length≤1000:=by omega
       clear hS
       go_wp2_with (first|fail)
       go_loopw [7] (fun k wr=>∃ t:Nat,k=.int .i64 t∧t≤S.length+1∧Hold w0 wr [.blk bt texC 9,.kn F (InstsR F q n ps),.row (.slice qs S.length c) 5 1 S.length (S.map fun b=>.int .u8 b.toNat)]) (fun k _=>S.length+2 - (intOf k).toNat)
       case atStart=>exact⟨0,rfl,by omega,H⟩
       case round =>
        clear H;obtain⟨t,rfl,htl,H⟩:=hrel
        by_cases htt:t≤S.length
        ·have dt:decide ((t:Int)≤(S.length:Int))=true:=by simp;omega
         obtain⟨FS,hFS,hSb⟩:=H.rowBytes (i:=2) i_2;have htc:=zEc q n ps qs c S (t:Int) F FS wr hset hSL (H.knlt (i:=1) i_1) hFS (H.kn (i:=1) i_1) hSb;clear hSb
         go_wp2_with (first|((with_reducible refine ch (htc) H ?_);clear H;intro w H)|fail)
         go_roundw
         case rel=>exact⟨t+1,by go_num,by omega,H⟩
         case measure=>simp[intOf];omega
        ·have dt:decide ((t:Int)≤(S.length:Int))=false:=by simp;omega
         go_wp2_with (first|fail)
         go_roundw
         case rel=>exact⟨k+1,by go_num,by omega,H.take 2⟩
         case measure=>simp[intOf];omega
    ·have dk:decide ((k:Int)<243)=false:=by simp;omega
     go_wp2_with (first|fail)
     go_roundw
     case rel=>exact⟨i+1,by go_num,by omega,H.take 1⟩
     case measure=>simp[intOf];omega
  ·have di:decide ((i:Int)<27)=false:=by simp;omega
   clear hi hlt;obtain⟨psa,hpa⟩:∃ ps,zEe [97]=ps:=⟨_,rfl⟩;have hma:=hmade [97];obtain⟨da,hda,hsa⟩:∃ d,psa[1]?=some d∧zAW d.set:=by
    obtain⟨d,hd⟩:=zMO;exact⟨d,hpa ▸ hd,zHV [97] d (List.mem_of_getElem? hd)⟩
   have hna:1<psa.length:=(List.getElem?_eq_some_iff.1 hda).1;obtain⟨na,hnn⟩:∃ n,psa.length=n:=⟨_,rfl⟩;rw[hpa]at hma;clear hpa;have HOK:=Lib.hid hsa;clear hsa;have hat:∀ (q:Option Addr) (c:Nat) (F:Nat→Prop) (W:World),InstsR F q c psa W→∃ b off,q=some ⟨b,off,none⟩:=fun q c F W h=>h.at (by omega)
   go_upto_region 24 with (first|((with_reducible refine gIA ?_);refine zAZ wtd_ (run_idxS (sz:=9) (i:=1) Tryz.underlying22 (fun w=>by kernel_rfl) rfl evd_ rfl hna rfl) ?_)|((with_reducible refine gLi ?_);refine zAS wtd_ _ _ rfl rfl zAk rfl ((H.kn (i:=1) i_1).cells hda rfl) ?_)|(go_at_call 13;refine zOK (hma _) H ?_;clear H;intro qa n2 Fa w hFa H;simp only[ca]at H;obtain⟨ba,oa,rfl⟩:=hat _ _ _ _ (H.kn (i:=1) i_1))|((with_reducible refine gT ?_);refine zAQ wtd_ _ _ _ rfl rfl evd_ H (i:=2) i_2 rfl (by show 5<9;omega) (by with_reducible exact zAI zAH) ?_;clear H;intro w H;(rw[zDn]at H);try simp only[nr]at H)|((first|((with_reducible refine kgA 8 ?_);refine kA 8 H ?_)|((with_reducible refine kgX 8 ?_);(first|refine kS 8 H ?_|refine kB 8 H ?_)));clear H;intro b8 w H;try simp only[nr]at H)|((first|((with_reducible refine kgA 11 ?_);refine kA 11 H ?_)|((with_reducible refine kgX 11 ?_);(first|refine kS 11 H ?_|refine kB 11 H ?_)));clear H;intro b11 w H;try simp only[nr]at H)|((first|((with_reducible refine kgA 12 ?_);refine kA 12 H ?_)|((with_reducible refine kgX 12 ?_);(first|refine kS 12 H ?_|refine kB 12 H ?_)));clear H;intro b12 w H;try simp only[nr]at H)|(first|((with_reducible refine gTi ?_);refine aTi H ?_;clear H;intro w H;try simp only[nr]at H)|((with_reducible refine gBi ?_);refine ib1 ?_)))
   refine zAr 51 [fun v _=>v=.func (.func 14) #[] #[],fun v W=>IW v W,fun v W=>SW w.heap.size v W,fun v _=>v=.func (.func 14) #[] #[],fun v W=>IW v W,fun v W=>IW v W,fun v W=>SW w.heap.size v W,fun v _=>v=.func (.func 14) #[] #[],fun v W=>IW v W,fun v W=>IW v W,fun v W=>SW w.heap.size v W,fun v W=>IW v W,fun v W=>SW w.heap.size v W,fun v W=>IW v W,fun v W=>SW w.heap.size v W,fun v W=>IW v W,fun v W=>SW w.heap.size v W,fun v _=>v=.func (.func 15) #[] #[],fun v W=>IW v W,fun v _=>v=.func (.func 15) #[] #[],fun v W=>IW v W,fun v W=>SW w.heap.size v W,fun v _=>v=.func (.func 15) #[] #[],fun v W=>IW v W,fun v W=>IW v W,fun v W=>SW w.heap.size v W,fun v _=>v=.func (.func 14) #[] #[],fun v W=>IW v W,fun v W=>IW v W,fun v _=>v=.func (.func 15) #[] #[],fun v W=>IW v W,fun v _=>v=.func (.func 14) #[] #[],fun v W=>IW v W,fun v _=>v=.func (.func 15) #[] #[],fun v W=>IW v W,fun v W=>SW w.heap.size v W,fun v _=>v=.func (.func 14) #[] #[],fun v W=>IW v W,fun v W=>IW v W,fun v _=>v=.func (.func 15) #[] #[],fun v W=>IW v W,fun v W=>IW v W,fun v W=>SW w.heap.size v W,fun v W=>SW w.heap.size v W,fun v W=>IW v W,fun v W=>SW w.heap.size v W,fun v W=>IW v W,fun v W=>IW v W,fun v W=>IW v W,fun v W=>SW w.heap.size v W,fun v W=>GW w.heap.size v W] (fun _=>false) (by kernel_rfl) (by kernel_rfl) (by kernel_rfl) (by repeat (first|exact trivial|refine⟨zAF _,?_⟩|refine⟨zNM,?_⟩|refine⟨zM6 _,?_⟩|refine⟨zNm _,?_⟩)) (fun _ _ h=>by cases h) ?ob ?en
   case ob =>
    refine⟨?_,?_,?_,?_,?_,?_,?_,?_,?_,?_,?_,?_,?_,?_,?_,?_,?_,?_,?_,?_,?_,?_,?_,?_,?_,?_,?_,?_,?_,?_,?_,?_,?_,?_,?_,?_,?_,?_,?_,?_,?_,?_,?_,?_,?_,?_,?_,?_,?_,?_,?_,trivial⟩<;>intro A W h
    ·exact zAB rfl rfl (h.f 9)
    ·exact zCD rfl rfl (enters_of Tryz.func14 (by kernel_rfl) rfl) (h.d 0 62) (zBz ⟨rfl,rfl⟩) (zDm 0 0 W) zAa
    ·exact zEq rfl rfl h.below.size (h.d 1 63)
    ·exact zAB rfl rfl (h.f 9)
    ·exact zCD rfl rfl (enters_of Tryz.func14 (by kernel_rfl) rfl) (h.d 3 65) (zBz ⟨rfl,rfl⟩) (zDm 0 1 W) zAa
    ·exact zCC (d:={kind:=5}) rfl rfl (h.f 11) (zEO ((H.call h.below).blk (i:=3) i_3).2) zAa
    ·exact zFl rfl rfl h.below.size (h.d 4 66) (h.d 5 67)
    ·exact zAB rfl rfl (h.f 9)
    ·exact zCD rfl rfl (enters_of Tryz.func14 (by kernel_rfl) rfl) (h.d 7 69) (zBz ⟨rfl,rfl⟩) (zDm 1 0 W) zAa
    ·exact zCC (d:={kind:=5}) rfl rfl (h.f 11) (zEO ((H.call h.below).blk (i:=3) i_3).2) zAa
    ·exact zFl rfl rfl h.below.size (h.d 8 70) (h.d 9 71)
    ·exact zCC rfl rfl (h.f 8) (zEO ((H.call h.below).blk (i:=2) i_2).2) HOK.out
    ·exact zEq rfl rfl h.below.size (h.d 11 73)
    ·exact zCC (d:={kind:=6}) rfl rfl (h.f 12) (zEO ((H.call h.below).blk (i:=4) i_4).2) zAa
    ·exact zEq rfl rfl h.below.size (h.d 13 75)
    ·exact zCC (d:={kind:=5}) rfl rfl (h.f 11) (zEO ((H.call h.below).blk (i:=3) i_3).2) zAa
    ·exact zEq rfl rfl h.below.size (h.d 15 77)
    ·exact zAB rfl rfl (h.f 10)
    ·exact zCD rfl rfl (enters_of Tryz.func15 (by kernel_rfl) rfl) (h.d 17 79) (zBz ⟨rfl,rfl⟩) (zE8 1 1 W) zAa
    ·exact zAB rfl rfl (h.f 10)
    ·exact zCD rfl rfl (enters_of Tryz.func15 (by kernel_rfl) rfl) (h.d 19 81) (zBz ⟨rfl,rfl⟩) (zE8 1 0 W) zAa
    ·exact zFl rfl rfl h.below.size (h.d 18 80) (h.d 20 82)
    ·exact zAB rfl rfl (h.f 10)
    ·exact zCD rfl rfl (enters_of Tryz.func15 (by kernel_rfl) rfl) (h.d 22 84) (zBz ⟨rfl,rfl⟩) (zE8 3 1 W) zAa
    ·exact zCC (d:={kind:=5}) rfl rfl (h.f 11) (zEO ((H.call h.below).blk (i:=3) i_3).2) zAa
    ·exact zFl rfl rfl h.below.size (h.d 23 85) (h.d 24 86)
    ·exact zAB rfl rfl (h.f 9)
    ·exact zCD rfl rfl (enters_of Tryz.func14 (by kernel_rfl) rfl) (h.d 26 88) (zBz ⟨rfl,rfl⟩) (zDm 2 1 W) zAa
    ·exact zCC (d:={kind:=5}) rfl rfl (h.f 11) (zEO ((H.call h.below).blk (i:=3) i_3).2) zAa
    ·exact zAB rfl rfl (h.f 10)
    ·exact zCD rfl rfl (enters_of Tryz.func15 (by kernel_rfl) rfl) (h.d 29 91) (zBz ⟨rfl,rfl⟩) (zE8 0 3 W) zAa
    ·exact zAB rfl rfl (h.f 9)
    ·exact zCD rfl rfl (enters_of Tryz.func14 (by kernel_rfl) rfl) (h.d 31 93) (zBz ⟨rfl,rfl⟩) (zDm 0 4 W) zAa
    ·exact zAB rfl rfl (h.f 10)
    ·exact zCD rfl rfl (enters_of Tryz.func15 (by kernel_rfl) rfl) (h.d 33 95) (zBz ⟨rfl,rfl⟩) (zE8 2 1 W) zAa
    ·exact zON rfl rfl h.below.size (h.d 27 89) (h.d 28 90) (h.d 30 92) (h.d 32 94) (h.d 34 96)
    ·exact zAB rfl rfl (h.f 9)
    ·exact zCD rfl rfl (enters_of Tryz.func14 (by kernel_rfl) rfl) (h.d 36 98) (zBz ⟨rfl,rfl⟩) (zDm 1 2 W) zAa
    ·exact zCC rfl rfl (h.f 8) (zEO ((H.call h.below).blk (i:=2) i_2).2) HOK.out
    ·exact zAB rfl rfl (h.f 10)
    ·exact zCD rfl rfl (enters_of Tryz.func15 (by kernel_rfl) rfl) (h.d 39 101) (zBz ⟨rfl,rfl⟩) (zE8 0 3 W) zAa
    ·exact zCC (d:={kind:=5}) rfl rfl (h.f 11) (zEO ((H.call h.below).blk (i:=3) i_3).2) zAa
    ·exact zNa rfl rfl h.below.size (h.d 37 99) (h.d 38 100) (h.d 40 102) (h.d 41 103)
    ·exact zMm rfl rfl h.below.size
    ·exact zNc rfl rfl
    ·exact zEq rfl rfl h.below.size (h.d 44 106)
    ·exact zCC rfl rfl (h.f 8) (zEO ((H.call h.below).blk (i:=2) i_2).2) HOK.out
    ·exact zCC rfl rfl (h.f 8) (zEO ((H.call h.below).blk (i:=2) i_2).2) HOK.out
    ·exact zCC (d:={kind:=5}) rfl rfl (h.f 11) (zEO ((H.call h.below).blk (i:=3) i_3).2) zAa
    ·exact zNN rfl rfl h.below.size (h.d 46 108) (h.d 47 109) (h.d 48 110)
    ·exact zPi rfl rfl h.below.size (h.d 2 64) (h.d 6 68) (h.d 10 72) (h.d 12 74) (h.d 14 76) (h.d 16 78) (h.d 21 83) (h.d 25 87) (h.d 35 97) (h.d 42 104) (h.d 43 105) (h.d 45 107) (h.d 49 111)
   case en =>
    intro vals W hbw hv _;have x1:=hv 1 (by omega);simp only[zAh]at x1
    have x2:=hv 2 (by omega);simp only[zAh]at x2
    have x4:=hv 4 (by omega);simp only[zAh]at x4
    have x5:=hv 5 (by omega);simp only[zAh]at x5
    have x6:=hv 6 (by omega);simp only[zAh]at x6
    have x8:=hv 8 (by omega);simp only[zAh]at x8
    have x9:=hv 9 (by omega);simp only[zAh]at x9
    have x10:=hv 10 (by omega);simp only[zAh]at x10
    have x11:=hv 11 (by omega);simp only[zAh]at x11
    have x12:=hv 12 (by omega);simp only[zAh]at x12
    have x13:=hv 13 (by omega);simp only[zAh]at x13
    have x14:=hv 14 (by omega);simp only[zAh]at x14
    have x15:=hv 15 (by omega);simp only[zAh]at x15
    have x16:=hv 16 (by omega);simp only[zAh]at x16
    have x18:=hv 18 (by omega);simp only[zAh]at x18
    have x20:=hv 20 (by omega);simp only[zAh]at x20
    have x21:=hv 21 (by omega);simp only[zAh]at x21
    have x23:=hv 23 (by omega);simp only[zAh]at x23
    have x24:=hv 24 (by omega);simp only[zAh]at x24
    have x25:=hv 25 (by omega);simp only[zAh]at x25
    have x27:=hv 27 (by omega);simp only[zAh]at x27
    have x28:=hv 28 (by omega);simp only[zAh]at x28
    have x30:=hv 30 (by omega);simp only[zAh]at x30
    have x32:=hv 32 (by omega);simp only[zAh]at x32
    have x34:=hv 34 (by omega);simp only[zAh]at x34
    have x35:=hv 35 (by omega);simp only[zAh]at x35
    have x37:=hv 37 (by omega);simp only[zAh]at x37
    have x38:=hv 38 (by omega);simp only[zAh]at x38
    have x40:=hv 40 (by omega);simp only[zAh]at x40
    have x41:=hv 41 (by omega);simp only[zAh]at x41
    have x42:=hv 42 (by omega);simp only[zAh]at x42
    have x43:=hv 43 (by omega);simp only[zAh]at x43
    have x44:=hv 44 (by omega);simp only[zAh]at x44
    have x45:=hv 45 (by omega);simp only[zAh]at x45
    have x46:=hv 46 (by omega);simp only[zAh]at x46
    have x47:=hv 47 (by omega);simp only[zAh]at x47
    have x48:=hv 48 (by omega);simp only[zAh]at x48
    have x49:=hv 49 (by omega);simp only[zAh]at x49
    have x50:=hv 50 (by omega);simp only[zAh]at x50
    simp only[fa,Nat.reduceAdd];rw[e_ hv 0,e_ hv 3,e_ hv 7,e_ hv 17,e_ hv 19,e_ hv 22,e_ hv 26,e_ hv 29,e_ hv 31,e_ hv 33,e_ hv 36,e_ hv 39];clear hv
    try simp only[pl]
    obtain⟨gg,e50,hpr⟩:=GW.progs x50;rw[e50];clear e50 x1 x2 x4 x5 x6 x8 x9 x10 x11 x12 x13 x14 x15 x16 x18 x20 x21 x23 x24 x25 x27 x28 x30 x32 x34 x35 x37 x38 x40 x41 x42 x43 x44 x45 x46 x47 x48 x49 x50;have H2:=H.learn hbw Still.none (fun b hb=>⟨hb.2,.inl hb.1⟩) hpr
    generalize (fun b=>w.heap.size≤b∧b<W.heap.size)=FG at H2
    have H:=H2.pick [5] [.kn FG (zLe gg FG)] (by decide) rfl
    clear H2 hpr hbw HOK
    go_wp2_with (first|fail)
    go_loopw [14] (fun k wr=>∃ i:Nat,k=.int .i64 i∧i≤13∧Hold w0 wr [.kn FG (zLe gg FG)]) (fun k _=>14 - (intOf k).toNat)
    case atStart=>exact⟨0,rfl,by omega,H⟩
    case round =>
     clear H;obtain⟨j,rfl,hj,H⟩:=hrel
     by_cases hjt:j<13
     ·have dj:decide ((j:Int)<13)=true:=by simp;omega
      go_wp2_with (first|fail)
      go_loopw [15] (fun k wr=>∃ z:Int,k=.int .i64 z ∧ -1≤z∧z≤5∧Hold w0 wr [.kn FG (zLe gg FG)]) (fun k _=>(6 - intOf k).toNat)
      case atStart=>exact⟨-1,rfl,by omega,by omega,H⟩
      case round =>
       clear H;obtain⟨z,rfl,hz1,hz2,H⟩:=hrel
       by_cases hzt:z<5
       ·have dz:decide (z<5)=true:=decide_eq_true hzt;obtain⟨qk,ck,pk,hcell,h5,hsk,hik⟩:=(H.kn (i:=0) .zero) j hjt;replace H:=H.also FG (InstsR FG qk ck pk) (Still.at (i:=0) .zero) (fun V hV=>hik.kept hV)
        simp only[ca]at H;clear hik
        go_wp2_with (first|((with_reducible refine gIA ?_);refine zAZ wtd_ (zIX Tryz.underlying45 (fun w=>by kernel_rfl) rfl evd_ evd_ hjt) ?_)|((with_reducible refine gL ?_);refine zAJ wtd_ _ _ rfl rfl zB7 hcell ?_)|((with_reducible show @wpList _ _ _ ({dst:=_,op:=Op.buildSlice _ 3 _,type:=_,pos:=_,after:=_,guard:=_}::_) _ _);refine zAL wtd_ _ _ _ rfl H aabC 5 (by intro W;kernel_rfl) ?_;clear H;intro bd w H;simp only[ca]at H)|((with_reducible refine gCV ?_);refine zFk wtd_ rfl Tryz.underlying23 Tryz.underlying5 H (i:=2) (L:=aabL) rfl i_2 rfl (by decide) ?_;clear H;intro w H;simp only[sc]at H)|(go_at_call 3;(with_reducible refine ch (zKT qk ck pk (some ⟨bd,0,none⟩) aabL.length aabL z FG (·=bd) _ hsk (H.knlt (i:=1) i_1) (H.knlt (i:=2) i_2) (H.kn (i:=1) i_1) (H.kn (i:=2) i_2) (BytesR.rdN (H.kn (i:=2) i_2) (H.knlt (i:=2) i_2) (by decide))) H ?_);clear H;intro w H)|fail)
        go_roundw
        case rel=>exact⟨z+1,rfl,by omega,by omega,H.take 1⟩
        case measure=>simp[intOf];omega
       ·have dz:decide (z<5)=false:=decide_eq_false hzt
        go_wp2_with (first|fail)
        go_roundw
        case rel=>exact⟨j+1,by go_num,by omega,H⟩
        case measure=>simp[intOf];omega
     ·have dj:decide ((j:Int)<13)=false:=by simp;omega
      clear hj hjt hma hda hna hnn hat;have hm1:=hmade [97,42];have hs1:=zHV [97,42];have hm2:=hmade [];have hs2:=zHV [];obtain⟨p1,hp1⟩:∃ ps,zEe [97,42]=ps:=⟨_,rfl⟩;obtain⟨p2,hp2⟩:∃ ps,zEe []=ps:=⟨_,rfl⟩;rw[hp1]at hm1 hs1;rw[hp2]at hm2 hs2;clear hp1 hp2;have ht1:∀ (q:Option Addr) (n:Nat) (F:Nat→Prop) (w:World),(∀ b,F b→b<w.heap.size)→InstsR F q n p1 w→Calls Tryz.prog 9 #[.slice q p1.length n,.slice none 0 0,.int .i64 0] w (Rt (.bool true) w):=fun q n F w h1 h2=>zEc q n p1 none 0 [] 0 F (fun _=>False) w hs1 (by decide) h1 (fun _ h=>h.elim) h2 (RdN.nil ..)
      have ht2:=fun q n F q2 w (G:Nat→Prop) h1 h3 h2 h4=>zEc q n p2 q2 (List.length [120]) [120] 9223372036854775807 F G w hs2 (by decide) h1 h3 h2 h4
      have ht3:=fun q n F q2 w (G:Nat→Prop) h1 h3 h2 h4=>zEc q n p2 q2 (List.length [120]) [120] (-9223372036854775808) F G w hs2 (by decide) h1 h3 h2 h4
      go_wp2_with (first|(go_at_call 13;(with_reducible refine zOK (hm1 _) H ?_);clear H;intro q1 n1 F1 w hF9 H;clear hF9;simp only[ca]at H)|(go_at_call 13;(with_reducible refine zOK (hm2 _) H ?_);clear H;intro q2 n2 F2 w hF9 H;clear hF9;simp only[ca]at H)|((with_reducible show @wpList _ _ _ ({dst:=_,op:=Op.buildSlice _ 1 _,type:=_,pos:=_,after:=_,guard:=_}::_) _ _);refine zAL wtd_ _ _ _ rfl H #[.int .u8 120] 5 (by intro W;kernel_rfl) ?_;clear H;intro bx w H;simp only[ca]at H)|((with_reducible refine gCV ?_);refine zFk wtd_ rfl Tryz.underlying23 Tryz.underlying5 H (i:=3) (L:=[120]) rfl i_3 rfl (by decide) ?_;clear H;intro w H;simp only[sc]at H)|((with_reducible refine gCV ?_);refine zFk wtd_ rfl Tryz.underlying23 Tryz.underlying5 H (i:=5) (L:=[120]) rfl i_5 rfl (by decide) ?_;clear H;intro w H;simp only[sc]at H)|((with_reducible first|refine ch (ht1 q1 n1 F1 _ (H.knlt (i:=1) i_1) (H.kn (i:=1) i_1)) H ?_|refine ch (ht2 q2 n2 F2 (some ⟨bx,0,none⟩) _ _ (H.knlt (i:=2) i_2) (H.knlt (i:=3) i_3) (H.kn (i:=2) i_2) (H.kn (i:=3) i_3)) H ?_|refine ch (ht3 q2 n2 F2 (some ⟨bx,0,none⟩) _ _ (H.knlt (i:=4) i_4) (H.knlt (i:=5) i_5) (H.kn (i:=4) i_4) (H.kn (i:=5) i_5)) H ?_|refine ch (zEl _) H ?_);clear H;intro w H)|fail)
      go_ret;exact⟨rfl,H.below⟩
theorem zKH (w0:World):Calls Tryz.prog 4 #[] w0 (Rt (.bool true) w0):=zJl zOw w0
end
end Go.Proofs.YtdoflhjhaciepaaGreat
