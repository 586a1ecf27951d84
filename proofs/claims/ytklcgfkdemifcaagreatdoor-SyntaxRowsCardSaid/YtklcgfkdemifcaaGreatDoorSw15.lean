/-
  Laws of walks, and walks.
-/
import Derived.Test.YtklcgfkdemifcaaGreatDoorSw13
import Derived.Test.YtklcgfkdemifcaaGreatDoorSw14
set_option linter.unusedVariables false
set_option linter.unusedSimpArgs false
set_option maxRecDepth 100000
set_option maxHeartbeats 16000000
namespace Go.Proofs.YtklcgfkdemifcaaGreatDoor
section
open Go.RowKit Go.Shelf
attribute [local go_sem] Oper.semAt_some
theorem zQw (w0:World):Calls Tryz.prog 136 #[.int .u8 123] w0 (Rt (setV (ofS [123])) w0):=zEr 123 (by omega) w0
theorem zKw {L:Str} {i lo e:Nat} {hi:Int} (h:zBI L i=some (lo,hi,e)) (hi2:i<L.length):lo≤101 ∧ -1≤hi∧hi≤101∧i+2≤e∧e≤L.length:=by
 unfold zBI at h;split at h
 ·cases h
 ·rename_i n k hn;have h1:=zB6 hn (by omega)
  split at h
  ·rename_i ha;have:=zC6 ha (by simp)
   simp at this
   cases h
   omega
  ·split at h
   ·rename_i ha;have h2:=zC6 ha (by simp)
    simp at h2;split at h
    ·cases h
    ·rename_i m e' hm;have h3:=zB6 hm (by omega)
     split at h
     ·rename_i hb;have h4:=zC6 hb (by simp)
      simp at h4
      cases h
      omega
     ·cases h
   ·split at h
    ·rename_i hb;have h4:=zC6 hb (by simp)
     simp at h4
     cases h
     omega
    ·cases h
theorem zPq {L:Str} {i:Nat} (h:atP L i [40,63]=true):byt L i=40:=by
 by_cases hc:byt L i=40
 ·exact hc
 by_cases hi:i<L.length
 ·rw[at2 hi hc]at h;cases h
 ·have:=zC6 h (by simp);simp at this;omega
theorem zO7 (L:Str) (i:Nat) (hL:L.length≤2000) (hi:i<L.length) (w0:World):Calls Tryz.prog 81 #[.string ⟨L.toArray⟩,.int .i64 i] w0 fun e w'=>RepR (zAq L i) e∧Below w0.heap.size w0 w':=by
 have H:=Hold.start w0;have hbl:=zCI L i
 by_cases hc:byt L i=92
 ·have hf:=fun w=>zNX L i hL hi w
  have hw:=w_92 hc;have hsg:∀ w,Calls Tryz.prog 129 #[.int .u8 92,.int .i64 i] w (Rt (zAd {kind:=0,place:=i}) w):=fun w=>zFl 92 i (by omega) w
  cases hs:zBH L i with
  | none =>
   rw[hs]at hf hw;simp only[WordR]at hf;have E:=Lib.hid (show zAq L i=.error 4 by rw[hw];rfl);clear hw hs
   go_enter Tryz.func81,Tryz.ntmps81
   go_wp2_with (first|(first|((with_reducible refine gT ?_);(refine aT H ?_;clear H;intro w H;try simp only[nr]at H))|((with_reducible refine gL ?_);refine aD H ?_)|((with_reducible refine gA ?_);(refine bA H ?_;clear H;intro b w H;try simp only[nr]at H))|((with_reducible refine gI ?_);refine aI ?_))|((with_reducible refine ch (hsg _) H ?_);clear H;intro w H)|(go_at_call 130;(with_reducible refine(hf _).mono ?_);rintro e w ⟨⟨wd,rfl⟩,hb⟩;replace H:=H.call hb;clear hb))
   (refine xctt Tryz.results81 H ?_)
   exact⟨RepR.no (w:=wd) E.out,H.below⟩
  | some p =>
   obtain⟨d,k⟩:=p;rw[hs]at hf hw;simp only[WordR]at hf;have E:=Lib.hid (show zAq L i=.ok (d,k) by rw[hw];rfl);clear hw hs
   have dk:decide ((k:Int)<0)=false:=by simp
   go_enter Tryz.func81,Tryz.ntmps81
   go_wp2_with (first|(first|((with_reducible refine gT ?_);(refine aT H ?_;clear H;intro w H;try simp only[nr]at H))|((with_reducible refine gL ?_);refine aD H ?_)|((with_reducible refine gA ?_);(refine bA H ?_;clear H;intro b w H;try simp only[nr]at H))|((with_reducible refine gI ?_);refine aI ?_))|((with_reducible first|refine ch (hsg _) H ?_|refine ch (hf _) H ?_);clear H;intro w H))
   (refine xctt Tryz.results81 H ?_)
   exact⟨RepR.ok (w:=d) E.out,H.below⟩
 have n92:((byt L i:Int) == 92)=false:=by rw[beq_eq_false_iff_ne];omega
 have m92:=Lib.hid hc;clear hc
 by_cases hc:byt L i=91
 ·have hf:=fun w=>zMh L i hL hi w
  have hw:=w_91 hc;have hsg:∀ w,Calls Tryz.prog 129 #[.int .u8 91,.int .i64 i] w (Rt (zAd {kind:=0,place:=i}) w):=fun w=>zFl 91 i (by omega) w
  cases hs:zBO L i with
  | none =>
   rw[hs]at hf hw;simp only[WordR]at hf;have E:=Lib.hid (show zAq L i=.error 4 by rw[hw];rfl);clear hw hs
   go_enter Tryz.func81,Tryz.ntmps81
   go_wp2_with (first|(first|((with_reducible refine gT ?_);(refine aT H ?_;clear H;intro w H;try simp only[nr]at H))|((with_reducible refine gL ?_);refine aD H ?_)|((with_reducible refine gA ?_);(refine bA H ?_;clear H;intro b w H;try simp only[nr]at H))|((with_reducible refine gI ?_);refine aI ?_))|((with_reducible refine ch (hsg _) H ?_);clear H;intro w H)|(go_at_call 131;(with_reducible refine(hf _).mono ?_);rintro e w ⟨⟨wd,rfl⟩,hb⟩;replace H:=H.call hb;clear hb))
   (refine xctt Tryz.results81 H ?_)
   exact⟨RepR.no (w:=wd) E.out,H.below⟩
  | some p =>
   obtain⟨d,k⟩:=p;rw[hs]at hf hw;simp only[WordR]at hf;have E:=Lib.hid (show zAq L i=.ok (d,k) by rw[hw];rfl);clear hw hs
   have dk:decide ((k:Int)<0)=false:=by simp
   go_enter Tryz.func81,Tryz.ntmps81
   go_wp2_with (first|(first|((with_reducible refine gT ?_);(refine aT H ?_;clear H;intro w H;try simp only[nr]at H))|((with_reducible refine gL ?_);refine aD H ?_)|((with_reducible refine gA ?_);(refine bA H ?_;clear H;intro b w H;try simp only[nr]at H))|((with_reducible refine gI ?_);refine aI ?_))|((with_reducible first|refine ch (hsg _) H ?_|refine ch (hf _) H ?_);clear H;intro w H))
   (refine xctt Tryz.results81 H ?_)
   exact⟨RepR.ok (w:=d) E.out,H.below⟩
 have n91:((byt L i:Int) == 91)=false:=by rw[beq_eq_false_iff_ne];omega
 have m91:=Lib.hid hc;clear hc
 by_cases hc:byt L i=123
 ·have ha:atP L i [40,63]=false:=at2 hi (fun h=>by omega)
  have hat:=fun w=>zDo L [40,63] i hL (by simp) (by simp) (by omega) w
  rw[ha]at hat;clear ha;have hf:=fun w=>zLU L i hL hi w
  have hw:=zRH hc;have hsg:∀ w,Calls Tryz.prog 129 #[.int .u8 123,.int .i64 i] w (Rt (zAd {kind:=0,place:=i}) w):=fun w=>zFl 123 i (by omega) w
  cases hs:zBI L i with
  | none =>
   rw[hs]at hf hw;simp only[brW,Option.map_none,WordR]at hf hw;have E:=Lib.hid hw;clear hw hs
   go_enter Tryz.func81,Tryz.ntmps81
   go_wp2_with (first|((with_reducible show @wpList _ _ _ ({dst:=_,op:=Op.build _ #[(0,Operand.const (Value.int IntKind.i64 1)),(1,_),(2,_)],type:=_,pos:=_,after:=_,guard:=_}::_) _ _);refine zED wtd_ rfl rfl (by (try simp only[pe]);with_reducible rfl) ?_)|(first|((with_reducible refine gT ?_);(refine aT H ?_;clear H;intro w H;try simp only[nr]at H))|((with_reducible refine gL ?_);refine aD H ?_)|((with_reducible refine gA ?_);(refine bA H ?_;clear H;intro b w H;try simp only[nr]at H))|((with_reducible refine gI ?_);refine aI ?_))|((with_reducible first|refine ch (hsg _) H ?_|refine ch (hat _) H ?_);clear H;intro w H)|(go_at_call 134;(with_reducible refine(hf _).mono ?_);rintro e w ⟨⟨wd,rfl⟩,hb⟩;replace H:=H.call hb;clear hb)|((with_reducible refine ch (zQw _) H ?_);clear H;intro w H))
   (refine xctt Tryz.results81 H ?_)
   exact⟨RepR.ok (w:={kind:=1,place:=i,set:=ofS [123]}) E.out,H.below⟩
  | some p =>
   obtain⟨lo,hi3,e⟩:=p;have hk:=zKw hs hi;rw[hs]at hf hw;simp only[brW,Option.map_some,WordR]at hf hw;clear hs;have dk:decide (0≤(e:Int))=true:=by simp
   have hw2:=hw;clear hw;have hw:=hw2;have hr:=fun w=>zHs L i e lo hi3 hL (by omega) (by omega) (by omega) w
   cases hp:zAZ L i lo hi3 e with
   | error x =>
    rw[hp]at hr hw;simp only[RepR]at hr;have E:=Lib.hid hw;clear hw hp
    go_enter Tryz.func81,Tryz.ntmps81
    go_wp2_with (first|((with_reducible show @wpList _ _ _ ({dst:=_,op:=Op.build _ #[(0,Operand.const (Value.int IntKind.i64 1)),(1,_),(2,_)],type:=_,pos:=_,after:=_,guard:=_}::_) _ _);refine zED wtd_ rfl rfl (by (try simp only[pe]);with_reducible rfl) ?_)|(first|((with_reducible refine gT ?_);(refine aT H ?_;clear H;intro w H;try simp only[nr]at H))|((with_reducible refine gL ?_);refine aD H ?_)|((with_reducible refine gA ?_);(refine bA H ?_;clear H;intro b w H;try simp only[nr]at H))|((with_reducible refine gI ?_);refine aI ?_))|((with_reducible first|refine ch (hsg _) H ?_|refine ch (hat _) H ?_|refine ch (hf _) H ?_);clear H;intro w H)|(go_at_call 135;(with_reducible refine(hr _).mono ?_);rintro e w ⟨⟨wd,kk,rfl⟩,hb⟩;replace H:=H.call hb;clear hb))
    (refine xctt Tryz.results81 H ?_)
    exact⟨RepR.no (w:=wd) E.out,H.below⟩
   | ok p =>
    obtain⟨d,k⟩:=p;rw[hp]at hr hw;simp only[RepR]at hr;have E:=Lib.hid hw;clear hw hp
    go_enter Tryz.func81,Tryz.ntmps81
    go_wp2_with (first|((with_reducible show @wpList _ _ _ ({dst:=_,op:=Op.build _ #[(0,Operand.const (Value.int IntKind.i64 1)),(1,_),(2,_)],type:=_,pos:=_,after:=_,guard:=_}::_) _ _);refine zED wtd_ rfl rfl (by (try simp only[pe]);with_reducible rfl) ?_)|(first|((with_reducible refine gT ?_);(refine aT H ?_;clear H;intro w H;try simp only[nr]at H))|((with_reducible refine gL ?_);refine aD H ?_)|((with_reducible refine gA ?_);(refine bA H ?_;clear H;intro b w H;try simp only[nr]at H))|((with_reducible refine gI ?_);refine aI ?_))|((with_reducible first|refine ch (hsg _) H ?_|refine ch (hat _) H ?_|refine ch (hf _) H ?_|refine ch (hr _) H ?_);clear H;intro w H))
    (refine xctt Tryz.results81 H ?_)
    exact⟨RepR.ok (w:=d) E.out,H.below⟩
 have m123:=Lib.hid hc;clear hc
 cases hq:atP L i [40,63] with
 | false=>exact zLE hL hi m92.out m91.out m123.out hq w0
 | true =>
  have hc:byt L i=40:=zPq hq;have hat:=fun w=>zDo L [40,63] i hL (by simp) (by simp) (by omega) w
  have ha:atP L (i+1) [63]=true:=by rw[← at2' hi hc];exact hq
  rw[hq]at hat;clear hq m123;have hl:=zC6 ha (by simp)
  simp only[List.length_cons,List.length_nil,Nat.zero_add]at hl;have hf:=fun w=>zLi L i hL (by omega) w
  have hw:=w_40 hc;rw[ha,if_pos rfl]at hw;clear ha;have hsg:∀ w,Calls Tryz.prog 129 #[.int .u8 40,.int .i64 i] w (Rt (zAd {kind:=6,place:=i}) w):=fun w=>zFl 40 i (by omega) w
  cases hs:zAy L i with
  | none =>
   rw[hs]at hf hw;simp only[WordR]at hf;have E:=Lib.hid (show zAq L i=.error 4 by rw[hw];rfl);clear hw hs
   go_enter Tryz.func81,Tryz.ntmps81
   go_wp2_with (first|(first|((with_reducible refine gT ?_);(refine aT H ?_;clear H;intro w H;try simp only[nr]at H))|((with_reducible refine gL ?_);refine aD H ?_)|((with_reducible refine gA ?_);(refine bA H ?_;clear H;intro b w H;try simp only[nr]at H))|((with_reducible refine gI ?_);refine aI ?_))|((with_reducible first|refine ch (hsg _) H ?_|refine ch (hat _) H ?_);clear H;intro w H)|(go_at_call 133;(with_reducible refine(hf _).mono ?_);rintro e w ⟨⟨wd,rfl⟩,hb⟩;replace H:=H.call hb;clear hb))
   (refine xctt Tryz.results81 H ?_)
   exact⟨RepR.no (w:=wd) E.out,H.below⟩
  | some p =>
   obtain⟨d,k⟩:=p;rw[hs]at hf hw;simp only[WordR]at hf;have E:=Lib.hid (show zAq L i=.ok (d,k) by rw[hw];rfl);clear hw hs
   have dk:decide ((k:Int)<0)=false:=by simp
   go_enter Tryz.func81,Tryz.ntmps81
   go_wp2_with (first|(first|((with_reducible refine gT ?_);(refine aT H ?_;clear H;intro w H;try simp only[nr]at H))|((with_reducible refine gL ?_);refine aD H ?_)|((with_reducible refine gA ?_);(refine bA H ?_;clear H;intro b w H;try simp only[nr]at H))|((with_reducible refine gI ?_);refine aI ?_))|((with_reducible first|refine ch (hsg _) H ?_|refine ch (hat _) H ?_|refine ch (hf _) H ?_);clear H;intro w H))
   (refine xctt Tryz.results81 H ?_)
   exact⟨RepR.ok (w:=d) E.out,H.below⟩
theorem zPy (L:Str) (h:L.length≤1000):zM1 L:=fun i hi w=>zO7 L i (by omega) hi w
end
section
open Go.RowKit Go.Shelf
theorem zNW (L:Str) (f:zAP) (w0:World):Calls Tryz.prog 19 #[.string ⟨L.toArray⟩,zBq f] w0 fun e w'=>ParseOut w0 (zBv L f) e w'∧Below w0.heap.size w0 w':=zLN L (zPy L) f w0
end
end Go.Proofs.YtklcgfkdemifcaaGreatDoor
