/-
  Laws of walks, and walks.
-/
import Derived.Test.YtalggmbdpmdcbaaGreatPf18
import Derived.Test.YtalggmbdpmdcbaaGreatPf16
import Derived.Test.YtalggmbdpmdcbaaGreatPf10
import Derived.Test.YtalggmbdpmdcbaaGreatPf9
import Derived.Test.YtalggmbdpmdcbaaGreatPf11
import Derived.Test.YtalggmbdpmdcbaaGreatPf12
set_option linter.unusedVariables false
set_option linter.unusedSimpArgs false
set_option maxRecDepth 100000
set_option maxHeartbeats 16000000
namespace Go.Proofs.YtalggmbdpmdcbaaGreat
section
open Go.RowKit Go.Shelf Go.MapKept
attribute [local go_sem] Oper.semAt_some
def layF (bc:Nat):Value->Option Value
 | .int .i64 k=>if k=4 then some (.func (.func 55) #[.pointer (some ⟨bc,0,none⟩)] #[]) else if k=5 then some (.func (.func 56) #[.pointer (some ⟨bc,0,none⟩)] #[])
  else if k=7 then some (.func (.func 57) #[.pointer (some ⟨bc,0,none⟩)] #[]) else if k=6 then some (.func (.func 58) #[.pointer (some ⟨bc,0,none⟩)] #[]) else none
 | _=>none
theorem zGi {M:Nat->Prop} {w0 w:World} {r0 r1 r2 r3 r4:Res} {l:List Res} {mb ck:Nat} {es:Array MapEntry} (H:HoldG M w0 w (r0::r1::r2::r3::r4::.mp mb es ck::l)):w.heap[mb]?=some (.map es ck):=by
 have h:(Res.mp mb es ck).Holds M w0.heap.size w:=H.all 5 _ rfl;exact h.2
theorem zFp (bc:Nat):layF bc (.int .i64 4)=some (.func (.func 55) #[.pointer (some ⟨bc,0,none⟩)] #[]):=by simp[layF]
theorem zF6 (bc:Nat):layF bc (.int .i64 5)=some (.func (.func 56) #[.pointer (some ⟨bc,0,none⟩)] #[]):=by simp[layF]
theorem zGf (bc:Nat):layF bc (.int .i64 7)=some (.func (.func 57) #[.pointer (some ⟨bc,0,none⟩)] #[]):=by simp[layF]
theorem zFm (bc:Nat):layF bc (.int .i64 6)=some (.func (.func 58) #[.pointer (some ⟨bc,0,none⟩)] #[]):=by simp[layF]
theorem zCT {bc:Nat} {es:Array MapEntry} (h:zEP (.int .i64) (layF bc) [.int .i64 6,.int .i64 7,.int .i64 5,.int .i64 4] es):zHu (.int .i64) (layF bc) es:=by
 refine⟨h.1,fun k v hv=>h.2 k ?_⟩
 unfold layF at hv;split at hv
 ·rename_i n;split at hv
  ·rename_i e;rw[e];simp
  split at hv
  ·rename_i e;rw[e];simp
  split at hv
  ·rename_i e;rw[e];simp
  split at hv
  ·rename_i e;rw[e];simp
  ·cases hv
 ·cases hv
theorem zNh:∃ et,Tryz.prog.underlying 128=some (.map 22 et)/\∀ W,(zeroValue et).run Tryz.prog W=.ok (.nilFunc) W:=by
 refine⟨29,by kernel_rfl,fun W=>by kernel_rfl⟩
theorem zC1 {o:Oper} {a:Act} {w:World} {x y:Operand} {et:TypeId} {bc mb ck:Nat} {es:Array MapEntry} {k:Int} {v:Value} (ho:o.op=.lookup 128 x y true) (hT:Tryz.prog.underlying 128=some (.map 22 et)) (hx:a.eval x=.map (some mb)) (hy:a.eval y=.int .i64 k) (h2:w.heap[mb]?=some (.map es ck)) (h3:zHu (.int .i64) (layF bc) es) (hF:layF bc (.int .i64 k)=.some v) :
  (execOp a.eval o).run Tryz.prog w=.ok (.value (.tuple #[v,.bool true])) w:=by
 have:=zGO hT zBh h2 h3 (k:=.int .i64 k) (v:=v) rfl hF;simp only[execOp,ho,hx,hy,Sem.run_bind,this];rfl
theorem zHD {o:Oper} {a:Act} {w:World} {x y:Operand} {et:TypeId} {bc mb ck:Nat} {es:Array MapEntry} {k:Int} (ho:o.op=.lookup 128 x y true) (hT:Tryz.prog.underlying 128=some (.map 22 et)) (hz:∀ W,(zeroValue et).run Tryz.prog W=.ok .nilFunc W) (hx:a.eval x=.map (some mb)) (hy:a.eval y=.int .i64 k) (h2:w.heap[mb]?=some (.map es ck)) (h3:zHu (.int .i64) (layF bc) es) (hF:layF bc (.int .i64 k)=.none) :
  (execOp a.eval o).run Tryz.prog w=.ok (.value (.tuple #[.nilFunc,.bool false])) w:=by
 have:=zDk hT zBh h2 h3 (k:=.int .i64 k) rfl hF hz;simp only[execOp,ho,hx,hy,Sem.run_bind,this];rfl
theorem zPG (m:Nat) (IH:zJK m) (hm2:m<=2000):zJK (m+1):=by
 rintro⟨d,ts⟩ p n c F bc v xs out M w0 w hm hkd hn hxl H0;simp only[Tree.kids,Tree.d]at hn H0 ⊢;simp only[zAk,Bool.and_eq_true]at hkd;simp only[zAB]at hm;have hm':zAF ts<=m:=by omega
 obtain⟨et,het,hez⟩:=zNh;have HET:=Lib.hid het;have HEZ:=Lib.hid hez;clear het hez;have H:=H0.framed;clear H0;obtain⟨rF,hrF⟩:∃ rF,zCb w (zAp bc v xs++[.kn F (fun V=>ForestR V F p c ts)])=rF:=⟨_,rfl⟩
 obtain⟨rS,hrS⟩:∃ rS,zCl w (zAp bc v xs++[.kn F (fun V=>ForestR V F p c ts)])=rS:=⟨_,rfl⟩
 rw[hrF,hrS]at H;simp only[zAp,List.cons_append,List.nil_append]at H
 by_cases k4:d.kind=4
 ·have hR:=fun (w':World) (h:HoldG M w0 w' (zAp bc v xs++[.kn F (fun V=>ForestR V F p c ts)]))=>zPs m IH bc v xs d ts p n c out F hm' hm2 hkd.2 k4 hn h hxl
  have HF:=Lib.hid (show layF bc (.int .i64 d.kind)=some (.func (.func 55) #[.pointer (some ⟨bc,0,none⟩)] #[]) by rw[k4];exact zFp bc)
  clear IH hm hm' hm2 hkd hn k4
  cases hq:capQ (layP (.mk d ts) out xs) with
  | some r =>
   rw[hq]at hR;clear hq
   go_enter Tryz.func27,Tryz.ntmps27
   go_wp2_with (first|((with_reducible show @wpList _ _ _ ({dst:=_,op:=Op.makeMap _ _,type:=_,pos:=_,after:=_,guard:=_}::_) _ _);refine zBN rfl _ rfl H ?_;clear H;intro mb w H;(try simp only[nr]at H);have hM:zEP (.int .i64) (layF bc) [] (#[]:Array MapEntry):=⟨Sub.nil _ _,fun _ h=>by cases h⟩)|((with_reducible show @wpList _ _ _ ({dst:=_,op:=Op.insert _ _ _ _,type:=_,pos:=_,after:=_,guard:=_}::_) _ _);refine zBf rfl _ _ _ _ rfl HET.out zBh rfl rfl rfl H (i:=5) i_5 hM rfl (by first|exact zFp _|exact zF6 _|exact zGf _|exact zFm _) ?_;clear H hM;intro es ck w H hM;try simp only[nr]at H)|((with_reducible show @wpList _ _ _ ({dst:=_,op:=Op.lookup _ _ _ _,type:=_,pos:=_,after:=_,guard:=_}::_) _ _);refine zAK rfl (v:=.tuple #[(.func (.func 55) #[.pointer (some ⟨bc,0,none⟩)] #[]),.bool true]) (zC1 rfl HET.out evd_ evd_ (zGi H) (zCT hM) HF.out) ?_)|(go_at_call 55;refine zFZ (F:=F) (S:=fun V=>ForestR V F p c ts) H (Still.at (i:=2) i_2) (fun V hV=>(H.kn (i:=2) i_2).kept hV) (fun h=>hR _ h) ?_;clear H;intro v3 w H)|((with_reducible refine kg 4 ?_);(first|refine kA 4 H ?_|refine kS 4 H ?_|refine kB 4 H ?_);clear H;intro b4 w H;try simp only[nr]at H)|((with_reducible refine gL ?_);(first|refine aG H ?_|refine aD H ?_)))
   go_ret;rw[← hrF,← hrS]at H;exact⟨_,rfl,zAX H (i:=3) i_3 (by decide) (by rfl)⟩
  | none =>
   rw[hq]at hR;clear hq
   go_enter Tryz.func27,Tryz.ntmps27
   go_wp2_with (first|((with_reducible show @wpList _ _ _ ({dst:=_,op:=Op.makeMap _ _,type:=_,pos:=_,after:=_,guard:=_}::_) _ _);refine zBN rfl _ rfl H ?_;clear H;intro mb w H;(try simp only[nr]at H);have hM:zEP (.int .i64) (layF bc) [] (#[]:Array MapEntry):=⟨Sub.nil _ _,fun _ h=>by cases h⟩)|((with_reducible show @wpList _ _ _ ({dst:=_,op:=Op.insert _ _ _ _,type:=_,pos:=_,after:=_,guard:=_}::_) _ _);refine zBf rfl _ _ _ _ rfl HET.out zBh rfl rfl rfl H (i:=5) i_5 hM rfl (by first|exact zFp _|exact zF6 _|exact zGf _|exact zFm _) ?_;clear H hM;intro es ck w H hM;try simp only[nr]at H)|((with_reducible show @wpList _ _ _ ({dst:=_,op:=Op.lookup _ _ _ _,type:=_,pos:=_,after:=_,guard:=_}::_) _ _);refine zAK rfl (v:=.tuple #[(.func (.func 55) #[.pointer (some ⟨bc,0,none⟩)] #[]),.bool true]) (zC1 rfl HET.out evd_ evd_ (zGi H) (zCT hM) HF.out) ?_)|(go_at_call 55;refine zFQ (F:=F) (S:=fun V=>ForestR V F p c ts) H (Still.at (i:=2) i_2) (fun V hV=>(H.kn (i:=2) i_2).kept hV) (fun h=>hR _ h) ?_;clear H;intro v3 ys w H)|((with_reducible refine kg 4 ?_);(first|refine kA 4 H ?_|refine kS 4 H ?_|refine kB 4 H ?_);clear H;intro b4 w H;try simp only[nr]at H)|((with_reducible refine gL ?_);(first|refine aG H ?_|refine aD H ?_)))
   rw[← hrF,← hrS]at H;exact⟨rfl,rfl,_,_,zAX H (i:=3) i_3 (by decide) (by rfl)⟩
 by_cases k5:d.kind=5
 ·have hR:=fun (w':World) (h:HoldG M w0 w' (zAp bc v xs++[.kn F (fun V=>ForestR V F p c ts)]))=>zPh m IH bc v xs d ts p n c out F hm' hm2 hkd.1 hkd.2 k5 hn h hxl
  have HF:=Lib.hid (show layF bc (.int .i64 d.kind)=some (.func (.func 56) #[.pointer (some ⟨bc,0,none⟩)] #[]) by rw[k5];exact zF6 bc)
  clear IH hm hm' hm2 hkd hn k5
  cases hq:capQ (layP (.mk d ts) out xs) with
  | some r =>
   rw[hq]at hR;clear hq
   go_enter Tryz.func27,Tryz.ntmps27
   go_wp2_with (first|((with_reducible show @wpList _ _ _ ({dst:=_,op:=Op.makeMap _ _,type:=_,pos:=_,after:=_,guard:=_}::_) _ _);refine zBN rfl _ rfl H ?_;clear H;intro mb w H;(try simp only[nr]at H);have hM:zEP (.int .i64) (layF bc) [] (#[]:Array MapEntry):=⟨Sub.nil _ _,fun _ h=>by cases h⟩)|((with_reducible show @wpList _ _ _ ({dst:=_,op:=Op.insert _ _ _ _,type:=_,pos:=_,after:=_,guard:=_}::_) _ _);refine zBf rfl _ _ _ _ rfl HET.out zBh rfl rfl rfl H (i:=5) i_5 hM rfl (by first|exact zFp _|exact zF6 _|exact zGf _|exact zFm _) ?_;clear H hM;intro es ck w H hM;try simp only[nr]at H)|((with_reducible show @wpList _ _ _ ({dst:=_,op:=Op.lookup _ _ _ _,type:=_,pos:=_,after:=_,guard:=_}::_) _ _);refine zAK rfl (v:=.tuple #[(.func (.func 56) #[.pointer (some ⟨bc,0,none⟩)] #[]),.bool true]) (zC1 rfl HET.out evd_ evd_ (zGi H) (zCT hM) HF.out) ?_)|(go_at_call 56;refine zFZ (F:=F) (S:=fun V=>ForestR V F p c ts) H (Still.at (i:=2) i_2) (fun V hV=>(H.kn (i:=2) i_2).kept hV) (fun h=>hR _ h) ?_;clear H;intro v3 w H)|((with_reducible refine kg 4 ?_);(first|refine kA 4 H ?_|refine kS 4 H ?_|refine kB 4 H ?_);clear H;intro b4 w H;try simp only[nr]at H)|((with_reducible refine gL ?_);(first|refine aG H ?_|refine aD H ?_)))
   go_ret;rw[← hrF,← hrS]at H;exact⟨_,rfl,zAX H (i:=3) i_3 (by decide) (by rfl)⟩
  | none =>
   rw[hq]at hR;clear hq
   go_enter Tryz.func27,Tryz.ntmps27
   go_wp2_with (first|((with_reducible show @wpList _ _ _ ({dst:=_,op:=Op.makeMap _ _,type:=_,pos:=_,after:=_,guard:=_}::_) _ _);refine zBN rfl _ rfl H ?_;clear H;intro mb w H;(try simp only[nr]at H);have hM:zEP (.int .i64) (layF bc) [] (#[]:Array MapEntry):=⟨Sub.nil _ _,fun _ h=>by cases h⟩)|((with_reducible show @wpList _ _ _ ({dst:=_,op:=Op.insert _ _ _ _,type:=_,pos:=_,after:=_,guard:=_}::_) _ _);refine zBf rfl _ _ _ _ rfl HET.out zBh rfl rfl rfl H (i:=5) i_5 hM rfl (by first|exact zFp _|exact zF6 _|exact zGf _|exact zFm _) ?_;clear H hM;intro es ck w H hM;try simp only[nr]at H)|((with_reducible show @wpList _ _ _ ({dst:=_,op:=Op.lookup _ _ _ _,type:=_,pos:=_,after:=_,guard:=_}::_) _ _);refine zAK rfl (v:=.tuple #[(.func (.func 56) #[.pointer (some ⟨bc,0,none⟩)] #[]),.bool true]) (zC1 rfl HET.out evd_ evd_ (zGi H) (zCT hM) HF.out) ?_)|(go_at_call 56;refine zFQ (F:=F) (S:=fun V=>ForestR V F p c ts) H (Still.at (i:=2) i_2) (fun V hV=>(H.kn (i:=2) i_2).kept hV) (fun h=>hR _ h) ?_;clear H;intro v3 ys w H)|((with_reducible refine kg 4 ?_);(first|refine kA 4 H ?_|refine kS 4 H ?_|refine kB 4 H ?_);clear H;intro b4 w H;try simp only[nr]at H)|((with_reducible refine gL ?_);(first|refine aG H ?_|refine aD H ?_)))
   rw[← hrF,← hrS]at H;exact⟨rfl,rfl,_,_,zAX H (i:=3) i_3 (by decide) (by rfl)⟩
 by_cases k7:d.kind=7
 ·have hR:=fun (w':World) (h:HoldG M w0 w' (zAp bc v xs++[.kn F (fun V=>ForestR V F p c ts)]))=>zNx m IH bc v xs d ts p n c out F hm' hkd.1 hkd.2 k7 hn h hxl
  have HF:=Lib.hid (show layF bc (.int .i64 d.kind)=some (.func (.func 57) #[.pointer (some ⟨bc,0,none⟩)] #[]) by rw[k7];exact zGf bc)
  clear IH hm hm' hm2 hkd hn k7
  cases hq:capQ (layP (.mk d ts) out xs) with
  | some r =>
   rw[hq]at hR;clear hq
   go_enter Tryz.func27,Tryz.ntmps27
   go_wp2_with (first|((with_reducible show @wpList _ _ _ ({dst:=_,op:=Op.makeMap _ _,type:=_,pos:=_,after:=_,guard:=_}::_) _ _);refine zBN rfl _ rfl H ?_;clear H;intro mb w H;(try simp only[nr]at H);have hM:zEP (.int .i64) (layF bc) [] (#[]:Array MapEntry):=⟨Sub.nil _ _,fun _ h=>by cases h⟩)|((with_reducible show @wpList _ _ _ ({dst:=_,op:=Op.insert _ _ _ _,type:=_,pos:=_,after:=_,guard:=_}::_) _ _);refine zBf rfl _ _ _ _ rfl HET.out zBh rfl rfl rfl H (i:=5) i_5 hM rfl (by first|exact zFp _|exact zF6 _|exact zGf _|exact zFm _) ?_;clear H hM;intro es ck w H hM;try simp only[nr]at H)|((with_reducible show @wpList _ _ _ ({dst:=_,op:=Op.lookup _ _ _ _,type:=_,pos:=_,after:=_,guard:=_}::_) _ _);refine zAK rfl (v:=.tuple #[(.func (.func 57) #[.pointer (some ⟨bc,0,none⟩)] #[]),.bool true]) (zC1 rfl HET.out evd_ evd_ (zGi H) (zCT hM) HF.out) ?_)|(go_at_call 57;refine zFZ (F:=F) (S:=fun V=>ForestR V F p c ts) H (Still.at (i:=2) i_2) (fun V hV=>(H.kn (i:=2) i_2).kept hV) (fun h=>hR _ h) ?_;clear H;intro v3 w H)|((with_reducible refine kg 4 ?_);(first|refine kA 4 H ?_|refine kS 4 H ?_|refine kB 4 H ?_);clear H;intro b4 w H;try simp only[nr]at H)|((with_reducible refine gL ?_);(first|refine aG H ?_|refine aD H ?_)))
   go_ret;rw[← hrF,← hrS]at H;exact⟨_,rfl,zAX H (i:=3) i_3 (by decide) (by rfl)⟩
  | none =>
   rw[hq]at hR;clear hq
   go_enter Tryz.func27,Tryz.ntmps27
   go_wp2_with (first|((with_reducible show @wpList _ _ _ ({dst:=_,op:=Op.makeMap _ _,type:=_,pos:=_,after:=_,guard:=_}::_) _ _);refine zBN rfl _ rfl H ?_;clear H;intro mb w H;(try simp only[nr]at H);have hM:zEP (.int .i64) (layF bc) [] (#[]:Array MapEntry):=⟨Sub.nil _ _,fun _ h=>by cases h⟩)|((with_reducible show @wpList _ _ _ ({dst:=_,op:=Op.insert _ _ _ _,type:=_,pos:=_,after:=_,guard:=_}::_) _ _);refine zBf rfl _ _ _ _ rfl HET.out zBh rfl rfl rfl H (i:=5) i_5 hM rfl (by first|exact zFp _|exact zF6 _|exact zGf _|exact zFm _) ?_;clear H hM;intro es ck w H hM;try simp only[nr]at H)|((with_reducible show @wpList _ _ _ ({dst:=_,op:=Op.lookup _ _ _ _,type:=_,pos:=_,after:=_,guard:=_}::_) _ _);refine zAK rfl (v:=.tuple #[(.func (.func 57) #[.pointer (some ⟨bc,0,none⟩)] #[]),.bool true]) (zC1 rfl HET.out evd_ evd_ (zGi H) (zCT hM) HF.out) ?_)|(go_at_call 57;refine zFQ (F:=F) (S:=fun V=>ForestR V F p c ts) H (Still.at (i:=2) i_2) (fun V hV=>(H.kn (i:=2) i_2).kept hV) (fun h=>hR _ h) ?_;clear H;intro v3 ys w H)|((with_reducible refine kg 4 ?_);(first|refine kA 4 H ?_|refine kS 4 H ?_|refine kB 4 H ?_);clear H;intro b4 w H;try simp only[nr]at H)|((with_reducible refine gL ?_);(first|refine aG H ?_|refine aD H ?_)))
   rw[← hrF,← hrS]at H;exact⟨rfl,rfl,_,_,zAX H (i:=3) i_3 (by decide) (by rfl)⟩
 by_cases k6:d.kind=6
 ·have hR:=fun (w':World) (h:HoldG M w0 w' (zAp bc v xs++[.kn F (fun V=>ForestR V F p c ts)]))=>zMa m IH bc v xs d ts p n c out F hm' hkd.1 hkd.2 k6 hn h hxl
  have HF:=Lib.hid (show layF bc (.int .i64 d.kind)=some (.func (.func 58) #[.pointer (some ⟨bc,0,none⟩)] #[]) by rw[k6];exact zFm bc)
  clear IH hm hm' hm2 hkd hn k6
  cases hq:capQ (layP (.mk d ts) out xs) with
  | some r =>
   rw[hq]at hR;clear hq
   go_enter Tryz.func27,Tryz.ntmps27
   go_wp2_with (first|((with_reducible show @wpList _ _ _ ({dst:=_,op:=Op.makeMap _ _,type:=_,pos:=_,after:=_,guard:=_}::_) _ _);refine zBN rfl _ rfl H ?_;clear H;intro mb w H;(try simp only[nr]at H);have hM:zEP (.int .i64) (layF bc) [] (#[]:Array MapEntry):=⟨Sub.nil _ _,fun _ h=>by cases h⟩)|((with_reducible show @wpList _ _ _ ({dst:=_,op:=Op.insert _ _ _ _,type:=_,pos:=_,after:=_,guard:=_}::_) _ _);refine zBf rfl _ _ _ _ rfl HET.out zBh rfl rfl rfl H (i:=5) i_5 hM rfl (by first|exact zFp _|exact zF6 _|exact zGf _|exact zFm _) ?_;clear H hM;intro es ck w H hM;try simp only[nr]at H)|((with_reducible show @wpList _ _ _ ({dst:=_,op:=Op.lookup _ _ _ _,type:=_,pos:=_,after:=_,guard:=_}::_) _ _);refine zAK rfl (v:=.tuple #[(.func (.func 58) #[.pointer (some ⟨bc,0,none⟩)] #[]),.bool true]) (zC1 rfl HET.out evd_ evd_ (zGi H) (zCT hM) HF.out) ?_)|(go_at_call 58;refine zFZ (F:=F) (S:=fun V=>ForestR V F p c ts) H (Still.at (i:=2) i_2) (fun V hV=>(H.kn (i:=2) i_2).kept hV) (fun h=>hR _ h) ?_;clear H;intro v3 w H)|((with_reducible refine kg 4 ?_);(first|refine kA 4 H ?_|refine kS 4 H ?_|refine kB 4 H ?_);clear H;intro b4 w H;try simp only[nr]at H)|((with_reducible refine gL ?_);(first|refine aG H ?_|refine aD H ?_)))
   go_ret;rw[← hrF,← hrS]at H;exact⟨_,rfl,zAX H (i:=3) i_3 (by decide) (by rfl)⟩
  | none =>
   rw[hq]at hR;clear hq
   go_enter Tryz.func27,Tryz.ntmps27
   go_wp2_with (first|((with_reducible show @wpList _ _ _ ({dst:=_,op:=Op.makeMap _ _,type:=_,pos:=_,after:=_,guard:=_}::_) _ _);refine zBN rfl _ rfl H ?_;clear H;intro mb w H;(try simp only[nr]at H);have hM:zEP (.int .i64) (layF bc) [] (#[]:Array MapEntry):=⟨Sub.nil _ _,fun _ h=>by cases h⟩)|((with_reducible show @wpList _ _ _ ({dst:=_,op:=Op.insert _ _ _ _,type:=_,pos:=_,after:=_,guard:=_}::_) _ _);refine zBf rfl _ _ _ _ rfl HET.out zBh rfl rfl rfl H (i:=5) i_5 hM rfl (by first|exact zFp _|exact zF6 _|exact zGf _|exact zFm _) ?_;clear H hM;intro es ck w H hM;try simp only[nr]at H)|((with_reducible show @wpList _ _ _ ({dst:=_,op:=Op.lookup _ _ _ _,type:=_,pos:=_,after:=_,guard:=_}::_) _ _);refine zAK rfl (v:=.tuple #[(.func (.func 58) #[.pointer (some ⟨bc,0,none⟩)] #[]),.bool true]) (zC1 rfl HET.out evd_ evd_ (zGi H) (zCT hM) HF.out) ?_)|(go_at_call 58;refine zFQ (F:=F) (S:=fun V=>ForestR V F p c ts) H (Still.at (i:=2) i_2) (fun V hV=>(H.kn (i:=2) i_2).kept hV) (fun h=>hR _ h) ?_;clear H;intro v3 ys w H)|((with_reducible refine kg 4 ?_);(first|refine kA 4 H ?_|refine kS 4 H ?_|refine kB 4 H ?_);clear H;intro b4 w H;try simp only[nr]at H)|((with_reducible refine gL ?_);(first|refine aG H ?_|refine aD H ?_)))
   rw[← hrF,← hrS]at H;exact⟨rfl,rfl,_,_,zAX H (i:=3) i_3 (by decide) (by rfl)⟩
 have hR:=fun (w':World) (h:HoldG M w0 w' (zAp bc v xs++[.kn F (fun V=>ForestR V F p c ts)]))=>zPr bc v xs d (.slice p n c) out F _ h hxl
 have EL:layP (.mk d ts) out xs=oneQ d out xs:=by
  unfold oneQ;rw[layP]
  by_cases k1:d.kind=1
  ·rw[if_pos k1,if_pos k1]
  rw[if_neg k1,if_neg k1]
  by_cases k2:d.kind=2
  ·rw[if_pos k2,if_pos k2]
  rw[if_neg k2,if_neg k2]
  by_cases k3:d.kind=3
  ·rw[if_pos k3,if_pos k3]
  rw[if_neg k3,if_neg k3,if_neg k4,if_neg k5,if_neg k7,if_neg k6]
 rw[← EL]at hR;have HF:=Lib.hid (show layF bc (.int .i64 d.kind)=none by simp[layF,k4,k5,k6,k7])
 clear EL k4 k5 k6 k7 IH hm hm' hm2 hkd hn
 cases hq:capQ (layP (.mk d ts) out xs) with
 | some r =>
  rw[hq]at hR;clear hq
  go_enter Tryz.func27,Tryz.ntmps27
  go_wp2_with (first|((with_reducible show @wpList _ _ _ ({dst:=_,op:=Op.makeMap _ _,type:=_,pos:=_,after:=_,guard:=_}::_) _ _);refine zBN rfl _ rfl H ?_;clear H;intro mb w H;(try simp only[nr]at H);have hM:zEP (.int .i64) (layF bc) [] (#[]:Array MapEntry):=⟨Sub.nil _ _,fun _ h=>by cases h⟩)|((with_reducible show @wpList _ _ _ ({dst:=_,op:=Op.insert _ _ _ _,type:=_,pos:=_,after:=_,guard:=_}::_) _ _);refine zBf rfl _ _ _ _ rfl HET.out zBh rfl rfl rfl H (i:=5) i_5 hM rfl (by first|exact zFp _|exact zF6 _|exact zGf _|exact zFm _) ?_;clear H hM;intro es ck w H hM;try simp only[nr]at H)|((with_reducible show @wpList _ _ _ ({dst:=_,op:=Op.lookup _ _ _ _,type:=_,pos:=_,after:=_,guard:=_}::_) _ _);refine zAK rfl (v:=.tuple #[.nilFunc,.bool false]) (zHD rfl HET.out HEZ.out evd_ evd_ (zGi H) (zCT hM) HF.out) ?_)|(go_at_call 59;refine zFZ (F:=F) (S:=fun V=>ForestR V F p c ts) H (Still.at (i:=2) i_2) (fun V hV=>(H.kn (i:=2) i_2).kept hV) (fun h=>hR _ h) ?_;clear H;intro v3 w H)|((with_reducible refine kg 4 ?_);(first|refine kA 4 H ?_|refine kS 4 H ?_|refine kB 4 H ?_);clear H;intro b4 w H;try simp only[nr]at H)|((with_reducible refine gL ?_);(first|refine aG H ?_|refine aD H ?_)))
  go_ret;rw[← hrF,← hrS]at H;exact⟨_,rfl,zAX H (i:=3) i_3 (by decide) (by rfl)⟩
 | none =>
  rw[hq]at hR;clear hq
  go_enter Tryz.func27,Tryz.ntmps27
  go_wp2_with (first|((with_reducible show @wpList _ _ _ ({dst:=_,op:=Op.makeMap _ _,type:=_,pos:=_,after:=_,guard:=_}::_) _ _);refine zBN rfl _ rfl H ?_;clear H;intro mb w H;(try simp only[nr]at H);have hM:zEP (.int .i64) (layF bc) [] (#[]:Array MapEntry):=⟨Sub.nil _ _,fun _ h=>by cases h⟩)|((with_reducible show @wpList _ _ _ ({dst:=_,op:=Op.insert _ _ _ _,type:=_,pos:=_,after:=_,guard:=_}::_) _ _);refine zBf rfl _ _ _ _ rfl HET.out zBh rfl rfl rfl H (i:=5) i_5 hM rfl (by first|exact zFp _|exact zF6 _|exact zGf _|exact zFm _) ?_;clear H hM;intro es ck w H hM;try simp only[nr]at H)|((with_reducible show @wpList _ _ _ ({dst:=_,op:=Op.lookup _ _ _ _,type:=_,pos:=_,after:=_,guard:=_}::_) _ _);refine zAK rfl (v:=.tuple #[.nilFunc,.bool false]) (zHD rfl HET.out HEZ.out evd_ evd_ (zGi H) (zCT hM) HF.out) ?_)|(go_at_call 59;refine zFQ (F:=F) (S:=fun V=>ForestR V F p c ts) H (Still.at (i:=2) i_2) (fun V hV=>(H.kn (i:=2) i_2).kept hV) (fun h=>hR _ h) ?_;clear H;intro v3 ys w H)|((with_reducible refine kg 4 ?_);(first|refine kA 4 H ?_|refine kS 4 H ?_|refine kB 4 H ?_);clear H;intro b4 w H;try simp only[nr]at H)|((with_reducible refine gL ?_);(first|refine aG H ?_|refine aD H ?_)))
  rw[← hrF,← hrS]at H;exact⟨rfl,rfl,_,_,zAX H (i:=3) i_3 (by decide) (by rfl)⟩
theorem zOO:∀ m,m<=2000->zJK m
 | 0,_=>fun t _ _ _ _ _ _ _ _ _ _ _ h=>by have:=zBX t;omega
 | m+1,h=>zPG m (zOO m (by omega)) (by omega)
end
section
open Go.RowKit Go.Shelf
attribute [local go_sem] Oper.semAt_some
theorem zJX (n:Nat) (v2 v3:Value) (w:World):CallsDIn Fence.wide n Tryz.prog 25 #[v3,v2] .returning w fun e u' w'=>e=.returned (.tuple #[])/\u'=.returning/\w'=w:=by
 refine callsDIn_of_wpSIn Tryz.func25 rfl trivial fun c₀ cs hu=>?_
 apply wpSIn_seq;apply wpSIn_region;simp[wpOpsSIn,go_sem,recoverD,hu,Tryz.ntmps25,Exit.thenS];apply wpSIn_seq;apply wpSIn_region;simp[wpOpsSIn,go_sem,Exit.thenS];refine wpSIn_cond (t:=false) (by simp[Act.eval,Array.replicate]) ?_
 simp only[Bool.false_eq_true,if_false];refine wpSIn_of_wpIn rfl (wpIn_skip ?_)
 cases c₀
 simp_all [bodyPostS,results,Tryz.results25]
def mkL (b2 b3:Nat) (v:Value) (x:Int):List Res:=[.blk b2 #[v] 32,.blk b3 #[.int .i64 x] 33]
theorem zEe (n b2 b3:Nat) (v0:Value) (x0:Int) (x:Nat) {w0:World} (w:World) (H:HoldG (fun _=>False) w0 w (mkL b2 b3 v0 x0)) :
  CallsDIn Fence.wide n Tryz.prog 25 #[.pointer (some ⟨b3,0,none⟩),.pointer (some ⟨b2,0,none⟩)] (.panicking (zCH x)) w fun e u' w'=>e=.returned (.tuple #[]) /\
   u'=.panicking [{v:=.iface 33 (.int .i64 x),recovered:=true}]/\HoldG (fun _=>False) w0 w' (mkL b2 b3 (.slice none 0 0) x):=by
 have hta:=zFP x;refine callsDIn_of_wpSIn Tryz.func25 rfl trivial fun c₀ cs2 hu=>?_
 unfold zCH at hu;apply wpSIn_seq;apply wpSIn_region;simp[wpOpsSIn,go_sem,recoverD,hu,Tryz.ntmps25,Exit.thenS];apply wpSIn_seq;apply wpSIn_region;simp[wpOpsSIn,go_sem,Exit.thenS];refine wpSIn_cond (t:=true) (by simp[Act.eval,Array.replicate]) ?_
 simp only[if_true];refine wpSIn_of_wpIn rfl ?_
 rw[wpIn_wide];simp only[Array.replicate_succ,Array.replicate_zero,List.push_toArray,List.append_toArray,List.nil_append,List.cons_append,List.setIfInBounds_toArray,List.set_cons_succ,List.set_cons_zero];unfold mkL at H
 go_upto_region 3 with fail
 refine wp_region_lit ?_
 refine zAK rfl (v:=.iface 33 (.int .i64 x)) rfl ?_
 refine zAK rfl (v:=.tuple #[.int .i64 x,.bool true]) (by simp[execOp,go_sem,Act.eval,Act.put,hta]) ?_
 refine zAK rfl (v:=.tuple #[.int .i64 x,.bool true]) rfl ?_
 refine zAK rfl (v:=.int .i64 x) rfl ?_
 refine zAK rfl (v:=.bool true) rfl ?_
 refine zAi rfl 33 _ _ rfl (b:=b3) (k:=0) rfl (v:=.int .i64 x) rfl H (i:=1) i_1 rfl (show 0<1 from Nat.one_pos) (zAE zBk) ?_
 clear H;intro w H;replace H:HoldG (fun _=>False) w0 w [.blk b2 #[v0] 32,.blk b3 #[.int .i64 x] 33]:=H
 refine zAK rfl (v:=.bool true) rfl ?_
 go_wp2_with (first|((with_reducible refine gT ?_);refine zAi wtd_ _ _ _ rfl rfl rfl H (i:=0) .zero rfl (by simp) (zAE zBW) ?_;clear H;intro w H;try simp only[nr]at H)|fail)
 simp[bodyPostS,results,Tryz.results25];exact H
def MakeOwn (w:World) (r:Except Nat (List InstD)) (e:Ending) (w':World):Prop:=match r with
 | .ok ps=>∃ q c,e=.returned (.tuple #[.slice q ps.length c,.int .i64 0])/\w'.ownsRow w.heap.size 47 9 (.slice q ps.length c) ps.length (zAG (ps.map zAJ))
 | .error k=>e=.returned (.tuple #[.slice none 0 0,.int .i64 k])
def zJd (n0:Nat) (cs:Array Value) (v:Value) (W:World):Prop:=∃ b,v=.slice (some ⟨b,0,none⟩) 2 2/\n0<=b/\W.heap[b]?=some (.cells cs 47 (0,0))
theorem zHc (n0:Nat) (cs:Array Value):zGT (zJd n0 cs):=fun v w w' ⟨b,e,h1,h2⟩ hb=>⟨b,e,h1,(hb.block b (Array.getElem?_eq_some_iff.1 h2).1).trans h2⟩
theorem HoldG.gainQ {M:Nat->Prop} {w0 w w':World} {l:List Res} (H:HoldG M w0 w l) (hb:Below w.heap.size w w') {cs:Array Value} {v:Value} (h:zJd w.heap.size cs v w'):∃ b,v=.slice (some ⟨b,0,none⟩) 2 2/\HoldG M w0 w' (l++[.blk b cs 47]):=by
 obtain⟨b,e,h1,h2⟩:=h;obtain⟨b',e',H2⟩:=H.gainB hb (v:=.pointer (some ⟨b,0,none⟩)) ⟨b,rfl,h1,h2⟩
 cases e'
 exact⟨b,e,H2⟩
theorem zMy (d d2:InstD) (W:World):(Instr.buildSlice 32 2 #[(0,zA2 d),(1,zA2 d2)]).run Tryz.prog W=.ok (.slice (some ⟨W.heap.size,0,none⟩) 2 2) (W.alloc (.cells (zAJ d++zAJ d2) 47)):=by kernel_rfl
theorem zNq {ops:Array Oper} {o:Oper} {a:Act} {w:World} {x y:Operand} {d d2:InstD} {n0:Nat} {D:Prop} (hg:Region.wanted o (yielded ops a.tmps)=true) (hop:o.op=Op.buildSlice 32 2 #[(0,x),(1,y)]) (hx:a.eval x=zA2 d) (hy:a.eval y=zA2 d2) (hn:n0<=w.heap.size) (hD:¬ D) :
  zBZ Tryz.prog ops o a w (fun v w'=>zJd n0 (zAJ d++zAJ d2) v w'/\(D->w.heap.size<=blk v)):=by
 refine zDn hg (v:=.slice (some ⟨w.heap.size,0,none⟩) 2 2) (w':=w.alloc (.cells (zAJ d++zAJ d2) 47)) ?_ ((Below.refl _ w).alloc (Nat.le_refl _) _) ⟨⟨w.heap.size,rfl,hn,World.alloc_heap_new w _⟩,fun h=>(hD h).elim⟩
 simp only[execOp,hop,List.map_toArray,List.map_cons,List.map_nil,hx,hy,Sem.run_bind,zMy];rfl
theorem HoldG.twoInst {M:Nat->Prop} {w0 w:World} {l:List Res} (H:HoldG M w0 w l) {i b:Nat} {x y:InstD} {T:TypeId} (hi:At l i (.blk b (zAJ x++zAJ y) T)) :
  ∃ F:Nat->Prop,HoldG M w0 w (l.set i (.kn F (InstsR F (some ⟨b,0,none⟩) 2 [x,y]))):=by
 refine⟨_,H.rest hi (InstsR (Res.foot (.blk b (zAJ x++zAJ y) T)) (some ⟨b,0,none⟩) 2 [x,y]) fun V hV=>?_⟩
 have hb:=hV b rfl;rw[(H.blk hi).2]at hb;refine⟨_,_,rfl,Nat.le_refl _,by simp[maxLen],(fun h=>by cases h),fun j r hj=>?_⟩
 match j with
 | 0 =>
  simp at hj;subst hj;refine⟨b,0,rfl,rfl,rfl,fun k hk=>?_⟩
  simp only[World.cell?,hb,Nat.zero_mul,Nat.zero_add];exact Array.getElem?_append_left hk
 | 1 =>
  simp at hj;subst hj;refine⟨b,0,rfl,rfl,rfl,fun k hk=>?_⟩
  simp only[World.cell?,hb];rw[show 0+1 * 9+k=(zAJ x).size+k from rfl,Array.getElem?_append_right (Nat.le_add_right _ _),Nat.add_sub_cancel_left]
  rfl
 | j+2=>simp at hj
theorem zOD:zBx Tryz.prog 32=#[.slice none 0 0]:=by kernel_rfl
theorem zKH (W:World):(Instr.build 61 #[]).run Tryz.prog W=.ok (.agg #[.slice none 0 0]) W:=by kernel_rfl
theorem zEu {P:Program} {fn:Func} {p q:Tmp} {T1 T2:TypeId} (hres:fn.results=#[.cell p T1,.cell q T2]) {tmps:Array Value} {w:World} {b2 b3:Nat}
  (h1:tmps.getD p undef=.pointer (some ⟨b2,0,none⟩)) (h2:tmps.getD q undef=.pointer (some ⟨b3,0,none⟩)) (t1:oneB P T1=true) (t2:oneB P T2=true)
  {v1 v2:Value} (c1:w.cell? ⟨b2,0,none⟩=some v1) (c2:w.cell? ⟨b3,0,none⟩=some v2):(results fn tmps).run P w=.ok (.tuple #[v1,v2]) w:=by
 have e1:tmps[p]?.getD undef=.pointer (some ⟨b2,0,none⟩):=by simpa using h1
 have e2:tmps[q]?.getD undef=.pointer (some ⟨b3,0,none⟩):=by simpa using h2
 simp[results,hres,e1,e2,asAddr,zBc t1 c1,zBc t2 c2]
section
variable {M:Nat->Prop} {w0 w:World} {l3:List Res} {R:Ending->World->Prop} {bc:Nat} {v:Value} {xs:List InstD} {F:Nat->Prop}
theorem zP4 {i b:Nat} {x y:InstD} (H:HoldG M w0 w (.blk bc #[v] 61::.row v 47 9 xs.length (zAG (xs.map zAJ))::l3)) (hi:At l3 i (.kn F (InstsR F (some ⟨b,0,none⟩) 2 [x,y]))) (hl:xs.length<3000)
  (k:∀ (v':Value) (ys:List InstD) w',HoldG M w0 w' (.blk bc #[v'] 61::.row v' 47 9 ys.length (zAG (ys.map zAJ))::l3)->Hid (ys=xs++[x,y])->R (.returned (.int .i64 ((xs.length:Int)+1))) w') :
  Calls Tryz.prog 26 #[.pointer (some ⟨bc,0,none⟩),.slice (some ⟨b,0,none⟩) 2 2] w R:=by
 refine zI1 H (Still.at (i:=i+2) (.succ (.succ hi))) (fun V hV=>(H.kn (i:=i+2) (.succ (.succ hi))).kept hV) (fun h=>zMB bc v xs [x,y] _ 2 F h (by omega) (by simp) (by simp)) ?_
 intro e v' ys w' H' h _;unfold putQ at h;rw[if_pos (by simp;omega)]at h
 obtain⟨rfl,rfl⟩:=h;have:((xs.length:Int)+(([x,y].length:Nat):Int) - 1)=xs.length+1:=by simp;omega
 rw[this];exact k _ _ _ H' (Lib.hid rfl)
end
theorem MakeOwn.of {w0 w:World} {l:List Res} {ps:List InstD} {q:Option Addr} {c N:Nat} (H:HoldG (fun _=>False) w0 w (.row (.slice q N c) 47 9 N (zAG ((zBi ps).map zAJ))::l)) (hN:ps.length=N):MakeOwn w0 (.ok (zBi ps)) (.returned (.tuple #[.slice q N c,.int .i64 0])) w:=by
 have hl:(zBi ps).length=N:=by rw[zGp,hN]
 refine⟨q,c,by rw[hl],?_⟩
 rw[hl];exact H.all 0 _ rfl
theorem zNH (s:Tree) (a:Nat) (ys:List InstD) (h:layP s 1 zB5=(a,ys)):zFb s=ys++[{kind:=3,next:=(a:Int)}]:=by unfold zFb;rw[h]
theorem zJa (t:Tree) (p:Option Addr) (n c:Nat) (F:Nat->Prop) (w0:World) (hm:zAB t<=1000000000) (hF:∀ b,F b->b<w0.heap.size) (h:ForestR w0 F p c t.kids) (hn:n=t.kids.length) :
  Calls Tryz.prog 9 #[zAV t.d (.slice p n c)] w0 fun e w'=>MakeOwn w0 (zCh t) e w'/\Below w0.heap.size w0 w':=by
 subst hn;have H:=(Hold.start w0).know F (fun V=>ForestR V F p c t.kids) hF (fun i r h=>by simp at h) (fun V hV=>h.kept hV)
 clear h;simp only[List.nil_append]at H;have hsi:=fun w (h1:∀ b,F b->b<w.heap.size) (h2:ForestR w F p c t.kids)=>zIJ t p _ c F w hm h1 h2 rfl
 have hsp:∀ x,zBB t=.error x->x=2\/x=7:=fun x h=>by
  unfold zBB at h;split at h
  ·split at h<;>cases h;exact .inr rfl
  ·cases h;exact .inl rfl
 refine callsIn_wide.1 (zBv (n:=9) Tryz.func9 rfl ?_);simp only[Tryz.ntmps9,List.size_toArray,List.length_cons,List.length_nil,Nat.reduceAdd,Nat.reduceSub,Array.replicate_succ,Array.replicate_zero,List.push_toArray,List.append_toArray,List.nil_append,List.cons_append];refine zBg ?_
 cases hs:zBB t with
 | error x =>
  rw[hs]at hsi;have E2:=Lib.hid (show zCh t=.error x by unfold zCh;rw[hs])
  have hx:((x:Int) != 0)=true:=by rcases hsp x hs with rfl|rfl<;>rfl
  clear hs hsp
  go_upto_region 3 with (first|(go_at_call 13;refine zPF (hsi _ (H.knlt .zero) (H.kn .zero)) H ?_;clear H;intro w H)|((with_reducible refine kg 1 ?_);(first|refine kA 1 H ?_|refine kS 1 H ?_|refine kB 1 H ?_);clear H;intro b1 w H;try simp only[nr]at H)|((with_reducible refine kg 2 ?_);(first|refine kA 2 H ?_|refine kS 2 H ?_|refine kB 2 H ?_);clear H;intro b2 w H;try simp only[nr]at H)|((with_reducible refine kg 3 ?_);(first|refine kA 3 H ?_|refine kS 3 H ?_|refine kB 3 H ?_);clear H;intro b3 w H;try simp only[nr]at H)|((with_reducible refine kg 4 ?_);(first|refine kA 4 H ?_|refine kS 4 H ?_|refine kB 4 H ?_);clear H;intro b4 w H;try simp only[nr]at H)|(first|((with_reducible refine gT ?_);((first|refine aO H ?_|refine aT H ?_);clear H;intro w H;try simp only[nr]at H))|((with_reducible refine gL ?_);(first|refine aG H ?_|refine aD H ?_))))
  rw[zOD]at H;refine zDi (n:=3) H (by kernel_rfl) rfl ?_
  clear H;intro W H;refine zAw (fuel:=2) 0 1 (by decide +kernel) rfl rfl rfl rfl ?_ ?_
  iterate 2
   all_goals
    intro KK hK;simp only[List.getElem_toArray,List.getElem_cons_succ,List.getElem_cons_zero]
    go_wp2_with (first|((with_reducible refine kg 1 ?_);(first|refine kA 1 H ?_|refine kS 1 H ?_|refine kB 1 H ?_);clear H;intro b1 w H;try simp only[nr]at H)|((with_reducible refine kg 2 ?_);(first|refine kA 2 H ?_|refine kS 2 H ?_|refine kB 2 H ?_);clear H;intro b2 w H;try simp only[nr]at H)|((with_reducible refine kg 3 ?_);(first|refine kA 3 H ?_|refine kS 3 H ?_|refine kB 3 H ?_);clear H;intro b3 w H;try simp only[nr]at H)|((with_reducible refine kg 4 ?_);(first|refine kA 4 H ?_|refine kS 4 H ?_|refine kB 4 H ?_);clear H;intro b4 w H;try simp only[nr]at H)|(first|((with_reducible refine gT ?_);(refine aO H ?_;clear H;intro w H;try simp only[nr]at H))|((with_reducible refine gL ?_);refine aG H ?_)))
    refine hK.out.1 _ _ ?_
    first|((with_reducible show wpAny _ _ _ _ 2 _ _ _);first|refine zAf (fuel:=1) 1 (by decide +kernel) rfl rfl ?_|refine zAf (fuel:=1) 0 (by decide +kernel) rfl rfl ?_)|((with_reducible show wpAny _ _ _ _ 1 _ _ _);refine zAf (fuel:=0) 2 (by decide +kernel) rfl rfl ?_)
  all_goals
   intro KK hK;simp only[List.getElem_toArray,List.getElem_cons_succ,List.getElem_cons_zero]
   go_wp2_with (first|((with_reducible refine kg 1 ?_);(first|refine kA 1 H ?_|refine kS 1 H ?_|refine kB 1 H ?_);clear H;intro b1 w H;try simp only[nr]at H)|((with_reducible refine kg 2 ?_);(first|refine kA 2 H ?_|refine kS 2 H ?_|refine kB 2 H ?_);clear H;intro b2 w H;try simp only[nr]at H)|((with_reducible refine kg 3 ?_);(first|refine kA 3 H ?_|refine kS 3 H ?_|refine kB 3 H ?_);clear H;intro b3 w H;try simp only[nr]at H)|((with_reducible refine kg 4 ?_);(first|refine kA 4 H ?_|refine kS 4 H ?_|refine kB 4 H ?_);clear H;intro b4 w H;try simp only[nr]at H)|((with_reducible refine gT ?_);(refine aO H ?_;clear H;intro w H;try simp only[nr]at H)))
   refine hK.out.1 _ _ ?_
  all_goals
   refine zI7 (by kernel_rfl) ?_
   go_wp2_with (first|fail)
   refine⟨_,zEu Tryz.results9 rfl rfl zBW zBk ((H.cell (i:=2) i_2 0).trans rfl) ((H.cell (i:=3) i_3 0).trans rfl),?_,H.below⟩;rw[E2.out];rfl
 | ok s =>
  rw[hs]at hsi;clear hsp
  go_upto_region 5 with (first|(go_at_call 13;refine zOI (hsi _ (H.knlt .zero) (H.kn .zero)) H ?_;clear H;intro q1 m1 F1 w hF1 H;simp only[ca]at H)|((with_reducible refine kg 1 ?_);(first|refine kA 1 H ?_|refine kS 1 H ?_|refine kB 1 H ?_);clear H;intro b1 w H;try simp only[nr]at H)|((with_reducible refine kg 2 ?_);(first|refine kA 2 H ?_|refine kS 2 H ?_|refine kB 2 H ?_);clear H;intro b2 w H;try simp only[nr]at H)|((with_reducible refine kg 3 ?_);(first|refine kA 3 H ?_|refine kS 3 H ?_|refine kB 3 H ?_);clear H;intro b3 w H;try simp only[nr]at H)|((with_reducible refine kg 4 ?_);(first|refine kA 4 H ?_|refine kS 4 H ?_|refine kB 4 H ?_);clear H;intro b4 w H;try simp only[nr]at H)|(first|((with_reducible refine gT ?_);((first|refine aO H ?_|refine aT H ?_);clear H;intro w H;try simp only[nr]at H))|((with_reducible refine gL ?_);(first|refine aG H ?_|refine aD H ?_))))
  rw[zOD]at H;refine wp_region_lit ?_
  refine zAK rfl (v:=.agg #[.slice none 0 0]) (by simp only[execOp,List.map_toArray,List.map_nil,Sem.run_bind,zKH];rfl) ?_
  go_upto_region 6 with (first|((with_reducible refine kg 17 ?_);(first|refine kA 17 H ?_|refine kS 17 H ?_|refine kB 17 H ?_);clear H;intro b17 w H;try simp only[nr]at H)|fail)
  have H2:HoldG (fun _=>False) w0 w [.blk b17 #[.slice none 0 0] 61,.row (.slice none 0 0) 47 9 (([]:List InstD)).length (zAG ((([]:List InstD)).map zAJ)),.blk b2 #[.slice none 0 0] 32,.blk b3 #[.int .i64 0] 33,.kn F1 (fun V=>ForestR V F1 q1 m1 s.kids),.blk b4 (zAR s.d (.slice q1 s.kids.length m1)) 28]:=(H.addNil 47 9).pick [6,7,2,3,4,5] _ (by decide) rfl
  clear H;have H:=H2;clear H2;refine zCJ 6 [fun v _=>v=pt b17 0,fun v _=>v=pt b17 0,fun v _=>v=pt b17 0,fun v _=>v=zA2 {kind:=5},fun v _=>v=zA2 {kind:=3,slot:=1},zJd w.heap.size (zAJ {kind:=5}++zAJ {kind:=3,slot:=1})] (fun _=>false) (by kernel_rfl) (by kernel_rfl) (by repeat (first|exact trivial|refine⟨zAL _,?_⟩|refine⟨zHc _ _,?_⟩)) (fun _ _ h=>by cases h) ?ob ?en
  case ob =>
   refine⟨?_,?_,?_,?_,?_,?_,trivial⟩<;>intro A W h
   ·exact zAH rfl rfl (h.f 5)
   ·(have e18:A.eval (.tmp 18)=.pointer (some ⟨b17,0,none⟩):=h.d 0 18;refine zAA rfl ?_;simp only[execOp,e18];simp[go_sem])
   ·(have e19:A.eval (.tmp 19)=.pointer (some ⟨b17,0,none⟩):=h.d 1 19;refine zAA rfl ?_;simp only[execOp,e19];simp[go_sem])
   ·(refine zAA rfl ?_;simp only[execOp];(simp only[List.map_toArray,List.map_cons,List.map_nil,Sem.run_bind,zB0,zGN];rfl))
   ·(refine zAA rfl ?_;simp only[execOp];(simp only[List.map_toArray,List.map_cons,List.map_nil,Sem.run_bind,zB0,zOV];rfl))
   ·exact zNq rfl rfl (h.d 3 21) (h.d 4 22) h.below.size (by decide)
  case en =>
   intro vals W hbw hv _;have x5:=hv 5 (by omega);simp only[zAe]at x5
   simp only[fa,Nat.reduceAdd];rw[e_ hv 0,e_ hv 1,e_ hv 2,e_ hv 3,e_ hv 4];clear hv
   try simp only[pl]
   obtain⟨bk,e5,H2⟩:=H.gainQ hbw x5;rw[e5];clear x5 e5 hbw H;have H:=H2;clear H2;simp only[ca]at H;obtain⟨Fk,H2⟩:=H.twoInst (i:=6) i_6;clear H;have H:=H2;clear H2;simp only[sc]at H
   go_upto_region 7 with (first|(go_at_call 26;refine zP4 (xs:=[]) H (i:=4) i_4 (by simp) ?_;clear H;intro v2 zs w H hys;(obtain rfl:=hys.out);clear hys)|fail)
   obtain⟨hks,hss⟩:=zD7 hs;have hs:=Lib.hid hs;have hlay:=fun v w=>zOO 2000 (Nat.le_refl _) s q1 s.kids.length m1 F1 b17 v zB5 1 (fun _=>False) w0 w hss hks rfl (by decide)
   obtain⟨ar,har⟩:∃ r,layP s 1 zB5=r:=⟨_,rfl⟩;obtain⟨a,ys⟩:=ar;have EL:=Lib.hid (zNH s a ys har);rw[har]at hlay;clear har hks hss
   by_cases hy:ys.length<=4000
   ·rw[zBw (by simpa using hy)]at hlay
    have hrefl:∀ W,BelR W W:=BelR.refl;refine zBd BelR (PutR b17 w0.heap.size) [6] (fun r W=>match r with|0=>HoldG (fun _=>False) w0 W ([.blk b17 #[v2] 61,.row v2 47 9 (zB5).length (zAG ((zB5).map zAJ)),.blk b2 #[.slice none 0 0] 32,.blk b3 #[.int .i64 0] 33,.kn F1 (fun V=>ForestR V F1 q1 m1 s.kids),.blk b4 (zAR s.d (.slice q1 s.kids.length m1)) 28,.kn Fk (InstsR Fk (some ⟨bk,0,none⟩) 2 zB5)])|_=>∃ v3,HoldG (fun _=>False) w0 W ([.blk b17 #[v3] 61,.row v3 47 9 (ys).length (zAG ((ys).map zAJ)),.blk b2 #[.slice none 0 0] 32,.blk b3 #[.int .i64 0] 33,.kn F1 (fun V=>ForestR V F1 q1 m1 s.kids),.blk b4 (zAR s.d (.slice q1 s.kids.length m1)) 28,.kn Fk (InstsR Fk (some ⟨bk,0,none⟩) 2 zB5)])) (PutR.bel _ _) (fun r u v h hb=>match r,h with|0,h=>HoldG.call h hb|_+1,⟨v3,h⟩=>⟨v3,HoldG.call h hb⟩) BelR.drew BelR.refl (PutR.trans _ _) 9 [fun v _=>v=pt b17 0,fun v _=>v=pt b17 0,fun v _=>v=pt b17 0,fun v _=>v=pt b17 0,fun v _=>v=zAV s.d (.slice q1 s.kids.length m1),fun v _=>v=.int .i64 1,fun v _=>v=.int .i64 (a:Int),fun v _=>v=zA2 {kind:=3,next:=a},zGz b17 w0.heap.size w (zAJ {kind:=3,next:=a}) 47] (by repeat (first|exact trivial|refine⟨zAy _,?_⟩|refine⟨zDa _ _ _,?_⟩)) (by kernel_rfl) (H) (by kernel_rfl) (by kernel_rfl) (by kernel_rfl) ?ob ?en
    case ob =>
     refine⟨?_,?_,?_,?_,?_,?_,?_,?_,?_,trivial⟩
     ·intro A W h;exact zBa hrefl rfl rfl (h.f 5)
     ·intro A W h;(have e25:A.eval (.tmp 25)=.pointer (some ⟨b17,0,none⟩):=h.d 0 25;refine zAS hrefl rfl ?_;simp only[execOp,e25];simp[go_sem])
     ·intro A W h;(have e26:A.eval (.tmp 26)=.pointer (some ⟨b17,0,none⟩):=h.d 1 26;refine zAS hrefl rfl ?_;simp only[execOp,e26];simp[go_sem])
     ·intro A W h;exact zBa hrefl rfl rfl (h.f 5)
     ·intro A W h;exact zAS hrefl rfl (zAb rfl (h.f 4) zAP rfl (fun k _=>by rw[Nat.zero_add];exact zB6 H h.rel (i:=3) i_3 k))
     ·intro A W h;exact zBa hrefl rfl rfl (h.f 6)
     ·intro A W h hst;exact zMl rfl rfl (enters_of Tryz.func27 (by kernel_rfl) rfl) (zH7 ⟨h.d 3 28,h.d 4 29,h.d 5 30⟩) hst (Still.at (i:=4) i_4) (fun V hV=>(HoldG.kn hst (i:=4) i_4).kept hV) (fun h=>hlay _ _ h)
     ·intro A W h;(have e31:A.eval (.tmp 31)=.int .i64 (a:Int):=h.d 6 31;refine zAS hrefl rfl ?_;simp only[execOp,e31];(simp only[List.map_toArray,List.map_cons,List.map_nil,e31,Sem.run_bind,zB0,zLC];rfl))
     ·intro A W h;exact zHn rfl rfl (h.d 7 32) h.rel (zEU H) H.keep.size (zFi H)
    case en =>
     intro vals W hbw hv hst;have x8:=hv 8 (by omega);simp only[zAe]at x8
     simp only[fa,Nat.reduceAdd];rw[e_ hv 0,e_ hv 1,e_ hv 2,e_ hv 3,e_ hv 4,e_ hv 5,e_ hv 6,e_ hv 7];clear hv
     try simp only[pl]
     obtain⟨v3,H2⟩:=hst;obtain⟨bq,e8,H3⟩:=zGP H H2 x8;rw[e8];clear x8 e8 hbw H H2;have H:=H3;clear H3;simp only[ca]at H;obtain⟨Fq,H2⟩:=H.oneInst (i:=7) i_7;clear H;have H:=H2;clear H2;simp only[sc]at H
     by_cases hl2:ys.length<4000
     ·have E2:=Lib.hid (show zCh t=.ok (zBi (zFb s)) by unfold zCh;rw[hs.out];simp only;rw[if_neg (by rw[EL.out];simp;omega)])
      go_upto_region 8 with (first|(go_at_call 26;refine zDm H hy (i:=5) i_5 hl2 ?_;clear H;intro v4 zs w H hys)|fail)
      have hys2:zs=zFb s:=by rw[hys.out,EL.out]
      obtain⟨N,hN⟩:∃ N,(zFb s).length=N:=⟨_,rfl⟩;have hN1:0<N/\N<=4000:=by rw[← hN,EL.out];simp;omega
      obtain⟨q4,c4,rfl,_,_,hq4⟩:=H.rowShape (i:=1) i_1;rw[hys2]at H hq4;rw[hN]at H hq4;clear hys hys2;obtain⟨g4,rfl⟩:=hq4 hN1.1;clear hq4;have H2:HoldG (fun _=>False) w0 w [.row (.slice (some ⟨g4,0,none⟩) N c4) 47 9 N (zAG ((zFb s).map zAJ)),.blk b17 #[.slice (some ⟨g4,0,none⟩) N c4] 61,.blk b2 #[.slice none 0 0] 32,.blk b3 #[.int .i64 0] 33]:=H.pick [1,0,2,3] _ (by decide) rfl
      clear H;have H:=H2;clear H2;have htu:=fun W (H:HoldG (fun _=>False) w0 W [.row (.slice (some ⟨g4,0,none⟩) N c4) 47 9 N (zAG ((zFb s).map zAJ)),.blk b17 #[.slice (some ⟨g4,0,none⟩) N c4] 61,.blk b2 #[.slice none 0 0] 32,.blk b3 #[.int .i64 0] 33])=>zMO b17 g4 c4 N (zFb s) _ (by omega) hN1.1 hN H
      have HNN:=Lib.hid hN;clear hN hN1
      go_wp2_with (first|(go_at_call 28;refine(htu _ H).mono (fun e w' hc=>?_);obtain⟨rfl,H2⟩:=hc;clear htu H;have H:=H2;clear H2)|((with_reducible refine gT ?_);(refine aO H ?_;clear H;intro w H;try simp only[nr]at H)))
      refine⟨by simp,.inr ⟨fun _=>by omega,_,_,_,_,rfl,by simp[go_sem],fun g hg=>trivial,(zJX 8 (.pointer (some ⟨b2,0,none⟩)) (.pointer (some ⟨b3,0,none⟩)) _).mono ?_⟩⟩
      rintro e u' W' ⟨rfl,rfl,rfl⟩;refine⟨_,zEu Tryz.results9 rfl rfl zBW zBk ((H.cell (i:=2) i_2 0).trans rfl) ((H.cell (i:=3) i_3 0).trans rfl),?_,H.below⟩;rw[E2.out];exact MakeOwn.of H HNN.out
     ·have E2:=Lib.hid (show zCh t=.error 7 by unfold zCh;rw[hs.out];simp only;rw[if_pos (by rw[EL.out];simp;omega)])
      go_wp2_with (first|(go_at_call 26;refine zEo H hy (i:=5) i_5 hl2 ?_;clear H;intro v4 zs w H)|fail)
      have H3:HoldG (fun _=>False) w0 w (mkL b2 b3 (.slice none 0 0) 0):=H.pick [2,3] _ (by decide) rfl
      refine⟨by simp,.inr ⟨fun _=>by omega,_,_,_,_,rfl,by simp[go_sem],fun g hg=>trivial,(zEe 8 b2 b3 _ _ 7 _ H3).mono ?_⟩⟩
      rintro e u' W' ⟨rfl,rfl,H5⟩;refine⟨_,zEu Tryz.results9 rfl rfl zBW zBk ((H5.cell (i:=0) .zero 0).trans rfl) ((H5.cell (i:=1) i_1 0).trans rfl),?_,H5.below⟩;rw[E2.out];rfl
   ·rw[zBE (by simpa using hy)]at hlay
    have E2:=Lib.hid (show zCh t=.error 7 by unfold zCh;rw[hs.out];simp only;rw[if_pos (by rw[EL.out];simp;omega)])
    have hrefl:∀ W,BelR W W:=BelR.refl;refine zBd BelR (PutR b17 w0.heap.size) [6] (fun _ W=>HoldG (fun _=>False) w0 W ([.blk b17 #[v2] 61,.row v2 47 9 (zB5).length (zAG ((zB5).map zAJ)),.blk b2 #[.slice none 0 0] 32,.blk b3 #[.int .i64 0] 33,.kn F1 (fun V=>ForestR V F1 q1 m1 s.kids),.blk b4 (zAR s.d (.slice q1 s.kids.length m1)) 28,.kn Fk (InstsR Fk (some ⟨bk,0,none⟩) 2 zB5)])) (PutR.bel _ _) (fun r u v h hb=>HoldG.call h hb) BelR.drew BelR.refl (PutR.trans _ _) 9 [fun v _=>v=pt b17 0,fun v _=>v=pt b17 0,fun v _=>v=pt b17 0,fun v _=>v=pt b17 0,fun v _=>v=zAV s.d (.slice q1 s.kids.length m1),fun v _=>v=.int .i64 1,fun _ _=>False,fun _ _=>False,fun _ _=>False] (by repeat (first|exact trivial|refine⟨zAy _,?_⟩|refine⟨fun _ _ _ h _=>h,?_⟩)) (by kernel_rfl) (H) (by kernel_rfl) (by kernel_rfl) (by kernel_rfl) ?ob ?en
    case ob =>
     refine⟨?_,?_,?_,?_,?_,?_,?_,?_,?_,trivial⟩
     ·intro A W h;exact zBa hrefl rfl rfl (h.f 5)
     ·intro A W h;(have e25:A.eval (.tmp 25)=.pointer (some ⟨b17,0,none⟩):=h.d 0 25;refine zAS hrefl rfl ?_;simp only[execOp,e25];simp[go_sem])
     ·intro A W h;(have e26:A.eval (.tmp 26)=.pointer (some ⟨b17,0,none⟩):=h.d 1 26;refine zAS hrefl rfl ?_;simp only[execOp,e26];simp[go_sem])
     ·intro A W h;exact zBa hrefl rfl rfl (h.f 5)
     ·intro A W h;exact zAS hrefl rfl (zAb rfl (h.f 4) zAP rfl (fun k _=>by rw[Nat.zero_add];exact zB6 H h.rel (i:=3) i_3 k))
     ·intro A W h;exact zBa hrefl rfl rfl (h.f 6)
     ·intro A W h hst;exact zJR rfl rfl (enters_of Tryz.func27 (by kernel_rfl) rfl) (zH7 ⟨h.d 3 28,h.d 4 29,h.d 5 30⟩) hst (Still.at (i:=4) i_4) (fun V hV=>(HoldG.kn hst (i:=4) i_4).kept hV) (fun h=>hlay _ _ h) (fun v3 zs w' H2=>by obtain⟨T,D⟩:=A;obtain rfl:D=_:=h.defers;have H3:HoldG (fun _=>False) w0 w' (mkL b2 b3 (.slice none 0 0) 0):=H2.pick [2,3] _ (by decide) rfl;refine⟨by simp,.inr ⟨fun _=>by omega,_,_,_,_,rfl,by simp[go_sem],fun g hg=>trivial,(zEe 8 b2 b3 _ _ 7 _ H3).mono ?_⟩⟩;rintro e u' W' ⟨rfl,rfl,H5⟩;refine⟨_,zEu Tryz.results9 (h.f 2) (h.f 3) zBW zBk ((H5.cell (i:=0) .zero 0).trans rfl) ((H5.cell (i:=1) i_1 0).trans rfl),?_,H5.below⟩;rw[E2.out];rfl)
     ·intro A W h;exact(show False from h.d 6 31).elim
     ·intro A W h;exact(show False from h.d 7 32).elim
    case en =>
     intro vals W hbw hv hst;exact(show False from hv 6 (by omega)).elim
theorem zJB {o:Oper} {a:Act} {w:World} {x y:Operand} {U:TypeId} {d:InstD} (hop:o.op=.binOp .neq 47 x y U) (hx:a.eval x=zA2 d) (hy:a.eval y=zA2 d):(execOp a.eval o).run Tryz.prog w=.ok (.value (.bool false)) w:=by
 rw[zLs hop hx hy];have:eqI d d=true:=by simp[eqI,eqS]
 rw[this];rfl
theorem zE1 (q q2:Option Addr) (c c2:Nat) (xs:List InstD) (F G:Nat->Prop) (w0:World) (hF:∀ b,F b->b<w0.heap.size) (hG:∀ b,G b->b<w0.heap.size) (h1:InstsR F q c xs w0) (h2:InstsR G q2 c2 xs w0) :
  Calls Tryz.prog 14 #[.slice q xs.length c,.slice q2 xs.length c2] w0 (Rt (.bool true) w0):=by
 have hb1:=h1.bound;have hat1:=h1.at;have hat2:=h2.at
 have H:=(Hold.insts hF h1).know G (InstsR G q2 c2 xs) hG (fun i r h=>by
  rcases i with _|i
  ·simp at h;subst h;intro b hb;cases hb
  ·simp at h) (fun V hV=>h2.kept hV)
 simp only[ca]at H;clear h1 h2;obtain⟨n,hn⟩:∃ n,xs.length=n:=⟨_,rfl⟩;have HN:=Lib.hid hn;rw[hn]at hb1 hat1 hat2 ⊢;clear hn;have hne:((n:Int) != (n:Int))=false:=by simp
 go_enter Tryz.func14,Tryz.ntmps14
 go_wp2_with fail
 go_loopw [5] (fun i wr=>∃ k:Nat,k<=n/\i=.int .i64 k/\Hold w0 wr [.kn F (InstsR F q c xs),.kn G (InstsR G q2 c2 xs)]) (fun i _=>n - (intOf i).toNat)
 case atStart=>exact⟨0,by omega,rfl,H⟩
 case round =>
  clear H;obtain⟨k,hk,rfl,H⟩:=hrel
  by_cases hlt:k<n
  ·have dk:decide (k<n)=true:=decide_eq_true hlt;have dk2:decide ((k:Int)<(n:Int))=true:=decide_eq_true (by omega)
   obtain⟨b1,o1,rfl⟩:=hat1 (by omega)
   obtain⟨b2,o2,rfl⟩:=hat2 (by omega)
   obtain⟨x,hx⟩:∃ x,xs[k]?=some x:=⟨_,List.getElem?_eq_getElem (by rw[HN.out];exact hlt)⟩
   have HC1:=Lib.hid (fun V (h:InstsR F (some ⟨b1,o1,none⟩) c xs V)=>h.cells hx rfl:∀ V,InstsR F (some ⟨b1,o1,none⟩) c xs V->∀ q,q<9->V.cell? ⟨b1,o1+k * 9+q,none⟩=(zAJ x)[q]?)
   have HC2:=Lib.hid (fun V (h:InstsR G (some ⟨b2,o2,none⟩) c2 xs V)=>h.cells hx rfl:∀ V,InstsR G (some ⟨b2,o2,none⟩) c2 xs V->∀ q,q<9->V.cell? ⟨b2,o2+k * 9+q,none⟩=(zAJ x)[q]?)
   clear hx
   go_upto_region 6 with fail
   refine wr_ 9 [fun v _=>v=.slice (some ⟨b1,o1,none⟩) n c,fun v _=>v=.int .i64 (k:Int),fun v _=>v=.pointer (some ⟨b1,o1+k * 9,none⟩),fun v _=>v=zA2 x,fun v _=>v=.slice (some ⟨b2,o2,none⟩) n c2,fun v _=>v=.int .i64 (k:Int),fun v _=>v=.pointer (some ⟨b2,o2+k * 9,none⟩),fun v _=>v=zA2 x,fun v _=>v=.bool false] ?ob ?en
   case ob =>
    refine⟨?_,?_,?_,?_,?_,?_,?_,?_,?_,trivial⟩<;>intro A W h
    ·exact zAH rfl rfl (h.f 0)
    ·exact zAH rfl rfl (h.f 5)
    ·exact zBr (sz:=9) Tryz.underlying32 (fun w=>by kernel_rfl) rfl rfl (h.d 0 17) (h.d 1 18) hlt rfl (by decide)
    ·exact zAA rfl (zAb rfl (h.d 2 19) zAj rfl (HC1.out _ ((H.call h.below).kn (i:=0) .zero))) (by decide)
    ·exact zAH rfl rfl (h.f 1)
    ·exact zAH rfl rfl (h.f 5)
    ·exact zBr (sz:=9) Tryz.underlying32 (fun w=>by kernel_rfl) rfl rfl (h.d 4 21) (h.d 5 22) hlt rfl (by decide)
    ·exact zAA rfl (zAb rfl (h.d 6 23) zAj rfl (HC2.out _ ((H.call h.below).kn (i:=1) i_1))) (by decide)
    ·exact zAA rfl (zJB rfl (h.d 3 20) (h.d 7 24)) (by decide)
   case en =>
    intro vals W hbw hv _;simp only[fa,Nat.reduceAdd];rw[e_ hv 0,e_ hv 1,e_ hv 2,e_ hv 3,e_ hv 4,e_ hv 5,e_ hv 6,e_ hv 7,e_ hv 8];clear hv
    try simp only[pl]
    replace H:=H.call hbw;clear hbw
    go_wp2_with fail
    go_roundw
    case rel=>exact⟨k+1,by omega,by go_num,H⟩
    case measure=>simp[intOf];omega
  ·obtain rfl:k=n:=by omega
   have dk:decide (k<k)=false:=by simp
   have dk2:decide ((k:Int)<(k:Int))=false:=by simp
   go_wp2_with fail
   go_ret;exact⟨rfl,H.below⟩
section
variable {M:Nat->Prop} {P:Program} {f:FuncId} {args:Array Value} {w w0:World} {l:List Res} {R:Ending->World->Prop}
theorem zPQ {ps:List InstD} (c:Calls P f args w fun e w'=>MakeOwn w (.ok ps) e w'/\Below w.heap.size w w') (H:HoldG M w0 w l)
  (k:∀ q n w',HoldG M w0 w' (l++[.row (.slice q ps.length n) 47 9 ps.length (zAG (ps.map zAJ))])->R (.returned (.tuple #[.slice q ps.length n,.int .i64 0])) w'):Calls P f args w R:=c.mono fun _ w' h=>by
 obtain⟨⟨q,n,rfl,ho⟩,hb⟩:=h;exact k q n w' (H.gainRowZ hb ho)
theorem zOF {x:Nat} (c:Calls P f args w fun e w'=>MakeOwn w (.error x) e w'/\Below w.heap.size w w') (H:HoldG M w0 w l)
  (k:∀ w',HoldG M w0 w' l->R (.returned (.tuple #[.slice none 0 0,.int .i64 x])) w'):Calls P f args w R:=c.mono fun _ w' h=>by
 obtain⟨rfl,hb⟩:=h;exact k w' (H.call hb)
end
theorem HoldG.restInsts {M:Nat->Prop} {w0 w:World} {l:List Res} (H:HoldG M w0 w l) {i cap n:Nat} {q:Option Addr} {xs:List InstD} (hi:At l i (.row (.slice q n cap) 47 9 n (zAG (xs.map zAJ)))) (hn:xs.length=n) :
  ∃ F:Nat->Prop,HoldG M w0 w (l.set i (.kn F (InstsR F q cap xs))):=by
 subst hn;refine⟨_,H.rest hi (InstsR (Res.foot (.row (.slice q xs.length cap) 47 9 xs.length (zAG (xs.map zAJ)))) q cap xs) fun V hV=>?_⟩
 exact RdN.of_own (H.all i _ hi.get) (zAW xs) (by rw[List.length_map]) (fun b hb=>hV b hb)
theorem zIZ (l:List (Tree × Nat)) (g:Int):zDS l<=g↔0<=g/\∀ x ∈ l,x.1.d.group<=g:=by
 have key:∀ (l:List (Tree × Nat)) (a:Int),l.foldl (fun m x=>max m x.1.d.group) a<=g↔a<=g/\∀ x ∈ l,x.1.d.group<=g:=by
  intro l
  induction l with
  | nil=>intro a;simp
  | cons x r ih =>
   intro a;simp only[List.foldl_cons,ih,List.mem_cons,forall_eq_or_imp];constructor
   ·rintro⟨h1,h2⟩;exact⟨by omega,by omega,h2⟩
   ·rintro⟨h1,h2,h3⟩;exact⟨by omega,h3⟩
 exact key l 0
mutual
theorem zMp (g:Int) (hg:0<=g):∀ t:Tree,grpT t<=g↔allT (fun t=>decide (t.d.group<=g)) t=true
 | .mk d ks=>by
  rw[grpT,allT,Bool.and_eq_true,← zKC g hg ks,decide_eq_true_eq]
  show max d.group (zDe ks)<=g↔d.group<=g/\zDe ks<=g
  omega
theorem zKC (g:Int) (hg:0<=g):∀ ts:List Tree,zDe ts<=g↔zC8 (fun t=>decide (t.d.group<=g)) ts=true
 | []=>by simp[zDe,zC8,hg]
 | t::r=>by
  simp only[zDe,zC8,Bool.and_eq_true];rw[← zMp g hg t,← zKC g hg r];omega
end
theorem zKN (t:Tree):zDS (zBO t)=grpT t:=by
 have h:∀ g:Int,0<=g->(zDS (zBO t)<=g↔grpT t<=g):=fun g hg=>by
  rw[zIZ,zMp g hg,← zFF,List.all_eq_true];simp[hg]
 have h1:=(h (grpT t) (zEa t)).2 (Int.le_refl _);have h0:0<=zDS (zBO t):=((zIZ (zBO t) _).1 (Int.le_refl _)).1;have h2:=(h _ h0).1 (Int.le_refl _);omega
theorem zJP {ts:List Tree} {j:Nat} {t:Tree} (h:ts[j]?=some t):zBR (ts.take (j+1))=zBR (ts.take j)+zCw t:=by
 rw[zBb h]
 generalize ts.take j=l
 induction l with
 | nil=>simp[zBR]
 | cons a r ih=>simp only[List.cons_append,zBR,ih];omega
mutual
theorem zJ9:∀ t:Tree,zCw t+1<=3 * zAB t
 | .mk d ks=>by
  simp only[zCw,zAB];have h1:=zGZ ks;split
  ·omega
  ·split
   ·omega
   ·split<;>omega
theorem zGZ:∀ ts:List Tree,zBR ts+ts.length<=3 * zAF ts
 | []=>by simp[zBR,zAF]
 | t::r=>by simp only[zBR,zAF,List.length_cons];have:=zJ9 t;have:=zGZ r;omega
end
theorem zIk (ts:List Tree) (j:Nat):zBR (ts.take j)<=zBR ts:=by
 induction ts generalizing j with
 | nil=>simp
 | cons t ts ih=>cases j with
  | zero=>simp[zBR]
  | succ j=>simp only[List.take_succ_cons,zBR];have:=ih j;omega
def zNo (d:NodeD) (n:Nat):Nat:=if d.kind=1\/d.kind=4 then 0 else if d.kind=5 then n - 1 else if d.kind=7 then 2 else 1
theorem zJb:∀ (m:Nat) (t:Tree) (p:Option Addr) (n c:Nat) (F:Nat->Prop) (w0:World),m<=1000000->zAB t<=m->zAk t=true->(∀ b,F b->b<w0.heap.size)->ForestR w0 F p c t.kids->n=t.kids.length ->
  Calls Tryz.prog 15 #[zAV t.d (.slice p n c)] w0 (Rt (.int .i64 (zCw t:Nat)) w0)
 | 0,t,_,_,_,_,_,_,hm,_,_,_,_=>by have:=zBX t;omega
 | m+1,.mk d ts,p,n,c,F,w0,hm2,hm,hkt,hF,h,hn=>by
  have IH:=zJb m;simp only[Tree.kids,Tree.d]at h hn ⊢;obtain⟨xs,h1,h2,rfl⟩:=h.open;rw[List.length_map]at hn;rw[← hn]at h1;have hK:Knows F p n c xs w0:=⟨h1,h2⟩;clear h h1 h2;have H:=Hold.knows hF hK;have hc1:=hK.bound.2.1;have hc2:=hK.bound.2.2;have hp:=hK.at;clear hK;simp only[zAB]at hm;have hsz:=zGZ (xs.map (·.1));have hkk:zAu d (xs.map (·.1)).length=true/\zAU (xs.map (·.1))=true:=by simpa [zAk] using hkt
  have hk5:d.kind=5->1<n:=fun h5=>by have:=ok_5 hkk.1 h5;rw[List.length_map]at this;omega
  obtain⟨B,hB⟩:∃ B,zNo d n=B:=⟨_,rfl⟩;have ET:=Lib.hid (show zCw (.mk d (xs.map (·.1)))=B+zBR (xs.map (·.1)) by rw[← hB];simp only[zCw,zNo,List.length_map,hn])
  have hBb:B<=1000000:=by
   rw[← hB];unfold zNo;have:=zBp (xs.map (·.1));rw[List.length_map]at this;split
   ·omega
   ·split
    ·omega
    ·split<;>omega
  obtain⟨q1,hq1⟩:∃ q,(d.kind == 1)=q:=⟨_,rfl⟩;obtain⟨q4,hq4⟩:∃ q,(d.kind == 4)=q:=⟨_,rfl⟩;obtain⟨q5,hq5⟩:∃ q,(d.kind == 5)=q:=⟨_,rfl⟩;obtain⟨q7,hq7⟩:∃ q,(d.kind == 7)=q:=⟨_,rfl⟩;have hBq:B=if q1=true\/q4=true then 0 else if q5=true then n - 1 else if q7=true then 2 else 1:=by
   rw[← hB];unfold zNo;subst hq1 hq4 hq5 hq7;simp only[beq_iff_eq]
  have hq5n:q5=true->1<n:=fun h=>hk5 (by rw[← hq5]at h;simpa using h)
  have HN:=Lib.hid hn;have HKT:=Lib.hid hkk.2;have hnl:n<=1000000:=by have:=zBp (xs.map (·.1));rw[List.length_map]at this;omega
  clear hn hkk hk5 hB hkt;have hcs:q1=true\/(q1=false/\q4=true)\/(q1=false/\q4=false/\q5=true)\/(q1=false/\q4=false/\q5=false/\q7=true)\/(q1=false/\q4=false/\q5=false/\q7=false):=by
   cases q1<;>cases q4<;>cases q5<;>cases q7<;>simp
  go_enter Tryz.func15,Tryz.ntmps15
  rcases hcs with rfl|⟨rfl,rfl⟩|⟨rfl,rfl,rfl⟩|⟨rfl,rfl,rfl,rfl⟩|⟨rfl,rfl,rfl,rfl⟩
  all_goals
   simp only[Bool.false_eq_true,false_or,or_false,or_self,if_true,if_false,true_or,or_true]at hBq;have HB:=Lib.hid hBq;clear hBq
   go_wp2_with (first|((with_reducible refine kg 1 ?_);(first|refine kA 1 H ?_|refine kS 1 H ?_|refine kB 1 H ?_);clear H;intro b1 w H;try simp only[nr]at H)|(first|((with_reducible refine gTi ?_);refine aTi H ?_;clear H;intro w H;try simp only[nr]at H)|((with_reducible refine gLi ?_);refine aLi H ?_)|((with_reducible refine gL ?_);refine aGi H ?_)|((with_reducible refine gBi ?_);refine ib1 ?_)|((with_reducible refine gBi ?_);refine ib2 ?_)|((with_reducible refine gBi ?_);refine ib3 ?_)|((with_reducible refine gBi ?_);refine ib4 ?_)|((with_reducible refine gBi ?_);refine ib5 ?_)|((with_reducible refine gBi ?_);refine ib6 ?_)|((with_reducible refine gBi ?_);refine ib7 ?_)|((with_reducible refine gBi ?_);refine ib0 ?_)|((with_reducible refine gT ?_);(first|((first|refine aS H ?_|refine aW H ?_|refine aO H ?_|refine aT H ?_);clear H;intro w H;try simp only[nr]at H)|(refine aN H ?_;clear H;intro w H;(try simp only[nr]at H);try simp only[zBS,nrl]at H)))|((with_reducible refine gL ?_);(first|refine aV H ?_|refine aL H ?_|refine aVn H ?_|refine aGb H ?_|refine aG H ?_|refine aD H ?_))|((with_reducible refine gX ?_);((first|refine bS H ?_|refine bB H ?_);clear H;intro b w H;try simp only[nr]at H))|((with_reducible refine gA ?_);(refine bA H ?_;clear H;intro b w H;try simp only[nr]at H))|((with_reducible refine gZ ?_);refine nb0 ?_)|((with_reducible refine gZ ?_);refine nb1 ?_)|((with_reducible refine gZ ?_);refine nbS ?_)|((with_reducible refine gZ ?_);refine nbK ?_)|((with_reducible refine gZ ?_);refine nbG ?_)|((with_reducible refine gZ ?_);refine nbR ?_)|((with_reducible refine gZ ?_);refine nbA ?_)|((with_reducible refine gZ ?_);refine fb3 ?_)|((with_reducible refine gES ?_);refine qS ?_)|((with_reducible refine gNS ?_);refine qN ?_)|((with_reducible refine gZ ?_);refine aZ ?_)|((with_reducible refine gI ?_);refine aI ?_)|((with_reducible refine gC ?_);refine aC ?_)|((with_reducible refine gF ?_);refine aF ?_)|((with_reducible refine gU ?_);refine aU ?_)|((with_reducible refine gE ?_);refine aE ?_)|((with_reducible refine gQ ?_);refine aQ ?_)))
   go_loopw [3,4] (fun k i wr=>∃ j:Nat,j<=n/\i=.int .i64 j/\k=.int .i64 ((B+zBR ((xs.map (·.1)).take j):Nat):Int)/\Hold w0 wr [.kn F (Knows F p n c xs),.blk b1 (zAR d (.slice p n c)) 28]) (fun _ i _=>n+1 - (intOf i).toNat)
   case atStart=>exact⟨0,by omega,rfl,by first|(rw[HB.out];simp[zBR];done)|(have h1n:1<n:=hq5n (by trivial);clear hq5n;rw[HB.out];simp only[List.take_zero,zBR,Nat.add_zero];rw[Int.ofNat_sub (by omega)];rfl),H⟩
   case round =>
    clear H;obtain⟨j,hj,rfl,rfl,H⟩:=hrel
    by_cases hlt:j<n
    ·have dj:decide ((j:Int)<(n:Int))=true:=by simp;omega
     obtain⟨x,hx⟩:∃ x,xs[j]?=some x:=⟨_,List.getElem?_eq_getElem (by rw[← HN.out];exact hlt)⟩
     obtain⟨b,off,rfl⟩:=hp (by rw[← HN.out];omega)
     have hxt:(xs.map (·.1))[j]?=some x.1:=by rw[List.getElem?_map,hx];rfl
     have hs1:=zEs hx;have HS:=Lib.hid (zJP hxt);have hmem:=List.mem_of_getElem? hx;have hxk:zAk x.1=true:=zB9.1 HKT.out _ (List.mem_map_of_mem hmem);have hcell:∀ V,Knows F (some ⟨b,off,none⟩) n c xs V->∀ k,k<10->V.cell? ⟨b,off+j * 10+k,none⟩=(zAT x)[k]?:=fun V h=>h.cells hx rfl
     have ih:=fun w (hw:∀ b,F b->b<w.heap.size) (hk:Knows F (some ⟨b,off,none⟩) n c xs w)=>IH x.1 x.2.1 _ x.2.2 F w (by omega) (by omega) hxk hw (hk.2 x hmem) rfl
     have hSb:zBR ((xs.map (·.1)).take j)<=3000000/\zCw x.1<=3000000:=by
      have:=zIk (xs.map (·.1)) j;have:=zJ9 x.1;omega
     clear IH hx hmem hp hxk hxt hs1
     generalize zBR ((xs.map (·.1)).take j)=S at *
     obtain⟨sx,hsx⟩:∃ s,zCw x.1=s:=⟨_,rfl⟩;rw[hsx]at ih hSb HS;clear hsx
     go_wp2_with (first|((with_reducible refine gL ?_);refine zAO wtd_ _ _ rfl rfl zAP (zAl x) (hcell _ (H.kn .zero)) ?_)|((with_reducible refine ch (ih _ (H.knlt .zero) (H.kn .zero)) H ?_);clear H;intro w H)|((with_reducible refine kg 1 ?_);(first|refine kA 1 H ?_|refine kS 1 H ?_|refine kB 1 H ?_);clear H;intro b1 w H;try simp only[nr]at H)|(first|((with_reducible refine gTi ?_);refine aTi H ?_;clear H;intro w H;try simp only[nr]at H)|((with_reducible refine gLi ?_);refine aLi H ?_)|((with_reducible refine gL ?_);refine aGi H ?_)|((with_reducible refine gBi ?_);refine ib1 ?_)|((with_reducible refine gBi ?_);refine ib2 ?_)|((with_reducible refine gBi ?_);refine ib3 ?_)|((with_reducible refine gBi ?_);refine ib4 ?_)|((with_reducible refine gBi ?_);refine ib5 ?_)|((with_reducible refine gBi ?_);refine ib6 ?_)|((with_reducible refine gBi ?_);refine ib7 ?_)|((with_reducible refine gBi ?_);refine ib0 ?_)|((with_reducible refine gT ?_);(first|((first|refine aS H ?_|refine aW H ?_|refine aO H ?_|refine aT H ?_);clear H;intro w H;try simp only[nr]at H)|(refine aN H ?_;clear H;intro w H;(try simp only[nr]at H);try simp only[zBS,nrl]at H)))|((with_reducible refine gL ?_);(first|refine aV H ?_|refine aL H ?_|refine aVn H ?_|refine aGb H ?_|refine aG H ?_|refine aD H ?_))|((with_reducible refine gX ?_);((first|refine bS H ?_|refine bB H ?_);clear H;intro b w H;try simp only[nr]at H))|((with_reducible refine gA ?_);(refine bA H ?_;clear H;intro b w H;try simp only[nr]at H))|((with_reducible refine gZ ?_);refine nb0 ?_)|((with_reducible refine gZ ?_);refine nb1 ?_)|((with_reducible refine gZ ?_);refine nbS ?_)|((with_reducible refine gZ ?_);refine nbK ?_)|((with_reducible refine gZ ?_);refine nbG ?_)|((with_reducible refine gZ ?_);refine nbR ?_)|((with_reducible refine gZ ?_);refine nbA ?_)|((with_reducible refine gZ ?_);refine fb3 ?_)|((with_reducible refine gES ?_);refine qS ?_)|((with_reducible refine gNS ?_);refine qN ?_)|((with_reducible refine gZ ?_);refine aZ ?_)|((with_reducible refine gI ?_);refine aI ?_)|((with_reducible refine gC ?_);refine aC ?_)|((with_reducible refine gF ?_);refine aF ?_)|((with_reducible refine gU ?_);refine aU ?_)|((with_reducible refine gE ?_);refine aE ?_)|((with_reducible refine gQ ?_);refine aQ ?_)))
     go_roundw
     case rel=>exact⟨j+1,by omega,by go_num,by rw[HS.out];go_num,H⟩
     case measure=>simp[intOf];omega
    ·obtain rfl:j=n:=by omega
     have dj:decide ((j:Int)<(j:Int))=false:=by simp
     go_wp2_with (first|((with_reducible refine kg 1 ?_);(first|refine kA 1 H ?_|refine kS 1 H ?_|refine kB 1 H ?_);clear H;intro b1 w H;try simp only[nr]at H)|(first|((with_reducible refine gTi ?_);refine aTi H ?_;clear H;intro w H;try simp only[nr]at H)|((with_reducible refine gLi ?_);refine aLi H ?_)|((with_reducible refine gL ?_);refine aGi H ?_)|((with_reducible refine gBi ?_);refine ib1 ?_)|((with_reducible refine gBi ?_);refine ib2 ?_)|((with_reducible refine gBi ?_);refine ib3 ?_)|((with_reducible refine gBi ?_);refine ib4 ?_)|((with_reducible refine gBi ?_);refine ib5 ?_)|((with_reducible refine gBi ?_);refine ib6 ?_)|((with_reducible refine gBi ?_);refine ib7 ?_)|((with_reducible refine gBi ?_);refine ib0 ?_)|((with_reducible refine gT ?_);(first|((first|refine aS H ?_|refine aW H ?_|refine aO H ?_|refine aT H ?_);clear H;intro w H;try simp only[nr]at H)|(refine aN H ?_;clear H;intro w H;(try simp only[nr]at H);try simp only[zBS,nrl]at H)))|((with_reducible refine gL ?_);(first|refine aV H ?_|refine aL H ?_|refine aVn H ?_|refine aGb H ?_|refine aG H ?_|refine aD H ?_))|((with_reducible refine gX ?_);((first|refine bS H ?_|refine bB H ?_);clear H;intro b w H;try simp only[nr]at H))|((with_reducible refine gA ?_);(refine bA H ?_;clear H;intro b w H;try simp only[nr]at H))|((with_reducible refine gZ ?_);refine nb0 ?_)|((with_reducible refine gZ ?_);refine nb1 ?_)|((with_reducible refine gZ ?_);refine nbS ?_)|((with_reducible refine gZ ?_);refine nbK ?_)|((with_reducible refine gZ ?_);refine nbG ?_)|((with_reducible refine gZ ?_);refine nbR ?_)|((with_reducible refine gZ ?_);refine nbA ?_)|((with_reducible refine gZ ?_);refine fb3 ?_)|((with_reducible refine gES ?_);refine qS ?_)|((with_reducible refine gNS ?_);refine qN ?_)|((with_reducible refine gZ ?_);refine aZ ?_)|((with_reducible refine gI ?_);refine aI ?_)|((with_reducible refine gC ?_);refine aC ?_)|((with_reducible refine gF ?_);refine aF ?_)|((with_reducible refine gU ?_);refine aU ?_)|((with_reducible refine gE ?_);refine aE ?_)|((with_reducible refine gQ ?_);refine aQ ?_)))
     go_ret;exact⟨reti (by rw[ET.out,List.take_of_length_le (by rw[List.length_map,← HN.out];exact Nat.le_refl _)];first|rfl|omega|(push_cast;rfl)),H.below⟩
end
end Go.Proofs.YtalggmbdpmdcbaaGreat
