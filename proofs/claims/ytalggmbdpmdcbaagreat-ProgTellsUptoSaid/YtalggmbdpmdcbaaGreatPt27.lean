/-
  Laws of walks, and walks.
-/
import Derived.Test.YtalggmbdpmdcbaaGreatPt26
import Derived.Test.YtalggmbdpmdcbaaGreatPt24
import Derived.Test.YtalggmbdpmdcbaaGreatPt15
import Derived.Test.YtalggmbdpmdcbaaGreatPt14
import Derived.Test.YtalggmbdpmdcbaaGreatPt16
import Derived.Test.YtalggmbdpmdcbaaGreatPt19
import Derived.Test.YtalggmbdpmdcbaaGreatPt21
set_option linter.unusedVariables false
set_option linter.unusedSimpArgs false
set_option maxRecDepth 100000
set_option maxHeartbeats 16000000
namespace Go.Proofs.YtalggmbdpmdcbaaGreat
section
open Go.RowKit Go.Shelf Go.MapKept
attribute [local go_sem] Oper.semAt_some
def layF (bc:Nat):Value->Option Value
 | .int .i64 k=>if k=4 then some (.func (.func 55) #[.pointer (some ⟨bc,0,none⟩)] #[]) else if k=5 then some (.func (.func 56) #[.pointer (some ⟨bc,0,none⟩)] #[])
  else if k=7 then some (.func (.func 57) #[.pointer (some ⟨bc,0,none⟩)] #[]) else if k=6 then some (.func (.func 58) #[.pointer (some ⟨bc,0,none⟩)] #[]) else none
 | _=>none
theorem zHh {M:Nat->Prop} {w0 w:World} {r0 r1 r2 r3 r4:Res} {l:List Res} {mb ck:Nat} {es:Array MapEntry} (H:HoldG M w0 w (r0::r1::r2::r3::r4::.mp mb es ck::l)):w.heap[mb]?=some (.map es ck):=by
 have h:(Res.mp mb es ck).Holds M w0.heap.size w:=H.all 5 _ rfl;exact h.2
theorem zHA (bc:Nat):layF bc (.int .i64 4)=some (.func (.func 55) #[.pointer (some ⟨bc,0,none⟩)] #[]):=by simp[layF]
theorem zHZ (bc:Nat):layF bc (.int .i64 5)=some (.func (.func 56) #[.pointer (some ⟨bc,0,none⟩)] #[]):=by simp[layF]
theorem zGu (bc:Nat):layF bc (.int .i64 7)=some (.func (.func 57) #[.pointer (some ⟨bc,0,none⟩)] #[]):=by simp[layF]
theorem zG7 (bc:Nat):layF bc (.int .i64 6)=some (.func (.func 58) #[.pointer (some ⟨bc,0,none⟩)] #[]):=by simp[layF]
theorem zC2 {bc:Nat} {es:Array MapEntry} (h:zE7 (.int .i64) (layF bc) [.int .i64 6,.int .i64 7,.int .i64 5,.int .i64 4] es):zJq (.int .i64) (layF bc) es:=by
 refine⟨h.1,fun k v hv=>h.2 k ?_⟩
 unfold layF at hv;split at hv
 ·rename_i n;split at hv
  ·rename_i e;rw[e];simp
  split at hv
  ·rename_i e;rw[e];simp
  split at hv
  ·rename_i e;rw[e];simp
  split at hv
  ·rename_i e;rw[e];simp
  ·cases hv
 ·cases hv
theorem zPd:∃ et,Tryz.prog.underlying 128=some (.map 22 et)/\∀ W,(zeroValue et).run Tryz.prog W=.ok (.nilFunc) W:=by
 refine⟨29,by kernel_rfl,fun W=>by kernel_rfl⟩
theorem zDc {o:Oper} {a:Act} {w:World} {x y:Operand} {et:TypeId} {bc mb ck:Nat} {es:Array MapEntry} {k:Int} {v:Value} (ho:o.op=.lookup 128 x y true) (hT:Tryz.prog.underlying 128=some (.map 22 et)) (hx:a.eval x=.map (some mb)) (hy:a.eval y=.int .i64 k) (h2:w.heap[mb]?=some (.map es ck)) (h3:zJq (.int .i64) (layF bc) es) (hF:layF bc (.int .i64 k)=.some v) :
  (execOp a.eval o).run Tryz.prog w=.ok (.value (.tuple #[v,.bool true])) w:=by
 have:=zHI hT zBt h2 h3 (k:=.int .i64 k) (v:=v) rfl hF;simp only[execOp,ho,hx,hy,Sem.run_bind,this];rfl
theorem zIF {o:Oper} {a:Act} {w:World} {x y:Operand} {et:TypeId} {bc mb ck:Nat} {es:Array MapEntry} {k:Int} (ho:o.op=.lookup 128 x y true) (hT:Tryz.prog.underlying 128=some (.map 22 et)) (hz:∀ W,(zeroValue et).run Tryz.prog W=.ok .nilFunc W) (hx:a.eval x=.map (some mb)) (hy:a.eval y=.int .i64 k) (h2:w.heap[mb]?=some (.map es ck)) (h3:zJq (.int .i64) (layF bc) es) (hF:layF bc (.int .i64 k)=.none) :
  (execOp a.eval o).run Tryz.prog w=.ok (.value (.tuple #[.nilFunc,.bool false])) w:=by
 have:=zEM hT zBt h2 h3 (k:=.int .i64 k) rfl hF hz;simp only[execOp,ho,hx,hy,Sem.run_bind,this];rfl
theorem zQf (m:Nat) (IH:zKK m) (hm2:m<=2000):zKK (m+1):=by
 rintro⟨d,ts⟩ p n c F bc v xs out M w0 w hm hkd hn hxl H0;simp only[Tree.kids,Tree.d]at hn H0 ⊢;simp only[zAi,Bool.and_eq_true]at hkd;simp only[zAC]at hm;have hm':zAD ts<=m:=by omega
 obtain⟨et,het,hez⟩:=zPd;have HET:=Lib.hid het;have HEZ:=Lib.hid hez;clear het hez;have H:=H0.framed;clear H0;obtain⟨rF,hrF⟩:∃ rF,zCz w (zA5 bc v xs++[.kn F (fun V=>ForestR V F p c ts)])=rF:=⟨_,rfl⟩
 obtain⟨rS,hrS⟩:∃ rS,zDG w (zA5 bc v xs++[.kn F (fun V=>ForestR V F p c ts)])=rS:=⟨_,rfl⟩
 rw[hrF,hrS]at H;simp only[zA5,List.cons_append,List.nil_append]at H
 by_cases k4:d.kind=4
 ·have hR:=fun (w':World) (h:HoldG M w0 w' (zA5 bc v xs++[.kn F (fun V=>ForestR V F p c ts)]))=>zRN m IH bc v xs d ts p n c out F hm' hm2 hkd.2 k4 hn h hxl
  have HF:=Lib.hid (show layF bc (.int .i64 d.kind)=some (.func (.func 55) #[.pointer (some ⟨bc,0,none⟩)] #[]) by rw[k4];exact zHA bc)
  clear IH hm hm' hm2 hkd hn k4
  cases hq:capQ (layP (.mk d ts) out xs) with
  | some r =>
   rw[hq]at hR;clear hq
   go_enter Tryz.func27,Tryz.ntmps27
   go_wp2_with (first|((with_reducible show @wpList _ _ _ ({dst:=_,op:=Op.makeMap _ _,type:=_,pos:=_,after:=_,guard:=_}::_) _ _);refine zBb rfl _ rfl H ?_;clear H;intro mb w H;(try simp only[nr]at H);have hM:zE7 (.int .i64) (layF bc) [] (#[]:Array MapEntry):=⟨Sub.nil _ _,fun _ h=>by cases h⟩)|((with_reducible show @wpList _ _ _ ({dst:=_,op:=Op.insert _ _ _ _,type:=_,pos:=_,after:=_,guard:=_}::_) _ _);refine zBn rfl _ _ _ _ rfl HET.out zBt rfl rfl rfl H (i:=5) i_5 hM rfl (by first|exact zHA _|exact zHZ _|exact zGu _|exact zG7 _) ?_;clear H hM;intro es ck w H hM;try simp only[nr]at H)|((with_reducible show @wpList _ _ _ ({dst:=_,op:=Op.lookup _ _ _ _,type:=_,pos:=_,after:=_,guard:=_}::_) _ _);refine zAP rfl (v:=.tuple #[(.func (.func 55) #[.pointer (some ⟨bc,0,none⟩)] #[]),.bool true]) (zDc rfl HET.out evd_ evd_ (zHh H) (zC2 hM) HF.out) ?_)|(go_at_call 55;refine zGS (F:=F) (S:=fun V=>ForestR V F p c ts) H (Still.at (i:=2) i_2) (fun V hV=>(H.kn (i:=2) i_2).kept hV) (fun h=>hR _ h) ?_;clear H;intro v3 w H)|((with_reducible refine kg 4 ?_);(first|refine kA 4 H ?_|refine kS 4 H ?_|refine kB 4 H ?_);clear H;intro b4 w H;try simp only[nr]at H)|((with_reducible refine gL ?_);(first|refine aG H ?_|refine aD H ?_)))
   go_ret;rw[← hrF,← hrS]at H;exact⟨_,rfl,zAj H (i:=3) i_3 (by decide) (by rfl)⟩
  | none =>
   rw[hq]at hR;clear hq
   go_enter Tryz.func27,Tryz.ntmps27
   go_wp2_with (first|((with_reducible show @wpList _ _ _ ({dst:=_,op:=Op.makeMap _ _,type:=_,pos:=_,after:=_,guard:=_}::_) _ _);refine zBb rfl _ rfl H ?_;clear H;intro mb w H;(try simp only[nr]at H);have hM:zE7 (.int .i64) (layF bc) [] (#[]:Array MapEntry):=⟨Sub.nil _ _,fun _ h=>by cases h⟩)|((with_reducible show @wpList _ _ _ ({dst:=_,op:=Op.insert _ _ _ _,type:=_,pos:=_,after:=_,guard:=_}::_) _ _);refine zBn rfl _ _ _ _ rfl HET.out zBt rfl rfl rfl H (i:=5) i_5 hM rfl (by first|exact zHA _|exact zHZ _|exact zGu _|exact zG7 _) ?_;clear H hM;intro es ck w H hM;try simp only[nr]at H)|((with_reducible show @wpList _ _ _ ({dst:=_,op:=Op.lookup _ _ _ _,type:=_,pos:=_,after:=_,guard:=_}::_) _ _);refine zAP rfl (v:=.tuple #[(.func (.func 55) #[.pointer (some ⟨bc,0,none⟩)] #[]),.bool true]) (zDc rfl HET.out evd_ evd_ (zHh H) (zC2 hM) HF.out) ?_)|(go_at_call 55;refine zGN (F:=F) (S:=fun V=>ForestR V F p c ts) H (Still.at (i:=2) i_2) (fun V hV=>(H.kn (i:=2) i_2).kept hV) (fun h=>hR _ h) ?_;clear H;intro v3 ys w H)|((with_reducible refine kg 4 ?_);(first|refine kA 4 H ?_|refine kS 4 H ?_|refine kB 4 H ?_);clear H;intro b4 w H;try simp only[nr]at H)|((with_reducible refine gL ?_);(first|refine aG H ?_|refine aD H ?_)))
   rw[← hrF,← hrS]at H;exact⟨rfl,rfl,_,_,zAj H (i:=3) i_3 (by decide) (by rfl)⟩
 by_cases k5:d.kind=5
 ·have hR:=fun (w':World) (h:HoldG M w0 w' (zA5 bc v xs++[.kn F (fun V=>ForestR V F p c ts)]))=>zRc m IH bc v xs d ts p n c out F hm' hm2 hkd.1 hkd.2 k5 hn h hxl
  have HF:=Lib.hid (show layF bc (.int .i64 d.kind)=some (.func (.func 56) #[.pointer (some ⟨bc,0,none⟩)] #[]) by rw[k5];exact zHZ bc)
  clear IH hm hm' hm2 hkd hn k5
  cases hq:capQ (layP (.mk d ts) out xs) with
  | some r =>
   rw[hq]at hR;clear hq
   go_enter Tryz.func27,Tryz.ntmps27
   go_wp2_with (first|((with_reducible show @wpList _ _ _ ({dst:=_,op:=Op.makeMap _ _,type:=_,pos:=_,after:=_,guard:=_}::_) _ _);refine zBb rfl _ rfl H ?_;clear H;intro mb w H;(try simp only[nr]at H);have hM:zE7 (.int .i64) (layF bc) [] (#[]:Array MapEntry):=⟨Sub.nil _ _,fun _ h=>by cases h⟩)|((with_reducible show @wpList _ _ _ ({dst:=_,op:=Op.insert _ _ _ _,type:=_,pos:=_,after:=_,guard:=_}::_) _ _);refine zBn rfl _ _ _ _ rfl HET.out zBt rfl rfl rfl H (i:=5) i_5 hM rfl (by first|exact zHA _|exact zHZ _|exact zGu _|exact zG7 _) ?_;clear H hM;intro es ck w H hM;try simp only[nr]at H)|((with_reducible show @wpList _ _ _ ({dst:=_,op:=Op.lookup _ _ _ _,type:=_,pos:=_,after:=_,guard:=_}::_) _ _);refine zAP rfl (v:=.tuple #[(.func (.func 56) #[.pointer (some ⟨bc,0,none⟩)] #[]),.bool true]) (zDc rfl HET.out evd_ evd_ (zHh H) (zC2 hM) HF.out) ?_)|(go_at_call 56;refine zGS (F:=F) (S:=fun V=>ForestR V F p c ts) H (Still.at (i:=2) i_2) (fun V hV=>(H.kn (i:=2) i_2).kept hV) (fun h=>hR _ h) ?_;clear H;intro v3 w H)|((with_reducible refine kg 4 ?_);(first|refine kA 4 H ?_|refine kS 4 H ?_|refine kB 4 H ?_);clear H;intro b4 w H;try simp only[nr]at H)|((with_reducible refine gL ?_);(first|refine aG H ?_|refine aD H ?_)))
   go_ret;rw[← hrF,← hrS]at H;exact⟨_,rfl,zAj H (i:=3) i_3 (by decide) (by rfl)⟩
  | none =>
   rw[hq]at hR;clear hq
   go_enter Tryz.func27,Tryz.ntmps27
   go_wp2_with (first|((with_reducible show @wpList _ _ _ ({dst:=_,op:=Op.makeMap _ _,type:=_,pos:=_,after:=_,guard:=_}::_) _ _);refine zBb rfl _ rfl H ?_;clear H;intro mb w H;(try simp only[nr]at H);have hM:zE7 (.int .i64) (layF bc) [] (#[]:Array MapEntry):=⟨Sub.nil _ _,fun _ h=>by cases h⟩)|((with_reducible show @wpList _ _ _ ({dst:=_,op:=Op.insert _ _ _ _,type:=_,pos:=_,after:=_,guard:=_}::_) _ _);refine zBn rfl _ _ _ _ rfl HET.out zBt rfl rfl rfl H (i:=5) i_5 hM rfl (by first|exact zHA _|exact zHZ _|exact zGu _|exact zG7 _) ?_;clear H hM;intro es ck w H hM;try simp only[nr]at H)|((with_reducible show @wpList _ _ _ ({dst:=_,op:=Op.lookup _ _ _ _,type:=_,pos:=_,after:=_,guard:=_}::_) _ _);refine zAP rfl (v:=.tuple #[(.func (.func 56) #[.pointer (some ⟨bc,0,none⟩)] #[]),.bool true]) (zDc rfl HET.out evd_ evd_ (zHh H) (zC2 hM) HF.out) ?_)|(go_at_call 56;refine zGN (F:=F) (S:=fun V=>ForestR V F p c ts) H (Still.at (i:=2) i_2) (fun V hV=>(H.kn (i:=2) i_2).kept hV) (fun h=>hR _ h) ?_;clear H;intro v3 ys w H)|((with_reducible refine kg 4 ?_);(first|refine kA 4 H ?_|refine kS 4 H ?_|refine kB 4 H ?_);clear H;intro b4 w H;try simp only[nr]at H)|((with_reducible refine gL ?_);(first|refine aG H ?_|refine aD H ?_)))
   rw[← hrF,← hrS]at H;exact⟨rfl,rfl,_,_,zAj H (i:=3) i_3 (by decide) (by rfl)⟩
 by_cases k7:d.kind=7
 ·have hR:=fun (w':World) (h:HoldG M w0 w' (zA5 bc v xs++[.kn F (fun V=>ForestR V F p c ts)]))=>zPC m IH bc v xs d ts p n c out F hm' hkd.1 hkd.2 k7 hn h hxl
  have HF:=Lib.hid (show layF bc (.int .i64 d.kind)=some (.func (.func 57) #[.pointer (some ⟨bc,0,none⟩)] #[]) by rw[k7];exact zGu bc)
  clear IH hm hm' hm2 hkd hn k7
  cases hq:capQ (layP (.mk d ts) out xs) with
  | some r =>
   rw[hq]at hR;clear hq
   go_enter Tryz.func27,Tryz.ntmps27
   go_wp2_with (first|((with_reducible show @wpList _ _ _ ({dst:=_,op:=Op.makeMap _ _,type:=_,pos:=_,after:=_,guard:=_}::_) _ _);refine zBb rfl _ rfl H ?_;clear H;intro mb w H;(try simp only[nr]at H);have hM:zE7 (.int .i64) (layF bc) [] (#[]:Array MapEntry):=⟨Sub.nil _ _,fun _ h=>by cases h⟩)|((with_reducible show @wpList _ _ _ ({dst:=_,op:=Op.insert _ _ _ _,type:=_,pos:=_,after:=_,guard:=_}::_) _ _);refine zBn rfl _ _ _ _ rfl HET.out zBt rfl rfl rfl H (i:=5) i_5 hM rfl (by first|exact zHA _|exact zHZ _|exact zGu _|exact zG7 _) ?_;clear H hM;intro es ck w H hM;try simp only[nr]at H)|((with_reducible show @wpList _ _ _ ({dst:=_,op:=Op.lookup _ _ _ _,type:=_,pos:=_,after:=_,guard:=_}::_) _ _);refine zAP rfl (v:=.tuple #[(.func (.func 57) #[.pointer (some ⟨bc,0,none⟩)] #[]),.bool true]) (zDc rfl HET.out evd_ evd_ (zHh H) (zC2 hM) HF.out) ?_)|(go_at_call 57;refine zGS (F:=F) (S:=fun V=>ForestR V F p c ts) H (Still.at (i:=2) i_2) (fun V hV=>(H.kn (i:=2) i_2).kept hV) (fun h=>hR _ h) ?_;clear H;intro v3 w H)|((with_reducible refine kg 4 ?_);(first|refine kA 4 H ?_|refine kS 4 H ?_|refine kB 4 H ?_);clear H;intro b4 w H;try simp only[nr]at H)|((with_reducible refine gL ?_);(first|refine aG H ?_|refine aD H ?_)))
   go_ret;rw[← hrF,← hrS]at H;exact⟨_,rfl,zAj H (i:=3) i_3 (by decide) (by rfl)⟩
  | none =>
   rw[hq]at hR;clear hq
   go_enter Tryz.func27,Tryz.ntmps27
   go_wp2_with (first|((with_reducible show @wpList _ _ _ ({dst:=_,op:=Op.makeMap _ _,type:=_,pos:=_,after:=_,guard:=_}::_) _ _);refine zBb rfl _ rfl H ?_;clear H;intro mb w H;(try simp only[nr]at H);have hM:zE7 (.int .i64) (layF bc) [] (#[]:Array MapEntry):=⟨Sub.nil _ _,fun _ h=>by cases h⟩)|((with_reducible show @wpList _ _ _ ({dst:=_,op:=Op.insert _ _ _ _,type:=_,pos:=_,after:=_,guard:=_}::_) _ _);refine zBn rfl _ _ _ _ rfl HET.out zBt rfl rfl rfl H (i:=5) i_5 hM rfl (by first|exact zHA _|exact zHZ _|exact zGu _|exact zG7 _) ?_;clear H hM;intro es ck w H hM;try simp only[nr]at H)|((with_reducible show @wpList _ _ _ ({dst:=_,op:=Op.lookup _ _ _ _,type:=_,pos:=_,after:=_,guard:=_}::_) _ _);refine zAP rfl (v:=.tuple #[(.func (.func 57) #[.pointer (some ⟨bc,0,none⟩)] #[]),.bool true]) (zDc rfl HET.out evd_ evd_ (zHh H) (zC2 hM) HF.out) ?_)|(go_at_call 57;refine zGN (F:=F) (S:=fun V=>ForestR V F p c ts) H (Still.at (i:=2) i_2) (fun V hV=>(H.kn (i:=2) i_2).kept hV) (fun h=>hR _ h) ?_;clear H;intro v3 ys w H)|((with_reducible refine kg 4 ?_);(first|refine kA 4 H ?_|refine kS 4 H ?_|refine kB 4 H ?_);clear H;intro b4 w H;try simp only[nr]at H)|((with_reducible refine gL ?_);(first|refine aG H ?_|refine aD H ?_)))
   rw[← hrF,← hrS]at H;exact⟨rfl,rfl,_,_,zAj H (i:=3) i_3 (by decide) (by rfl)⟩
 by_cases k6:d.kind=6
 ·have hR:=fun (w':World) (h:HoldG M w0 w' (zA5 bc v xs++[.kn F (fun V=>ForestR V F p c ts)]))=>zM8 m IH bc v xs d ts p n c out F hm' hkd.1 hkd.2 k6 hn h hxl
  have HF:=Lib.hid (show layF bc (.int .i64 d.kind)=some (.func (.func 58) #[.pointer (some ⟨bc,0,none⟩)] #[]) by rw[k6];exact zG7 bc)
  clear IH hm hm' hm2 hkd hn k6
  cases hq:capQ (layP (.mk d ts) out xs) with
  | some r =>
   rw[hq]at hR;clear hq
   go_enter Tryz.func27,Tryz.ntmps27
   go_wp2_with (first|((with_reducible show @wpList _ _ _ ({dst:=_,op:=Op.makeMap _ _,type:=_,pos:=_,after:=_,guard:=_}::_) _ _);refine zBb rfl _ rfl H ?_;clear H;intro mb w H;(try simp only[nr]at H);have hM:zE7 (.int .i64) (layF bc) [] (#[]:Array MapEntry):=⟨Sub.nil _ _,fun _ h=>by cases h⟩)|((with_reducible show @wpList _ _ _ ({dst:=_,op:=Op.insert _ _ _ _,type:=_,pos:=_,after:=_,guard:=_}::_) _ _);refine zBn rfl _ _ _ _ rfl HET.out zBt rfl rfl rfl H (i:=5) i_5 hM rfl (by first|exact zHA _|exact zHZ _|exact zGu _|exact zG7 _) ?_;clear H hM;intro es ck w H hM;try simp only[nr]at H)|((with_reducible show @wpList _ _ _ ({dst:=_,op:=Op.lookup _ _ _ _,type:=_,pos:=_,after:=_,guard:=_}::_) _ _);refine zAP rfl (v:=.tuple #[(.func (.func 58) #[.pointer (some ⟨bc,0,none⟩)] #[]),.bool true]) (zDc rfl HET.out evd_ evd_ (zHh H) (zC2 hM) HF.out) ?_)|(go_at_call 58;refine zGS (F:=F) (S:=fun V=>ForestR V F p c ts) H (Still.at (i:=2) i_2) (fun V hV=>(H.kn (i:=2) i_2).kept hV) (fun h=>hR _ h) ?_;clear H;intro v3 w H)|((with_reducible refine kg 4 ?_);(first|refine kA 4 H ?_|refine kS 4 H ?_|refine kB 4 H ?_);clear H;intro b4 w H;try simp only[nr]at H)|((with_reducible refine gL ?_);(first|refine aG H ?_|refine aD H ?_)))
   go_ret;rw[← hrF,← hrS]at H;exact⟨_,rfl,zAj H (i:=3) i_3 (by decide) (by rfl)⟩
  | none =>
   rw[hq]at hR;clear hq
   go_enter Tryz.func27,Tryz.ntmps27
   go_wp2_with (first|((with_reducible show @wpList _ _ _ ({dst:=_,op:=Op.makeMap _ _,type:=_,pos:=_,after:=_,guard:=_}::_) _ _);refine zBb rfl _ rfl H ?_;clear H;intro mb w H;(try simp only[nr]at H);have hM:zE7 (.int .i64) (layF bc) [] (#[]:Array MapEntry):=⟨Sub.nil _ _,fun _ h=>by cases h⟩)|((with_reducible show @wpList _ _ _ ({dst:=_,op:=Op.insert _ _ _ _,type:=_,pos:=_,after:=_,guard:=_}::_) _ _);refine zBn rfl _ _ _ _ rfl HET.out zBt rfl rfl rfl H (i:=5) i_5 hM rfl (by first|exact zHA _|exact zHZ _|exact zGu _|exact zG7 _) ?_;clear H hM;intro es ck w H hM;try simp only[nr]at H)|((with_reducible show @wpList _ _ _ ({dst:=_,op:=Op.lookup _ _ _ _,type:=_,pos:=_,after:=_,guard:=_}::_) _ _);refine zAP rfl (v:=.tuple #[(.func (.func 58) #[.pointer (some ⟨bc,0,none⟩)] #[]),.bool true]) (zDc rfl HET.out evd_ evd_ (zHh H) (zC2 hM) HF.out) ?_)|(go_at_call 58;refine zGN (F:=F) (S:=fun V=>ForestR V F p c ts) H (Still.at (i:=2) i_2) (fun V hV=>(H.kn (i:=2) i_2).kept hV) (fun h=>hR _ h) ?_;clear H;intro v3 ys w H)|((with_reducible refine kg 4 ?_);(first|refine kA 4 H ?_|refine kS 4 H ?_|refine kB 4 H ?_);clear H;intro b4 w H;try simp only[nr]at H)|((with_reducible refine gL ?_);(first|refine aG H ?_|refine aD H ?_)))
   rw[← hrF,← hrS]at H;exact⟨rfl,rfl,_,_,zAj H (i:=3) i_3 (by decide) (by rfl)⟩
 have hR:=fun (w':World) (h:HoldG M w0 w' (zA5 bc v xs++[.kn F (fun V=>ForestR V F p c ts)]))=>zRb bc v xs d (.slice p n c) out F _ h hxl
 have EL:layP (.mk d ts) out xs=oneQ d out xs:=by
  unfold oneQ;rw[layP]
  by_cases k1:d.kind=1
  ·rw[if_pos k1,if_pos k1]
  rw[if_neg k1,if_neg k1]
  by_cases k2:d.kind=2
  ·rw[if_pos k2,if_pos k2]
  rw[if_neg k2,if_neg k2]
  by_cases k3:d.kind=3
  ·rw[if_pos k3,if_pos k3]
  rw[if_neg k3,if_neg k3,if_neg k4,if_neg k5,if_neg k7,if_neg k6]
 rw[← EL]at hR;have HF:=Lib.hid (show layF bc (.int .i64 d.kind)=none by simp[layF,k4,k5,k6,k7])
 clear EL k4 k5 k6 k7 IH hm hm' hm2 hkd hn
 cases hq:capQ (layP (.mk d ts) out xs) with
 | some r =>
  rw[hq]at hR;clear hq
  go_enter Tryz.func27,Tryz.ntmps27
  go_wp2_with (first|((with_reducible show @wpList _ _ _ ({dst:=_,op:=Op.makeMap _ _,type:=_,pos:=_,after:=_,guard:=_}::_) _ _);refine zBb rfl _ rfl H ?_;clear H;intro mb w H;(try simp only[nr]at H);have hM:zE7 (.int .i64) (layF bc) [] (#[]:Array MapEntry):=⟨Sub.nil _ _,fun _ h=>by cases h⟩)|((with_reducible show @wpList _ _ _ ({dst:=_,op:=Op.insert _ _ _ _,type:=_,pos:=_,after:=_,guard:=_}::_) _ _);refine zBn rfl _ _ _ _ rfl HET.out zBt rfl rfl rfl H (i:=5) i_5 hM rfl (by first|exact zHA _|exact zHZ _|exact zGu _|exact zG7 _) ?_;clear H hM;intro es ck w H hM;try simp only[nr]at H)|((with_reducible show @wpList _ _ _ ({dst:=_,op:=Op.lookup _ _ _ _,type:=_,pos:=_,after:=_,guard:=_}::_) _ _);refine zAP rfl (v:=.tuple #[.nilFunc,.bool false]) (zIF rfl HET.out HEZ.out evd_ evd_ (zHh H) (zC2 hM) HF.out) ?_)|(go_at_call 59;refine zGS (F:=F) (S:=fun V=>ForestR V F p c ts) H (Still.at (i:=2) i_2) (fun V hV=>(H.kn (i:=2) i_2).kept hV) (fun h=>hR _ h) ?_;clear H;intro v3 w H)|((with_reducible refine kg 4 ?_);(first|refine kA 4 H ?_|refine kS 4 H ?_|refine kB 4 H ?_);clear H;intro b4 w H;try simp only[nr]at H)|((with_reducible refine gL ?_);(first|refine aG H ?_|refine aD H ?_)))
  go_ret;rw[← hrF,← hrS]at H;exact⟨_,rfl,zAj H (i:=3) i_3 (by decide) (by rfl)⟩
 | none =>
  rw[hq]at hR;clear hq
  go_enter Tryz.func27,Tryz.ntmps27
  go_wp2_with (first|((with_reducible show @wpList _ _ _ ({dst:=_,op:=Op.makeMap _ _,type:=_,pos:=_,after:=_,guard:=_}::_) _ _);refine zBb rfl _ rfl H ?_;clear H;intro mb w H;(try simp only[nr]at H);have hM:zE7 (.int .i64) (layF bc) [] (#[]:Array MapEntry):=⟨Sub.nil _ _,fun _ h=>by cases h⟩)|((with_reducible show @wpList _ _ _ ({dst:=_,op:=Op.insert _ _ _ _,type:=_,pos:=_,after:=_,guard:=_}::_) _ _);refine zBn rfl _ _ _ _ rfl HET.out zBt rfl rfl rfl H (i:=5) i_5 hM rfl (by first|exact zHA _|exact zHZ _|exact zGu _|exact zG7 _) ?_;clear H hM;intro es ck w H hM;try simp only[nr]at H)|((with_reducible show @wpList _ _ _ ({dst:=_,op:=Op.lookup _ _ _ _,type:=_,pos:=_,after:=_,guard:=_}::_) _ _);refine zAP rfl (v:=.tuple #[.nilFunc,.bool false]) (zIF rfl HET.out HEZ.out evd_ evd_ (zHh H) (zC2 hM) HF.out) ?_)|(go_at_call 59;refine zGN (F:=F) (S:=fun V=>ForestR V F p c ts) H (Still.at (i:=2) i_2) (fun V hV=>(H.kn (i:=2) i_2).kept hV) (fun h=>hR _ h) ?_;clear H;intro v3 ys w H)|((with_reducible refine kg 4 ?_);(first|refine kA 4 H ?_|refine kS 4 H ?_|refine kB 4 H ?_);clear H;intro b4 w H;try simp only[nr]at H)|((with_reducible refine gL ?_);(first|refine aG H ?_|refine aD H ?_)))
  rw[← hrF,← hrS]at H;exact⟨rfl,rfl,_,_,zAj H (i:=3) i_3 (by decide) (by rfl)⟩
theorem zP7:∀ m,m<=2000->zKK m
 | 0,_=>fun t _ _ _ _ _ _ _ _ _ _ _ h=>by have:=zAy t;omega
 | m+1,h=>zQf m (zP7 m (by omega)) (by omega)
end
section
open Go.RowKit Go.Shelf
attribute [local go_sem] Oper.semAt_some
theorem zKL (n:Nat) (v2 v3:Value) (w:World):CallsDIn Fence.wide n Tryz.prog 25 #[v3,v2] .returning w fun e u' w'=>e=.returned (.tuple #[])/\u'=.returning/\w'=w:=by
 refine callsDIn_of_wpSIn Tryz.func25 rfl trivial fun c₀ cs hu=>?_
 apply wpSIn_seq;apply wpSIn_region;simp[wpOpsSIn,go_sem,recoverD,hu,Tryz.ntmps25,Exit.thenS];apply wpSIn_seq;apply wpSIn_region;simp[wpOpsSIn,go_sem,Exit.thenS];refine wpSIn_cond (t:=false) (by simp[Act.eval,Array.replicate]) ?_
 simp only[Bool.false_eq_true,if_false];refine wpSIn_of_wpIn rfl (wpIn_skip ?_)
 cases c₀
 simp_all [bodyPostS,results,Tryz.results25]
def mkL (b2 b3:Nat) (v:Value) (x:Int):List Res:=[.blk b2 #[v] 32,.blk b3 #[.int .i64 x] 33]
theorem zFe (n b2 b3:Nat) (v0:Value) (x0:Int) (x:Nat) {w0:World} (w:World) (H:HoldG (fun _=>False) w0 w (mkL b2 b3 v0 x0)) :
  CallsDIn Fence.wide n Tryz.prog 25 #[.pointer (some ⟨b3,0,none⟩),.pointer (some ⟨b2,0,none⟩)] (.panicking (zCo x)) w fun e u' w'=>e=.returned (.tuple #[]) /\
   u'=.panicking [{v:=.iface 33 (.int .i64 x),recovered:=true}]/\HoldG (fun _=>False) w0 w' (mkL b2 b3 (.slice none 0 0) x):=by
 have hta:=zGI x;refine callsDIn_of_wpSIn Tryz.func25 rfl trivial fun c₀ cs2 hu=>?_
 unfold zCo at hu;apply wpSIn_seq;apply wpSIn_region;simp[wpOpsSIn,go_sem,recoverD,hu,Tryz.ntmps25,Exit.thenS];apply wpSIn_seq;apply wpSIn_region;simp[wpOpsSIn,go_sem,Exit.thenS];refine wpSIn_cond (t:=true) (by simp[Act.eval,Array.replicate]) ?_
 simp only[if_true];refine wpSIn_of_wpIn rfl ?_
 rw[wpIn_wide];simp only[Array.replicate_succ,Array.replicate_zero,List.push_toArray,List.append_toArray,List.nil_append,List.cons_append,List.setIfInBounds_toArray,List.set_cons_succ,List.set_cons_zero];unfold mkL at H
 go_upto_region 3 with fail
 refine wp_region_lit ?_
 refine zAP rfl (v:=.iface 33 (.int .i64 x)) rfl ?_
 refine zAP rfl (v:=.tuple #[.int .i64 x,.bool true]) (by simp[execOp,go_sem,Act.eval,Act.put,hta]) ?_
 refine zAP rfl (v:=.tuple #[.int .i64 x,.bool true]) rfl ?_
 refine zAP rfl (v:=.int .i64 x) rfl ?_
 refine zAP rfl (v:=.bool true) rfl ?_
 refine zAb rfl 33 _ _ rfl (b:=b3) (k:=0) rfl (v:=.int .i64 x) rfl H (i:=1) i_1 rfl (show 0<1 from Nat.one_pos) (zAH zB6) ?_
 clear H;intro w H;replace H:HoldG (fun _=>False) w0 w [.blk b2 #[v0] 32,.blk b3 #[.int .i64 x] 33]:=H
 refine zAP rfl (v:=.bool true) rfl ?_
 go_wp2_with (first|((with_reducible refine gT ?_);refine zAb wtd_ _ _ _ rfl rfl rfl H (i:=0) .zero rfl (by simp) (zAH zBW) ?_;clear H;intro w H;try simp only[nr]at H)|fail)
 simp[bodyPostS,results,Tryz.results25];exact H
def MakeOwn (w:World) (r:Except Nat (List InstD)) (e:Ending) (w':World):Prop:=match r with
 | .ok ps=>∃ q c,e=.returned (.tuple #[.slice q ps.length c,.int .i64 0])/\w'.ownsRow w.heap.size 47 9 (.slice q ps.length c) ps.length (zAE (ps.map zAL))
 | .error k=>e=.returned (.tuple #[.slice none 0 0,.int .i64 k])
def zLH (n0:Nat) (cs:Array Value) (v:Value) (W:World):Prop:=∃ b,v=.slice (some ⟨b,0,none⟩) 2 2/\n0<=b/\W.heap[b]?=some (.cells cs 47 (0,0))
theorem zIt (n0:Nat) (cs:Array Value):zEz (zLH n0 cs):=fun v w w' ⟨b,e,h1,h2⟩ hb=>⟨b,e,h1,(hb.block b (Array.getElem?_eq_some_iff.1 h2).1).trans h2⟩
theorem HoldG.gainQ {M:Nat->Prop} {w0 w w':World} {l:List Res} (H:HoldG M w0 w l) (hb:Below w.heap.size w w') {cs:Array Value} {v:Value} (h:zLH w.heap.size cs v w'):∃ b,v=.slice (some ⟨b,0,none⟩) 2 2/\HoldG M w0 w' (l++[.blk b cs 47]):=by
 obtain⟨b,e,h1,h2⟩:=h;obtain⟨b',e',H2⟩:=H.gainB hb (v:=.pointer (some ⟨b,0,none⟩)) ⟨b,rfl,h1,h2⟩
 cases e'
 exact⟨b,e,H2⟩
theorem zOE (d d2:InstD) (W:World):(Instr.buildSlice 32 2 #[(0,zAm d),(1,zAm d2)]).run Tryz.prog W=.ok (.slice (some ⟨W.heap.size,0,none⟩) 2 2) (W.alloc (.cells (zAL d++zAL d2) 47)):=by kernel_rfl
theorem zPG {ops:Array Oper} {o:Oper} {a:Act} {w:World} {x y:Operand} {d d2:InstD} {n0:Nat} {D:Prop} (hg:Region.wanted o (yielded ops a.tmps)=true) (hop:o.op=Op.buildSlice 32 2 #[(0,x),(1,y)]) (hx:a.eval x=zAm d) (hy:a.eval y=zAm d2) (hn:n0<=w.heap.size) (hD:¬ D) :
  zBU Tryz.prog ops o a w (fun v w'=>zLH n0 (zAL d++zAL d2) v w'/\(D->w.heap.size<=blk v)):=by
 refine zC7 hg (v:=.slice (some ⟨w.heap.size,0,none⟩) 2 2) (w':=w.alloc (.cells (zAL d++zAL d2) 47)) ?_ ((Below.refl _ w).alloc (Nat.le_refl _) _) ⟨⟨w.heap.size,rfl,hn,World.alloc_heap_new w _⟩,fun h=>(hD h).elim⟩
 simp only[execOp,hop,List.map_toArray,List.map_cons,List.map_nil,hx,hy,Sem.run_bind,zOE];rfl
theorem HoldG.twoInst {M:Nat->Prop} {w0 w:World} {l:List Res} (H:HoldG M w0 w l) {i b:Nat} {x y:InstD} {T:TypeId} (hi:At l i (.blk b (zAL x++zAL y) T)) :
  ∃ F:Nat->Prop,HoldG M w0 w (l.set i (.kn F (InstsR F (some ⟨b,0,none⟩) 2 [x,y]))):=by
 refine⟨_,H.rest hi (InstsR (Res.foot (.blk b (zAL x++zAL y) T)) (some ⟨b,0,none⟩) 2 [x,y]) fun V hV=>?_⟩
 have hb:=hV b rfl;rw[(H.blk hi).2]at hb;refine⟨_,_,rfl,Nat.le_refl _,by simp[maxLen],(fun h=>by cases h),fun j r hj=>?_⟩
 match j with
 | 0 =>
  simp at hj;subst hj;refine⟨b,0,rfl,rfl,rfl,fun k hk=>?_⟩
  simp only[World.cell?,hb,Nat.zero_mul,Nat.zero_add];exact Array.getElem?_append_left hk
 | 1 =>
  simp at hj;subst hj;refine⟨b,0,rfl,rfl,rfl,fun k hk=>?_⟩
  simp only[World.cell?,hb];rw[show 0+1 * 9+k=(zAL x).size+k from rfl,Array.getElem?_append_right (Nat.le_add_right _ _),Nat.add_sub_cancel_left]
  rfl
 | j+2=>simp at hj
theorem zPy:zCH Tryz.prog 32=#[.slice none 0 0]:=by kernel_rfl
theorem zL5 (W:World):(Instr.build 61 #[]).run Tryz.prog W=.ok (.agg #[.slice none 0 0]) W:=by kernel_rfl
theorem zFJ {P:Program} {fn:Func} {p q:Tmp} {T1 T2:TypeId} (hres:fn.results=#[.cell p T1,.cell q T2]) {tmps:Array Value} {w:World} {b2 b3:Nat}
  (h1:tmps.getD p undef=.pointer (some ⟨b2,0,none⟩)) (h2:tmps.getD q undef=.pointer (some ⟨b3,0,none⟩)) (t1:oneB P T1=true) (t2:oneB P T2=true)
  {v1 v2:Value} (c1:w.cell? ⟨b2,0,none⟩=some v1) (c2:w.cell? ⟨b3,0,none⟩=some v2):(results fn tmps).run P w=.ok (.tuple #[v1,v2]) w:=by
 have e1:tmps[p]?.getD undef=.pointer (some ⟨b2,0,none⟩):=by simpa using h1
 have e2:tmps[q]?.getD undef=.pointer (some ⟨b3,0,none⟩):=by simpa using h2
 simp[results,hres,e1,e2,asAddr,zBr t1 c1,zBr t2 c2]
section
variable {M:Nat->Prop} {w0 w:World} {l3:List Res} {R:Ending->World->Prop} {bc:Nat} {v:Value} {xs:List InstD} {F:Nat->Prop}
theorem zRM {i b:Nat} {x y:InstD} (H:HoldG M w0 w (.blk bc #[v] 61::.row v 47 9 xs.length (zAE (xs.map zAL))::l3)) (hi:At l3 i (.kn F (InstsR F (some ⟨b,0,none⟩) 2 [x,y]))) (hl:xs.length<3000)
  (k:∀ (v':Value) (ys:List InstD) w',HoldG M w0 w' (.blk bc #[v'] 61::.row v' 47 9 ys.length (zAE (ys.map zAL))::l3)->Hid (ys=xs++[x,y])->R (.returned (.int .i64 ((xs.length:Int)+1))) w') :
  Calls Tryz.prog 26 #[.pointer (some ⟨bc,0,none⟩),.slice (some ⟨b,0,none⟩) 2 2] w R:=by
 refine zKd H (Still.at (i:=i+2) (.succ (.succ hi))) (fun V hV=>(H.kn (i:=i+2) (.succ (.succ hi))).kept hV) (fun h=>zOB bc v xs [x,y] _ 2 F h (by omega) (by simp) (by simp)) ?_
 intro e v' ys w' H' h _;unfold putQ at h;rw[if_pos (by simp;omega)]at h
 obtain⟨rfl,rfl⟩:=h;have:((xs.length:Int)+(([x,y].length:Nat):Int) - 1)=xs.length+1:=by simp;omega
 rw[this];exact k _ _ _ H' (Lib.hid rfl)
end
theorem MakeOwn.of {w0 w:World} {l:List Res} {ps:List InstD} {q:Option Addr} {c N:Nat} (H:HoldG (fun _=>False) w0 w (.row (.slice q N c) 47 9 N (zAE ((zBq ps).map zAL))::l)) (hN:ps.length=N):MakeOwn w0 (.ok (zBq ps)) (.returned (.tuple #[.slice q N c,.int .i64 0])) w:=by
 have hl:(zBq ps).length=N:=by rw[zEn,hN]
 refine⟨q,c,by rw[hl],?_⟩
 rw[hl];exact H.all 0 _ rfl
theorem zPa (s:Tree) (a:Nat) (ys:List InstD) (h:layP s 1 zCf=(a,ys)):zHS s=ys++[{kind:=3,next:=(a:Int)}]:=by unfold zHS;rw[h]
theorem zK4 (t:Tree) (p:Option Addr) (n c:Nat) (F:Nat->Prop) (w0:World) (hm:zAC t<=1000000000) (hF:∀ b,F b->b<w0.heap.size) (h:ForestR w0 F p c t.kids) (hn:n=t.kids.length) :
  Calls Tryz.prog 9 #[zAQ t.d (.slice p n c)] w0 fun e w'=>MakeOwn w0 (zDM t) e w'/\Below w0.heap.size w0 w':=by
 subst hn;have H:=(Hold.start w0).know F (fun V=>ForestR V F p c t.kids) hF (fun i r h=>by simp at h) (fun V hV=>h.kept hV)
 clear h;simp only[List.nil_append]at H;have hsi:=fun w (h1:∀ b,F b->b<w.heap.size) (h2:ForestR w F p c t.kids)=>zNw t p _ c F w hm h1 h2 rfl
 have hsp:∀ x,zBa t=.error x->x=2\/x=7:=fun x h=>by
  unfold zBa at h;split at h
  ·split at h<;>cases h;exact .inr rfl
  ·cases h;exact .inl rfl
 refine callsIn_wide.1 (zCe (n:=9) Tryz.func9 rfl ?_);simp only[Tryz.ntmps9,List.size_toArray,List.length_cons,List.length_nil,Nat.reduceAdd,Nat.reduceSub,Array.replicate_succ,Array.replicate_zero,List.push_toArray,List.append_toArray,List.nil_append,List.cons_append];refine zCO ?_
 cases hs:zBa t with
 | error x =>
  rw[hs]at hsi;have E2:=Lib.hid (show zDM t=.error x by unfold zDM;rw[hs])
  have hx:((x:Int) != 0)=true:=by rcases hsp x hs with rfl|rfl<;>rfl
  clear hs hsp
  go_upto_region 3 with (first|(go_at_call 13;refine zNZ (hsi _ (H.knlt .zero) (H.kn .zero)) H ?_;clear H;intro w H)|((with_reducible refine kg 1 ?_);(first|refine kA 1 H ?_|refine kS 1 H ?_|refine kB 1 H ?_);clear H;intro b1 w H;try simp only[nr]at H)|((with_reducible refine kg 2 ?_);(first|refine kA 2 H ?_|refine kS 2 H ?_|refine kB 2 H ?_);clear H;intro b2 w H;try simp only[nr]at H)|((with_reducible refine kg 3 ?_);(first|refine kA 3 H ?_|refine kS 3 H ?_|refine kB 3 H ?_);clear H;intro b3 w H;try simp only[nr]at H)|((with_reducible refine kg 4 ?_);(first|refine kA 4 H ?_|refine kS 4 H ?_|refine kB 4 H ?_);clear H;intro b4 w H;try simp only[nr]at H)|(first|((with_reducible refine gT ?_);((first|refine aO H ?_|refine aT H ?_);clear H;intro w H;try simp only[nr]at H))|((with_reducible refine gL ?_);(first|refine aG H ?_|refine aD H ?_))))
  rw[zPy]at H;refine zD6 (n:=3) H (by kernel_rfl) rfl ?_
  clear H;intro W H;refine zBB (fuel:=2) 0 1 (by decide +kernel) rfl rfl rfl rfl ?_ ?_
  iterate 2
   all_goals
    intro KK hK;simp only[List.getElem_toArray,List.getElem_cons_succ,List.getElem_cons_zero]
    go_wp2_with (first|((with_reducible refine kg 1 ?_);(first|refine kA 1 H ?_|refine kS 1 H ?_|refine kB 1 H ?_);clear H;intro b1 w H;try simp only[nr]at H)|((with_reducible refine kg 2 ?_);(first|refine kA 2 H ?_|refine kS 2 H ?_|refine kB 2 H ?_);clear H;intro b2 w H;try simp only[nr]at H)|((with_reducible refine kg 3 ?_);(first|refine kA 3 H ?_|refine kS 3 H ?_|refine kB 3 H ?_);clear H;intro b3 w H;try simp only[nr]at H)|((with_reducible refine kg 4 ?_);(first|refine kA 4 H ?_|refine kS 4 H ?_|refine kB 4 H ?_);clear H;intro b4 w H;try simp only[nr]at H)|(first|((with_reducible refine gT ?_);(refine aO H ?_;clear H;intro w H;try simp only[nr]at H))|((with_reducible refine gL ?_);refine aG H ?_)))
    refine hK.out.1 _ _ ?_
    first|((with_reducible show wpAny _ _ _ _ 2 _ _ _);first|refine zAr (fuel:=1) 1 (by decide +kernel) rfl rfl ?_|refine zAr (fuel:=1) 0 (by decide +kernel) rfl rfl ?_)|((with_reducible show wpAny _ _ _ _ 1 _ _ _);refine zAr (fuel:=0) 2 (by decide +kernel) rfl rfl ?_)
  all_goals
   intro KK hK;simp only[List.getElem_toArray,List.getElem_cons_succ,List.getElem_cons_zero]
   go_wp2_with (first|((with_reducible refine kg 1 ?_);(first|refine kA 1 H ?_|refine kS 1 H ?_|refine kB 1 H ?_);clear H;intro b1 w H;try simp only[nr]at H)|((with_reducible refine kg 2 ?_);(first|refine kA 2 H ?_|refine kS 2 H ?_|refine kB 2 H ?_);clear H;intro b2 w H;try simp only[nr]at H)|((with_reducible refine kg 3 ?_);(first|refine kA 3 H ?_|refine kS 3 H ?_|refine kB 3 H ?_);clear H;intro b3 w H;try simp only[nr]at H)|((with_reducible refine kg 4 ?_);(first|refine kA 4 H ?_|refine kS 4 H ?_|refine kB 4 H ?_);clear H;intro b4 w H;try simp only[nr]at H)|((with_reducible refine gT ?_);(refine aO H ?_;clear H;intro w H;try simp only[nr]at H)))
   refine hK.out.1 _ _ ?_
  all_goals
   refine zK1 (by kernel_rfl) ?_
   go_wp2_with (first|fail)
   refine⟨_,zFJ Tryz.results9 rfl rfl zBW zB6 ((H.cell (i:=2) i_2 0).trans rfl) ((H.cell (i:=3) i_3 0).trans rfl),?_,H.below⟩;rw[E2.out];rfl
 | ok s =>
  rw[hs]at hsi;clear hsp
  go_upto_region 5 with (first|(go_at_call 13;refine zPx (hsi _ (H.knlt .zero) (H.kn .zero)) H ?_;clear H;intro q1 m1 F1 w hF1 H;simp only[ca]at H)|((with_reducible refine kg 1 ?_);(first|refine kA 1 H ?_|refine kS 1 H ?_|refine kB 1 H ?_);clear H;intro b1 w H;try simp only[nr]at H)|((with_reducible refine kg 2 ?_);(first|refine kA 2 H ?_|refine kS 2 H ?_|refine kB 2 H ?_);clear H;intro b2 w H;try simp only[nr]at H)|((with_reducible refine kg 3 ?_);(first|refine kA 3 H ?_|refine kS 3 H ?_|refine kB 3 H ?_);clear H;intro b3 w H;try simp only[nr]at H)|((with_reducible refine kg 4 ?_);(first|refine kA 4 H ?_|refine kS 4 H ?_|refine kB 4 H ?_);clear H;intro b4 w H;try simp only[nr]at H)|(first|((with_reducible refine gT ?_);((first|refine aO H ?_|refine aT H ?_);clear H;intro w H;try simp only[nr]at H))|((with_reducible refine gL ?_);(first|refine aG H ?_|refine aD H ?_))))
  rw[zPy]at H;refine wp_region_lit ?_
  refine zAP rfl (v:=.agg #[.slice none 0 0]) (by simp only[execOp,List.map_toArray,List.map_nil,Sem.run_bind,zL5];rfl) ?_
  go_upto_region 6 with (first|((with_reducible refine kg 17 ?_);(first|refine kA 17 H ?_|refine kS 17 H ?_|refine kB 17 H ?_);clear H;intro b17 w H;try simp only[nr]at H)|fail)
  have H2:HoldG (fun _=>False) w0 w [.blk b17 #[.slice none 0 0] 61,.row (.slice none 0 0) 47 9 (([]:List InstD)).length (zAE ((([]:List InstD)).map zAL)),.blk b2 #[.slice none 0 0] 32,.blk b3 #[.int .i64 0] 33,.kn F1 (fun V=>ForestR V F1 q1 m1 s.kids),.blk b4 (zAO s.d (.slice q1 s.kids.length m1)) 28]:=(H.addNil 47 9).pick [6,7,2,3,4,5] _ (by decide) rfl
  clear H;have H:=H2;clear H2;refine zBw 6 [fun v _=>v=pt b17 0,fun v _=>v=pt b17 0,fun v _=>v=pt b17 0,fun v _=>v=zAm {kind:=5},fun v _=>v=zAm {kind:=3,slot:=1},zLH w.heap.size (zAL {kind:=5}++zAL {kind:=3,slot:=1})] (fun _=>false) (by kernel_rfl) (by kernel_rfl) (by repeat (first|exact trivial|refine⟨zAJ _,?_⟩|refine⟨zIt _ _,?_⟩)) (fun _ _ h=>by cases h) ?ob ?en
  case ob =>
   refine⟨?_,?_,?_,?_,?_,?_,trivial⟩<;>intro A W h
   ·exact zAB rfl rfl (h.f 5)
   ·(have e18:A.eval (.tmp 18)=.pointer (some ⟨b17,0,none⟩):=h.d 0 18;refine zAA rfl ?_;simp only[execOp,e18];simp[go_sem])
   ·(have e19:A.eval (.tmp 19)=.pointer (some ⟨b17,0,none⟩):=h.d 1 19;refine zAA rfl ?_;simp only[execOp,e19];simp[go_sem])
   ·(refine zAA rfl ?_;simp only[execOp];(simp only[List.map_toArray,List.map_cons,List.map_nil,Sem.run_bind,zCK,zG9];rfl))
   ·(refine zAA rfl ?_;simp only[execOp];(simp only[List.map_toArray,List.map_cons,List.map_nil,Sem.run_bind,zCK,zQG];rfl))
   ·exact zPG rfl rfl (h.d 3 21) (h.d 4 22) h.below.size (by decide)
  case en =>
   intro vals W hbw hv _;have x5:=hv 5 (by omega);simp only[zAn]at x5
   simp only[fa,Nat.reduceAdd];rw[e_ hv 0,e_ hv 1,e_ hv 2,e_ hv 3,e_ hv 4];clear hv
   try simp only[pl]
   obtain⟨bk,e5,H2⟩:=H.gainQ hbw x5;rw[e5];clear x5 e5 hbw H;have H:=H2;clear H2;simp only[ca]at H;obtain⟨Fk,H2⟩:=H.twoInst (i:=6) i_6;clear H;have H:=H2;clear H2;simp only[sc]at H
   go_upto_region 7 with (first|(go_at_call 26;refine zRM (xs:=[]) H (i:=4) i_4 (by simp) ?_;clear H;intro v2 zs w H hys;(obtain rfl:=hys.out);clear hys)|fail)
   obtain⟨hks,hss⟩:=zIH hs;have hs:=Lib.hid hs;have hlay:=fun v w=>zP7 2000 (Nat.le_refl _) s q1 s.kids.length m1 F1 b17 v zCf 1 (fun _=>False) w0 w hss hks rfl (by decide)
   obtain⟨ar,har⟩:∃ r,layP s 1 zCf=r:=⟨_,rfl⟩;obtain⟨a,ys⟩:=ar;have EL:=Lib.hid (zPa s a ys har);rw[har]at hlay;clear har hks hss
   by_cases hy:ys.length<=4000
   ·rw[zCB (by simpa using hy)]at hlay
    have hrefl:∀ W,BelR W W:=BelR.refl;refine zBo BelR (PutR b17 w0.heap.size) [6] (fun r W=>match r with|0=>HoldG (fun _=>False) w0 W ([.blk b17 #[v2] 61,.row v2 47 9 (zCf).length (zAE ((zCf).map zAL)),.blk b2 #[.slice none 0 0] 32,.blk b3 #[.int .i64 0] 33,.kn F1 (fun V=>ForestR V F1 q1 m1 s.kids),.blk b4 (zAO s.d (.slice q1 s.kids.length m1)) 28,.kn Fk (InstsR Fk (some ⟨bk,0,none⟩) 2 zCf)])|_=>∃ v3,HoldG (fun _=>False) w0 W ([.blk b17 #[v3] 61,.row v3 47 9 (ys).length (zAE ((ys).map zAL)),.blk b2 #[.slice none 0 0] 32,.blk b3 #[.int .i64 0] 33,.kn F1 (fun V=>ForestR V F1 q1 m1 s.kids),.blk b4 (zAO s.d (.slice q1 s.kids.length m1)) 28,.kn Fk (InstsR Fk (some ⟨bk,0,none⟩) 2 zCf)])) (PutR.bel _ _) (fun r u v h hb=>match r,h with|0,h=>HoldG.call h hb|_+1,⟨v3,h⟩=>⟨v3,HoldG.call h hb⟩) BelR.drew BelR.refl (PutR.trans _ _) 9 [fun v _=>v=pt b17 0,fun v _=>v=pt b17 0,fun v _=>v=pt b17 0,fun v _=>v=pt b17 0,fun v _=>v=zAQ s.d (.slice q1 s.kids.length m1),fun v _=>v=.int .i64 1,fun v _=>v=.int .i64 (a:Int),fun v _=>v=zAm {kind:=3,next:=a},zH6 b17 w0.heap.size w (zAL {kind:=3,next:=a}) 47] (by repeat (first|exact trivial|refine⟨zAe _,?_⟩|refine⟨zD5 _ _ _,?_⟩)) (by kernel_rfl) (H) (by kernel_rfl) (by kernel_rfl) (by kernel_rfl) ?ob ?en
    case ob =>
     refine⟨?_,?_,?_,?_,?_,?_,?_,?_,?_,trivial⟩
     ·intro A W h;exact zAa hrefl rfl rfl (h.f 5)
     ·intro A W h;(have e25:A.eval (.tmp 25)=.pointer (some ⟨b17,0,none⟩):=h.d 0 25;refine zAF hrefl rfl ?_;simp only[execOp,e25];simp[go_sem])
     ·intro A W h;(have e26:A.eval (.tmp 26)=.pointer (some ⟨b17,0,none⟩):=h.d 1 26;refine zAF hrefl rfl ?_;simp only[execOp,e26];simp[go_sem])
     ·intro A W h;exact zAa hrefl rfl rfl (h.f 5)
     ·intro A W h;exact zAF hrefl rfl (zAV rfl (h.f 4) zAK rfl (fun k _=>by rw[Nat.zero_add];exact zCR H h.rel (i:=3) i_3 k))
     ·intro A W h;exact zAa hrefl rfl rfl (h.f 6)
     ·intro A W h hst;exact zMv rfl rfl (enters_of Tryz.func27 (by kernel_rfl) rfl) (zHD ⟨h.d 3 28,h.d 4 29,h.d 5 30⟩) hst (Still.at (i:=4) i_4) (fun V hV=>(HoldG.kn hst (i:=4) i_4).kept hV) (fun h=>hlay _ _ h)
     ·intro A W h;(have e31:A.eval (.tmp 31)=.int .i64 (a:Int):=h.d 6 31;refine zAF hrefl rfl ?_;simp only[execOp,e31];(simp only[List.map_toArray,List.map_cons,List.map_nil,e31,Sem.run_bind,zCK,zM1];rfl))
     ·intro A W h;exact zIM rfl rfl (h.d 7 32) h.rel (zE6 H) H.keep.size (zGh H)
    case en =>
     intro vals W hbw hv hst;have x8:=hv 8 (by omega);simp only[zAn]at x8
     simp only[fa,Nat.reduceAdd];rw[e_ hv 0,e_ hv 1,e_ hv 2,e_ hv 3,e_ hv 4,e_ hv 5,e_ hv 6,e_ hv 7];clear hv
     try simp only[pl]
     obtain⟨v3,H2⟩:=hst;obtain⟨bq,e8,H3⟩:=zGx H H2 x8;rw[e8];clear x8 e8 hbw H H2;have H:=H3;clear H3;simp only[ca]at H;obtain⟨Fq,H2⟩:=H.oneInst (i:=7) i_7;clear H;have H:=H2;clear H2;simp only[sc]at H
     by_cases hl2:ys.length<4000
     ·have E2:=Lib.hid (show zDM t=.ok (zBq (zHS s)) by unfold zDM;rw[hs.out];simp only;rw[if_neg (by rw[EL.out];simp;omega)])
      go_upto_region 8 with (first|(go_at_call 26;refine zEX H hy (i:=5) i_5 hl2 ?_;clear H;intro v4 zs w H hys)|fail)
      have hys2:zs=zHS s:=by rw[hys.out,EL.out]
      obtain⟨N,hN⟩:∃ N,(zHS s).length=N:=⟨_,rfl⟩;have hN1:0<N/\N<=4000:=by rw[← hN,EL.out];simp;omega
      obtain⟨q4,c4,rfl,_,_,hq4⟩:=H.rowShape (i:=1) i_1;rw[hys2]at H hq4;rw[hN]at H hq4;clear hys hys2;obtain⟨g4,rfl⟩:=hq4 hN1.1;clear hq4;have H2:HoldG (fun _=>False) w0 w [.row (.slice (some ⟨g4,0,none⟩) N c4) 47 9 N (zAE ((zHS s).map zAL)),.blk b17 #[.slice (some ⟨g4,0,none⟩) N c4] 61,.blk b2 #[.slice none 0 0] 32,.blk b3 #[.int .i64 0] 33]:=H.pick [1,0,2,3] _ (by decide) rfl
      clear H;have H:=H2;clear H2;have htu:=fun W (H:HoldG (fun _=>False) w0 W [.row (.slice (some ⟨g4,0,none⟩) N c4) 47 9 N (zAE ((zHS s).map zAL)),.blk b17 #[.slice (some ⟨g4,0,none⟩) N c4] 61,.blk b2 #[.slice none 0 0] 32,.blk b3 #[.int .i64 0] 33])=>zOb b17 g4 c4 N (zHS s) _ (by omega) hN1.1 hN H
      have HNN:=Lib.hid hN;clear hN hN1
      go_wp2_with (first|(go_at_call 28;refine(htu _ H).mono (fun e w' hc=>?_);obtain⟨rfl,H2⟩:=hc;clear htu H;have H:=H2;clear H2)|((with_reducible refine gT ?_);(refine aO H ?_;clear H;intro w H;try simp only[nr]at H)))
      refine⟨by simp,.inr ⟨fun _=>by omega,_,_,_,_,rfl,by simp[go_sem],fun g hg=>trivial,(zKL 8 (.pointer (some ⟨b2,0,none⟩)) (.pointer (some ⟨b3,0,none⟩)) _).mono ?_⟩⟩
      rintro e u' W' ⟨rfl,rfl,rfl⟩;refine⟨_,zFJ Tryz.results9 rfl rfl zBW zB6 ((H.cell (i:=2) i_2 0).trans rfl) ((H.cell (i:=3) i_3 0).trans rfl),?_,H.below⟩;rw[E2.out];exact MakeOwn.of H HNN.out
     ·have E2:=Lib.hid (show zDM t=.error 7 by unfold zDM;rw[hs.out];simp only;rw[if_pos (by rw[EL.out];simp;omega)])
      go_wp2_with (first|(go_at_call 26;refine zFX H hy (i:=5) i_5 hl2 ?_;clear H;intro v4 zs w H)|fail)
      have H3:HoldG (fun _=>False) w0 w (mkL b2 b3 (.slice none 0 0) 0):=H.pick [2,3] _ (by decide) rfl
      refine⟨by simp,.inr ⟨fun _=>by omega,_,_,_,_,rfl,by simp[go_sem],fun g hg=>trivial,(zFe 8 b2 b3 _ _ 7 _ H3).mono ?_⟩⟩
      rintro e u' W' ⟨rfl,rfl,H5⟩;refine⟨_,zFJ Tryz.results9 rfl rfl zBW zB6 ((H5.cell (i:=0) .zero 0).trans rfl) ((H5.cell (i:=1) i_1 0).trans rfl),?_,H5.below⟩;rw[E2.out];rfl
   ·rw[zBX (by simpa using hy)]at hlay
    have E2:=Lib.hid (show zDM t=.error 7 by unfold zDM;rw[hs.out];simp only;rw[if_pos (by rw[EL.out];simp;omega)])
    have hrefl:∀ W,BelR W W:=BelR.refl;refine zBo BelR (PutR b17 w0.heap.size) [6] (fun _ W=>HoldG (fun _=>False) w0 W ([.blk b17 #[v2] 61,.row v2 47 9 (zCf).length (zAE ((zCf).map zAL)),.blk b2 #[.slice none 0 0] 32,.blk b3 #[.int .i64 0] 33,.kn F1 (fun V=>ForestR V F1 q1 m1 s.kids),.blk b4 (zAO s.d (.slice q1 s.kids.length m1)) 28,.kn Fk (InstsR Fk (some ⟨bk,0,none⟩) 2 zCf)])) (PutR.bel _ _) (fun r u v h hb=>HoldG.call h hb) BelR.drew BelR.refl (PutR.trans _ _) 9 [fun v _=>v=pt b17 0,fun v _=>v=pt b17 0,fun v _=>v=pt b17 0,fun v _=>v=pt b17 0,fun v _=>v=zAQ s.d (.slice q1 s.kids.length m1),fun v _=>v=.int .i64 1,fun _ _=>False,fun _ _=>False,fun _ _=>False] (by repeat (first|exact trivial|refine⟨zAe _,?_⟩|refine⟨fun _ _ _ h _=>h,?_⟩)) (by kernel_rfl) (H) (by kernel_rfl) (by kernel_rfl) (by kernel_rfl) ?ob ?en
    case ob =>
     refine⟨?_,?_,?_,?_,?_,?_,?_,?_,?_,trivial⟩
     ·intro A W h;exact zAa hrefl rfl rfl (h.f 5)
     ·intro A W h;(have e25:A.eval (.tmp 25)=.pointer (some ⟨b17,0,none⟩):=h.d 0 25;refine zAF hrefl rfl ?_;simp only[execOp,e25];simp[go_sem])
     ·intro A W h;(have e26:A.eval (.tmp 26)=.pointer (some ⟨b17,0,none⟩):=h.d 1 26;refine zAF hrefl rfl ?_;simp only[execOp,e26];simp[go_sem])
     ·intro A W h;exact zAa hrefl rfl rfl (h.f 5)
     ·intro A W h;exact zAF hrefl rfl (zAV rfl (h.f 4) zAK rfl (fun k _=>by rw[Nat.zero_add];exact zCR H h.rel (i:=3) i_3 k))
     ·intro A W h;exact zAa hrefl rfl rfl (h.f 6)
     ·intro A W h hst;exact zKW rfl rfl (enters_of Tryz.func27 (by kernel_rfl) rfl) (zHD ⟨h.d 3 28,h.d 4 29,h.d 5 30⟩) hst (Still.at (i:=4) i_4) (fun V hV=>(HoldG.kn hst (i:=4) i_4).kept hV) (fun h=>hlay _ _ h) (fun v3 zs w' H2=>by obtain⟨T,D⟩:=A;obtain rfl:D=_:=h.defers;have H3:HoldG (fun _=>False) w0 w' (mkL b2 b3 (.slice none 0 0) 0):=H2.pick [2,3] _ (by decide) rfl;refine⟨by simp,.inr ⟨fun _=>by omega,_,_,_,_,rfl,by simp[go_sem],fun g hg=>trivial,(zFe 8 b2 b3 _ _ 7 _ H3).mono ?_⟩⟩;rintro e u' W' ⟨rfl,rfl,H5⟩;refine⟨_,zFJ Tryz.results9 (h.f 2) (h.f 3) zBW zB6 ((H5.cell (i:=0) .zero 0).trans rfl) ((H5.cell (i:=1) i_1 0).trans rfl),?_,H5.below⟩;rw[E2.out];rfl)
     ·intro A W h;exact(show False from h.d 6 31).elim
     ·intro A W h;exact(show False from h.d 7 32).elim
    case en =>
     intro vals W hbw hv hst;exact(show False from hv 6 (by omega)).elim
theorem zKZ {o:Oper} {a:Act} {w:World} {x y:Operand} {U:TypeId} {d:InstD} (hop:o.op=.binOp .neq 47 x y U) (hx:a.eval x=zAm d) (hy:a.eval y=zAm d):(execOp a.eval o).run Tryz.prog w=.ok (.value (.bool false)) w:=by
 rw[zNP hop hx hy];have:eqI d d=true:=by simp[eqI,eqS]
 rw[this];rfl
theorem zEG (q q2:Option Addr) (c c2:Nat) (xs:List InstD) (F G:Nat->Prop) (w0:World) (hF:∀ b,F b->b<w0.heap.size) (hG:∀ b,G b->b<w0.heap.size) (h1:InstsR F q c xs w0) (h2:InstsR G q2 c2 xs w0) :
  Calls Tryz.prog 14 #[.slice q xs.length c,.slice q2 xs.length c2] w0 (Rt (.bool true) w0):=by
 have hb1:=h1.bound;have hat1:=h1.at;have hat2:=h2.at
 have H:=(Hold.insts hF h1).know G (InstsR G q2 c2 xs) hG (fun i r h=>by
  rcases i with _|i
  ·simp at h;subst h;intro b hb;cases hb
  ·simp at h) (fun V hV=>h2.kept hV)
 simp only[ca]at H;clear h1 h2;obtain⟨n,hn⟩:∃ n,xs.length=n:=⟨_,rfl⟩;have HN:=Lib.hid hn;rw[hn]at hb1 hat1 hat2 ⊢;clear hn;have hne:((n:Int) != (n:Int))=false:=by simp
 go_enter Tryz.func14,Tryz.ntmps14
 go_wp2_with fail
 go_loopw [5] (fun i wr=>∃ k:Nat,k<=n/\i=.int .i64 k/\Hold w0 wr [.kn F (InstsR F q c xs),.kn G (InstsR G q2 c2 xs)]) (fun i _=>n - (intOf i).toNat)
 case atStart=>exact⟨0,by omega,rfl,H⟩
 case round =>
  clear H;obtain⟨k,hk,rfl,H⟩:=hrel
  by_cases hlt:k<n
  ·have dk:decide (k<n)=true:=decide_eq_true hlt;have dk2:decide ((k:Int)<(n:Int))=true:=decide_eq_true (by omega)
   obtain⟨b1,o1,rfl⟩:=hat1 (by omega)
   obtain⟨b2,o2,rfl⟩:=hat2 (by omega)
   obtain⟨x,hx⟩:∃ x,xs[k]?=some x:=⟨_,List.getElem?_eq_getElem (by rw[HN.out];exact hlt)⟩
   have HC1:=Lib.hid (fun V (h:InstsR F (some ⟨b1,o1,none⟩) c xs V)=>h.cells hx rfl:∀ V,InstsR F (some ⟨b1,o1,none⟩) c xs V->∀ q,q<9->V.cell? ⟨b1,o1+k * 9+q,none⟩=(zAL x)[q]?)
   have HC2:=Lib.hid (fun V (h:InstsR G (some ⟨b2,o2,none⟩) c2 xs V)=>h.cells hx rfl:∀ V,InstsR G (some ⟨b2,o2,none⟩) c2 xs V->∀ q,q<9->V.cell? ⟨b2,o2+k * 9+q,none⟩=(zAL x)[q]?)
   clear hx
   go_upto_region 6 with fail
   refine wr_ 9 [fun v _=>v=.slice (some ⟨b1,o1,none⟩) n c,fun v _=>v=.int .i64 (k:Int),fun v _=>v=.pointer (some ⟨b1,o1+k * 9,none⟩),fun v _=>v=zAm x,fun v _=>v=.slice (some ⟨b2,o2,none⟩) n c2,fun v _=>v=.int .i64 (k:Int),fun v _=>v=.pointer (some ⟨b2,o2+k * 9,none⟩),fun v _=>v=zAm x,fun v _=>v=.bool false] ?ob ?en
   case ob =>
    refine⟨?_,?_,?_,?_,?_,?_,?_,?_,?_,trivial⟩<;>intro A W h
    ·exact zAB rfl rfl (h.f 0)
    ·exact zAB rfl rfl (h.f 5)
    ·exact zA2 (sz:=9) Tryz.underlying32 (fun w=>by kernel_rfl) rfl rfl (h.d 0 17) (h.d 1 18) hlt rfl (by decide)
    ·exact zAA rfl (zAV rfl (h.d 2 19) zAg rfl (HC1.out _ ((H.call h.below).kn (i:=0) .zero))) (by decide)
    ·exact zAB rfl rfl (h.f 1)
    ·exact zAB rfl rfl (h.f 5)
    ·exact zA2 (sz:=9) Tryz.underlying32 (fun w=>by kernel_rfl) rfl rfl (h.d 4 21) (h.d 5 22) hlt rfl (by decide)
    ·exact zAA rfl (zAV rfl (h.d 6 23) zAg rfl (HC2.out _ ((H.call h.below).kn (i:=1) i_1))) (by decide)
    ·exact zAA rfl (zKZ rfl (h.d 3 20) (h.d 7 24)) (by decide)
   case en =>
    intro vals W hbw hv _;simp only[fa,Nat.reduceAdd];rw[e_ hv 0,e_ hv 1,e_ hv 2,e_ hv 3,e_ hv 4,e_ hv 5,e_ hv 6,e_ hv 7,e_ hv 8];clear hv
    try simp only[pl]
    replace H:=H.call hbw;clear hbw
    go_wp2_with fail
    go_roundw
    case rel=>exact⟨k+1,by omega,by go_num,H⟩
    case measure=>simp[intOf];omega
  ·obtain rfl:k=n:=by omega
   have dk:decide (k<k)=false:=by simp
   have dk2:decide ((k:Int)<(k:Int))=false:=by simp
   go_wp2_with fail
   go_ret;exact⟨rfl,H.below⟩
theorem InstsR.nil0 (F:Nat->Prop) (V:World):InstsR F none 0 [] V:=RdN.nil ..
theorem zJJ (w0:World):Calls Tryz.prog 14 #[.slice none 0 0,.slice none 0 0] w0 (Rt (.bool true) w0) :=
 zEG none none 0 0 [] (fun _=>False) (fun _=>False) w0 (fun _ h=>h.elim) (fun _ h=>h.elim) (InstsR.nil0 _ _) (InstsR.nil0 _ _)
section
variable {M:Nat->Prop} {P:Program} {f:FuncId} {args:Array Value} {w w0:World} {l:List Res} {R:Ending->World->Prop}
theorem zPN {ps:List InstD} (c:Calls P f args w fun e w'=>MakeOwn w (.ok ps) e w'/\Below w.heap.size w w') (H:HoldG M w0 w l)
  (k:∀ q n w',HoldG M w0 w' (l++[.row (.slice q ps.length n) 47 9 ps.length (zAE (ps.map zAL))])->R (.returned (.tuple #[.slice q ps.length n,.int .i64 0])) w'):Calls P f args w R:=c.mono fun _ w' h=>by
 obtain⟨⟨q,n,rfl,ho⟩,hb⟩:=h;exact k q n w' (H.gainRowZ hb ho)
theorem zP4 {x:Nat} (c:Calls P f args w fun e w'=>MakeOwn w (.error x) e w'/\Below w.heap.size w w') (H:HoldG M w0 w l)
  (k:∀ w',HoldG M w0 w' l->R (.returned (.tuple #[.slice none 0 0,.int .i64 x])) w'):Calls P f args w R:=c.mono fun _ w' h=>by
 obtain⟨rfl,hb⟩:=h;exact k w' (H.call hb)
theorem zR4 {ps:List InstD} (c:Calls P f args w fun e w'=>zKe w (.ok ps) e w'/\Below w.heap.size w w') (H:HoldG M w0 w l)
  (k:∀ q n F w',(∀ b,F b->w0.heap.size<=b)->HoldG M w0 w' (l++[.kn F (InstsR F q n ps)])->R (.returned (.tuple #[.slice q ps.length n,.int .i64 0])) w'):Calls P f args w R:=c.mono fun _ w' h=>by
 obtain⟨⟨q,n,F,rfl,hs,hF⟩,hb⟩:=h;exact k q n F w' (fun b h=>Nat.le_trans H.keep.size (hF b h).2) (H.learn hb Still.none (fun b h=>⟨(hF b h).1,.inl (hF b h).2⟩) (fun V hV=>hs.kept hV))
theorem zRv {x:Nat} (c:Calls P f args w fun e w'=>zKe w (.error x) e w'/\Below w.heap.size w w') (H:HoldG M w0 w l)
  (k:∀ w',HoldG M w0 w' l->R (.returned (.tuple #[.slice none 0 0,.int .i64 x])) w'):Calls P f args w R:=c.mono fun _ w' h=>by
 obtain⟨rfl,hb⟩:=h;exact k w' (H.call hb)
end
theorem HoldG.restInsts {M:Nat->Prop} {w0 w:World} {l:List Res} (H:HoldG M w0 w l) {i cap n:Nat} {q:Option Addr} {xs:List InstD} (hi:At l i (.row (.slice q n cap) 47 9 n (zAE (xs.map zAL)))) (hn:xs.length=n) :
  ∃ F:Nat->Prop,HoldG M w0 w (l.set i (.kn F (InstsR F q cap xs))):=by
 subst hn;refine⟨_,H.rest hi (InstsR (Res.foot (.row (.slice q xs.length cap) 47 9 xs.length (zAE (xs.map zAL)))) q cap xs) fun V hV=>?_⟩
 exact RdN.of_own (H.all i _ hi.get) (zAX xs) (by rw[List.length_map]) (fun b hb=>hV b hb)
theorem zKz (t:Tree) (p:Option Addr) (n c:Nat) (F:Nat->Prop) (w0:World) (hm:zAC t<=1000000000) (hF:∀ b,F b->b<w0.heap.size) (h:ForestR w0 F p c t.kids) (hn:n=t.kids.length) :
  Calls Tryz.prog 10 #[zAQ t.d (.slice p n c)] w0 (Rt (.bool true) w0):=by
 subst hn;have H:=(Hold.start w0).know F (fun V=>ForestR V F p c t.kids) hF (fun i r h=>by simp at h) (fun V hV=>h.kept hV)
 clear h;simp only[List.nil_append]at H;have hp:=fun w (h1:∀ b,F b->b<w.heap.size) (h2:ForestR w F p c t.kids)=>zK4 t p _ c F w hm h1 h2 rfl
 have hr:=fun w (h1:∀ b,F b->b<w.heap.size) (h2:ForestR w F p c t.kids)=>zML (zAC t) t p _ c F w (Nat.le_refl _) hm h1 h2 rfl
 cases hs:zDM t with
 | error x =>
  rw[hs]at hp hr;have hx:((x:Int) == (x:Int))=true:=by simp
  clear hs
  go_enter Tryz.func10,Tryz.ntmps10
  go_wp2_with (first|(go_at_call 9;refine zP4 (hp _ (H.knlt .zero) (H.kn .zero)) H ?_;clear H;intro w H)|(go_at_call 29;refine zRv (hr _ (H.knlt .zero) (H.kn .zero)) H ?_;clear H;intro w H)|((with_reducible refine ch (zJJ _) H ?_);clear H;intro w H)|((with_reducible refine kg 1 ?_);(first|refine kA 1 H ?_|refine kS 1 H ?_|refine kB 1 H ?_);clear H;intro b1 w H;try simp only[nr]at H)|((with_reducible refine gL ?_);refine aD H ?_))
  go_ret;exact⟨rfl,H.below⟩
 | ok ps =>
  rw[hs]at hp hr;clear hs
  go_enter Tryz.func10,Tryz.ntmps10
  go_upto_region 2 with (first|(go_at_call 9;refine zPN (hp _ (H.knlt .zero) (H.kn .zero)) H ?_;clear H;intro q1 m1 w H;simp only[ca]at H)|((with_reducible refine kg 1 ?_);(first|refine kA 1 H ?_|refine kS 1 H ?_|refine kB 1 H ?_);clear H;intro b1 w H;try simp only[nr]at H)|((with_reducible refine gL ?_);refine aD H ?_))
  obtain⟨F1,H2⟩:=H.restInsts (i:=2) i_2 rfl;simp only[sc]at H2;clear H;have H:=H2;clear H2
  go_wp2_with (first|(go_at_call 29;refine zR4 (hr _ (H.knlt .zero) (H.kn .zero)) H ?_;clear H;intro q2 m2 F2 w hF2 H;simp only[ca]at H)|((with_reducible refine ch (zEG q1 q2 m1 m2 ps F1 F2 _ (H.knlt (i:=2) i_2) (H.knlt (i:=3) i_3) (H.kn (i:=2) i_2) (H.kn (i:=3) i_3)) H ?_);clear H;intro w H)|((with_reducible refine kg 1 ?_);(first|refine kA 1 H ?_|refine kS 1 H ?_|refine kB 1 H ?_);clear H;intro b1 w H;try simp only[nr]at H)|((with_reducible refine gL ?_);refine aD H ?_))
  go_ret;exact⟨rfl,H.below⟩
def zCZ (L:Str):Tree:=match zHC L (false,false,false) with|.ok (t,_)=>t|.error _=>zBj 0
section
variable {M:Nat->Prop} {P:Program} {f:FuncId} {args:Array Value} {w w0:World} {l:List Res} {R:Ending->World->Prop}
theorem zQU {t:Tree} {g:Nat} (c:Calls P f args w fun e w'=>ParseOut w (.ok (t,g)) e w'/\Below w.heap.size w w') (H:HoldG M w0 w l)
  (k:∀ p n F w',(∀ b,F b->w0.heap.size<=b)->HoldG M w0 w' (l++[.kn F (fun V=>ForestR V F p n t.kids)])->R (.returned (.tuple #[zAQ t.d (.slice p t.kids.length n),.int .i64 g,.int .i64 0,.int .i64 0])) w'):Calls P f args w R:=c.mono fun _ w' h=>by
 obtain⟨⟨p,n,F,rfl,hs,hF⟩,hb⟩:=h;exact k p n F w' (fun b h=>Nat.le_trans H.keep.size (hF b h).2) (H.learn hb Still.none (fun b h=>⟨(hF b h).1,.inl (hF b h).2⟩) (fun V hV=>hs.kept hV))
theorem zQK {a x:Nat} (c:Calls P f args w fun e w'=>ParseOut w (.error (a,x)) e w'/\Below w.heap.size w w') (H:HoldG M w0 w l)
  (k:∀ w',HoldG M w0 w' l->R (.returned (.tuple #[zAQ {kind:=0} nilS,.int .i64 0,.int .i64 a,.int .i64 x])) w'):Calls P f args w R:=c.mono fun _ w' h=>by
 obtain⟨rfl,hb⟩:=h;exact k w' (H.call hb)
end
theorem zOh (W:World):(Instr.build 104 #[]).run Tryz.prog W=.ok (zCp (false,false,false)) W:=by kernel_rfl
theorem zL1 (L:Str) (hW:L.length<=1000->zLS L) (w0:World):Calls Tryz.prog 18 #[.string ⟨L.toArray⟩] w0 fun e w'=>zB7 w0 (fun _=>False) (zCZ L) e w'/\Below w0.heap.size w0 w':=by
 have H:=Hold.start w0;have hp:=fun w=>zMd L hW (false,false,false) w
 clear hW;have E:zCZ L=zCZ L:=rfl
 conv at E=>rhs;unfold zCZ
 cases hpr:zHC L (false,false,false) with
 | error x =>
  obtain⟨pa,px⟩:=x;rw[hpr]at hp E;clear hpr;have E:=Lib.hid E
  go_enter Tryz.func18,Tryz.ntmps18
  go_wp2_with (first|((with_reducible refine gBd ?_);refine zAP rfl (v:=zCp (false,false,false)) (by simp only[execOp,List.map_toArray,List.map_nil,Sem.run_bind,zOh];rfl) ?_)|(go_at_call 43;refine zQK (hp _) H ?_;clear H;intro w H)|((with_reducible refine kg 2 ?_);(first|refine kA 2 H ?_|refine kS 2 H ?_|refine kB 2 H ?_);clear H;intro b2 w H;try simp only[nr]at H)|((with_reducible refine kg 3 ?_);(first|refine kA 3 H ?_|refine kS 3 H ?_|refine kB 3 H ?_);clear H;intro b3 w H;try simp only[nr]at H)|(first|((with_reducible refine gT ?_);(refine aT H ?_;clear H;intro w H;try simp only[nr]at H))|((with_reducible refine gL ?_);refine aD H ?_)))
  refine zHi Tryz.results18 rfl H (i:=0) .zero zAK rfl rfl ?_
  rw[E.out];exact⟨⟨none,0,fun _=>False,rfl,ForestR.nil ..,fun b h=>h.elim⟩,H.below⟩
 | ok x =>
  obtain⟨t,g⟩:=x;rw[hpr]at hp E;clear hpr;have E:=Lib.hid (show zCZ L=t from E)
  go_enter Tryz.func18,Tryz.ntmps18
  go_wp2_with (first|((with_reducible refine gBd ?_);refine zAP rfl (v:=zCp (false,false,false)) (by simp only[execOp,List.map_toArray,List.map_nil,Sem.run_bind,zOh];rfl) ?_)|(go_at_call 43;refine zQU (hp _) H ?_;clear H;intro q n F w hF H;simp only[ca]at H)|((with_reducible refine kg 2 ?_);(first|refine kA 2 H ?_|refine kS 2 H ?_|refine kB 2 H ?_);clear H;intro b2 w H;try simp only[nr]at H)|((with_reducible refine kg 3 ?_);(first|refine kA 3 H ?_|refine kS 3 H ?_|refine kB 3 H ?_);clear H;intro b3 w H;try simp only[nr]at H)|(first|((with_reducible refine gT ?_);(refine aT H ?_;clear H;intro w H;try simp only[nr]at H))|((with_reducible refine gL ?_);refine aD H ?_)))
  refine zHi Tryz.results18 rfl H (i:=0) .zero zAK rfl rfl ?_
  rw[E.out];exact⟨⟨q,n,F,rfl,H.kn (i:=1) i_1,fun b h=>⟨H.knlt (i:=1) i_1 b h,.inl (hF b h)⟩⟩,H.below⟩
theorem zKt (L:Str):zAC (zCZ L)<=2000:=by
 unfold zCZ;split
 ·rename_i h;unfold zHC at h
  repeat (split at h;cases h)
  simp only[Except.ok.injEq,Prod.mk.injEq]at h;obtain⟨rfl,_⟩:=h;omega
 ·simp[zBj,zAC,zAD]
def exL:Str:=[97,42]
theorem zFZ:∀ i,i<2->byt exL i≠92/\byt exL i≠91/\byt exL i≠123/\atP exL i [40,63]=false:=by decide +kernel
theorem zOY (_:exL.length<=1000):zLS exL:=fun i hi w=>zMV (by decide) hi (zFZ i hi).1 (zFZ i hi).2.1 (zFZ i hi).2.2.1 (zFZ i hi).2.2.2 w
def exP:List InstD:=match zDM (zCZ exL) with|.ok p=>p|.error _=>[]
def wantP:List InstD:=[{kind:=3,next:=2},{kind:=1,set:=ofS [97],next:=2},{kind:=2,next:=1,other:=3},{kind:=3,slot:=1,next:=4},{kind:=5}]
theorem zPR:zDM (zCZ exL)=.ok exP:=by
 have h:(match zDM (zCZ exL) with|.ok _=>true|.error _=>false)=true:=by kernel_rfl
 unfold exP
 cases hm:zDM (zCZ exL) with
 | ok p=>rfl
 | error x=>rw[hm]at h;cases h
theorem exP_want:exP.map zAL=wantP.map zAL:=by kernel_rfl
theorem zKE:exP.length=5:=by kernel_rfl
theorem zMi:zGL exP=true:=by kernel_rfl
theorem zM7:zOV exP=2:=by kernel_rfl
theorem zPL (a b c d e:InstD) (W:World):(Instr.buildSlice 32 5 #[(0,zAm a),(1,zAm b),(2,zAm c),(3,zAm d),(4,zAm e)]).run Tryz.prog W=.ok (.slice (some ⟨W.heap.size,0,none⟩) 5 5) (W.alloc (.cells (zAE ([a,b,c,d,e].map zAL)).toArray 47)):=by kernel_rfl
theorem zOQ {V:World} {b n:Nat} {xs:List InstD} {T:TypeId} {f:Nat × Nat} (h:V.heap[b]?=some (.cells (zAE (xs.map zAL)).toArray T f)) (hn:xs.length=n) (hl:n<=1000):InstsR (·=b) (some ⟨b,0,none⟩) n xs V:=by
 subst hn;refine⟨_,xs.length,by rw[List.length_map],by rw[List.length_map];exact Nat.le_refl _,by unfold maxLen;omega,(fun h=>by cases h),fun j r hr=>⟨b,0,rfl,rfl,zAX xs r (List.mem_of_getElem? hr),fun k hk=>?_⟩⟩
 rw[cell_of_row V b _ _ T f h,List.getElem?_toArray,Nat.zero_add];exact zCU (zAX xs) hr hk
theorem InstsR.same {F:Nat->Prop} {p:Option Addr} {c:Nat} {xs ys:List InstD} {V:World} (h:InstsR F p c xs V) (e:xs.map zAL=ys.map zAL):InstsR F p c ys V:=by
 have hl:=congrArg List.length e;rw[List.length_map,List.length_map]at hl;unfold InstsR at h ⊢;rw[← e,← hl];exact h
theorem zFE (w0:World):Calls Tryz.prog 7 #[] w0 (Rt (.bool true) w0):=by
 have H:=Hold.start w0;have hpa:∀ w,Calls Tryz.prog 18 #[.string {data:=#[97,42]}] w fun e w'=>zB7 w (fun _=>False) (zCZ exL) e w'/\Below w.heap.size w w':=fun w=>zL1 exL zOY w
 have hmk:=fun {q m F1} w (h1:∀ b,F1 b->b<w.heap.size) (h2:ForestR w F1 q m (zCZ exL).kids)=>zK4 (zCZ exL) q _ m F1 w (Nat.le_trans (zKt exL) (by decide)) h1 h2 rfl
 rw[zPR]at hmk;have hof:∀ v w,Rd w w.heap.size v [.int .u8 97]->Calls Tryz.prog 22 #[v] w (Rt (setV (ofS [97])) w):=fun v w h=>zRr v [97] (by simp) w h
 have hri:=fun q c F w (h1:∀ b,F b->b<w.heap.size) h2=>zPF q c exP F w h1 h2
 have hsl:=fun q c F w (h1:∀ b,F b->b<w.heap.size) h2=>zO7 q c exP F w h1 h2
 have hsm:=fun q1 q2 c1 c2 F G w (h1:∀ b,F b->b<w.heap.size) (h2:∀ b,G b->b<w.heap.size) h3 (h4:InstsR G q2 c2 wantP w)=>zEG q1 q2 c1 c2 exP F G w h1 h2 h3 (h4.same exP_want.symm)
 rw[zMi]at hri;rw[zM7]at hsl;rw[zKE]at hri hsl hsm;obtain⟨u,hu⟩:∃ u,ofS [97]=u:=⟨_,rfl⟩;have HW:=Lib.hid (show wantP=[{kind:=3,next:=2},{kind:=1,set:=u,next:=2},{kind:=2,next:=1,other:=3},{kind:=3,slot:=1,next:=4},{kind:=5}] by rw[← hu];rfl)
 rw[hu]at hof;clear hu
 generalize zCZ exL=t0 at hpa hmk
 go_enter Tryz.func7,Tryz.ntmps7
 go_upto_region 2 with (first|(go_at_call 18;(with_reducible refine cht (hpa _) H Still.none ?_);clear H;intro q1 m1 F1 w hF1 H)|(go_at_call 9;refine zPN (hmk _ (H.knlt .zero) (H.kn .zero)) H ?_;clear H;intro q3 m3 w H;simp only[ca]at H;rw[zKE]at H ⊢)|fail)
 obtain⟨F3,H2⟩:=H.restInsts (i:=1) i_1 zKE;simp only[sc]at H2;clear H;have H:=H2;clear H2
 go_upto_region 3 with (first|((with_reducible show @wpList _ _ _ ({dst:=_,op:=Op.buildSlice _ 1 _,type:=_,pos:=_,after:=_,guard:=_}::_) _ _);refine zAY wtd_ _ _ _ rfl H #[.int .u8 97] 5 (by intro W;kernel_rfl) ?_;clear H;intro bs w H;simp only[ca]at H)|((with_reducible show @wpList _ _ _ ({dst:=_,op:=Op.buildSlice _ 5 _,type:=_,pos:=_,after:=_,guard:=_}::_) _ _);refine zAY wtd_ _ _ _ rfl H (zAE ([{kind:=3,next:=2},{kind:=1,set:=u,next:=2},{kind:=2,next:=1,other:=3},{kind:=3,slot:=1,next:=4},{kind:=5}].map zAL)).toArray 47 (by intro W;simp only[ml];(try simp only[pe]);exact zPL _ _ _ _ _ W) ?_;clear H;intro bw w H;simp only[ca]at H)|((with_reducible refine ch (hof _ _ (H.rdn (cs:=[.int .u8 97]) atd_ (by simp) (by simp[maxLen]))) H ?_);clear H;intro w H)|(first|((with_reducible refine gBi ?_);refine ib1 ?_)|((with_reducible refine gBi ?_);refine ib2 ?_)|((with_reducible refine gBi ?_);refine ib3 ?_)|((with_reducible refine gBi ?_);refine ib4 ?_)|((with_reducible refine gBi ?_);refine ib6 ?_)))
 rw[← HW.out]at H;have H2:=H.rest (i:=3) i_3 (InstsR (Res.foot (.blk bw (zAE (wantP.map zAL)).toArray 47)) (some ⟨bw,0,none⟩) 5 wantP) (fun V hV=>RdN.mono (zOQ ((hV bw rfl).trans (H.blk (i:=3) i_3).2) rfl (by decide)) (fun b hb=>by subst hb;rfl))
 simp only[sc]at H2;clear H;have H:=H2;clear H2 HW
 generalize Res.foot (.blk bw (zAE (wantP.map zAL)).toArray 47)=F4 at H
 go_wp2_with (first|((with_reducible first|refine ch (hsm _ _ _ _ F3 F4 _ (H.knlt (i:=1) i_1) (H.knlt (i:=3) i_3) (H.kn (i:=1) i_1) (H.kn (i:=3) i_3)) H ?_|refine ch (hri _ _ F3 _ (H.knlt (i:=1) i_1) (H.kn (i:=1) i_1)) H ?_|refine ch (hsl _ _ F3 _ (H.knlt (i:=1) i_1) (H.kn (i:=1) i_1)) H ?_);clear H;intro w H)|fail)
 go_ret;exact⟨rfl,H.below⟩
end
end Go.Proofs.YtalggmbdpmdcbaaGreat
