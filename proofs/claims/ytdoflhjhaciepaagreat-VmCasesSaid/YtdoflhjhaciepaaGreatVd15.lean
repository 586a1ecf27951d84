/-
  Laws of walks, and walks.
-/
import Derived.Test.YtdoflhjhaciepaaGreatVd5
import Derived.Test.YtdoflhjhaciepaaGreatVd14
import Derived.Test.YtdoflhjhaciepaaGreatVd13
import Derived.Test.YtdoflhjhaciepaaGreatVd6
import Derived.Test.YtdoflhjhaciepaaGreatVd3
import Derived.Test.YtdoflhjhaciepaaGreatVd8
import Derived.Test.YtdoflhjhaciepaaGreatVd4
import Derived.Test.YtdoflhjhaciepaaGreatVd9
import Derived.Test.YtdoflhjhaciepaaGreatVd10
set_option linter.unusedVariables false
set_option linter.unusedSimpArgs false
set_option maxRecDepth 100000
set_option maxHeartbeats 16000000
namespace Go.Proofs.YtdoflhjhaciepaaGreat
section
open Go.RowKit Go.Shelf
attribute [local go_sem] Oper.semAt_some
def zOl (c i:Nat):WordD :=
 if c=46 then {kind:=2,place:=i} else if c=94 then {kind:=3,place:=i} else if c=36 then {kind:=4,place:=i} else if c=40 then {kind:=6,place:=i}
 else if c=41 then {kind:=9,place:=i} else if c=124 then {kind:=10,place:=i} else if c=42 then {kind:=11,place:=i,lo:=0,hi := -1}
 else if c=43 then {kind:=11,place:=i,lo:=1,hi := -1} else if c=63 then {kind:=11,place:=i,lo:=0,hi:=1} else {kind:=0,place:=i}
theorem ieq (c n:Nat):(c=n)=(((c:Int) == (n:Int))=true):=by rw[beq_iff_eq];exact propext ⟨fun h=>by omega,fun h=>by omega⟩
theorem zF9 (c i:Nat) (hc:c<256) (w0:World):Calls Tryz.prog 123 #[.int .u8 c,.int .i64 i] w0 (Rt (zCs (zOl c i)) w0):=by
 have H:=Hold.start w0
 go_enter Tryz.func123,Tryz.ntmps123
 go_wp2_with (first|(first|((with_reducible refine gT ?_);((first|refine aO H ?_|refine aT H ?_);clear H;intro w H;try simp only[nr]at H))|((with_reducible refine gL ?_);refine aD H ?_)|((with_reducible refine gA ?_);(refine bA H ?_;clear H;intro b w H;try simp only[nr]at H))))
 all_goals
  (refine xc Tryz.results123 H ?_)
  refine⟨congrArg Ending.returned ?_,H.below⟩;clear H;simp only[zOl,ieq,Int.cast_ofNat_Int, *,Bool.false_eq_true,if_true,if_false];rfl
def RepR (o:Except Nat (WordD × Nat)) (e:Ending):Prop:=match o with
 | .ok (w,k)=>e=.returned (.tuple #[zCs w,.int .i64 k,.int .i64 0])
 | .error x=>∃ w k,e=.returned (.tuple #[zCs w,.int .i64 k,.int .i64 x])
theorem RepR.ok {o:Except Nat (WordD × Nat)} {w:WordD} {k:Nat} (h:o=.ok (w,k)):RepR o (.returned (.tuple #[zCs w,.int .i64 k,.int .i64 0])):=by subst h;rfl
theorem RepR.no {o:Except Nat (WordD × Nat)} {x:Nat} {w:WordD} {k:Int} (h:o=.error x):RepR o (.returned (.tuple #[zCs w,.int .i64 k,.int .i64 x])):=by subst h;exact⟨w,k,rfl⟩
theorem zHz (L:Str) (i e:Nat) (lo hi:Int) (hL:L.length≤2000) (hlo:0≤lo∧lo≤200) (hhi : -1≤hi∧hi≤200) (hel:e≤L.length) (w0:World) :
  Calls Tryz.prog 129 #[.string ⟨L.toArray⟩,zCs {kind:=11,place:=i,lo:=lo,hi:=hi},.int .i64 e] w0 fun e' w'=>RepR (zA5 L i lo hi e) e'∧Below w0.heap.size w0 w':=by
 have H:=Hold.start w0;have hat:=fun w=>zDV L [63] e hL (by simp) (by simp) (by omega) w
 by_cases c1:100<lo
 ·have d1:decide (100<lo)=true:=by simp;omega
  have HE:=Lib.hid (show zA5 L i lo hi e=.error 6 by unfold zA5;rw[if_pos (.inl c1)])
  clear c1
  go_enter Tryz.func129,Tryz.ntmps129
  go_wp2_with (first|(first|((with_reducible refine gT ?_);(refine aT H ?_;clear H;intro w H;try simp only[nr]at H))|((with_reducible refine gL ?_);(first|refine aG H ?_|refine aD H ?_))|((with_reducible refine gX ?_);(refine bB H ?_;clear H;intro b w H;try simp only[nr]at H))|((with_reducible refine gA ?_);(refine bA H ?_;clear H;intro b w H;try simp only[nr]at H)))|((with_reducible refine ch (hat _) H ?_);clear H;intro w H))
  (refine xctt Tryz.results129 H ?_)
  exact⟨RepR.no (w:={kind:=11,place:=i,lo:=lo,hi:=hi}) HE.out,H.below⟩
 ·have d1:decide (100<lo)=false:=by simp;omega
  by_cases c2:100<hi
  ·have d2:decide (100<hi)=true:=by simp;omega
   have HE:=Lib.hid (show zA5 L i lo hi e=.error 6 by unfold zA5;rw[if_pos (.inr (.inl c2))])
   clear c2 c1
   go_enter Tryz.func129,Tryz.ntmps129
   go_wp2_with (first|(first|((with_reducible refine gT ?_);(refine aT H ?_;clear H;intro w H;try simp only[nr]at H))|((with_reducible refine gL ?_);(first|refine aG H ?_|refine aD H ?_))|((with_reducible refine gX ?_);(refine bB H ?_;clear H;intro b w H;try simp only[nr]at H))|((with_reducible refine gA ?_);(refine bA H ?_;clear H;intro b w H;try simp only[nr]at H)))|((with_reducible refine ch (hat _) H ?_);clear H;intro w H))
   (refine xctt Tryz.results129 H ?_)
   exact⟨RepR.no (w:={kind:=11,place:=i,lo:=lo,hi:=hi}) HE.out,H.below⟩
  ·have d2:decide (100<hi)=false:=by simp;omega
   by_cases c3:0≤hi
   ·have d3:decide (0≤hi)=true:=by simp;omega
    by_cases c4:hi<lo
    ·have d4:decide (hi<lo)=true:=by simp;omega
     have HE:=Lib.hid (show zA5 L i lo hi e=.error 6 by unfold zA5;rw[if_pos (.inr (.inr ⟨c3,c4⟩))])
     clear c4 c3 c2 c1
     go_enter Tryz.func129,Tryz.ntmps129
     go_wp2_with (first|(first|((with_reducible refine gT ?_);(refine aT H ?_;clear H;intro w H;try simp only[nr]at H))|((with_reducible refine gL ?_);(first|refine aG H ?_|refine aD H ?_))|((with_reducible refine gX ?_);(refine bB H ?_;clear H;intro b w H;try simp only[nr]at H))|((with_reducible refine gA ?_);(refine bA H ?_;clear H;intro b w H;try simp only[nr]at H)))|((with_reducible refine ch (hat _) H ?_);clear H;intro w H))
     (refine xctt Tryz.results129 H ?_)
     exact⟨RepR.no (w:={kind:=11,place:=i,lo:=lo,hi:=hi}) HE.out,H.below⟩
    ·have d4:decide (hi<lo)=false:=by simp;omega
     have hne:¬ (100<lo∨100<hi∨(0≤hi∧hi<lo)):=by omega
     have he:zA5 L i lo hi e=zA5 L i lo hi e:=rfl
     conv at he=>rhs;unfold zA5
     rw[if_neg hne]at he;clear hne c1 c2 c3 c4
     cases ha:atP L e [63] with
     | true =>
      rw[ha]at hat;rw[if_pos ha]at he;have HE:=Lib.hid he;clear he ha
      go_enter Tryz.func129,Tryz.ntmps129
      go_wp2_with (first|(first|((with_reducible refine gT ?_);((first|refine aO H ?_|refine aT H ?_);clear H;intro w H;try simp only[nr]at H))|((with_reducible refine gL ?_);(first|refine aG H ?_|refine aD H ?_))|((with_reducible refine gX ?_);(refine bB H ?_;clear H;intro b w H;try simp only[nr]at H))|((with_reducible refine gA ?_);(refine bA H ?_;clear H;intro b w H;try simp only[nr]at H)))|((with_reducible refine ch (hat _) H ?_);clear H;intro w H))
      (refine xctt Tryz.results129 H ?_)
      exact⟨RepR.ok (w:={kind:=11,place:=i,lo:=lo,hi:=hi,lazy:=true}) HE.out,H.below⟩
     | false =>
      rw[ha]at hat;rw[if_neg (by rw[ha];simp)]at he
      have HE:=Lib.hid he;clear he ha
      go_enter Tryz.func129,Tryz.ntmps129
      go_wp2_with (first|(first|((with_reducible refine gT ?_);(refine aT H ?_;clear H;intro w H;try simp only[nr]at H))|((with_reducible refine gL ?_);(first|refine aG H ?_|refine aD H ?_))|((with_reducible refine gX ?_);(refine bB H ?_;clear H;intro b w H;try simp only[nr]at H))|((with_reducible refine gA ?_);(refine bA H ?_;clear H;intro b w H;try simp only[nr]at H)))|((with_reducible refine ch (hat _) H ?_);clear H;intro w H))
      (refine xctt Tryz.results129 H ?_)
      exact⟨RepR.ok (w:={kind:=11,place:=i,lo:=lo,hi:=hi}) HE.out,H.below⟩
   ·have d3:decide (0≤hi)=false:=by simp;omega
    have hne:¬ (100<lo∨100<hi∨(0≤hi∧hi<lo)):=by omega
    have he:zA5 L i lo hi e=zA5 L i lo hi e:=rfl
    conv at he=>rhs;unfold zA5
    rw[if_neg hne]at he;clear hne c1 c2 c3
    cases ha:atP L e [63] with
    | true =>
     rw[ha]at hat;rw[if_pos ha]at he;have HE:=Lib.hid he;clear he ha
     go_enter Tryz.func129,Tryz.ntmps129
     go_wp2_with (first|(first|((with_reducible refine gT ?_);((first|refine aO H ?_|refine aT H ?_);clear H;intro w H;try simp only[nr]at H))|((with_reducible refine gL ?_);(first|refine aG H ?_|refine aD H ?_))|((with_reducible refine gX ?_);(refine bB H ?_;clear H;intro b w H;try simp only[nr]at H))|((with_reducible refine gA ?_);(refine bA H ?_;clear H;intro b w H;try simp only[nr]at H)))|((with_reducible refine ch (hat _) H ?_);clear H;intro w H))
     (refine xctt Tryz.results129 H ?_)
     exact⟨RepR.ok (w:={kind:=11,place:=i,lo:=lo,hi:=hi,lazy:=true}) HE.out,H.below⟩
    | false =>
     rw[ha]at hat;rw[if_neg (by rw[ha];simp)]at he
     have HE:=Lib.hid he;clear he ha
     go_enter Tryz.func129,Tryz.ntmps129
     go_wp2_with (first|(first|((with_reducible refine gT ?_);(refine aT H ?_;clear H;intro w H;try simp only[nr]at H))|((with_reducible refine gL ?_);(first|refine aG H ?_|refine aD H ?_))|((with_reducible refine gX ?_);(refine bB H ?_;clear H;intro b w H;try simp only[nr]at H))|((with_reducible refine gA ?_);(refine bA H ?_;clear H;intro b w H;try simp only[nr]at H)))|((with_reducible refine ch (hat _) H ?_);clear H;intro w H))
     (refine xctt Tryz.results129 H ?_)
     exact⟨RepR.ok (w:={kind:=11,place:=i,lo:=lo,hi:=hi}) HE.out,H.below⟩
theorem at2 {L:Str} {i:Nat} (hi:i<L.length) (h:byt L i≠40):atP L i [40,63]=false:=by
 unfold atP;have:((40:UInt8) == L[i])=false:=by
  rw[beq_eq_false_iff_ne];intro e;exact h (by rw[zHP hi,← e];rfl)
 rw[List.drop_eq_getElem_cons hi,List.isPrefixOf_cons_cons,this];rfl
theorem at2' {L:Str} {i:Nat} (hi:i<L.length) (h:byt L i=40):atP L i [40,63]=atP L (i+1) [63]:=by
 unfold atP;have:((40:UInt8) == L[i])=true:=by
  rw[beq_iff_eq];apply UInt8.toNat_inj.1;rw[← zHP hi,h];rfl
 rw[List.drop_eq_getElem_cons hi,List.isPrefixOf_cons_cons,this,Bool.true_and]
theorem w_92 {L:Str} {i:Nat} (h:byt L i=92):zBK L i=zHo (zCT L i):=by unfold zBK;simp[h]
theorem w_91 {L:Str} {i:Nat} (h:byt L i=91):zBK L i=zHo (zB4 L i):=by unfold zBK;simp[h]
theorem w_40 {L:Str} {i:Nat} (h:byt L i=40):zBK L i=if atP L (i+1) [63] then zHo (zBx L i) else .ok ({kind:=6,place:=i},i+1):=by unfold zBK;simp[h]
theorem zSU {L:Str} {i:Nat} (h:byt L i=123):zBK L i=match zBg L i with|some (lo,hi,e)=>zA5 L i lo hi e|none=>.ok ({kind:=1,place:=i,set:=ofS [123]},i+1):=by unfold zBK;simp[h];cases zBg L i<;>rfl
theorem w_42 {L:Str} {i:Nat} (h:byt L i=42):zBK L i=zA5 L i 0 (-1) (i+1):=by unfold zBK;simp[h]
theorem w_43 {L:Str} {i:Nat} (h:byt L i=43):zBK L i=zA5 L i 1 (-1) (i+1):=by unfold zBK;simp[h]
theorem w_63 {L:Str} {i:Nat} (h:byt L i=63):zBK L i=zA5 L i 0 1 (i+1):=by unfold zBK;simp[h]
theorem w_46 {L:Str} {i:Nat} (h:byt L i=46):zBK L i=.ok ({kind:=2,place:=i},i+1):=by unfold zBK;simp[h,zKl]
theorem w_94 {L:Str} {i:Nat} (h:byt L i=94):zBK L i=.ok ({kind:=3,place:=i},i+1):=by unfold zBK;simp[h,zKl]
theorem w_36 {L:Str} {i:Nat} (h:byt L i=36):zBK L i=.ok ({kind:=4,place:=i},i+1):=by unfold zBK;simp[h,zKl]
theorem w_41 {L:Str} {i:Nat} (h:byt L i=41):zBK L i=.ok ({kind:=9,place:=i},i+1):=by unfold zBK;simp[h,zKl]
theorem zSX {L:Str} {i:Nat} (h:byt L i=124):zBK L i=.ok ({kind:=10,place:=i},i+1):=by unfold zBK;simp[h,zKl]
theorem w_no {L:Str} {i:Nat} (h92:byt L i≠92) (h91:byt L i≠91) (h40:byt L i≠40) (h123:byt L i≠123) (h42:byt L i≠42) (h43:byt L i≠43) (h63:byt L i≠63) (h46:byt L i≠46) (h94:byt L i≠94) (h36:byt L i≠36) (h41:byt L i≠41) (h124:byt L i≠124):zBK L i=.ok ({kind:=1,place:=i,set:=ofS [(byt L i:Int)]},i+1):=by unfold zBK;simp[zKl, *]
theorem zQk {c i:Nat} (h40:c≠40) (h42:c≠42) (h43:c≠43) (h63:c≠63) (h46:c≠46) (h94:c≠94) (h36:c≠36) (h41:c≠41) (h124:c≠124):zOl c i={kind:=0,place:=i}:=by unfold zOl;simp[*]
theorem zPV (i:Nat) (s:Nat→Nat) (W:World):(Instr.build 226 #[(0,.int .i64 1),(1,.int .i64 i),(2,setV s)]).run Tryz.prog W=.ok (zCs {kind:=1,place:=i,set:=s}) W:=by
 unfold setV;simp[go_sem];rfl
theorem zD8 {ops:Array Oper} {rest:List Oper} {o:Oper} {a:Act} {w:World} {Q:Exit→Act→World→Prop} (hg:Region.wanted o (yielded ops a.tmps)=true) {x y:Operand} (ho:o.op=.build 226 #[(0,.const (.int .i64 1)),(1,x),(2,y)])
  {i:Nat} {s:Nat→Nat} (hx:a.eval x=.int .i64 i) (hy:a.eval y=setV s) (h:wpList Tryz.prog ops Q rest (a.put o.dst (zCs {kind:=1,place:=i,set:=s})) w):wpList Tryz.prog ops Q (o::rest) a w :=
 zAZ hg (by
  simp only[execOp,ho,List.map_toArray,List.map_cons,List.map_nil,hx,hy,zK8,Sem.run_bind,zPV];rfl) h
theorem zOH (L:Str) (i:Nat) (hL:L.length≤2000) (hi:i<L.length) (w0:World) (n92:((byt L i:Int) == 92)=false) (n91:((byt L i:Int) == 91)=false) (n123:((byt L i:Int) == 123)=false) (hat:∀ w,Calls Tryz.prog 126 #[.string ⟨L.toArray⟩,.int .i64 i,.string ⟨#[40,63]⟩] w (Rt (.bool false) w)) {k:Nat} (hsg:∀ w,Calls Tryz.prog 123 #[.int .u8 (byt L i),.int .i64 i] w (Rt (zCs {kind:=k,place:=i}) w)) (n11:((k:Int) == 11)=false) (n0:((k:Int) == 0)=false) (E:Hid (zBK L i=.ok ({kind:=k,place:=i},i+1))) :
  Calls Tryz.prog 104 #[.string ⟨L.toArray⟩,.int .i64 i] w0 fun e w'=>RepR (zBK L i) e∧Below w0.heap.size w0 w':=by
 have H:=Hold.start w0
 go_enter Tryz.func104,Tryz.ntmps104
 go_wp2_with (first|((with_reducible show @wpList _ _ _ ({dst:=_,op:=Op.build _ #[(0,Operand.const (Value.int IntKind.i64 1)),(1,_),(2,_)],type:=_,pos:=_,after:=_,guard:=_}::_) _ _);refine zD8 wtd_ rfl rfl (by (try simp only[pe]);with_reducible rfl) ?_)|(first|((with_reducible refine gT ?_);(first|((first|refine aS H ?_|refine aW H ?_|refine aO H ?_|refine aT H ?_);clear H;intro w H;try simp only[nr]at H)|(refine aN H ?_;clear H;intro w H;(try simp only[nr]at H);try simp only[zCc,nrl]at H)))|((with_reducible refine gL ?_);(first|refine aV H ?_|refine aL H ?_|refine aG H ?_|refine aD H ?_))|((with_reducible refine gX ?_);((first|refine bS H ?_|refine bB H ?_);clear H;intro b w H;try simp only[nr]at H))|((with_reducible refine gA ?_);(refine bA H ?_;clear H;intro b w H;try simp only[nr]at H))|((with_reducible refine gZ ?_);refine aZ ?_)|((with_reducible refine gI ?_);refine aI ?_)|((with_reducible refine gC ?_);refine aC ?_)|((with_reducible refine gF ?_);refine aF ?_)|((with_reducible refine gU ?_);refine aU ?_)|((with_reducible refine gE ?_);refine aE ?_)|((with_reducible refine gQ ?_);refine aQ ?_))|((with_reducible first|refine ch (hsg _) H ?_|refine ch (hat _) H ?_);clear H;intro w H))
 (refine xctt Tryz.results104 H ?_)
 exact⟨RepR.ok (w:={kind:=k,place:=i}) E.out,H.below⟩
theorem zOm (L:Str) (i:Nat) (hL:L.length≤2000) (hi:i<L.length) (w0:World) (n92:((byt L i:Int) == 92)=false) (n91:((byt L i:Int) == 91)=false) (n123:((byt L i:Int) == 123)=false) (hat:∀ w,Calls Tryz.prog 126 #[.string ⟨L.toArray⟩,.int .i64 i,.string ⟨#[40,63]⟩] w (Rt (.bool false) w)) {lo hi3:Int} (hlo:0≤lo∧lo≤200) (hhi : -1≤hi3∧hi3≤200) (hsg:∀ w,Calls Tryz.prog 123 #[.int .u8 (byt L i),.int .i64 i] w (Rt (zCs {kind:=11,place:=i,lo:=lo,hi:=hi3}) w)) (E:zBK L i=zA5 L i lo hi3 (i+1)) :
  Calls Tryz.prog 104 #[.string ⟨L.toArray⟩,.int .i64 i] w0 fun e w'=>RepR (zBK L i) e∧Below w0.heap.size w0 w':=by
 have H:=Hold.start w0;have hr:=fun w=>zHz L i (i+1) lo hi3 hL hlo hhi (by omega) w
 simp only[Int.natCast_add,Int.cast_ofNat_Int]at hr
 cases hp:zA5 L i lo hi3 (i+1) with
 | error x =>
  rw[hp]at hr E;simp only[RepR]at hr;have E:=Lib.hid E;clear hp
  go_enter Tryz.func104,Tryz.ntmps104
  go_wp2_with (first|((with_reducible show @wpList _ _ _ ({dst:=_,op:=Op.build _ #[(0,Operand.const (Value.int IntKind.i64 1)),(1,_),(2,_)],type:=_,pos:=_,after:=_,guard:=_}::_) _ _);refine zD8 wtd_ rfl rfl (by (try simp only[pe]);with_reducible rfl) ?_)|(first|((with_reducible refine gT ?_);(first|((first|refine aS H ?_|refine aW H ?_|refine aO H ?_|refine aT H ?_);clear H;intro w H;try simp only[nr]at H)|(refine aN H ?_;clear H;intro w H;(try simp only[nr]at H);try simp only[zCc,nrl]at H)))|((with_reducible refine gL ?_);(first|refine aV H ?_|refine aL H ?_|refine aG H ?_|refine aD H ?_))|((with_reducible refine gX ?_);((first|refine bS H ?_|refine bB H ?_);clear H;intro b w H;try simp only[nr]at H))|((with_reducible refine gA ?_);(refine bA H ?_;clear H;intro b w H;try simp only[nr]at H))|((with_reducible refine gZ ?_);refine aZ ?_)|((with_reducible refine gI ?_);refine aI ?_)|((with_reducible refine gC ?_);refine aC ?_)|((with_reducible refine gF ?_);refine aF ?_)|((with_reducible refine gU ?_);refine aU ?_)|((with_reducible refine gE ?_);refine aE ?_)|((with_reducible refine gQ ?_);refine aQ ?_))|((with_reducible first|refine ch (hsg _) H ?_|refine ch (hat _) H ?_);clear H;intro w H)|(go_at_call 129;(with_reducible refine(hr _).mono ?_);rintro e w ⟨⟨wd,kk,rfl⟩,hb⟩;replace H:=H.call hb;clear hb))
  (refine xctt Tryz.results104 H ?_)
  exact⟨RepR.no (w:=wd) E.out,H.below⟩
 | ok p =>
  obtain⟨d,k⟩:=p;rw[hp]at hr E;simp only[RepR]at hr;have E:=Lib.hid E;clear hp
  go_enter Tryz.func104,Tryz.ntmps104
  go_wp2_with (first|((with_reducible show @wpList _ _ _ ({dst:=_,op:=Op.build _ #[(0,Operand.const (Value.int IntKind.i64 1)),(1,_),(2,_)],type:=_,pos:=_,after:=_,guard:=_}::_) _ _);refine zD8 wtd_ rfl rfl (by (try simp only[pe]);with_reducible rfl) ?_)|(first|((with_reducible refine gT ?_);(first|((first|refine aS H ?_|refine aW H ?_|refine aO H ?_|refine aT H ?_);clear H;intro w H;try simp only[nr]at H)|(refine aN H ?_;clear H;intro w H;(try simp only[nr]at H);try simp only[zCc,nrl]at H)))|((with_reducible refine gL ?_);(first|refine aV H ?_|refine aL H ?_|refine aG H ?_|refine aD H ?_))|((with_reducible refine gX ?_);((first|refine bS H ?_|refine bB H ?_);clear H;intro b w H;try simp only[nr]at H))|((with_reducible refine gA ?_);(refine bA H ?_;clear H;intro b w H;try simp only[nr]at H))|((with_reducible refine gZ ?_);refine aZ ?_)|((with_reducible refine gI ?_);refine aI ?_)|((with_reducible refine gC ?_);refine aC ?_)|((with_reducible refine gF ?_);refine aF ?_)|((with_reducible refine gU ?_);refine aU ?_)|((with_reducible refine gE ?_);refine aE ?_)|((with_reducible refine gQ ?_);refine aQ ?_))|((with_reducible first|refine ch (hsg _) H ?_|refine ch (hat _) H ?_|refine ch (hr _) H ?_);clear H;intro w H))
  (refine xctt Tryz.results104 H ?_)
  exact⟨RepR.ok (w:=d) E.out,H.below⟩
theorem zNG (L:Str) (i:Nat) (hL:L.length≤2000) (hi:i<L.length) (w0:World) (n92:((byt L i:Int) == 92)=false) (n91:((byt L i:Int) == 91)=false) (n123:((byt L i:Int) == 123)=false) (hat:∀ w,Calls Tryz.prog 126 #[.string ⟨L.toArray⟩,.int .i64 i,.string ⟨#[40,63]⟩] w (Rt (.bool false) w)) (hsg:∀ w,Calls Tryz.prog 123 #[.int .u8 (byt L i),.int .i64 i] w (Rt (zCs {kind:=0,place:=i}) w)) (E:Hid (zBK L i=.ok ({kind:=1,place:=i,set:=ofS [(byt L i:Int)]},i+1))) :
  Calls Tryz.prog 104 #[.string ⟨L.toArray⟩,.int .i64 i] w0 fun e w'=>RepR (zBK L i) e∧Below w0.heap.size w0 w':=by
 have H:=Hold.start w0;have hon:=fun w=>zER (byt L i) (zCf L i) w
 go_enter Tryz.func104,Tryz.ntmps104
 go_wp2_with (first|((with_reducible show @wpList _ _ _ ({dst:=_,op:=Op.build _ #[(0,Operand.const (Value.int IntKind.i64 1)),(1,_),(2,_)],type:=_,pos:=_,after:=_,guard:=_}::_) _ _);refine zD8 wtd_ rfl rfl (by (try simp only[pe]);with_reducible rfl) ?_)|(first|((with_reducible refine gT ?_);(first|((first|refine aS H ?_|refine aW H ?_|refine aO H ?_|refine aT H ?_);clear H;intro w H;try simp only[nr]at H)|(refine aN H ?_;clear H;intro w H;(try simp only[nr]at H);try simp only[zCc,nrl]at H)))|((with_reducible refine gL ?_);(first|refine aV H ?_|refine aL H ?_|refine aG H ?_|refine aD H ?_))|((with_reducible refine gX ?_);((first|refine bS H ?_|refine bB H ?_);clear H;intro b w H;try simp only[nr]at H))|((with_reducible refine gA ?_);(refine bA H ?_;clear H;intro b w H;try simp only[nr]at H))|((with_reducible refine gZ ?_);refine aZ ?_)|((with_reducible refine gI ?_);refine aI ?_)|((with_reducible refine gC ?_);refine aC ?_)|((with_reducible refine gF ?_);refine aF ?_)|((with_reducible refine gU ?_);refine aU ?_)|((with_reducible refine gE ?_);refine aE ?_)|((with_reducible refine gQ ?_);refine aQ ?_))|((with_reducible first|refine ch (hsg _) H ?_|refine ch (hat _) H ?_|refine ch (hon _) H ?_);clear H;intro w H))
 (refine xctt Tryz.results104 H ?_)
 exact⟨RepR.ok (w:={kind:=1,place:=i,set:=ofS [(byt L i:Int)]}) E.out,H.below⟩
def zJe (L:Str):Prop:=∀ i,i<L.length→∀ w0,Calls Tryz.prog 104 #[.string ⟨L.toArray⟩,.int .i64 i] w0 fun e w'=>RepR (zBK L i) e∧Below w0.heap.size w0 w'
theorem zID {L:Str} (hL:L.length≤2000) {i:Nat} (hi:i<L.length) (h92:byt L i≠92) (h91:byt L i≠91) (h123:byt L i≠123) (hq:atP L i [40,63]=false) (w0:World) :
  Calls Tryz.prog 104 #[.string ⟨L.toArray⟩,.int .i64 i] w0 fun e w'=>RepR (zBK L i) e∧Below w0.heap.size w0 w':=by
 have hat:=fun w=>zDV L [40,63] i hL (by simp) (by simp) (by omega) w
 rw[hq]at hat;have n:∀ c:Nat,byt L i≠c→((byt L i:Int) == (c:Int))=false:=fun c h=>by rw[beq_eq_false_iff_ne];omega
 have sg:=fun w=>zF9 (byt L i) i (zCf L i) w
 have S:=@zOH L i hL hi w0 (n 92 h92) (n 91 h91) (n 123 h123) hat;have R:=@zOm L i hL hi w0 (n 92 h92) (n 91 h91) (n 123 h123) hat
 by_cases hc:byt L i=40
 ·exact S (k:=6) (fun w=>by have:=sg w;rw[hc]at this ⊢;exact this) rfl rfl (Lib.hid (by rw[w_40 hc,← at2' hi hc,hq];rfl))
 by_cases hd:byt L i=42
 ·exact R (lo:=0) (hi3 := -1) (by omega) (by omega) (fun w=>by have:=sg w;rw[hd]at this ⊢;exact this) (w_42 hd)
 by_cases he:byt L i=43
 ·exact R (lo:=1) (hi3 := -1) (by omega) (by omega) (fun w=>by have:=sg w;rw[he]at this ⊢;exact this) (w_43 he)
 by_cases hf:byt L i=63
 ·exact R (lo:=0) (hi3:=1) (by omega) (by omega) (fun w=>by have:=sg w;rw[hf]at this ⊢;exact this) (w_63 hf)
 by_cases hg:byt L i=46
 ·exact S (k:=2) (fun w=>by have:=sg w;rw[hg]at this ⊢;exact this) rfl rfl (Lib.hid (w_46 hg))
 by_cases hh:byt L i=94
 ·exact S (k:=3) (fun w=>by have:=sg w;rw[hh]at this ⊢;exact this) rfl rfl (Lib.hid (w_94 hh))
 by_cases hj:byt L i=36
 ·exact S (k:=4) (fun w=>by have:=sg w;rw[hj]at this ⊢;exact this) rfl rfl (Lib.hid (w_36 hj))
 by_cases hk:byt L i=41
 ·exact S (k:=9) (fun w=>by have:=sg w;rw[hk]at this ⊢;exact this) rfl rfl (Lib.hid (w_41 hk))
 by_cases hl:byt L i=124
 ·exact S (k:=10) (fun w=>by have:=sg w;rw[hl]at this ⊢;exact this) rfl rfl (Lib.hid (zSX hl))
 exact zNG L i hL hi w0 (n 92 h92) (n 91 h91) (n 123 h123) hat (fun w=>by have:=sg w;rw[zQk hc hd he hf hg hh hj hk hl]at this;exact this) (Lib.hid (w_no h92 h91 hc h123 hd he hf hg hh hj hk hl))
def WordsR (T:TypeId) (base:Nat) (r:Except (Nat × Nat) (List WordD)) (e:Ending) (w':World):Prop:=match r with
 | .ok ws=>∃ v,e=.returned (.tuple #[v,.int .i64 0,.int .i64 0])∧w'.ownsRow base T 17 v ws.length (zIw ws)
 | .error (p,x)=>e=.returned (.tuple #[.slice none 0 0,.int .i64 p,.int .i64 x])
theorem WordsR.ok {T:TypeId} {base:Nat} {r:Except (Nat × Nat) (List WordD)} {v:Value} {w':World} {ws:List WordD} (h:r=.ok ws) (ho:w'.ownsRow base T 17 v ws.length (zIw ws)):WordsR T base r (.returned (.tuple #[v,.int .i64 0,.int .i64 0])) w':=by subst h;exact⟨v,rfl,ho⟩
theorem WordsR.no {T:TypeId} {base:Nat} {r:Except (Nat × Nat) (List WordD)} {w':World} {p x:Nat} (h:r=.error (p,x)):WordsR T base r (.returned (.tuple #[.slice none 0 0,.int .i64 p,.int .i64 x])) w':=by subst h;rfl
theorem zNU:(Tryz.prog.info? 226).map (fun i=>(i.zero,i.size,i.bytes))=some (some (.agg (zBV {kind:=0,place:=0})),17,88):=by kernel_rfl
def zDW (L:Str):Except (Nat × Nat) (List WordD):=if 1000<L.length then .error (0,3) else zLW L
theorem zMs (d:WordD) (W:World):(Instr.buildSlice 132 1 #[(0,zCs d)]).run Tryz.prog W=.ok (.slice (some ⟨W.heap.size,0,none⟩) 1 1) (W.alloc (.cells (zBV d) 226)):=by kernel_rfl
theorem zMJ (L:Str) (hW:L.length≤1000→zJe L) (w0:World):Calls Tryz.prog 62 #[.string ⟨L.toArray⟩] w0 fun e w'=>WordsR 226 w0.heap.size (zDW L) e w'∧Below w0.heap.size w0 w':=by
 obtain⟨i0,hi0,hz0,hz1,hz2⟩:=info_parts zNU;have H:=Hold.start w0
 by_cases hlen:1000<L.length
 ·clear hW;have d0:decide ((1000:Int)<(L.length:Int))=true:=by simp;omega
  have E:=Lib.hid (show zDW L=.error (0,3) by unfold zDW;rw[if_pos hlen])
  go_enter Tryz.func62,Tryz.ntmps62
  go_wp2_with (first|fail)
  go_ret3;exact⟨WordsR.no E.out,H.below⟩
 ·have hW2:=hW (by omega)
  clear hW;have d0:decide ((1000:Int)<(L.length:Int))=false:=by simp;omega
  have E:=Lib.hid (show zDW L=zLW L by unfold zDW;rw[if_neg hlen])
  go_enter Tryz.func62,Tryz.ntmps62
  go_wp2_with (first|fail)
  replace H:=H.addNil 226 17;simp only[List.nil_append]at H
  go_loopw [5,6] (fun v k wr=>∃ (j f:Nat) (ws:List WordD),k=.int .i64 j∧j≤L.length∧ws.length≤j∧Hid (zLW L=wcat ws (zBR L f j)∧L.length≤f+j)∧Hold w0 wr [.row v 226 17 ws.length (zIw ws)]) (fun _ k _=>L.length+2 - (intOf k).toNat)
  case atStart=>exact⟨0,L.length,[],rfl,by omega,by simp,Lib.hid ⟨(zPT _).symm,by omega⟩,H⟩
  case round =>
   clear H;obtain⟨j,f,ws,rfl,hj,hwl,G,H⟩:=hrel
   by_cases hlt:j<L.length
   ·have dj:decide ((j:Int)<(L.length:Int))=true:=by simp;omega
    obtain⟨f,rfl⟩:∃ f',f=f'+1:=⟨f - 1,by have:=G.out.2;omega⟩
    have hr:=fun w=>hW2 j hlt w
    cases hw:zBK L j with
    | error x =>
     rw[hw]at hr;simp only[RepR]at hr;have E2:=Lib.hid (show zDW L=.error (j,x) by rw[E.out,G.out.1,zM1 hlt hw])
     have hx:((x:Int) != 0)=true:=by rw[bne_iff_ne];have:=zJj hw;omega
     clear hw
     go_wp2_with (first|(first|((with_reducible refine gT ?_);(refine aT H ?_;clear H;intro w H;try simp only[nr]at H))|((with_reducible refine gA ?_);(refine bA H ?_;clear H;intro b w H;try simp only[nr]at H)))|(go_at_call 104;(with_reducible refine(hr _).mono ?_);rintro e w ⟨⟨wd,kk,rfl⟩,hb⟩;replace H:=H.call hb;clear hb))
     go_ret3;exact⟨WordsR.no E2.out,H.below⟩
    | ok p =>
     obtain⟨d,k⟩:=p;have hk:=zK2 hlt hw;rw[hw]at hr;simp only[RepR]at hr;have G2:=Lib.hid (show zLW L=wcat (ws++[d]) (zBR L f k) by rw[G.out.1,zOk hlt hw])
     clear hw
     go_wp2_with (first|((with_reducible refine gBS ?_);refine zAL wtd_ _ _ _ rfl H (zBV d) 226 (by intro W;simp only[ml];(try simp only[zQ8,zR9,List.setIfInBounds_toArray,List.set_cons_succ,List.set_cons_zero,zQE,zK8,List.getD_cons_succ,List.getD_cons_zero]);exact zMs d W) ?_;clear H;intro b w H;try simp only[nr]at H)|(at_builtin;refine zAX rfl _ _ 132 rfl H evd_ rfl atd_ atd_ Tryz.underlying132 hi0 hz0 hz1 hz2 rfl (by decide) rfl rfl (by unfold maxLen;omega) (by omega) ?_;clear H;intro v2 w H;try simp only[nr]at H)|(first|((with_reducible refine gT ?_);(refine aT H ?_;clear H;intro w H;try simp only[nr]at H))|((with_reducible refine gL ?_);refine aD H ?_)|((with_reducible refine gA ?_);(refine bA H ?_;clear H;intro b w H;try simp only[nr]at H)))|((with_reducible refine ch (hr _) H ?_);clear H;intro w H))
     go_roundw
     case rel=>exact⟨k,f,ws++[d],rfl,hk.2,by simp;omega,Lib.hid ⟨G2.out,by have:=G.out.2;omega⟩,by rw[zMd,List.length_append];exact H.take 1⟩
     case measure=>simp[intOf];omega
   ·have dj:decide ((j:Int)<(L.length:Int))=false:=by simp;omega
    have E2:=Lib.hid (show zDW L=.ok ws by rw[E.out,G.out.1,zNC hlt])
    go_wp2_with (first|fail)
    go_ret3;exact⟨WordsR.ok E2.out (H.all 0 _ rfl),H.below⟩
def zFE (L:Str) (f:zBB):Except (Nat × Nat) (Tree × Nat) :=
 match zDW L with
 | .error x=>.error x
 | .ok ws =>
  match zDb ws with
  | some a=>.error (a,4)
  | none =>
   match zAt (ws.length+1) f ws 0 [] [] with
   | none=>.error (0,0)
   | some (t,_,g)=>if 20<g∨2000<zAT t then .error (0,7) else if 50<zF5 t then .error (0,5) else .ok (t,g)
def ParseOut (w:World) (r:Except (Nat × Nat) (Tree × Nat)) (e:Ending) (w':World):Prop:=match r with
 | .error (a,x)=>e=.returned (.tuple #[zAc {kind:=0} nilS,.int .i64 0,.int .i64 a,.int .i64 x])
 | .ok (t,g)=>∃ p c F,e=.returned (.tuple #[zAc t.d (.slice p t.kids.length c),.int .i64 g,.int .i64 0,.int .i64 0])∧ForestR w' F p c t.kids∧∀ b,F b→b<w'.heap.size∧w.heap.size≤b
theorem ParseOut.no {w w':World} {r:Except (Nat × Nat) (Tree × Nat)} {a x:Nat} (h:r=.error (a,x)):ParseOut w r (.returned (.tuple #[zAc {kind:=0} nilS,.int .i64 0,.int .i64 a,.int .i64 x])) w':=by subst h;rfl
theorem zOv (pb:Nat) (FW:Nat→Prop) (p:Option Addr) (n c:Nat) (ws:List WordD):∀ (m:Nat) (j0 g0:Nat) (f0:zBB) (t:Tree) (r':List WordD) (g':Nat) (w0:World),AltPre pb 138 FW p n c ws j0 g0 w0→zAt m f0 (ws.drop j0) g0 [] []=some (t,r',g') →
  Calls Tryz.prog 64 #[.pointer (some ⟨pb,0,none⟩),zC0 f0] w0 (zHK pb 138 p n c t (n - r'.length) g' w0):=by
 intro m
 induction m using Nat.strongRecOn with
 | _ m ih=>exact fun j0 g0 f0 t r' g' w0 hP h=>zKj m pb FW p n c ws j0 g0 f0 t r' g' w0 hP h (fun k hk j1 g1 f1 t1 r1 g2 w h1 h2=>ih k hk j1 g1 f1 t1 r1 g2 w h1 h2)
theorem zOA:∀ ws:List WordD,zIw ws=zAP (ws.map zBV)
 | []=>rfl
 | w::r=>by
  have:=zOA r;simp only[zIw,zAP,List.flatMap_cons,List.map_cons,List.flatten_cons]at *;rw[this]
theorem zMU (ws:List WordD):∀ r ∈ ws.map zBV,r.size=17:=by
 intro r hr;obtain⟨x,_,rfl⟩:=List.mem_map.1 hr;rfl
theorem zL0 (p:Option Addr) (n c:Nat) (W:World):(Instr.build 138 #[(0,.slice p n c)]).run Tryz.prog W=.ok (.agg (pC p n c 0 0)) W:=by simp[go_sem]
theorem zEt {ops:Array Oper} {rest:List Oper} {o:Oper} {a:Act} {w:World} {Q:Exit→Act→World→Prop} (hg:Region.wanted o (yielded ops a.tmps)=true) {x:Operand} (ho:o.op=.build 138 #[(0,x)]) {p:Option Addr} {n c:Nat} (hx:a.eval x=.slice p n c)
  (h:wpList Tryz.prog ops Q rest (a.put o.dst (.agg (pC p n c 0 0))) w):wpList Tryz.prog ops Q (o::rest) a w :=
 zAZ hg (by simp only[execOp,ho,List.map_toArray,List.map_cons,List.map_nil,hx,Sem.run_bind,zL0];rfl) h
theorem zEx {P:Program} {fn:Func} {R:Ending→World→Prop} {a:Act} {w w0:World} {l:List Res} {M:Nat→Prop} {p q r s:Tmp} {T:TypeId} (hres:fn.results=#[.cell p T,.tmp q,.tmp r,.tmp s]) {v u x:Value} (hq:a.tmps.getD q undef=v) (hr:a.tmps.getD r undef=u) (hs:a.tmps.getD s undef=x) {b:Nat} (hp:a.tmps.getD p undef=.pointer (some ⟨b,0,none⟩)) (H:HoldG M w0 w l) {i:Nat} {cs:Array Value} {U:TypeId} (hi:At l i (.blk b cs U))
  {n:Nat} (hT:rowB P T n=true) (hn:cs.size=n) (hd:a.defers=[]) (h:R (.returned (.tuple #[.agg cs,v,u,x])) w):bodyPost P fn R .ret a w:=by
 refine bodyPost_ret (v:=.tuple #[.agg cs,v,u,x]) ?_ hd h;have:=H.run_row (T:=T) (P:=P) hi hT hn (k:=0) (fun j _=>by rw[Nat.zero_add])
 have hp':a.tmps[p]?.getD undef=.pointer (some ⟨b,0,none⟩):=by simpa using hp
 have hq':a.tmps[q]?.getD undef=v:=by simpa using hq
 have hr':a.tmps[r]?.getD undef=u:=by simpa using hr
 have hs':a.tmps[s]?.getD undef=x:=by simpa using hs
 simp[results,hres,hp',hq',hr',hs',asAddr,this]
theorem HoldG.gainWords {M:Nat→Prop} {w0 w w':World} {l:List Res} (H:HoldG M w0 w l) (hb:Below w.heap.size w w') {T:TypeId} {v:Value} {ws:List WordD} (ho:w'.ownsRow w.heap.size T 17 v ws.length (zIw ws)) :
  ∃ (q:Option Addr) (cap:Nat) (F:Nat→Prop),v=.slice q ws.length cap∧HoldG M w0 w' (l++[.kn F (WKnows F q ws.length cap ws)]):=by
 obtain⟨q,cap,rfl,_⟩:=zIz ho;rw[zOA]at ho;refine⟨q,cap,fun b=>(Value.slice q ws.length cap).ownBlock=some b,rfl,H.learn hb Still.none (fun b hb'=>?_) (fun V hV=>RdN.of_own ho (zMU ws) (by rw[List.length_map]) hV)⟩
 obtain⟨_,⟨hv,_⟩|⟨g,cap',cur,hv,hg,hh,_⟩⟩:=ho
 ·rw[hv]at hb';cases hb'
 ·cases hv;cases hb';exact⟨(Array.getElem?_eq_some_iff.1 hh).1,.inl hg⟩
theorem zHF {L:Str}:∀ (f i:Nat) (p x:Nat),L.length≤f+i→zBR L f i=.error (p,x)→x≠0
 | 0,i,p,x,hf,h=>by
  unfold zBR at h;rw[if_neg (by omega)]at h;cases h
 | f+1,i,p,x,hf,h=>by
  unfold zBR at h;split at h
  ·rename_i hlt;split at h
   ·rename_i e he
    cases h
    exact fun e=>by have:=zJj he;omega
   ·rename_i w j hw;have hj:=zK2 hlt hw;split at h
    ·rename_i y hy
     cases h
     exact zHF f j p x (by omega) hy
    ·cases h
  ·cases h
theorem zMQ {L:Str} {p x:Nat} (h:zDW L=.error (p,x)):x≠0:=by
 unfold zDW at h;split at h
 ·cases h;decide
 ·exact zHF _ _ _ _ (by omega) h
theorem zL5 (L:Str) (hW:L.length≤1000→zJe L) (f:zBB) (w0:World):Calls Tryz.prog 28 #[.string ⟨L.toArray⟩,zC0 f] w0 fun e w'=>ParseOut w0 (zFE L f) e w'∧Below w0.heap.size w0 w':=by
 have H:=Hold.start w0;have hwd:=fun w=>zMJ L hW w
 clear hW;have E:zFE L f=zFE L f:=rfl
 conv at E=>rhs;unfold zFE
 cases hw:zDW L with
 | error x =>
  obtain⟨a,x⟩:=x;rw[hw]at hwd E;simp only[]at E;simp only[WordsR]at hwd;have hx:((x:Int) != 0)=true:=by rw[bne_iff_ne];have:=zMQ hw;omega
  have E2:=Lib.hid E;clear E hw
  go_enter Tryz.func28,Tryz.ntmps28
  go_wp2_with (first|(first|((with_reducible refine gT ?_);(refine aT H ?_;clear H;intro w H;try simp only[nr]at H))|((with_reducible refine gX ?_);(refine bB H ?_;clear H;intro b w H;try simp only[nr]at H))|((with_reducible refine gA ?_);(refine bA H ?_;clear H;intro b w H;try simp only[nr]at H))|((with_reducible refine gZ ?_);refine nb0 ?_))|((with_reducible refine ch (hwd _) H ?_);clear H;intro w H))
  refine zEx Tryz.results28 rfl rfl rfl rfl H atd_ zAR (by rfl) rfl ?_
  exact⟨ParseOut.no E2.out,H.below⟩
 | ok ws =>
  rw[hw]at hwd E;simp only[]at E;simp only[WordsR]at hwd;have hLn:ws.length≤1000:=by
   unfold zDW at hw;split at hw
   ·cases hw
   ·have:=zFA _ _ _ hw;omega
  have hok:∀ d ∈ ws,zAW d.set:=by
   unfold zDW at hw;split at hw
   ·cases hw
   ·exact zFN _ _ _ hw
  have HOK:=Lib.hid hok;clear hok hw;have hwr:∀ (w:World) (l:List Res) (q:Option Addr) (c:Nat) (FW:Nat→Prop),True→True:=fun _ _ _ _ _ h=>h
  clear hwr
  cases hwp:zDb ws with
  | some a =>
   rw[hwp]at E;simp only[]at E;have hwr:∀ (w:World) (l:List Res) (q:Option Addr) (FW:Nat→Prop) {c:Nat},HoldG (fun _=>False) w0 w l→At l 2 (.kn FW (WKnows FW q ws.length c ws))→Calls Tryz.prog 63 #[.slice q ws.length c] w (Rt (.int .i64 (a:Int)) w):=fun w l q FW c h hi=>by
    have:=zJw q ws.length c FW ws w (h.knlt hi) (h.kn hi) hLn;rw[hwp]at this;exact this
   have E2:=Lib.hid E;clear E hwp;have da:decide (0≤(a:Int))=true:=by simp
   go_enter Tryz.func28,Tryz.ntmps28
   go_wp2_with (first|(first|((with_reducible refine gT ?_);(refine aT H ?_;clear H;intro w H;try simp only[nr]at H))|((with_reducible refine gX ?_);(refine bB H ?_;clear H;intro b w H;try simp only[nr]at H))|((with_reducible refine gA ?_);(refine bA H ?_;clear H;intro b w H;try simp only[nr]at H))|((with_reducible refine gZ ?_);refine nb0 ?_))|(go_at_call 62;(with_reducible refine(hwd _).mono ?_);rintro e w ⟨⟨v,rfl,ho⟩,hb⟩;obtain⟨q,cap,FW,rfl,H2⟩:=H.gainWords hb ho;clear H ho hb;(have H:=H2);clear H2;try simp only[nr]at H)|((with_reducible refine ch (hwr _ _ _ _ H i_2) H ?_);clear H;intro w H))
   refine zEx Tryz.results28 rfl rfl rfl rfl H atd_ zAR (by rfl) rfl ?_
   exact⟨ParseOut.no E2.out,H.below⟩
  | none =>
   rw[hwp]at E;simp only[]at E;have hwr:∀ (w:World) (l:List Res) (q:Option Addr) (FW:Nat→Prop) {c:Nat},HoldG (fun _=>False) w0 w l→At l 2 (.kn FW (WKnows FW q ws.length c ws))→Calls Tryz.prog 63 #[.slice q ws.length c] w (Rt (.int .i64 (-1)) w):=fun w l q FW c h hi=>by
    have:=zJw q ws.length c FW ws w (h.knlt hi) (h.kn hi) hLn;rw[hwp]at this;exact this
   obtain⟨t,g,ha⟩:=zMK f hwp;rw[ha]at E;simp only[]at E;have hsz:=zH2 _ _ _ _ _ _ _ _ _ ha;simp only[List.length_nil,zAK]at hsz;have hgl:g≤ws.length:=by have:=(zFX _ _ _ _ _ _ _ _ _ ha).2;simp at this;omega
   have hal:∀ (w:World) (l:List Res) (q:Option Addr) (c pb:Nat) (FW:Nat→Prop),HoldG (fun _=>False) w0 w (l)→True:=fun _ _ _ _ _ _ _=>trivial
   clear hal;have hal:∀ (w:World) (r0 r1:Res) (q:Option Addr) (FW:Nat→Prop) (l:List Res) {c pb:Nat},HoldG (fun _=>False) w0 w (r0::r1::.kn FW (WKnows FW q ws.length c ws)::.blk pb #[.slice q ws.length c,.int .i64 0,.int .i64 0] 138::l) →
     Calls Tryz.prog 64 #[.pointer (some ⟨pb,0,none⟩),zC0 f] w (zHK pb 138 q ws.length c t ws.length g w):=fun w r0 r1 q FW l c pb h =>
    zOv pb FW q ws.length c ws (ws.length+1) 0 0 f t [] g w ⟨(h.blk i_3).2,h.knlt i_2,fun hf=>h.apart 3 2 _ _ (by decide) rfl rfl pb rfl hf,h.kn i_2,HOK.out,hLn,by omega,by omega⟩ ha
   have hno:∀ (w:World) (l:List Res) (q:Option Addr) (c:Nat) (F:Nat→Prop),HoldG (fun _=>False) w0 w l→At l 4 (.kn F (fun V=>ForestR V F q c t.kids))→Calls Tryz.prog 65 #[zAc t.d (.slice q t.kids.length c)] w (Rt (.int .i64 (zAT t)) w):=fun w l q c F h hi=>zJ9 4000 t q _ c F w (by omega) (by omega) (h.knlt hi) (h.kn hi) rfl
   have hde:∀ (w:World) (l:List Res) (q:Option Addr) (c:Nat) (F:Nat→Prop),HoldG (fun _=>False) w0 w l→At l 4 (.kn F (fun V=>ForestR V F q c t.kids))→Calls Tryz.prog 66 #[zAc t.d (.slice q t.kids.length c)] w (Rt (.int .i64 (zF5 t)) w):=fun w l q c F h hi=>zLd 4000 t q _ c F w (by omega) (by omega) (h.knlt hi) (h.kn hi) rfl
   clear ha hwp
   by_cases hg:20<g
   ·have dg:decide (20<(g:Int))=true:=by simp;omega
    rw[if_pos (.inl hg)]at E;have E2:=Lib.hid E;clear E
    go_enter Tryz.func28,Tryz.ntmps28
    go_wp2_with (first|(first|((with_reducible refine gT ?_);(refine aT H ?_;clear H;intro w H;try simp only[nr]at H))|((with_reducible refine gL ?_);(first|refine aG H ?_|refine aD H ?_))|((with_reducible refine gX ?_);(refine bB H ?_;clear H;intro b w H;try simp only[nr]at H))|((with_reducible refine gA ?_);(refine bA H ?_;clear H;intro b w H;try simp only[nr]at H))|((with_reducible refine gZ ?_);refine nb0 ?_))|(go_at_call 62;(with_reducible refine(hwd _).mono ?_);rintro e w ⟨⟨v,rfl,ho⟩,hb⟩;obtain⟨q,cap,FW,rfl,H2⟩:=H.gainWords hb ho;clear H ho hb;(have H:=H2);clear H2;try simp only[nr]at H)|((with_reducible refine ch (hwr _ _ _ _ H i_2) H ?_);clear H;intro w H)|((with_reducible show @wpList _ _ _ ({dst:=_,op:=Op.build 138 _,type:=_,pos:=_,after:=_,guard:=_}::_) _ _);refine zEt wtd_ rfl evd_ ?_)|(go_at_call 64;(with_reducible refine chA (hal _ _ _ _ _ _ H) H i_3 ?_);clear H;intro q1 m1 F1 w hF1 H;try simp only[nr]at H)|((with_reducible first|refine ch (hno _ _ _ _ _ H i_4) H ?_|refine ch (hde _ _ _ _ _ H i_4) H ?_);clear H;intro w H))
    refine zEx Tryz.results28 rfl rfl rfl rfl H atd_ zAR (by rfl) rfl ?_
    exact⟨ParseOut.no E2.out,H.below⟩
   ·have dg:decide (20<(g:Int))=false:=by simp;omega
    by_cases hs:2000<zAT t
    ·have ds:decide (2000<(zAT t:Int))=true:=by simp;omega
     rw[if_pos (.inr hs)]at E;have E2:=Lib.hid E;clear E
     go_enter Tryz.func28,Tryz.ntmps28
     go_wp2_with (first|(first|((with_reducible refine gT ?_);(refine aT H ?_;clear H;intro w H;try simp only[nr]at H))|((with_reducible refine gL ?_);(first|refine aG H ?_|refine aD H ?_))|((with_reducible refine gX ?_);(refine bB H ?_;clear H;intro b w H;try simp only[nr]at H))|((with_reducible refine gA ?_);(refine bA H ?_;clear H;intro b w H;try simp only[nr]at H))|((with_reducible refine gZ ?_);refine nb0 ?_))|(go_at_call 62;(with_reducible refine(hwd _).mono ?_);rintro e w ⟨⟨v,rfl,ho⟩,hb⟩;obtain⟨q,cap,FW,rfl,H2⟩:=H.gainWords hb ho;clear H ho hb;(have H:=H2);clear H2;try simp only[nr]at H)|((with_reducible refine ch (hwr _ _ _ _ H i_2) H ?_);clear H;intro w H)|((with_reducible show @wpList _ _ _ ({dst:=_,op:=Op.build 138 _,type:=_,pos:=_,after:=_,guard:=_}::_) _ _);refine zEt wtd_ rfl evd_ ?_)|(go_at_call 64;(with_reducible refine chA (hal _ _ _ _ _ _ H) H i_3 ?_);clear H;intro q1 m1 F1 w hF1 H;try simp only[nr]at H)|((with_reducible first|refine ch (hno _ _ _ _ _ H i_4) H ?_|refine ch (hde _ _ _ _ _ H i_4) H ?_);clear H;intro w H))
     refine zEx Tryz.results28 rfl rfl rfl rfl H atd_ zAR (by rfl) rfl ?_
     exact⟨ParseOut.no E2.out,H.below⟩
    ·have ds:decide (2000<(zAT t:Int))=false:=by simp;omega
     rw[if_neg (by omega)]at E
     by_cases hd:50<zF5 t
     ·have dd:decide (50<(zF5 t:Int))=true:=by simp;omega
      rw[if_pos hd]at E;have E2:=Lib.hid E;clear E
      go_enter Tryz.func28,Tryz.ntmps28
      go_wp2_with (first|(first|((with_reducible refine gT ?_);(refine aT H ?_;clear H;intro w H;try simp only[nr]at H))|((with_reducible refine gL ?_);(first|refine aG H ?_|refine aD H ?_))|((with_reducible refine gX ?_);(refine bB H ?_;clear H;intro b w H;try simp only[nr]at H))|((with_reducible refine gA ?_);(refine bA H ?_;clear H;intro b w H;try simp only[nr]at H))|((with_reducible refine gZ ?_);refine nb0 ?_))|(go_at_call 62;(with_reducible refine(hwd _).mono ?_);rintro e w ⟨⟨v,rfl,ho⟩,hb⟩;obtain⟨q,cap,FW,rfl,H2⟩:=H.gainWords hb ho;clear H ho hb;(have H:=H2);clear H2;try simp only[nr]at H)|((with_reducible refine ch (hwr _ _ _ _ H i_2) H ?_);clear H;intro w H)|((with_reducible show @wpList _ _ _ ({dst:=_,op:=Op.build 138 _,type:=_,pos:=_,after:=_,guard:=_}::_) _ _);refine zEt wtd_ rfl evd_ ?_)|(go_at_call 64;(with_reducible refine chA (hal _ _ _ _ _ _ H) H i_3 ?_);clear H;intro q1 m1 F1 w hF1 H;try simp only[nr]at H)|((with_reducible first|refine ch (hno _ _ _ _ _ H i_4) H ?_|refine ch (hde _ _ _ _ _ H i_4) H ?_);clear H;intro w H))
      refine zEx Tryz.results28 rfl rfl rfl rfl H atd_ zAR (by rfl) rfl ?_
      exact⟨ParseOut.no E2.out,H.below⟩
     ·have dd:decide (50<(zF5 t:Int))=false:=by simp;omega
      rw[if_neg hd]at E;have E2:=Lib.hid E;clear E
      go_enter Tryz.func28,Tryz.ntmps28
      go_upto_region 13 with (first|((first|((with_reducible refine kgA 4 ?_);refine kA 4 H ?_)|((with_reducible refine kgX 4 ?_);(first|refine kS 4 H ?_|refine kB 4 H ?_)));clear H;intro b4 w H;try simp only[nr]at H)|((first|((with_reducible refine kgA 12 ?_);refine kA 12 H ?_)|((with_reducible refine kgX 12 ?_);(first|refine kS 12 H ?_|refine kB 12 H ?_)));clear H;intro b12 w H;try simp only[nr]at H)|((first|((with_reducible refine kgA 32 ?_);refine kA 32 H ?_)|((with_reducible refine kgX 32 ?_);(first|refine kS 32 H ?_|refine kB 32 H ?_)));clear H;intro b32 w H;try simp only[nr]at H)|(first|((with_reducible refine gT ?_);(refine aT H ?_;clear H;intro w H;try simp only[nr]at H))|((with_reducible refine gL ?_);(first|refine aG H ?_|refine aD H ?_))|((with_reducible refine gX ?_);(refine bB H ?_;clear H;intro b w H;try simp only[nr]at H)))|(go_at_call 62;(with_reducible refine(hwd _).mono ?_);rintro e w ⟨⟨v,rfl,ho⟩,hb⟩;obtain⟨q,cap,FW,rfl,H2⟩:=H.gainWords hb ho;clear H ho hb;(have H:=H2);clear H2;try simp only[nr]at H)|((with_reducible refine ch (hwr _ _ _ _ H i_2) H ?_);clear H;intro w H)|((with_reducible show @wpList _ _ _ ({dst:=_,op:=Op.build 138 _,type:=_,pos:=_,after:=_,guard:=_}::_) _ _);refine zEt wtd_ rfl evd_ ?_)|(go_at_call 64;(with_reducible refine chA (hal _ _ _ _ _ _ H) H i_3 ?_);clear H;intro q1 m1 F1 w hF1 H;try simp only[nr]at H)|((with_reducible first|refine ch (hno _ _ _ _ _ H i_4) H ?_|refine ch (hde _ _ _ _ _ H i_4) H ?_);clear H;intro w H))
      have hS:∀ W,RelS b4 (zAU t.d (.slice q1 t.kids.length m1)) 87 w W→(∀ k,k<10→W.cell? ⟨b12,0+k,none⟩=(zAU t.d (.slice q1 t.kids.length m1))[k]?)∧W.cell? ⟨b32,2,none⟩=some (.int .i64 (g:Int))∧∃ cs,W.heap[b4]?=some (.cells cs 87 (0,0))∧cs.size=10:=fun W hr=>by
       obtain⟨ds,hds,H2⟩:=H.relS (i:=1) i_1 hr;refine⟨fun k _=>?_,H2.cell (i:=3) i_3 2,ds,(H2.blk (i:=1) i_1).2,by rcases hds with rfl|rfl<;>rfl⟩
       rw[Nat.zero_add];exact H2.cell (i:=5) i_5 k
      refine zCb (RelS b4 (zAU t.d (.slice q1 t.kids.length m1)) 87) RelS.refl RelS.trans RelS.drew 6 [fun v _=>v=zAc t.d (.slice q1 t.kids.length m1),fun v _=>v=pt b32 0,fun v _=>v=pt b32 0,fun v _=>v=pt b32 2,fun v _=>v=.int .i64 (g:Int),zKB b4 (zAU t.d (.slice q1 t.kids.length m1)) 87]
       ⟨zAi _,zAi _,zAi _,zAi _,zAi _,zDX,trivial⟩ (by kernel_rfl) (by kernel_rfl) (by kernel_rfl) ?ob ?en
      case ob =>
       refine⟨?_,?_,?_,?_,?_,?_,trivial⟩<;>intro A W h
       ·exact zDB rfl (zAM RelS.refl rfl (zAb rfl (h.f 12) zAR rfl (hS W h.rel).1))
       ·exact zDB rfl (zAg RelS.refl rfl rfl (h.f 11))
       ·exact zDB rfl (zAM RelS.refl rfl (by simp only[execOp,show A.eval (.tmp 54)=.pointer (some ⟨b32,0,none⟩) from h.d 1 54];simp[go_sem]))
       ·exact zDB rfl (zAM RelS.refl rfl (by simp only[execOp,show A.eval (.tmp 55)=.pointer (some ⟨b32,0,none⟩) from h.d 2 55];simp[go_sem]))
       ·exact zDB rfl (zAM RelS.refl rfl (zAC rfl (h.d 3 56) zAH (hS W h.rel).2.1))
       ·obtain⟨cs,hcs,hsz⟩:=(hS W h.rel).2.2;exact zIL rfl rfl rfl (h.f 4) hcs hsz (h.d 0 53) (zBG (n:=10) zAR) rfl
      case en =>
       intro vals W1 hrel hv hlk;have v0:vals 0=zAc t.d (.slice q1 t.kids.length m1):=hv 0 (by omega)
       have v1:vals 1=.pointer (some ⟨b32,0,none⟩):=hv 1 (by omega)
       have v2:vals 2=.pointer (some ⟨b32,0,none⟩):=hv 2 (by omega)
       have v3:vals 3=.pointer (some ⟨b32,2,none⟩):=hv 3 (by omega)
       have v4:vals 4=.int .i64 (g:Int):=hv 4 (by omega)
       have H2:=H.laidS (i:=1) i_1 hrel (hv 5 (by omega))
       simp only[fa,Nat.reduceAdd];rw[v0,v1,v2,v3,v4];clear hv v0 v1 v2 v3 v4 hlk hrel H hS;have H:=H2;clear H2;simp only[sc]at H;simp only[pl]
       go_wp2_with fail
       refine zEx Tryz.results28 rfl rfl rfl rfl H (i:=1) i_1 zAR (by rfl) rfl ?_
       refine⟨?_,H.below⟩;rw[E2.out];exact⟨q1,m1,F1,rfl,H.kn (i:=4) i_4,fun b h=>⟨H.knlt (i:=4) i_4 b h,hF1 b h⟩⟩
end
section
open Go.RowKit
def zDY (d:NodeD) (i o:Int):InstD:=if d.lazy then {kind:=2,next:=o,other:=i} else {kind:=2,next:=i,other:=o}
abbrev LayR:=Nat × List InstD
mutual
def layP:Tree→Nat→List InstD→LayR
 | .mk d ks,out,xs =>
  if d.kind=1 then (out,xs)
  else if d.kind=2 then (xs.length,xs++[{kind:=6}])
  else if d.kind=3 then (xs.length,xs++[{kind:=1,set:=d.set,next:=out}])
  else if d.kind=4 then layC ks out xs
  else if d.kind=5 then layA ks out xs
  else if d.kind=7 then
   let a:=layH ks xs.length (xs++[{kind:=3,slot:=2 * d.group+1,next:=out}])
   (a.2.length,a.2++[{kind:=3,slot:=2 * d.group,next:=a.1}])
  else if d.kind=6 then
   if d.hi=1 then
    let a:=layH ks out xs
    (a.2.length,a.2++[zDY d a.1 out])
   else
    let a:=layH ks xs.length (xs++[{kind:=2}])
    (xs.length,a.2.set xs.length (zDY d a.1 out))
  else (xs.length,xs++[{kind:=4,spot:=d.kind,next:=out}])
def layH:List Tree→Nat→List InstD→LayR
 | [],out,xs=>(out,xs)
 | k::_,out,xs=>layP k out xs
def layC:List Tree→Nat→List InstD→LayR
 | [],out,xs=>(out,xs)
 | k::r,out,xs=>layP k (layC r out xs).1 (layC r out xs).2
def layA:List Tree→Nat→List InstD→LayR
 | [],out,xs=>(out,xs)
 | [k],out,xs=>layP k out xs
 | k::k2::r,out,xs =>
  let a:=layA (k2::r) out xs
  let b:=layP k out a.2
  (b.2.length,b.2++[{kind:=2,next:=b.1,other:=a.1}])
end
mutual
theorem zCk:∀ (t:Tree) (out:Nat) (xs:List InstD),xs.length≤(layP t out xs).2.length∧(layP t out xs).2.length≤xs.length+(3 * zAT t - 1)
 | .mk d ks,out,xs=>by
  have hc:=zIb ks out xs;have ha:=zI2 ks out xs;have h7:=zIQ ks xs.length (xs++[{kind:=3,slot:=2 * d.group+1,next:=out}]);have h6:=zIQ ks out xs;have h8:=zIQ ks xs.length (xs++[{kind:=2}]);simp only[List.length_append,List.length_cons,List.length_nil]at h7 h8;simp only[layP,zAT];split
  ·simp
  split
  ·simp;omega
  split
  ·simp;omega
  split
  ·omega
  split
  ·omega
  split
  ·simp only[List.length_append,List.length_cons,List.length_nil];omega
  split
  ·split
   ·simp only[List.length_append,List.length_cons,List.length_nil];omega
   ·simp only[List.length_set];omega
  ·simp;omega
theorem zIQ:∀ (ts:List Tree) (out:Nat) (xs:List InstD),xs.length≤(layH ts out xs).2.length∧(layH ts out xs).2.length≤xs.length+(3 * zAK ts - 1)
 | [],_,_=>by simp[layH]
 | k::r,out,xs=>by
  have:=zCk k out xs;have:=zBL k;simp only[layH,zAK];omega
theorem zIb:∀ (ts:List Tree) (out:Nat) (xs:List InstD),xs.length≤(layC ts out xs).2.length∧(layC ts out xs).2.length≤xs.length+(3 * zAK ts - 1)
 | [],_,_=>by simp[layC]
 | k::r,out,xs=>by
  have h1:=zIb r out xs;have h2:=zCk k (layC r out xs).1 (layC r out xs).2;have h3:=zBL k;simp only[layC,zAK];omega
theorem zI2:∀ (ts:List Tree) (out:Nat) (xs:List InstD),xs.length≤(layA ts out xs).2.length∧(layA ts out xs).2.length≤xs.length+(3 * zAK ts - 1)
 | [],_,_=>by simp[layA]
 | [k],out,xs=>by
  have:=zCk k out xs;have:=zBL k;simp only[layA,zAK];omega
 | k::k2::r,out,xs=>by
  have h1:=zI2 (k2::r) out xs;have h2:=zCk k out (layA (k2::r) out xs).2;have h3:=zBL k2;simp only[layA,List.length_append,List.length_cons,List.length_nil];have h4:=zBL k;simp only[zAK]at *;omega
end
theorem zHC:zAn (zB6 1)=true:=by decide +kernel
theorem zEF:zAn (zB6 2)=true:=by decide +kernel
theorem zEG:∀ {ts:List Tree},zAf ts=true↔∀ t ∈ ts,zAn t=true
 | []=>by simp[zAf]
 | t::r=>by simp[zAf,zEG (ts:=r)]
theorem zL4 {t:Tree} (h:zAn t=true):zAf t.kids=true:=by
 rw[zNp,Bool.and_eq_true]at h;exact h.2
theorem zH6 {ts:List Tree} {i o:Int} (h:zAf ts=true):zAf (zCQ ts i o)=true:=by
 rw[zEG]at h ⊢;intro t ht;obtain⟨u,hu,hx⟩:=List.mem_flatMap.1 ht;unfold zHb at hx;split at hx
 ·exact zEG.1 (zL4 (h u hu)) t hx
 split at hx
 ·cases hx
 ·rw[List.mem_singleton]at hx;subst hx;exact h _ hu
theorem zJF {k:Int} {ts:List Tree} {d:Tree} (hk:k=4∨k=5) (hd:zAn d=true) (h:zAf ts=true):zAn (rowN k ts d)=true:=by
 unfold rowN;split
 ·exact hd
 ·simpa [zAf] using h
 ·rename_i h1 h2;have hl:1<ts.length:=by
   rcases ts with _|⟨a,_|⟨b,r⟩⟩
   ·exact absurd rfl h1
   ·exact absurd rfl (h2 a)
   ·simp
  rw[zAn,h,Bool.and_true];have he:eqS zAE zAE=true:=zIi _;rcases hk with rfl|rfl<;>simp[zC6,zAj,zId,he]<;>omega
theorem zHJ {ts:List Tree} (h:zAf ts=true):zAn (catT ts)=true:=by
 unfold catT;split
 ·exact zEF
 ·exact zJF (.inl rfl) zHC (zH6 h)
theorem zHN {n:NodeD} {k:Tree} {m:Int} (hm:m = -1∨m=1) (h:zAn k=true):zAn (zB2 n k m)=true:=by
 have he:eqS zAE zAE=true:=zIi _;unfold zB2;simp only[zAn,zAf,h,Bool.and_true];rcases hm with rfl|rfl<;>simp[zC6,zAj,zId,he]
theorem zIH {n:NodeD} {k:Tree} (h:zAn k=true):∀ m,zAf (zDz n k m)=true
 | 0=>rfl
 | m+1=>by
  simp only[zDz,zAf,Bool.and_true];exact zHN (.inr rfl) (zHJ (by simp only[zAf,h,zIH h m,Bool.and_true]))
theorem zJc {d:NodeD} {k s:Tree} (h:zAn k=true) (e:zCZ d k=some s):zAn s=true:=by
 unfold zCZ at e;split at e
 ·cases e;exact zHC
 split at e
 ·cases e;exact zEF
 split at e
 ·cases e
 ·cases e
  refine zHJ ?_
  rw[zCp,Bool.and_eq_true];refine⟨zEG.2 fun t ht=>by rw[List.eq_of_mem_replicate ht];exact h,?_⟩
  split
  ·simp only[zAf,Bool.and_true];exact zHN (.inl rfl) h
  ·exact zIH h _
theorem zN5 {o:Option Tree} {s:Tree} (h:capT o=some s):o=some s:=by
 unfold capT at h;split at h
 ·split at h
  ·exact h
  ·cases h
 ·cases h
mutual
theorem zGn:∀ {t s:Tree},zAn t=true→zBl t=some s→zAn s=true
 | .mk d ks,s,h,e=>by
  have h0:=h;simp only[zAn,Bool.and_eq_true]at h;simp only[zBl]at e;split at e
  ·cases e
  ·rename_i l hl;have hkl:=zFg h.2 hl;have hlen:=zGp hl;have e:=zN5 e;unfold ruleT at e;split at e
   ·split at e
    ·cases e
    ·rename_i k r;split at e
     ·cases e;exact zEF
     ·cases e
      rw[zAn,hkl,hlen,h.1];rfl
   split at e
   ·cases e;exact zHJ hkl
   split at e
   ·cases e;exact zJF (.inr rfl) zEF (zH6 hkl)
   split at e
   ·split at e
    ·cases e
    ·rename_i k r;simp only[zAf,Bool.and_eq_true]at hkl;exact zJc hkl.1 e
   ·cases e;exact h0
theorem zFg:∀ {ts l:List Tree},zAf ts=true→zAw ts=some l→zAf l=true
 | [],l,_,e=>by simp[zAw]at e;subst e;rfl
 | t::r,l,h,e=>by
  simp only[zAf,Bool.and_eq_true]at h;simp only[zAw]at e;split at e
  ·cases e
  ·rename_i x hx;split at e
   ·cases e
   ·rename_i l' hl'
    cases e
    simp only[zAf,zGn h.1 hx,zFg h.2 hl',Bool.and_true]
end
def zMB (m:Nat) (x:InstD):InstD:={x with next:=if (x.kind == 1 || x.kind == 2 || x.kind == 3 || x.kind == 4) then wrap64 (m - x.next) else x.next,other:=if x.kind == 2 then wrap64 (m - x.other) else x.other}
def zCO (zs:List InstD):List InstD:=zs.reverse.map (zMB (zs.length - 1))
def zEZ:List InstD:=[{kind:=5},{kind:=3,slot:=1,next:=0}]
def zQH (s:Tree):List InstD:=(layP s 1 zEZ).2++[{kind:=3,next:=(layP s 1 zEZ).1}]
def zFT (t:Tree):Except Nat (List InstD):=match zCX t with
 | .error e=>.error e
 | .ok s=>if 4000≤(zQH s).length - 1 then .error 7 else .ok (zCO (zQH s))
theorem zIC (zs:List InstD):(zCO zs).length=zs.length:=by simp[zCO]
theorem zLn {zs:List InstD} {m j:Nat} {x:InstD} (hm:zs.length=m+1) (hj:j≤m) (h:zs[m - j]?=some x):(zCO zs)[j]?=some (zMB m x):=by
 unfold zCO;rw[List.getElem?_map,List.getElem?_reverse (by omega),show zs.length - 1 - j=m - j by omega,h,hm]
 rfl
theorem zLu {t s:Tree} (h:zCX t=.ok s):zAn s=true∧zAT s≤2000:=by
 unfold zCX at h;split at h
 ·rename_i hk;split at h
  ·cases h
  ·rename_i hs
   cases h
   exact⟨zGn hk.1 hs,zGB hs⟩
 ·cases h
mutual
def TOk:Tree→Prop
 | .mk d ks=>zAW d.set∧TOks ks
def TOks:List Tree→Prop
 | []=>True
 | t::r=>TOk t∧TOks r
end
theorem zIP:∀ ts:List Tree,TOks ts↔∀ t ∈ ts,TOk t
 | []=>by simp[TOks]
 | t::r=>by simp[TOks,zIP r]
theorem zSL (t:Tree):TOk t↔zAW t.d.set∧∀ k ∈ t.kids,TOk k:=by
 cases t with
 | mk d ks=>simp only[TOk,zIP];exact Iff.rfl
theorem zBh:zAW zAE:=fun _ _=>by simp[zAE]
theorem zGj {d:NodeD} {ks:List Tree} (h:zAW d.set) (k:∀ t ∈ ks,TOk t):TOk (.mk d ks):=by simp only[TOk,zIP];exact⟨h,k⟩
theorem zCF (k:Int):TOk (zB6 k):=zGj zBh (fun t h=>by cases h)
theorem zC2 {t:Tree} (h:TOk t):∀ x ∈ [t],TOk x:=fun x hx=>by rw[List.mem_singleton]at hx;subst hx;exact h
theorem zEU {a b:List Tree} (h:∀ t ∈ a,TOk t) (k:∀ t ∈ b,TOk t):∀ t ∈ a++b,TOk t:=fun t ht=>(List.mem_append.1 ht).elim (h t) (k t)
theorem zHT (k:Int) {ts:List Tree} (h:∀ t ∈ ts,TOk t):TOk (rowT k ts):=by
 unfold rowT;split
 ·exact zCF _
 ·exact h _ (List.mem_singleton.2 rfl)
 ·exact zGj zBh h
theorem zK6 (k:Int) {ts:List Tree} {d:Tree} (h:∀ t ∈ ts,TOk t) (hd:TOk d):TOk (rowN k ts d):=by
 unfold rowN;split
 ·exact hd
 ·exact h _ (List.mem_singleton.2 rfl)
 ·exact zGj zBh h
theorem zKg {s:Nat→Nat} (h:zAW s):TOk (setT s):=by
 unfold setT;split
 ·exact zCF _
 ·exact zGj h (fun t h=>by cases h)
theorem zRZ (n:Nat):TOk (setT (zAs 0 n)):=zKg (zBo 0 n)
theorem zRs (l:List Int):TOk (setT (notS (ofS l))):=zKg (zDg _)
theorem zOt {w:WordD} (f:zBB) (h:zAW w.set):TOk (zFK w f):=by
 unfold zFK;split
 ·refine zKg ?_
  have:zAW (if f.1 then zOM w.set else w.set):=by split;exact zK3 h;exact h
  split
  ·exact zDg _
  ·exact this
 split
 ·split
  ·generalize (256:Nat)=n;exact zRZ n
  ·exact zRs [10]
 split
 ·exact zCF _
 split
 ·exact zCF _
 ·exact zCF _
theorem zC9:∀ (n:Nat) (f:zBB) (ws:List WordD) (g:Nat) (all items:List Tree) (t:Tree) (r:List WordD) (g':Nat),(∀ w ∈ ws,zAW w.set)→(∀ t ∈ all,TOk t)→(∀ t ∈ items,TOk t)→zAt n f ws g all items=some (t,r,g')→TOk t∧∀ w ∈ r,zAW w.set
 | 0,_,_,_,_,_,_,_,_=>fun _ _ _ h=>by simp[zAt]at h
 | n+1,f,[],g,all,items,t,r,g'=>fun hw ha hi h=>by
  simp only[zAt,Option.some.injEq,Prod.mk.injEq]at h;obtain⟨rfl,rfl,_⟩:=h;exact⟨zHT _ (zEU ha (zC2 (zHT _ hi))),hw⟩
 | n+1,f,w::ws,g,all,items,t,r,g'=>fun hw ha hi h=>by
  have hw1:zAW w.set:=hw w (List.mem_cons_self ..);have hws:∀ x ∈ ws,zAW x.set:=fun x hx=>hw x (List.mem_cons_of_mem _ hx)
  have hnil:∀ t ∈ ([]:List Tree),TOk t:=fun t h=>by cases h
  simp only[zAt]at h;split at h
  ·simp only[Option.some.injEq,Prod.mk.injEq]at h;obtain⟨rfl,rfl,_⟩:=h;exact⟨zHT _ (zEU ha (zC2 (zHT _ hi))),hw⟩
  split at h
  ·exact zC9 n _ ws g all items t r g' hws ha hi h
  split at h
  ·exact zC9 n _ ws g _ [] t r g' hws (zEU ha (zC2 (zHT _ hi))) hnil h
  split at h
  ·split at h
   ·cases h
   ·rename_i last hl;have hlast:TOk last:=hi last (List.mem_of_getLast? hl);exact zC9 n _ ws g _ _ t r g' hws ha (zEU (fun x hx=>hi x ((List.dropLast_sublist items).subset hx)) (zC2 (zGj zBh (zC2 hlast)))) h
  split at h
  ·split at h
   ·rename_i t1 w1 r1 g1 h1;obtain⟨a1,a2⟩:=zC9 n _ ws g [] [] t1 (w1::r1) g1 hws hnil hnil h1;exact zC9 n _ r1 g1 _ _ t r g' (fun x hx=>a2 x (List.mem_cons_of_mem _ hx)) ha (zEU hi (zC2 a1)) h
   ·cases h
  split at h
  ·split at h
   ·rename_i t1 w1 r1 g1 h1;obtain⟨a1,a2⟩:=zC9 n _ ws (g+1) [] [] t1 (w1::r1) g1 hws hnil hnil h1;exact zC9 n _ r1 g1 _ _ t r g' (fun x hx=>a2 x (List.mem_cons_of_mem _ hx)) ha (zEU hi (zC2 (zGj zBh (zC2 a1)))) h
   ·cases h
  ·exact zC9 n _ ws g _ _ t r g' hws ha (zEU hi (zC2 (zOt f hw1))) h
theorem zOc {L:Str} {f:zBB} {t:Tree} {g:Nat} (h:zFE L f=.ok (t,g)):TOk t:=by
 unfold zFE at h;split at h
 ·cases h
 rename_i ws hws;split at h
 ·cases h
 split at h
 ·cases h
 rename_i t1 r1 g1 h1;split at h
 ·cases h
 split at h
 ·cases h
 simp only[Except.ok.injEq,Prod.mk.injEq]at h;obtain⟨rfl,_⟩:=h;refine(zC9 _ _ _ _ _ _ _ _ _ ?_ (fun t h=>by cases h) (fun t h=>by cases h) h1).1
 unfold zDW at hws;split at hws
 ·cases hws
 ·exact zFN _ _ _ hws
theorem zLB {ts:List Tree} (i o:Int) (h:∀ t ∈ ts,TOk t):∀ t ∈ zCQ ts i o,TOk t:=by
 intro t ht;obtain⟨x,hx,hxt⟩:=List.mem_flatMap.1 ht;unfold zHb at hxt;split at hxt
 ·exact((zSL x).1 (h x hx)).2 t hxt
 split at hxt
 ·cases hxt
 ·rw[List.mem_singleton]at hxt;subst hxt;exact h t hx
theorem zKJ {ts:List Tree} (h:∀ t ∈ ts,TOk t):TOk (catT ts):=by
 unfold catT;split
 ·exact zCF _
 ·exact zK6 _ (zLB _ _ h) (zCF _)
theorem zJN (n:NodeD) {k:Tree} (m:Int) (h:TOk k):TOk (zB2 n k m):=zGj zBh (zC2 h)
theorem zLl (n:NodeD) {k:Tree} (h:TOk k):∀ m:Nat,∀ t ∈ zDz n k m,TOk t
 | 0=>fun t h=>by cases h
 | m+1=>zC2 (zJN n 1 (zKJ (fun x hx=>(List.mem_cons.1 hx).elim (fun e=>e ▸ h) (zLl n h m x))))
theorem zMR {n:NodeD} {k s:Tree} (h:TOk k) (hr:zCZ n k=some s):TOk s:=by
 unfold zCZ at hr;split at hr
 ·cases hr;exact zCF _
 split at hr
 ·cases hr;exact zCF _
 split at hr
 ·cases hr
 ·cases hr
  refine zKJ (zEU (fun t ht=>by rw[List.eq_of_mem_replicate ht];exact h) ?_)
  split
  ·exact zC2 (zJN n _ h)
  ·exact zLl n h _
theorem zPo {d:NodeD} {t s:Tree} {l:List Tree} (hd:zAW d.set) (ht:TOk t) (hl:∀ x ∈ l,TOk x) (h:ruleT d t l=some s):TOk s:=by
 unfold ruleT at h;split at h
 ·split at h
  ·cases h
  ·split at h
   ·cases h;exact zCF _
   ·cases h;exact zGj hd hl
 split at h
 ·cases h;exact zKJ hl
 split at h
 ·cases h;exact zK6 _ (zLB _ _ hl) (zCF _)
 split at h
 ·split at h
  ·cases h
  ·exact zMR (hl _ (List.mem_cons_self ..)) h
 ·cases h;exact ht
mutual
theorem zHt:∀ (t s:Tree),TOk t→zBl t=some s→TOk s
 | .mk d ks,s=>fun ht h=>by
  simp only[zBl]at h;split at h
  ·cases h
  ·rename_i l hl;unfold capT at h;split at h
   ·rename_i s1 h1;split at h
    ·cases h
     have hk:=ht;simp only[TOk]at hk;exact zPo hk.1 ht (zHL ks l hk.2 hl) h1
    ·cases h
   ·cases h
theorem zHL:∀ (ts l:List Tree),TOks ts→zAw ts=some l→∀ x ∈ l,TOk x
 | [],l=>fun _ h=>by simp[zAw]at h;subst h;intro x hx;cases hx
 | t::r,l=>fun ht h=>by
  simp only[TOks]at ht;simp only[zAw]at h;split at h
  ·cases h
  ·rename_i x hx;split at h
   ·cases h
   ·rename_i l' hl
    cases h
    intro y hy;rcases List.mem_cons.1 hy with rfl|hy
    ·exact zHt t _ ht.1 hx
    ·exact zHL r l' ht.2 hl y hy
end
def IOk (xs:List InstD):Prop:=∀ x ∈ xs,zAW x.set
theorem zEM {a b:List InstD} (h:IOk a) (k:IOk b):IOk (a++b):=fun x hx=>(List.mem_append.1 hx).elim (h x) (k x)
theorem zEL {x:InstD} (h:zAW x.set):IOk [x]:=fun y hy=>by rw[List.mem_singleton]at hy;subst hy;exact h
theorem zLG (d:NodeD) (i o:Int):zAW (zDY d i o).set:=by unfold zDY;split<;>exact zBh
mutual
theorem zJV:∀ (t:Tree) (out:Nat) (xs:List InstD),TOk t→IOk xs→IOk (layP t out xs).2
 | .mk d ks,out,xs=>fun ht hx=>by
  simp only[TOk]at ht;obtain⟨hd,hk⟩:=ht;simp only[layP];split
  ·exact hx
  split
  ·exact zEM hx (zEL zBh)
  split
  ·exact zEM hx (zEL hd)
  split
  ·exact zOO ks out xs hk hx
  split
  ·exact zMh ks out xs hk hx
  split
  ·exact zEM (zKb ks _ _ hk (zEM hx (zEL zBh))) (zEL zBh)
  split
  ·split
   ·exact zEM (zKb ks _ _ hk hx) (zEL (zLG _ _ _))
   ·intro x hx2;rcases List.mem_or_eq_of_mem_set hx2 with h|h
    ·exact zKb ks _ _ hk (zEM hx (zEL zBh)) x h
    ·rw[h];exact zLG _ _ _
  ·exact zEM hx (zEL zBh)
theorem zKb:∀ (ts:List Tree) (out:Nat) (xs:List InstD),TOks ts→IOk xs→IOk (layH ts out xs).2
 | [],_,_=>fun _ h=>h
 | k::_,out,xs=>fun ht hx=>by simp only[TOks]at ht;exact zJV k out xs ht.1 hx
theorem zOO:∀ (ts:List Tree) (out:Nat) (xs:List InstD),TOks ts→IOk xs→IOk (layC ts out xs).2
 | [],_,_=>fun _ h=>h
 | k::r,out,xs=>fun ht hx=>by simp only[TOks]at ht;exact zJV k _ _ ht.1 (zOO r out xs ht.2 hx)
theorem zMh:∀ (ts:List Tree) (out:Nat) (xs:List InstD),TOks ts→IOk xs→IOk (layA ts out xs).2
 | [],_,_=>fun _ h=>h
 | [k],out,xs=>fun ht hx=>by simp only[TOks]at ht;exact zJV k out xs ht.1 hx
 | k::k2::r,out,xs=>fun ht hx=>by
  have h2:TOks (k2::r):=by simp only[TOks]at ht ⊢;exact ht.2
  have h1:TOk k:=by simp only[TOks]at ht;exact ht.1
  simp only[layA];exact zEM (zJV k _ _ h1 (zMh (k2::r) out xs h2 hx)) (zEL zBh)
end
theorem zOX {t:Tree} {ps:List InstD} (ht:TOk t) (h:zFT t=.ok ps):IOk ps:=by
 unfold zFT at h;split at h
 ·cases h
 ·rename_i s hs;split at h
  ·cases h
  ·cases h
   unfold zCX at hs;split at hs
   ·split at hs
    ·cases hs
    ·rename_i s1 h1
     cases hs
     intro x hx;unfold zCO at hx;obtain⟨y,hy,rfl⟩:=List.mem_map.1 hx;rw[List.mem_reverse]at hy
     show zAW y.set
     refine zEM (zJV s _ _ (zHt t s ht h1) ?_) (zEL zBh) y hy;intro z hz;simp only[zEZ,List.mem_cons,List.not_mem_nil,or_false]at hz;rcases hz with rfl|rfl<;>exact zBh
   ·cases hs
end
section
open Go.RowKit Go.Shelf
attribute [local go_sem] Oper.semAt_some
theorem zEo (d:InstD) (W:World):(Instr.buildSlice 22 1 #[(0,zAu d)]).run Tryz.prog W=.ok (.slice (some ⟨W.heap.size,0,none⟩) 1 1) (W.alloc (.cells (zAY d) 43)):=by kernel_rfl
theorem zOo {ops:Array Oper} {o:Oper} {a:Act} {w:World} {x:Operand} {d:InstD} {n0:Nat} {D:Prop} (hg:Region.wanted o (yielded ops a.tmps)=true) (hop:o.op=Op.buildSlice 22 1 #[(0,x)]) (hx:a.eval x=zAu d) (hn:n0≤w.heap.size) (hD:¬ D) :
  zA7 Tryz.prog ops o a w (fun v w'=>FreshS n0 (zAY d) 43 v w'∧(D→w.heap.size≤blk v)):=by
 refine zBr hg (v:=.slice (some ⟨w.heap.size,0,none⟩) 1 1) (w':=w.alloc (.cells (zAY d) 43)) ?_ ((Below.refl _ w).alloc (Nat.le_refl _) _) ⟨⟨w.heap.size,rfl,hn,World.alloc_heap_new w _⟩,fun h=>(hD h).elim⟩
 simp only[execOp,hop,List.map_toArray,List.map_cons,List.map_nil,hx,Sem.run_bind,zEo];rfl
theorem zJU:(Tryz.prog.info? 43).map (fun i=>(i.zero,i.size,i.bytes))=some (some (.agg (zAY {kind:=0})),9,72):=by kernel_rfl
theorem zD2 (xs:List InstD) (y:InstD):zAP (xs.map zAY)++(zAY y).toList=zAP ((xs++[y]).map zAY):=by
 rw[List.map_append,zBH];simp[zAP]
theorem HoldG.gainS {M:Nat→Prop} {w0 w w':World} {l:List Res} (H:HoldG M w0 w l) (hb:Below w.heap.size w w') {cs:Array Value} {T:TypeId} {v:Value} (h:FreshS w.heap.size cs T v w'):∃ b,v=.slice (some ⟨b,0,none⟩) 1 1∧HoldG M w0 w' (l++[.blk b cs T]):=by
 obtain⟨b,e,h1,h2⟩:=h;obtain⟨b',e',H2⟩:=H.gainB hb (v:=.pointer (some ⟨b,0,none⟩)) ⟨b,rfl,h1,h2⟩
 cases e'
 exact⟨b,e,H2⟩
section
variable {M:Nat→Prop} {w0 w:World}
abbrev zBU (bc:Nat) (v:Value) (xs:List InstD):List Res:=[.blk bc #[v] 145,.row v 43 9 xs.length (zAP (xs.map zAY))]
theorem zRH (bc:Nat) (v:Value) (xs:List InstD) (x:InstD) (H0:HoldG M w0 w (zBU bc v xs)) (hn:xs.length≤1000000000) :
  Calls Tryz.prog 68 #[.pointer (some ⟨bc,0,none⟩),zAu x] w fun e w'=>∃ v',e=.returned (.int .i64 xs.length)∧Turned M w0 w (zBU bc v xs) (zBU bc v' (xs++[x])) w':=by
 obtain⟨i0,hi0,hz0,hz1,hz2⟩:=info_parts zJU;have H:=H0.framed;clear H0;simp only[zBU,List.cons_append,List.nil_append]at H;have hsz0:w.heap.size≤w.heap.size:=Nat.le_refl _;obtain⟨ws,hws⟩:∃ ws,w.heap.size=ws:=⟨_,rfl⟩;obtain⟨rF,hrF⟩:∃ rF,zDp w (zBU bc v xs)=rF:=⟨_,rfl⟩;obtain⟨rS,hrS⟩:∃ rS,zEf w (zBU bc v xs)=rS:=⟨_,rfl⟩;simp only[zBU]at hrF hrS;rw[hrF,hrS]at H;obtain⟨n,hnn⟩:∃ n,xs.length=n:=⟨_,rfl⟩
 rw[hnn]at H hn;have HN:=Lib.hid hnn
 go_enter Tryz.func68,Tryz.ntmps68
 go_upto_region 1 with (first|((first|((with_reducible refine kgA 3 ?_);refine kA 3 H ?_)|((with_reducible refine kgX 3 ?_);(first|refine kS 3 H ?_|refine kB 3 H ?_)));clear H;intro b3 w H;try simp only[nr]at H)|fail)
 refine zCl 7 0 [fun u _=>u=pt bc 0,fun u _=>u=pt bc 0,fun u _=>u=pt bc 0,fun u _=>u=pt bc 0,fun u _=>u=v,fun u _=>u=zAu x,FreshS w.heap.size (zAY x) 43] (fun _=>false) (by kernel_rfl) (by kernel_rfl) (by kernel_rfl) ⟨zAF _,zAF _,zAF _,zAF _,zAF _,zAF _,zC8 _ _ _,trivial⟩ (fun _ _ h=>by cases h) ?ob ?en ?en2
 case ob =>
  refine⟨?_,?_,?_,?_,?_,?_,?_,trivial⟩<;>intro A W h
  ·exact zAB rfl rfl (h.f 0) (by decide)
  ·exact zAB rfl rfl (h.f 0) (by decide)
  ·(have e:A.eval (.tmp 6)=.pointer (some ⟨bc,0,none⟩):=h.d 1 6;refine zAA rfl ?_ (by decide);simp only[execOp,e];simp[go_sem])
  ·(have e:A.eval (.tmp 7)=.pointer (some ⟨bc,0,none⟩):=h.d 2 7;refine zAA rfl ?_ (by decide);simp only[execOp,e];simp[go_sem])
  ·exact zAA rfl (zAC rfl (h.d 3 8) zB7 ((H.call h.below).cell (i:=0) .zero 0)) (by decide)
  ·exact zAA rfl (zAb rfl (h.f 3) zAk rfl (fun k _=>by rw[Nat.zero_add];exact(H.call h.below).cell (i:=3) i_3 k)) (by decide)
  ·exact zOo rfl rfl (h.d 5 10) h.below.size (by decide)
 case en =>
  intro vals W hbw hv _;have v0:vals 0=.pointer (some ⟨bc,0,none⟩):=hv 0 (by omega)
  have v1:vals 1=.pointer (some ⟨bc,0,none⟩):=hv 1 (by omega)
  have v2:vals 2=.pointer (some ⟨bc,0,none⟩):=hv 2 (by omega)
  have v3:vals 3=.pointer (some ⟨bc,0,none⟩):=hv 3 (by omega)
  have v4:vals 4=v:=hv 4 (by omega)
  have v5:vals 5=zAu x:=hv 5 (by omega)
  obtain⟨bk,v6,H2⟩:=H.gainS hbw (show FreshS w.heap.size (zAY x) 43 (vals 6) W from hv 6 (by omega))
  simp only[fa,Nat.reduceAdd];rw[v0,v1,v2,v3,v4,v5,v6];clear hv v0 v1 v2 v3 v4 v5 v6 H;have hbz:=hbw.size;clear hbw;have H:=H2;clear H2;simp only[ca]at H;simp only[pl]
  go_wp2_with (first|(at_builtin;refine zAX rfl _ _ 22 rfl H (i:=1) (j:=4) evd_ rfl i_1 i_4 Tryz.underlying22 hi0 hz0 hz1 hz2 rfl (by decide) rfl rfl (by unfold maxLen;omega) (by omega) ?_;clear H;intro v2 w H;(try simp only[nr]at H);(obtain⟨q2,c2,rfl,_,_,_⟩:=H.rowShape (i:=1) i_1))|(first|((with_reducible refine gT ?_);(refine aO H ?_;clear H;intro w H;try simp only[nr]at H))|((with_reducible refine gL ?_);refine aG H ?_)))
  go_ret;refine⟨.slice q2 (n+1) c2,by rw[HN.out];rfl,?_⟩
  rw[← hrF,← hrS]at H;refine Turned.of H (i:=2) i_2 [0,1] (by decide) (by decide) ?_ (fun F S h=>by simp at h)
  simp only[zBU,List.map_cons,List.map_nil,List.length_append,List.length_cons,List.length_nil];rw[← zD2,HN.out];rfl
 case en2 =>
  intro vals W hbw hv2 _;have hv:∀ i,i<7→0<i→zAh _ i (vals i) W:=fun i h1 h2=>hv2 i h1 (by omega)
  have v1:vals 1=.pointer (some ⟨bc,0,none⟩):=hv 1 (by omega) (by omega)
  have v2:vals 2=.pointer (some ⟨bc,0,none⟩):=hv 2 (by omega) (by omega)
  have v3:vals 3=.pointer (some ⟨bc,0,none⟩):=hv 3 (by omega) (by omega)
  have v4:vals 4=v:=hv 4 (by omega) (by omega)
  have v5:vals 5=zAu x:=hv 5 (by omega) (by omega)
  obtain⟨bk,v6,H2⟩:=H.gainS hbw (show FreshS w.heap.size (zAY x) 43 (vals 6) W from hv 6 (by omega) (by omega))
  simp only[List.take_succ_cons,List.take_zero,List.drop_succ_cons,List.drop_zero,List.drop_nil,List.take_nil,zC1,zHd,List.cons_append,List.nil_append,Nat.reduceEqDiff,if_true,if_false,reduceCtorEq,Nat.zero_add,Nat.reduceAdd];rw[v1,v2,v3,v4,v5,v6];clear hv hv2 v1 v2 v3 v4 v5 v6 H;have hbz:=hbw.size;clear hbw;have H:=H2;clear H2;simp only[ca]at H;simp only[pl]
  go_wp2_with (first|(at_builtin;refine zAX rfl _ _ 22 rfl H (i:=1) (j:=4) evd_ rfl i_1 i_4 Tryz.underlying22 hi0 hz0 hz1 hz2 rfl (by decide) rfl rfl (by unfold maxLen;omega) (by omega) ?_;clear H;intro v2 w H;(try simp only[nr]at H);(obtain⟨q2,c2,rfl,_,_,_⟩:=H.rowShape (i:=1) i_1))|(first|((with_reducible refine gT ?_);(refine aO H ?_;clear H;intro w H;try simp only[nr]at H))|((with_reducible refine gL ?_);refine aG H ?_)))
  go_ret;refine⟨.slice q2 (n+1) c2,by rw[HN.out];rfl,?_⟩
  rw[← hrF,← hrS]at H;refine Turned.of H (i:=2) i_2 [0,1] (by decide) (by decide) ?_ (fun F S h=>by simp at h)
  simp only[zBU,List.map_cons,List.map_nil,List.length_append,List.length_cons,List.length_nil];rw[← zD2,HN.out];rfl
end
theorem zOE (d:NodeD) (s:Value) (i o:Int) (w0:World):Calls Tryz.prog 113 #[zAc d s,.int .i64 i,.int .i64 o] w0 (Rt (zAu (zDY d i o)) w0):=by
 have H:=Hold.start w0
 cases hl:d.lazy with
 | true =>
  have E:=Lib.hid (show zDY d i o={kind:=2,next:=o,other:=i} by unfold zDY;rw[hl];rfl)
  go_enter Tryz.func113,Tryz.ntmps113
  go_wp2_with (first|(first|((with_reducible refine gTi ?_);refine aTi H ?_;clear H;intro w H;try simp only[nr]at H)|((with_reducible refine gBi ?_);refine ib3 ?_)|((with_reducible refine gL ?_);refine aGb H ?_)|((with_reducible refine gX ?_);(refine bB H ?_;clear H;intro b w H;try simp only[nr]at H))|((with_reducible refine gA ?_);(refine bA H ?_;clear H;intro b w H;try simp only[nr]at H))))
  (refine zKK Tryz.results113 rfl H atd_ zAk (by rfl) rfl ?_)
  exact⟨by rw[E.out],H.below⟩
 | false =>
  have E:=Lib.hid (show zDY d i o={kind:=2,next:=i,other:=o} by unfold zDY;rw[hl];rfl)
  go_enter Tryz.func113,Tryz.ntmps113
  go_wp2_with (first|(first|((with_reducible refine gTi ?_);refine aTi H ?_;clear H;intro w H;try simp only[nr]at H)|((with_reducible refine gBi ?_);refine ib3 ?_)|((with_reducible refine gL ?_);refine aGb H ?_)|((with_reducible refine gX ?_);(refine bB H ?_;clear H;intro b w H;try simp only[nr]at H))|((with_reducible refine gA ?_);(refine bA H ?_;clear H;intro b w H;try simp only[nr]at H))))
  (refine zKK Tryz.results113 rfl H atd_ zAk (by rfl) rfl ?_)
  exact⟨by rw[E.out],H.below⟩
theorem zE3 (d:NodeD) (s v:Value):(zAU d s).setIfInBounds 5 v=zAU d v:=rfl
theorem zH1:∀ (m:Nat) (t:Tree) (p:Option Addr) (n c:Nat) (F:Nat→Prop) (w0:World),zAT t≤m→m≤1000000000→(∀ b,F b→b<w0.heap.size)→ForestR w0 F p c t.kids→n=t.kids.length →
  Calls Tryz.prog 112 #[zAc t.d (.slice p n c)] w0 fun e w'=>zCP w0 (fun _=>False) t e w'∧Below w0.heap.size w0 w'
 | 0,t,_,_,_,_,_,hm,_,_,_,_=>by have:=zBL t;omega
 | m+1,.mk d ts,p,n,c,F,w0,hm,hm2,hF,h,hn=>by
  have IH:=zH1 m;obtain⟨i0,hi0,hz0,hz1,hz2⟩:=info_parts zD0;simp only[Tree.kids,Tree.d]at h hn ⊢;obtain⟨xs,h1,h2,rfl⟩:=h.open;have hn':=hn;rw[List.length_map]at hn;rw[← hn]at h1;have hK:Knows F p n c xs w0:=⟨h1,h2⟩;clear h h1 h2;have H:=Hold.knows hF hK;have hc1:=hK.bound.2.1;have hc2:=hK.bound.2.2;have hp:=hK.at;clear hK;simp only[zAT]at hm;have hnl:n≤1000000000:=by have:=zDE (xs.map (·.1));omega
  have HN:=Lib.hid hn;have HN2:=Lib.hid hn';clear hn hn'
  go_enter Tryz.func112,Tryz.ntmps112
  go_upto_region 3 with (first|((with_reducible refine gT ?_);refine zAQ wtd_ _ _ _ rfl rfl evd_ H (i:=3) i_3 rfl (by show 5<10;omega) (by with_reducible exact zAI zDZ) ?_;clear H;intro w H;(rw[zE3]at H);try simp only[nr]at H)|((first|((with_reducible refine kgA 1 ?_);refine kA 1 H ?_)|((with_reducible refine kgX 1 ?_);(first|refine kS 1 H ?_|refine kB 1 H ?_)));clear H;intro b1 w H;try simp only[nr]at H)|((first|((with_reducible refine kgA 2 ?_);refine kA 2 H ?_)|((with_reducible refine kgX 2 ?_);(first|refine kS 2 H ?_|refine kB 2 H ?_)));clear H;intro b2 w H;try simp only[nr]at H)|((first|((with_reducible refine kgA 3 ?_);refine kA 3 H ?_)|((with_reducible refine kgX 3 ?_);(first|refine kS 3 H ?_|refine kB 3 H ?_)));clear H;intro b3 w H;try simp only[nr]at H)|(first|((with_reducible refine gT ?_);(refine aT H ?_;clear H;intro w H;try simp only[nr]at H))|((with_reducible refine gL ?_);refine aD H ?_)))
  replace H:=(H.addNil 87 10).know (fun _=>False) (fun V=>ListR V (fun _=>False) []) (fun _ h=>h.elim) (fun _ _ _ _ _ h=>h) (fun V _=>ListR.nil _ _)
  simp only[List.nil_append,List.cons_append]at H
  go_wp2_with fail
  go_loopw [4] (fun ix wr=>∃ (j:Nat) (xa:List TV) (vq:Option Addr) (vc:Nat) (Fa:Nat→Prop),j≤n∧ix=.int .i64 j∧xa.length=j∧Hid (xa.map (·.1)=(xs.map (·.1)).take j)∧(∀ b,Fa b→w0.heap.size≤b)∧Hold w0 wr [.kn F (Knows F p n c xs),.blk b1 (zAU d (.slice p n c)) 87,.blk b2 (zAU {kind:=0} nilS) 87,.blk b3 (zAU d (.slice vq j vc)) 87,.row (.slice vq j vc) 87 10 j (zAP (xa.map zAy)),.kn Fa (fun V=>ListR V Fa xa)]) (fun ix _=>n+1 - (intOf ix).toNat)
  case atStart=>exact⟨0,[],none,0,fun _=>False,by omega,rfl,rfl,Lib.hid rfl,fun _ h=>h.elim,H⟩
  case round =>
   clear H;obtain⟨j,xa,vq,vc,Fa,hj,rfl,hxl,E,hFa,H⟩:=hrel
   by_cases hlt:j<n
   ·have dj:decide ((j:Int)<(n:Int))=true:=by simp;omega
    obtain⟨x,hx⟩:∃ x,xs[j]?=some x:=⟨_,List.getElem?_eq_getElem (by rw[← HN.out];exact hlt)⟩
    obtain⟨b,off,rfl⟩:=hp (by rw[← HN.out];omega)
    have hs1:=zDM hx;have hmem:=List.mem_of_getElem? hx;have hcell:∀ V,Knows F (some ⟨b,off,none⟩) n c xs V→∀ k,k<10→V.cell? ⟨b,off+j * 10+k,none⟩=(zAy x)[k]?:=fun V h=>h.cells hx rfl
    have ih:=fun w (hw:∀ b,F b→b<w.heap.size) (hk:Knows F (some ⟨b,off,none⟩) n c xs w)=>IH x.1 x.2.1 _ x.2.2 F w (by omega) (by omega) hw (hk.2 x hmem) rfl
    have E2:=Lib.hid (show xa.map (·.1)++[x.1]=(xs.map (·.1)).take (j+1) by rw[E.out,zCn (i:=j) (x:=x.1) (by rw[List.getElem?_map,hx];rfl)])
    have HX:=Lib.hid hxl;clear IH hx hmem hp hs1 hxl
    go_wp2_with (first|((with_reducible refine gT ?_);refine zAQ wtd_ _ _ _ rfl rfl evd_ H (i:=3) i_3 rfl (by show 5<10;omega) (by with_reducible exact zAI zDZ) ?_;clear H;intro w H;(rw[zE3]at H);try simp only[nr]at H)|((with_reducible refine gL ?_);refine zAS wtd_ _ _ rfl rfl zAR (zAz x) (hcell _ (H.kn (i:=0) .zero)) ?_)|(at_builtin;refine zAX rfl _ _ 85 rfl H (i:=4) (j:=8) evd_ rfl i_4 i_8 Tryz.underlying85 hi0 hz0 hz1 hz2 rfl (by decide) rfl rfl (by unfold maxLen;omega) (by omega) ?_;clear H;intro v2 w H;(try simp only[nr]at H);(obtain⟨q2,c2,rfl,_,_,_⟩:=H.rowShape (i:=4) i_4))|((with_reducible refine gBS ?_);refine zAL wtd_ _ _ _ rfl H (zAU (x.1.d) (.slice q1 x.1.kids.length m1)) 87 (by intro W;simp only[ml];(try simp only[pe]);exact zBf _ _ W) ?_;clear H;intro bk w H;try simp only[nr]at H)|(first|((with_reducible refine gT ?_);(refine aT H ?_;clear H;intro w H;try simp only[nr]at H))|((with_reducible refine gL ?_);(first|refine aG H ?_|refine aD H ?_))|((with_reducible refine gA ?_);(refine bA H ?_;clear H;intro b w H;try simp only[nr]at H)))|(go_at_call 112;(with_reducible refine cht (ih _ (H.knlt (i:=0) .zero) (H.kn (i:=0) .zero)) H Still.none ?_);clear H;intro q1 m1 F1 w hF1 H))
    have H2:=H.rowGrown (i:=4) (k:=5) (k2:=6) (xs:=xa) (ys:=xa) (by rw[HX.out];exact i_4) i_5 i_6 (xa++[(x.1,q1,m1)]) (fun y hy=>(List.mem_append.1 hy).imp id List.mem_singleton.1)
    have hl2:(xa++[((x.1,q1,m1):TV)]).length=j+1:=by simp[HX.out]
    rw[hl2]at H2;have HL:=Lib.hid hl2;clear hl2;go_roundw
    case rel=>exact⟨j+1,xa++[(x.1,q1,m1)],q2,c2,fun b=>Fa b∨F1 b,by omega,by go_num,HL.out,Lib.hid (by rw[List.map_append];exact E2.out),fun b h=>h.elim (hFa b) (fun h=>(hF1 b h).elim id False.elim),H2.pick [0,1,2,3,4,9] _ (by decide) rfl⟩
    case measure=>simp[intOf];omega
   ·have hjn:j=n:=by omega
    have dj:decide ((j:Int)<(n:Int))=false:=by simp;omega
    have EX:=Lib.hid (show xa.map (·.1)=xs.map (·.1) by rw[E.out,List.take_of_length_le (by rw[List.length_map,← HN.out];omega)])
    obtain⟨G,hG,H2⟩:=H.rowForest (i:=4) (xs:=xa) (K:=Fa) i_4 hxl (Still.at (i:=5) i_5) (H.kn (i:=5) i_5);clear H;have H:=H2;clear H2;simp only[sc]at H;have HJ:=Lib.hid hjn;clear hjn hxl
    go_wp2_with (first|(first|((with_reducible refine gT ?_);(refine aT H ?_;clear H;intro w H;try simp only[nr]at H))|((with_reducible refine gL ?_);(first|refine aG H ?_|refine aD H ?_))))
    (refine xc Tryz.results112 H ?_)
    refine⟨⟨vq,vc,G,?_,?_,fun b h=>⟨H.knlt (i:=4) i_4 b h,.inl ((hG b h).elim id (hFa b))⟩⟩,H.below⟩
    ·show Ending.returned (zAc d (.slice vq j vc))=Ending.returned (zAc d (.slice vq (xs.map (·.1)).length vc))
     rw[← HN2.out,HJ.out]
    ·have:=H.kn (i:=4) i_4;rw[EX.out]at this;exact this
end
end Go.Proofs.YtdoflhjhaciepaaGreat
