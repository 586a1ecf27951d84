/-
  Laws of walks, and walks.
-/
import Derived.Test.YtalggmbdpmdcbaaGreatPf4
import Derived.Test.YtalggmbdpmdcbaaGreatPf12
import Derived.Test.YtalggmbdpmdcbaaGreatPf6
import Derived.Test.YtalggmbdpmdcbaaGreatPf2
import Derived.Test.YtalggmbdpmdcbaaGreatPf7
set_option linter.unusedVariables false
set_option linter.unusedSimpArgs false
set_option maxRecDepth 100000
set_option maxHeartbeats 16000000
namespace Go.Proofs.YtalggmbdpmdcbaaGreat
section
open Go.RowKit Go.Shelf
attribute [local go_sem] Oper.semAt_some
def zNe (c i:Nat):WordD :=
 if c=46 then {kind:=2,place:=i} else if c=94 then {kind:=3,place:=i} else if c=36 then {kind:=4,place:=i} else if c=40 then {kind:=6,place:=i}
 else if c=41 then {kind:=9,place:=i} else if c=124 then {kind:=10,place:=i} else if c=42 then {kind:=11,place:=i,lo:=0,hi := -1}
 else if c=43 then {kind:=11,place:=i,lo:=1,hi := -1} else if c=63 then {kind:=11,place:=i,lo:=0,hi:=1} else {kind:=0,place:=i}
theorem ieq (c n:Nat):(c=n)=(((c:Int) == (n:Int))=true):=by rw[beq_iff_eq];exact propext ⟨fun h=>by omega,fun h=>by omega⟩
theorem zN2 (c i:Nat) (hc:c<256) (w0:World):Calls Tryz.prog 173 #[.int .u8 c,.int .i64 i] w0 (Rt (zC3 (zNe c i)) w0):=by
 have H:=Hold.start w0
 go_enter Tryz.func173,Tryz.ntmps173
 go_wp2_with (first|(first|((with_reducible refine gT ?_);((first|refine aO H ?_|refine aT H ?_);clear H;intro w H;try simp only[nr]at H))|((with_reducible refine gL ?_);refine aD H ?_)|((with_reducible refine gA ?_);(refine bA H ?_;clear H;intro b w H;try simp only[nr]at H))))
 all_goals
  (refine xc Tryz.results173 H ?_)
  refine⟨congrArg Ending.returned ?_,H.below⟩;clear H;simp only[zNe,ieq,Int.cast_ofNat_Int, *,Bool.false_eq_true,if_true,if_false];rfl
def RepR (o:Except Nat (WordD × Nat)) (e:Ending):Prop:=match o with
 | .ok (w,k)=>e=.returned (.tuple #[zC3 w,.int .i64 k,.int .i64 0])
 | .error x=>∃ w k,e=.returned (.tuple #[zC3 w,.int .i64 k,.int .i64 x])
theorem RepR.ok {o:Except Nat (WordD × Nat)} {w:WordD} {k:Nat} (h:o=.ok (w,k)):RepR o (.returned (.tuple #[zC3 w,.int .i64 k,.int .i64 0])):=by subst h;rfl
theorem RepR.no {o:Except Nat (WordD × Nat)} {x:Nat} {w:WordD} {k:Int} (h:o=.error x):RepR o (.returned (.tuple #[zC3 w,.int .i64 k,.int .i64 x])):=by subst h;exact⟨w,k,rfl⟩
theorem zKm (L:Str) (i e:Nat) (lo hi:Int) (hL:L.length<=2000) (hlo:0<=lo/\lo<=200) (hhi : -1<=hi/\hi<=200) (hel:e<=L.length) (w0:World) :
  Calls Tryz.prog 179 #[.string ⟨L.toArray⟩,zC3 {kind:=11,place:=i,lo:=lo,hi:=hi},.int .i64 e] w0 fun e' w'=>RepR (zA3 L i lo hi e) e'/\Below w0.heap.size w0 w':=by
 have H:=Hold.start w0;have hat:=fun w=>zOJ L [63] e hL (by simp) (by simp) (by omega) w
 by_cases c1:100<lo
 ·have d1:decide (100<lo)=true:=by simp;omega
  have HE:=Lib.hid (show zA3 L i lo hi e=.error 6 by unfold zA3;rw[if_pos (.inl c1)])
  clear c1
  go_enter Tryz.func179,Tryz.ntmps179
  go_wp2_with (first|(first|((with_reducible refine gT ?_);(refine aT H ?_;clear H;intro w H;try simp only[nr]at H))|((with_reducible refine gL ?_);(first|refine aG H ?_|refine aD H ?_))|((with_reducible refine gX ?_);(refine bB H ?_;clear H;intro b w H;try simp only[nr]at H))|((with_reducible refine gA ?_);(refine bA H ?_;clear H;intro b w H;try simp only[nr]at H)))|((with_reducible refine ch (hat _) H ?_);clear H;intro w H))
  (refine xctt Tryz.results179 H ?_)
  exact⟨RepR.no (w:={kind:=11,place:=i,lo:=lo,hi:=hi}) HE.out,H.below⟩
 ·have d1:decide (100<lo)=false:=by simp;omega
  by_cases c2:100<hi
  ·have d2:decide (100<hi)=true:=by simp;omega
   have HE:=Lib.hid (show zA3 L i lo hi e=.error 6 by unfold zA3;rw[if_pos (.inr (.inl c2))])
   clear c2 c1
   go_enter Tryz.func179,Tryz.ntmps179
   go_wp2_with (first|(first|((with_reducible refine gT ?_);(refine aT H ?_;clear H;intro w H;try simp only[nr]at H))|((with_reducible refine gL ?_);(first|refine aG H ?_|refine aD H ?_))|((with_reducible refine gX ?_);(refine bB H ?_;clear H;intro b w H;try simp only[nr]at H))|((with_reducible refine gA ?_);(refine bA H ?_;clear H;intro b w H;try simp only[nr]at H)))|((with_reducible refine ch (hat _) H ?_);clear H;intro w H))
   (refine xctt Tryz.results179 H ?_)
   exact⟨RepR.no (w:={kind:=11,place:=i,lo:=lo,hi:=hi}) HE.out,H.below⟩
  ·have d2:decide (100<hi)=false:=by simp;omega
   by_cases c3:0<=hi
   ·have d3:decide (0<=hi)=true:=by simp;omega
    by_cases c4:hi<lo
    ·have d4:decide (hi<lo)=true:=by simp;omega
     have HE:=Lib.hid (show zA3 L i lo hi e=.error 6 by unfold zA3;rw[if_pos (.inr (.inr ⟨c3,c4⟩))])
     clear c4 c3 c2 c1
     go_enter Tryz.func179,Tryz.ntmps179
     go_wp2_with (first|(first|((with_reducible refine gT ?_);(refine aT H ?_;clear H;intro w H;try simp only[nr]at H))|((with_reducible refine gL ?_);(first|refine aG H ?_|refine aD H ?_))|((with_reducible refine gX ?_);(refine bB H ?_;clear H;intro b w H;try simp only[nr]at H))|((with_reducible refine gA ?_);(refine bA H ?_;clear H;intro b w H;try simp only[nr]at H)))|((with_reducible refine ch (hat _) H ?_);clear H;intro w H))
     (refine xctt Tryz.results179 H ?_)
     exact⟨RepR.no (w:={kind:=11,place:=i,lo:=lo,hi:=hi}) HE.out,H.below⟩
    ·have d4:decide (hi<lo)=false:=by simp;omega
     have hne:¬ (100<lo\/100<hi\/(0<=hi/\hi<lo)):=by omega
     have he:zA3 L i lo hi e=zA3 L i lo hi e:=rfl
     conv at he=>rhs;unfold zA3
     rw[if_neg hne]at he;clear hne c1 c2 c3 c4
     cases ha:atP L e [63] with
     | true =>
      rw[ha]at hat;rw[if_pos ha]at he;have HE:=Lib.hid he;clear he ha
      go_enter Tryz.func179,Tryz.ntmps179
      go_wp2_with (first|(first|((with_reducible refine gT ?_);((first|refine aO H ?_|refine aT H ?_);clear H;intro w H;try simp only[nr]at H))|((with_reducible refine gL ?_);(first|refine aG H ?_|refine aD H ?_))|((with_reducible refine gX ?_);(refine bB H ?_;clear H;intro b w H;try simp only[nr]at H))|((with_reducible refine gA ?_);(refine bA H ?_;clear H;intro b w H;try simp only[nr]at H)))|((with_reducible refine ch (hat _) H ?_);clear H;intro w H))
      (refine xctt Tryz.results179 H ?_)
      exact⟨RepR.ok (w:={kind:=11,place:=i,lo:=lo,hi:=hi,lazy:=true}) HE.out,H.below⟩
     | false =>
      rw[ha]at hat;rw[if_neg (by rw[ha];simp)]at he
      have HE:=Lib.hid he;clear he ha
      go_enter Tryz.func179,Tryz.ntmps179
      go_wp2_with (first|(first|((with_reducible refine gT ?_);(refine aT H ?_;clear H;intro w H;try simp only[nr]at H))|((with_reducible refine gL ?_);(first|refine aG H ?_|refine aD H ?_))|((with_reducible refine gX ?_);(refine bB H ?_;clear H;intro b w H;try simp only[nr]at H))|((with_reducible refine gA ?_);(refine bA H ?_;clear H;intro b w H;try simp only[nr]at H)))|((with_reducible refine ch (hat _) H ?_);clear H;intro w H))
      (refine xctt Tryz.results179 H ?_)
      exact⟨RepR.ok (w:={kind:=11,place:=i,lo:=lo,hi:=hi}) HE.out,H.below⟩
   ·have d3:decide (0<=hi)=false:=by simp;omega
    have hne:¬ (100<lo\/100<hi\/(0<=hi/\hi<lo)):=by omega
    have he:zA3 L i lo hi e=zA3 L i lo hi e:=rfl
    conv at he=>rhs;unfold zA3
    rw[if_neg hne]at he;clear hne c1 c2 c3
    cases ha:atP L e [63] with
    | true =>
     rw[ha]at hat;rw[if_pos ha]at he;have HE:=Lib.hid he;clear he ha
     go_enter Tryz.func179,Tryz.ntmps179
     go_wp2_with (first|(first|((with_reducible refine gT ?_);((first|refine aO H ?_|refine aT H ?_);clear H;intro w H;try simp only[nr]at H))|((with_reducible refine gL ?_);(first|refine aG H ?_|refine aD H ?_))|((with_reducible refine gX ?_);(refine bB H ?_;clear H;intro b w H;try simp only[nr]at H))|((with_reducible refine gA ?_);(refine bA H ?_;clear H;intro b w H;try simp only[nr]at H)))|((with_reducible refine ch (hat _) H ?_);clear H;intro w H))
     (refine xctt Tryz.results179 H ?_)
     exact⟨RepR.ok (w:={kind:=11,place:=i,lo:=lo,hi:=hi,lazy:=true}) HE.out,H.below⟩
    | false =>
     rw[ha]at hat;rw[if_neg (by rw[ha];simp)]at he
     have HE:=Lib.hid he;clear he ha
     go_enter Tryz.func179,Tryz.ntmps179
     go_wp2_with (first|(first|((with_reducible refine gT ?_);(refine aT H ?_;clear H;intro w H;try simp only[nr]at H))|((with_reducible refine gL ?_);(first|refine aG H ?_|refine aD H ?_))|((with_reducible refine gX ?_);(refine bB H ?_;clear H;intro b w H;try simp only[nr]at H))|((with_reducible refine gA ?_);(refine bA H ?_;clear H;intro b w H;try simp only[nr]at H)))|((with_reducible refine ch (hat _) H ?_);clear H;intro w H))
     (refine xctt Tryz.results179 H ?_)
     exact⟨RepR.ok (w:={kind:=11,place:=i,lo:=lo,hi:=hi}) HE.out,H.below⟩
theorem at2' {L:Str} {i:Nat} (hi:i<L.length) (h:byt L i=40):atP L i [40,63]=atP L (i+1) [63]:=by
 unfold atP;have:((40:UInt8) == L[i])=true:=by
  rw[beq_iff_eq];apply UInt8.toNat_inj.1;rw[← zPC hi,h];rfl
 rw[List.drop_eq_getElem_cons hi,List.isPrefixOf_cons_cons,this,Bool.true_and]
theorem w_40 {L:Str} {i:Nat} (h:byt L i=40):zBl L i=if atP L (i+1) [63] then zIW (zM0 L i) else .ok ({kind:=6,place:=i},i+1):=by unfold zBl;simp[h]
theorem w_42 {L:Str} {i:Nat} (h:byt L i=42):zBl L i=zA3 L i 0 (-1) (i+1):=by unfold zBl;simp[h]
theorem w_43 {L:Str} {i:Nat} (h:byt L i=43):zBl L i=zA3 L i 1 (-1) (i+1):=by unfold zBl;simp[h]
theorem w_63 {L:Str} {i:Nat} (h:byt L i=63):zBl L i=zA3 L i 0 1 (i+1):=by unfold zBl;simp[h]
theorem w_46 {L:Str} {i:Nat} (h:byt L i=46):zBl L i=.ok ({kind:=2,place:=i},i+1):=by unfold zBl;simp[h,zI8]
theorem w_94 {L:Str} {i:Nat} (h:byt L i=94):zBl L i=.ok ({kind:=3,place:=i},i+1):=by unfold zBl;simp[h,zI8]
theorem w_36 {L:Str} {i:Nat} (h:byt L i=36):zBl L i=.ok ({kind:=4,place:=i},i+1):=by unfold zBl;simp[h,zI8]
theorem w_41 {L:Str} {i:Nat} (h:byt L i=41):zBl L i=.ok ({kind:=9,place:=i},i+1):=by unfold zBl;simp[h,zI8]
theorem zQN {L:Str} {i:Nat} (h:byt L i=124):zBl L i=.ok ({kind:=10,place:=i},i+1):=by unfold zBl;simp[h,zI8]
theorem w_no {L:Str} {i:Nat} (h92:byt L i≠92) (h91:byt L i≠91) (h40:byt L i≠40) (h123:byt L i≠123) (h42:byt L i≠42) (h43:byt L i≠43) (h63:byt L i≠63) (h46:byt L i≠46) (h94:byt L i≠94) (h36:byt L i≠36) (h41:byt L i≠41) (h124:byt L i≠124):zBl L i=.ok ({kind:=1,place:=i,set:=ofS [(byt L i:Int)]},i+1):=by unfold zBl;simp[zI8, *]
theorem zPN {c i:Nat} (h40:c≠40) (h42:c≠42) (h43:c≠43) (h63:c≠63) (h46:c≠46) (h94:c≠94) (h36:c≠36) (h41:c≠41) (h124:c≠124):zNe c i={kind:=0,place:=i}:=by unfold zNe;simp[*]
theorem zNO (i:Nat) (s:Nat->Nat) (W:World):(Instr.build 260 #[(0,.int .i64 1),(1,.int .i64 i),(2,setV s)]).run Tryz.prog W=.ok (zC3 {kind:=1,place:=i,set:=s}) W:=by
 unfold setV;simp[go_sem];rfl
theorem zFg {ops:Array Oper} {rest:List Oper} {o:Oper} {a:Act} {w:World} {Q:Exit->Act->World->Prop} (hg:Region.wanted o (yielded ops a.tmps)=true) {x y:Operand} (ho:o.op=.build 260 #[(0,.const (.int .i64 1)),(1,x),(2,y)])
  {i:Nat} {s:Nat->Nat} (hx:a.eval x=.int .i64 i) (hy:a.eval y=setV s) (h:wpList Tryz.prog ops Q rest (a.put o.dst (zC3 {kind:=1,place:=i,set:=s})) w):wpList Tryz.prog ops Q (o::rest) a w :=
 zAK hg (by
  simp only[execOp,ho,List.map_toArray,List.map_cons,List.map_nil,hx,hy,zB0,Sem.run_bind,zNO];rfl) h
theorem zLm (L:Str) (i:Nat) (hL:L.length<=2000) (hi:i<L.length) (w0:World) (n92:((byt L i:Int) == 92)=false) (n91:((byt L i:Int) == 91)=false) (n123:((byt L i:Int) == 123)=false) (hat:∀ w,Calls Tryz.prog 176 #[.string ⟨L.toArray⟩,.int .i64 i,.string ⟨#[40,63]⟩] w (Rt (.bool false) w)) {k:Nat} (hsg:∀ w,Calls Tryz.prog 173 #[.int .u8 (byt L i),.int .i64 i] w (Rt (zC3 {kind:=k,place:=i}) w)) (n11:((k:Int) == 11)=false) (n0:((k:Int) == 0)=false) (E:Hid (zBl L i=.ok ({kind:=k,place:=i},i+1))) :
  Calls Tryz.prog 149 #[.string ⟨L.toArray⟩,.int .i64 i] w0 fun e w'=>RepR (zBl L i) e/\Below w0.heap.size w0 w':=by
 have H:=Hold.start w0
 go_enter Tryz.func149,Tryz.ntmps149
 go_wp2_with (first|((with_reducible show @wpList _ _ _ ({dst:=_,op:=Op.build _ #[(0,Operand.const (Value.int IntKind.i64 1)),(1,_),(2,_)],type:=_,pos:=_,after:=_,guard:=_}::_) _ _);refine zFg wtd_ rfl rfl (by (try simp only[pe]);with_reducible rfl) ?_)|(first|((with_reducible refine gT ?_);(refine aT H ?_;clear H;intro w H;try simp only[nr]at H))|((with_reducible refine gL ?_);(first|refine aG H ?_|refine aD H ?_))|((with_reducible refine gA ?_);(refine bA H ?_;clear H;intro b w H;try simp only[nr]at H))|((with_reducible refine gI ?_);refine aI ?_))|((with_reducible first|refine ch (hsg _) H ?_|refine ch (hat _) H ?_);clear H;intro w H))
 (refine xctt Tryz.results149 H ?_)
 exact⟨RepR.ok (w:={kind:=k,place:=i}) E.out,H.below⟩
theorem zNb (L:Str) (i:Nat) (hL:L.length<=2000) (hi:i<L.length) (w0:World) (n92:((byt L i:Int) == 92)=false) (n91:((byt L i:Int) == 91)=false) (n123:((byt L i:Int) == 123)=false) (hat:∀ w,Calls Tryz.prog 176 #[.string ⟨L.toArray⟩,.int .i64 i,.string ⟨#[40,63]⟩] w (Rt (.bool false) w)) {lo hi3:Int} (hlo:0<=lo/\lo<=200) (hhi : -1<=hi3/\hi3<=200) (hsg:∀ w,Calls Tryz.prog 173 #[.int .u8 (byt L i),.int .i64 i] w (Rt (zC3 {kind:=11,place:=i,lo:=lo,hi:=hi3}) w)) (E:zBl L i=zA3 L i lo hi3 (i+1)) :
  Calls Tryz.prog 149 #[.string ⟨L.toArray⟩,.int .i64 i] w0 fun e w'=>RepR (zBl L i) e/\Below w0.heap.size w0 w':=by
 have H:=Hold.start w0;have hr:=fun w=>zKm L i (i+1) lo hi3 hL hlo hhi (by omega) w
 simp only[Int.natCast_add,Int.cast_ofNat_Int]at hr
 cases hp:zA3 L i lo hi3 (i+1) with
 | error x =>
  rw[hp]at hr E;simp only[RepR]at hr;have E:=Lib.hid E;clear hp
  go_enter Tryz.func149,Tryz.ntmps149
  go_wp2_with (first|((with_reducible show @wpList _ _ _ ({dst:=_,op:=Op.build _ #[(0,Operand.const (Value.int IntKind.i64 1)),(1,_),(2,_)],type:=_,pos:=_,after:=_,guard:=_}::_) _ _);refine zFg wtd_ rfl rfl (by (try simp only[pe]);with_reducible rfl) ?_)|(first|((with_reducible refine gT ?_);(refine aT H ?_;clear H;intro w H;try simp only[nr]at H))|((with_reducible refine gL ?_);(first|refine aG H ?_|refine aD H ?_))|((with_reducible refine gA ?_);(refine bA H ?_;clear H;intro b w H;try simp only[nr]at H))|((with_reducible refine gI ?_);refine aI ?_))|((with_reducible first|refine ch (hsg _) H ?_|refine ch (hat _) H ?_);clear H;intro w H)|(go_at_call 179;(with_reducible refine(hr _).mono ?_);rintro e w ⟨⟨wd,kk,rfl⟩,hb⟩;replace H:=H.call hb;clear hb))
  (refine xctt Tryz.results149 H ?_)
  exact⟨RepR.no (w:=wd) E.out,H.below⟩
 | ok p =>
  obtain⟨d,k⟩:=p;rw[hp]at hr E;simp only[RepR]at hr;have E:=Lib.hid E;clear hp
  go_enter Tryz.func149,Tryz.ntmps149
  go_wp2_with (first|((with_reducible show @wpList _ _ _ ({dst:=_,op:=Op.build _ #[(0,Operand.const (Value.int IntKind.i64 1)),(1,_),(2,_)],type:=_,pos:=_,after:=_,guard:=_}::_) _ _);refine zFg wtd_ rfl rfl (by (try simp only[pe]);with_reducible rfl) ?_)|(first|((with_reducible refine gT ?_);(refine aT H ?_;clear H;intro w H;try simp only[nr]at H))|((with_reducible refine gL ?_);(first|refine aG H ?_|refine aD H ?_))|((with_reducible refine gA ?_);(refine bA H ?_;clear H;intro b w H;try simp only[nr]at H))|((with_reducible refine gI ?_);refine aI ?_))|((with_reducible first|refine ch (hsg _) H ?_|refine ch (hat _) H ?_|refine ch (hr _) H ?_);clear H;intro w H))
  (refine xctt Tryz.results149 H ?_)
  exact⟨RepR.ok (w:=d) E.out,H.below⟩
theorem zMt (L:Str) (i:Nat) (hL:L.length<=2000) (hi:i<L.length) (w0:World) (n92:((byt L i:Int) == 92)=false) (n91:((byt L i:Int) == 91)=false) (n123:((byt L i:Int) == 123)=false) (hat:∀ w,Calls Tryz.prog 176 #[.string ⟨L.toArray⟩,.int .i64 i,.string ⟨#[40,63]⟩] w (Rt (.bool false) w)) (hsg:∀ w,Calls Tryz.prog 173 #[.int .u8 (byt L i),.int .i64 i] w (Rt (zC3 {kind:=0,place:=i}) w)) (E:Hid (zBl L i=.ok ({kind:=1,place:=i,set:=ofS [(byt L i:Int)]},i+1))) :
  Calls Tryz.prog 149 #[.string ⟨L.toArray⟩,.int .i64 i] w0 fun e w'=>RepR (zBl L i) e/\Below w0.heap.size w0 w':=by
 have H:=Hold.start w0;have hon:=fun w=>zPK (byt L i) (zJr L i) w
 go_enter Tryz.func149,Tryz.ntmps149
 go_wp2_with (first|((with_reducible show @wpList _ _ _ ({dst:=_,op:=Op.build _ #[(0,Operand.const (Value.int IntKind.i64 1)),(1,_),(2,_)],type:=_,pos:=_,after:=_,guard:=_}::_) _ _);refine zFg wtd_ rfl rfl (by (try simp only[pe]);with_reducible rfl) ?_)|(first|((with_reducible refine gT ?_);(refine aT H ?_;clear H;intro w H;try simp only[nr]at H))|((with_reducible refine gL ?_);(first|refine aG H ?_|refine aD H ?_))|((with_reducible refine gA ?_);(refine bA H ?_;clear H;intro b w H;try simp only[nr]at H))|((with_reducible refine gI ?_);refine aI ?_))|((with_reducible first|refine ch (hsg _) H ?_|refine ch (hat _) H ?_|refine ch (hon _) H ?_);clear H;intro w H))
 (refine xctt Tryz.results149 H ?_)
 exact⟨RepR.ok (w:={kind:=1,place:=i,set:=ofS [(byt L i:Int)]}) E.out,H.below⟩
def zJg (L:Str):Prop:=∀ i,i<L.length->∀ w0,Calls Tryz.prog 149 #[.string ⟨L.toArray⟩,.int .i64 i] w0 fun e w'=>RepR (zBl L i) e/\Below w0.heap.size w0 w'
theorem zKY {L:Str} (hL:L.length<=2000) {i:Nat} (hi:i<L.length) (h92:byt L i≠92) (h91:byt L i≠91) (h123:byt L i≠123) (hq:atP L i [40,63]=false) (w0:World) :
  Calls Tryz.prog 149 #[.string ⟨L.toArray⟩,.int .i64 i] w0 fun e w'=>RepR (zBl L i) e/\Below w0.heap.size w0 w':=by
 have hat:=fun w=>zOJ L [40,63] i hL (by simp) (by simp) (by omega) w
 rw[hq]at hat;have n:∀ c:Nat,byt L i≠c->((byt L i:Int) == (c:Int))=false:=fun c h=>by rw[beq_eq_false_iff_ne];omega
 have sg:=fun w=>zN2 (byt L i) i (zJr L i) w
 have S:=@zLm L i hL hi w0 (n 92 h92) (n 91 h91) (n 123 h123) hat;have R:=@zNb L i hL hi w0 (n 92 h92) (n 91 h91) (n 123 h123) hat
 by_cases hc:byt L i=40
 ·exact S (k:=6) (fun w=>by have:=sg w;rw[hc]at this ⊢;exact this) rfl rfl (Lib.hid (by rw[w_40 hc,← at2' hi hc,hq];rfl))
 by_cases hd:byt L i=42
 ·exact R (lo:=0) (hi3 := -1) (by omega) (by omega) (fun w=>by have:=sg w;rw[hd]at this ⊢;exact this) (w_42 hd)
 by_cases he:byt L i=43
 ·exact R (lo:=1) (hi3 := -1) (by omega) (by omega) (fun w=>by have:=sg w;rw[he]at this ⊢;exact this) (w_43 he)
 by_cases hf:byt L i=63
 ·exact R (lo:=0) (hi3:=1) (by omega) (by omega) (fun w=>by have:=sg w;rw[hf]at this ⊢;exact this) (w_63 hf)
 by_cases hg:byt L i=46
 ·exact S (k:=2) (fun w=>by have:=sg w;rw[hg]at this ⊢;exact this) rfl rfl (Lib.hid (w_46 hg))
 by_cases hh:byt L i=94
 ·exact S (k:=3) (fun w=>by have:=sg w;rw[hh]at this ⊢;exact this) rfl rfl (Lib.hid (w_94 hh))
 by_cases hj:byt L i=36
 ·exact S (k:=4) (fun w=>by have:=sg w;rw[hj]at this ⊢;exact this) rfl rfl (Lib.hid (w_36 hj))
 by_cases hk:byt L i=41
 ·exact S (k:=9) (fun w=>by have:=sg w;rw[hk]at this ⊢;exact this) rfl rfl (Lib.hid (w_41 hk))
 by_cases hl:byt L i=124
 ·exact S (k:=10) (fun w=>by have:=sg w;rw[hl]at this ⊢;exact this) rfl rfl (Lib.hid (zQN hl))
 exact zMt L i hL hi w0 (n 92 h92) (n 91 h91) (n 123 h123) hat (fun w=>by have:=sg w;rw[zPN hc hd he hf hg hh hj hk hl]at this;exact this) (Lib.hid (w_no h92 h91 hc h123 hd he hf hg hh hj hk hl))
theorem zMR:(Tryz.prog.info? 260).map (fun i=>(i.zero,i.size,i.bytes))=some (some (.agg (zB1 {kind:=0,place:=0})),17,88):=by kernel_rfl
theorem zLH (d:WordD) (W:World):(Instr.buildSlice 168 1 #[(0,zC3 d)]).run Tryz.prog W=.ok (.slice (some ⟨W.heap.size,0,none⟩) 1 1) (W.alloc (.cells (zB1 d) 260)):=by kernel_rfl
theorem zKG (L:Str) (hW:L.length<=1000->zJg L) (w0:World):Calls Tryz.prog 99 #[.string ⟨L.toArray⟩] w0 fun e w'=>WordsR 260 w0.heap.size (zDQ L) e w'/\Below w0.heap.size w0 w':=by
 obtain⟨i0,hi0,hz0,hz1,hz2⟩:=info_parts zMR;have H:=Hold.start w0
 by_cases hlen:1000<L.length
 ·clear hW;have d0:decide ((1000:Int)<(L.length:Int))=true:=by simp;omega
  have E:=Lib.hid (show zDQ L=.error (0,3) by unfold zDQ;rw[if_pos hlen])
  go_enter Tryz.func99,Tryz.ntmps99
  go_wp2_with (first|fail)
  go_ret3;exact⟨WordsR.no E.out,H.below⟩
 ·have hW2:=hW (by omega)
  clear hW;have d0:decide ((1000:Int)<(L.length:Int))=false:=by simp;omega
  have E:=Lib.hid (show zDQ L=zJ6 L by unfold zDQ;rw[if_neg hlen])
  go_enter Tryz.func99,Tryz.ntmps99
  go_wp2_with (first|fail)
  replace H:=H.addNil 260 17;simp only[List.nil_append]at H
  go_loopw [5,6] (fun v k wr=>∃ (j f:Nat) (ws:List WordD),k=.int .i64 j/\j<=L.length/\ws.length<=j/\Hid (zJ6 L=wcat ws (zBV L f j)/\L.length<=f+j)/\Hold w0 wr [.row v 260 17 ws.length (zHP ws)]) (fun _ k _=>L.length+2 - (intOf k).toNat)
  case atStart=>exact⟨0,L.length,[],rfl,by omega,by simp,Lib.hid ⟨(zNW _).symm,by omega⟩,H⟩
  case round =>
   clear H;obtain⟨j,f,ws,rfl,hj,hwl,G,H⟩:=hrel
   by_cases hlt:j<L.length
   ·have dj:decide ((j:Int)<(L.length:Int))=true:=by simp;omega
    obtain⟨f,rfl⟩:∃ f',f=f'+1:=⟨f - 1,by have:=G.out.2;omega⟩
    have hr:=fun w=>hW2 j hlt w
    cases hw:zBl L j with
    | error x =>
     rw[hw]at hr;simp only[RepR]at hr;have E2:=Lib.hid (show zDQ L=.error (j,x) by rw[E.out,G.out.1,zMe hlt hw])
     have hx:((x:Int) != 0)=true:=by rw[bne_iff_ne];have:=zIq hw;omega
     clear hw
     go_wp2_with (first|(first|((with_reducible refine gT ?_);(refine aT H ?_;clear H;intro w H;try simp only[nr]at H))|((with_reducible refine gA ?_);(refine bA H ?_;clear H;intro b w H;try simp only[nr]at H)))|(go_at_call 149;(with_reducible refine(hr _).mono ?_);rintro e w ⟨⟨wd,kk,rfl⟩,hb⟩;replace H:=H.call hb;clear hb))
     go_ret3;exact⟨WordsR.no E2.out,H.below⟩
    | ok p =>
     obtain⟨d,k⟩:=p;have hk:=zJp hlt hw;rw[hw]at hr;simp only[RepR]at hr;have G2:=Lib.hid (show zJ6 L=wcat (ws++[d]) (zBV L f k) by rw[G.out.1,zNk hlt hw])
     clear hw
     go_wp2_with (first|((with_reducible refine gBS ?_);refine zAY wtd_ _ _ _ rfl H (zB1 d) 260 (by intro W;simp only[ml];(try simp only[zO6,zPS,List.setIfInBounds_toArray,List.set_cons_succ,List.set_cons_zero,zOL,zB0,List.getD_cons_succ,List.getD_cons_zero]);exact zLH d W) ?_;clear H;intro b w H;try simp only[nr]at H)|(at_builtin;refine zA8 rfl _ _ 168 rfl H evd_ rfl atd_ atd_ Tryz.underlying168 hi0 hz0 hz1 hz2 rfl (by decide) rfl rfl (by unfold maxLen;omega) (by omega) ?_;clear H;intro v2 w H;try simp only[nr]at H)|(first|((with_reducible refine gT ?_);(refine aT H ?_;clear H;intro w H;try simp only[nr]at H))|((with_reducible refine gL ?_);refine aD H ?_)|((with_reducible refine gA ?_);(refine bA H ?_;clear H;intro b w H;try simp only[nr]at H)))|((with_reducible refine ch (hr _) H ?_);clear H;intro w H))
     go_roundw
     case rel=>exact⟨k,f,ws++[d],rfl,hk.2,by simp;omega,Lib.hid ⟨G2.out,by have:=G.out.2;omega⟩,by rw[zKi,List.length_append];exact H.take 1⟩
     case measure=>simp[intOf];omega
   ·have dj:decide ((j:Int)<(L.length:Int))=false:=by simp;omega
    have E2:=Lib.hid (show zDQ L=.ok ws by rw[E.out,G.out.1,zLT hlt])
    go_wp2_with (first|fail)
    go_ret3;exact⟨WordsR.ok E2.out (H.all 0 _ rfl),H.below⟩
theorem zN6 (pb:Nat) (FW:Nat->Prop) (p:Option Addr) (n c:Nat) (ws:List WordD):∀ (m:Nat) (j0 g0:Nat) (f0:zBL) (t:Tree) (r':List WordD) (g':Nat) (w0:World),AltPre pb 174 FW p n c ws j0 g0 w0->zAq m f0 (ws.drop j0) g0 [] []=some (t,r',g') ->
  Calls Tryz.prog 101 #[.pointer (some ⟨pb,0,none⟩),zCN f0] w0 (zGE pb 174 p n c t (n - r'.length) g' w0):=by
 intro m
 induction m using Nat.strongRecOn with
 | _ m ih=>exact fun j0 g0 f0 t r' g' w0 hP h=>zJQ m pb FW p n c ws j0 g0 f0 t r' g' w0 hP h (fun k hk j1 g1 f1 t1 r1 g2 w h1 h2=>ih k hk j1 g1 f1 t1 r1 g2 w h1 h2)
theorem zL3:∀ ws:List WordD,zHP ws=zAG (ws.map zB1)
 | []=>rfl
 | w::r=>by
  have:=zL3 r;simp only[zHP,zAG,List.flatMap_cons,List.map_cons,List.flatten_cons]at *;rw[this]
theorem zKh (ws:List WordD):∀ r ∈ ws.map zB1,r.size=17:=by
 intro r hr;obtain⟨x,_,rfl⟩:=List.mem_map.1 hr;rfl
theorem zKj (p:Option Addr) (n c:Nat) (W:World):(Instr.build 174 #[(0,.slice p n c)]).run Tryz.prog W=.ok (.agg (pC p n c 0 0)) W:=by simp[go_sem]
theorem zEE {ops:Array Oper} {rest:List Oper} {o:Oper} {a:Act} {w:World} {Q:Exit->Act->World->Prop} (hg:Region.wanted o (yielded ops a.tmps)=true) {x:Operand} (ho:o.op=.build 174 #[(0,x)]) {p:Option Addr} {n c:Nat} (hx:a.eval x=.slice p n c)
  (h:wpList Tryz.prog ops Q rest (a.put o.dst (.agg (pC p n c 0 0))) w):wpList Tryz.prog ops Q (o::rest) a w :=
 zAK hg (by simp only[execOp,ho,List.map_toArray,List.map_cons,List.map_nil,hx,Sem.run_bind,zKj];rfl) h
theorem zEB {P:Program} {fn:Func} {R:Ending->World->Prop} {a:Act} {w w0:World} {l:List Res} {M:Nat->Prop} {p q r s:Tmp} {T:TypeId} (hres:fn.results=#[.cell p T,.tmp q,.tmp r,.tmp s]) {v u x:Value} (hq:a.tmps.getD q undef=v) (hr:a.tmps.getD r undef=u) (hs:a.tmps.getD s undef=x) {b:Nat} (hp:a.tmps.getD p undef=.pointer (some ⟨b,0,none⟩)) (H:HoldG M w0 w l) {i:Nat} {cs:Array Value} {U:TypeId} (hi:At l i (.blk b cs U))
  {n:Nat} (hT:rowB P T n=true) (hn:cs.size=n) (hd:a.defers=[]) (h:R (.returned (.tuple #[.agg cs,v,u,x])) w):bodyPost P fn R .ret a w:=by
 refine bodyPost_ret (v:=.tuple #[.agg cs,v,u,x]) ?_ hd h;have:=H.run_row (T:=T) (P:=P) hi hT hn (k:=0) (fun j _=>by rw[Nat.zero_add])
 have hp':a.tmps[p]?.getD undef=.pointer (some ⟨b,0,none⟩):=by simpa using hp
 have hq':a.tmps[q]?.getD undef=v:=by simpa using hq
 have hr':a.tmps[r]?.getD undef=u:=by simpa using hr
 have hs':a.tmps[s]?.getD undef=x:=by simpa using hs
 simp[results,hres,hp',hq',hr',hs',asAddr,this]
theorem HoldG.gainWords {M:Nat->Prop} {w0 w w':World} {l:List Res} (H:HoldG M w0 w l) (hb:Below w.heap.size w w') {T:TypeId} {v:Value} {ws:List WordD} (ho:w'.ownsRow w.heap.size T 17 v ws.length (zHP ws)) :
  ∃ (q:Option Addr) (cap:Nat) (F:Nat->Prop),v=.slice q ws.length cap/\HoldG M w0 w' (l++[.kn F (WKnows F q ws.length cap ws)]):=by
 obtain⟨q,cap,rfl,_⟩:=zHR ho;rw[zL3]at ho;refine⟨q,cap,fun b=>(Value.slice q ws.length cap).ownBlock=some b,rfl,H.learn hb Still.none (fun b hb'=>?_) (fun V hV=>RdN.of_own ho (zKh ws) (by rw[List.length_map]) hV)⟩
 obtain⟨_,⟨hv,_⟩|⟨g,cap',cur,hv,hg,hh,_⟩⟩:=ho
 ·rw[hv]at hb';cases hb'
 ·cases hv;cases hb';exact⟨(Array.getElem?_eq_some_iff.1 hh).1,.inl hg⟩
theorem zGc {L:Str}:∀ (f i:Nat) (p x:Nat),L.length<=f+i->zBV L f i=.error (p,x)->x≠0
 | 0,i,p,x,hf,h=>by
  unfold zBV at h;rw[if_neg (by omega)]at h;cases h
 | f+1,i,p,x,hf,h=>by
  unfold zBV at h;split at h
  ·rename_i hlt;split at h
   ·rename_i e he
    cases h
    exact fun e=>by have:=zIq he;omega
   ·rename_i w j hw;have hj:=zJp hlt hw;split at h
    ·rename_i y hy
     cases h
     exact zGc f j p x (by omega) hy
    ·cases h
  ·cases h
theorem zKg {L:Str} {p x:Nat} (h:zDQ L=.error (p,x)):x≠0:=by
 unfold zDQ at h;split at h
 ·cases h;decide
 ·exact zGc _ _ _ _ (by omega) h
theorem zKU (L:Str) (hW:L.length<=1000->zJg L) (f:zBL) (w0:World):Calls Tryz.prog 43 #[.string ⟨L.toArray⟩,zCN f] w0 fun e w'=>ParseOut w0 (zFz L f) e w'/\Below w0.heap.size w0 w':=by
 have H:=Hold.start w0;have hwd:=fun w=>zKG L hW w
 clear hW;have E:zFz L f=zFz L f:=rfl
 conv at E=>rhs;unfold zFz
 cases hw:zDQ L with
 | error x =>
  obtain⟨a,x⟩:=x;rw[hw]at hwd E;simp only[]at E;simp only[WordsR]at hwd;have hx:((x:Int) != 0)=true:=by rw[bne_iff_ne];have:=zKg hw;omega
  have E2:=Lib.hid E;clear E hw
  go_enter Tryz.func43,Tryz.ntmps43
  go_wp2_with (first|(first|((with_reducible refine gT ?_);(refine aT H ?_;clear H;intro w H;try simp only[nr]at H))|((with_reducible refine gX ?_);(refine bB H ?_;clear H;intro b w H;try simp only[nr]at H))|((with_reducible refine gA ?_);(refine bA H ?_;clear H;intro b w H;try simp only[nr]at H))|((with_reducible refine gZ ?_);refine nb0 ?_))|((with_reducible refine ch (hwd _) H ?_);clear H;intro w H))
  refine zEB Tryz.results43 rfl rfl rfl rfl H atd_ zAP (by rfl) rfl ?_
  exact⟨ParseOut.no E2.out,H.below⟩
 | ok ws =>
  rw[hw]at hwd E;simp only[]at E;simp only[WordsR]at hwd;have hLn:ws.length<=1000:=by
   unfold zDQ at hw;split at hw
   ·cases hw
   ·have:=zEI _ _ _ hw;omega
  have hok:∀ d ∈ ws,zAv d.set:=by
   unfold zDQ at hw;split at hw
   ·cases hw
   ·exact zFn _ _ _ hw
  have HOK:=Lib.hid hok;clear hok hw;have hwr:∀ (w:World) (l:List Res) (q:Option Addr) (c:Nat) (FW:Nat->Prop),True->True:=fun _ _ _ _ _ h=>h
  clear hwr
  cases hwp:zCy ws with
  | some a =>
   rw[hwp]at E;simp only[]at E;have hwr:∀ (w:World) (l:List Res) (q:Option Addr) (FW:Nat->Prop) {c:Nat},HoldG (fun _=>False) w0 w l->At l 2 (.kn FW (WKnows FW q ws.length c ws))->Calls Tryz.prog 100 #[.slice q ws.length c] w (Rt (.int .i64 (a:Int)) w):=fun w l q FW c h hi=>by
    have:=zIb q ws.length c FW ws w (h.knlt hi) (h.kn hi) hLn;rw[hwp]at this;exact this
   have E2:=Lib.hid E;clear E hwp;have da:decide (0<=(a:Int))=true:=by simp
   go_enter Tryz.func43,Tryz.ntmps43
   go_wp2_with (first|(first|((with_reducible refine gT ?_);(refine aT H ?_;clear H;intro w H;try simp only[nr]at H))|((with_reducible refine gX ?_);(refine bB H ?_;clear H;intro b w H;try simp only[nr]at H))|((with_reducible refine gA ?_);(refine bA H ?_;clear H;intro b w H;try simp only[nr]at H))|((with_reducible refine gZ ?_);refine nb0 ?_))|(go_at_call 99;(with_reducible refine(hwd _).mono ?_);rintro e w ⟨⟨v,rfl,ho⟩,hb⟩;obtain⟨q,cap,FW,rfl,H2⟩:=H.gainWords hb ho;clear H ho hb;(have H:=H2);clear H2;try simp only[nr]at H)|((with_reducible refine ch (hwr _ _ _ _ H i_2) H ?_);clear H;intro w H))
   refine zEB Tryz.results43 rfl rfl rfl rfl H atd_ zAP (by rfl) rfl ?_
   exact⟨ParseOut.no E2.out,H.below⟩
  | none =>
   rw[hwp]at E;simp only[]at E;have hwr:∀ (w:World) (l:List Res) (q:Option Addr) (FW:Nat->Prop) {c:Nat},HoldG (fun _=>False) w0 w l->At l 2 (.kn FW (WKnows FW q ws.length c ws))->Calls Tryz.prog 100 #[.slice q ws.length c] w (Rt (.int .i64 (-1)) w):=fun w l q FW c h hi=>by
    have:=zIb q ws.length c FW ws w (h.knlt hi) (h.kn hi) hLn;rw[hwp]at this;exact this
   obtain⟨t,g,ha⟩:=zKr f hwp;rw[ha]at E;simp only[]at E;have hsz:=zGq _ _ _ _ _ _ _ _ _ ha;simp only[List.length_nil,zAF]at hsz;have hgl:g<=ws.length:=by have:=(zES _ _ _ _ _ _ _ _ _ ha).2;simp at this;omega
   have hal:∀ (w:World) (l:List Res) (q:Option Addr) (c pb:Nat) (FW:Nat->Prop),HoldG (fun _=>False) w0 w (l)->True:=fun _ _ _ _ _ _ _=>trivial
   clear hal;have hal:∀ (w:World) (r0 r1:Res) (q:Option Addr) (FW:Nat->Prop) (l:List Res) {c pb:Nat},HoldG (fun _=>False) w0 w (r0::r1::.kn FW (WKnows FW q ws.length c ws)::.blk pb #[.slice q ws.length c,.int .i64 0,.int .i64 0] 174::l) ->
     Calls Tryz.prog 101 #[.pointer (some ⟨pb,0,none⟩),zCN f] w (zGE pb 174 q ws.length c t ws.length g w):=fun w r0 r1 q FW l c pb h =>
    zN6 pb FW q ws.length c ws (ws.length+1) 0 0 f t [] g w ⟨(h.blk i_3).2,h.knlt i_2,fun hf=>h.apart 3 2 _ _ (by decide) rfl rfl pb rfl hf,h.kn i_2,HOK.out,hLn,by omega,by omega⟩ ha
   have hno:∀ (w:World) (l:List Res) (q:Option Addr) (c:Nat) (F:Nat->Prop),HoldG (fun _=>False) w0 w l->At l 4 (.kn F (fun V=>ForestR V F q c t.kids))->Calls Tryz.prog 102 #[zAV t.d (.slice q t.kids.length c)] w (Rt (.int .i64 (zAB t)) w):=fun w l q c F h hi=>zIU 4000 t q _ c F w (by omega) (by omega) (h.knlt hi) (h.kn hi) rfl
   have hde:∀ (w:World) (l:List Res) (q:Option Addr) (c:Nat) (F:Nat->Prop),HoldG (fun _=>False) w0 w l->At l 4 (.kn F (fun V=>ForestR V F q c t.kids))->Calls Tryz.prog 103 #[zAV t.d (.slice q t.kids.length c)] w (Rt (.int .i64 (zC4 t)) w):=fun w l q c F h hi=>zJ7 4000 t q _ c F w (by omega) (by omega) (h.knlt hi) (h.kn hi) rfl
   clear ha hwp
   by_cases hg:20<g
   ·have dg:decide (20<(g:Int))=true:=by simp;omega
    rw[if_pos (.inl hg)]at E;have E2:=Lib.hid E;clear E
    go_enter Tryz.func43,Tryz.ntmps43
    go_wp2_with (first|(first|((with_reducible refine gT ?_);(refine aT H ?_;clear H;intro w H;try simp only[nr]at H))|((with_reducible refine gL ?_);(first|refine aG H ?_|refine aD H ?_))|((with_reducible refine gX ?_);(refine bB H ?_;clear H;intro b w H;try simp only[nr]at H))|((with_reducible refine gA ?_);(refine bA H ?_;clear H;intro b w H;try simp only[nr]at H))|((with_reducible refine gZ ?_);refine nb0 ?_))|(go_at_call 99;(with_reducible refine(hwd _).mono ?_);rintro e w ⟨⟨v,rfl,ho⟩,hb⟩;obtain⟨q,cap,FW,rfl,H2⟩:=H.gainWords hb ho;clear H ho hb;(have H:=H2);clear H2;try simp only[nr]at H)|((with_reducible refine ch (hwr _ _ _ _ H i_2) H ?_);clear H;intro w H)|((with_reducible show @wpList _ _ _ ({dst:=_,op:=Op.build 174 _,type:=_,pos:=_,after:=_,guard:=_}::_) _ _);refine zEE wtd_ rfl evd_ ?_)|(go_at_call 101;(with_reducible refine chA (hal _ _ _ _ _ _ H) H i_3 ?_);clear H;intro q1 m1 F1 w hF1 H;try simp only[nr]at H)|((with_reducible first|refine ch (hno _ _ _ _ _ H i_4) H ?_|refine ch (hde _ _ _ _ _ H i_4) H ?_);clear H;intro w H))
    refine zEB Tryz.results43 rfl rfl rfl rfl H atd_ zAP (by rfl) rfl ?_
    exact⟨ParseOut.no E2.out,H.below⟩
   ·have dg:decide (20<(g:Int))=false:=by simp;omega
    by_cases hs:2000<zAB t
    ·have ds:decide (2000<(zAB t:Int))=true:=by simp;omega
     rw[if_pos (.inr hs)]at E;have E2:=Lib.hid E;clear E
     go_enter Tryz.func43,Tryz.ntmps43
     go_wp2_with (first|(first|((with_reducible refine gT ?_);(refine aT H ?_;clear H;intro w H;try simp only[nr]at H))|((with_reducible refine gL ?_);(first|refine aG H ?_|refine aD H ?_))|((with_reducible refine gX ?_);(refine bB H ?_;clear H;intro b w H;try simp only[nr]at H))|((with_reducible refine gA ?_);(refine bA H ?_;clear H;intro b w H;try simp only[nr]at H))|((with_reducible refine gZ ?_);refine nb0 ?_))|(go_at_call 99;(with_reducible refine(hwd _).mono ?_);rintro e w ⟨⟨v,rfl,ho⟩,hb⟩;obtain⟨q,cap,FW,rfl,H2⟩:=H.gainWords hb ho;clear H ho hb;(have H:=H2);clear H2;try simp only[nr]at H)|((with_reducible refine ch (hwr _ _ _ _ H i_2) H ?_);clear H;intro w H)|((with_reducible show @wpList _ _ _ ({dst:=_,op:=Op.build 174 _,type:=_,pos:=_,after:=_,guard:=_}::_) _ _);refine zEE wtd_ rfl evd_ ?_)|(go_at_call 101;(with_reducible refine chA (hal _ _ _ _ _ _ H) H i_3 ?_);clear H;intro q1 m1 F1 w hF1 H;try simp only[nr]at H)|((with_reducible first|refine ch (hno _ _ _ _ _ H i_4) H ?_|refine ch (hde _ _ _ _ _ H i_4) H ?_);clear H;intro w H))
     refine zEB Tryz.results43 rfl rfl rfl rfl H atd_ zAP (by rfl) rfl ?_
     exact⟨ParseOut.no E2.out,H.below⟩
    ·have ds:decide (2000<(zAB t:Int))=false:=by simp;omega
     rw[if_neg (by omega)]at E
     by_cases hd:50<zC4 t
     ·have dd:decide (50<(zC4 t:Int))=true:=by simp;omega
      rw[if_pos hd]at E;have E2:=Lib.hid E;clear E
      go_enter Tryz.func43,Tryz.ntmps43
      go_wp2_with (first|(first|((with_reducible refine gT ?_);(refine aT H ?_;clear H;intro w H;try simp only[nr]at H))|((with_reducible refine gL ?_);(first|refine aG H ?_|refine aD H ?_))|((with_reducible refine gX ?_);(refine bB H ?_;clear H;intro b w H;try simp only[nr]at H))|((with_reducible refine gA ?_);(refine bA H ?_;clear H;intro b w H;try simp only[nr]at H))|((with_reducible refine gZ ?_);refine nb0 ?_))|(go_at_call 99;(with_reducible refine(hwd _).mono ?_);rintro e w ⟨⟨v,rfl,ho⟩,hb⟩;obtain⟨q,cap,FW,rfl,H2⟩:=H.gainWords hb ho;clear H ho hb;(have H:=H2);clear H2;try simp only[nr]at H)|((with_reducible refine ch (hwr _ _ _ _ H i_2) H ?_);clear H;intro w H)|((with_reducible show @wpList _ _ _ ({dst:=_,op:=Op.build 174 _,type:=_,pos:=_,after:=_,guard:=_}::_) _ _);refine zEE wtd_ rfl evd_ ?_)|(go_at_call 101;(with_reducible refine chA (hal _ _ _ _ _ _ H) H i_3 ?_);clear H;intro q1 m1 F1 w hF1 H;try simp only[nr]at H)|((with_reducible first|refine ch (hno _ _ _ _ _ H i_4) H ?_|refine ch (hde _ _ _ _ _ H i_4) H ?_);clear H;intro w H))
      refine zEB Tryz.results43 rfl rfl rfl rfl H atd_ zAP (by rfl) rfl ?_
      exact⟨ParseOut.no E2.out,H.below⟩
     ·have dd:decide (50<(zC4 t:Int))=false:=by simp;omega
      rw[if_neg hd]at E;have E2:=Lib.hid E;clear E
      go_enter Tryz.func43,Tryz.ntmps43
      go_upto_region 13 with (first|((with_reducible refine kg 4 ?_);(first|refine kA 4 H ?_|refine kS 4 H ?_|refine kB 4 H ?_);clear H;intro b4 w H;try simp only[nr]at H)|((with_reducible refine kg 12 ?_);(first|refine kA 12 H ?_|refine kS 12 H ?_|refine kB 12 H ?_);clear H;intro b12 w H;try simp only[nr]at H)|((with_reducible refine kg 32 ?_);(first|refine kA 32 H ?_|refine kS 32 H ?_|refine kB 32 H ?_);clear H;intro b32 w H;try simp only[nr]at H)|(first|((with_reducible refine gT ?_);(refine aT H ?_;clear H;intro w H;try simp only[nr]at H))|((with_reducible refine gL ?_);(first|refine aG H ?_|refine aD H ?_))|((with_reducible refine gX ?_);(refine bB H ?_;clear H;intro b w H;try simp only[nr]at H)))|(go_at_call 99;(with_reducible refine(hwd _).mono ?_);rintro e w ⟨⟨v,rfl,ho⟩,hb⟩;obtain⟨q,cap,FW,rfl,H2⟩:=H.gainWords hb ho;clear H ho hb;(have H:=H2);clear H2;try simp only[nr]at H)|((with_reducible refine ch (hwr _ _ _ _ H i_2) H ?_);clear H;intro w H)|((with_reducible show @wpList _ _ _ ({dst:=_,op:=Op.build 174 _,type:=_,pos:=_,after:=_,guard:=_}::_) _ _);refine zEE wtd_ rfl evd_ ?_)|(go_at_call 101;(with_reducible refine chA (hal _ _ _ _ _ _ H) H i_3 ?_);clear H;intro q1 m1 F1 w hF1 H;try simp only[nr]at H)|((with_reducible first|refine ch (hno _ _ _ _ _ H i_4) H ?_|refine ch (hde _ _ _ _ _ H i_4) H ?_);clear H;intro w H))
      have hS:∀ W,RelS b4 (zAR t.d (.slice q1 t.kids.length m1)) 28 w W->(∀ k,k<10->W.cell? ⟨b12,0+k,none⟩=(zAR t.d (.slice q1 t.kids.length m1))[k]?)/\W.cell? ⟨b32,2,none⟩=some (.int .i64 (g:Int))/\∃ cs,W.heap[b4]?=some (.cells cs 28 (0,0))/\cs.size=10:=fun W hr=>by
       obtain⟨ds,hds,H2⟩:=H.relS (i:=1) i_1 hr;refine⟨fun k _=>?_,H2.cell (i:=3) i_3 2,ds,(H2.blk (i:=1) i_1).2,by rcases hds with rfl|rfl<;>rfl⟩
       rw[Nat.zero_add];exact H2.cell (i:=5) i_5 k
      refine zCp (RelS b4 (zAR t.d (.slice q1 t.kids.length m1)) 28) RelS.refl RelS.trans RelS.drew 6 [fun v _=>v=zAV t.d (.slice q1 t.kids.length m1),fun v _=>v=pt b32 0,fun v _=>v=pt b32 0,fun v _=>v=pt b32 2,fun v _=>v=.int .i64 (g:Int),zLy b4 (zAR t.d (.slice q1 t.kids.length m1)) 28]
       ⟨zAy _,zAy _,zAy _,zAy _,zAy _,zFR,trivial⟩ (by kernel_rfl) (by kernel_rfl) (by kernel_rfl) ?ob ?en
      case ob =>
       refine⟨?_,?_,?_,?_,?_,?_,trivial⟩<;>intro A W h
       ·exact zCt rfl (zAS RelS.refl rfl (zAb rfl (h.f 12) zAP rfl (hS W h.rel).1))
       ·exact zCt rfl (zBa RelS.refl rfl rfl (h.f 11))
       ·exact zCt rfl (zAS RelS.refl rfl (by simp only[execOp,show A.eval (.tmp 54)=.pointer (some ⟨b32,0,none⟩) from h.d 1 54];simp[go_sem]))
       ·exact zCt rfl (zAS RelS.refl rfl (by simp only[execOp,show A.eval (.tmp 55)=.pointer (some ⟨b32,0,none⟩) from h.d 2 55];simp[go_sem]))
       ·exact zCt rfl (zAS RelS.refl rfl (zAD rfl (h.d 3 56) zAC (hS W h.rel).2.1))
       ·obtain⟨cs,hcs,hsz⟩:=(hS W h.rel).2.2;exact zLN rfl rfl rfl (h.f 4) hcs hsz (h.d 0 53) (zAr (n:=10) zAP) rfl
      case en =>
       intro vals W1 hrel hv hlk;have v0:vals 0=zAV t.d (.slice q1 t.kids.length m1):=hv 0 (by omega)
       have v1:vals 1=.pointer (some ⟨b32,0,none⟩):=hv 1 (by omega)
       have v2:vals 2=.pointer (some ⟨b32,0,none⟩):=hv 2 (by omega)
       have v3:vals 3=.pointer (some ⟨b32,2,none⟩):=hv 3 (by omega)
       have v4:vals 4=.int .i64 (g:Int):=hv 4 (by omega)
       have H2:=H.laidS (i:=1) i_1 hrel (hv 5 (by omega))
       simp only[fa,Nat.reduceAdd];rw[v0,v1,v2,v3,v4];clear hv v0 v1 v2 v3 v4 hlk hrel H hS;have H:=H2;clear H2;simp only[sc]at H;simp only[pl]
       go_wp2_with fail
       refine zEB Tryz.results43 rfl rfl rfl rfl H (i:=1) i_1 zAP (by rfl) rfl ?_
       refine⟨?_,H.below⟩;rw[E2.out];exact⟨q1,m1,F1,rfl,H.kn (i:=4) i_4,fun b h=>⟨H.knlt (i:=4) i_4 b h,hF1 b h⟩⟩
end
section
open Go.RowKit
def zCH (n:Nat):List PanicEntry:=[{v:=.iface 33 (.int .i64 n),recovered:=false}]
end
section
open Go.RowKit Go.Shelf
def sizC (d:NodeD) (s:Value) (n:Int):Array Value:=#[.int .i64 d.kind,.int .u64 (d.set 0),.int .u64 (d.set 1),.int .u64 (d.set 2),.int .u64 (d.set 3),s,.int .i64 d.lo,.int .i64 d.hi,.bool d.lazy,.int .i64 d.group,.int .i64 n]
abbrev sizV (d:NodeD) (s:Value) (n:Int):Value:=.agg (sizC d s n)
abbrev sizX (x:TV):Array Value:=sizC x.1.d (.slice x.2.1 x.1.kids.length x.2.2) (zAB x.1)
theorem zA4 (x:TV):(sizX x).size=11:=rfl
theorem zB2 (xs:List TV):∀ r ∈ xs.map sizX,r.size=11:=by
 intro r hr;obtain⟨x,_,rfl⟩:=List.mem_map.1 hr;rfl
theorem zg0 (d:NodeD) (s:Value) (n:Int):(sizC d s n)[0]?=some (.int .i64 d.kind):=rfl
theorem zg5 (d:NodeD) (s:Value) (n:Int):(sizC d s n)[5]?=some s:=rfl
theorem zg10 (d:NodeD) (s:Value) (n:Int):(sizC d s n)[10]?=some (.int .i64 n):=rfl
theorem zAm:rowB Tryz.prog 96 11=true:=by kernel_rfl
theorem zPa:zBx Tryz.prog 96=sizC {kind:=0} nilS 0:=by kernel_rfl
theorem zFu:(zBx Tryz.prog 96).size=11:=by kernel_rfl
theorem zDL:(Tryz.prog.info? 96).map (fun i=>(i.zero,i.size,i.bytes))=some (some (.agg (sizC {kind:=0} nilS 0)),11,104):=by kernel_rfl
theorem zOK (d:NodeD) (s:Value) (n:Int) (W:World):(Instr.build 96 #[(0,zAV d s),(1,.int .i64 n)]).run Tryz.prog W=.ok (sizV d s n) W:=by kernel_rfl
theorem zBj (d:NodeD) (s:Value) (n:Int) (W:World):(Instr.buildSlice 156 1 #[(0,sizV d s n)]).run Tryz.prog W=.ok (.slice (some ⟨W.heap.size,0,none⟩) 1 1) (W.alloc (.cells (sizC d s n) 96)):=by kernel_rfl
def SKnows (F:Nat->Prop) (p:Option Addr) (n c:Nat) (xs:List TV) (V:World):Prop:=RdN 11 V F (.slice p n c) (xs.map sizX)/\ListR V F xs
section
variable {F:Nat->Prop} {p:Option Addr} {n c:Nat} {xs:List TV} {V W w0:World}
theorem SKnows.kept (h:SKnows F p n c xs W) (hV:∀ b,F b->V.heap[b]?=W.heap[b]?):SKnows F p n c xs V:=⟨h.1.kept hV,h.2.kept hV⟩
theorem SKnows.mono {G:Nat->Prop} (h:SKnows F p n c xs W) (hFG:∀ b,F b->G b):SKnows G p n c xs W:=⟨h.1.mono hFG,h.2.mono hFG⟩
theorem SKnows.nil (W:World) (F:Nat->Prop):SKnows F none 0 0 [] W:=⟨RdN.nil ..,ListR.nil _ _⟩
theorem Hold.sknows (hF:∀ b,F b->b<w0.heap.size) (h:SKnows F p n c xs w0):Hold w0 w0 [.kn F (SKnows F p n c xs)] :=
 (Hold.start w0).know F (SKnows F p n c xs) hF (fun i r h=>by simp at h) (fun V hV=>h.kept hV)
theorem SKnows.cells {b off:Nat} (h:SKnows F (some ⟨b,off,none⟩) n c xs V) {j:Nat} {x:TV} (hj:xs[j]?=some x) {q:Nat} (hq:off+j * 11=q):∀ k,k<11->V.cell? ⟨b,q+k,none⟩=(sizX x)[k]?:=by
 obtain⟨p,c,e1,_,_,_,h3⟩:=h.1;obtain⟨b',off',e2,_,_,h4⟩:=h3 j (sizX x) (by rw[List.getElem?_map,hj];rfl)
 cases e1;cases e2;subst hq
 exact h4
theorem SKnows.bound (h:SKnows F p n c xs V):n=xs.length/\n<=c/\c<=9223372036854775807:=by
 obtain⟨p,c,e1,h1,h2,_,h3⟩:=h.1
 cases e1
 unfold maxLen at h2;rw[List.length_map]at h1 ⊢;exact⟨rfl,h1,h2⟩
theorem SKnows.at (h:SKnows F p n c xs V) (h0:0<xs.length):∃ b off,p=some ⟨b,off,none⟩:=by
 obtain⟨p,c,e1,h1,h2,_,h3⟩:=h.1
 cases e1
 obtain⟨b,off,e,_⟩:=h3 0 _ (by rw[List.getElem?_map,List.getElem?_eq_getElem h0];rfl)
 exact⟨b,off,e⟩
end
def SizOut (w:World) (G:Nat->Prop) (o:Option Tree) (e:Ending) (w':World):Prop:=match o with
 | some t=>∃ p c F,e=.returned (sizV t.d (.slice p t.kids.length c) (zAB t))/\ForestR w' F p c t.kids/\∀ b,F b->b<w'.heap.size/\(w.heap.size<=b\/G b)
 | none=>e=.panicked (zCH 7)
def zJf (w:World) (G:Nat->Prop) (ts:List Tree) (e:Ending) (w':World):Prop :=
 ∃ p c F xs,e=.returned (.slice p xs.length c)/\xs.map (·.1)=ts/\SKnows F p xs.length c xs w'/\∀ b,F b->b<w'.heap.size/\(w.heap.size<=b\/G b)
section
variable {M:Nat->Prop} {P:Program} {f:FuncId} {args:Array Value} {w w0:World} {l:List Res} {G:Nat->Prop} {R:Ending->World->Prop}
theorem chz {t:Tree} (c:Calls P f args w fun e w'=>SizOut w G (some t) e w'/\Below w.heap.size w w') (H:HoldG M w0 w l) (hG:Still l G)
  (k:∀ p n F w',(∀ b,F b->w0.heap.size<=b\/G b)->HoldG M w0 w' (l++[.kn F (fun V=>ForestR V F p n t.kids)])->R (.returned (sizV t.d (.slice p t.kids.length n) (zAB t))) w'):Calls P f args w R:=c.mono fun _ w' h=>by
 obtain⟨⟨p,n,F,rfl,hs,hF⟩,hb⟩:=h;exact k p n F w' (fun b h=>(hF b h).2.imp (fun h=>Nat.le_trans H.keep.size h) id) (H.learn hb hG hF (fun V hV=>hs.kept hV))
theorem zCI (c:Calls P f args w fun e w'=>SizOut w G none e w'/\Below w.heap.size w w') (H:HoldG M w0 w l)
  (k:∀ w',HoldG M w0 w' l->R (.panicked (zCH 7)) w'):Calls P f args w R:=c.mono fun _ w' h=>h.1 ▸ k w' (H.call h.2)
theorem chzl {ts:List Tree} (c:Calls P f args w fun e w'=>zJf w G ts e w'/\Below w.heap.size w w') (H:HoldG M w0 w l) (hG:Still l G)
  (k:∀ p n F xs w',Hid (xs.map (·.1)=ts)->(∀ b,F b->w0.heap.size<=b\/G b)->HoldG M w0 w' (l++[.kn F (SKnows F p xs.length n xs)])->R (.returned (.slice p xs.length n)) w'):Calls P f args w R:=c.mono fun _ w' h=>by
 obtain⟨⟨p,n,F,xs,rfl,he,hs,hF⟩,hb⟩:=h;exact k p n F xs w' (Lib.hid he) (fun b h=>(hF b h).2.imp (fun h=>Nat.le_trans H.keep.size h) id) (H.learn hb hG hF (fun V hV=>hs.kept hV))
theorem HoldG.rowSized {xs:List TV} {K:Nat->Prop} (H:HoldG M w0 w l) {i N cap:Nat} {q:Option Addr} {T:TypeId} (hi:At l i (.row (.slice q N cap) T 11 N (zAG (xs.map sizX)))) (hN:xs.length=N) (hK:Still l K) (hL:ListR w K xs) :
  ∃ G:Nat->Prop,(∀ b,G b->w0.heap.size<=b\/K b)/\HoldG M w0 w (l.set i (.kn G (SKnows G q N cap xs))):=by
 have ho:=H.all i _ hi.get;have hrd:∀ V:World,(∀ b,(Value.slice q N cap).ownBlock=some b->V.heap[b]?=w.heap[b]?)->RdN 11 V (fun b=>(Value.slice q N cap).ownBlock=some b) (.slice q N cap) (xs.map sizX):=fun V hV=>RdN.of_own ho (zB2 xs) (by rw[List.length_map];exact hN) hV
 refine⟨fun b=>(Value.slice q N cap).ownBlock=some b\/K b,fun b hb=>hb.imp (fun hb=>?_) id,H.restG hi _ _ (fun b hb=>hb.imp id (hK b)) (fun V hV=>⟨(hrd V (fun b hb=>hV b (.inl hb))).mono (fun _ h=>.inl h),(hL.mono (fun _ h=>.inr h)).kept hV⟩)⟩
 obtain⟨_,⟨hv,_⟩|⟨g,cap',cur,hv,hg,_⟩⟩:=ho
 ·cases hv;cases hb
 ·cases hv;cases hb;exact hg
end
section
variable {M:Nat->Prop} {ops:Array Oper} {dst:Option Tmp} {ty:TypeId} {pos:String} {aft:Array Edge} {grd:Option (Nat × Bool)} {rest:List Oper} {a:Act} {w w0:World} {l:List Res} {Q:Exit->Act->World->Prop}
theorem gTz {x y:Operand} (h:wpList Tryz.prog ops Q ((⟨dst,.store 96 x y,ty,pos,aft,grd⟩:Oper)::rest) a w):wpList Tryz.prog ops Q ((⟨dst,.store 96 x y,ty,pos,aft,grd⟩:Oper)::rest) a w:=h
theorem gLz {x:Operand} (h:wpList Tryz.prog ops Q ((⟨dst,.load 96 x,ty,pos,aft,grd⟩:Oper)::rest) a w):wpList Tryz.prog ops Q ((⟨dst,.load 96 x,ty,pos,aft,grd⟩:Oper)::rest) a w:=h
theorem gLn {x:Operand} (h:wpList Tryz.prog ops Q ((⟨dst,.load 28 x,ty,pos,aft,grd⟩:Oper)::rest) a w):wpList Tryz.prog ops Q ((⟨dst,.load 28 x,ty,pos,aft,grd⟩:Oper)::rest) a w:=h
theorem gBz {x:Array (Nat × Operand)} (h:wpList Tryz.prog ops Q ((⟨dst,.build 96 x,ty,pos,aft,grd⟩:Oper)::rest) a w):wpList Tryz.prog ops Q ((⟨dst,.build 96 x,ty,pos,aft,grd⟩:Oper)::rest) a w:=h
theorem zb {x0 x1:Operand} {d:NodeD} {s:Value} {n:Int} (h:wpList Tryz.prog ops Q rest (a.put dst (sizV d s n)) w) (hg:Region.wanted (⟨dst,.build 96 #[(0,x0),(1,x1)],ty,pos,aft,grd⟩:Oper) (yielded ops a.tmps)=true:=by first|rfl|exact zAQ rfl (zAI rfl (by first|rfl|(simp only[pe];rfl)))) (h0:a.eval x0=zAV d s:=by first|(simp only[pe];done)|(simp only[pe];rfl)) (h1:a.eval x1=.int .i64 n:=by first|(simp only[pe];done)|(simp only[pe];rfl)):wpList Tryz.prog ops Q ((⟨dst,.build 96 #[(0,x0),(1,x1)],ty,pos,aft,grd⟩:Oper)::rest) a w :=
 zAK hg (by
  simp only[execOp,List.map_toArray,List.map_cons,List.map_nil,h0,h1,Sem.run_bind,zOK];rfl) h
theorem aTz (H:HoldG M w0 w l) {x y:Operand} {i b:Nat} {cs:Array Value} {U:TypeId} {d:NodeD} {s:Value} {n:Int} (h:∀ w',HoldG M w0 w' (l.set i (.blk b (sizC d s n) U))->wpList Tryz.prog ops Q rest (a.put dst undef) w') (hg:Region.wanted (⟨dst,.store 96 x y,ty,pos,aft,grd⟩:Oper) (yielded ops a.tmps)=true:=by first|rfl|exact zAQ rfl (zAI rfl (by first|rfl|(simp only[pe];rfl)))) (hx:a.eval x=.pointer (some ⟨b,0,none⟩):=by exact rfl) (hy:a.eval y=sizV d s n:=by first|(simp only[pe];done)|(simp only[pe];rfl)) (hi:At l i (.blk b cs U):=by repeat (first|(with_reducible exact At.zero)|apply At.succ)) (hn:cs.size=11:=by first|(with_reducible exact zFu)|rfl) (h1:s.oneCell'=true:=by rfl):wpList Tryz.prog ops Q ((⟨dst,.store 96 x y,ty,pos,aft,grd⟩:Oper)::rest) a w :=
 zDx hg 96 x y rfl hx hy H hi (zAr zAm) rfl hn (by simp only[sizC,List.all_cons,List.all_nil,h1];rfl) h
theorem aLz (H:HoldG M w0 w l) {x:Operand} {i b:Nat} {cs:Array Value} {U:TypeId} (h:wpList Tryz.prog ops Q rest (a.put dst (.agg cs)) w) (hg:Region.wanted (⟨dst,.load 96 x,ty,pos,aft,grd⟩:Oper) (yielded ops a.tmps)=true:=by first|rfl|exact zAQ rfl (zAI rfl (by first|rfl|(simp only[pe];rfl)))) (hx:a.eval x=.pointer (some ⟨b,0,none⟩):=by exact rfl) (hi:At l i (.blk b cs U):=by repeat (first|(with_reducible exact At.zero)|apply At.succ)) (hn:cs.size=11:=by first|(with_reducible exact zFu)|rfl):wpList Tryz.prog ops Q ((⟨dst,.load 96 x,ty,pos,aft,grd⟩:Oper)::rest) a w :=
 zFk hg 96 x rfl hx H hi zAm hn h
theorem aNz (H:HoldG M w0 w l) {x:Operand} {i b:Nat} {d:NodeD} {s:Value} {n:Int} {U:TypeId} (h:wpList Tryz.prog ops Q rest (a.put dst (zAV d s)) w) (hg:Region.wanted (⟨dst,.load 28 x,ty,pos,aft,grd⟩:Oper) (yielded ops a.tmps)=true:=by first|rfl|exact zAQ rfl (zAI rfl (by first|rfl|(simp only[pe];rfl)))) (hx:a.eval x=.pointer (some ⟨b,0,none⟩):=by exact rfl) (hi:At l i (.blk b (sizC d s n) U):=by repeat (first|(with_reducible exact At.zero)|apply At.succ)):wpList Tryz.prog ops Q ((⟨dst,.load 28 x,ty,pos,aft,grd⟩:Oper)::rest) a w :=
 zGJ hg 28 x rfl hx H hi (zAR d s) zAP rfl h
theorem aGz (H:HoldG M w0 w l) {T:TypeId} {x:Operand} {i b:Nat} {d:NodeD} {s:Value} {n:Int} {U:TypeId} {k:Nat} {v:Value} (h:wpList Tryz.prog ops Q rest (a.put dst v) w) (hg:Region.wanted (⟨dst,.load T x,ty,pos,aft,grd⟩:Oper) (yielded ops a.tmps)=true:=by first|rfl|exact zAQ rfl (zAI rfl (by first|rfl|(simp only[pe];rfl)))) (hx:a.eval x=.pointer (some ⟨b,k,none⟩):=by exact rfl) (hi:At l i (.blk b (sizC d s n) U):=by repeat (first|(with_reducible exact At.zero)|apply At.succ)) (hv:(sizC d s n)[k]?=some v:=by first|(with_reducible exact zg0 _ _ _)|(with_reducible exact zg5 _ _ _)|(with_reducible exact zg10 _ _ _)) (hT:oneB Tryz.prog T=true:=by first|(with_reducible exact zAC)|(with_reducible exact zAz)|(with_reducible exact zAh)):wpList Tryz.prog ops Q ((⟨dst,.load T x,ty,pos,aft,grd⟩:Oper)::rest) a w :=
 zEq hg T x rfl hx H hi hT hv h
theorem aKz (H:HoldG M w0 w l) {T:TypeId} {x y:Operand} {i b:Nat} {d:NodeD} {s v:Value} {n:Int} {U:TypeId} (h:∀ w',HoldG M w0 w' (l.set i (.blk b (sizC d v n) U))->wpList Tryz.prog ops Q rest (a.put dst undef) w') (hg:Region.wanted (⟨dst,.store T x y,ty,pos,aft,grd⟩:Oper) (yielded ops a.tmps)=true:=by first|rfl|exact zAQ rfl (zAI rfl (by first|rfl|(simp only[pe];rfl)))) (hx:a.eval x=.pointer (some ⟨b,5,none⟩):=by exact rfl) (hy:a.eval y=v:=by first|(simp only[pe];done)|(simp only[pe];rfl)) (hi:At l i (.blk b (sizC d s n) U):=by repeat (first|(with_reducible exact At.zero)|apply At.succ)) (hT:zCe Tryz.prog T 1=true:=by with_reducible exact zAE zAz) (h1:v.oneCell'=true:=by rfl):wpList Tryz.prog ops Q ((⟨dst,.store T x y,ty,pos,aft,grd⟩:Oper)::rest) a w :=
 zAi hg T x y rfl hx hy H hi h1 (show 5<11 by omega) hT h
theorem aQz (H:HoldG M w0 w l) {T:TypeId} {x y:Operand} {i b:Nat} {d:NodeD} {s:Value} {n m:Int} {U:TypeId} (h:∀ w',HoldG M w0 w' (l.set i (.blk b (sizC d s m) U))->wpList Tryz.prog ops Q rest (a.put dst undef) w') (hg:Region.wanted (⟨dst,.store T x y,ty,pos,aft,grd⟩:Oper) (yielded ops a.tmps)=true:=by first|rfl|exact zAQ rfl (zAI rfl (by first|rfl|(simp only[pe];rfl)))) (hx:a.eval x=.pointer (some ⟨b,10,none⟩):=by exact rfl) (hy:a.eval y=.int .i64 m:=by first|(simp only[pe];done)|(simp only[pe];rfl)) (hi:At l i (.blk b (sizC d s n) U):=by repeat (first|(with_reducible exact At.zero)|apply At.succ)) (hT:zCe Tryz.prog T 1=true:=by with_reducible exact zAE zAC):wpList Tryz.prog ops Q ((⟨dst,.store T x y,ty,pos,aft,grd⟩:Oper)::rest) a w :=
 zAi hg T x y rfl hx hy H hi rfl (show 10<11 by omega) hT h
end
theorem xcz {M:Nat->Prop} {a:Act} {w w0:World} {l:List Res} {fn:Func} {R:Ending->World->Prop} {p:Tmp} {b i:Nat} {d:NodeD} {s:Value} {n:Int} {U:TypeId} (hres:fn.results=#[.cell p 96]) (H:HoldG M w0 w l) (h:R (.returned (sizV d s n)) w) (hp:a.tmps.getD p undef=.pointer (some ⟨b,0,none⟩):=by exact rfl) (hi:At l i (.blk b (sizC d s n) U):=by repeat (first|(with_reducible exact At.zero)|apply At.succ)) (hd:a.defers=[]:=by exact rfl):bodyPost Tryz.prog fn R .ret a w:=zLU hres hp H hi zAm rfl hd h
end
section
open Go.RowKit Go.Shelf
attribute [local go_sem] Oper.semAt_some
theorem zBt (w0:World):Calls Tryz.prog 94 #[.bool true] w0 (Rt (.tuple #[]) w0):=by
 go_enter Tryz.func94,Tryz.ntmps94
 go_wp2
 exact⟨rfl,.tuple #[],(by simp[results,Tryz.f94,go_sem]),rfl,Below.refl _ _⟩
theorem zCP (w0:World):Calls Tryz.prog 94 #[.bool false] w0 fun e w'=>e=.panicked (zCH 7)/\Below w0.heap.size w0 w':=by
 go_enter Tryz.func94,Tryz.ntmps94
 go_wp2
 exact⟨rfl,rfl,Below.refl _ _⟩
theorem zL8 (d:NodeD) (s:Value) (n k:Int) (w0:World):Calls Tryz.prog 91 #[sizV d s n,.int .i64 k] w0 (Rt (.bool (d.kind == k)) w0):=by
 have H:=Hold.start w0
 go_enter Tryz.func91,Tryz.ntmps91
 go_wp2_with (first|((with_reducible refine kg 2 ?_);(first|refine kA 2 H ?_|refine kS 2 H ?_|refine kB 2 H ?_);clear H;intro b2 w H;try simp only[nr]at H)|((with_reducible refine gL ?_);refine aGz H ?_))
 go_ret;exact⟨rfl,H.below⟩
theorem zJC (k:Int) (w0:World):Calls Tryz.prog 93 #[.int .i64 k] w0 (Rt (sizV {kind:=k} nilS 1) w0):=by
 have H:=Hold.start w0
 go_enter Tryz.func93,Tryz.ntmps93
 go_wp2_with (first|((with_reducible refine kg 2 ?_);(first|refine kA 2 H ?_|refine kS 2 H ?_|refine kB 2 H ?_);clear H;intro b2 w H;try simp only[nr]at H)|(first|((with_reducible refine gTz ?_);refine aTz H ?_;clear H;intro w H;try simp only[nr]at H)|((with_reducible refine gBz ?_);refine zb ?_)|((with_reducible refine gZ ?_);refine nb1 ?_)))
 refine xcz Tryz.results93 H ?_
 exact⟨rfl,H.below⟩
theorem zL1 (xs:List TV) (x:TV):zAG (xs.map zAT)++(zAR x.1.d (.slice x.2.1 x.1.kids.length x.2.2)).toList=zAG ((xs++[x]).map zAT):=by
 rw[List.map_append,zBI];simp[zAG]
theorem zKQ {d:NodeD} {l:List Tree} (h:1+zAF l<=4000):zCq d l=some (.mk d l):=if_pos h
theorem zKP {d:NodeD} {l:List Tree} (h:¬ 1+zAF l<=4000):zCq d l=none:=if_neg h
theorem zKq {xs:List TV} {j:Nat} {x:TV} (h:xs[j]?=some x):zAF ((xs.take (j+1)).map (·.1))=zAF ((xs.take j).map (·.1))+zAB x.1:=by
 rw[zBb h,List.map_append,zAZ];simp[zAF]
theorem zMQ (xs:List TV) (j:Nat):zAF ((xs.take j).map (·.1))<=zAF (xs.map (·.1)):=by
 conv=>rhs;rw[← List.take_append_drop j xs,List.map_append,zAZ]
 omega
theorem zGd {xs:List TV} {j:Nat} {x:TV} (h:xs[j]?=some x):zAB x.1<=zAF (xs.map (·.1)):=by
 have:=zD4 (ts:=xs.map (·.1)) (i:=j) (t:=x.1) (by rw[List.getElem?_map,h];rfl)
 omega
theorem zI2 (d:NodeD) (p0:Option Addr) (n0 c0:Nat) (p:Option Addr) (c:Nat) (xs:List TV) (F:Nat->Prop) (w0:World) (hF:∀ b,F b->b<w0.heap.size) (h:SKnows F p xs.length c xs w0) (hsz:zAF (xs.map (·.1))<=1000000000) :
  Calls Tryz.prog 92 #[zAV d (.slice p0 n0 c0),.slice p xs.length c] w0 fun e w'=>SizOut w0 F (zCq d (xs.map (·.1))) e w'/\Below w0.heap.size w0 w':=by
 obtain⟨i0,hi0,hz0,hz1,hz2⟩:=info_parts zDo;have H:=Hold.sknows hF h;have hc1:=h.bound.2.1;have hc2:=h.bound.2.2;have hp:=h.at;obtain⟨n,hnn⟩:∃ n,xs.length=n:=⟨_,rfl⟩;rw[hnn]at H hc1 ⊢;have HN:=Lib.hid hnn;clear hnn h
 go_enter Tryz.func92,Tryz.ntmps92
 go_wp2_with (first|((with_reducible refine kg 2 ?_);(first|refine kA 2 H ?_|refine kS 2 H ?_|refine kB 2 H ?_);clear H;intro b2 w H;try simp only[nr]at H)|((with_reducible refine kg 4 ?_);(first|refine kA 4 H ?_|refine kS 4 H ?_|refine kB 4 H ?_);clear H;intro b4 w H;try simp only[nr]at H)|((with_reducible refine kg 5 ?_);(first|refine kA 5 H ?_|refine kS 5 H ?_|refine kB 5 H ?_);clear H;intro b5 w H;try simp only[nr]at H)|(first|((with_reducible refine gTz ?_);refine aTz H ?_;clear H;intro w H;try simp only[nr]at H)|((with_reducible refine gBz ?_);refine zb ?_)|((with_reducible refine gT ?_);refine aKz H ?_;clear H;intro w H;try simp only[nr]at H)|((with_reducible refine gL ?_);refine aD H ?_)))
 replace H:=H.addNil 28 10;simp only[List.nil_append,List.cons_append]at H
 go_loopw [14] (fun ix wr=>∃ (j:Nat) (vq:Option Addr) (vc:Nat) (sz:Nat),j<=n/\ix=.int .i64 j/\sz<=3999/\j<=sz/\Hid (zAF ((xs.take j).map (·.1))=sz)/\Hold w0 wr [.kn F (SKnows F p n c xs),.blk b2 (zAR d (.slice p0 n0 c0)) 28,.blk b4 (sizC {kind:=0} nilS 0) 96,.blk b5 (sizC d (.slice vq j vc) ((1+sz:Nat):Int)) 96,.row (.slice vq j vc) 28 10 j (zAG ((xs.take j).map zAT))]) (fun ix _=>n+1 - (intOf ix).toNat)
 case atStart =>
  refine⟨0,none,0,0,by omega,rfl,by omega,by omega,Lib.hid rfl,?_⟩
  rw[zPa]at H;exact H
 case round =>
  clear H;obtain⟨j,vq,vc,sz,hj,rfl,hsl,hjs,E,H⟩:=hrel
  by_cases hlt:j<n
  ·have dj:decide ((j:Int)<(n:Int))=true:=by simp;omega
   obtain⟨x,hx⟩:∃ x,xs[j]?=some x:=⟨_,List.getElem?_eq_getElem (by rw[HN.out];exact hlt)⟩
   obtain⟨b,off,rfl⟩:=hp (by rw[HN.out];omega)
   have hmem:=List.mem_of_getElem? hx;have hxs:zAB x.1<=1000000000:=Nat.le_trans (zGd hx) hsz;have hpos:=zBX x.1;have E2:=zKq hx;rw[E.out]at E2;have hcell:∀ V,SKnows F (some ⟨b,off,none⟩) n c xs V->∀ k,k<11->V.cell? ⟨b,off+j * 11+k,none⟩=(sizX x)[k]?:=fun V h=>h.cells hx rfl
   have ET:=Lib.hid (show zAG ((xs.take j).map zAT)++(zAR x.1.d (.slice x.2.1 x.1.kids.length x.2.2)).toList=zAG ((xs.take (j+1)).map zAT) by rw[zL1,zBb hx])
   have hle:=zMQ xs (j+1);obtain⟨m,hm⟩:∃ m,zAB x.1=m:=⟨_,rfl⟩;rw[hm]at hxs hpos E2;have hcell2:∀ V,SKnows F (some ⟨b,off,none⟩) n c xs V->∀ k,k<11->V.cell? ⟨b,off+j * 11+k,none⟩=(sizC x.1.d (.slice x.2.1 x.1.kids.length x.2.2) m)[k]?:=fun V h=>by rw[← hm];exact hcell V h
   have HE2:=Lib.hid E2;have HLE:=Lib.hid hle;clear hcell hx hp hm hmem hsz E2 hle;have hyes:=fun w=>zBt w
   have hno:=fun w=>zCP w
   by_cases hbig:1+sz+m<=4000
   ·have db:decide ((1:Int)+(sz:Int)+(m:Int)<=4000)=true:=by simp;omega
    go_wp2_with (first|((with_reducible refine gLz ?_);refine zAO wtd_ _ _ rfl rfl zAm rfl (hcell2 _ (H.kn (i:=0) .zero)) ?_)|((with_reducible refine kg 7 ?_);(first|refine kA 7 H ?_|refine kS 7 H ?_|refine kB 7 H ?_);clear H;intro b7 w H;try simp only[nr]at H)|(first|((with_reducible refine gTz ?_);refine aTz H ?_;clear H;intro w H;try simp only[nr]at H)|((with_reducible refine gLn ?_);refine aNz H ?_)|((with_reducible refine gL ?_);refine aGz H ?_)|((with_reducible refine gT ?_);refine aKz H ?_;clear H;intro w H;try simp only[nr]at H)|((with_reducible refine gT ?_);refine aQz H ?_;clear H;intro w H;try simp only[nr]at H))|((with_reducible refine gBS ?_);refine zAY wtd_ _ _ _ rfl H (zAR (x.1.d) (.slice x.2.1 x.1.kids.length x.2.2)) 28 (by intro W;simp only[ml];(try simp only[pe]);exact zCX _ _ W) ?_;clear H;intro bk w H;try simp only[nr]at H)|(at_builtin;refine zA8 rfl _ _ 26 rfl H (i:=4) (j:=6) evd_ rfl i_4 i_6 Tryz.underlying26 hi0 hz0 hz1 hz2 rfl (by decide) rfl rfl (by unfold maxLen;omega) (by omega) ?_;clear H;intro v2 w H;(try simp only[nr]at H);(obtain⟨q2,c2,rfl,_,_,_⟩:=H.rowShape (i:=4) i_4))|((with_reducible refine ch (hyes _) H ?_);clear H;intro w H))
    rw[ET.out]at H;go_roundw
    case rel=>exact⟨j+1,q2,c2,sz+m,by omega,by go_num,by omega,by omega,Lib.hid HE2.out,by rw[show ((1+(sz+m):Nat):Int)=1+(sz:Int)+(m:Int) by omega];exact H.pick [0,1,2,3,4] _ (by decide) rfl⟩
    case measure=>simp[intOf];omega
   ·have db:decide ((1:Int)+(sz:Int)+(m:Int)<=4000)=false:=by simp;omega
    go_wp2_with (first|((with_reducible refine gLz ?_);refine zAO wtd_ _ _ rfl rfl zAm rfl (hcell2 _ (H.kn (i:=0) .zero)) ?_)|((with_reducible refine kg 7 ?_);(first|refine kA 7 H ?_|refine kS 7 H ?_|refine kB 7 H ?_);clear H;intro b7 w H;try simp only[nr]at H)|(first|((with_reducible refine gTz ?_);refine aTz H ?_;clear H;intro w H;try simp only[nr]at H)|((with_reducible refine gLn ?_);refine aNz H ?_)|((with_reducible refine gL ?_);refine aGz H ?_)|((with_reducible refine gT ?_);refine aKz H ?_;clear H;intro w H;try simp only[nr]at H)|((with_reducible refine gT ?_);refine aQz H ?_;clear H;intro w H;try simp only[nr]at H))|((with_reducible refine gBS ?_);refine zAY wtd_ _ _ _ rfl H (zAR (x.1.d) (.slice x.2.1 x.1.kids.length x.2.2)) 28 (by intro W;simp only[ml];(try simp only[pe]);exact zCX _ _ W) ?_;clear H;intro bk w H;try simp only[nr]at H)|(at_builtin;refine zA8 rfl _ _ 26 rfl H (i:=4) (j:=6) evd_ rfl i_4 i_6 Tryz.underlying26 hi0 hz0 hz1 hz2 rfl (by decide) rfl rfl (by unfold maxLen;omega) (by omega) ?_;clear H;intro v2 w H;(try simp only[nr]at H);(obtain⟨q2,c2,rfl,_,_,_⟩:=H.rowShape (i:=4) i_4))|((with_reducible refine ch (hno _) H ?_);clear H;intro w H))
    refine⟨rfl,?_,H.below⟩;rw[zKP (by have:=HE2.out;have:=HLE.out;omega)]
    rfl
  ·have hjn:j=n:=by omega
   have dj:decide ((j:Int)<(n:Int))=false:=by simp;omega
   have e1:xs.take j=xs:=List.take_of_length_le (by rw[HN.out];omega)
   rw[e1]at E H;have HQ:=Lib.hid (show zCq d (xs.map (·.1))=some (.mk d (xs.map (·.1))) from zKQ (by rw[E.out];omega))
   have HSZ:=Lib.hid (show ((1+sz:Nat):Int)=((zAB (.mk d (xs.map (·.1))):Nat):Int) by simp only[zAB];rw[E.out])
   obtain⟨G,hG,H2⟩:=H.rowForest (i:=4) (xs:=xs) (K:=F) i_4 (by rw[HN.out];omega) (Still.at (i:=0) .zero) (H.kn (i:=0) .zero).2
   clear H e1;have H:=H2;clear H2;simp only[sc]at H;have HJ:=Lib.hid (show j=(xs.map (·.1)).length by rw[List.length_map,HN.out];exact hjn)
   clear hjn
   go_wp2_with (first|(first|((with_reducible refine gTz ?_);refine aTz H ?_;clear H;intro w H;try simp only[nr]at H)|((with_reducible refine gLz ?_);refine aLz H ?_)))
   refine xcz Tryz.results92 H ?_
   rw[HQ.out,HSZ.out];refine⟨⟨vq,vc,G,?_,H.kn (i:=4) i_4,fun b h=>⟨H.knlt (i:=4) i_4 b h,hG b h⟩⟩,H.below⟩
   show Ending.returned (sizV d (.slice vq j vc) _)=Ending.returned (sizV d (.slice vq (xs.map (·.1)).length vc) _)
   rw[← HJ.out]
end
end Go.Proofs.YtalggmbdpmdcbaaGreat
