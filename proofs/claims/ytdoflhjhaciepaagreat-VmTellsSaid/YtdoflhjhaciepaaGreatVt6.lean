/-
  Laws of walks, and walks.
-/
import Derived.Test.YtdoflhjhaciepaaGreatVt2
import Derived.Test.YtdoflhjhaciepaaGreatVt5
import Derived.Test.YtdoflhjhaciepaaGreatVt4
import Derived.Test.YtdoflhjhaciepaaGreatVt1
import Derived.Test.YtdoflhjhaciepaaGreatVt3
import Derived.Below
import Derived.Deep.CutRange
set_option linter.unusedVariables false
set_option linter.unusedSimpArgs false
set_option maxRecDepth 100000
set_option maxHeartbeats 16000000
namespace Go.Proofs.YtdoflhjhaciepaaGreat
open Go.RowKit Go.Shelf
attribute [local go_sem] Oper.semAt_some
def signD (c i:Nat):WordD :=
 if c=46 then {kind:=2,place:=i} else if c=94 then {kind:=3,place:=i} else if c=36 then {kind:=4,place:=i} else if c=40 then {kind:=6,place:=i}
 else if c=41 then {kind:=9,place:=i} else if c=124 then {kind:=10,place:=i} else if c=42 then {kind:=11,place:=i,lo:=0,hi := -1}
 else if c=43 then {kind:=11,place:=i,lo:=1,hi := -1} else if c=63 then {kind:=11,place:=i,lo:=0,hi:=1} else {kind:=0,place:=i}
theorem ieq (c n:Nat):(c=n)=(((c:Int) == (n:Int))=true):=by rw[beq_iff_eq];exact propext ⟨fun h=>by omega,fun h=>by omega⟩
theorem ref_sign (c i:Nat) (hc:c<256) (w0:World):Calls Tryz.prog 123 #[.int .u8 c,.int .i64 i] w0 fun e w'=>e=.returned (wordV (signD c i))∧Below w0.heap.size w0 w':=by
 have H:=Hold.start w0
 go_enter Tryz.func123,Tryz.ntmps123
 go_wp2_with (first|(first|((with_reducible refine gT ?_);((first|refine aO H ?_|refine aT H ?_);clear H;intro w H;try simp only[nr]at H))|((with_reducible refine gL ?_);refine aD H ?_)|((with_reducible refine gA ?_);(refine bA H ?_;clear H;intro b w H;try simp only[nr]at H))))
 all_goals
  (refine ret_c Tryz.results123 rfl H atd_ (by first|(with_reducible exact row_Word)|(with_reducible exact row_Set)) (by rfl) rfl ?_)
  refine⟨congrArg Ending.returned ?_,H.below⟩;clear H;simp only[signD,ieq,Int.cast_ofNat_Int, *,Bool.false_eq_true,if_true,if_false];rfl
def RepR (o:Except Nat (WordD × Nat)) (e:Ending):Prop:=match o with
 | .ok (w,k)=>e=.returned (.tuple #[wordV w,.int .i64 k,.int .i64 0])
 | .error x=>∃ w k,e=.returned (.tuple #[wordV w,.int .i64 k,.int .i64 x])
theorem RepR.ok {o:Except Nat (WordD × Nat)} {w:WordD} {k:Nat} (h:o=.ok (w,k)):RepR o (.returned (.tuple #[wordV w,.int .i64 k,.int .i64 0])):=by subst h;rfl
theorem RepR.no {o:Except Nat (WordD × Nat)} {x:Nat} {w:WordD} {k:Int} (h:o=.error x):RepR o (.returned (.tuple #[wordV w,.int .i64 k,.int .i64 x])):=by subst h;exact⟨w,k,rfl⟩
theorem ref_repeat (L:Str) (i e:Nat) (lo hi:Int) (hL:L.length≤2000) (hlo:0≤lo∧lo≤200) (hhi : -1≤hi∧hi≤200) (hel:e≤L.length) (w0:World) :
  Calls Tryz.prog 129 #[.string ⟨L.toArray⟩,wordV {kind:=11,place:=i,lo:=lo,hi:=hi},.int .i64 e] w0 fun e' w'=>RepR (repeatP L i lo hi e) e'∧Below w0.heap.size w0 w':=by
 have H:=Hold.start w0;have hat:=fun w=>ref_at L [63] e hL (by simp) (by simp) (by omega) w
 by_cases c1:100<lo
 ·have d1:decide (100<lo)=true:=by simp;omega
  have HE:=Lib.hid (show repeatP L i lo hi e=.error 6 by unfold repeatP;rw[if_pos (.inl c1)])
  clear c1
  go_enter Tryz.func129,Tryz.ntmps129
  go_wp2_with (first|(first|((with_reducible refine gT ?_);(refine aT H ?_;clear H;intro w H;try simp only[nr]at H))|((with_reducible refine gL ?_);(first|refine aG H ?_|refine aD H ?_))|((with_reducible refine gX ?_);(refine bB H ?_;clear H;intro b w H;try simp only[nr]at H))|((with_reducible refine gA ?_);(refine bA H ?_;clear H;intro b w H;try simp only[nr]at H)))|(go_at_call 126;(with_reducible refine ch (hat _) H ?_);clear H;intro w H))
  (refine ret_ctt Tryz.results129 rfl (by first|rfl|(simp only[pl];rfl)) (by first|rfl|(simp only[pl];rfl)) H atd_ (by first|(with_reducible exact row_Word)|(with_reducible exact row_Set)) (by rfl) rfl ?_)
  exact⟨RepR.no (w:={kind:=11,place:=i,lo:=lo,hi:=hi}) HE.out,H.below⟩
 ·have d1:decide (100<lo)=false:=by simp;omega
  by_cases c2:100<hi
  ·have d2:decide (100<hi)=true:=by simp;omega
   have HE:=Lib.hid (show repeatP L i lo hi e=.error 6 by unfold repeatP;rw[if_pos (.inr (.inl c2))])
   clear c2 c1
   go_enter Tryz.func129,Tryz.ntmps129
   go_wp2_with (first|(first|((with_reducible refine gT ?_);(refine aT H ?_;clear H;intro w H;try simp only[nr]at H))|((with_reducible refine gL ?_);(first|refine aG H ?_|refine aD H ?_))|((with_reducible refine gX ?_);(refine bB H ?_;clear H;intro b w H;try simp only[nr]at H))|((with_reducible refine gA ?_);(refine bA H ?_;clear H;intro b w H;try simp only[nr]at H)))|(go_at_call 126;(with_reducible refine ch (hat _) H ?_);clear H;intro w H))
   (refine ret_ctt Tryz.results129 rfl (by first|rfl|(simp only[pl];rfl)) (by first|rfl|(simp only[pl];rfl)) H atd_ (by first|(with_reducible exact row_Word)|(with_reducible exact row_Set)) (by rfl) rfl ?_)
   exact⟨RepR.no (w:={kind:=11,place:=i,lo:=lo,hi:=hi}) HE.out,H.below⟩
  ·have d2:decide (100<hi)=false:=by simp;omega
   by_cases c3:0≤hi
   ·have d3:decide (0≤hi)=true:=by simp;omega
    by_cases c4:hi<lo
    ·have d4:decide (hi<lo)=true:=by simp;omega
     have HE:=Lib.hid (show repeatP L i lo hi e=.error 6 by unfold repeatP;rw[if_pos (.inr (.inr ⟨c3,c4⟩))])
     clear c4 c3 c2 c1
     go_enter Tryz.func129,Tryz.ntmps129
     go_wp2_with (first|(first|((with_reducible refine gT ?_);(refine aT H ?_;clear H;intro w H;try simp only[nr]at H))|((with_reducible refine gL ?_);(first|refine aG H ?_|refine aD H ?_))|((with_reducible refine gX ?_);(refine bB H ?_;clear H;intro b w H;try simp only[nr]at H))|((with_reducible refine gA ?_);(refine bA H ?_;clear H;intro b w H;try simp only[nr]at H)))|(go_at_call 126;(with_reducible refine ch (hat _) H ?_);clear H;intro w H))
     (refine ret_ctt Tryz.results129 rfl (by first|rfl|(simp only[pl];rfl)) (by first|rfl|(simp only[pl];rfl)) H atd_ (by first|(with_reducible exact row_Word)|(with_reducible exact row_Set)) (by rfl) rfl ?_)
     exact⟨RepR.no (w:={kind:=11,place:=i,lo:=lo,hi:=hi}) HE.out,H.below⟩
    ·have d4:decide (hi<lo)=false:=by simp;omega
     have hne:¬ (100<lo∨100<hi∨(0≤hi∧hi<lo)):=by omega
     have he:repeatP L i lo hi e=repeatP L i lo hi e:=rfl
     conv at he=>rhs;unfold repeatP
     rw[if_neg hne]at he;clear hne c1 c2 c3 c4
     cases ha:atP L e [63] with
     | true =>
      rw[ha]at hat;rw[if_pos ha]at he;have HE:=Lib.hid he;clear he ha
      go_enter Tryz.func129,Tryz.ntmps129
      go_wp2_with (first|(first|((with_reducible refine gT ?_);((first|refine aO H ?_|refine aT H ?_);clear H;intro w H;try simp only[nr]at H))|((with_reducible refine gL ?_);(first|refine aG H ?_|refine aD H ?_))|((with_reducible refine gX ?_);(refine bB H ?_;clear H;intro b w H;try simp only[nr]at H))|((with_reducible refine gA ?_);(refine bA H ?_;clear H;intro b w H;try simp only[nr]at H)))|(go_at_call 126;(with_reducible refine ch (hat _) H ?_);clear H;intro w H))
      (refine ret_ctt Tryz.results129 rfl (by first|rfl|(simp only[pl];rfl)) (by first|rfl|(simp only[pl];rfl)) H atd_ (by first|(with_reducible exact row_Word)|(with_reducible exact row_Set)) (by rfl) rfl ?_)
      exact⟨RepR.ok (w:={kind:=11,place:=i,lo:=lo,hi:=hi,lazy:=true}) HE.out,H.below⟩
     | false =>
      rw[ha]at hat;rw[if_neg (by rw[ha];simp)]at he
      have HE:=Lib.hid he;clear he ha
      go_enter Tryz.func129,Tryz.ntmps129
      go_wp2_with (first|(first|((with_reducible refine gT ?_);(refine aT H ?_;clear H;intro w H;try simp only[nr]at H))|((with_reducible refine gL ?_);(first|refine aG H ?_|refine aD H ?_))|((with_reducible refine gX ?_);(refine bB H ?_;clear H;intro b w H;try simp only[nr]at H))|((with_reducible refine gA ?_);(refine bA H ?_;clear H;intro b w H;try simp only[nr]at H)))|(go_at_call 126;(with_reducible refine ch (hat _) H ?_);clear H;intro w H))
      (refine ret_ctt Tryz.results129 rfl (by first|rfl|(simp only[pl];rfl)) (by first|rfl|(simp only[pl];rfl)) H atd_ (by first|(with_reducible exact row_Word)|(with_reducible exact row_Set)) (by rfl) rfl ?_)
      exact⟨RepR.ok (w:={kind:=11,place:=i,lo:=lo,hi:=hi}) HE.out,H.below⟩
   ·have d3:decide (0≤hi)=false:=by simp;omega
    have hne:¬ (100<lo∨100<hi∨(0≤hi∧hi<lo)):=by omega
    have he:repeatP L i lo hi e=repeatP L i lo hi e:=rfl
    conv at he=>rhs;unfold repeatP
    rw[if_neg hne]at he;clear hne c1 c2 c3
    cases ha:atP L e [63] with
    | true =>
     rw[ha]at hat;rw[if_pos ha]at he;have HE:=Lib.hid he;clear he ha
     go_enter Tryz.func129,Tryz.ntmps129
     go_wp2_with (first|(first|((with_reducible refine gT ?_);((first|refine aO H ?_|refine aT H ?_);clear H;intro w H;try simp only[nr]at H))|((with_reducible refine gL ?_);(first|refine aG H ?_|refine aD H ?_))|((with_reducible refine gX ?_);(refine bB H ?_;clear H;intro b w H;try simp only[nr]at H))|((with_reducible refine gA ?_);(refine bA H ?_;clear H;intro b w H;try simp only[nr]at H)))|(go_at_call 126;(with_reducible refine ch (hat _) H ?_);clear H;intro w H))
     (refine ret_ctt Tryz.results129 rfl (by first|rfl|(simp only[pl];rfl)) (by first|rfl|(simp only[pl];rfl)) H atd_ (by first|(with_reducible exact row_Word)|(with_reducible exact row_Set)) (by rfl) rfl ?_)
     exact⟨RepR.ok (w:={kind:=11,place:=i,lo:=lo,hi:=hi,lazy:=true}) HE.out,H.below⟩
    | false =>
     rw[ha]at hat;rw[if_neg (by rw[ha];simp)]at he
     have HE:=Lib.hid he;clear he ha
     go_enter Tryz.func129,Tryz.ntmps129
     go_wp2_with (first|(first|((with_reducible refine gT ?_);(refine aT H ?_;clear H;intro w H;try simp only[nr]at H))|((with_reducible refine gL ?_);(first|refine aG H ?_|refine aD H ?_))|((with_reducible refine gX ?_);(refine bB H ?_;clear H;intro b w H;try simp only[nr]at H))|((with_reducible refine gA ?_);(refine bA H ?_;clear H;intro b w H;try simp only[nr]at H)))|(go_at_call 126;(with_reducible refine ch (hat _) H ?_);clear H;intro w H))
     (refine ret_ctt Tryz.results129 rfl (by first|rfl|(simp only[pl];rfl)) (by first|rfl|(simp only[pl];rfl)) H atd_ (by first|(with_reducible exact row_Word)|(with_reducible exact row_Set)) (by rfl) rfl ?_)
     exact⟨RepR.ok (w:={kind:=11,place:=i,lo:=lo,hi:=hi}) HE.out,H.below⟩
theorem at2' {L:Str} {i:Nat} (hi:i<L.length) (h:byt L i=40):atP L i [40,63]=atP L (i+1) [63]:=by
 unfold atP;have:((40:UInt8) == L[i])=true:=by
  rw[beq_iff_eq];apply UInt8.toNat_inj.1;rw[← byt_get hi,h];rfl
 rw[List.drop_eq_getElem_cons hi,List.isPrefixOf_cons_cons,this,Bool.true_and]
theorem w_40 {L:Str} {i:Nat} (h:byt L i=40):wordP L i=if atP L (i+1) [63] then orErr (flagsP L i) else .ok ({kind:=6,place:=i},i+1):=by unfold wordP;simp[h]
theorem w_42 {L:Str} {i:Nat} (h:byt L i=42):wordP L i=repeatP L i 0 (-1) (i+1):=by unfold wordP;simp[h]
theorem w_43 {L:Str} {i:Nat} (h:byt L i=43):wordP L i=repeatP L i 1 (-1) (i+1):=by unfold wordP;simp[h]
theorem w_63 {L:Str} {i:Nat} (h:byt L i=63):wordP L i=repeatP L i 0 1 (i+1):=by unfold wordP;simp[h]
theorem w_46 {L:Str} {i:Nat} (h:byt L i=46):wordP L i=.ok ({kind:=2,place:=i},i+1):=by unfold wordP;simp[h,signP]
theorem w_94 {L:Str} {i:Nat} (h:byt L i=94):wordP L i=.ok ({kind:=3,place:=i},i+1):=by unfold wordP;simp[h,signP]
theorem w_36 {L:Str} {i:Nat} (h:byt L i=36):wordP L i=.ok ({kind:=4,place:=i},i+1):=by unfold wordP;simp[h,signP]
theorem w_41 {L:Str} {i:Nat} (h:byt L i=41):wordP L i=.ok ({kind:=9,place:=i},i+1):=by unfold wordP;simp[h,signP]
theorem w_124 {L:Str} {i:Nat} (h:byt L i=124):wordP L i=.ok ({kind:=10,place:=i},i+1):=by unfold wordP;simp[h,signP]
theorem w_no {L:Str} {i:Nat} (h92:byt L i≠92) (h91:byt L i≠91) (h40:byt L i≠40) (h123:byt L i≠123) (h42:byt L i≠42) (h43:byt L i≠43) (h63:byt L i≠63) (h46:byt L i≠46) (h94:byt L i≠94) (h36:byt L i≠36) (h41:byt L i≠41) (h124:byt L i≠124):wordP L i=.ok ({kind:=1,place:=i,set:=ofS [(byt L i:Int)]},i+1):=by unfold wordP;simp[signP, *]
theorem sign_no {c i:Nat} (h40:c≠40) (h42:c≠42) (h43:c≠43) (h63:c≠63) (h46:c≠46) (h94:c≠94) (h36:c≠36) (h41:c≠41) (h124:c≠124):signD c i={kind:=0,place:=i}:=by unfold signD;simp[*]
theorem run_wset (i:Nat) (s:Nat→Nat) (W:World):(Instr.build 226 #[(0,.int .i64 1),(1,.int .i64 i),(2,setV s)]).run Tryz.prog W=.ok (wordV {kind:=1,place:=i,set:=s}) W:=by
 unfold setV;simp[go_sem];rfl
theorem own_wset {ops:Array Oper} {rest:List Oper} {o:Oper} {a:Act} {w:World} {Q:Exit→Act→World→Prop} (hg:Region.wanted o (yielded ops a.tmps)=true) {x y:Operand} (ho:o.op=.build 226 #[(0,.const (.int .i64 1)),(1,x),(2,y)])
  {i:Nat} {s:Nat→Nat} (hx:a.eval x=.int .i64 i) (hy:a.eval y=setV s) (h:wpList Tryz.prog ops Q rest (a.put o.dst (wordV {kind:=1,place:=i,set:=s})) w):wpList Tryz.prog ops Q (o::rest) a w :=
 own_pure hg (by
  simp only[execOp,ho,List.map_toArray,List.map_cons,List.map_nil,hx,hy,ev_const,Sem.run_bind,run_wset];rfl) h
theorem word_sign (L:Str) (i:Nat) (hL:L.length≤2000) (hi:i<L.length) (w0:World) (n92:((byt L i:Int) == 92)=false) (n91:((byt L i:Int) == 91)=false) (n123:((byt L i:Int) == 123)=false) (hat:∀ w,Calls Tryz.prog 126 #[.string ⟨L.toArray⟩,.int .i64 i,.string ⟨#[40,63]⟩] w fun e w'=>e=.returned (.bool false)∧Below w.heap.size w w') {k:Nat} (hsg:∀ w,Calls Tryz.prog 123 #[.int .u8 (byt L i),.int .i64 i] w fun e w'=>e=.returned (wordV {kind:=k,place:=i})∧Below w.heap.size w w') (n11:((k:Int) == 11)=false) (n0:((k:Int) == 0)=false) (E:Hid (wordP L i=.ok ({kind:=k,place:=i},i+1))) :
  Calls Tryz.prog 104 #[.string ⟨L.toArray⟩,.int .i64 i] w0 fun e w'=>RepR (wordP L i) e∧Below w0.heap.size w0 w':=by
 have H:=Hold.start w0
 go_enter Tryz.func104,Tryz.ntmps104
 go_wp2_with (first|((with_reducible show @wpList _ _ _ ({dst:=_,op:=Op.build _ #[(0,Operand.const (Value.int IntKind.i64 1)),(1,_),(2,_)],type:=_,pos:=_,after:=_,guard:=_}::_) _ _);refine own_wset wtd_ rfl rfl (by (try simp only[pe]);with_reducible rfl) ?_)|(first|((with_reducible refine gT ?_);(first|((first|refine aS H ?_|refine aW H ?_|refine aO H ?_|refine aT H ?_);clear H;intro w H;try simp only[nr]at H)|(refine aN H ?_;clear H;intro w H;(try simp only[nr]at H);try simp only[setSeg,nrl]at H)))|((with_reducible refine gL ?_);(first|refine aV H ?_|refine aL H ?_|refine aG H ?_|refine aD H ?_))|((with_reducible refine gX ?_);((first|refine bS H ?_|refine bB H ?_);clear H;intro b w H;try simp only[nr]at H))|((with_reducible refine gA ?_);(refine bA H ?_;clear H;intro b w H;try simp only[nr]at H))|((with_reducible refine gZ ?_);refine aZ ?_)|((with_reducible refine gI ?_);refine aI ?_)|((with_reducible refine gC ?_);refine aC ?_)|((with_reducible refine gF ?_);refine aF ?_)|((with_reducible refine gU ?_);refine aU ?_)|((with_reducible refine gE ?_);refine aE ?_)|((with_reducible refine gQ ?_);refine aQ ?_))|(go_at_call 123;(with_reducible refine ch (hsg _) H ?_);clear H;intro w H)|(go_at_call 126;(with_reducible refine ch (hat _) H ?_);clear H;intro w H))
 (refine ret_ctt Tryz.results104 rfl (by first|rfl|(simp only[pl];rfl)) (by first|rfl|(simp only[pl];rfl)) H atd_ (by first|(with_reducible exact row_Word)|(with_reducible exact row_Set)) (by rfl) rfl ?_)
 exact⟨RepR.ok (w:={kind:=k,place:=i}) E.out,H.below⟩
theorem word_rep (L:Str) (i:Nat) (hL:L.length≤2000) (hi:i<L.length) (w0:World) (n92:((byt L i:Int) == 92)=false) (n91:((byt L i:Int) == 91)=false) (n123:((byt L i:Int) == 123)=false) (hat:∀ w,Calls Tryz.prog 126 #[.string ⟨L.toArray⟩,.int .i64 i,.string ⟨#[40,63]⟩] w fun e w'=>e=.returned (.bool false)∧Below w.heap.size w w') {lo hi3:Int} (hlo:0≤lo∧lo≤200) (hhi : -1≤hi3∧hi3≤200) (hsg:∀ w,Calls Tryz.prog 123 #[.int .u8 (byt L i),.int .i64 i] w fun e w'=>e=.returned (wordV {kind:=11,place:=i,lo:=lo,hi:=hi3})∧Below w.heap.size w w') (E:wordP L i=repeatP L i lo hi3 (i+1)) :
  Calls Tryz.prog 104 #[.string ⟨L.toArray⟩,.int .i64 i] w0 fun e w'=>RepR (wordP L i) e∧Below w0.heap.size w0 w':=by
 have H:=Hold.start w0;have hr:=fun w=>ref_repeat L i (i+1) lo hi3 hL hlo hhi (by omega) w
 simp only[Int.natCast_add,Int.cast_ofNat_Int]at hr
 cases hp:repeatP L i lo hi3 (i+1) with
 | error x =>
  rw[hp]at hr E;simp only[RepR]at hr;have E:=Lib.hid E;clear hp
  go_enter Tryz.func104,Tryz.ntmps104
  go_wp2_with (first|((with_reducible show @wpList _ _ _ ({dst:=_,op:=Op.build _ #[(0,Operand.const (Value.int IntKind.i64 1)),(1,_),(2,_)],type:=_,pos:=_,after:=_,guard:=_}::_) _ _);refine own_wset wtd_ rfl rfl (by (try simp only[pe]);with_reducible rfl) ?_)|(first|((with_reducible refine gT ?_);(first|((first|refine aS H ?_|refine aW H ?_|refine aO H ?_|refine aT H ?_);clear H;intro w H;try simp only[nr]at H)|(refine aN H ?_;clear H;intro w H;(try simp only[nr]at H);try simp only[setSeg,nrl]at H)))|((with_reducible refine gL ?_);(first|refine aV H ?_|refine aL H ?_|refine aG H ?_|refine aD H ?_))|((with_reducible refine gX ?_);((first|refine bS H ?_|refine bB H ?_);clear H;intro b w H;try simp only[nr]at H))|((with_reducible refine gA ?_);(refine bA H ?_;clear H;intro b w H;try simp only[nr]at H))|((with_reducible refine gZ ?_);refine aZ ?_)|((with_reducible refine gI ?_);refine aI ?_)|((with_reducible refine gC ?_);refine aC ?_)|((with_reducible refine gF ?_);refine aF ?_)|((with_reducible refine gU ?_);refine aU ?_)|((with_reducible refine gE ?_);refine aE ?_)|((with_reducible refine gQ ?_);refine aQ ?_))|(go_at_call 123;(with_reducible refine ch (hsg _) H ?_);clear H;intro w H)|(go_at_call 126;(with_reducible refine ch (hat _) H ?_);clear H;intro w H)|(go_at_call 129;(with_reducible refine(hr _).mono ?_);rintro e w ⟨⟨wd,kk,rfl⟩,hb⟩;replace H:=H.call hb;clear hb))
  (refine ret_ctt Tryz.results104 rfl (by first|rfl|(simp only[pl];rfl)) (by first|rfl|(simp only[pl];rfl)) H atd_ (by first|(with_reducible exact row_Word)|(with_reducible exact row_Set)) (by rfl) rfl ?_)
  exact⟨RepR.no (w:=wd) E.out,H.below⟩
 | ok p =>
  obtain⟨d,k⟩:=p;rw[hp]at hr E;simp only[RepR]at hr;have E:=Lib.hid E;clear hp
  go_enter Tryz.func104,Tryz.ntmps104
  go_wp2_with (first|((with_reducible show @wpList _ _ _ ({dst:=_,op:=Op.build _ #[(0,Operand.const (Value.int IntKind.i64 1)),(1,_),(2,_)],type:=_,pos:=_,after:=_,guard:=_}::_) _ _);refine own_wset wtd_ rfl rfl (by (try simp only[pe]);with_reducible rfl) ?_)|(first|((with_reducible refine gT ?_);(first|((first|refine aS H ?_|refine aW H ?_|refine aO H ?_|refine aT H ?_);clear H;intro w H;try simp only[nr]at H)|(refine aN H ?_;clear H;intro w H;(try simp only[nr]at H);try simp only[setSeg,nrl]at H)))|((with_reducible refine gL ?_);(first|refine aV H ?_|refine aL H ?_|refine aG H ?_|refine aD H ?_))|((with_reducible refine gX ?_);((first|refine bS H ?_|refine bB H ?_);clear H;intro b w H;try simp only[nr]at H))|((with_reducible refine gA ?_);(refine bA H ?_;clear H;intro b w H;try simp only[nr]at H))|((with_reducible refine gZ ?_);refine aZ ?_)|((with_reducible refine gI ?_);refine aI ?_)|((with_reducible refine gC ?_);refine aC ?_)|((with_reducible refine gF ?_);refine aF ?_)|((with_reducible refine gU ?_);refine aU ?_)|((with_reducible refine gE ?_);refine aE ?_)|((with_reducible refine gQ ?_);refine aQ ?_))|(go_at_call 123;(with_reducible refine ch (hsg _) H ?_);clear H;intro w H)|(go_at_call 126;(with_reducible refine ch (hat _) H ?_);clear H;intro w H)|(go_at_call 129;(with_reducible refine ch (hr _) H ?_);clear H;intro w H))
  (refine ret_ctt Tryz.results104 rfl (by first|rfl|(simp only[pl];rfl)) (by first|rfl|(simp only[pl];rfl)) H atd_ (by first|(with_reducible exact row_Word)|(with_reducible exact row_Set)) (by rfl) rfl ?_)
  exact⟨RepR.ok (w:=d) E.out,H.below⟩
theorem word_byte (L:Str) (i:Nat) (hL:L.length≤2000) (hi:i<L.length) (w0:World) (n92:((byt L i:Int) == 92)=false) (n91:((byt L i:Int) == 91)=false) (n123:((byt L i:Int) == 123)=false) (hat:∀ w,Calls Tryz.prog 126 #[.string ⟨L.toArray⟩,.int .i64 i,.string ⟨#[40,63]⟩] w fun e w'=>e=.returned (.bool false)∧Below w.heap.size w w') (hsg:∀ w,Calls Tryz.prog 123 #[.int .u8 (byt L i),.int .i64 i] w fun e w'=>e=.returned (wordV {kind:=0,place:=i})∧Below w.heap.size w w') (E:Hid (wordP L i=.ok ({kind:=1,place:=i,set:=ofS [(byt L i:Int)]},i+1))) :
  Calls Tryz.prog 104 #[.string ⟨L.toArray⟩,.int .i64 i] w0 fun e w'=>RepR (wordP L i) e∧Below w0.heap.size w0 w':=by
 have H:=Hold.start w0;have hon:=fun w=>ref_one (byt L i) (byt_lt L i) w
 go_enter Tryz.func104,Tryz.ntmps104
 go_wp2_with (first|((with_reducible show @wpList _ _ _ ({dst:=_,op:=Op.build _ #[(0,Operand.const (Value.int IntKind.i64 1)),(1,_),(2,_)],type:=_,pos:=_,after:=_,guard:=_}::_) _ _);refine own_wset wtd_ rfl rfl (by (try simp only[pe]);with_reducible rfl) ?_)|(first|((with_reducible refine gT ?_);(first|((first|refine aS H ?_|refine aW H ?_|refine aO H ?_|refine aT H ?_);clear H;intro w H;try simp only[nr]at H)|(refine aN H ?_;clear H;intro w H;(try simp only[nr]at H);try simp only[setSeg,nrl]at H)))|((with_reducible refine gL ?_);(first|refine aV H ?_|refine aL H ?_|refine aG H ?_|refine aD H ?_))|((with_reducible refine gX ?_);((first|refine bS H ?_|refine bB H ?_);clear H;intro b w H;try simp only[nr]at H))|((with_reducible refine gA ?_);(refine bA H ?_;clear H;intro b w H;try simp only[nr]at H))|((with_reducible refine gZ ?_);refine aZ ?_)|((with_reducible refine gI ?_);refine aI ?_)|((with_reducible refine gC ?_);refine aC ?_)|((with_reducible refine gF ?_);refine aF ?_)|((with_reducible refine gU ?_);refine aU ?_)|((with_reducible refine gE ?_);refine aE ?_)|((with_reducible refine gQ ?_);refine aQ ?_))|(go_at_call 123;(with_reducible refine ch (hsg _) H ?_);clear H;intro w H)|(go_at_call 126;(with_reducible refine ch (hat _) H ?_);clear H;intro w H)|(go_at_call 130;(with_reducible refine ch (hon _) H ?_);clear H;intro w H))
 (refine ret_ctt Tryz.results104 rfl (by first|rfl|(simp only[pl];rfl)) (by first|rfl|(simp only[pl];rfl)) H atd_ (by first|(with_reducible exact row_Word)|(with_reducible exact row_Set)) (by rfl) rfl ?_)
 exact⟨RepR.ok (w:={kind:=1,place:=i,set:=ofS [(byt L i:Int)]}) E.out,H.below⟩
def WordOk (L:Str):Prop:=∀ i,i<L.length→∀ w0,Calls Tryz.prog 104 #[.string ⟨L.toArray⟩,.int .i64 i] w0 fun e w'=>RepR (wordP L i) e∧Below w0.heap.size w0 w'
theorem word_plain {L:Str} (hL:L.length≤2000) {i:Nat} (hi:i<L.length) (h92:byt L i≠92) (h91:byt L i≠91) (h123:byt L i≠123) (hq:atP L i [40,63]=false) (w0:World) :
  Calls Tryz.prog 104 #[.string ⟨L.toArray⟩,.int .i64 i] w0 fun e w'=>RepR (wordP L i) e∧Below w0.heap.size w0 w':=by
 have hat:=fun w=>ref_at L [40,63] i hL (by simp) (by simp) (by omega) w
 rw[hq]at hat;have n:∀ c:Nat,byt L i≠c→((byt L i:Int) == (c:Int))=false:=fun c h=>by rw[beq_eq_false_iff_ne];omega
 have sg:=fun w=>ref_sign (byt L i) i (byt_lt L i) w
 have S:=@word_sign L i hL hi w0 (n 92 h92) (n 91 h91) (n 123 h123) hat;have R:=@word_rep L i hL hi w0 (n 92 h92) (n 91 h91) (n 123 h123) hat
 by_cases hc:byt L i=40
 ·exact S (k:=6) (fun w=>by have:=sg w;rw[hc]at this ⊢;exact this) rfl rfl (Lib.hid (by rw[w_40 hc,← at2' hi hc,hq];rfl))
 by_cases hd:byt L i=42
 ·exact R (lo:=0) (hi3 := -1) (by omega) (by omega) (fun w=>by have:=sg w;rw[hd]at this ⊢;exact this) (w_42 hd)
 by_cases he:byt L i=43
 ·exact R (lo:=1) (hi3 := -1) (by omega) (by omega) (fun w=>by have:=sg w;rw[he]at this ⊢;exact this) (w_43 he)
 by_cases hf:byt L i=63
 ·exact R (lo:=0) (hi3:=1) (by omega) (by omega) (fun w=>by have:=sg w;rw[hf]at this ⊢;exact this) (w_63 hf)
 by_cases hg:byt L i=46
 ·exact S (k:=2) (fun w=>by have:=sg w;rw[hg]at this ⊢;exact this) rfl rfl (Lib.hid (w_46 hg))
 by_cases hh:byt L i=94
 ·exact S (k:=3) (fun w=>by have:=sg w;rw[hh]at this ⊢;exact this) rfl rfl (Lib.hid (w_94 hh))
 by_cases hj:byt L i=36
 ·exact S (k:=4) (fun w=>by have:=sg w;rw[hj]at this ⊢;exact this) rfl rfl (Lib.hid (w_36 hj))
 by_cases hk:byt L i=41
 ·exact S (k:=9) (fun w=>by have:=sg w;rw[hk]at this ⊢;exact this) rfl rfl (Lib.hid (w_41 hk))
 by_cases hl:byt L i=124
 ·exact S (k:=10) (fun w=>by have:=sg w;rw[hl]at this ⊢;exact this) rfl rfl (Lib.hid (w_124 hl))
 exact word_byte L i hL hi w0 (n 92 h92) (n 91 h91) (n 123 h123) hat (fun w=>by have:=sg w;rw[sign_no hc hd he hf hg hh hj hk hl]at this;exact this) (Lib.hid (w_no h92 h91 hc h123 hd he hf hg hh hj hk hl))
def WordsR (T:TypeId) (base:Nat) (r:Except (Nat × Nat) (List WordD)) (e:Ending) (w':World):Prop:=match r with
 | .ok ws=>∃ v,e=.returned (.tuple #[v,.int .i64 0,.int .i64 0])∧w'.ownsRow base T 17 v ws.length (flatW ws)
 | .error (p,x)=>e=.returned (.tuple #[.slice none 0 0,.int .i64 p,.int .i64 x])
theorem WordsR.ok {T:TypeId} {base:Nat} {r:Except (Nat × Nat) (List WordD)} {v:Value} {w':World} {ws:List WordD} (h:r=.ok ws) (ho:w'.ownsRow base T 17 v ws.length (flatW ws)):WordsR T base r (.returned (.tuple #[v,.int .i64 0,.int .i64 0])) w':=by subst h;exact⟨v,rfl,ho⟩
theorem WordsR.no {T:TypeId} {base:Nat} {r:Except (Nat × Nat) (List WordD)} {w':World} {p x:Nat} (h:r=.error (p,x)):WordsR T base r (.returned (.tuple #[.slice none 0 0,.int .i64 p,.int .i64 x])) w':=by subst h;rfl
theorem info_Word:(Tryz.prog.info? 226).map (fun i=>(i.zero,i.size,i.bytes))=some (some (.agg (wordC {kind:=0,place:=0})),17,88):=by kernel_rfl
def wordsF (L:Str):Except (Nat × Nat) (List WordD):=if 1000<L.length then .error (0,3) else wordsP L
theorem run_word1 (d:WordD) (W:World):(Instr.buildSlice 132 1 #[(0,wordV d)]).run Tryz.prog W=.ok (.slice (some ⟨W.heap.size,0,none⟩) 1 1) (W.alloc (.cells (wordC d) 226)):=by kernel_rfl
theorem ref_WordsO (L:Str) (hW:L.length≤1000→WordOk L) (w0:World):Calls Tryz.prog 62 #[.string ⟨L.toArray⟩] w0 fun e w'=>WordsR 226 w0.heap.size (wordsF L) e w'∧Below w0.heap.size w0 w':=by
 obtain⟨i0,hi0,hz0,hz1,hz2⟩:=info_parts info_Word;have H:=Hold.start w0
 by_cases hlen:1000<L.length
 ·clear hW;have d0:decide ((1000:Int)<(L.length:Int))=true:=by simp;omega
  have E:=Lib.hid (show wordsF L=.error (0,3) by unfold wordsF;rw[if_pos hlen])
  go_enter Tryz.func62,Tryz.ntmps62
  go_wp2_with (first|fail)
  go_ret3;exact⟨WordsR.no E.out,H.below⟩
 ·have hW2:=hW (by omega)
  clear hW;have d0:decide ((1000:Int)<(L.length:Int))=false:=by simp;omega
  have E:=Lib.hid (show wordsF L=wordsP L by unfold wordsF;rw[if_neg hlen])
  go_enter Tryz.func62,Tryz.ntmps62
  go_wp2_with (first|fail)
  replace H:=H.addNil 226 17;simp only[List.nil_append]at H
  go_loopw [5,6] (fun v k wr=>∃ (j f:Nat) (ws:List WordD),k=.int .i64 j∧j≤L.length∧ws.length≤j∧Hid (wordsP L=wcat ws (wordsGo L f j)∧L.length≤f+j)∧Hold w0 wr [.row v 226 17 ws.length (flatW ws)]) (fun _ k _=>L.length+2 - (intOf k).toNat)
  case atStart=>exact⟨0,L.length,[],rfl,by omega,by simp,Lib.hid ⟨(wcat_nil _).symm,by omega⟩,H⟩
  case round =>
   clear H;obtain⟨j,f,ws,rfl,hj,hwl,G,H⟩:=hrel
   by_cases hlt:j<L.length
   ·have dj:decide ((j:Int)<(L.length:Int))=true:=by simp;omega
    obtain⟨f,rfl⟩:∃ f',f=f'+1:=⟨f - 1,by have:=G.out.2;omega⟩
    have hr:=fun w=>hW2 j hlt w
    cases hw:wordP L j with
    | error x =>
     rw[hw]at hr;simp only[RepR]at hr;have E2:=Lib.hid (show wordsF L=.error (j,x) by rw[E.out,G.out.1,words_err hlt hw])
     have hx:((x:Int) != 0)=true:=by rw[bne_iff_ne];have:=wordP_err hw;omega
     clear hw
     go_wp2_with (first|(first|((with_reducible refine gT ?_);(refine aT H ?_;clear H;intro w H;try simp only[nr]at H))|((with_reducible refine gA ?_);(refine bA H ?_;clear H;intro b w H;try simp only[nr]at H)))|(go_at_call 104;(with_reducible refine(hr _).mono ?_);rintro e w ⟨⟨wd,kk,rfl⟩,hb⟩;replace H:=H.call hb;clear hb))
     go_ret3;exact⟨WordsR.no E2.out,H.below⟩
    | ok p =>
     obtain⟨d,k⟩:=p;have hk:=wordP_le hlt hw;rw[hw]at hr;simp only[RepR]at hr;have G2:=Lib.hid (show wordsP L=wcat (ws++[d]) (wordsGo L f k) by rw[G.out.1,words_ok hlt hw])
     clear hw
     go_wp2_with (first|((with_reducible show @wpList _ _ _ ({dst:=_,op:=Op.buildSlice _ _ _,type:=_,pos:=_,after:=_,guard:=_}::_) _ _);refine own_build wtd_ _ _ _ rfl H (wordC d) 226 (by intro W;simp only[List.map_toArray,List.map_cons,List.map_nil];(try simp only[put_lit,put_no,List.setIfInBounds_toArray,List.set_cons_succ,List.set_cons_zero,ev_tmp,ev_const,List.getD_cons_succ,List.getD_cons_zero]);exact run_word1 d W) ?_;clear H;intro b w H;try simp only[nr]at H)|(at_builtin;refine own_append rfl _ _ 132 rfl H evd_ rfl atd_ atd_ Tryz.underlying132 hi0 hz0 hz1 hz2 rfl (by decide) rfl rfl (by unfold maxLen;omega) (by omega) ?_;clear H;intro v2 w H;try simp only[nr]at H)|(first|((with_reducible refine gT ?_);(refine aT H ?_;clear H;intro w H;try simp only[nr]at H))|((with_reducible refine gL ?_);refine aD H ?_)|((with_reducible refine gA ?_);(refine bA H ?_;clear H;intro b w H;try simp only[nr]at H)))|(go_at_call 104;(with_reducible refine ch (hr _) H ?_);clear H;intro w H))
     go_roundw
     case rel=>exact⟨k,f,ws++[d],rfl,hk.2,by simp;omega,Lib.hid ⟨G2.out,by have:=G.out.2;omega⟩,by rw[flatW_snoc,List.length_append];exact H.take 1⟩
     case measure=>simp[intOf];omega
   ·have dj:decide ((j:Int)<(L.length:Int))=false:=by simp;omega
    have E2:=Lib.hid (show wordsF L=.ok ws by rw[E.out,G.out.1,words_end hlt])
    go_wp2_with (first|fail)
    go_ret3;exact⟨WordsR.ok E2.out (H.all 0 _ rfl),H.below⟩
def parseP (L:Str) (f:FlagsD):Except (Nat × Nat) (Tree × Nat) :=
 match wordsF L with
 | .error x=>.error x
 | .ok ws =>
  match wrongP ws with
  | some a=>.error (a,4)
  | none =>
   match altsP (ws.length+1) f ws 0 [] [] with
   | none=>.error (0,0)
   | some (t,_,g)=>if 20<g∨2000<sizeT t then .error (0,7) else if 50<deepT t then .error (0,5) else .ok (t,g)
def ParseOut (w:World) (r:Except (Nat × Nat) (Tree × Nat)) (e:Ending) (w':World):Prop:=match r with
 | .error (a,x)=>e=.returned (.tuple #[nodeV {kind:=0} nilS,.int .i64 0,.int .i64 a,.int .i64 x])
 | .ok (t,g)=>∃ p c F,e=.returned (.tuple #[nodeV t.d (.slice p t.kids.length c),.int .i64 g,.int .i64 0,.int .i64 0])∧ForestR w' F p c t.kids∧∀ b,F b→b<w'.heap.size∧w.heap.size≤b
theorem ParseOut.no {w w':World} {r:Except (Nat × Nat) (Tree × Nat)} {a x:Nat} (h:r=.error (a,x)):ParseOut w r (.returned (.tuple #[nodeV {kind:=0} nilS,.int .i64 0,.int .i64 a,.int .i64 x])) w':=by subst h;rfl
theorem ref_alts (pb:Nat) (FW:Nat→Prop) (p:Option Addr) (n c:Nat) (ws:List WordD):∀ (m:Nat) (j0 g0:Nat) (f0:FlagsD) (t:Tree) (r':List WordD) (g':Nat) (w0:World),AltPre pb 138 FW p n c ws j0 g0 w0→altsP m f0 (ws.drop j0) g0 [] []=some (t,r',g') →
  Calls Tryz.prog 64 #[.pointer (some ⟨pb,0,none⟩),flagsV f0] w0 (AltOut pb 138 p n c t (n - r'.length) g' w0):=by
 intro m
 induction m using Nat.strongRecOn with
 | _ m ih=>exact fun j0 g0 f0 t r' g' w0 hP h=>ref_alts_of m pb FW p n c ws j0 g0 f0 t r' g' w0 hP h (fun k hk j1 g1 f1 t1 r1 g2 w h1 h2=>ih k hk j1 g1 f1 t1 r1 g2 w h1 h2)
theorem flatW_R:∀ ws:List WordD,flatW ws=flatR (ws.map wordC)
 | []=>rfl
 | w::r=>by
  have:=flatW_R r;simp only[flatW,flatR,List.flatMap_cons,List.map_cons,List.flatten_cons]at *;rw[this]
theorem words_rows (ws:List WordD):∀ r ∈ ws.map wordC,r.size=17:=by
 intro r hr;obtain⟨x,_,rfl⟩:=List.mem_map.1 hr;rfl
theorem run_parser (p:Option Addr) (n c:Nat) (W:World):(Instr.build 138 #[(0,.slice p n c)]).run Tryz.prog W=.ok (.agg (pC p n c 0 0)) W:=by simp[go_sem]
theorem own_parser {ops:Array Oper} {rest:List Oper} {o:Oper} {a:Act} {w:World} {Q:Exit→Act→World→Prop} (hg:Region.wanted o (yielded ops a.tmps)=true) {x:Operand} (ho:o.op=.build 138 #[(0,x)]) {p:Option Addr} {n c:Nat} (hx:a.eval x=.slice p n c)
  (h:wpList Tryz.prog ops Q rest (a.put o.dst (.agg (pC p n c 0 0))) w):wpList Tryz.prog ops Q (o::rest) a w :=
 own_pure hg (by simp only[execOp,ho,List.map_toArray,List.map_cons,List.map_nil,hx,Sem.run_bind,run_parser];rfl) h
theorem ret_cttt {P:Program} {fn:Func} {R:Ending→World→Prop} {a:Act} {w w0:World} {l:List Res} {M:Nat→Prop} {p q r s:Tmp} {T:TypeId} (hres:fn.results=#[.cell p T,.tmp q,.tmp r,.tmp s]) {v u x:Value} (hq:a.tmps.getD q undef=v) (hr:a.tmps.getD r undef=u) (hs:a.tmps.getD s undef=x) {b:Nat} (hp:a.tmps.getD p undef=.pointer (some ⟨b,0,none⟩)) (H:HoldG M w0 w l) {i:Nat} {cs:Array Value} {U:TypeId} (hi:At l i (.blk b cs U))
  {n:Nat} (hT:rowB P T n=true) (hn:cs.size=n) (hd:a.defers=[]) (h:R (.returned (.tuple #[.agg cs,v,u,x])) w):bodyPost P fn R .ret a w:=by
 refine bodyPost_ret (v:=.tuple #[.agg cs,v,u,x]) ?_ hd h;have:=H.run_row (T:=T) (P:=P) hi hT hn (k:=0) (fun j _=>by rw[Nat.zero_add])
 have hp':a.tmps[p]?.getD undef=.pointer (some ⟨b,0,none⟩):=by simpa using hp
 have hq':a.tmps[q]?.getD undef=v:=by simpa using hq
 have hr':a.tmps[r]?.getD undef=u:=by simpa using hr
 have hs':a.tmps[s]?.getD undef=x:=by simpa using hs
 simp[results,hres,hp',hq',hr',hs',asAddr,this]
theorem HoldG.gainWords {M:Nat→Prop} {w0 w w':World} {l:List Res} (H:HoldG M w0 w l) (hb:Below w.heap.size w w') {T:TypeId} {v:Value} {ws:List WordD} (ho:w'.ownsRow w.heap.size T 17 v ws.length (flatW ws)) :
  ∃ (q:Option Addr) (cap:Nat) (F:Nat→Prop),v=.slice q ws.length cap∧HoldG M w0 w' (l++[.kn F (WKnows F q ws.length cap ws)]):=by
 obtain⟨q,cap,rfl,_⟩:=ownsRow_shape ho;rw[flatW_R]at ho;refine⟨q,cap,fun b=>(Value.slice q ws.length cap).ownBlock=some b,rfl,H.learn hb Still.none (fun b hb'=>?_) (fun V hV=>RdN.of_own ho (words_rows ws) (by rw[List.length_map]) hV)⟩
 obtain⟨_,⟨hv,_⟩|⟨g,cap',cur,hv,hg,hh,_⟩⟩:=ho
 ·rw[hv]at hb';cases hb'
 ·cases hv;cases hb';exact⟨(Array.getElem?_eq_some_iff.1 hh).1,.inl hg⟩
theorem wordsGo_err {L:Str}:∀ (f i:Nat) (p x:Nat),L.length≤f+i→wordsGo L f i=.error (p,x)→x≠0
 | 0,i,p,x,hf,h=>by
  unfold wordsGo at h;rw[if_neg (by omega)]at h;cases h
 | f+1,i,p,x,hf,h=>by
  unfold wordsGo at h;split at h
  ·rename_i hlt;split at h
   ·rename_i e he
    cases h
    exact fun e=>by have:=wordP_err he;omega
   ·rename_i w j hw;have hj:=wordP_le hlt hw;split at h
    ·rename_i y hy
     cases h
     exact wordsGo_err f j p x (by omega) hy
    ·cases h
  ·cases h
theorem wordsF_err {L:Str} {p x:Nat} (h:wordsF L=.error (p,x)):x≠0:=by
 unfold wordsF at h;split at h
 ·cases h;decide
 ·exact wordsGo_err _ _ _ _ (by omega) h
theorem ref_ParseO (L:Str) (hW:L.length≤1000→WordOk L) (f:FlagsD) (w0:World):Calls Tryz.prog 28 #[.string ⟨L.toArray⟩,flagsV f] w0 fun e w'=>ParseOut w0 (parseP L f) e w'∧Below w0.heap.size w0 w':=by
 have H:=Hold.start w0;have hwd:=fun w=>ref_WordsO L hW w
 clear hW;have E:parseP L f=parseP L f:=rfl
 conv at E=>rhs;unfold parseP
 cases hw:wordsF L with
 | error x =>
  obtain⟨a,x⟩:=x;rw[hw]at hwd E;simp only[]at E;simp only[WordsR]at hwd;have hx:((x:Int) != 0)=true:=by rw[bne_iff_ne];have:=wordsF_err hw;omega
  have E2:=Lib.hid E;clear E hw
  go_enter Tryz.func28,Tryz.ntmps28
  go_wp2_with (first|(first|((with_reducible refine gT ?_);(refine aT H ?_;clear H;intro w H;try simp only[nr]at H))|((with_reducible refine gX ?_);(refine bB H ?_;clear H;intro b w H;try simp only[nr]at H))|((with_reducible refine gA ?_);(refine bA H ?_;clear H;intro b w H;try simp only[nr]at H))|((with_reducible refine gZ ?_);refine nb0 ?_))|(go_at_call 62;(with_reducible refine ch (hwd _) H ?_);clear H;intro w H))
  refine ret_cttt Tryz.results28 rfl rfl rfl rfl H atd_ row_Node (by rfl) rfl ?_
  exact⟨ParseOut.no E2.out,H.below⟩
 | ok ws =>
  rw[hw]at hwd E;simp only[]at E;simp only[WordsR]at hwd;have hLn:ws.length≤1000:=by
   unfold wordsF at hw;split at hw
   ·cases hw
   ·have:=wordsGo_length _ _ _ hw;omega
  have hok:∀ d ∈ ws,SetOk d.set:=by
   unfold wordsF at hw;split at hw
   ·cases hw
   ·exact wordsGo_set _ _ _ hw
  have HOK:=Lib.hid hok;clear hok hw;have hwr:∀ (w:World) (l:List Res) (q:Option Addr) (c:Nat) (FW:Nat→Prop),True→True:=fun _ _ _ _ _ h=>h
  clear hwr
  cases hwp:wrongP ws with
  | some a =>
   rw[hwp]at E;simp only[]at E;have hwr:∀ (w:World) (l:List Res) (q:Option Addr) (FW:Nat→Prop) {c:Nat},HoldG (fun _=>False) w0 w l→At l 2 (.kn FW (WKnows FW q ws.length c ws))→Calls Tryz.prog 63 #[.slice q ws.length c] w fun e w'=>e=.returned (.int .i64 (a:Int))∧Below w.heap.size w w':=fun w l q FW c h hi=>by
    have:=ref_wrong q ws.length c FW ws w (h.knlt hi) (h.kn hi) hLn;rw[hwp]at this;exact this
   have E2:=Lib.hid E;clear E hwp;have da:decide (0≤(a:Int))=true:=by simp
   go_enter Tryz.func28,Tryz.ntmps28
   go_wp2_with (first|(first|((with_reducible refine gT ?_);(refine aT H ?_;clear H;intro w H;try simp only[nr]at H))|((with_reducible refine gX ?_);(refine bB H ?_;clear H;intro b w H;try simp only[nr]at H))|((with_reducible refine gA ?_);(refine bA H ?_;clear H;intro b w H;try simp only[nr]at H))|((with_reducible refine gZ ?_);refine nb0 ?_))|(go_at_call 62;(with_reducible refine(hwd _).mono ?_);rintro e w ⟨⟨v,rfl,ho⟩,hb⟩;obtain⟨q,cap,FW,rfl,H2⟩:=H.gainWords hb ho;clear H ho hb;(have H:=H2);clear H2;try simp only[nr]at H)|(go_at_call 63;(with_reducible refine ch (hwr _ _ _ _ H i_2) H ?_);clear H;intro w H))
   refine ret_cttt Tryz.results28 rfl rfl rfl rfl H atd_ row_Node (by rfl) rfl ?_
   exact⟨ParseOut.no E2.out,H.below⟩
  | none =>
   rw[hwp]at E;simp only[]at E;have hwr:∀ (w:World) (l:List Res) (q:Option Addr) (FW:Nat→Prop) {c:Nat},HoldG (fun _=>False) w0 w l→At l 2 (.kn FW (WKnows FW q ws.length c ws))→Calls Tryz.prog 63 #[.slice q ws.length c] w fun e w'=>e=.returned (.int .i64 (-1))∧Below w.heap.size w w':=fun w l q FW c h hi=>by
    have:=ref_wrong q ws.length c FW ws w (h.knlt hi) (h.kn hi) hLn;rw[hwp]at this;exact this
   obtain⟨t,g,ha⟩:=alts_right f hwp;rw[ha]at E;simp only[]at E;have hsz:=altsP_size _ _ _ _ _ _ _ _ _ ha;simp only[List.length_nil,sizeTs]at hsz;have hgl:g≤ws.length:=by have:=(altsP_facts _ _ _ _ _ _ _ _ _ ha).2;simp at this;omega
   have hal:∀ (w:World) (l:List Res) (q:Option Addr) (c pb:Nat) (FW:Nat→Prop),HoldG (fun _=>False) w0 w (l)→True:=fun _ _ _ _ _ _ _=>trivial
   clear hal;have hal:∀ (w:World) (r0 r1:Res) (q:Option Addr) (FW:Nat→Prop) (l:List Res) {c pb:Nat},HoldG (fun _=>False) w0 w (r0::r1::.kn FW (WKnows FW q ws.length c ws)::.blk pb #[.slice q ws.length c,.int .i64 0,.int .i64 0] 138::l) →
     Calls Tryz.prog 64 #[.pointer (some ⟨pb,0,none⟩),flagsV f] w (AltOut pb 138 q ws.length c t ws.length g w):=fun w r0 r1 q FW l c pb h =>
    ref_alts pb FW q ws.length c ws (ws.length+1) 0 0 f t [] g w ⟨(h.blk i_3).2,h.knlt i_2,fun hf=>h.apart 3 2 _ _ (by decide) rfl rfl pb rfl hf,h.kn i_2,HOK.out,hLn,by omega,by omega⟩ ha
   have hno:∀ (w:World) (l:List Res) (q:Option Addr) (c:Nat) (F:Nat→Prop),HoldG (fun _=>False) w0 w l→At l 4 (.kn F (fun V=>ForestR V F q c t.kids))→Calls Tryz.prog 65 #[nodeV t.d (.slice q t.kids.length c)] w fun e w'=>e=.returned (.int .i64 (sizeT t))∧Below w.heap.size w w':=fun w l q c F h hi=>ref_Nodes 4000 t q _ c F w (by omega) (by omega) (h.knlt hi) (h.kn hi) rfl
   have hde:∀ (w:World) (l:List Res) (q:Option Addr) (c:Nat) (F:Nat→Prop),HoldG (fun _=>False) w0 w l→At l 4 (.kn F (fun V=>ForestR V F q c t.kids))→Calls Tryz.prog 66 #[nodeV t.d (.slice q t.kids.length c)] w fun e w'=>e=.returned (.int .i64 (deepT t))∧Below w.heap.size w w':=fun w l q c F h hi=>ref_Deep 4000 t q _ c F w (by omega) (by omega) (h.knlt hi) (h.kn hi) rfl
   clear ha hwp
   by_cases hg:20<g
   ·have dg:decide (20<(g:Int))=true:=by simp;omega
    rw[if_pos (.inl hg)]at E;have E2:=Lib.hid E;clear E
    go_enter Tryz.func28,Tryz.ntmps28
    go_wp2_with (first|(first|((with_reducible refine gT ?_);(refine aT H ?_;clear H;intro w H;try simp only[nr]at H))|((with_reducible refine gL ?_);(first|refine aG H ?_|refine aD H ?_))|((with_reducible refine gX ?_);(refine bB H ?_;clear H;intro b w H;try simp only[nr]at H))|((with_reducible refine gA ?_);(refine bA H ?_;clear H;intro b w H;try simp only[nr]at H))|((with_reducible refine gZ ?_);refine nb0 ?_))|(go_at_call 62;(with_reducible refine(hwd _).mono ?_);rintro e w ⟨⟨v,rfl,ho⟩,hb⟩;obtain⟨q,cap,FW,rfl,H2⟩:=H.gainWords hb ho;clear H ho hb;(have H:=H2);clear H2;try simp only[nr]at H)|(go_at_call 63;(with_reducible refine ch (hwr _ _ _ _ H i_2) H ?_);clear H;intro w H)|((with_reducible show @wpList _ _ _ ({dst:=_,op:=Op.build 138 _,type:=_,pos:=_,after:=_,guard:=_}::_) _ _);refine own_parser wtd_ rfl evd_ ?_)|(go_at_call 64;(with_reducible refine chA (hal _ _ _ _ _ _ H) H i_3 ?_);clear H;intro q1 m1 F1 w hF1 H;try simp only[nr]at H)|(go_at_call 65;(with_reducible refine ch (hno _ _ _ _ _ H i_4) H ?_);clear H;intro w H)|(go_at_call 66;(with_reducible refine ch (hde _ _ _ _ _ H i_4) H ?_);clear H;intro w H))
    refine ret_cttt Tryz.results28 rfl rfl rfl rfl H atd_ row_Node (by rfl) rfl ?_
    exact⟨ParseOut.no E2.out,H.below⟩
   ·have dg:decide (20<(g:Int))=false:=by simp;omega
    by_cases hs:2000<sizeT t
    ·have ds:decide (2000<(sizeT t:Int))=true:=by simp;omega
     rw[if_pos (.inr hs)]at E;have E2:=Lib.hid E;clear E
     go_enter Tryz.func28,Tryz.ntmps28
     go_wp2_with (first|(first|((with_reducible refine gT ?_);(refine aT H ?_;clear H;intro w H;try simp only[nr]at H))|((with_reducible refine gL ?_);(first|refine aG H ?_|refine aD H ?_))|((with_reducible refine gX ?_);(refine bB H ?_;clear H;intro b w H;try simp only[nr]at H))|((with_reducible refine gA ?_);(refine bA H ?_;clear H;intro b w H;try simp only[nr]at H))|((with_reducible refine gZ ?_);refine nb0 ?_))|(go_at_call 62;(with_reducible refine(hwd _).mono ?_);rintro e w ⟨⟨v,rfl,ho⟩,hb⟩;obtain⟨q,cap,FW,rfl,H2⟩:=H.gainWords hb ho;clear H ho hb;(have H:=H2);clear H2;try simp only[nr]at H)|(go_at_call 63;(with_reducible refine ch (hwr _ _ _ _ H i_2) H ?_);clear H;intro w H)|((with_reducible show @wpList _ _ _ ({dst:=_,op:=Op.build 138 _,type:=_,pos:=_,after:=_,guard:=_}::_) _ _);refine own_parser wtd_ rfl evd_ ?_)|(go_at_call 64;(with_reducible refine chA (hal _ _ _ _ _ _ H) H i_3 ?_);clear H;intro q1 m1 F1 w hF1 H;try simp only[nr]at H)|(go_at_call 65;(with_reducible refine ch (hno _ _ _ _ _ H i_4) H ?_);clear H;intro w H)|(go_at_call 66;(with_reducible refine ch (hde _ _ _ _ _ H i_4) H ?_);clear H;intro w H))
     refine ret_cttt Tryz.results28 rfl rfl rfl rfl H atd_ row_Node (by rfl) rfl ?_
     exact⟨ParseOut.no E2.out,H.below⟩
    ·have ds:decide (2000<(sizeT t:Int))=false:=by simp;omega
     rw[if_neg (by omega)]at E
     by_cases hd:50<deepT t
     ·have dd:decide (50<(deepT t:Int))=true:=by simp;omega
      rw[if_pos hd]at E;have E2:=Lib.hid E;clear E
      go_enter Tryz.func28,Tryz.ntmps28
      go_wp2_with (first|(first|((with_reducible refine gT ?_);(refine aT H ?_;clear H;intro w H;try simp only[nr]at H))|((with_reducible refine gL ?_);(first|refine aG H ?_|refine aD H ?_))|((with_reducible refine gX ?_);(refine bB H ?_;clear H;intro b w H;try simp only[nr]at H))|((with_reducible refine gA ?_);(refine bA H ?_;clear H;intro b w H;try simp only[nr]at H))|((with_reducible refine gZ ?_);refine nb0 ?_))|(go_at_call 62;(with_reducible refine(hwd _).mono ?_);rintro e w ⟨⟨v,rfl,ho⟩,hb⟩;obtain⟨q,cap,FW,rfl,H2⟩:=H.gainWords hb ho;clear H ho hb;(have H:=H2);clear H2;try simp only[nr]at H)|(go_at_call 63;(with_reducible refine ch (hwr _ _ _ _ H i_2) H ?_);clear H;intro w H)|((with_reducible show @wpList _ _ _ ({dst:=_,op:=Op.build 138 _,type:=_,pos:=_,after:=_,guard:=_}::_) _ _);refine own_parser wtd_ rfl evd_ ?_)|(go_at_call 64;(with_reducible refine chA (hal _ _ _ _ _ _ H) H i_3 ?_);clear H;intro q1 m1 F1 w hF1 H;try simp only[nr]at H)|(go_at_call 65;(with_reducible refine ch (hno _ _ _ _ _ H i_4) H ?_);clear H;intro w H)|(go_at_call 66;(with_reducible refine ch (hde _ _ _ _ _ H i_4) H ?_);clear H;intro w H))
      refine ret_cttt Tryz.results28 rfl rfl rfl rfl H atd_ row_Node (by rfl) rfl ?_
      exact⟨ParseOut.no E2.out,H.below⟩
     ·have dd:decide (50<(deepT t:Int))=false:=by simp;omega
      rw[if_neg hd]at E;have E2:=Lib.hid E;clear E
      go_enter Tryz.func28,Tryz.ntmps28
      go_upto_region 13 with (first|((first|((with_reducible refine kgA 4 ?_);refine kA 4 H ?_)|((with_reducible refine kgX 4 ?_);(first|refine kS 4 H ?_|refine kB 4 H ?_)));clear H;intro b4 w H;try simp only[nr]at H)|((first|((with_reducible refine kgA 12 ?_);refine kA 12 H ?_)|((with_reducible refine kgX 12 ?_);(first|refine kS 12 H ?_|refine kB 12 H ?_)));clear H;intro b12 w H;try simp only[nr]at H)|((first|((with_reducible refine kgA 32 ?_);refine kA 32 H ?_)|((with_reducible refine kgX 32 ?_);(first|refine kS 32 H ?_|refine kB 32 H ?_)));clear H;intro b32 w H;try simp only[nr]at H)|(first|((with_reducible refine gT ?_);(refine aT H ?_;clear H;intro w H;try simp only[nr]at H))|((with_reducible refine gL ?_);(first|refine aG H ?_|refine aD H ?_))|((with_reducible refine gX ?_);(refine bB H ?_;clear H;intro b w H;try simp only[nr]at H)))|(go_at_call 62;(with_reducible refine(hwd _).mono ?_);rintro e w ⟨⟨v,rfl,ho⟩,hb⟩;obtain⟨q,cap,FW,rfl,H2⟩:=H.gainWords hb ho;clear H ho hb;(have H:=H2);clear H2;try simp only[nr]at H)|(go_at_call 63;(with_reducible refine ch (hwr _ _ _ _ H i_2) H ?_);clear H;intro w H)|((with_reducible show @wpList _ _ _ ({dst:=_,op:=Op.build 138 _,type:=_,pos:=_,after:=_,guard:=_}::_) _ _);refine own_parser wtd_ rfl evd_ ?_)|(go_at_call 64;(with_reducible refine chA (hal _ _ _ _ _ _ H) H i_3 ?_);clear H;intro q1 m1 F1 w hF1 H;try simp only[nr]at H)|(go_at_call 65;(with_reducible refine ch (hno _ _ _ _ _ H i_4) H ?_);clear H;intro w H)|(go_at_call 66;(with_reducible refine ch (hde _ _ _ _ _ H i_4) H ?_);clear H;intro w H))
      have hS:∀ W,RelS b4 (nodeC t.d (.slice q1 t.kids.length m1)) 87 w W→(∀ k,k<10→W.cell? ⟨b12,0+k,none⟩=(nodeC t.d (.slice q1 t.kids.length m1))[k]?)∧W.cell? ⟨b32,2,none⟩=some (.int .i64 (g:Int))∧∃ cs,W.heap[b4]?=some (.cells cs 87 (0,0))∧cs.size=10:=fun W hr=>by
       obtain⟨ds,hds,H2⟩:=H.relS (i:=1) i_1 hr;refine⟨fun k _=>?_,H2.cell (i:=3) i_3 2,ds,(H2.blk (i:=1) i_1).2,by rcases hds with rfl|rfl<;>rfl⟩
       rw[Nat.zero_add];exact H2.cell (i:=5) i_5 k
      refine wp_region_specM (RelS b4 (nodeC t.d (.slice q1 t.kids.length m1)) 87) RelS.refl RelS.trans RelS.drew 6 [fun v _=>v=nodeV t.d (.slice q1 t.kids.length m1),fun v _=>v=.pointer (some ⟨b32,0,none⟩),fun v _=>v=.pointer (some ⟨b32,0,none⟩),fun v _=>v=.pointer (some ⟨b32,2,none⟩),fun v _=>v=.int .i64 (g:Int),LaidS b4 (nodeC t.d (.slice q1 t.kids.length m1)) 87]
       ⟨stableR_eq _,stableR_eq _,stableR_eq _,stableR_eq _,stableR_eq _,stable_laidS,trivial⟩ (by kernel_rfl) (by kernel_rfl) (by kernel_rfl) ?ob ?en
      case ob =>
       refine⟨?_,?_,?_,?_,?_,?_,trivial⟩<;>intro A W h
       ·exact rm_of rfl (rq_pure RelS.refl rfl (run_loadK rfl (h.frame 12 rfl) row_Node rfl (hS W h.rel).1))
       ·exact rm_of rfl (rq_move RelS.refl rfl rfl (h.frame 11 rfl))
       ·exact rm_of rfl (rq_pure RelS.refl rfl (by simp only[execOp,show A.eval (.tmp 54)=.pointer (some ⟨b32,0,none⟩) from h.dep 1 54 rfl rfl];simp[go_sem]))
       ·exact rm_of rfl (rq_pure RelS.refl rfl (by simp only[execOp,show A.eval (.tmp 55)=.pointer (some ⟨b32,0,none⟩) from h.dep 2 55 rfl rfl];simp[go_sem]))
       ·exact rm_of rfl (rq_pure RelS.refl rfl (run_load1K rfl (h.dep 3 56 rfl rfl) one_int (hS W h.rel).2.1))
       ·obtain⟨cs,hcs,hsz⟩:=(hS W h.rel).2.2;exact rs_laid rfl rfl rfl (h.frame 4 rfl) hcs hsz (h.dep 0 53 rfl rfl) (row_size (n:=10) row_Node) rfl
      case en =>
       intro vals W1 hrel hv hlk;have v0:vals 0=nodeV t.d (.slice q1 t.kids.length m1):=hv 0 (by omega)
       have v1:vals 1=.pointer (some ⟨b32,0,none⟩):=hv 1 (by omega)
       have v2:vals 2=.pointer (some ⟨b32,0,none⟩):=hv 2 (by omega)
       have v3:vals 3=.pointer (some ⟨b32,2,none⟩):=hv 3 (by omega)
       have v4:vals 4=.int .i64 (g:Int):=hv 4 (by omega)
       have H2:=H.laidS (i:=1) i_1 hrel (hv 5 (by omega))
       simp only[fa,Nat.reduceAdd];rw[v0,v1,v2,v3,v4];clear hv v0 v1 v2 v3 v4 hlk hrel H hS;have H:=H2;clear H2;simp only[List.set_cons_succ,List.set_cons_zero]at H;simp only[pl]
       go_wp2_with fail
       refine ret_cttt Tryz.results28 rfl rfl rfl rfl H (i:=1) i_1 row_Node (by rfl) rfl ?_
       refine⟨?_,H.below⟩;rw[E2.out];exact⟨q1,m1,F1,rfl,H.kn (i:=4) i_4,fun b h=>⟨H.knlt (i:=4) i_4 b h,hF1 b h⟩⟩
end Go.Proofs.YtdoflhjhaciepaaGreat
namespace Go.Proofs.YtdoflhjhaciepaaGreat
open Go.RowKit
def splitI (d:NodeD) (i o:Int):InstD:=if d.lazy then {kind:=2,next:=o,other:=i} else {kind:=2,next:=i,other:=o}
abbrev LayR:=Nat × List InstD
mutual
def layP:Tree→Nat→List InstD→LayR
 | .mk d ks,out,xs =>
  if d.kind=1 then (out,xs)
  else if d.kind=2 then (xs.length,xs++[{kind:=6}])
  else if d.kind=3 then (xs.length,xs++[{kind:=1,set:=d.set,next:=out}])
  else if d.kind=4 then layC ks out xs
  else if d.kind=5 then layA ks out xs
  else if d.kind=7 then
   let a:=layH ks xs.length (xs++[{kind:=3,slot:=2 * d.group+1,next:=out}])
   (a.2.length,a.2++[{kind:=3,slot:=2 * d.group,next:=a.1}])
  else if d.kind=6 then
   if d.hi=1 then
    let a:=layH ks out xs
    (a.2.length,a.2++[splitI d a.1 out])
   else
    let a:=layH ks xs.length (xs++[{kind:=2}])
    (xs.length,a.2.set xs.length (splitI d a.1 out))
  else (xs.length,xs++[{kind:=4,spot:=d.kind,next:=out}])
def layH:List Tree→Nat→List InstD→LayR
 | [],out,xs=>(out,xs)
 | k::_,out,xs=>layP k out xs
def layC:List Tree→Nat→List InstD→LayR
 | [],out,xs=>(out,xs)
 | k::r,out,xs=>layP k (layC r out xs).1 (layC r out xs).2
def layA:List Tree→Nat→List InstD→LayR
 | [],out,xs=>(out,xs)
 | [k],out,xs=>layP k out xs
 | k::k2::r,out,xs =>
  let a:=layA (k2::r) out xs
  let b:=layP k out a.2
  (b.2.length,b.2++[{kind:=2,next:=b.1,other:=a.1}])
end
mutual
theorem layP_len:∀ (t:Tree) (out:Nat) (xs:List InstD),xs.length≤(layP t out xs).2.length∧(layP t out xs).2.length≤xs.length+(3 * sizeT t - 1)
 | .mk d ks,out,xs=>by
  have hc:=layC_len ks out xs;have ha:=layA_len ks out xs;have h7:=layH_len ks xs.length (xs++[{kind:=3,slot:=2 * d.group+1,next:=out}]);have h6:=layH_len ks out xs;have h8:=layH_len ks xs.length (xs++[{kind:=2}]);simp only[List.length_append,List.length_cons,List.length_nil]at h7 h8;simp only[layP,sizeT];split
  ·simp
  split
  ·simp;omega
  split
  ·simp;omega
  split
  ·omega
  split
  ·omega
  split
  ·simp only[List.length_append,List.length_cons,List.length_nil];omega
  split
  ·split
   ·simp only[List.length_append,List.length_cons,List.length_nil];omega
   ·simp only[List.length_set];omega
  ·simp;omega
theorem layH_len:∀ (ts:List Tree) (out:Nat) (xs:List InstD),xs.length≤(layH ts out xs).2.length∧(layH ts out xs).2.length≤xs.length+(3 * sizeTs ts - 1)
 | [],_,_=>by simp[layH]
 | k::r,out,xs=>by
  have:=layP_len k out xs;have:=sizeT_pos k;simp only[layH,sizeTs];omega
theorem layC_len:∀ (ts:List Tree) (out:Nat) (xs:List InstD),xs.length≤(layC ts out xs).2.length∧(layC ts out xs).2.length≤xs.length+(3 * sizeTs ts - 1)
 | [],_,_=>by simp[layC]
 | k::r,out,xs=>by
  have h1:=layC_len r out xs;have h2:=layP_len k (layC r out xs).1 (layC r out xs).2;have h3:=sizeT_pos k;simp only[layC,sizeTs];omega
theorem layA_len:∀ (ts:List Tree) (out:Nat) (xs:List InstD),xs.length≤(layA ts out xs).2.length∧(layA ts out xs).2.length≤xs.length+(3 * sizeTs ts - 1)
 | [],_,_=>by simp[layA]
 | [k],out,xs=>by
  have:=layP_len k out xs;have:=sizeT_pos k;simp only[layA,sizeTs];omega
 | k::k2::r,out,xs=>by
  have h1:=layA_len (k2::r) out xs;have h2:=layP_len k out (layA (k2::r) out xs).2;have h3:=sizeT_pos k2;simp only[layA,List.length_append,List.length_cons,List.length_nil];have h4:=sizeT_pos k;simp only[sizeTs]at *;omega
end
theorem kinds_leaf1:kindsT (leafT 1)=true:=by decide +kernel
theorem kinds_leaf2:kindsT (leafT 2)=true:=by decide +kernel
theorem kindsTs_mem:∀ {ts:List Tree},kindsTs ts=true↔∀ t ∈ ts,kindsT t=true
 | []=>by simp[kindsTs]
 | t::r=>by simp[kindsTs,kindsTs_mem (ts:=r)]
theorem kinds_kids {t:Tree} (h:kindsT t=true):kindsTs t.kids=true:=by
 rw[kindsT_eq,Bool.and_eq_true]at h;exact h.2
theorem kinds_flat {ts:List Tree} {i o:Int} (h:kindsTs ts=true):kindsTs (flatT ts i o)=true:=by
 rw[kindsTs_mem]at h ⊢;intro t ht;obtain⟨u,hu,hx⟩:=List.mem_flatMap.1 ht;unfold flat1 at hx;split at hx
 ·exact kindsTs_mem.1 (kinds_kids (h u hu)) t hx
 split at hx
 ·cases hx
 ·rw[List.mem_singleton]at hx;subst hx;exact h _ hu
theorem kinds_row {k:Int} {ts:List Tree} {d:Tree} (hk:k=4∨k=5) (hd:kindsT d=true) (h:kindsTs ts=true):kindsT (rowN k ts d)=true:=by
 unfold rowN;split
 ·exact hd
 ·simpa [kindsTs] using h
 ·rename_i h1 h2;have hl:1<ts.length:=by
   rcases ts with _|⟨a,_|⟨b,r⟩⟩
   ·exact absurd rfl h1
   ·exact absurd rfl (h2 a)
   ·simp
  rw[kindsT,h,Bool.and_true];have he:eqS emptyS emptyS=true:=eqS_refl _;rcases hk with rfl|rfl<;>simp[nodeOk,nodeOk1,nodeOk2,he]<;>omega
theorem kinds_cat {ts:List Tree} (h:kindsTs ts=true):kindsT (catT ts)=true:=by
 unfold catT;split
 ·exact kinds_leaf2
 ·exact kinds_row (.inl rfl) kinds_leaf1 (kinds_flat h)
theorem kinds_again {n:NodeD} {k:Tree} {m:Int} (hm:m = -1∨m=1) (h:kindsT k=true):kindsT (againT n k m)=true:=by
 have he:eqS emptyS emptyS=true:=eqS_refl _;unfold againT;simp only[kindsT,kindsTs,h,Bool.and_true];rcases hm with rfl|rfl<;>simp[nodeOk,nodeOk1,nodeOk2,he]
theorem kinds_rest {n:NodeD} {k:Tree} (h:kindsT k=true):∀ m,kindsTs (restT n k m)=true
 | 0=>rfl
 | m+1=>by
  simp only[restT,kindsTs,Bool.and_true];exact kinds_again (.inr rfl) (kinds_cat (by simp only[kindsTs,h,kinds_rest h m,Bool.and_true]))
theorem kinds_repeat {d:NodeD} {k s:Tree} (h:kindsT k=true) (e:repeatT d k=some s):kindsT s=true:=by
 unfold repeatT at e;split at e
 ·cases e;exact kinds_leaf1
 split at e
 ·cases e;exact kinds_leaf2
 split at e
 ·cases e
 ·cases e
  refine kinds_cat ?_
  rw[kindsTs_append,Bool.and_eq_true];refine⟨kindsTs_mem.2 fun t ht=>by rw[List.eq_of_mem_replicate ht];exact h,?_⟩
  split
  ·simp only[kindsTs,Bool.and_true];exact kinds_again (.inl rfl) h
  ·exact kinds_rest h _
theorem kinds_cap {o:Option Tree} {s:Tree} (h:capT o=some s):o=some s:=by
 unfold capT at h;split at h
 ·split at h
  ·exact h
  ·cases h
 ·cases h
mutual
theorem kinds_simple:∀ {t s:Tree},kindsT t=true→simpleT t=some s→kindsT s=true
 | .mk d ks,s,h,e=>by
  have h0:=h;simp only[kindsT,Bool.and_eq_true]at h;simp only[simpleT]at e;split at e
  ·cases e
  ·rename_i l hl;have hkl:=kinds_simples h.2 hl;have hlen:=simpleTs_len hl;have e:=kinds_cap e;unfold ruleT at e;split at e
   ·split at e
    ·cases e
    ·rename_i k r;split at e
     ·cases e;exact kinds_leaf2
     ·cases e
      rw[kindsT,hkl,hlen,h.1];rfl
   split at e
   ·cases e;exact kinds_cat hkl
   split at e
   ·cases e;exact kinds_row (.inr rfl) kinds_leaf2 (kinds_flat hkl)
   split at e
   ·split at e
    ·cases e
    ·rename_i k r;simp only[kindsTs,Bool.and_eq_true]at hkl;exact kinds_repeat hkl.1 e
   ·cases e;exact h0
theorem kinds_simples:∀ {ts l:List Tree},kindsTs ts=true→simpleTs ts=some l→kindsTs l=true
 | [],l,_,e=>by simp[simpleTs]at e;subst e;rfl
 | t::r,l,h,e=>by
  simp only[kindsTs,Bool.and_eq_true]at h;simp only[simpleTs]at e;split at e
  ·cases e
  ·rename_i x hx;split at e
   ·cases e
   ·rename_i l' hl'
    cases e
    simp only[kindsTs,kinds_simple h.1 hx,kinds_simples h.2 hl',Bool.and_true]
end
def turnI (m:Nat) (x:InstD):InstD:={x with next:=if (x.kind == 1 || x.kind == 2 || x.kind == 3 || x.kind == 4) then wrap64 (m - x.next) else x.next,other:=if x.kind == 2 then wrap64 (m - x.other) else x.other}
def turnedP (zs:List InstD):List InstD:=zs.reverse.map (turnI (zs.length - 1))
def startI:List InstD:=[{kind:=5},{kind:=3,slot:=1,next:=0}]
def laidP (s:Tree):List InstD:=(layP s 1 startI).2++[{kind:=3,next:=(layP s 1 startI).1}]
def makeP (t:Tree):Except Nat (List InstD):=match simpleP t with
 | .error e=>.error e
 | .ok s=>if 4000≤(laidP s).length - 1 then .error 7 else .ok (turnedP (laidP s))
theorem turned_len (zs:List InstD):(turnedP zs).length=zs.length:=by simp[turnedP]
theorem turned_get {zs:List InstD} {m j:Nat} {x:InstD} (hm:zs.length=m+1) (hj:j≤m) (h:zs[m - j]?=some x):(turnedP zs)[j]?=some (turnI m x):=by
 unfold turnedP;rw[List.getElem?_map,List.getElem?_reverse (by omega),show zs.length - 1 - j=m - j by omega,h,hm]
 rfl
theorem simpleP_ok {t s:Tree} (h:simpleP t=.ok s):kindsT s=true∧sizeT s≤2000:=by
 unfold simpleP at h;split at h
 ·rename_i hk;split at h
  ·cases h
  ·rename_i hs
   cases h
   exact⟨kinds_simple hk.1 hs,simpleT_le hs⟩
 ·cases h
mutual
def TOk:Tree→Prop
 | .mk d ks=>SetOk d.set∧TOks ks
def TOks:List Tree→Prop
 | []=>True
 | t::r=>TOk t∧TOks r
end
theorem TOks_iff:∀ ts:List Tree,TOks ts↔∀ t ∈ ts,TOk t
 | []=>by simp[TOks]
 | t::r=>by simp[TOks,TOks_iff r]
theorem TOk_eq (t:Tree):TOk t↔SetOk t.d.set∧∀ k ∈ t.kids,TOk k:=by
 cases t with
 | mk d ks=>simp only[TOk,TOks_iff];exact Iff.rfl
theorem empty_ok:SetOk emptyS:=fun _ _=>by simp[emptyS]
theorem tok_mk {d:NodeD} {ks:List Tree} (h:SetOk d.set) (k:∀ t ∈ ks,TOk t):TOk (.mk d ks):=by simp only[TOk,TOks_iff];exact⟨h,k⟩
theorem tok_leaf (k:Int):TOk (leafT k):=tok_mk empty_ok (fun t h=>by cases h)
theorem tok_one {t:Tree} (h:TOk t):∀ x ∈ [t],TOk x:=fun x hx=>by rw[List.mem_singleton]at hx;subst hx;exact h
theorem tok_app {a b:List Tree} (h:∀ t ∈ a,TOk t) (k:∀ t ∈ b,TOk t):∀ t ∈ a++b,TOk t:=fun t ht=>(List.mem_append.1 ht).elim (h t) (k t)
theorem tok_row (k:Int) {ts:List Tree} (h:∀ t ∈ ts,TOk t):TOk (rowT k ts):=by
 unfold rowT;split
 ·exact tok_leaf _
 ·exact h _ (List.mem_singleton.2 rfl)
 ·exact tok_mk empty_ok h
theorem tok_rowN (k:Int) {ts:List Tree} {d:Tree} (h:∀ t ∈ ts,TOk t) (hd:TOk d):TOk (rowN k ts d):=by
 unfold rowN;split
 ·exact hd
 ·exact h _ (List.mem_singleton.2 rfl)
 ·exact tok_mk empty_ok h
theorem tok_set {s:Nat→Nat} (h:SetOk s):TOk (setT s):=by
 unfold setT;split
 ·exact tok_leaf _
 ·exact tok_mk h (fun t h=>by cases h)
theorem tok_all (n:Nat):TOk (setT (rangeS 0 n)):=tok_set (rangeS_ok 0 n)
theorem tok_lf (l:List Int):TOk (setT (notS (ofS l))):=tok_set (notS_ok _)
theorem tok_atom {w:WordD} (f:FlagsD) (h:SetOk w.set):TOk (atomP w f):=by
 unfold atomP;split
 ·refine tok_set ?_
  have:SetOk (if f.1 then caseS w.set else w.set):=by split;exact caseS_ok h;exact h
  split
  ·exact notS_ok _
  ·exact this
 split
 ·split
  ·generalize (256:Nat)=n;exact tok_all n
  ·exact tok_lf [10]
 split
 ·exact tok_leaf _
 split
 ·exact tok_leaf _
 ·exact tok_leaf _
theorem alts_tok:∀ (n:Nat) (f:FlagsD) (ws:List WordD) (g:Nat) (all items:List Tree) (t:Tree) (r:List WordD) (g':Nat),(∀ w ∈ ws,SetOk w.set)→(∀ t ∈ all,TOk t)→(∀ t ∈ items,TOk t)→altsP n f ws g all items=some (t,r,g')→TOk t∧∀ w ∈ r,SetOk w.set
 | 0,_,_,_,_,_,_,_,_=>fun _ _ _ h=>by simp[altsP]at h
 | n+1,f,[],g,all,items,t,r,g'=>fun hw ha hi h=>by
  simp only[altsP,Option.some.injEq,Prod.mk.injEq]at h;obtain⟨rfl,rfl,_⟩:=h;exact⟨tok_row _ (tok_app ha (tok_one (tok_row _ hi))),hw⟩
 | n+1,f,w::ws,g,all,items,t,r,g'=>fun hw ha hi h=>by
  have hw1:SetOk w.set:=hw w (List.mem_cons_self ..);have hws:∀ x ∈ ws,SetOk x.set:=fun x hx=>hw x (List.mem_cons_of_mem _ hx)
  have hnil:∀ t ∈ ([]:List Tree),TOk t:=fun t h=>by cases h
  simp only[altsP]at h;split at h
  ·simp only[Option.some.injEq,Prod.mk.injEq]at h;obtain⟨rfl,rfl,_⟩:=h;exact⟨tok_row _ (tok_app ha (tok_one (tok_row _ hi))),hw⟩
  split at h
  ·exact alts_tok n _ ws g all items t r g' hws ha hi h
  split at h
  ·exact alts_tok n _ ws g _ [] t r g' hws (tok_app ha (tok_one (tok_row _ hi))) hnil h
  split at h
  ·split at h
   ·cases h
   ·rename_i last hl;have hlast:TOk last:=hi last (List.mem_of_getLast? hl);exact alts_tok n _ ws g _ _ t r g' hws ha (tok_app (fun x hx=>hi x ((List.dropLast_sublist items).subset hx)) (tok_one (tok_mk empty_ok (tok_one hlast)))) h
  split at h
  ·split at h
   ·rename_i t1 w1 r1 g1 h1;obtain⟨a1,a2⟩:=alts_tok n _ ws g [] [] t1 (w1::r1) g1 hws hnil hnil h1;exact alts_tok n _ r1 g1 _ _ t r g' (fun x hx=>a2 x (List.mem_cons_of_mem _ hx)) ha (tok_app hi (tok_one a1)) h
   ·cases h
  split at h
  ·split at h
   ·rename_i t1 w1 r1 g1 h1;obtain⟨a1,a2⟩:=alts_tok n _ ws (g+1) [] [] t1 (w1::r1) g1 hws hnil hnil h1;exact alts_tok n _ r1 g1 _ _ t r g' (fun x hx=>a2 x (List.mem_cons_of_mem _ hx)) ha (tok_app hi (tok_one (tok_mk empty_ok (tok_one a1)))) h
   ·cases h
  ·exact alts_tok n _ ws g _ _ t r g' hws ha (tok_app hi (tok_one (tok_atom f hw1))) h
theorem parse_tok {L:Str} {f:FlagsD} {t:Tree} {g:Nat} (h:parseP L f=.ok (t,g)):TOk t:=by
 unfold parseP at h;split at h
 ·cases h
 rename_i ws hws;split at h
 ·cases h
 split at h
 ·cases h
 rename_i t1 r1 g1 h1;split at h
 ·cases h
 split at h
 ·cases h
 simp only[Except.ok.injEq,Prod.mk.injEq]at h;obtain⟨rfl,_⟩:=h;refine(alts_tok _ _ _ _ _ _ _ _ _ ?_ (fun t h=>by cases h) (fun t h=>by cases h) h1).1
 unfold wordsF at hws;split at hws
 ·cases hws
 ·exact wordsGo_set _ _ _ hws
theorem tok_flat {ts:List Tree} (i o:Int) (h:∀ t ∈ ts,TOk t):∀ t ∈ flatT ts i o,TOk t:=by
 intro t ht;obtain⟨x,hx,hxt⟩:=List.mem_flatMap.1 ht;unfold flat1 at hxt;split at hxt
 ·exact((TOk_eq x).1 (h x hx)).2 t hxt
 split at hxt
 ·cases hxt
 ·rw[List.mem_singleton]at hxt;subst hxt;exact h t hx
theorem tok_cat {ts:List Tree} (h:∀ t ∈ ts,TOk t):TOk (catT ts):=by
 unfold catT;split
 ·exact tok_leaf _
 ·exact tok_rowN _ (tok_flat _ _ h) (tok_leaf _)
theorem tok_again (n:NodeD) {k:Tree} (m:Int) (h:TOk k):TOk (againT n k m):=tok_mk empty_ok (tok_one h)
theorem tok_rest (n:NodeD) {k:Tree} (h:TOk k):∀ m:Nat,∀ t ∈ restT n k m,TOk t
 | 0=>fun t h=>by cases h
 | m+1=>tok_one (tok_again n 1 (tok_cat (fun x hx=>(List.mem_cons.1 hx).elim (fun e=>e ▸ h) (tok_rest n h m x))))
theorem tok_repeat {n:NodeD} {k s:Tree} (h:TOk k) (hr:repeatT n k=some s):TOk s:=by
 unfold repeatT at hr;split at hr
 ·cases hr;exact tok_leaf _
 split at hr
 ·cases hr;exact tok_leaf _
 split at hr
 ·cases hr
 ·cases hr
  refine tok_cat (tok_app (fun t ht=>by rw[List.eq_of_mem_replicate ht];exact h) ?_)
  split
  ·exact tok_one (tok_again n _ h)
  ·exact tok_rest n h _
theorem tok_rule {d:NodeD} {t s:Tree} {l:List Tree} (hd:SetOk d.set) (ht:TOk t) (hl:∀ x ∈ l,TOk x) (h:ruleT d t l=some s):TOk s:=by
 unfold ruleT at h;split at h
 ·split at h
  ·cases h
  ·split at h
   ·cases h;exact tok_leaf _
   ·cases h;exact tok_mk hd hl
 split at h
 ·cases h;exact tok_cat hl
 split at h
 ·cases h;exact tok_rowN _ (tok_flat _ _ hl) (tok_leaf _)
 split at h
 ·split at h
  ·cases h
  ·exact tok_repeat (hl _ (List.mem_cons_self ..)) h
 ·cases h;exact ht
mutual
theorem simple_tok:∀ (t s:Tree),TOk t→simpleT t=some s→TOk s
 | .mk d ks,s=>fun ht h=>by
  simp only[simpleT]at h;split at h
  ·cases h
  ·rename_i l hl;unfold capT at h;split at h
   ·rename_i s1 h1;split at h
    ·cases h
     have hk:=ht;simp only[TOk]at hk;exact tok_rule hk.1 ht (simples_tok ks l hk.2 hl) h1
    ·cases h
   ·cases h
theorem simples_tok:∀ (ts l:List Tree),TOks ts→simpleTs ts=some l→∀ x ∈ l,TOk x
 | [],l=>fun _ h=>by simp[simpleTs]at h;subst h;intro x hx;cases hx
 | t::r,l=>fun ht h=>by
  simp only[TOks]at ht;simp only[simpleTs]at h;split at h
  ·cases h
  ·rename_i x hx;split at h
   ·cases h
   ·rename_i l' hl
    cases h
    intro y hy;rcases List.mem_cons.1 hy with rfl|hy
    ·exact simple_tok t _ ht.1 hx
    ·exact simples_tok r l' ht.2 hl y hy
end
def IOk (xs:List InstD):Prop:=∀ x ∈ xs,SetOk x.set
theorem iok_app {a b:List InstD} (h:IOk a) (k:IOk b):IOk (a++b):=fun x hx=>(List.mem_append.1 hx).elim (h x) (k x)
theorem iok_one {x:InstD} (h:SetOk x.set):IOk [x]:=fun y hy=>by rw[List.mem_singleton]at hy;subst hy;exact h
theorem split_ok (d:NodeD) (i o:Int):SetOk (splitI d i o).set:=by unfold splitI;split<;>exact empty_ok
mutual
theorem lay_ok:∀ (t:Tree) (out:Nat) (xs:List InstD),TOk t→IOk xs→IOk (layP t out xs).2
 | .mk d ks,out,xs=>fun ht hx=>by
  simp only[TOk]at ht;obtain⟨hd,hk⟩:=ht;simp only[layP];split
  ·exact hx
  split
  ·exact iok_app hx (iok_one empty_ok)
  split
  ·exact iok_app hx (iok_one hd)
  split
  ·exact layC_ok ks out xs hk hx
  split
  ·exact layA_ok ks out xs hk hx
  split
  ·exact iok_app (layH_ok ks _ _ hk (iok_app hx (iok_one empty_ok))) (iok_one empty_ok)
  split
  ·split
   ·exact iok_app (layH_ok ks _ _ hk hx) (iok_one (split_ok _ _ _))
   ·intro x hx2;rcases List.mem_or_eq_of_mem_set hx2 with h|h
    ·exact layH_ok ks _ _ hk (iok_app hx (iok_one empty_ok)) x h
    ·rw[h];exact split_ok _ _ _
  ·exact iok_app hx (iok_one empty_ok)
theorem layH_ok:∀ (ts:List Tree) (out:Nat) (xs:List InstD),TOks ts→IOk xs→IOk (layH ts out xs).2
 | [],_,_=>fun _ h=>h
 | k::_,out,xs=>fun ht hx=>by simp only[TOks]at ht;exact lay_ok k out xs ht.1 hx
theorem layC_ok:∀ (ts:List Tree) (out:Nat) (xs:List InstD),TOks ts→IOk xs→IOk (layC ts out xs).2
 | [],_,_=>fun _ h=>h
 | k::r,out,xs=>fun ht hx=>by simp only[TOks]at ht;exact lay_ok k _ _ ht.1 (layC_ok r out xs ht.2 hx)
theorem layA_ok:∀ (ts:List Tree) (out:Nat) (xs:List InstD),TOks ts→IOk xs→IOk (layA ts out xs).2
 | [],_,_=>fun _ h=>h
 | [k],out,xs=>fun ht hx=>by simp only[TOks]at ht;exact lay_ok k out xs ht.1 hx
 | k::k2::r,out,xs=>fun ht hx=>by
  have h2:TOks (k2::r):=by simp only[TOks]at ht ⊢;exact ht.2
  have h1:TOk k:=by simp only[TOks]at ht;exact ht.1
  simp only[layA];exact iok_app (lay_ok k _ _ h1 (layA_ok (k2::r) out xs h2 hx)) (iok_one empty_ok)
end
theorem make_ok {t:Tree} {ps:List InstD} (ht:TOk t) (h:makeP t=.ok ps):IOk ps:=by
 unfold makeP at h;split at h
 ·cases h
 ·rename_i s hs;split at h
  ·cases h
  ·cases h
   unfold simpleP at hs;split at hs
   ·split at hs
    ·cases hs
    ·rename_i s1 h1
     cases hs
     intro x hx;unfold turnedP at hx;obtain⟨y,hy,rfl⟩:=List.mem_map.1 hx;rw[List.mem_reverse]at hy
     show SetOk y.set
     refine iok_app (lay_ok s _ _ (simple_tok t s ht h1) ?_) (iok_one empty_ok) y hy;intro z hz;simp only[startI,List.mem_cons,List.not_mem_nil,or_false]at hz;rcases hz with rfl|rfl<;>exact empty_ok
   ·cases hs
end Go.Proofs.YtdoflhjhaciepaaGreat
namespace Go.Proofs.YtdoflhjhaciepaaGreat
open Go.RowKit Go.Shelf
attribute [local go_sem] Oper.semAt_some
theorem run_inst1 (d:InstD) (W:World):(Instr.buildSlice 22 1 #[(0,instV d)]).run Tryz.prog W=.ok (.slice (some ⟨W.heap.size,0,none⟩) 1 1) (W.alloc (.cells (instC d) 43)):=by kernel_rfl
theorem rs_inst1 {ops:Array Oper} {o:Oper} {a:Act} {w:World} {x:Operand} {d:InstD} {n0:Nat} {D:Prop} (hg:Region.wanted o (yielded ops a.tmps)=true) (hop:o.op=Op.buildSlice 22 1 #[(0,x)]) (hx:a.eval x=instV d) (hn:n0≤w.heap.size) (hD:¬ D) :
  RStep Tryz.prog ops o a w (fun v w'=>FreshS n0 (instC d) 43 v w'∧(D→w.heap.size≤blk v)):=by
 refine rs_val hg (v:=.slice (some ⟨w.heap.size,0,none⟩) 1 1) (w':=w.alloc (.cells (instC d) 43)) ?_ ((Below.refl _ w).alloc (Nat.le_refl _) _) ⟨⟨w.heap.size,rfl,hn,World.alloc_heap_new w _⟩,fun h=>(hD h).elim⟩
 simp only[execOp,hop,List.map_toArray,List.map_cons,List.map_nil,hx,Sem.run_bind,run_inst1];rfl
theorem info_Inst:(Tryz.prog.info? 43).map (fun i=>(i.zero,i.size,i.bytes))=some (some (.agg (instC {kind:=0})),9,72):=by kernel_rfl
theorem flatI_put (xs:List InstD) (y:InstD):flatR (xs.map instC)++(instC y).toList=flatR ((xs++[y]).map instC):=by
 rw[List.map_append,flatR_append];simp[flatR]
theorem HoldG.gainS {M:Nat→Prop} {w0 w w':World} {l:List Res} (H:HoldG M w0 w l) (hb:Below w.heap.size w w') {cs:Array Value} {T:TypeId} {v:Value} (h:FreshS w.heap.size cs T v w'):∃ b,v=.slice (some ⟨b,0,none⟩) 1 1∧HoldG M w0 w' (l++[.blk b cs T]):=by
 obtain⟨b,e,h1,h2⟩:=h;obtain⟨b',e',H2⟩:=H.gainB hb (v:=.pointer (some ⟨b,0,none⟩)) ⟨b,rfl,h1,h2⟩
 cases e'
 exact⟨b,e,H2⟩
section
variable {M:Nat→Prop} {w0 w:World}
abbrev codeL (bc:Nat) (v:Value) (xs:List InstD):List Res:=[.blk bc #[v] 145,.row v 43 9 xs.length (flatR (xs.map instC))]
theorem ref_put (bc:Nat) (v:Value) (xs:List InstD) (x:InstD) (H0:HoldG M w0 w (codeL bc v xs)) (hn:xs.length≤1000000000) :
  Calls Tryz.prog 68 #[.pointer (some ⟨bc,0,none⟩),instV x] w fun e w'=>∃ v',e=.returned (.int .i64 xs.length)∧Turned M w0 w (codeL bc v xs) (codeL bc v' (xs++[x])) w':=by
 obtain⟨i0,hi0,hz0,hz1,hz2⟩:=info_parts info_Inst;have H:=H0.framed;clear H0;simp only[codeL,List.cons_append,List.nil_append]at H;have hsz0:w.heap.size≤w.heap.size:=Nat.le_refl _;obtain⟨ws,hws⟩:∃ ws,w.heap.size=ws:=⟨_,rfl⟩;obtain⟨rF,hrF⟩:∃ rF,restF w (codeL bc v xs)=rF:=⟨_,rfl⟩;obtain⟨rS,hrS⟩:∃ rS,restS w (codeL bc v xs)=rS:=⟨_,rfl⟩;simp only[codeL]at hrF hrS;rw[hrF,hrS]at H;obtain⟨n,hnn⟩:∃ n,xs.length=n:=⟨_,rfl⟩
 rw[hnn]at H hn;have HN:=Lib.hid hnn
 go_enter Tryz.func68,Tryz.ntmps68
 go_upto_region 1 with (first|((first|((with_reducible refine kgA 3 ?_);refine kA 3 H ?_)|((with_reducible refine kgX 3 ?_);(first|refine kS 3 H ?_|refine kB 3 H ?_)));clear H;intro b3 w H;try simp only[nr]at H)|fail)
 refine wp_region_late 7 0 [fun u _=>u=.pointer (some ⟨bc,0,none⟩),fun u _=>u=.pointer (some ⟨bc,0,none⟩),fun u _=>u=.pointer (some ⟨bc,0,none⟩),fun u _=>u=.pointer (some ⟨bc,0,none⟩),fun u _=>u=v,fun u _=>u=instV x,FreshS w.heap.size (instC x) 43] (fun _=>false) (by kernel_rfl) (by kernel_rfl) (by kernel_rfl) ⟨stable_eq _,stable_eq _,stable_eq _,stable_eq _,stable_eq _,stable_eq _,stable_freshS _ _ _,trivial⟩ (fun _ _ h=>by cases h) ?ob ?en ?en2
 case ob =>
  refine⟨?_,?_,?_,?_,?_,?_,?_,trivial⟩<;>intro A W h
  ·exact rs_move rfl rfl (h.frame 0 rfl) (by decide)
  ·exact rs_move rfl rfl (h.frame 0 rfl) (by decide)
  ·(have e:A.eval (.tmp 6)=.pointer (some ⟨bc,0,none⟩):=h.dep 1 6 rfl rfl;refine rs_pure rfl ?_ (by decide);simp only[execOp,e];simp[go_sem])
  ·(have e:A.eval (.tmp 7)=.pointer (some ⟨bc,0,none⟩):=h.dep 2 7 rfl rfl;refine rs_pure rfl ?_ (by decide);simp only[execOp,e];simp[go_sem])
  ·exact rs_pure rfl (run_load1K rfl (h.dep 3 8 rfl rfl) one_insts ((H.call h.below).cell (i:=0) .zero 0)) (by decide)
  ·exact rs_pure rfl (run_loadK rfl (h.frame 3 rfl) row_Inst rfl (fun k _=>by rw[Nat.zero_add];exact(H.call h.below).cell (i:=3) i_3 k)) (by decide)
  ·exact rs_inst1 rfl rfl (h.dep 5 10 rfl rfl) h.below.size (by decide)
 case en =>
  intro vals W hbw hv _;have v0:vals 0=.pointer (some ⟨bc,0,none⟩):=hv 0 (by omega)
  have v1:vals 1=.pointer (some ⟨bc,0,none⟩):=hv 1 (by omega)
  have v2:vals 2=.pointer (some ⟨bc,0,none⟩):=hv 2 (by omega)
  have v3:vals 3=.pointer (some ⟨bc,0,none⟩):=hv 3 (by omega)
  have v4:vals 4=v:=hv 4 (by omega)
  have v5:vals 5=instV x:=hv 5 (by omega)
  obtain⟨bk,v6,H2⟩:=H.gainS hbw (show FreshS w.heap.size (instC x) 43 (vals 6) W from hv 6 (by omega))
  simp only[fa,Nat.reduceAdd];rw[v0,v1,v2,v3,v4,v5,v6];clear hv v0 v1 v2 v3 v4 v5 v6 H;have hbz:=hbw.size;clear hbw;have H:=H2;clear H2;simp only[List.cons_append,List.nil_append]at H;simp only[pl]
  go_wp2_with (first|(at_builtin;refine own_append rfl _ _ 22 rfl H (i:=1) (j:=4) evd_ rfl i_1 i_4 Tryz.underlying22 hi0 hz0 hz1 hz2 rfl (by decide) rfl rfl (by unfold maxLen;omega) (by omega) ?_;clear H;intro v2 w H;(try simp only[nr]at H);(obtain⟨q2,c2,rfl,_,_,_⟩:=H.rowShape (i:=1) i_1))|(first|((with_reducible refine gT ?_);(refine aO H ?_;clear H;intro w H;try simp only[nr]at H))|((with_reducible refine gL ?_);refine aG H ?_)))
  go_ret;refine⟨.slice q2 (n+1) c2,by rw[HN.out];rfl,?_⟩
  rw[← hrF,← hrS]at H;refine Turned.of H (i:=2) i_2 [0,1] (by decide) (by decide) ?_ (fun F S h=>by simp at h)
  simp only[codeL,List.map_cons,List.map_nil,List.length_append,List.length_cons,List.length_nil];rw[← flatI_put,HN.out];rfl
 case en2 =>
  intro vals W hbw hv2 _;have hv:∀ i,i<7→0<i→lookS _ i (vals i) W:=fun i h1 h2=>hv2 i h1 (by omega)
  have v1:vals 1=.pointer (some ⟨bc,0,none⟩):=hv 1 (by omega) (by omega)
  have v2:vals 2=.pointer (some ⟨bc,0,none⟩):=hv 2 (by omega) (by omega)
  have v3:vals 3=.pointer (some ⟨bc,0,none⟩):=hv 3 (by omega) (by omega)
  have v4:vals 4=v:=hv 4 (by omega) (by omega)
  have v5:vals 5=instV x:=hv 5 (by omega) (by omega)
  obtain⟨bk,v6,H2⟩:=H.gainS hbw (show FreshS w.heap.size (instC x) 43 (vals 6) W from hv 6 (by omega) (by omega))
  simp only[List.take_succ_cons,List.take_zero,List.drop_succ_cons,List.drop_zero,List.drop_nil,List.take_nil,fillBut,lateL,List.cons_append,List.nil_append,Nat.reduceEqDiff,if_true,if_false,reduceCtorEq,Nat.zero_add,Nat.reduceAdd];rw[v1,v2,v3,v4,v5,v6];clear hv hv2 v1 v2 v3 v4 v5 v6 H;have hbz:=hbw.size;clear hbw;have H:=H2;clear H2;simp only[List.cons_append,List.nil_append]at H;simp only[pl]
  go_wp2_with (first|(at_builtin;refine own_append rfl _ _ 22 rfl H (i:=1) (j:=4) evd_ rfl i_1 i_4 Tryz.underlying22 hi0 hz0 hz1 hz2 rfl (by decide) rfl rfl (by unfold maxLen;omega) (by omega) ?_;clear H;intro v2 w H;(try simp only[nr]at H);(obtain⟨q2,c2,rfl,_,_,_⟩:=H.rowShape (i:=1) i_1))|(first|((with_reducible refine gT ?_);(refine aO H ?_;clear H;intro w H;try simp only[nr]at H))|((with_reducible refine gL ?_);refine aG H ?_)))
  go_ret;refine⟨.slice q2 (n+1) c2,by rw[HN.out];rfl,?_⟩
  rw[← hrF,← hrS]at H;refine Turned.of H (i:=2) i_2 [0,1] (by decide) (by decide) ?_ (fun F S h=>by simp at h)
  simp only[codeL,List.map_cons,List.map_nil,List.length_append,List.length_cons,List.length_nil];rw[← flatI_put,HN.out];rfl
end
theorem ref_split (d:NodeD) (s:Value) (i o:Int) (w0:World):Calls Tryz.prog 113 #[nodeV d s,.int .i64 i,.int .i64 o] w0 fun e w'=>e=.returned (instV (splitI d i o))∧Below w0.heap.size w0 w':=by
 have H:=Hold.start w0
 cases hl:d.lazy with
 | true =>
  have E:=Lib.hid (show splitI d i o={kind:=2,next:=o,other:=i} by unfold splitI;rw[hl];rfl)
  go_enter Tryz.func113,Tryz.ntmps113
  go_wp2_with (first|(first|((with_reducible refine gTi ?_);refine aTi H ?_;clear H;intro w H;try simp only[nr]at H)|((with_reducible refine gBi ?_);refine ib3 ?_)|((with_reducible refine gL ?_);refine aGb H ?_)|((with_reducible refine gX ?_);(refine bB H ?_;clear H;intro b w H;try simp only[nr]at H))|((with_reducible refine gA ?_);(refine bA H ?_;clear H;intro b w H;try simp only[nr]at H))))
  (refine ret_c Tryz.results113 rfl H atd_ row_Inst (by rfl) rfl ?_)
  exact⟨by rw[E.out],H.below⟩
 | false =>
  have E:=Lib.hid (show splitI d i o={kind:=2,next:=i,other:=o} by unfold splitI;rw[hl];rfl)
  go_enter Tryz.func113,Tryz.ntmps113
  go_wp2_with (first|(first|((with_reducible refine gTi ?_);refine aTi H ?_;clear H;intro w H;try simp only[nr]at H)|((with_reducible refine gBi ?_);refine ib3 ?_)|((with_reducible refine gL ?_);refine aGb H ?_)|((with_reducible refine gX ?_);(refine bB H ?_;clear H;intro b w H;try simp only[nr]at H))|((with_reducible refine gA ?_);(refine bA H ?_;clear H;intro b w H;try simp only[nr]at H))))
  (refine ret_c Tryz.results113 rfl H atd_ row_Inst (by rfl) rfl ?_)
  exact⟨by rw[E.out],H.below⟩
theorem nodeC_set5 (d:NodeD) (s v:Value):(nodeC d s).setIfInBounds 5 v=nodeC d v:=rfl
theorem ref_copied:∀ (m:Nat) (t:Tree) (p:Option Addr) (n c:Nat) (F:Nat→Prop) (w0:World),sizeT t≤m→m≤1000000000→(∀ b,F b→b<w0.heap.size)→ForestR w0 F p c t.kids→n=t.kids.length →
  Calls Tryz.prog 112 #[nodeV t.d (.slice p n c)] w0 fun e w'=>TreeOut w0 (fun _=>False) t e w'∧Below w0.heap.size w0 w'
 | 0,t,_,_,_,_,_,hm,_,_,_,_=>by have:=sizeT_pos t;omega
 | m+1,.mk d ts,p,n,c,F,w0,hm,hm2,hF,h,hn=>by
  have IH:=ref_copied m;obtain⟨i0,hi0,hz0,hz1,hz2⟩:=info_parts info_Node;simp only[Tree.kids,Tree.d]at h hn ⊢;obtain⟨xs,h1,h2,rfl⟩:=h.open;have hn':=hn;rw[List.length_map]at hn;rw[← hn]at h1;have hK:Knows F p n c xs w0:=⟨h1,h2⟩;clear h h1 h2;have H:=Hold.knows hF hK;have hc1:=hK.bound.2.1;have hc2:=hK.bound.2.2;have hp:=hK.at;clear hK;simp only[sizeT]at hm;have hnl:n≤1000000000:=by have:=len_sizeTs (xs.map (·.1));omega
  have HN:=Lib.hid hn;have HN2:=Lib.hid hn';clear hn hn'
  go_enter Tryz.func112,Tryz.ntmps112
  go_upto_region 3 with (first|((with_reducible refine gT ?_);refine own_store1 wtd_ _ _ _ rfl rfl evd_ H (i:=3) i_3 rfl (by show 5<10;omega) (by with_reducible exact one_size one_kids) ?_;clear H;intro w H;(rw[nodeC_set5]at H);try simp only[nr]at H)|((first|((with_reducible refine kgA 1 ?_);refine kA 1 H ?_)|((with_reducible refine kgX 1 ?_);(first|refine kS 1 H ?_|refine kB 1 H ?_)));clear H;intro b1 w H;try simp only[nr]at H)|((first|((with_reducible refine kgA 2 ?_);refine kA 2 H ?_)|((with_reducible refine kgX 2 ?_);(first|refine kS 2 H ?_|refine kB 2 H ?_)));clear H;intro b2 w H;try simp only[nr]at H)|((first|((with_reducible refine kgA 3 ?_);refine kA 3 H ?_)|((with_reducible refine kgX 3 ?_);(first|refine kS 3 H ?_|refine kB 3 H ?_)));clear H;intro b3 w H;try simp only[nr]at H)|(first|((with_reducible refine gT ?_);(refine aT H ?_;clear H;intro w H;try simp only[nr]at H))|((with_reducible refine gL ?_);refine aD H ?_)))
  replace H:=(H.addNil 87 10).know (fun _=>False) (fun V=>ListR V (fun _=>False) []) (fun _ h=>h.elim) (fun _ _ _ _ _ h=>h) (fun V _=>ListR.nil _ _)
  simp only[List.nil_append,List.cons_append]at H
  go_wp2_with fail
  go_loopw [4] (fun ix wr=>∃ (j:Nat) (xa:List TV) (vq:Option Addr) (vc:Nat) (Fa:Nat→Prop),j≤n∧ix=.int .i64 j∧xa.length=j∧Hid (xa.map (·.1)=(xs.map (·.1)).take j)∧(∀ b,Fa b→w0.heap.size≤b)∧Hold w0 wr [.kn F (Knows F p n c xs),.blk b1 (nodeC d (.slice p n c)) 87,.blk b2 (nodeC {kind:=0} nilS) 87,.blk b3 (nodeC d (.slice vq j vc)) 87,.row (.slice vq j vc) 87 10 j (flatR (xa.map nodeX)),.kn Fa (fun V=>ListR V Fa xa)]) (fun ix _=>n+1 - (intOf ix).toNat)
  case atStart=>exact⟨0,[],none,0,fun _=>False,by omega,rfl,rfl,Lib.hid rfl,fun _ h=>h.elim,H⟩
  case round =>
   clear H;obtain⟨j,xa,vq,vc,Fa,hj,rfl,hxl,E,hFa,H⟩:=hrel
   by_cases hlt:j<n
   ·have dj:decide ((j:Int)<(n:Int))=true:=by simp;omega
    obtain⟨x,hx⟩:∃ x,xs[j]?=some x:=⟨_,List.getElem?_eq_getElem (by rw[← HN.out];exact hlt)⟩
    obtain⟨b,off,rfl⟩:=hp (by rw[← HN.out];omega)
    have hs1:=size_part hx;have hmem:=List.mem_of_getElem? hx;have hcell:∀ V,Knows F (some ⟨b,off,none⟩) n c xs V→∀ k,k<10→V.cell? ⟨b,off+j * 10+k,none⟩=(nodeX x)[k]?:=fun V h=>h.cells hx rfl
    have ih:=fun w (hw:∀ b,F b→b<w.heap.size) (hk:Knows F (some ⟨b,off,none⟩) n c xs w)=>IH x.1 x.2.1 _ x.2.2 F w (by omega) (by omega) hw (hk.2 x hmem) rfl
    have E2:=Lib.hid (show xa.map (·.1)++[x.1]=(xs.map (·.1)).take (j+1) by rw[E.out,take_get (i:=j) (x:=x.1) (by rw[List.getElem?_map,hx];rfl)])
    have HX:=Lib.hid hxl;clear IH hx hmem hp hs1 hxl
    go_wp2_with (first|((with_reducible refine gT ?_);refine own_store1 wtd_ _ _ _ rfl rfl evd_ H (i:=3) i_3 rfl (by show 5<10;omega) (by with_reducible exact one_size one_kids) ?_;clear H;intro w H;(rw[nodeC_set5]at H);try simp only[nr]at H)|((with_reducible refine gL ?_);refine own_loadK wtd_ _ _ rfl rfl row_Node (nodeX_size x) (hcell _ (H.kn (i:=0) .zero)) ?_)|(at_builtin;refine own_append rfl _ _ 85 rfl H (i:=4) (j:=8) evd_ rfl i_4 i_8 Tryz.underlying85 hi0 hz0 hz1 hz2 rfl (by decide) rfl rfl (by unfold maxLen;omega) (by omega) ?_;clear H;intro v2 w H;(try simp only[nr]at H);(obtain⟨q2,c2,rfl,_,_,_⟩:=H.rowShape (i:=4) i_4))|((with_reducible show @wpList _ _ _ ({dst:=_,op:=Op.buildSlice _ _ _,type:=_,pos:=_,after:=_,guard:=_}::_) _ _);refine own_build wtd_ _ _ _ rfl H (nodeC (x.1.d) (.slice q1 x.1.kids.length m1)) 87 (by intro W;simp only[List.map_toArray,List.map_cons,List.map_nil];(try simp only[pe]);exact run_kid1 _ _ W) ?_;clear H;intro bk w H;try simp only[nr]at H)|(first|((with_reducible refine gT ?_);(refine aT H ?_;clear H;intro w H;try simp only[nr]at H))|((with_reducible refine gL ?_);(first|refine aG H ?_|refine aD H ?_))|((with_reducible refine gA ?_);(refine bA H ?_;clear H;intro b w H;try simp only[nr]at H)))|(go_at_call 112;(with_reducible refine cht (ih _ (H.knlt (i:=0) .zero) (H.kn (i:=0) .zero)) H Still.none ?_);clear H;intro q1 m1 F1 w hF1 H))
    have H2:=H.rowGrown (i:=4) (k:=5) (k2:=6) (xs:=xa) (ys:=xa) (by rw[HX.out];exact i_4) i_5 i_6 (xa++[(x.1,q1,m1)]) (fun y hy=>(List.mem_append.1 hy).imp id List.mem_singleton.1)
    have hl2:(xa++[((x.1,q1,m1):TV)]).length=j+1:=by simp[HX.out]
    rw[hl2]at H2;have HL:=Lib.hid hl2;clear hl2;go_roundw
    case rel=>exact⟨j+1,xa++[(x.1,q1,m1)],q2,c2,fun b=>Fa b∨F1 b,by omega,by go_num,HL.out,Lib.hid (by rw[List.map_append];exact E2.out),fun b h=>h.elim (hFa b) (fun h=>(hF1 b h).elim id False.elim),H2.pick [0,1,2,3,4,9] _ (by decide) rfl⟩
    case measure=>simp[intOf];omega
   ·have hjn:j=n:=by omega
    have dj:decide ((j:Int)<(n:Int))=false:=by simp;omega
    have EX:=Lib.hid (show xa.map (·.1)=xs.map (·.1) by rw[E.out,List.take_of_length_le (by rw[List.length_map,← HN.out];omega)])
    obtain⟨G,hG,H2⟩:=H.rowForest (i:=4) (xs:=xa) (K:=Fa) i_4 hxl (Still.at (i:=5) i_5) (H.kn (i:=5) i_5);clear H;have H:=H2;clear H2;simp only[List.set_cons_succ,List.set_cons_zero]at H;have HJ:=Lib.hid hjn;clear hjn hxl
    go_wp2_with (first|(first|((with_reducible refine gT ?_);(refine aT H ?_;clear H;intro w H;try simp only[nr]at H))|((with_reducible refine gL ?_);(first|refine aG H ?_|refine aD H ?_))))
    (refine ret_c Tryz.results112 rfl H atd_ (by first|(with_reducible exact row_Node)|(with_reducible exact row_Set)|(with_reducible exact row_Flags)|(with_reducible exact row_Word)) (by rfl) rfl ?_)
    refine⟨⟨vq,vc,G,?_,?_,fun b h=>⟨H.knlt (i:=4) i_4 b h,.inl ((hG b h).elim id (hFa b))⟩⟩,H.below⟩
    ·show Ending.returned (nodeV d (.slice vq j vc))=Ending.returned (nodeV d (.slice vq (xs.map (·.1)).length vc))
     rw[← HN2.out,HJ.out]
    ·have:=H.kn (i:=4) i_4;rw[EX.out]at this;exact this
section
variable {M:Nat→Prop} {P:Program} {f:FuncId} {args:Array Value} {w w0:World} {l:List Res} {G:Nat→Prop} {R:Ending→World→Prop}
theorem chb_some {t:Tree} (c:Calls P f args w fun e w'=>TreeB w G (some t) e w'∧Below w.heap.size w w') (H:HoldG M w0 w l) (hG:Still l G)
  (k:∀ p n F w',(∀ b,F b→w0.heap.size≤b∨G b)→HoldG M w0 w' (l++[.kn F (fun V=>ForestR V F p n t.kids)])→R (.returned (.tuple #[nodeV t.d (.slice p t.kids.length n),.bool true])) w'):Calls P f args w R:=c.mono fun _ w' h=>by
 obtain⟨⟨p,n,F,rfl,hs,hF⟩,hb⟩:=h;exact k p n F w' (fun b h=>(hF b h).2.imp (fun h=>Nat.le_trans H.keep.size h) id) (H.learn hb hG hF (fun V hV=>hs.kept hV))
theorem chb_none (c:Calls P f args w fun e w'=>TreeB w G none e w'∧Below w.heap.size w w') (H:HoldG M w0 w l)
  (k:∀ d p n m w',HoldG M w0 w' l→R (.returned (.tuple #[nodeV d (.slice p n m),.bool false])) w'):Calls P f args w R:=c.mono fun _ w' h=>by
 obtain⟨⟨d,p,n,m,rfl⟩,hb⟩:=h;exact k d p n m w' (H.call hb)
theorem HoldG.rowKnows (H:HoldG M w0 w l) {i N cap:Nat} {q:Option Addr} {T:TypeId} {xs:List TV} {K:Nat→Prop} (hi:At l i (.row (.slice q N cap) T 10 N (flatR (xs.map nodeX)))) (hN:xs.length=N) (hK:Still l K) (hL:ListR w K xs) :
  ∃ G:Nat→Prop,(∀ b,G b→w0.heap.size≤b∨K b)∧HoldG M w0 w (l.set i (.kn G (Knows G q N cap xs))):=by
 have ho:=H.all i _ hi.get;have hrd:∀ V:World,(∀ b,(Value.slice q N cap).ownBlock=some b→V.heap[b]?=w.heap[b]?)→RdN 10 V (fun b=>(Value.slice q N cap).ownBlock=some b) (.slice q N cap) (xs.map nodeX):=fun V hV=>RdN.of_own ho (nodesX_size xs) (by rw[List.length_map];exact hN) hV
 refine⟨fun b=>(Value.slice q N cap).ownBlock=some b∨K b,fun b hb=>hb.imp (fun hb=>?_) id,H.restG hi _ _ (fun b hb=>hb.imp id (hK b)) (fun V hV=>⟨(hrd V (fun b hb=>hV b (.inl hb))).mono (fun _ h=>.inl h),fun x hx=>((hL x hx).mono (fun _ h=>.inr h)).kept hV⟩)⟩
 obtain⟨_,⟨hv,_⟩|⟨g,cap',cur,hv,hg,_⟩⟩:=ho
 ·cases hv;cases hb
 ·cases hv;cases hb;exact hg
end
theorem Knows.forestN {F:Nat→Prop} {p:Option Addr} {n c:Nat} {xs:List TV} {V:World} (h:Knows F p n c xs V) (hn:xs.length=n):ForestR V F p c (xs.map (·.1)):=.mk _ _ _ xs (by rw[List.length_map,hn];exact h.1) h.2 rfl
theorem ok_7 {d:NodeD} {k:Nat} (h:nodeOk d k=true) (h7:d.kind=7):k=1:=by
 simp[nodeOk,nodeOk1,h7]at h;omega
theorem ok_6 {d:NodeD} {k:Nat} (h:nodeOk d k=true) (h6:d.kind=6):k=1∧(0≤d.lo∧d.lo≤100)∧(d.hi = -1∨d.lo≤d.hi∧d.hi≤100):=by
 simp[nodeOk,nodeOk1,h6]at h;omega
def CallB (n:Nat) (G:Nat→Prop) (o:Option Tree) (v:Value) (W:World):Prop:=match o with
 | some t=>∃ q m F,v=.tuple #[nodeV t.d (.slice q t.kids.length m),.bool true]∧ForestR W F q m t.kids∧∀ b,F b→b<W.heap.size∧(n≤b∨G b)
 | none=>∃ d q k m,v=.tuple #[nodeV d (.slice q k m),.bool false]
def FstB (n:Nat) (G:Nat→Prop) (o:Option Tree) (v:Value) (W:World):Prop:=match o with
 | some t=>∃ q m F,v=nodeV t.d (.slice q t.kids.length m)∧ForestR W F q m t.kids∧∀ b,F b→b<W.heap.size∧(n≤b∨G b)
 | none=>∃ d q k m,v=nodeV d (.slice q k m)
theorem stable_callB {n:Nat} {G:Nat→Prop} {o:Option Tree}:Stable (CallB n G o):=fun v w w' h hb=>by
 cases o with
 | none=>exact h
 | some t =>
  obtain⟨q,m,F,e,hs,hF⟩:=h;exact⟨q,m,F,e,hs.kept (fun b h=>hb.block b (hF b h).1),fun b h=>⟨Nat.lt_of_lt_of_le (hF b h).1 hb.size,(hF b h).2⟩⟩
theorem stable_fstB {n:Nat} {G:Nat→Prop} {o:Option Tree}:Stable (FstB n G o):=fun v w w' h hb=>by
 cases o with
 | none=>exact h
 | some t =>
  obtain⟨q,m,F,e,hs,hF⟩:=h;exact⟨q,m,F,e,hs.kept (fun b h=>hb.block b (hF b h).1),fun b h=>⟨Nat.lt_of_lt_of_le (hF b h).1 hb.size,(hF b h).2⟩⟩
theorem CallB.fst {n:Nat} {G:Nat→Prop} {o:Option Tree} {v:Value} {W:World} (h:CallB n G o v W):∃ x,v=.tuple #[x,.bool o.isSome]∧FstB n G o x W:=by
 cases o with
 | none =>
  obtain⟨d,q,k,m,e⟩:=h;exact⟨_,e,d,q,k,m,rfl⟩
 | some t =>
  obtain⟨q,m,F,e,hs,hF⟩:=h;exact⟨_,e,q,m,F,rfl,hs,hF⟩
theorem TreeB.callB {n:Nat} {w w':World} {G:Nat→Prop} {o:Option Tree} {e:Ending} (h:TreeB w G o e w') (hn:n≤w.heap.size):∃ v,e=.returned v∧CallB n G o v w':=by
 cases o with
 | none =>
  obtain⟨d,p,k,c,rfl⟩:=h;exact⟨_,rfl,d,p,k,c,rfl⟩
 | some t =>
  obtain⟨p,c,F,rfl,hs,hF⟩:=h;exact⟨_,rfl,p,c,F,rfl,hs,fun b h=>⟨(hF b h).1,(hF b h).2.imp (Nat.le_trans hn) id⟩⟩
theorem lit73 (t:Array Value) (h:t.size=73):∃ x0 x1 x2 x3 x4 x5 x6 x7 x8 x9 x10 x11 x12 x13 x14 x15 x16 x17 x18 x19 x20 x21 x22 x23 x24 x25 x26 x27 x28 x29 x30 x31 x32 x33 x34 x35 x36 x37 x38 x39 x40 x41 x42 x43 x44 x45 x46 x47 x48 x49 x50 x51 x52 x53 x54 x55 x56 x57 x58 x59 x60 x61 x62 x63 x64 x65 x66 x67 x68 x69 x70 x71 x72:Value,t=List.toArray (x0::x1::x2::x3::x4::x5::x6::x7::x8::x9::x10::x11::x12::x13::x14::x15::x16::x17::x18::x19::x20::x21::x22::x23::x24::x25::x26::x27::x28::x29::x30::x31::x32::x33::x34::x35::x36::x37::x38::x39::x40::x41::x42::x43::x44::x45::x46::x47::x48::x49::x50::x51::x52::x53::x54::x55::x56::x57::x58::x59::x60::x61::x62::x63::x64::x65::x66::x67::x68::x69::x70::x71::x72::[]):=by
 rw[lit_get t 73 h];exact⟨_,_,_,_,_,_,_,_,_,_,_,_,_,_,_,_,_,_,_,_,_,_,_,_,_,_,_,_,_,_,_,_,_,_,_,_,_,_,_,_,_,_,_,_,_,_,_,_,_,_,_,_,_,_,_,_,_,_,_,_,_,_,_,_,_,_,_,_,_,_,_,_,_,rfl⟩
theorem size_repeatT {d:NodeD} {k s:Tree} (h:repeatT d k=some s) (hk:sizeT k≤2000) (hl0:0≤d.lo) (hlo:d.lo≤100) (hhi:d.hi≤100):sizeT s≤1000000:=by
 unfold repeatT at h;split at h
 ·cases h;rw[size_leaf];omega
 split at h
 ·cases h;rw[size_leaf];omega
 split at h
 ·cases h
 ·cases h
  refine Nat.le_trans (size_catT _) ?_
  have h1:d.lo.toNat * sizeT k≤100 * 2000:=Nat.mul_le_mul (by omega) hk
  rw[sizeTs_append,size_rep];split
  ·rw[sizeTs_one,size_again];omega
  ·rename_i hn;have h2:=size_rest d k (d.hi - d.lo).toNat;have h3:(d.hi - d.lo).toNat * (sizeT k+2)≤100 * 2002:=Nat.mul_le_mul (by omega) (by omega)
   omega
def RuleB (w0 w:World) (F:Nat→Prop) (b2 b8:Nat) (o:Option Tree):Prop:=match o with
 | some t=>∃ q c G,(∀ b,G b→w0.heap.size≤b∨F b)∧Hold w0 w [.blk b2 (nodeC {kind:=0} nilS) 87,.blk b8 (nodeC t.d (.slice q t.kids.length c)) 87,.kn G (fun V=>ForestR V G q c t.kids)]
 | none=>∃ d q n c,Hold w0 w [.blk b2 (nodeC {kind:=0} nilS) 87,.blk b8 (nodeC d (.slice q n c)) 87]
theorem ref_simple:∀ (m:Nat) (t:Tree) (p:Option Addr) (n c:Nat) (F:Nat→Prop) (w0:World),sizeT t≤m→m≤2000→kindsT t=true→(∀ b,F b→b<w0.heap.size)→ForestR w0 F p c t.kids→n=t.kids.length →
  Calls Tryz.prog 111 #[nodeV t.d (.slice p n c)] w0 fun e w'=>TreeB w0 F (simpleT t) e w'∧Below w0.heap.size w0 w'
 | 0,t,_,_,_,_,_,hm,_,_,_,_,_=>by have:=sizeT_pos t;omega
 | m+1,.mk d ts,p,n,c,F,w0,hm,hm2,hkd,hF,h,hn=>by
  have IH:=ref_simple m;obtain⟨i0,hi0,hz0,hz1,hz2⟩:=info_parts info_Node;simp only[Tree.kids,Tree.d]at h hn ⊢;simp only[kindsT,Bool.and_eq_true]at hkd;obtain⟨xs,h1,h2,rfl⟩:=h.open;have hn':=hn;rw[List.length_map]at hn;rw[← hn]at h1;have hK:Knows F p n c xs w0:=⟨h1,h2⟩;clear h h1 h2;have H:=Hold.knows hF hK;have hc1:=hK.bound.2.1;have hc2:=hK.bound.2.2;have hp:=hK.at;clear hK;simp only[sizeT]at hm;have hnl:n≤2000:=by have:=len_sizeTs (xs.map (·.1));omega
  have HN:=Lib.hid hn;have HN2:=Lib.hid hn';clear hn hn';have HKD:=Lib.hid hkd;clear hkd;have hno:=fun w=>ref_none w
  go_enter Tryz.func111,Tryz.ntmps111
  replace H:=(H.addNil 87 10).know (fun _=>False) (fun V=>ListR V (fun _=>False) []) (fun _ h=>h.elim) (fun _ _ _ _ _ h=>h) (fun V _=>ListR.nil _ _)
  simp only[List.nil_append,List.cons_append]at H
  go_wp2_with (first|((first|((with_reducible refine kgA 1 ?_);refine kA 1 H ?_)|((with_reducible refine kgX 1 ?_);(first|refine kS 1 H ?_|refine kB 1 H ?_)));clear H;intro b1 w H;try simp only[nr]at H)|((first|((with_reducible refine kgA 2 ?_);refine kA 2 H ?_)|((with_reducible refine kgX 2 ?_);(first|refine kS 2 H ?_|refine kB 2 H ?_)));clear H;intro b2 w H;try simp only[nr]at H)|fail)
  go_loopw [4,5] (fun vs ix wr=>∃ (j:Nat) (xa:List TV) (vq:Option Addr) (vc:Nat) (Fa:Nat→Prop),j≤n∧vs=.slice vq j vc∧ix=.int .i64 j∧xa.length=j∧Hid (simpleTs ((xs.map (·.1)).take j)=some (xa.map (·.1)))∧(∀ b,Fa b→w0.heap.size≤b∨F b)∧Hold w0 wr [.kn F (Knows F p n c xs),.row (.slice vq j vc) 87 10 j (flatR (xa.map nodeX)),.kn Fa (fun V=>ListR V Fa xa),.blk b1 (nodeC d (.slice p n c)) 87,.blk b2 (nodeC {kind:=0} nilS) 87]) (fun _ ix _=>n+1 - (intOf ix).toNat)
  case atStart=>exact⟨0,[],none,0,fun _=>False,by omega,rfl,rfl,rfl,Lib.hid rfl,fun _ h=>h.elim,H⟩
  case round =>
   clear H;obtain⟨j,xa,vq,vc,Fa,hj,rfl,rfl,hxl,E,hFa,H⟩:=hrel
   by_cases hlt:j<n
   ·have dj:decide ((j:Int)<(n:Int))=true:=by simp;omega
    obtain⟨x,hx⟩:∃ x,xs[j]?=some x:=⟨_,List.getElem?_eq_getElem (by rw[← HN.out];exact hlt)⟩
    obtain⟨b,off,rfl⟩:=hp (by rw[← HN.out];omega)
    have hs1:=size_part hx;have hmem:=List.mem_of_getElem? hx;have hx':(xs.map (·.1))[j]?=some x.1:=by rw[List.getElem?_map,hx];rfl
    have hkx:kindsT x.1=true:=kindsTs_get HKD.out.2 hx';have hcell:∀ V,Knows F (some ⟨b,off,none⟩) n c xs V→∀ k,k<10→V.cell? ⟨b,off+j * 10+k,none⟩=(nodeX x)[k]?:=fun V h=>h.cells hx rfl
    have ih:=fun w (hw:∀ b,F b→b<w.heap.size) (hk:Knows F (some ⟨b,off,none⟩) n c xs w)=>IH x.1 x.2.1 _ x.2.2 F w (by omega) (by omega) hkx hw (hk.2 x hmem) rfl
    have HX:=Lib.hid hxl;clear IH hx hmem hp hs1 hxl hkx
    cases hsx:simpleT x.1 with
    | none =>
     rw[hsx]at ih;have E2:=Lib.hid (show simpleT (.mk d (xs.map (·.1)))=none by rw[simpleT,simpleTs_stop hx' hsx])
     clear hsx hx'
     go_wp2_with (first|((with_reducible refine gL ?_);refine own_loadK wtd_ _ _ rfl rfl row_Node (nodeX_size x) (hcell _ (H.kn (i:=0) .zero)) ?_)|(first|((with_reducible refine gT ?_);(refine aT H ?_;clear H;intro w H;try simp only[nr]at H))|((with_reducible refine gL ?_);refine aG H ?_)|((with_reducible refine gA ?_);(refine bA H ?_;clear H;intro b w H;try simp only[nr]at H)))|(go_at_call 111;refine chb_none (ih _ (H.knlt (i:=0) .zero) (H.kn (i:=0) .zero)) H ?_;clear H;intro d1 q1 k1 m1 w H)|(go_at_call 139;(with_reducible refine ch (hno _) H ?_);clear H;intro w H))
     (refine ret_ct Tryz.results111 rfl (by first|rfl|(simp only[pl];rfl)) H atd_ (by first|(with_reducible exact row_Node)|(with_reducible exact row_Set)|(with_reducible exact row_Flags)|(with_reducible exact row_Word)) (by rfl) rfl ?_)
     exact⟨TreeB.no E2.out,H.below⟩
    | some s =>
     rw[hsx]at ih;have E2:=Lib.hid (show simpleTs ((xs.map (·.1)).take (j+1))=some (xa.map (·.1)++[s]) by rw[take_get hx'];exact simpleTs_snoc _ _ E.out hsx)
     clear hsx hx'
     go_wp2_with (first|((with_reducible refine gL ?_);refine own_loadK wtd_ _ _ rfl rfl row_Node (nodeX_size x) (hcell _ (H.kn (i:=0) .zero)) ?_)|(at_builtin;refine own_append rfl _ _ 85 rfl H (i:=1) (j:=7) evd_ rfl i_1 i_7 Tryz.underlying85 hi0 hz0 hz1 hz2 rfl (by decide) rfl rfl (by unfold maxLen;omega) (by omega) ?_;clear H;intro v2 w H;(try simp only[nr]at H);(obtain⟨q2,c2,rfl,_,_,_⟩:=H.rowShape (i:=1) i_1))|((with_reducible show @wpList _ _ _ ({dst:=_,op:=Op.buildSlice _ _ _,type:=_,pos:=_,after:=_,guard:=_}::_) _ _);refine own_build wtd_ _ _ _ rfl H (nodeC (s.d) (.slice q1 s.kids.length m1)) 87 (by intro W;simp only[List.map_toArray,List.map_cons,List.map_nil];(try simp only[pe]);exact run_kid1 _ _ W) ?_;clear H;intro bk w H;try simp only[nr]at H)|(first|((with_reducible refine gT ?_);(refine aT H ?_;clear H;intro w H;try simp only[nr]at H))|((with_reducible refine gL ?_);(first|refine aG H ?_|refine aD H ?_))|((with_reducible refine gA ?_);(refine bA H ?_;clear H;intro b w H;try simp only[nr]at H)))|(go_at_call 111;refine chb_some (ih _ (H.knlt (i:=0) .zero) (H.kn (i:=0) .zero)) H (Still.at (i:=0) .zero) ?_;clear H;intro q1 m1 F1 w hF1 H;simp only[List.cons_append,List.nil_append]at H))
     have H2:=H.rowGrown (i:=1) (k:=2) (k2:=5) (xs:=xa) (ys:=xa) (by rw[HX.out];exact i_1) i_2 i_5 (xa++[(s,q1,m1)]) (fun y hy=>(List.mem_append.1 hy).imp id List.mem_singleton.1)
     have hl2:(xa++[((s,q1,m1):TV)]).length=j+1:=by simp[HX.out]
     rw[hl2]at H2;have HL:=Lib.hid hl2;clear hl2;go_roundw
     case rel=>exact⟨j+1,xa++[(s,q1,m1)],q2,c2,fun b=>Fa b∨F1 b,by omega,rfl,by go_num,HL.out,Lib.hid (by rw[List.map_append];exact E2.out),fun b h=>h.elim (hFa b) (hF1 b),H2.pick [0,1,8,3,4] _ (by decide) rfl⟩
     case measure=>simp[intOf];omega
   ·have hjn:n=j:=by omega
    subst hjn;have dj:decide ((n:Int)<(n:Int))=false:=by simp
    have EX:=Lib.hid (show simpleTs (xs.map (·.1))=some (xa.map (·.1)) by rw[← E.out,List.take_of_length_le (by rw[List.length_map,← HN.out];omega)])
    clear IH hlt hj
    go_upto_block 2 with (first|((first|((with_reducible refine kgA 8 ?_);refine kA 8 H ?_)|((with_reducible refine kgX 8 ?_);(first|refine kS 8 H ?_|refine kB 8 H ?_)));clear H;intro b8 w H;try simp only[nr]at H)|(first|((with_reducible refine gT ?_);(refine aT H ?_;clear H;intro w H;try simp only[nr]at H))|((with_reducible refine gL ?_);(first|refine aG H ?_|refine aD H ?_))))
    obtain⟨Gk,hGk,H2⟩:=H.rowKnows (i:=1) i_1 hxl (Still.at (i:=2) i_2) (H.kn (i:=2) i_2);clear H;have H:=H2;clear H2;simp only[List.set_cons_succ,List.set_cons_zero]at H;have hGl:∀ b,Gk b→w0.heap.size≤b∨F b:=fun b hb=>(hGk b hb).elim .inl (hFa b)
    obtain⟨o,ho⟩:∃ o,ruleT d (.mk d (xs.map (·.1))) (xa.map (·.1))=o:=⟨_,rfl⟩;have ER:=Lib.hid (show simpleT (.mk d (xs.map (·.1)))=capT o by rw[simpleT,EX.out,← ho])
    have HO:=Lib.hid ho;clear ho;have HXL:=Lib.hid hxl;clear hxl dj E;simp only[pl];refine wp_cut (fun a' w'=>(∃ t:Array Value,a'=({tmps:=t,defers:=[]}:Act)∧t.size=73∧t[1]?=some (.pointer (some ⟨b1,0,none⟩))∧t[2]?=some (.pointer (some ⟨b2,0,none⟩))∧t[8]?=some (.pointer (some ⟨b8,0,none⟩))∧t[9]?=some (.bool o.isSome))∧RuleB w0 w' F b2 b8 o) ?rest ?first
    case first =>
     intro J K' hJ hM
     by_cases h7:d.kind=7
     ·have d7:(d.kind == 7)=true:=by rw[beq_iff_eq];exact h7
      have hn1:n=1:=by rw[HN2.out];exact ok_7 HKD.out.1 h7
      obtain⟨y,rfl⟩:=List.length_eq_one_iff.1 (HXL.out.trans hn1);subst hn1;obtain⟨g,off,rfl⟩:=(H.kn (i:=1) i_1).at (by simp)
      have hkd:∀ V,Knows Gk (some ⟨g,off,none⟩) 1 vc [y] V→V.cell? ⟨g,off,none⟩=some (.int .i64 y.1.d.kind):=fun V h=>(h.cells (j:=0) rfl rfl 0 (by decide)).trans rfl
      by_cases h2:y.1.d.kind=2
      ·have dh:(y.1.d.kind == 2)=true:=by rw[beq_iff_eq];exact h2
       have eo:o=some (leafT 2):=by rw[← HO.out,ruleT.eq_def,if_pos h7];simp[h2]
       subst eo;clear h7 h2
       go_wp2_with (first|((with_reducible refine gT ?_);refine own_store1 wtd_ _ _ _ rfl rfl evd_ H (i:=5) i_5 rfl (by show 5<10;omega) (by with_reducible exact one_size one_kids) ?_;clear H;intro w H;(rw[nodeC_set5]at H);try simp only[nr]at H)|((with_reducible refine gL ?_);refine own_load1K wtd_ _ _ rfl rfl one_spot (hkd _ (H.kn (i:=1) i_1)) ?_)|((with_reducible refine gT ?_);((first|refine aO H ?_|refine aT H ?_);clear H;intro w H;try simp only[nr]at H))|(go_at_call 139;(with_reducible refine ch (hno _) H ?_);clear H;intro w H))
       have H2:=H.also (fun _=>False) (fun V=>ForestR V (fun _=>False) none 0 []) Still.none (fun V _=>ForestR.nil ..)
       have H3:=H2.pick [4,5,6] [.blk b2 (nodeC {kind:=0} nilS) 87,.blk b8 (nodeC {kind:=2} nilS) 87,.kn (fun _=>False) (fun V=>ForestR V (fun _=>False) none 0 [])] (by decide) rfl
       (refine Met.intro ?_;go_step;exact⟨⟨_,rfl,rfl,rfl,rfl,rfl,rfl⟩,⟨none,0,fun _=>False,fun _ h=>h.elim,H3⟩⟩)
      ·have dh:(y.1.d.kind == 2)=false:=by rw[beq_eq_false_iff_ne];exact h2
       have eo:o=some (.mk d [y.1]):=by rw[← HO.out,ruleT.eq_def,if_pos h7];simp[h2]
       subst eo;clear h7 h2
       go_wp2_with (first|((with_reducible refine gT ?_);refine own_store1 wtd_ _ _ _ rfl rfl evd_ H (i:=5) i_5 rfl (by show 5<10;omega) (by with_reducible exact one_size one_kids) ?_;clear H;intro w H;(rw[nodeC_set5]at H);try simp only[nr]at H)|((with_reducible refine gL ?_);refine own_load1K wtd_ _ _ rfl rfl one_spot (hkd _ (H.kn (i:=1) i_1)) ?_)|((with_reducible refine gT ?_);(refine aO H ?_;clear H;intro w H;try simp only[nr]at H)))
       have H2:=H.also Gk (fun V=>ForestR V Gk (some ⟨g,off,none⟩) vc [y.1]) (Still.at (i:=1) i_1) (fun V hV=>((H.kn (i:=1) i_1).forestN rfl).kept hV)
       have H3:=H2.pick [4,5,6] [.blk b2 (nodeC {kind:=0} nilS) 87,.blk b8 (nodeC d (.slice (some ⟨g,off,none⟩) 1 vc)) 87,.kn Gk (fun V=>ForestR V Gk (some ⟨g,off,none⟩) vc [y.1])] (by decide) rfl
       (refine Met.intro ?_;go_step;exact⟨⟨_,rfl,rfl,rfl,rfl,rfl,rfl⟩,⟨some ⟨g,off,none⟩,vc,Gk,hGl,H3⟩⟩)
     ·have d7:(d.kind == 7)=false:=by rw[beq_eq_false_iff_ne];exact h7
      by_cases h4:d.kind=4
      ·have d4:(d.kind == 4)=true:=by rw[beq_iff_eq];exact h4
       have eo:o=some (catT (xa.map (·.1))):=by rw[← HO.out,ruleT.eq_def,if_neg h7,if_pos h4]
       subst eo;have hsz:sizeTs (xa.map (·.1))≤1000000000:=by have:=simpleTs_size EX.out;have h2:=HN2.out;omega
       have hcat:=fun W (h1:∀ b,Gk b→b<W.heap.size) (h2:Knows Gk vq n vc xa W)=>ref_cat vq n vc Gk (xa.map (·.1)) W h1 (h2.forestN HXL.out) (by rw[List.length_map,HXL.out]) hsz
       obtain⟨ct,hct⟩:∃ ct,catT (xa.map (·.1))=ct:=⟨_,rfl⟩;rw[hct]at hcat hJ ER HO;clear h7 h4 hsz hct
       go_wp2_with (first|((with_reducible refine gT ?_);(refine aT H ?_;clear H;intro w H;try simp only[nr]at H))|(go_at_call 140;refine cht (hcat _ (H.knlt (i:=1) i_1) (H.kn (i:=1) i_1)) H (Still.at (i:=1) i_1) ?_;clear H;intro q3 m3 F3 w hF3 H;simp only[List.cons_append,List.nil_append]at H))
       have hF4:∀ b,F3 b→w0.heap.size≤b∨F b:=fun b h=>(hF3 b h).elim .inl (hGl b)
       have H3:=H.pick [4,5,6] [.blk b2 (nodeC {kind:=0} nilS) 87,.blk b8 (nodeC ct.d (.slice q3 ct.kids.length m3)) 87,.kn F3 (fun V=>ForestR V F3 q3 m3 ct.kids)] (by decide) rfl
       (refine Met.intro ?_;go_step;exact⟨⟨_,rfl,rfl,rfl,rfl,rfl,rfl⟩,⟨q3,m3,F3,hF4,H3⟩⟩)
      ·have d4:(d.kind == 4)=false:=by rw[beq_eq_false_iff_ne];exact h4
       by_cases h5:d.kind=5
       ·have d5:(d.kind == 5)=true:=by rw[beq_iff_eq];exact h5
        have eo:o=some (rowN 5 (flatT (xa.map (·.1)) 5 2) (leafT 2)):=by rw[← HO.out,ruleT.eq_def,if_neg h7,if_neg h4,if_pos h5]
        subst eo;have hsz:sizeTs (xa.map (·.1))≤1000000000:=by have:=simpleTs_size EX.out;have h2:=HN2.out;omega
        have hfl:=fun W (h1:∀ b,Gk b→b<W.heap.size) (h2:Knows Gk vq n vc xa W)=>ref_flat vq n vc 5 2 Gk (xa.map (·.1)) W h1 (h2.forestN HXL.out) (by rw[List.length_map,HXL.out]) hsz
        obtain⟨fts,hft⟩:∃ fts,flatT (xa.map (·.1)) 5 2=fts:=⟨_,rfl⟩;rw[hft]at hfl hJ ER HO;have hrow:=fun W q m F (h1:∀ b,F b→b<W.heap.size) (h2:ForestR W F q m fts)=>ref_row11 5 2 q m fts.length F fts W h1 h2 rfl
        obtain⟨ct,hct⟩:∃ ct,rowN 5 fts (leafT 2)=ct:=⟨_,rfl⟩;rw[hct]at hrow hJ ER HO;clear h7 h4 h5 hsz hct hft
        go_wp2_with (first|((with_reducible refine gT ?_);(refine aT H ?_;clear H;intro w H;try simp only[nr]at H))|(go_at_call 142;refine chl (hfl _ (H.knlt (i:=1) i_1) (H.kn (i:=1) i_1)) H (Still.at (i:=1) i_1) ?_;clear H;intro q1 m1 F1 w hF1 H;simp only[List.cons_append,List.nil_append]at H)|(go_at_call 139;(with_reducible refine ch (hno _) H ?_);clear H;intro w H)|(go_at_call 141;refine cht (hrow _ _ _ _ (H.knlt (i:=6) i_6) (H.kn (i:=6) i_6)) H (Still.at (i:=6) i_6) ?_;clear H;intro q3 m3 F3 w hF3 H;simp only[List.cons_append,List.nil_append]at H))
        have hF4:∀ b,F3 b→w0.heap.size≤b∨F b:=fun b h=>(hF3 b h).elim .inl (fun h=>(hF1 b h).elim .inl (hGl b))
        have H3:=H.pick [4,5,7] [.blk b2 (nodeC {kind:=0} nilS) 87,.blk b8 (nodeC ct.d (.slice q3 ct.kids.length m3)) 87,.kn F3 (fun V=>ForestR V F3 q3 m3 ct.kids)] (by decide) rfl
        (refine Met.intro ?_;go_step;exact⟨⟨_,rfl,rfl,rfl,rfl,rfl,rfl⟩,⟨q3,m3,F3,hF4,H3⟩⟩)
       ·have d5:(d.kind == 5)=false:=by rw[beq_eq_false_iff_ne];exact h5
        by_cases h6:d.kind=6
        ·have d6:(d.kind == 6)=true:=by rw[beq_iff_eq];exact h6
         obtain⟨hn1',hlo,hhi⟩:=ok_6 HKD.out.1 h6;have hn1:n=1:=by rw[HN2.out];exact hn1'
         obtain⟨y,rfl⟩:=List.length_eq_one_iff.1 (HXL.out.trans hn1);subst hn1;clear hn1';obtain⟨g,off,rfl⟩:=(H.kn (i:=1) i_1).at (by simp)
         have hky:sizeT y.1≤2000:=by
          have h1:=simpleTs_size EX.out;rw[← HN2.out]at h1
          simpa [sizeTs] using h1
         have eo:o=repeatT d y.1:=by rw[← HO.out,ruleT.eq_def,if_neg h7,if_neg h4,if_neg h5,if_pos h6];rfl
         have hrep:=fun W (h1:∀ b,Gk b→b<W.heap.size) (h2:Knows Gk (some ⟨g,off,none⟩) 1 vc [y] W)=>ref_repeat11 d p 1 c y.1 y.2.1 y.2.2 Gk W hlo hhi hky h1 (h2.2 y (List.mem_singleton.2 rfl))
         rw[← eo]at hrep;clear h7 h4 h5 h6 eo hlo hhi hky
         go_upto_region 21 with (first|fail)
         have HSW:=Lib.hid H.keep.size;refine wp_region_late 8 7 [fun v _=>v=nodeV d (.slice p 1 c),fun v _=>v=.slice (some ⟨g,off,none⟩) 1 vc,fun v _=>v=.pointer (some ⟨g,off,none⟩),fun v _=>v=.agg (nodeX y),CallB w.heap.size Gk o,CallB w.heap.size Gk o,FstB w.heap.size Gk o,fun v _=>v=.bool o.isSome] (fun _=>false) (by kernel_rfl) (by kernel_rfl) (by kernel_rfl) ⟨stable_eq _,stable_eq _,stable_eq _,stable_eq _,stable_callB,stable_callB,stable_fstB,stable_eq _,trivial⟩ (fun _ _ h=>by cases h) ?ob ?en ?en2
         case ob =>
          refine⟨?_,?_,?_,?_,?_,?_,?_,?_,trivial⟩<;>intro A W h
          ·exact rs_pure rfl (run_loadK rfl (h.frame 1 rfl) row_Node rfl (fun k _=>by rw[Nat.zero_add];exact(H.call h.below).cell (i:=3) i_3 k)) (by decide)
          ·exact rs_move rfl rfl (h.frame 4 rfl) (by decide)
          ·(have e60:A.eval (.tmp 60)=.slice (some ⟨g,off,none⟩) 1 vc:=h.dep 1 60 rfl rfl;refine rs_pure rfl ?_ (by decide);simp only[execOp,e60];simp[go_sem])
          ·exact rs_pure rfl (run_loadK rfl (h.dep 2 61 rfl rfl) row_Node (nodeX_size y) (fun k hk=>((H.call h.below).kn (i:=1) i_1).cells (j:=0) rfl rfl k hk)) (by decide)
          ·refine rs_calln' rfl rfl (enters_of Tryz.func143 (by kernel_rfl) rfl) (args2 ⟨h.dep 0 59 rfl rfl,h.dep 3 62 rfl rfl⟩) ((hrep W ((H.call h.below).knlt (i:=1) i_1) ((H.call h.below).kn (i:=1) i_1)).mono ?_)
           rintro e w' ⟨hT,hb⟩;obtain⟨v,he,hv⟩:=hT.callB h.below.size;exact⟨v,he,hb,hv,fun h=>by cases h⟩
          ·refine rs_val rfl ?_ (Below.refl _ W) ⟨h.dep 4 63 rfl rfl,fun h=>by cases h⟩
           simp only[execOp];rfl
          ·obtain⟨x,ex,hx⟩:=CallB.fst (h.dep 5 58 rfl rfl);refine rs_val rfl ?_ (Below.refl _ W) ⟨hx,fun h=>by cases h⟩
           simp only[execOp,ex];simp[go_sem]
          ·obtain⟨x,ex,hx⟩:=CallB.fst (h.dep 5 58 rfl rfl);refine rs_pure rfl ?_ (by decide)
           simp only[execOp,ex];simp[go_sem]
         case en =>
          intro vals W hbw hv _;have v0:vals 0=nodeV d (.slice p 1 c):=hv 0 (by omega)
          have v1:vals 1=.slice (some ⟨g,off,none⟩) 1 vc:=hv 1 (by omega)
          have v2:vals 2=.pointer (some ⟨g,off,none⟩):=hv 2 (by omega)
          have v3:vals 3=.agg (nodeX y):=hv 3 (by omega)
          have v7:vals 7=.bool o.isSome:=hv 7 (by omega)
          have x6:FstB w.heap.size Gk o (vals 6) W:=hv 6 (by omega)
          simp only[fa,Nat.reduceAdd];rw[v0,v1,v2,v3,v7];clear hv v0 v1 v2 v3 v7;simp only[pl];clear hrep
          cases o with
          | none =>
           obtain⟨d1,q1,n1,c1,e6⟩:=x6;rw[e6];clear e6;replace H:=H.call hbw;clear hbw
           go_wp2_with (first|((with_reducible refine gT ?_);(refine aT H ?_;clear H;intro w H;try simp only[nr]at H)))
           have H3:=H.pick [4,5] [.blk b2 (nodeC {kind:=0} nilS) 87,.blk b8 (nodeC d1 (.slice q1 n1 c1)) 87] (by decide) rfl
           (refine Met.intro ?_;go_step;exact⟨⟨_,rfl,rfl,rfl,rfl,rfl,rfl⟩,⟨d1,q1,n1,c1,H3⟩⟩)
          | some ct =>
           obtain⟨q3,m3,F3,e6,hs,hF3⟩:=x6;rw[e6];clear e6;replace H:=H.learn hbw (Still.at (i:=1) i_1) hF3 (fun V hV=>hs.kept hV);simp only[List.cons_append,List.nil_append]at H
           have hF4:∀ b,F3 b→w0.heap.size≤b∨F b:=fun b h=>(hF3 b h).2.elim (fun h=>.inl (Nat.le_trans HSW.out h)) (hGl b)
           clear hbw hs hF3
           go_wp2_with (first|((with_reducible refine gT ?_);(refine aT H ?_;clear H;intro w H;try simp only[nr]at H)))
           have H3:=H.pick [4,5,6] [.blk b2 (nodeC {kind:=0} nilS) 87,.blk b8 (nodeC ct.d (.slice q3 ct.kids.length m3)) 87,.kn F3 (fun V=>ForestR V F3 q3 m3 ct.kids)] (by decide) rfl
           (refine Met.intro ?_;go_step;exact⟨⟨_,rfl,rfl,rfl,rfl,rfl,rfl⟩,⟨q3,m3,F3,hF4,H3⟩⟩)
         case en2 =>
          intro vals W hbw hv _;have v0:vals 0=nodeV d (.slice p 1 c):=hv 0 (by omega) (by omega)
          have v1:vals 1=.slice (some ⟨g,off,none⟩) 1 vc:=hv 1 (by omega) (by omega)
          have v2:vals 2=.pointer (some ⟨g,off,none⟩):=hv 2 (by omega) (by omega)
          have v3:vals 3=.agg (nodeX y):=hv 3 (by omega) (by omega)
          obtain⟨x5,v5,_⟩:=CallB.fst (show CallB w.heap.size Gk o (vals 5) W from hv 5 (by omega) (by omega))
          have x6:FstB w.heap.size Gk o (vals 6) W:=hv 6 (by omega) (by omega)
          simp only[List.take_succ_cons,List.take_zero,List.drop_succ_cons,List.drop_zero,List.drop_nil,List.take_nil,fillBut,lateL,List.cons_append,List.nil_append,Nat.reduceEqDiff,if_true,if_false,reduceCtorEq,Nat.zero_add,Nat.reduceAdd];rw[v0,v1,v2,v3,v5];clear hv v0 v1 v2 v3 v5;simp only[pl];clear hrep
          cases o with
          | none =>
           obtain⟨d1,q1,n1,c1,e6⟩:=x6;rw[e6];clear e6;replace H:=H.call hbw;clear hbw
           go_wp2_with (first|((with_reducible refine gT ?_);(refine aT H ?_;clear H;intro w H;try simp only[nr]at H)))
           have H3:=H.pick [4,5] [.blk b2 (nodeC {kind:=0} nilS) 87,.blk b8 (nodeC d1 (.slice q1 n1 c1)) 87] (by decide) rfl
           (refine Met.intro ?_;go_step;exact⟨⟨_,rfl,rfl,rfl,rfl,rfl,rfl⟩,⟨d1,q1,n1,c1,H3⟩⟩)
          | some ct =>
           obtain⟨q3,m3,F3,e6,hs,hF3⟩:=x6;rw[e6];clear e6;replace H:=H.learn hbw (Still.at (i:=1) i_1) hF3 (fun V hV=>hs.kept hV);simp only[List.cons_append,List.nil_append]at H
           have hF4:∀ b,F3 b→w0.heap.size≤b∨F b:=fun b h=>(hF3 b h).2.elim (fun h=>.inl (Nat.le_trans HSW.out h)) (hGl b)
           clear hbw hs hF3
           go_wp2_with (first|((with_reducible refine gT ?_);(refine aT H ?_;clear H;intro w H;try simp only[nr]at H)))
           have H3:=H.pick [4,5,6] [.blk b2 (nodeC {kind:=0} nilS) 87,.blk b8 (nodeC ct.d (.slice q3 ct.kids.length m3)) 87,.kn F3 (fun V=>ForestR V F3 q3 m3 ct.kids)] (by decide) rfl
           (refine Met.intro ?_;go_step;exact⟨⟨_,rfl,rfl,rfl,rfl,rfl,rfl⟩,⟨q3,m3,F3,hF4,H3⟩⟩)
        ·have d6:(d.kind == 6)=false:=by rw[beq_eq_false_iff_ne];exact h6
         have eo:o=some (.mk d (xs.map (·.1))):=by rw[← HO.out,ruleT.eq_def,if_neg h7,if_neg h4,if_neg h5,if_neg h6]
         subst eo;clear h7 h4 h5 h6
         go_wp2_with (first|fail)
         have H2:=H.also F (fun V=>ForestR V F p c (xs.map (·.1))) (Still.at (i:=0) .zero) (fun V hV=>((H.kn (i:=0) .zero).forestN HN.out.symm).kept hV)
         have H3:Hold w0 w [.blk b2 (nodeC {kind:=0} nilS) 87,.blk b8 (nodeC d (.slice p (xs.map (·.1)).length c)) 87,.kn F (fun V=>ForestR V F p c (xs.map (·.1)))]:=by
          rw[← HN2.out];exact H2.pick [4,5,6] _ (by decide) rfl
         (refine Met.intro ?_;go_step;exact⟨⟨_,rfl,rfl,rfl,rfl,rfl,rfl⟩,⟨p,c,F,fun _ h=>.inr h,H3⟩⟩)
    (rintro _ wc ⟨⟨t,rfl,ht,e1,e2,e8,e9⟩,hcut⟩;have hl:=lit73 t ht;clear ht;obtain⟨u0,hl⟩:=hl;obtain⟨u1,hl⟩:=hl;obtain⟨u2,hl⟩:=hl;obtain⟨u3,hl⟩:=hl;obtain⟨u4,hl⟩:=hl;obtain⟨u5,hl⟩:=hl;obtain⟨u6,hl⟩:=hl;obtain⟨u7,hl⟩:=hl;obtain⟨u8,hl⟩:=hl;obtain⟨u9,hl⟩:=hl;obtain⟨u10,hl⟩:=hl;obtain⟨u11,hl⟩:=hl;obtain⟨u12,hl⟩:=hl;obtain⟨u13,hl⟩:=hl;obtain⟨u14,hl⟩:=hl;obtain⟨u15,hl⟩:=hl;obtain⟨u16,hl⟩:=hl;obtain⟨u17,hl⟩:=hl;obtain⟨u18,hl⟩:=hl;obtain⟨u19,hl⟩:=hl;obtain⟨u20,hl⟩:=hl;obtain⟨u21,hl⟩:=hl;obtain⟨u22,hl⟩:=hl;obtain⟨u23,hl⟩:=hl;obtain⟨u24,hl⟩:=hl;obtain⟨u25,hl⟩:=hl;obtain⟨u26,hl⟩:=hl;obtain⟨u27,hl⟩:=hl;obtain⟨u28,hl⟩:=hl;obtain⟨u29,hl⟩:=hl;obtain⟨u30,hl⟩:=hl;obtain⟨u31,hl⟩:=hl;obtain⟨u32,hl⟩:=hl;obtain⟨u33,hl⟩:=hl;obtain⟨u34,hl⟩:=hl;obtain⟨u35,hl⟩:=hl;obtain⟨u36,hl⟩:=hl;obtain⟨u37,hl⟩:=hl;obtain⟨u38,hl⟩:=hl;obtain⟨u39,hl⟩:=hl;obtain⟨u40,hl⟩:=hl;obtain⟨u41,hl⟩:=hl;obtain⟨u42,hl⟩:=hl;obtain⟨u43,hl⟩:=hl;obtain⟨u44,hl⟩:=hl;obtain⟨u45,hl⟩:=hl;obtain⟨u46,hl⟩:=hl;obtain⟨u47,hl⟩:=hl;obtain⟨u48,hl⟩:=hl;obtain⟨u49,hl⟩:=hl;obtain⟨u50,hl⟩:=hl;obtain⟨u51,hl⟩:=hl;obtain⟨u52,hl⟩:=hl;obtain⟨u53,hl⟩:=hl;obtain⟨u54,hl⟩:=hl;obtain⟨u55,hl⟩:=hl;obtain⟨u56,hl⟩:=hl;obtain⟨u57,hl⟩:=hl;obtain⟨u58,hl⟩:=hl;obtain⟨u59,hl⟩:=hl;obtain⟨u60,hl⟩:=hl;obtain⟨u61,hl⟩:=hl;obtain⟨u62,hl⟩:=hl;obtain⟨u63,hl⟩:=hl;obtain⟨u64,hl⟩:=hl;obtain⟨u65,hl⟩:=hl;obtain⟨u66,hl⟩:=hl;obtain⟨u67,hl⟩:=hl;obtain⟨u68,hl⟩:=hl;obtain⟨u69,hl⟩:=hl;obtain⟨u70,hl⟩:=hl;obtain⟨u71,hl⟩:=hl;obtain⟨u72,hl⟩:=hl;subst hl;(replace e1:some u1=some (.pointer (some ⟨b1,0,none⟩)):=e1);(cases e1);(replace e2:some u2=some (.pointer (some ⟨b2,0,none⟩)):=e2);(cases e2);(replace e8:some u8=some (.pointer (some ⟨b8,0,none⟩)):=e8);(cases e8);(replace e9:some u9=some (.bool o.isSome):=e9);(cases e9))
    clear H
    cases o with
    | none =>
     obtain⟨d1,q1,n1,c1,H⟩:=hcut
     go_upto_region 22 with fail
     have hS:∀ W,RelS b2 (nodeC d1 (.slice q1 n1 c1)) 87 wc W→∃ ds,ds.size=10∧Hold w0 W [.blk b2 ds 87,.blk b8 (nodeC d1 (.slice q1 n1 c1)) 87]:=fun W hr=>by
      obtain⟨ds,hds,H2⟩:=H.relS (i:=0) .zero hr;exact⟨ds,by rcases hds with rfl|rfl<;>rfl,H2⟩
     refine wp_region_specM (RelS b2 (nodeC d1 (.slice q1 n1 c1)) 87) RelS.refl RelS.trans RelS.drew 8 [fun v _=>v=nodeV d1 (.slice q1 n1 c1),fun v _=>v=.bool false,fun v _=>v=.bool false,fun v _=>v=undef,fun v _=>v=undef,fun v _=>v=undef,fun v _=>v=.bool false,LaidS b2 (nodeC d1 (.slice q1 n1 c1)) 87]
      ⟨stableR_eq _,stableR_eq _,stableR_eq _,stableR_eq _,stableR_eq _,stableR_eq _,stableR_eq _,stable_laidS,trivial⟩ (by kernel_rfl) (by kernel_rfl) (by kernel_rfl) ?ob ?en
     case ob =>
      refine⟨?_,?_,?_,?_,?_,?_,?_,?_,trivial⟩<;>intro A W h
      ·obtain⟨ds,hsz,H2⟩:=hS W h.rel;exact rm_of rfl (rq_pure RelS.refl rfl (run_loadK rfl (h.frame 8 rfl) row_Node rfl (fun k _=>by rw[Nat.zero_add];exact H2.cell (i:=1) i_1 k)))
      ·exact rm_of rfl (rq_move RelS.refl rfl rfl (h.frame 9 rfl))
      ·exact rm_of rfl (rq_move RelS.refl rfl rfl (h.dep 1 67 rfl rfl))
      ·exact rm_of rfl (rq_skip (not_wanted_g rfl (yielded_of (d:=68) rfl (h.dep 2 68 rfl rfl)) (by decide)) rfl)
      ·exact rm_of rfl (rq_skip (not_wanted_g rfl (yielded_of (d:=68) rfl (h.dep 2 68 rfl rfl)) (by decide)) rfl)
      ·exact rm_of rfl (rq_skip (not_wanted_g rfl (yielded_of (d:=68) rfl (h.dep 2 68 rfl rfl)) (by decide)) rfl)
      ·exact rm_of rfl (rq_pick RelS.refl rfl rfl (h.dep 2 68 rfl rfl) rfl)
      ·obtain⟨ds,hsz,H2⟩:=hS W h.rel;exact rs_laid rfl rfl rfl (h.frame 2 rfl) (H2.blk (i:=0) .zero).2 hsz (h.dep 0 66 rfl rfl) (row_size (n:=10) row_Node) rfl
     case en =>
      intro vals W1 hrel hv hlk;have v0:vals 0=nodeV d1 (.slice q1 n1 c1):=hv 0 (by omega)
      have v1:vals 1=.bool false:=hv 1 (by omega)
      have v2:vals 2=.bool false:=hv 2 (by omega)
      have v3:vals 3=undef:=hv 3 (by omega)
      have v4:vals 4=undef:=hv 4 (by omega)
      have v5:vals 5=undef:=hv 5 (by omega)
      have v6:vals 6=.bool false:=hv 6 (by omega)
      have H2:=H.laidS (i:=0) .zero hrel (hv 7 (by omega))
      simp only[fa,Nat.reduceAdd];rw[v0,v1,v2,v3,v4,v5,v6];clear hv v0 v1 v2 v3 v4 v5 v6 hlk hrel H hS;have H:=H2;clear H2;simp only[List.set_cons_succ,List.set_cons_zero]at H;simp only[pl]
      go_wp2_with fail
      (refine ret_ct Tryz.results111 rfl (by first|rfl|(simp only[pl];rfl)) H atd_ (by first|(with_reducible exact row_Node)|(with_reducible exact row_Set)|(with_reducible exact row_Flags)|(with_reducible exact row_Word)) (by rfl) rfl ?_)
      exact⟨TreeB.no ER.out,H.below⟩
    | some t =>
     obtain⟨q1,c1,G1,hG1,H⟩:=hcut;have hsz:sizeT t≤1000000000000:=by
      have h1:=simpleTs_size EX.out;have h2:=HN2.out;rw[← h2]at h1;have h3:=HO.out;unfold ruleT at h3;split at h3
      ·split at h3
       ·cases h3
       ·split at h3
        ·cases h3;rw[size_leaf];omega
        ·cases h3;simp only[sizeT];omega
      split at h3
      ·cases h3;have:=size_catT (xa.map (·.1));omega
      split at h3
      ·cases h3
       have h5:=size_rowN 5 (flatT (xa.map (·.1)) 5 2) (leafT 2) (size_leaf 2);have h6:=size_flatT (xa.map (·.1)) 5 2;omega
      split at h3
      ·rename_i h6;obtain⟨hk1,hlo,hhi⟩:=ok_6 HKD.out.1 h6;split at h3
       ·cases h3
       ·rename_i l k r hl;rw[hl]at h1;simp only[sizeTs]at h1;rw[← h2]at hk1;have:=size_repeatT h3 (by omega) hlo.1 (by omega) (by omega)
        omega
      ·cases h3;simp only[sizeT];omega
     clear HO
     go_upto_region 22 with fail
     have hS:∀ W,RelS b2 (nodeC t.d (.slice q1 t.kids.length c1)) 87 wc W→∃ ds,ds.size=10∧Hold w0 W [.blk b2 ds 87,.blk b8 (nodeC t.d (.slice q1 t.kids.length c1)) 87,.kn G1 (fun V=>ForestR V G1 q1 c1 t.kids)]:=fun W hr=>by
      obtain⟨ds,hds,H2⟩:=H.relS (i:=0) .zero hr;exact⟨ds,by rcases hds with rfl|rfl<;>rfl,H2⟩
     refine wp_region_specM (RelS b2 (nodeC t.d (.slice q1 t.kids.length c1)) 87) RelS.refl RelS.trans RelS.drew 8 [fun v _=>v=nodeV t.d (.slice q1 t.kids.length c1),fun v _=>v=.bool true,fun v _=>v=.bool true,fun v _=>v=nodeV t.d (.slice q1 t.kids.length c1),fun v _=>v=.int .i64 (sizeT t),fun v _=>v=.bool (decide ((sizeT t:Int)≤2000)),fun v _=>v=.bool (decide ((sizeT t:Int)≤2000)),LaidS b2 (nodeC t.d (.slice q1 t.kids.length c1)) 87]
      ⟨stableR_eq _,stableR_eq _,stableR_eq _,stableR_eq _,stableR_eq _,stableR_eq _,stableR_eq _,stable_laidS,trivial⟩ (by kernel_rfl) (by kernel_rfl) (by kernel_rfl) ?ob ?en
     case ob =>
      refine⟨?_,?_,?_,?_,?_,?_,?_,?_,trivial⟩<;>intro A W h
      ·obtain⟨ds,hsz,H2⟩:=hS W h.rel;exact rm_of rfl (rq_pure RelS.refl rfl (run_loadK rfl (h.frame 8 rfl) row_Node rfl (fun k _=>by rw[Nat.zero_add];exact H2.cell (i:=1) i_1 k)))
      ·exact rm_of rfl (rq_move RelS.refl rfl rfl (h.frame 9 rfl))
      ·exact rm_of rfl (rq_move RelS.refl rfl rfl (h.dep 1 67 rfl rfl))
      ·obtain⟨ds,hsz,H2⟩:=hS W h.rel;exact rm_of rfl (rq_pure RelS.refl (wanted_g rfl (yielded_of (d:=68) rfl (h.dep 2 68 rfl rfl))) (run_loadK rfl (h.frame 8 rfl) row_Node rfl (fun k _=>by rw[Nat.zero_add];exact H2.cell (i:=1) i_1 k)))
      ·obtain⟨ds,hsz2,H2⟩:=hS W h.rel;exact rm_of rfl (rq_calln (wanted_g rfl (yielded_of (d:=68) rfl (h.dep 2 68 rfl rfl))) rfl (enters_of Tryz.func138 (by kernel_rfl) rfl) (args1 (h.dep 3 69 rfl rfl)) ((ref_Size _ t q1 _ c1 G1 W hsz (by decide) (H2.knlt (i:=2) i_2) (H2.kn (i:=2) i_2) rfl).mono fun _ _ ⟨h1,h2⟩=>⟨h1,RelS.of_below h2⟩))
      ·(have e70:A.eval (.tmp 70)=.int .i64 (sizeT t):=h.dep 4 70 rfl rfl;refine rm_of rfl (rq_pure RelS.refl (wanted_g rfl (yielded_of (d:=68) rfl (h.dep 2 68 rfl rfl))) ?_);simp only[execOp,e70];simp[go_sem])
      ·exact rm_of rfl (rq_pick RelS.refl rfl rfl (h.dep 2 68 rfl rfl) (h.dep 5 71 rfl rfl))
      ·obtain⟨ds,hsz,H2⟩:=hS W h.rel;exact rs_laid rfl rfl rfl (h.frame 2 rfl) (H2.blk (i:=0) .zero).2 hsz (h.dep 0 66 rfl rfl) (row_size (n:=10) row_Node) rfl
     case en =>
      intro vals W1 hrel hv hlk;have v0:vals 0=nodeV t.d (.slice q1 t.kids.length c1):=hv 0 (by omega)
      have v1:vals 1=.bool true:=hv 1 (by omega)
      have v2:vals 2=.bool true:=hv 2 (by omega)
      have v3:vals 3=nodeV t.d (.slice q1 t.kids.length c1):=hv 3 (by omega)
      have v4:vals 4=.int .i64 (sizeT t):=hv 4 (by omega)
      have v5:vals 5=.bool (decide ((sizeT t:Int)≤2000)):=hv 5 (by omega)
      have v6:vals 6=.bool (decide ((sizeT t:Int)≤2000)):=hv 6 (by omega)
      have H2:=H.laidS (i:=0) .zero hrel (hv 7 (by omega))
      simp only[fa,Nat.reduceAdd];rw[v0,v1,v2,v3,v4,v5,v6];clear hv v0 v1 v2 v3 v4 v5 v6 hlk hrel H hS;have H:=H2;clear H2;simp only[List.set_cons_succ,List.set_cons_zero]at H;simp only[pl]
      go_wp2_with fail
      (refine ret_ct Tryz.results111 rfl (by first|rfl|(simp only[pl];rfl)) H atd_ (by first|(with_reducible exact row_Node)|(with_reducible exact row_Set)|(with_reducible exact row_Flags)|(with_reducible exact row_Word)) (by rfl) rfl ?_)
      refine⟨?_,H.below⟩;rw[ER.out]
      by_cases hz:sizeT t≤2000
      ·rw[show capT (some t)=some t from if_pos hz,decide_eq_true (by omega:(sizeT t:Int)≤2000)]
       exact⟨q1,c1,G1,rfl,H.kn (i:=2) i_2,fun b h=>⟨H.knlt (i:=2) i_2 b h,hG1 b h⟩⟩
      ·rw[show capT (some t)=none from if_neg hz,decide_eq_false (by omega:¬ (sizeT t:Int)≤2000)]
       exact⟨t.d,q1,_,c1,rfl⟩
section
variable {M:Nat→Prop} {P:Program} {f:FuncId} {args:Array Value} {w w0:World} {l3:List Res} {R:Ending→World→Prop} {bc:Nat} {v r:Value} {xs ys:List InstD} {F:Nat→Prop} {S:World→Prop}
def LayB (M:Nat→Prop) (w0:World) (bc:Nat) (v:Value) (xs:List InstD) (K:List Res) (w:World) (r:Value) (ys:List InstD) (e:Ending) (w':World):Prop :=
 ∃ v',e=.returned r∧Turned M w0 w (codeL bc v xs++K) (codeL bc v' ys++K) w'
theorem picks {l:List Res}:∀ (n:Nat) (pre:List Res),pre.length=n→(List.range' n l.length).map (fun j=>(pre++l)[j]?)=l.map some:=by
 intro n pre hn;apply List.ext_getElem?;intro i;simp only[List.getElem?_map,List.getElem?_range']
 by_cases h:i<l.length
 ·simp[h,List.getElem?_append,hn]
 ·simp[h]
theorem chP (H:HoldG M w0 w (.blk bc #[v] 145::.row v 43 9 xs.length (flatR (xs.map instC))::l3))
  (c:HoldG M w0 w (codeL bc v xs)→Calls P f args w (LayB M w0 bc v xs [] w r ys))
  (k:∀ v' w',HoldG M w0 w' (.blk bc #[v'] 145::.row v' 43 9 ys.length (flatR (ys.map instC))::l3)→R (.returned r) w'):Calls P f args w R:=by
 refine(c (H.pick [0,1] _ (by decide) rfl)).mono ?_
 rintro e w' ⟨v',rfl,T⟩;simp only[List.append_nil]at T;refine k v' w' (H.callIn T [0,1] (List.range' 2 l3.length) rfl (picks 2 [_,_] rfl) List.nodup_range' (fun j hj h=>?_))
 rw[List.mem_range'_1]at h;simp at hj;omega
theorem chL (H:HoldG M w0 w (.blk bc #[v] 145::.row v 43 9 xs.length (flatR (xs.map instC))::l3)) (hF:Still (.blk bc #[v] 145::.row v 43 9 xs.length (flatR (xs.map instC))::l3) F)
  (hS:∀ V:World,(∀ b,F b→V.heap[b]?=w.heap[b]?)→S V)
  (c:HoldG M w0 w (codeL bc v xs++[.kn F S])→Calls P f args w (LayB M w0 bc v xs [.kn F S] w r ys))
  (k:∀ v' w',HoldG M w0 w' (.blk bc #[v'] 145::.row v' 43 9 ys.length (flatR (ys.map instC))::l3)→R (.returned r) w'):Calls P f args w R:=by
 have H2:HoldG M w0 w (codeL bc v xs++(l3++[Res.kn F S])):=H.also F S hF hS;have e:∀ (u:Value) (zs:List InstD) (k:List Res) (j:Nat),(codeL bc u zs++k)[j+2]?=k[j]?:=fun u zs k j=>rfl
 have hlast:(codeL bc v xs++(l3++[Res.kn F S]))[l3.length+2]?=some (Res.kn F S):=by rw[e];simp
 have hp:[0,1,l3.length+2].map (fun j=>(codeL bc v xs++(l3++[Res.kn F S]))[j]?)=(codeL bc v xs++[Res.kn F S]).map some:=by
  simp only[List.map_cons,List.map_nil,hlast];rfl
 have hq:(List.range' 2 l3.length).map (fun j=>(codeL bc v xs++(l3++[Res.kn F S]))[j]?)=l3.map some:=by
  have:=picks (l:=l3) 2 (codeL bc v xs) rfl;rw[← this];apply List.map_congr_left;intro j hj;rw[List.mem_range'_1]at hj;obtain⟨q,rfl⟩:∃ q,j=q+2:=⟨j - 2,by omega⟩
  rw[e,e,List.getElem?_append_left (by omega)]
 refine(c (H2.pick [0,1,l3.length+2] _ (by simp) hp)).mono ?_
 rintro e' w' ⟨v',rfl,T⟩
 have H3:=H2.callIn T [0,1,l3.length+2] (List.range' 2 l3.length) (l3:=l3) hp hq List.nodup_range' (fun j hj h=>by
  rw[List.mem_range'_1]at h
  simp at hj;omega)
 refine k v' w' (H3.pick ([0,1]++List.range' 3 l3.length) _ ?_ ?_)
 ·rw[List.nodup_append];refine⟨by decide,List.nodup_range',fun a ha b hb=>?_⟩
  rw[List.mem_range'_1]at hb;simp at ha;omega
 ·have:=picks (l:=l3) 3 (codeL bc v' ys++[Res.kn F S]) rfl;rw[List.map_append,this];rfl
end
theorem ref_putB {M:Nat→Prop} {w0 w:World} (bc:Nat) (v:Value) (xs:List InstD) (x:InstD) (H0:HoldG M w0 w (codeL bc v xs)) (hn:xs.length≤1000000000) :
  Calls Tryz.prog 68 #[.pointer (some ⟨bc,0,none⟩),instV x] w (LayB M w0 bc v xs [] w (.int .i64 xs.length) (xs++[x])) :=
 (ref_put bc v xs x H0 hn).mono fun e w' ⟨v',e1,T⟩=>⟨v',e1,by simpa only[List.append_nil] using T⟩
theorem lay_end {M:Nat→Prop} {w0 w W:World} {l:List Res} {bc:Nat} {v v':Value} {xs ys:List InstD} {F:Nat→Prop} {S:World→Prop} (H:HoldG M w0 W l) {i:Nat} (hi:At l i (.kn (restF w (codeL bc v xs++[.kn F S])) (restS w (codeL bc v xs++[.kn F S])))) (hi3:2<i) (h:[0,1,2].map (fun j=>l[j]?)=(codeL bc v' ys++[Res.kn F S]).map some) :
  Turned M w0 w (codeL bc v xs++[.kn F S]) (codeL bc v' ys++[.kn F S]) W :=
 Turned.of H hi [0,1,2] (by decide) (by simp;omega) h (fun F' S' hm b hb=>by
  simp at hm;obtain⟨rfl,rfl⟩:=hm
  exact .inl ⟨.kn F' S',by simp,hb⟩)
theorem ok_7g {d:NodeD} {k:Nat} (h:nodeOk d k=true) (h7:d.kind=7):0<d.group∧d.group≤20:=by
 simp[nodeOk,nodeOk1,h7]at h;omega
theorem ok_5 {d:NodeD} {k:Nat} (h:nodeOk d k=true) (h5:d.kind=5):1<k:=by
 simp[nodeOk,nodeOk1,h5]at h;omega
theorem lay_fin {M:Nat→Prop} {w0 w W:World} {l:List Res} {bc:Nat} {v v' r:Value} {xs ys:List InstD} {F:Nat→Prop} {S:World→Prop} {e:Ending} (H:HoldG M w0 W l) {i:Nat} (hi:At l i (.kn (restF w (codeL bc v xs++[.kn F S])) (restS w (codeL bc v xs++[.kn F S])))) (hi3:2<i) (h:[0,1,2].map (fun j=>l[j]?)=(codeL bc v' ys++[Res.kn F S]).map some) (he:e=.returned r):LayB M w0 bc v xs [.kn F S] w r ys e W :=
 ⟨v',he,lay_end H hi hi3 h⟩
theorem ref_lay:∀ (m:Nat) (t:Tree) (p:Option Addr) (n c:Nat) (F:Nat→Prop) (bc:Nat) (v:Value) (xs:List InstD) (out:Nat) (M:Nat→Prop) (w0 w:World),sizeT t≤m→m≤2000→kindsT t=true→xs.length+3 * sizeT t≤1000000→n=t.kids.length→HoldG M w0 w (codeL bc v xs++[.kn F (fun V=>ForestR V F p c t.kids)]) →
  Calls Tryz.prog 69 #[.pointer (some ⟨bc,0,none⟩),nodeV t.d (.slice p n c),.int .i64 out] w (LayB M w0 bc v xs [.kn F (fun V=>ForestR V F p c t.kids)] w (.int .i64 (layP t out xs).1) (layP t out xs).2)
 | 0,t,_,_,_,_,_,_,_,_,_,_,_,hm,_,_,_,_,_=>by have:=sizeT_pos t;omega
 | m+1,.mk d ts,p,n,c,F,bc,v,xs,out,M,w0,w,hm,hm2,hkd,hxl,hn,H0=>by
  have IH:=ref_lay m;simp only[Tree.kids,Tree.d]at hn H0 ⊢;simp only[kindsT,Bool.and_eq_true]at hkd;have H:=H0.framed;clear H0;obtain⟨rF,hrF⟩:∃ rF,restF w (codeL bc v xs++[.kn F (fun V=>ForestR V F p c ts)])=rF:=⟨_,rfl⟩
  obtain⟨rS,hrS⟩:∃ rS,restS w (codeL bc v xs++[.kn F (fun V=>ForestR V F p c ts)])=rS:=⟨_,rfl⟩
  rw[hrF,hrS]at H;simp only[codeL,List.cons_append,List.nil_append]at H;obtain⟨kx,h1,h2,hts⟩:=ForestR.open (H.kn (i:=2) i_2);have hn':n=kx.length:=by rw[hn,hts,List.length_map]
  have hK:Knows F p n c kx w:=⟨by rw[hn'];exact h1,h2⟩
  replace H:=H.also F (Knows F p n c kx) (Still.at (i:=2) i_2) (fun V hV=>hK.kept hV)
  simp only[List.cons_append,List.nil_append]at H;have hc1:=hK.bound.2.1;have hc2:=hK.bound.2.2;have hp:=hK.at;clear hK h1 h2;simp only[sizeT]at hm hxl;have hnl:n≤2000:=by have:=len_sizeTs ts;omega
  have HN:=Lib.hid hn';have HN2:=Lib.hid hn;clear hn hn';have HKD:=Lib.hid hkd;clear hkd;have HTS:=Lib.hid hts;clear hts;have hspl:=ref_split d (.slice p n c)
  by_cases k1:d.kind=1
  ·have d1:(d.kind == 1)=true:=by rw[beq_iff_eq];exact k1
   have E:=Lib.hid (show layP (.mk d ts) out xs=(out,xs) by rw[layP,if_pos k1])
   clear k1 IH
   go_enter Tryz.func69,Tryz.ntmps69
   go_wp2_with (first|(first|((with_reducible refine gL ?_);refine aG H ?_)|((with_reducible refine gX ?_);(refine bB H ?_;clear H;intro b w H;try simp only[nr]at H))))
   go_ret;rw[E.out];rw[← hrF,← hrS]at H;exact lay_fin H (i:=3) i_3 (by decide) rfl rfl
  have d1:(d.kind == 1)=false:=by rw[beq_eq_false_iff_ne];exact k1
  by_cases k2:d.kind=2
  ·have d2:(d.kind == 2)=true:=by rw[beq_iff_eq];exact k2
   have E:=Lib.hid (show layP (.mk d ts) out xs=(xs.length,xs++[{kind:=6}]) by rw[layP,if_neg k1,if_pos k2])
   clear k1 k2 IH
   go_enter Tryz.func69,Tryz.ntmps69
   go_wp2_with (first|(first|((with_reducible refine gBi ?_);refine ib1 ?_)|((with_reducible refine gL ?_);refine aG H ?_)|((with_reducible refine gX ?_);(refine bB H ?_;clear H;intro b w H;try simp only[nr]at H)))|(go_at_call 68;refine chP H (fun h=>ref_putB _ _ _ _ h (by first|omega|(simp only[List.length_append,List.length_cons,List.length_nil];omega))) ?_;clear H;intro v2 w H))
   go_ret;rw[E.out];rw[← hrF,← hrS]at H;exact lay_fin H (i:=3) i_3 (by decide) rfl rfl
  have d2:(d.kind == 2)=false:=by rw[beq_eq_false_iff_ne];exact k2
  by_cases k3:d.kind=3
  ·have d3:(d.kind == 3)=true:=by rw[beq_iff_eq];exact k3
   have E:=Lib.hid (show layP (.mk d ts) out xs=(xs.length,xs++[{kind:=1,set:=d.set,next:=out}]) by rw[layP,if_neg k1,if_neg k2,if_pos k3])
   clear k1 k2 k3 IH
   go_enter Tryz.func69,Tryz.ntmps69
   go_wp2_with (first|(first|((with_reducible refine gBi ?_);refine ib2 ?_)|((with_reducible refine gL ?_);(first|refine aVn H ?_|refine aG H ?_))|((with_reducible refine gX ?_);(refine bB H ?_;clear H;intro b w H;try simp only[nr]at H)))|(go_at_call 68;refine chP H (fun h=>ref_putB _ _ _ _ h (by first|omega|(simp only[List.length_append,List.length_cons,List.length_nil];omega))) ?_;clear H;intro v2 w H))
   go_ret;rw[E.out];rw[← hrF,← hrS]at H;exact lay_fin H (i:=3) i_3 (by decide) rfl rfl
  have d3:(d.kind == 3)=false:=by rw[beq_eq_false_iff_ne];exact k3
  by_cases k4:d.kind=4
  ·have d4:(d.kind == 4)=true:=by rw[beq_iff_eq];exact k4
   have E:=Lib.hid (show layP (.mk d ts) out xs=layC ts out xs by rw[layP,if_neg k1,if_neg k2,if_neg k3,if_pos k4])
   clear k1 k2 k3 k4
   go_enter Tryz.func69,Tryz.ntmps69
   go_wp2_with (first|((first|((with_reducible refine kgA 4 ?_);refine kA 4 H ?_)|((with_reducible refine kgX 4 ?_);(first|refine kS 4 H ?_|refine kB 4 H ?_)));clear H;intro b4 w H;try simp only[nr]at H)|((with_reducible refine gL ?_);refine aG H ?_))
   go_loopw [2,8] (fun vo ix wr=>∃ (j o:Nat) (z:Int) (ys:List InstD) (v':Value),j≤n∧z=(j:Int) - 1∧vo=.int .i64 o∧ix=.int .i64 z∧Hid (layC (ts.drop j) out xs=(o,ys))∧HoldG M w0 wr [.blk bc #[v'] 145,.row v' 43 9 ys.length (flatR (ys.map instC)),.kn F (fun V=>ForestR V F p c ts),.kn rF rS,.kn F (Knows F p n c kx),.blk b4 (nodeC d (.slice p n c)) 87]) (fun _ ix _=>(intOf ix+1).toNat)
   case atStart=>exact⟨n,out,_,xs,v,Nat.le_refl _,rfl,rfl,rfl,Lib.hid (by rw[List.drop_eq_nil_of_le (by rw[HN2.out];exact Nat.le_refl _)];rfl),H⟩
   case round =>
    clear H;obtain⟨j,o,z,ys,v',hj,hz,rfl,rfl,EC,H⟩:=hrel
    by_cases h0:j=0
    ·have hz0:z = -1:=by omega
     subst h0;have dz:decide ((0:Int)≤z)=false:=by simp;omega
     clear hz hz0;have E2:=Lib.hid (show layP (.mk d ts) out xs=(o,ys) by rw[E.out,← EC.out];rfl)
     clear IH EC E
     go_wp2_with (first|fail)
     go_ret;rw[E2.out];rw[← hrF,← hrS]at H;exact lay_fin H (i:=3) i_3 (by decide) rfl rfl
    ·obtain⟨q,rfl⟩:∃ q,j=q+1:=⟨j - 1,by omega⟩
     have hzq:z=(q:Int):=by omega
     subst hzq;have dj:decide ((0:Int)≤(q:Int))=true:=by simp
     have hyl:ys.length≤xs.length+(3 * sizeTs (ts.drop (q+1)) - 1):=by
      have:=(layC_len (ts.drop (q+1)) out xs).2
      rwa [EC.out]at this
     obtain⟨y,hy⟩:∃ y,kx[q]?=some y:=⟨_,List.getElem?_eq_getElem (by have:=HN.out;omega)⟩
     have hmem:y ∈ kx:=List.mem_of_getElem? hy;have hty:ts[q]?=some y.1:=by rw[HTS.out,List.getElem?_map,hy];rfl
     have hky:kindsT y.1=true:=kindsTs_get HKD.out.2 hty;have hsz:=sizeTs_mem hty;have hdr:ts.drop q=y.1::ts.drop (q+1):=by
      obtain⟨hlt,e⟩:=List.getElem?_eq_some_iff.1 hty;rw[← e];exact List.drop_eq_getElem_cons hlt
     have hsd:sizeTs (ts.drop (q+1))+sizeT y.1≤sizeTs ts:=by
      have h1:sizeTs ts=sizeTs (ts.take q)+sizeTs (ts.drop q):=by rw[← sizeTs_append,List.take_append_drop]
      rw[h1,hdr];simp only[sizeTs];omega
     obtain⟨g,off,rfl⟩:=hp (by have:=HN.out;omega)
     have hcell:∀ V,Knows F (some ⟨g,off,none⟩) n c kx V→∀ k,k<10→V.cell? ⟨g,off+q * 10+k,none⟩=(nodeX y)[k]?:=fun V h=>h.cells hy rfl
     obtain⟨ar,hal⟩:∃ a,layP y.1 o ys=a:=⟨_,rfl⟩;obtain⟨a,zs⟩:=ar;have hlay:∀ v' w',HoldG M w0 w' (codeL bc v' ys++[.kn F (fun V=>ForestR V F y.2.1 y.2.2 y.1.kids)])→Calls Tryz.prog 69 #[.pointer (some ⟨bc,0,none⟩),.agg (nodeX y),.int .i64 (o:Nat)] w' (LayB M w0 bc v' ys [.kn F (fun V=>ForestR V F y.2.1 y.2.2 y.1.kids)] w' (.int .i64 a) zs):=fun v' w' h=>by
      have:=IH y.1 y.2.1 y.1.kids.length y.2.2 F bc v' ys o M w0 w' (by omega) (by omega) hky (by omega) rfl h
      rw[hal]at this;exact this
     have E3:=Lib.hid (show layC (ts.drop q) out xs=(a,zs) by rw[hdr,layC,EC.out];exact hal)
     clear IH hal hdr hty hky hsz hsd hz EC hp hy h0
     go_wp2_with (first|((with_reducible refine gL ?_);refine own_loadK wtd_ _ _ rfl rfl row_Node (nodeX_size y) (hcell _ (H.kn (i:=4) i_4)) ?_)|((with_reducible refine gL ?_);refine aG H ?_)|(go_at_call 69;refine chL (F:=F) (S:=fun V=>ForestR V F y.2.1 y.2.2 y.1.kids) H (Still.at (i:=4) i_4) (fun V hV=>((H.kn (i:=4) i_4).2 y hmem).kept hV) (fun h=>hlay _ _ h) ?_;clear H;intro v3 w H))
     go_roundw
     case rel=>exact⟨q,a,_,zs,v3,by omega,by first|rfl|omega,rfl,by go_num,E3,H⟩
     case measure=>simp[intOf]<;>omega
  have d4:(d.kind == 4)=false:=by rw[beq_eq_false_iff_ne];exact k4
  by_cases k5:d.kind=5
  ·have d5:(d.kind == 5)=true:=by rw[beq_iff_eq];exact k5
   have E:=Lib.hid (show layP (.mk d ts) out xs=layA ts out xs by rw[layP,if_neg k1,if_neg k2,if_neg k3,if_neg k4,if_pos k5])
   have hn1:=ok_5 HKD.out.1 k5;clear k1 k2 k3 k4 k5;obtain⟨nn,hnn⟩:∃ nn,n=nn+1:=⟨n - 1,by have:=HN2.out;omega⟩
   subst hnn
   go_enter Tryz.func69,Tryz.ntmps69
   go_upto_region 16 with (first|((first|((with_reducible refine kgA 4 ?_);refine kA 4 H ?_)|((with_reducible refine kgX 4 ?_);(first|refine kS 4 H ?_|refine kB 4 H ?_)));clear H;intro b4 w H;try simp only[nr]at H)|((with_reducible refine gL ?_);refine aG H ?_))
   obtain⟨y,hy⟩:∃ y,kx[nn]?=some y:=⟨_,List.getElem?_eq_getElem (by have:=HN.out;omega)⟩
   have hmem:y ∈ kx:=List.mem_of_getElem? hy;have hty:ts[nn]?=some y.1:=by rw[HTS.out,List.getElem?_map,hy];rfl
   have hky:kindsT y.1=true:=kindsTs_get HKD.out.2 hty;have hsz:=sizeTs_mem hty;have hdr:ts.drop nn=y.1::ts.drop (nn+1):=by
    obtain⟨hlt,e⟩:=List.getElem?_eq_some_iff.1 hty;rw[← e];exact List.drop_eq_getElem_cons hlt
   have hsd:sizeTs (ts.drop (nn+1))+sizeT y.1≤sizeTs ts:=by
    have h1:sizeTs ts=sizeTs (ts.take nn)+sizeTs (ts.drop nn):=by rw[← sizeTs_append,List.take_append_drop]
    rw[h1,hdr];simp only[sizeTs];omega
   obtain⟨g,off,rfl⟩:=hp (by have:=HN.out;omega)
   have hcell:∀ V,Knows F (some ⟨g,off,none⟩) (nn+1) c kx V→∀ k,k<10→V.cell? ⟨g,off+nn * 10+k,none⟩=(nodeX y)[k]?:=fun V h=>h.cells hy rfl
   obtain⟨ar,hal⟩:∃ a,layP y.1 out xs=a:=⟨_,rfl⟩;obtain⟨a,zs⟩:=ar;have hlay:∀ v' w',HoldG M w0 w' (codeL bc v' xs++[.kn F (fun V=>ForestR V F y.2.1 y.2.2 y.1.kids)])→Calls Tryz.prog 69 #[.pointer (some ⟨bc,0,none⟩),.agg (nodeX y),.int .i64 (out:Nat)] w' (LayB M w0 bc v' xs [.kn F (fun V=>ForestR V F y.2.1 y.2.2 y.1.kids)] w' (.int .i64 a) zs):=fun v' w' h=>by
    have:=IH y.1 y.2.1 y.1.kids.length y.2.2 F bc v' xs out M w0 w' (by omega) (by omega) hky (by omega) rfl h
    rw[hal]at this;exact this
   have EA:=Lib.hid (show layA (ts.drop nn) out xs=(a,zs) by
    rw[hdr,List.drop_eq_nil_of_le (by rw[← HN2.out];exact Nat.le_refl _),layA];exact hal)
   clear hal hdr hty hky hsz hsd hy
   go_wp2_with (first|((with_reducible refine gL ?_);refine own_loadK wtd_ _ _ rfl rfl row_Node (nodeX_size y) (hcell _ (H.kn (i:=4) i_4)) ?_)|((with_reducible refine gL ?_);refine aG H ?_)|(go_at_call 69;refine chL (F:=F) (S:=fun V=>ForestR V F y.2.1 y.2.2 y.1.kids) H (Still.at (i:=4) i_4) (fun V hV=>((H.kn (i:=4) i_4).2 y hmem).kept hV) (fun h=>hlay _ _ h) ?_;clear H;intro v3 w H))
   clear hcell hlay hmem
   go_loopw [9,10] (fun vo ix wr=>∃ (j o:Nat) (z:Int) (ys:List InstD) (v':Value),j≤nn∧z=(j:Int) - 1∧vo=.int .i64 o∧ix=.int .i64 z∧Hid (layA (ts.drop j) out xs=(o,ys))∧HoldG M w0 wr [.blk bc #[v'] 145,.row v' 43 9 ys.length (flatR (ys.map instC)),.kn F (fun V=>ForestR V F (some ⟨g,off,none⟩) c ts),.kn rF rS,.kn F (Knows F (some ⟨g,off,none⟩) (nn+1) c kx),.blk b4 (nodeC d (.slice (some ⟨g,off,none⟩) (nn+1) c)) 87]) (fun _ ix _=>(intOf ix+1).toNat)
   case atStart=>exact⟨nn,a,_,zs,v3,Nat.le_refl _,rfl,rfl,rfl,EA,H⟩
   case round =>
    clear H EA;obtain⟨j,o,z,ys,v',hj,hz,rfl,rfl,EC,H⟩:=hrel
    by_cases h0:j=0
    ·have hz0:z = -1:=by omega
     subst h0;have dz:decide ((0:Int)≤z)=false:=by simp;omega
     clear hz hz0;have E2:=Lib.hid (show layP (.mk d ts) out xs=(o,ys) by rw[E.out,← EC.out];rfl)
     clear IH EC E
     go_wp2_with (first|fail)
     go_ret;rw[E2.out];rw[← hrF,← hrS]at H;exact lay_fin H (i:=3) i_3 (by decide) rfl rfl
    ·obtain⟨q,rfl⟩:∃ q,j=q+1:=⟨j - 1,by omega⟩
     have hzq:z=(q:Int):=by omega
     subst hzq;have dj:decide ((0:Int)≤(q:Int))=true:=by simp
     have hyl:ys.length≤xs.length+(3 * sizeTs (ts.drop (q+1)) - 1):=by
      have:=(layA_len (ts.drop (q+1)) out xs).2
      rwa [EC.out]at this
     obtain⟨y,hy⟩:∃ y,kx[q]?=some y:=⟨_,List.getElem?_eq_getElem (by have:=HN.out;omega)⟩
     have hmem:y ∈ kx:=List.mem_of_getElem? hy;have hty:ts[q]?=some y.1:=by rw[HTS.out,List.getElem?_map,hy];rfl
     have hky:kindsT y.1=true:=kindsTs_get HKD.out.2 hty;have hsz:=sizeTs_mem hty;have hdr:ts.drop q=y.1::ts.drop (q+1):=by
      obtain⟨hlt,e⟩:=List.getElem?_eq_some_iff.1 hty;rw[← e];exact List.drop_eq_getElem_cons hlt
     have hsd:sizeTs (ts.drop (q+1))+sizeT y.1≤sizeTs ts:=by
      have h1:sizeTs ts=sizeTs (ts.take q)+sizeTs (ts.drop q):=by rw[← sizeTs_append,List.take_append_drop]
      rw[h1,hdr];simp only[sizeTs];omega
     have hcell:∀ V,Knows F (some ⟨g,off,none⟩) (nn+1) c kx V→∀ k,k<10→V.cell? ⟨g,off+q * 10+k,none⟩=(nodeX y)[k]?:=fun V h=>h.cells hy rfl
     obtain⟨ar,hal⟩:∃ a,layP y.1 out ys=a:=⟨_,rfl⟩;obtain⟨a,zs⟩:=ar;have hlay:∀ v' w',HoldG M w0 w' (codeL bc v' ys++[.kn F (fun V=>ForestR V F y.2.1 y.2.2 y.1.kids)])→Calls Tryz.prog 69 #[.pointer (some ⟨bc,0,none⟩),.agg (nodeX y),.int .i64 (out:Nat)] w' (LayB M w0 bc v' ys [.kn F (fun V=>ForestR V F y.2.1 y.2.2 y.1.kids)] w' (.int .i64 a) zs):=fun v' w' h=>by
      have:=IH y.1 y.2.1 y.1.kids.length y.2.2 F bc v' ys out M w0 w' (by omega) (by omega) hky (by omega) rfl h
      rw[hal]at this;exact this
     have hzl:zs.length≤ys.length+(3 * sizeT y.1 - 1):=by
      have:=(layP_len y.1 out ys).2
      rwa [hal]at this
     have E3:=Lib.hid (show layA (ts.drop q) out xs=(zs.length,zs++[{kind:=2,next:=a,other:=o}]) by
      obtain⟨k2,hk2⟩:∃ k2,ts[q+1]?=some k2:=⟨_,List.getElem?_eq_getElem (by have:=HN2.out;omega)⟩
      have hd2:ts.drop (q+1)=k2::ts.drop (q+2):=by
       obtain⟨hlt,e⟩:=List.getElem?_eq_some_iff.1 hk2;rw[← e];exact List.drop_eq_getElem_cons hlt
      have hec:=EC.out;rw[hdr];rw[hd2]at hec ⊢;rw[layA]
      simp only[hec,hal])
     have hzl2:zs.length≤1000000:=by omega
     clear IH hal hdr hty hky hsz hsd hz EC hp hy h0 hyl hzl
     go_wp2_with (first|((with_reducible refine gL ?_);refine own_loadK wtd_ _ _ rfl rfl row_Node (nodeX_size y) (hcell _ (H.kn (i:=4) i_4)) ?_)|(first|((with_reducible refine gBi ?_);refine ib3 ?_)|((with_reducible refine gL ?_);refine aG H ?_))|(go_at_call 69;refine chL (F:=F) (S:=fun V=>ForestR V F y.2.1 y.2.2 y.1.kids) H (Still.at (i:=4) i_4) (fun V hV=>((H.kn (i:=4) i_4).2 y hmem).kept hV) (fun h=>hlay _ _ h) ?_;clear H;intro v3 w H)|(go_at_call 68;refine chP H (fun h=>ref_putB _ _ _ _ h (by first|omega|(simp only[List.length_append,List.length_cons,List.length_nil];omega))) ?_;clear H;intro v2 w H))
     go_roundw
     case rel=>exact⟨q,_,_,_,v2,by omega,by first|rfl|omega,rfl,by go_num,E3,H⟩
     case measure=>simp[intOf]<;>omega
  have d5:(d.kind == 5)=false:=by rw[beq_eq_false_iff_ne];exact k5
  by_cases k7:d.kind=7
  ·have d7:(d.kind == 7)=true:=by rw[beq_iff_eq];exact k7
   obtain⟨y,rfl⟩:∃ y,kx=[y]:=by
    have h1:ts.length=1:=ok_7 HKD.out.1 k7;have h2:=congrArg List.length HTS.out;rw[List.length_map,h1]at h2;exact List.length_eq_one_iff.1 h2.symm
   have hts1:ts=[y.1]:=HTS.out;have hn1:n=1:=HN.out;subst hn1;obtain⟨g,off,rfl⟩:=hp (by simp)
   have hmem:y ∈ [y]:=List.mem_singleton.2 rfl;have hky:kindsT y.1=true:=by have:=HKD.out.2;rw[hts1]at this;simpa [kindsTs] using this
   have hsy:sizeT y.1≤m:=by rw[hts1]at hm;simp only[sizeTs]at hm;omega
   have hsy2:sizeTs ts=sizeT y.1:=by rw[hts1];simp[sizeTs]
   have hcell:∀ V,Knows F (some ⟨g,off,none⟩) 1 c [y] V→∀ k,k<10→V.cell? ⟨g,off+k,none⟩=(nodeX y)[k]?:=fun V h=>h.cells (j:=0) rfl rfl
   have hg:=ok_7g HKD.out.1 k7;have hw1:IntKind.i64.wrap (2 * d.group)=2 * d.group:=by rw[IntKind.wrap_i64];omega
   have hw2:IntKind.i64.wrap (2 * d.group+1)=2 * d.group+1:=by rw[IntKind.wrap_i64];omega
   obtain⟨ar,hal⟩:∃ a,layP y.1 xs.length (xs++[{kind:=3,slot:=2 * d.group+1,next:=out}])=a:=⟨_,rfl⟩;obtain⟨a,ys⟩:=ar;have hlay:∀ v' w',HoldG M w0 w' (codeL bc v' (xs++[{kind:=3,slot:=2 * d.group+1,next:=out}])++[.kn F (fun V=>ForestR V F y.2.1 y.2.2 y.1.kids)])→Calls Tryz.prog 69 #[.pointer (some ⟨bc,0,none⟩),.agg (nodeX y),.int .i64 (xs.length:Nat)] w' (LayB M w0 bc v' (xs++[{kind:=3,slot:=2 * d.group+1,next:=out}]) [.kn F (fun V=>ForestR V F y.2.1 y.2.2 y.1.kids)] w' (.int .i64 a) ys):=fun v' w' h=>by
    have:=IH y.1 y.2.1 y.1.kids.length y.2.2 F bc v' (xs++[{kind:=3,slot:=2 * d.group+1,next:=out}]) xs.length M w0 w' hsy (by omega) hky (by simp only[List.length_append,List.length_cons,List.length_nil];omega) rfl h
    rw[hal]at this;exact this
   have hyl:ys.length≤xs.length+3 * sizeTs ts+1:=by
    have:=(layP_len y.1 xs.length (xs++[{kind:=3,slot:=2 * d.group+1,next:=out}])).2;rw[hal]at this;have:=sizeT_pos y.1;simp only[List.length_append,List.length_cons,List.length_nil]at *;omega
   have E:=Lib.hid (show layP (.mk d ts) out xs=(ys.length,ys++[{kind:=3,slot:=2 * d.group,next:=a}]) by rw[layP,if_neg k1,if_neg k2,if_neg k3,if_neg k4,if_neg k5,if_pos k7,hts1];simp only[layH,hal])
   clear k1 k2 k3 k4 k5 k7 IH hal hts1 hky hsy hsy2
   go_enter Tryz.func69,Tryz.ntmps69
   go_wp2_with (first|((with_reducible refine gL ?_);refine own_loadK wtd_ _ _ rfl rfl row_Node (nodeX_size y) (hcell _ (H.kn (i:=4) i_4)) ?_)|(first|((with_reducible refine gBi ?_);refine ib4 ?_)|((with_reducible refine gL ?_);refine aG H ?_)|((with_reducible refine gX ?_);(refine bB H ?_;clear H;intro b w H;try simp only[nr]at H)))|(go_at_call 69;refine chL (F:=F) (S:=fun V=>ForestR V F y.2.1 y.2.2 y.1.kids) H (Still.at (i:=4) i_4) (fun V hV=>((H.kn (i:=4) i_4).2 y hmem).kept hV) (fun h=>hlay _ _ h) ?_;clear H;intro v3 w H)|(go_at_call 68;refine chP H (fun h=>ref_putB _ _ _ _ h (by first|omega|(simp only[List.length_append,List.length_cons,List.length_nil];omega))) ?_;clear H;intro v2 w H))
   go_ret;rw[E.out];rw[← hrF,← hrS]at H;exact lay_fin H (i:=3) i_3 (by decide) rfl rfl
  have d7:(d.kind == 7)=false:=by rw[beq_eq_false_iff_ne];exact k7
  by_cases k6:d.kind=6
  ·have d6:(d.kind == 6)=true:=by rw[beq_iff_eq];exact k6
   obtain⟨y,rfl⟩:∃ y,kx=[y]:=by
    have h1:ts.length=1:=(ok_6 HKD.out.1 k6).1;have h2:=congrArg List.length HTS.out;rw[List.length_map,h1]at h2;exact List.length_eq_one_iff.1 h2.symm
   have hts1:ts=[y.1]:=HTS.out;have hn1:n=1:=HN.out;subst hn1;obtain⟨g,off,rfl⟩:=hp (by simp)
   have hmem:y ∈ [y]:=List.mem_singleton.2 rfl;have hky:kindsT y.1=true:=by have:=HKD.out.2;rw[hts1]at this;simpa [kindsTs] using this
   have hsy:sizeT y.1≤m:=by rw[hts1]at hm;simp only[sizeTs]at hm;omega
   have hsy2:sizeTs ts=sizeT y.1:=by rw[hts1];simp[sizeTs]
   have hcell:∀ V,Knows F (some ⟨g,off,none⟩) 1 c [y] V→∀ k,k<10→V.cell? ⟨g,off+k,none⟩=(nodeX y)[k]?:=fun V h=>h.cells (j:=0) rfl rfl
   have d7:(d.kind == 7)=false:=by rw[beq_eq_false_iff_ne];exact k7
   by_cases h1:d.hi=1
   ·have dh:(d.hi == 1)=true:=by rw[beq_iff_eq];exact h1
    obtain⟨ar,hal⟩:∃ a,layP y.1 out xs=a:=⟨_,rfl⟩;obtain⟨a,ys⟩:=ar;have hlay:∀ v' w',HoldG M w0 w' (codeL bc v' xs++[.kn F (fun V=>ForestR V F y.2.1 y.2.2 y.1.kids)])→Calls Tryz.prog 69 #[.pointer (some ⟨bc,0,none⟩),.agg (nodeX y),.int .i64 (out:Nat)] w' (LayB M w0 bc v' xs [.kn F (fun V=>ForestR V F y.2.1 y.2.2 y.1.kids)] w' (.int .i64 a) ys):=fun v' w' h=>by
     have:=IH y.1 y.2.1 y.1.kids.length y.2.2 F bc v' xs out M w0 w' hsy (by omega) hky (by omega) rfl h
     rw[hal]at this;exact this
    have hyl:ys.length≤xs.length+3 * sizeTs ts+1:=by
     have:=(layP_len y.1 out xs).2;rw[hal]at this;have:=sizeT_pos y.1;simp only[List.length_append,List.length_cons,List.length_nil]at *;omega
    have E:=Lib.hid (show layP (.mk d ts) out xs=(ys.length,ys++[splitI d a out]) by rw[layP,if_neg k1,if_neg k2,if_neg k3,if_neg k4,if_neg k5,if_neg k7,if_pos k6,if_pos h1,hts1];simp only[layH,hal])
    clear k1 k2 k3 k4 k5 k6 k7 IH hal hts1 hky hsy hsy2 h1
    go_enter Tryz.func69,Tryz.ntmps69
    go_wp2_with (first|((with_reducible refine gL ?_);refine own_loadK wtd_ _ _ rfl rfl row_Node (nodeX_size y) (hcell _ (H.kn (i:=4) i_4)) ?_)|(first|((with_reducible refine gL ?_);(first|refine aG H ?_|refine aD H ?_))|((with_reducible refine gX ?_);(refine bB H ?_;clear H;intro b w H;try simp only[nr]at H)))|(go_at_call 69;refine chL (F:=F) (S:=fun V=>ForestR V F y.2.1 y.2.2 y.1.kids) H (Still.at (i:=4) i_4) (fun V hV=>((H.kn (i:=4) i_4).2 y hmem).kept hV) (fun h=>hlay _ _ h) ?_;clear H;intro v3 w H)|(go_at_call 68;refine chP H (fun h=>ref_putB _ _ _ _ h (by first|omega|(simp only[List.length_append,List.length_cons,List.length_nil];omega))) ?_;clear H;intro v2 w H)|(go_at_call 113;(with_reducible refine ch (hspl _ _ _) H ?_);clear H;intro w H))
    go_ret;rw[E.out];rw[← hrF,← hrS]at H;exact lay_fin H (i:=3) i_3 (by decide) rfl rfl
   ·have dh:(d.hi == 1)=false:=by rw[beq_eq_false_iff_ne];exact h1
    obtain⟨ar,hal⟩:∃ a,layP y.1 xs.length (xs++[{kind:=2}])=a:=⟨_,rfl⟩;obtain⟨a,ys⟩:=ar;have hlay:∀ v' w',HoldG M w0 w' (codeL bc v' (xs++[{kind:=2}])++[.kn F (fun V=>ForestR V F y.2.1 y.2.2 y.1.kids)])→Calls Tryz.prog 69 #[.pointer (some ⟨bc,0,none⟩),.agg (nodeX y),.int .i64 (xs.length:Nat)] w' (LayB M w0 bc v' (xs++[{kind:=2}]) [.kn F (fun V=>ForestR V F y.2.1 y.2.2 y.1.kids)] w' (.int .i64 a) ys):=fun v' w' h=>by
     have:=IH y.1 y.2.1 y.1.kids.length y.2.2 F bc v' (xs++[{kind:=2}]) xs.length M w0 w' hsy (by omega) hky (by simp only[List.length_append,List.length_cons,List.length_nil];omega) rfl h
     rw[hal]at this;exact this
    have hyl:ys.length≤xs.length+3 * sizeTs ts+1:=by
     have:=(layP_len y.1 xs.length (xs++[{kind:=2}])).2;rw[hal]at this;have:=sizeT_pos y.1;simp only[List.length_append,List.length_cons,List.length_nil]at *;omega
    have hyg:xs.length+1≤ys.length:=by
     have:=(layP_len y.1 xs.length (xs++[{kind:=2}])).1;rw[hal]at this
     simpa using this
    have E:=Lib.hid (show layP (.mk d ts) out xs=(xs.length,ys.set xs.length (splitI d a out)) by rw[layP,if_neg k1,if_neg k2,if_neg k3,if_neg k4,if_neg k5,if_neg k7,if_pos k6,if_neg h1,hts1];simp only[layH,hal])
    clear k1 k2 k3 k4 k5 k6 k7 IH hal hts1 hky hsy hsy2 h1
    go_enter Tryz.func69,Tryz.ntmps69
    go_upto_region 33 with (first|((with_reducible refine gL ?_);refine own_loadK wtd_ _ _ rfl rfl row_Node (nodeX_size y) (hcell _ (H.kn (i:=4) i_4)) ?_)|((first|((with_reducible refine kgA 4 ?_);refine kA 4 H ?_)|((with_reducible refine kgX 4 ?_);(first|refine kS 4 H ?_|refine kB 4 H ?_)));clear H;intro b4 w H;try simp only[nr]at H)|(first|((with_reducible refine gBi ?_);refine ib1 ?_)|((with_reducible refine gL ?_);refine aG H ?_))|(go_at_call 69;refine chL (F:=F) (S:=fun V=>ForestR V F y.2.1 y.2.2 y.1.kids) H (Still.at (i:=4) i_4) (fun V hV=>((H.kn (i:=4) i_4).2 y hmem).kept hV) (fun h=>hlay _ _ h) ?_;clear H;intro v3 w H)|(go_at_call 68;refine chP H (fun h=>ref_putB _ _ _ _ h (by first|omega|(simp only[List.length_append,List.length_cons,List.length_nil];omega))) ?_;clear H;intro v2 w H))
    obtain⟨q2,c2,rfl,_,_,hq2⟩:=H.rowShape (i:=1) i_1;obtain⟨g2,rfl⟩:=hq2 (by omega)
    obtain⟨yl,hyl2⟩:∃ yl,ys.length=yl:=⟨_,rfl⟩;have HYL:=Lib.hid hyl2;rw[hyl2]at H hyl hyg;clear hyl2;refine wp_region_spec 10 [fun u _=>u=.pointer (some ⟨bc,0,none⟩),fun u _=>u=.pointer (some ⟨bc,0,none⟩),fun u _=>u=.pointer (some ⟨bc,0,none⟩),fun u _=>u=.slice (some ⟨g2,0,none⟩) yl c2,fun u _=>u=.int .i64 (xs.length:Nat),fun u _=>u=nodeV d (.slice (some ⟨g,off,none⟩) 1 c),fun u _=>u=.int .i64 (a:Nat),fun u _=>u=.int .i64 (out:Nat),fun u _=>u=instV (splitI d a out),fun u _=>u=.pointer (some ⟨g2,xs.length * 9,none⟩)] (fun _=>false) (by kernel_rfl) (by kernel_rfl) (by kernel_rfl) ⟨stable_eq _,stable_eq _,stable_eq _,stable_eq _,stable_eq _,stable_eq _,stable_eq _,stable_eq _,stable_eq _,stable_eq _,trivial⟩ (fun _ _ h=>by cases h) ?ob ?en
    case ob =>
     refine⟨?_,?_,?_,?_,?_,?_,?_,?_,?_,?_,trivial⟩<;>intro A W h
     ·exact rs_move rfl rfl (h.frame 0 rfl) (by decide)
     ·(have e:A.eval (.tmp 137)=.pointer (some ⟨bc,0,none⟩):=h.dep 0 137 rfl rfl;refine rs_pure rfl ?_ (by decide);simp only[execOp,e];simp[go_sem])
     ·(have e:A.eval (.tmp 138)=.pointer (some ⟨bc,0,none⟩):=h.dep 1 138 rfl rfl;refine rs_pure rfl ?_ (by decide);simp only[execOp,e];simp[go_sem])
     ·exact rs_pure rfl (run_load1K rfl (h.dep 2 139 rfl rfl) one_insts ((H.call h.below).cell (i:=0) .zero 0)) (by decide)
     ·exact rs_move rfl rfl (h.frame 15 rfl) (by decide)
     ·exact rs_pure rfl (run_loadK rfl (h.frame 4 rfl) row_Node rfl (fun k _=>by rw[Nat.zero_add];exact(H.call h.below).cell (i:=5) i_5 k)) (by decide)
     ·exact rs_move rfl rfl (h.frame 16 rfl) (by decide)
     ·exact rs_move rfl rfl (h.frame 2 rfl) (by decide)
     ·refine rs_calln' rfl rfl (enters_of Tryz.func113 (by kernel_rfl) rfl) (args3 ⟨h.dep 5 142 rfl rfl,h.dep 6 143 rfl rfl,h.dep 7 144 rfl rfl⟩) ((hspl _ _ W).mono ?_)
      rintro e w' ⟨rfl,hb⟩;exact⟨_,rfl,hb,rfl,fun h=>by cases h⟩
     ·exact rs_idx (sz:=9) Tryz.underlying22 (fun w=>by kernel_rfl) rfl rfl (h.dep 3 140 rfl rfl) (h.dep 4 141 rfl rfl) (by omega) (by omega) (by decide)
    case en =>
     intro vals W hbw hv _;have v0:vals 0=.pointer (some ⟨bc,0,none⟩):=hv 0 (by omega)
     have v1:vals 1=.pointer (some ⟨bc,0,none⟩):=hv 1 (by omega)
     have v2:vals 2=.pointer (some ⟨bc,0,none⟩):=hv 2 (by omega)
     have v3:vals 3=.slice (some ⟨g2,0,none⟩) yl c2:=hv 3 (by omega)
     have v4:vals 4=.int .i64 (xs.length:Nat):=hv 4 (by omega)
     have v5:vals 5=nodeV d (.slice (some ⟨g,off,none⟩) 1 c):=hv 5 (by omega)
     have v6:vals 6=.int .i64 (a:Nat):=hv 6 (by omega)
     have v7:vals 7=.int .i64 (out:Nat):=hv 7 (by omega)
     have v8:vals 8=instV (splitI d a out):=hv 8 (by omega)
     have v9:vals 9=.pointer (some ⟨g2,xs.length * 9,none⟩):=hv 9 (by omega)
     simp only[fa,Nat.reduceAdd];rw[v0,v1,v2,v3,v4,v5,v6,v7,v8,v9];clear hv v0 v1 v2 v3 v4 v5 v6 v7 v8 v9;simp only[pl];replace H:=H.call hbw
     go_wp2_with (first|((with_reducible refine gTi ?_);refine own_storeRowR wtd_ _ _ _ rfl rfl rfl evd_ H (j:=1) i_1 (instsX_size _) (by rw[List.length_map];exact HYL.out) (row_size row_Inst) rfl rfl (by omega) ?_;clear H;intro w H)|fail)
     simp only[List.set_cons_succ,List.set_cons_zero]at H;rw[← List.map_set,show yl=(ys.set xs.length (splitI d a out)).length by rw[List.length_set];exact HYL.out.symm]at H
     go_ret;rw[E.out];rw[← hrF,← hrS]at H;exact lay_fin H (i:=3) i_3 (by decide) rfl rfl
  have d6:(d.kind == 6)=false:=by rw[beq_eq_false_iff_ne];exact k6
  have E:=Lib.hid (show layP (.mk d ts) out xs=(xs.length,xs++[{kind:=4,spot:=d.kind,next:=out}]) by rw[layP,if_neg k1,if_neg k2,if_neg k3,if_neg k4,if_neg k5,if_neg k7,if_neg k6])
  clear k1 k2 k3 k4 k5 k6 k7 IH
  go_enter Tryz.func69,Tryz.ntmps69
  go_wp2_with (first|(first|((with_reducible refine gBi ?_);refine ib5 ?_)|((with_reducible refine gL ?_);refine aG H ?_)|((with_reducible refine gX ?_);(refine bB H ?_;clear H;intro b w H;try simp only[nr]at H)))|(go_at_call 68;refine chP H (fun h=>ref_putB _ _ _ _ h (by first|omega|(simp only[List.length_append,List.length_cons,List.length_nil];omega))) ?_;clear H;intro v2 w H))
  go_ret;rw[E.out];rw[← hrF,← hrS]at H;exact lay_fin H (i:=3) i_3 (by decide) rfl rfl
theorem ref_Right11 (m:Nat) (t:Tree) (p:Option Addr) (n c:Nat) (F:Nat→Prop) (w0:World) (hm:sizeT t≤m) (hm2:m≤1000000000) (hF:∀ b,F b→b<w0.heap.size) (h:ForestR w0 F p c t.kids) (hn:n=t.kids.length) :
  Calls Tryz.prog 110 #[nodeV t.d (.slice p n c)] w0 fun e w'=>e=.returned (.bool (kindsT t&&decide ((sizeT t:Int)≤2000)))∧Below w0.heap.size w0 w':=by
 subst hn;have H:=(Hold.start w0).know F (fun V=>ForestR V F p c t.kids) hF (fun i r h=>by simp at h) (fun V hV=>h.kept hV)
 clear h;simp only[List.nil_append]at H;have hki:=fun w (h1:∀ b,F b→b<w.heap.size) (h2:ForestR w F p c t.kids)=>ref_kinds m t p _ c F w hm (by omega) h1 h2 rfl
 have hsz:=fun w (h1:∀ b,F b→b<w.heap.size) (h2:ForestR w F p c t.kids)=>ref_Size m t p _ c F w hm (by omega) h1 h2 rfl
 cases hk:kindsT t with
 | true =>
  rw[hk]at hki
  go_enter Tryz.func110,Tryz.ntmps110
  go_wp2_with (first|(first|((with_reducible refine gL ?_);refine aD H ?_)|((with_reducible refine gX ?_);(refine bB H ?_;clear H;intro b w H;try simp only[nr]at H)))|(go_at_call 137;(with_reducible refine ch (hki _ (H.knlt .zero) (H.kn .zero)) H ?_);clear H;intro w H)|(go_at_call 138;(with_reducible refine ch (hsz _ (H.knlt .zero) (H.kn .zero)) H ?_);clear H;intro w H))
  go_ret;exact⟨rfl,H.below⟩
 | false =>
  rw[hk]at hki
  go_enter Tryz.func110,Tryz.ntmps110
  go_wp2_with (first|(first|((with_reducible refine gL ?_);refine aD H ?_)|((with_reducible refine gX ?_);(refine bB H ?_;clear H;intro b w H;try simp only[nr]at H)))|(go_at_call 137;(with_reducible refine ch (hki _ (H.knlt .zero) (H.kn .zero)) H ?_);clear H;intro w H)|(go_at_call 138;(with_reducible refine ch (hsz _ (H.knlt .zero) (H.kn .zero)) H ?_);clear H;intro w H))
  go_ret;exact⟨rfl,H.below⟩
def TreeE (w:World) (r:Except Nat Tree) (e:Ending) (w':World):Prop:=match r with
 | .ok t=>∃ p c F,e=.returned (.tuple #[nodeV t.d (.slice p t.kids.length c),.int .i64 0])∧ForestR w' F p c t.kids∧∀ b,F b→b<w'.heap.size∧w.heap.size≤b
 | .error k=>e=.returned (.tuple #[nodeV {kind:=0} nilS,.int .i64 k])
theorem ref_Simple11 (m:Nat) (t:Tree) (p:Option Addr) (n c:Nat) (F:Nat→Prop) (w0:World) (hm:sizeT t≤m) (hm2:m≤1000000000) (hF:∀ b,F b→b<w0.heap.size) (h:ForestR w0 F p c t.kids) (hn:n=t.kids.length) :
  Calls Tryz.prog 67 #[nodeV t.d (.slice p n c)] w0 fun e w'=>TreeE w0 (simpleP t) e w'∧Below w0.heap.size w0 w':=by
 subst hn;have H:=(Hold.start w0).know F (fun V=>ForestR V F p c t.kids) hF (fun i r h=>by simp at h) (fun V hV=>h.kept hV)
 clear h;simp only[List.nil_append]at H;have hri:=fun w (h1:∀ b,F b→b<w.heap.size) (h2:ForestR w F p c t.kids)=>ref_Right11 m t p _ c F w hm hm2 h1 h2 rfl
 by_cases hr:kindsT t=true∧sizeT t≤2000
 ·have er:(kindsT t&&decide ((sizeT t:Int)≤2000))=true:=by rw[hr.1];simp;omega
  rw[er]at hri;have hsi:=fun w (h1:∀ b,F b→b<w.heap.size) (h2:ForestR w F p c t.kids)=>ref_simple (sizeT t) t p _ c F w (Nat.le_refl _) hr.2 hr.1 h1 h2 rfl
  cases hs:simpleT t with
  | none =>
   rw[hs]at hsi;have E2:=Lib.hid (show simpleP t=.error 7 by unfold simpleP;rw[if_pos hr,hs])
   clear hr er hs
   go_enter Tryz.func67,Tryz.ntmps67
   go_wp2_with (first|(first|((with_reducible refine gT ?_);(refine aT H ?_;clear H;intro w H;try simp only[nr]at H))|((with_reducible refine gL ?_);refine aD H ?_)|((with_reducible refine gX ?_);(refine bB H ?_;clear H;intro b w H;try simp only[nr]at H))|((with_reducible refine gA ?_);(refine bA H ?_;clear H;intro b w H;try simp only[nr]at H))|((with_reducible refine gZ ?_);refine nb0 ?_))|(go_at_call 110;(with_reducible refine ch (hri _ (H.knlt .zero) (H.kn .zero)) H ?_);clear H;intro w H)|(go_at_call 111;refine chb_none (hsi _ (H.knlt .zero) (H.kn .zero)) H ?_;clear H;intro d1 q1 k1 m1 w H))
   (refine ret_ct Tryz.results67 rfl (by first|rfl|(simp only[pl];rfl)) H atd_ (by first|(with_reducible exact row_Node)|(with_reducible exact row_Set)|(with_reducible exact row_Flags)|(with_reducible exact row_Word)) (by rfl) rfl ?_)
   rw[E2.out];exact⟨rfl,H.below⟩
  | some s =>
   rw[hs]at hsi;have E2:=Lib.hid (show simpleP t=.ok s by unfold simpleP;rw[if_pos hr,hs])
   have hsl:=simpleT_le hs;have hco:=fun w q1 m1 F1 (h1:∀ b,F1 b→b<w.heap.size) (h2:ForestR w F1 q1 m1 s.kids)=>ref_copied (sizeT s) s q1 s.kids.length m1 F1 w (Nat.le_refl _) (by omega) h1 h2 rfl
   clear hr er hs
   go_enter Tryz.func67,Tryz.ntmps67
   go_wp2_with (first|(first|((with_reducible refine gT ?_);(refine aT H ?_;clear H;intro w H;try simp only[nr]at H))|((with_reducible refine gL ?_);refine aD H ?_)|((with_reducible refine gX ?_);(refine bB H ?_;clear H;intro b w H;try simp only[nr]at H))|((with_reducible refine gA ?_);(refine bA H ?_;clear H;intro b w H;try simp only[nr]at H)))|(go_at_call 110;(with_reducible refine ch (hri _ (H.knlt .zero) (H.kn .zero)) H ?_);clear H;intro w H)|(go_at_call 111;refine chb_some (hsi _ (H.knlt .zero) (H.kn .zero)) H (Still.at (i:=0) .zero) ?_;clear H;intro q1 m1 F1 w hF1 H;simp only[List.cons_append,List.nil_append]at H)|(go_at_call 112;refine cht (hco _ _ _ _ (H.knlt (i:=3) i_3) (H.kn (i:=3) i_3)) H Still.none ?_;clear H;intro q2 m2 F2 w hF2 H;simp only[List.cons_append,List.nil_append]at H))
   (refine ret_ct Tryz.results67 rfl (by first|rfl|(simp only[pl];rfl)) H atd_ (by first|(with_reducible exact row_Node)|(with_reducible exact row_Set)|(with_reducible exact row_Flags)|(with_reducible exact row_Word)) (by rfl) rfl ?_)
   rw[E2.out];exact⟨⟨q2,m2,F2,rfl,H.kn (i:=5) i_5,fun b h=>⟨H.knlt (i:=5) i_5 b h,(hF2 b h).elim id False.elim⟩⟩,H.below⟩
 ·have er:(kindsT t&&decide ((sizeT t:Int)≤2000))=false:=by
   cases hk:kindsT t
   ·rfl
   ·simp only[Bool.true_and,decide_eq_false_iff_not];intro h;exact hr ⟨hk,by omega⟩
  rw[er]at hri;have E2:=Lib.hid (show simpleP t=.error 2 by unfold simpleP;rw[if_neg hr])
  clear hr er
  go_enter Tryz.func67,Tryz.ntmps67
  go_wp2_with (first|(first|((with_reducible refine gT ?_);(refine aT H ?_;clear H;intro w H;try simp only[nr]at H))|((with_reducible refine gL ?_);refine aD H ?_)|((with_reducible refine gX ?_);(refine bB H ?_;clear H;intro b w H;try simp only[nr]at H))|((with_reducible refine gA ?_);(refine bA H ?_;clear H;intro b w H;try simp only[nr]at H))|((with_reducible refine gZ ?_);refine nb0 ?_))|(go_at_call 110;(with_reducible refine ch (hri _ (H.knlt .zero) (H.kn .zero)) H ?_);clear H;intro w H))
  (refine ret_ct Tryz.results67 rfl (by first|rfl|(simp only[pl];rfl)) H atd_ (by first|(with_reducible exact row_Node)|(with_reducible exact row_Set)|(with_reducible exact row_Flags)|(with_reducible exact row_Word)) (by rfl) rfl ?_)
  rw[E2.out];exact⟨rfl,H.below⟩
theorem instC_put5 (x:InstD) (v:Int):(instC x).setIfInBounds 5 (.int .i64 v)=instC {x with next:=v}:=rfl
theorem instC_put6 (x:InstD) (v:Int):(instC x).setIfInBounds 6 (.int .i64 v)=instC {x with other:=v}:=rfl
def MakeOut (w:World) (r:Except Nat (List InstD)) (e:Ending) (w':World):Prop:=match r with
 | .ok ps=>∃ q c F,e=.returned (.tuple #[.slice q ps.length c,.int .i64 0])∧InstsR F q c ps w'∧∀ b,F b→b<w'.heap.size∧w.heap.size≤b
 | .error k=>e=.returned (.tuple #[.slice none 0 0,.int .i64 k])
section
variable {M:Nat→Prop} {P:Program} {f:FuncId} {args:Array Value} {w w0:World} {l:List Res} {R:Ending→World→Prop}
theorem chE_ok {t:Tree} (c:Calls P f args w fun e w'=>TreeE w (.ok t) e w'∧Below w.heap.size w w') (H:HoldG M w0 w l)
  (k:∀ p n F w',(∀ b,F b→w0.heap.size≤b)→HoldG M w0 w' (l++[.kn F (fun V=>ForestR V F p n t.kids)])→R (.returned (.tuple #[nodeV t.d (.slice p t.kids.length n),.int .i64 0])) w'):Calls P f args w R:=c.mono fun _ w' h=>by
 obtain⟨⟨p,n,F,rfl,hs,hF⟩,hb⟩:=h;exact k p n F w' (fun b h=>Nat.le_trans H.keep.size (hF b h).2) (H.learn hb Still.none (fun b h=>⟨(hF b h).1,.inl (hF b h).2⟩) (fun V hV=>hs.kept hV))
theorem chE_err {x:Nat} (c:Calls P f args w fun e w'=>TreeE w (.error x) e w'∧Below w.heap.size w w') (H:HoldG M w0 w l)
  (k:∀ w',HoldG M w0 w' l→R (.returned (.tuple #[nodeV {kind:=0} nilS,.int .i64 x])) w'):Calls P f args w R:=c.mono fun _ w' h=>by
 obtain⟨rfl,hb⟩:=h;exact k w' (H.call hb)
end
section
variable {M:Nat→Prop} {ops:Array Oper} {dst:Option Tmp} {ty:TypeId} {pos:String} {aft:Array Edge} {grd:Option (Nat × Bool)} {rest:List Oper} {a:Act} {w w0:World} {l:List Res} {Q:Exit→Act→World→Prop}
theorem run_code0 (W:World):(Instr.build 145 #[]).run Tryz.prog W=.ok (.agg #[.slice none 0 0]) W:=by kernel_rfl
theorem code0 (h:wpList Tryz.prog ops Q rest (a.put dst (.agg #[.slice none 0 0])) w) (hg:Region.wanted (⟨dst,.build 145 #[],ty,pos,aft,grd⟩:Oper) (yielded ops a.tmps)=true:=by first|rfl|exact wanted_g rfl (yielded_of rfl (by first|rfl|(simp only[pe];rfl)))):wpList Tryz.prog ops Q ((⟨dst,.build 145 #[],ty,pos,aft,grd⟩:Oper)::rest) a w :=
 own_pure hg (by
  simp only[execOp,List.map_toArray,List.map_nil,Sem.run_bind,run_code0];rfl) h
end
theorem HoldG.rowInsts {M:Nat→Prop} {w0 w:World} {l:List Res} (H:HoldG M w0 w l) {i cap:Nat} {q:Option Addr} {xs:List InstD} (hi:At l i (.row (.slice q xs.length cap) 43 9 xs.length (flatR (xs.map instC)))) :
  ∃ F:Nat→Prop,(∀ b,F b→(w0.heap.size≤b∨M b)∧b<w.heap.size)∧InstsR F q cap xs w:=by
 have ho:=H.all i _ hi.get;refine⟨fun b=>(Value.slice q xs.length cap).ownBlock=some b,fun b hb=>(ho.lt b hb),?_⟩
 exact RdN.of_own ho (instsX_size xs) (by rw[List.length_map]) (fun _ _=>rfl)
theorem ref_Make13 (m:Nat) (t:Tree) (p:Option Addr) (n c:Nat) (F:Nat→Prop) (w0:World) (hm:sizeT t≤m) (hm2:m≤1000000000) (hF:∀ b,F b→b<w0.heap.size) (h:ForestR w0 F p c t.kids) (hn:n=t.kids.length) :
  Calls Tryz.prog 29 #[nodeV t.d (.slice p n c)] w0 fun e w'=>MakeOut w0 (makeP t) e w'∧Below w0.heap.size w0 w':=by
 subst hn;have H:=(Hold.start w0).know F (fun V=>ForestR V F p c t.kids) hF (fun i r h=>by simp at h) (fun V hV=>h.kept hV)
 clear h;simp only[List.nil_append]at H;obtain⟨i0,hi0,hz0,hz1,hz2⟩:=info_parts info_Inst;have hsi:=fun w (h1:∀ b,F b→b<w.heap.size) (h2:ForestR w F p c t.kids)=>ref_Simple11 m t p _ c F w hm hm2 h1 h2 rfl
 have hsp:∀ x,simpleP t=.error x→x=2∨x=7:=fun x h=>by
  unfold simpleP at h;split at h
  ·split at h<;>cases h;exact .inr rfl
  ·cases h;exact .inl rfl
 cases hs:simpleP t with
 | error x =>
  rw[hs]at hsi;have hx:=hsp x hs;have E:=Lib.hid (show makeP t=.error x by unfold makeP;rw[hs])
  have dx:((x:Int) != 0)=true:=by rw[bne_iff_ne];omega
  clear hs hsp hx
  go_enter Tryz.func29,Tryz.ntmps29
  go_wp2_with (first|(first|((with_reducible refine gT ?_);(refine aT H ?_;clear H;intro w H;try simp only[nr]at H))|((with_reducible refine gL ?_);refine aD H ?_)|((with_reducible refine gX ?_);(refine bB H ?_;clear H;intro b w H;try simp only[nr]at H))|((with_reducible refine gA ?_);(refine bA H ?_;clear H;intro b w H;try simp only[nr]at H)))|(go_at_call 67;refine chE_err (hsi _ (H.knlt .zero) (H.kn .zero)) H ?_;clear H;intro w H))
  go_ret2
  exact⟨by rw[E.out];rfl,H.below⟩
 | ok s =>
  rw[hs]at hsi;obtain⟨hks,hss⟩:=simpleP_ok hs;obtain⟨ar,har⟩:∃ a,layP s 1 startI=a:=⟨_,rfl⟩;obtain⟨a,ys⟩:=ar;have hyl:ys.length≤6100:=by
   have:=(layP_len s 1 startI).2;rw[har]at this;simp only[startI,List.length_cons,List.length_nil]at this;omega
  have hlay:∀ M w0 w' bc v' q1 c1 F1,HoldG M w0 w' (codeL bc v' startI++[.kn F1 (fun V=>ForestR V F1 q1 c1 s.kids)])→Calls Tryz.prog 69 #[.pointer (some ⟨bc,0,none⟩),nodeV s.d (.slice q1 s.kids.length c1),.int .i64 1] w' (LayB M w0 bc v' startI [.kn F1 (fun V=>ForestR V F1 q1 c1 s.kids)] w' (.int .i64 a) ys):=fun M w0 w' bc v' q1 c1 F1 h=>by
   have:=ref_lay 2000 s q1 s.kids.length c1 F1 bc v' startI 1 M w0 w' hss (Nat.le_refl _) hks (by simp only[startI,List.length_cons,List.length_nil];omega) rfl h
   rw[har]at this;exact this
  have E:=Lib.hid (show makeP t=if 4000≤ys.length then .error 7 else .ok (turnedP (ys++[{kind:=3,next:=a}])) by
   unfold makeP laidP;rw[hs];simp only[har,List.length_append,List.length_cons,List.length_nil,Nat.add_sub_cancel])
  clear hs hsp har hks hss
  go_enter Tryz.func29,Tryz.ntmps29
  go_upto_region 5 with (first|((with_reducible refine gZ ?_);refine code0 ?_)|((first|((with_reducible refine kgA 1 ?_);refine kA 1 H ?_)|((with_reducible refine kgX 1 ?_);(first|refine kS 1 H ?_|refine kB 1 H ?_)));clear H;intro b1 w H;try simp only[nr]at H)|((first|((with_reducible refine kgA 4 ?_);refine kA 4 H ?_)|((with_reducible refine kgX 4 ?_);(first|refine kS 4 H ?_|refine kB 4 H ?_)));clear H;intro b4 w H;try simp only[nr]at H)|((first|((with_reducible refine kgA 28 ?_);refine kA 28 H ?_)|((with_reducible refine kgX 28 ?_);(first|refine kS 28 H ?_|refine kB 28 H ?_)));clear H;intro b28 w H;try simp only[nr]at H)|(first|((with_reducible refine gT ?_);(refine aT H ?_;clear H;intro w H;try simp only[nr]at H))|((with_reducible refine gL ?_);refine aD H ?_))|(go_at_call 67;refine chE_ok (hsi _ (H.knlt .zero) (H.kn .zero)) H ?_;clear H;intro q1 c1 F1 w hF1 H;simp only[List.cons_append,List.nil_append]at H))
  have H2:=(H.addNil 43 9).pick [4,5,2,0,1,3] [.blk b28 #[.slice none 0 0] 145,.row (.slice none 0 0) 43 9 ([]:List InstD).length (flatR (([]:List InstD).map instC)),.kn F1 (fun V=>ForestR V F1 q1 c1 s.kids),.kn F (fun V=>ForestR V F p c t.kids),.blk b1 (nodeC t.d (.slice p t.kids.length c)) 87,.blk b4 (nodeC s.d (.slice q1 s.kids.length c1)) 87] (by decide) rfl
  clear H;have H:=H2;clear H2;have hput1:∀ (M:Nat→Prop) (w0 w:World) (bc:Nat) (v:Value),HoldG M w0 w (codeL bc v [])→Calls Tryz.prog 68 #[.pointer (some ⟨bc,0,none⟩),instV {kind:=5}] w (LayB M w0 bc v [] [] w (.int .i64 0) [{kind:=5}]):=fun M w0 w bc v h=>ref_putB bc v [] _ h (by simp)
  have hput2:∀ (M:Nat→Prop) (w0 w:World) (bc:Nat) (v:Value),HoldG M w0 w (codeL bc v [{kind:=5}])→Calls Tryz.prog 68 #[.pointer (some ⟨bc,0,none⟩),instV {kind:=3,slot:=1,next:=0}] w (LayB M w0 bc v [{kind:=5}] [] w (.int .i64 1) startI):=fun M w0 w bc v h=>ref_putB bc v [{kind:=5}] _ h (by simp)
  have hput3:∀ (M:Nat→Prop) (w0 w:World) (bc:Nat) (v:Value),HoldG M w0 w (codeL bc v ys)→Calls Tryz.prog 68 #[.pointer (some ⟨bc,0,none⟩),instV {kind:=3,next:=a}] w (LayB M w0 bc v ys [] w (.int .i64 ys.length) (ys++[{kind:=3,next:=a}])):=fun M w0 w bc v h=>ref_putB bc v ys _ h (by omega)
  go_upto_region 6 with (first|((with_reducible refine gBi ?_);refine ib1 ?_)|(go_at_call 68;refine chP H (fun h=>hput1 _ _ _ _ _ h) ?_;clear H;intro v2 w H))
  go_upto_region 7 with (first|((with_reducible refine gBi ?_);refine ib4 ?_)|(go_at_call 68;refine chP H (fun h=>hput2 _ _ _ _ _ h) ?_;clear H;intro v2 w H))
  go_upto_region 8 with (first|((with_reducible refine gL ?_);refine aD H ?_)|(go_at_call 69;refine chL (F:=F1) (S:=fun V=>ForestR V F1 q1 c1 s.kids) H (Still.at (i:=2) i_2) (fun V hV=>(H.kn (i:=2) i_2).kept hV) (fun h=>hlay _ _ _ _ _ _ _ _ h) ?_;clear H;intro v3 w H))
  go_upto_region 9 with (first|((with_reducible refine gBi ?_);refine ib6 ?_)|(go_at_call 68;refine chP H (fun h=>hput3 _ _ _ _ _ h) ?_;clear H;intro v2 w H))
  clear hput1 hput2 hput3 hlay hsi;have hzk:(ys++[({kind:=3,next:=(a:Int)}:InstD)]).length=ys.length+1:=by simp
  generalize ys++[({kind:=3,next:=(a:Int)}:InstD)]=zs at H E hzk
  generalize ys.length=k at H E hzk hyl
  rw[hzk]at H;have HZ:=Lib.hid hzk;clear hzk;obtain⟨q2,c2,rfl,_,_,hq2⟩:=H.rowShape (i:=1) i_1;obtain⟨g2,rfl⟩:=hq2 (by omega)
  by_cases h4:4000≤k
  ·have d4:decide ((4000:Int)≤(k:Int))=true:=by simp;omega
   have E2:=Lib.hid (show makeP t=.error 7 by rw[E.out,if_pos h4])
   clear E h4
   go_wp2_with (first|((with_reducible refine gL ?_);refine aG H ?_))
   go_ret2
   exact⟨by rw[E2.out];rfl,H.below⟩
  ·have d4:decide ((4000:Int)≤(k:Int))=false:=by simp;omega
   have E2:=Lib.hid (show makeP t=.ok (turnedP zs) by rw[E.out,if_neg h4])
   clear E;have hk4:k<4000:=by omega
   clear h4
   go_upto_region 13 with (first|((with_reducible refine gL ?_);refine aG H ?_))
   have H2:=(H.addNil 43 9).pick [0,1,6] [.blk b28 #[.slice (some ⟨g2,0,none⟩) (k+1) c2] 145,.row (.slice (some ⟨g2,0,none⟩) (k+1) c2) 43 9 (k+1) (flatR (zs.map instC)),.row (.slice none 0 0) 43 9 0 (flatR (((turnedP zs).take 0).map instC))] (by decide) rfl
   clear H;have H:=H2;clear H2
   go_wp2_with (first|fail)
   go_loopw [11,12] (fun vo ix wr=>∃ (j:Nat) (z:Int) (vq:Option Addr) (vc:Nat),j≤k+1∧z=(j:Int) - 1∧vo=.slice vq (k+1 - j) vc∧ix=.int .i64 z∧Hold w0 wr [.blk b28 #[.slice (some ⟨g2,0,none⟩) (k+1) c2] 145,.row (.slice (some ⟨g2,0,none⟩) (k+1) c2) 43 9 (k+1) (flatR (zs.map instC)),.row (.slice vq (k+1 - j) vc) 43 9 (k+1 - j) (flatR (((turnedP zs).take (k+1 - j)).map instC))]) (fun _ ix _=>(intOf ix+1).toNat)
   case atStart=>exact⟨k+1,_,none,0,Nat.le_refl _,by omega,by simp,rfl,by simpa using H⟩
   case round =>
    clear H;obtain⟨j,z,vq,vc,hj,hz,rfl,rfl,H⟩:=hrel
    by_cases h0:j=0
    ·subst h0;have dz:decide ((0:Int)≤z)=false:=by simp;omega
     have EL:(turnedP zs).take (k+1 - 0)=turnedP zs:=List.take_of_length_le (by rw[turned_len,HZ.out];omega)
     rw[EL]at H;have hkk:k+1 - 0=k+1:=rfl;rw[hkk]at H ⊢;clear hz EL hkk
     go_wp2_with (first|fail)
     go_ret2
     refine⟨?_,H.below⟩;rw[E2.out];have hlen:(turnedP zs).length=k+1:=by rw[turned_len,HZ.out]
     rw[← hlen]at H;obtain⟨F9,hF9,hI⟩:=H.rowInsts (i:=2) i_2;exact⟨vq,vc,F9,by rw[hlen];rfl,hI,fun b h=>⟨(hF9 b h).2,(hF9 b h).1.elim id False.elim⟩⟩
    ·obtain⟨q,rfl⟩:∃ q,j=q+1:=⟨j - 1,by omega⟩
     have hzq:z=(q:Int):=by omega
     subst hzq;have dj:decide ((0:Int)≤(q:Int))=true:=by simp
     have hkq:k+1 - (q+1)=k - q:=by omega
     rw[hkq]at H ⊢;obtain⟨x,hx⟩:∃ x,zs[q]?=some x:=⟨_,List.getElem?_eq_getElem (by rw[HZ.out];omega)⟩
     have hxr:(zs.map instC)[q]?=some (instC x):=by rw[List.getElem?_map,hx];rfl
     have hzl:(zs.map instC).length=k+1:=by rw[List.length_map,HZ.out]
     have hget:(turnedP zs)[k - q]?=some (turnI k x):=turned_get HZ.out (by omega) (by rw[show k - (k - q)=q by omega];exact hx)
     have ET:=Lib.hid (take_get hget);have HZL:=Lib.hid hzl;have HXR:=Lib.hid hxr;have hha:∀ w,Calls Tryz.prog 70 #[.int .i64 x.kind] w fun e w'=>e=.returned (.tuple #[.bool (x.kind == 1),.bool (x.kind == 1 || x.kind == 2 || x.kind == 3 || x.kind == 4),.bool (x.kind == 2),.bool (x.kind == 3),.bool (x.kind == 4)])∧Below w.heap.size w w':=ref_has x.kind
     obtain⟨nx,hnx⟩:∃ nx,(if (x.kind == 1 || x.kind == 2 || x.kind == 3 || x.kind == 4) then wrap64 (k - x.next) else x.next)=nx:=⟨_,rfl⟩
     obtain⟨ox,hox⟩:∃ ox,(if x.kind == 2 then wrap64 (k - x.other) else x.other)=ox:=⟨_,rfl⟩
     have HT:=Lib.hid (show turnI k x={x with next:=nx,other:=ox} by unfold turnI;rw[hnx,hox])
     clear hx hxr hzl hget hkq h0 hz
     generalize (x.kind == 1 || x.kind == 2 || x.kind == 3 || x.kind == 4)=b2 at hha hnx
     generalize (x.kind == 2)=b3 at hha hox
     have hle:k - q≤4000:=by omega
     cases b2 with
     | true =>
      have hnx:wrap64 (k - x.next)=nx:=hnx
      cases b3 with
      | true =>
       have hox:wrap64 (k - x.other)=ox:=hox;have hT2:=HT.out;subst hnx hox;clear HT
       go_wp2_with (first|((with_reducible refine gL ?_);refine own_loadK wtd_ _ _ rfl rfl row_Inst rfl (H.rowCell (i:=1) i_1 (instsX_size _) HZL.out HXR.out rfl) ?_)|((with_reducible refine gT ?_);refine own_store1 wtd_ _ _ _ rfl rfl evd_ H (i:=3) i_3 rfl (by show 5<9;omega) (by with_reducible exact one_size one_int) ?_;clear H;intro w H;(rw[instC_put5]at H);try simp only[nr]at H)|((with_reducible refine gT ?_);refine own_store1 wtd_ _ _ _ rfl rfl evd_ H (i:=3) i_3 rfl (by show 6<9;omega) (by with_reducible exact one_size one_int) ?_;clear H;intro w H;(rw[instC_put6]at H);try simp only[nr]at H)|((with_reducible show @wpList _ _ _ ({dst:=_,op:=Op.buildSlice _ _ _,type:=_,pos:=_,after:=_,guard:=_}::_) _ _);refine own_build wtd_ _ _ _ rfl H (instC ({x with next:=wrap64 ((k:Int) - x.next),other:=wrap64 ((k:Int) - x.other)})) 43 (by intro W;simp only[List.map_toArray,List.map_cons,List.map_nil];(try simp only[pe]);exact run_inst1 _ W) ?_;clear H;intro bk w H;try simp only[nr]at H)|(at_builtin;refine own_append rfl _ _ 22 rfl H (i:=2) (j:=4) evd_ rfl i_2 i_4 Tryz.underlying22 hi0 hz0 hz1 hz2 rfl (by decide) rfl rfl (by unfold maxLen;omega) (by omega) ?_;clear H;intro v2 w H;(try simp only[nr]at H);(obtain⟨q9,c9,rfl,_,_,_⟩:=H.rowShape (i:=2) i_2))|(first|((with_reducible refine gTi ?_);refine aTi H ?_;clear H;intro w H;try simp only[nr]at H)|((with_reducible refine gLi ?_);refine aLi H ?_)|((with_reducible refine gL ?_);refine aGi H ?_)|((with_reducible refine gL ?_);refine aG H ?_)|((with_reducible refine gA ?_);(refine bA H ?_;clear H;intro b w H;try simp only[nr]at H)))|(go_at_call 70;(with_reducible refine ch (hha _) H ?_);clear H;intro w H))
       rw[flatI_put,← hT2,← ET.out,show k - q+1=k+1 - q by omega]at H
       go_roundw
       case rel=>exact⟨q,_,q9,c9,by omega,rfl,by rw[show k+1 - q=k - q+1 by omega],by go_num,by rw[show k+1 - q=k - q+1 by omega]at H ⊢;exact H.pick [0,1,2] _ (by decide) rfl⟩
       case measure=>simp[intOf]<;>omega
      | false =>
       have hox:x.other=ox:=hox;have hT2:=HT.out;subst hnx hox;clear HT
       go_wp2_with (first|((with_reducible refine gL ?_);refine own_loadK wtd_ _ _ rfl rfl row_Inst rfl (H.rowCell (i:=1) i_1 (instsX_size _) HZL.out HXR.out rfl) ?_)|((with_reducible refine gT ?_);refine own_store1 wtd_ _ _ _ rfl rfl evd_ H (i:=3) i_3 rfl (by show 5<9;omega) (by with_reducible exact one_size one_int) ?_;clear H;intro w H;(rw[instC_put5]at H);try simp only[nr]at H)|((with_reducible refine gT ?_);refine own_store1 wtd_ _ _ _ rfl rfl evd_ H (i:=3) i_3 rfl (by show 6<9;omega) (by with_reducible exact one_size one_int) ?_;clear H;intro w H;(rw[instC_put6]at H);try simp only[nr]at H)|((with_reducible show @wpList _ _ _ ({dst:=_,op:=Op.buildSlice _ _ _,type:=_,pos:=_,after:=_,guard:=_}::_) _ _);refine own_build wtd_ _ _ _ rfl H (instC ({x with next:=wrap64 ((k:Int) - x.next),other:=x.other})) 43 (by intro W;simp only[List.map_toArray,List.map_cons,List.map_nil];(try simp only[pe]);exact run_inst1 _ W) ?_;clear H;intro bk w H;try simp only[nr]at H)|(at_builtin;refine own_append rfl _ _ 22 rfl H (i:=2) (j:=4) evd_ rfl i_2 i_4 Tryz.underlying22 hi0 hz0 hz1 hz2 rfl (by decide) rfl rfl (by unfold maxLen;omega) (by omega) ?_;clear H;intro v2 w H;(try simp only[nr]at H);(obtain⟨q9,c9,rfl,_,_,_⟩:=H.rowShape (i:=2) i_2))|(first|((with_reducible refine gTi ?_);refine aTi H ?_;clear H;intro w H;try simp only[nr]at H)|((with_reducible refine gLi ?_);refine aLi H ?_)|((with_reducible refine gL ?_);refine aGi H ?_)|((with_reducible refine gL ?_);refine aG H ?_)|((with_reducible refine gA ?_);(refine bA H ?_;clear H;intro b w H;try simp only[nr]at H)))|(go_at_call 70;(with_reducible refine ch (hha _) H ?_);clear H;intro w H))
       rw[flatI_put,← hT2,← ET.out,show k - q+1=k+1 - q by omega]at H
       go_roundw
       case rel=>exact⟨q,_,q9,c9,by omega,rfl,by rw[show k+1 - q=k - q+1 by omega],by go_num,by rw[show k+1 - q=k - q+1 by omega]at H ⊢;exact H.pick [0,1,2] _ (by decide) rfl⟩
       case measure=>simp[intOf]<;>omega
     | false =>
      have hnx:x.next=nx:=hnx
      cases b3 with
      | true =>
       have hox:wrap64 (k - x.other)=ox:=hox;have hT2:=HT.out;subst hnx hox;clear HT
       go_wp2_with (first|((with_reducible refine gL ?_);refine own_loadK wtd_ _ _ rfl rfl row_Inst rfl (H.rowCell (i:=1) i_1 (instsX_size _) HZL.out HXR.out rfl) ?_)|((with_reducible refine gT ?_);refine own_store1 wtd_ _ _ _ rfl rfl evd_ H (i:=3) i_3 rfl (by show 5<9;omega) (by with_reducible exact one_size one_int) ?_;clear H;intro w H;(rw[instC_put5]at H);try simp only[nr]at H)|((with_reducible refine gT ?_);refine own_store1 wtd_ _ _ _ rfl rfl evd_ H (i:=3) i_3 rfl (by show 6<9;omega) (by with_reducible exact one_size one_int) ?_;clear H;intro w H;(rw[instC_put6]at H);try simp only[nr]at H)|((with_reducible show @wpList _ _ _ ({dst:=_,op:=Op.buildSlice _ _ _,type:=_,pos:=_,after:=_,guard:=_}::_) _ _);refine own_build wtd_ _ _ _ rfl H (instC ({x with next:=x.next,other:=wrap64 ((k:Int) - x.other)})) 43 (by intro W;simp only[List.map_toArray,List.map_cons,List.map_nil];(try simp only[pe]);exact run_inst1 _ W) ?_;clear H;intro bk w H;try simp only[nr]at H)|(at_builtin;refine own_append rfl _ _ 22 rfl H (i:=2) (j:=4) evd_ rfl i_2 i_4 Tryz.underlying22 hi0 hz0 hz1 hz2 rfl (by decide) rfl rfl (by unfold maxLen;omega) (by omega) ?_;clear H;intro v2 w H;(try simp only[nr]at H);(obtain⟨q9,c9,rfl,_,_,_⟩:=H.rowShape (i:=2) i_2))|(first|((with_reducible refine gTi ?_);refine aTi H ?_;clear H;intro w H;try simp only[nr]at H)|((with_reducible refine gLi ?_);refine aLi H ?_)|((with_reducible refine gL ?_);refine aGi H ?_)|((with_reducible refine gL ?_);refine aG H ?_)|((with_reducible refine gA ?_);(refine bA H ?_;clear H;intro b w H;try simp only[nr]at H)))|(go_at_call 70;(with_reducible refine ch (hha _) H ?_);clear H;intro w H))
       rw[flatI_put,← hT2,← ET.out,show k - q+1=k+1 - q by omega]at H
       go_roundw
       case rel=>exact⟨q,_,q9,c9,by omega,rfl,by rw[show k+1 - q=k - q+1 by omega],by go_num,by rw[show k+1 - q=k - q+1 by omega]at H ⊢;exact H.pick [0,1,2] _ (by decide) rfl⟩
       case measure=>simp[intOf]<;>omega
      | false =>
       have hox:x.other=ox:=hox;have hT2:=HT.out;subst hnx hox;clear HT
       go_wp2_with (first|((with_reducible refine gL ?_);refine own_loadK wtd_ _ _ rfl rfl row_Inst rfl (H.rowCell (i:=1) i_1 (instsX_size _) HZL.out HXR.out rfl) ?_)|((with_reducible refine gT ?_);refine own_store1 wtd_ _ _ _ rfl rfl evd_ H (i:=3) i_3 rfl (by show 5<9;omega) (by with_reducible exact one_size one_int) ?_;clear H;intro w H;(rw[instC_put5]at H);try simp only[nr]at H)|((with_reducible refine gT ?_);refine own_store1 wtd_ _ _ _ rfl rfl evd_ H (i:=3) i_3 rfl (by show 6<9;omega) (by with_reducible exact one_size one_int) ?_;clear H;intro w H;(rw[instC_put6]at H);try simp only[nr]at H)|((with_reducible show @wpList _ _ _ ({dst:=_,op:=Op.buildSlice _ _ _,type:=_,pos:=_,after:=_,guard:=_}::_) _ _);refine own_build wtd_ _ _ _ rfl H (instC (x)) 43 (by intro W;simp only[List.map_toArray,List.map_cons,List.map_nil];(try simp only[pe]);exact run_inst1 _ W) ?_;clear H;intro bk w H;try simp only[nr]at H)|(at_builtin;refine own_append rfl _ _ 22 rfl H (i:=2) (j:=4) evd_ rfl i_2 i_4 Tryz.underlying22 hi0 hz0 hz1 hz2 rfl (by decide) rfl rfl (by unfold maxLen;omega) (by omega) ?_;clear H;intro v2 w H;(try simp only[nr]at H);(obtain⟨q9,c9,rfl,_,_,_⟩:=H.rowShape (i:=2) i_2))|(first|((with_reducible refine gTi ?_);refine aTi H ?_;clear H;intro w H;try simp only[nr]at H)|((with_reducible refine gLi ?_);refine aLi H ?_)|((with_reducible refine gL ?_);refine aGi H ?_)|((with_reducible refine gL ?_);refine aG H ?_)|((with_reducible refine gA ?_);(refine bA H ?_;clear H;intro b w H;try simp only[nr]at H)))|(go_at_call 70;(with_reducible refine ch (hha _) H ?_);clear H;intro w H))
       have hT2:turnI k x=x:=hT2;rw[flatI_put,← hT2,← ET.out,show k - q+1=k+1 - q by omega]at H
       go_roundw
       case rel=>exact⟨q,_,q9,c9,by omega,rfl,by rw[show k+1 - q=k - q+1 by omega],by go_num,by rw[show k+1 - q=k - q+1 by omega]at H ⊢;exact H.pick [0,1,2] _ (by decide) rfl⟩
       case measure=>simp[intOf]<;>omega
def progP (L:Str) (f:FlagsD):Except Nat (List InstD):=match parseP L f with|.ok (t,_)=>makeP t|.error _=>makeP (leafT 0)
def madeP (L:Str):List InstD:=match progP L (false,false,false) with|.ok ps=>ps|.error _=>[]
theorem prog_ok {L:Str} {f:FlagsD} {ps:List InstD} (h:progP L f=.ok ps):∀ x ∈ ps,SetOk x.set:=by
 unfold progP at h;split at h
 ·rename_i t g ht;exact make_ok (parse_tok ht) h
 ·exact make_ok (tok_leaf 0) h
theorem made_ok (L:Str):∀ x ∈ madeP L,SetOk x.set:=by
 unfold madeP;split
 ·rename_i ps h;exact prog_ok h
 ·intro x hx;cases hx
def InstOut (w:World) (ps:List InstD) (e:Ending) (w':World):Prop:=∃ q c F,e=.returned (.slice q ps.length c)∧InstsR F q c ps w'∧∀ b,F b→b<w'.heap.size∧w.heap.size≤b
section
variable {M:Nat→Prop} {P:Program} {f:FuncId} {args:Array Value} {w w0:World} {l:List Res} {R:Ending→World→Prop}
theorem chPok {t:Tree} {g:Nat} (c:Calls P f args w fun e w'=>ParseOut w (.ok (t,g)) e w'∧Below w.heap.size w w') (H:HoldG M w0 w l)
  (k:∀ p n F w',(∀ b,F b→w0.heap.size≤b)→HoldG M w0 w' (l++[.kn F (fun V=>ForestR V F p n t.kids)])→R (.returned (.tuple #[nodeV t.d (.slice p t.kids.length n),.int .i64 g,.int .i64 0,.int .i64 0])) w'):Calls P f args w R:=c.mono fun _ w' h=>by
 obtain⟨⟨p,n,F,rfl,hs,hF⟩,hb⟩:=h;exact k p n F w' (fun b h=>Nat.le_trans H.keep.size (hF b h).2) (H.learn hb Still.none (fun b h=>⟨(hF b h).1,.inl (hF b h).2⟩) (fun V hV=>hs.kept hV))
theorem chPerr {a x:Nat} (c:Calls P f args w fun e w'=>ParseOut w (.error (a,x)) e w'∧Below w.heap.size w w') (H:HoldG M w0 w l)
  (k:∀ w',HoldG M w0 w' l→R (.returned (.tuple #[nodeV {kind:=0} nilS,.int .i64 0,.int .i64 a,.int .i64 x])) w'):Calls P f args w R:=c.mono fun _ w' h=>by
 obtain⟨rfl,hb⟩:=h;exact k w' (H.call hb)
theorem chMok {ps:List InstD} (c:Calls P f args w fun e w'=>MakeOut w (.ok ps) e w'∧Below w.heap.size w w') (H:HoldG M w0 w l)
  (k:∀ q n F w',(∀ b,F b→w0.heap.size≤b)→HoldG M w0 w' (l++[.kn F (InstsR F q n ps)])→R (.returned (.tuple #[.slice q ps.length n,.int .i64 0])) w'):Calls P f args w R:=c.mono fun _ w' h=>by
 obtain⟨⟨q,n,F,rfl,hs,hF⟩,hb⟩:=h;exact k q n F w' (fun b h=>Nat.le_trans H.keep.size (hF b h).2) (H.learn hb Still.none (fun b h=>⟨(hF b h).1,.inl (hF b h).2⟩) (fun V hV=>hs.kept hV))
theorem chMerr {x:Nat} (c:Calls P f args w fun e w'=>MakeOut w (.error x) e w'∧Below w.heap.size w w') (H:HoldG M w0 w l)
  (k:∀ w',HoldG M w0 w' l→R (.returned (.tuple #[.slice none 0 0,.int .i64 x])) w'):Calls P f args w R:=c.mono fun _ w' h=>by
 obtain⟨rfl,hb⟩:=h;exact k w' (H.call hb)
theorem chI14 {ps:List InstD} (c:Calls P f args w fun e w'=>InstOut w ps e w'∧Below w.heap.size w w') (H:HoldG M w0 w l)
  (k:∀ q n F w',(∀ b,F b→w0.heap.size≤b)→HoldG M w0 w' (l++[.kn F (InstsR F q n ps)])→R (.returned (.slice q ps.length n)) w'):Calls P f args w R:=c.mono fun _ w' h=>by
 obtain⟨⟨q,n,F,rfl,hs,hF⟩,hb⟩:=h;exact k q n F w' (fun b h=>Nat.le_trans H.keep.size (hF b h).2) (H.learn hb Still.none (fun b h=>⟨(hF b h).1,.inl (hF b h).2⟩) (fun V hV=>hs.kept hV))
end
theorem make_call (t:Tree) (p:Option Addr) (c:Nat) (F:Nat→Prop) (w0:World) (hs:sizeT t≤1000000000) (hF:∀ b,F b→b<w0.heap.size) (h:ForestR w0 F p c t.kids) :
  Calls Tryz.prog 29 #[nodeV t.d (.slice p t.kids.length c)] w0 fun e w'=>MakeOut w0 (makeP t) e w'∧Below w0.heap.size w0 w':=ref_Make13 (sizeT t) t p t.kids.length c F w0 (Nat.le_refl _) hs hF h rfl
theorem make_call0 (w0:World):Calls Tryz.prog 29 #[nodeV {kind:=0} nilS] w0 fun e w'=>MakeOut w0 (makeP (leafT 0)) e w'∧Below w0.heap.size w0 w' :=
 make_call (leafT 0) none 0 (fun _=>False) w0 (by rw[size_leaf];decide) (fun _ h=>h.elim) (ForestR.nil ..)
theorem parse_size {L:Str} {f:FlagsD} {t:Tree} {g:Nat} (h:parseP L f=.ok (t,g)):sizeT t≤2000:=by
 unfold parseP at h;split at h
 ·cases h
 split at h
 ·cases h
 split at h
 ·cases h
 split at h
 ·cases h
 split at h
 ·cases h
 simp only[Except.ok.injEq,Prod.mk.injEq]at h;obtain⟨rfl,_⟩:=h;omega
theorem run_fb0 (W:World):(Instr.build 92 #[]).run Tryz.prog W=.ok (flagsV (false,false,false)) W:=by kernel_rfl
theorem fb0 {ops:Array Oper} {dst:Option Tmp} {ty:TypeId} {pos:String} {aft:Array Edge} {grd:Option (Nat × Bool)} {rest:List Oper} {a:Act} {w:World} {Q:Exit→Act→World→Prop} (h:wpList Tryz.prog ops Q rest (a.put dst (flagsV (false,false,false))) w) (hg:Region.wanted (⟨dst,.build 92 #[],ty,pos,aft,grd⟩:Oper) (yielded ops a.tmps)=true:=by first|rfl|exact wanted_g rfl (yielded_of rfl (by first|rfl|(simp only[pe];rfl)))):wpList Tryz.prog ops Q ((⟨dst,.build 92 #[],ty,pos,aft,grd⟩:Oper)::rest) a w :=
 own_pure hg (by simp only[execOp,List.map_toArray,List.map_nil,Sem.run_bind,run_fb0];rfl) h
theorem law_madeO (L:Str) (hW:L.length≤1000→WordOk L) (w0:World):Calls Tryz.prog 13 #[.string ⟨L.toArray⟩] w0 fun e w'=>InstOut w0 (madeP L) e w'∧Below w0.heap.size w0 w':=by
 have H:=Hold.start w0;have hp:=fun w=>ref_ParseO L hW (false,false,false) w
 clear hW;have E:madeP L=madeP L:=rfl
 conv at E=>rhs;unfold madeP progP
 cases hpr:parseP L (false,false,false) with
 | error x =>
  obtain⟨pa,px⟩:=x;rw[hpr]at hp E;clear hpr;have hm:=fun w=>make_call0 w
  simp only at E
  cases hmk:makeP (leafT 0) with
  | error y =>
   rw[hmk]at hm E;clear hmk;have E:=Lib.hid E
   go_enter Tryz.func13,Tryz.ntmps13
   go_wp2_with (first|((with_reducible refine gZ ?_);refine fb0 ?_)|(go_at_call 28;refine chPerr (hp _) H ?_;clear H;intro w H)|(go_at_call 29;refine chMerr (hm _) H ?_;clear H;intro w H)|((first|((with_reducible refine kgA 3 ?_);refine kA 3 H ?_)|((with_reducible refine kgX 3 ?_);(first|refine kS 3 H ?_|refine kB 3 H ?_)));clear H;intro b3 w H;try simp only[nr]at H)|(first|((with_reducible refine gT ?_);(refine aT H ?_;clear H;intro w H;try simp only[nr]at H))|((with_reducible refine gL ?_);refine aD H ?_)))
   go_ret;rw[E.out];exact⟨⟨none,0,fun _=>False,rfl,RdN.nil ..,fun b h=>h.elim⟩,H.below⟩
  | ok ps =>
   rw[hmk]at hm E;clear hmk;have E:=Lib.hid E
   go_enter Tryz.func13,Tryz.ntmps13
   go_wp2_with (first|((with_reducible refine gZ ?_);refine fb0 ?_)|(go_at_call 28;refine chPerr (hp _) H ?_;clear H;intro w H)|(go_at_call 29;refine chMok (hm _) H ?_;clear H;intro q n F w hF H;simp only[List.cons_append,List.nil_append]at H)|((first|((with_reducible refine kgA 3 ?_);refine kA 3 H ?_)|((with_reducible refine kgX 3 ?_);(first|refine kS 3 H ?_|refine kB 3 H ?_)));clear H;intro b3 w H;try simp only[nr]at H)|(first|((with_reducible refine gT ?_);(refine aT H ?_;clear H;intro w H;try simp only[nr]at H))|((with_reducible refine gL ?_);refine aD H ?_)))
   go_ret;rw[E.out];exact⟨⟨q,n,F,rfl,H.kn (i:=1) i_1,fun b h=>⟨H.knlt (i:=1) i_1 b h,hF b h⟩⟩,H.below⟩
 | ok x =>
  obtain⟨t,g⟩:=x;have hsz:=parse_size hpr;rw[hpr]at hp E;clear hpr;have hm:=fun p c F w h1 h2=>make_call t p c F w (Nat.le_trans hsz (by decide)) h1 h2
  clear hsz;simp only at E
  cases hmk:makeP t with
  | error y =>
   rw[hmk]at hm E;clear hmk;have E:=Lib.hid E
   go_enter Tryz.func13,Tryz.ntmps13
   go_wp2_with (first|((with_reducible refine gZ ?_);refine fb0 ?_)|(go_at_call 28;refine chPok (hp _) H ?_;clear H;intro p1 n1 F1 w hF1 H;clear hF1;simp only[List.cons_append,List.nil_append]at H)|(go_at_call 29;refine chMerr (hm _ _ _ _ (H.knlt (i:=0) .zero) (H.kn (i:=0) .zero)) H ?_;clear H;intro w H)|((first|((with_reducible refine kgA 3 ?_);refine kA 3 H ?_)|((with_reducible refine kgX 3 ?_);(first|refine kS 3 H ?_|refine kB 3 H ?_)));clear H;intro b3 w H;try simp only[nr]at H)|(first|((with_reducible refine gT ?_);(refine aT H ?_;clear H;intro w H;try simp only[nr]at H))|((with_reducible refine gL ?_);refine aD H ?_)))
   go_ret;rw[E.out];exact⟨⟨none,0,fun _=>False,rfl,RdN.nil ..,fun b h=>h.elim⟩,H.below⟩
  | ok ps =>
   rw[hmk]at hm E;clear hmk;have E:=Lib.hid E
   go_enter Tryz.func13,Tryz.ntmps13
   go_wp2_with (first|((with_reducible refine gZ ?_);refine fb0 ?_)|(go_at_call 28;refine chPok (hp _) H ?_;clear H;intro p1 n1 F1 w hF1 H;clear hF1;simp only[List.cons_append,List.nil_append]at H)|(go_at_call 29;refine chMok (hm _ _ _ _ (H.knlt (i:=0) .zero) (H.kn (i:=0) .zero)) H ?_;clear H;intro q n F w hF H;simp only[List.cons_append,List.nil_append]at H)|((first|((with_reducible refine kgA 3 ?_);refine kA 3 H ?_)|((with_reducible refine kgX 3 ?_);(first|refine kS 3 H ?_|refine kB 3 H ?_)));clear H;intro b3 w H;try simp only[nr]at H)|(first|((with_reducible refine gT ?_);(refine aT H ?_;clear H;intro w H;try simp only[nr]at H))|((with_reducible refine gL ?_);refine aD H ?_)))
   go_ret;rw[E.out];exact⟨⟨q,n,F,rfl,H.kn (i:=2) i_2,fun b h=>⟨H.knlt (i:=2) i_2 b h,hF b h⟩⟩,H.below⟩
end Go.Proofs.YtdoflhjhaciepaaGreat
namespace Go.Proofs.YtdoflhjhaciepaaGreat
open Go.RowKit
section
variable {p:List InstD} {s:Str}
inductive DfsD (p:List InstD) (s:Str) (D:Nat→Nat→Bool):List Ent→(Nat→Nat→Bool)→Option Slots→Prop
 | nil (S):DfsD p s D [] S none
 | seen (k i sl r S res) (h:S k i=true) (hr:DfsD p s D r S res):DfsD p s D ((k,i,sl)::r) S res
 | hit (k i sl r S) (h:S k i=false) (hk:(atI p k).kind=5):DfsD p s D ((k,i,sl)::r) S (some sl)
 | go (k i sl r S res) (h:S k i=false) (hk:(atI p k).kind≠5) (hr:DfsD p s D ((sucE p s k i sl).filter (fun e=>!D e.1 e.2.1)++r) (upS S k i) res):DfsD p s D ((k,i,sl)::r) S res
theorem Dfs.keeps {Q:Ent→Prop} (hQ:∀ k i sl,Q (k,i,sl)→(atI p k).kind≠5→∀ e ∈ sucE p s k i sl,Q e) {st:List Ent} {S:Nat→Nat→Bool} {res:Option Slots} (h:Dfs p s none st S res) (hst:∀ e ∈ st,Q e) {sl:Slots} (hr:res=some sl):∃ k i,Q (k,i,sl)∧(atI p k).kind=5:=by
 induction h with
 | nil S=>cases hr
 | seen k i sl' r S res hs hr' ih=>exact ih (fun e he=>hst e (List.mem_cons_of_mem _ he)) hr
 | hit k i sl' r S hs hk=>cases hr;exact⟨k,i,hst _ (List.mem_cons_self ..),hk⟩
 | go k i sl' r S res hs hk hr' ih =>
  exact ih (fun e he=>(List.mem_append.1 he).elim (hQ k i sl' (hst _ (List.mem_cons_self ..)) hk e) (fun he=>hst e (List.mem_cons_of_mem _ he))) hr
end
section
variable {p:List InstD} {s:Str}
theorem starts_mem {sl:Slots} {a n:Nat} {e:Ent} (h:e ∈ startsP sl none a n):e.1=0∧e.2.2=sl∧a≤e.2.1∧e.2.1<a+n:=by
 unfold startsP at h;obtain⟨j,hj,rfl⟩:=List.mem_map.1 h;rw[List.mem_range'_1]at hj;exact⟨rfl,rfl,hj.1,hj.2⟩
end
end Go.Proofs.YtdoflhjhaciepaaGreat
namespace Go.Proofs.YtdoflhjhaciepaaGreat
open Go.RowKit Go.Shelf
attribute [local go_sem] Oper.semAt_some
theorem freeze_grown (w:World) (b n:Nat):w.grownBy (w.freeze ⟨b,n,none⟩ 1) (some b):=by
 unfold World.freeze;rw[if_neg (by decide)]
 exact⟨rfl,rfl,rfl,by simp,fun j hj hne=>by
  show (w.heap.modify b _)[j]?=_
  rw[Array.getElem?_modify,if_neg (fun e=>hne (by rw[e]))]⟩
theorem freeze_cells {w:World} {b n:Nat} {cs:Array Value} {T:TypeId} (h:w.heap[b]?=some (.cells cs T (0,0))):∃ f,(w.freeze ⟨b,n,none⟩ 1).heap[b]?=some (.cells cs T f):=by
 unfold World.freeze;rw[if_neg (by decide)]
 show ∃ f',(w.heap.modify b _)[b]?=_
 rw[Array.getElem?_modify,if_pos rfl,h];exact⟨_,rfl⟩
theorem bytes_cells {V:World} {b:Nat} {L:Str} {cs:Array Value} {T:TypeId} {f:Nat × Nat} (h:V.heap[b]?=some (.cells cs T f)) (hc:cs=(L.map fun x=>Value.int .u8 x.toNat).toArray) (hl:L.length≤1000):BytesR (·=b) (some ⟨b,0,none⟩) L.length L V:=by
 refine⟨_,L.length,by rw[List.length_map],by simp,?_,(fun h=>by cases h),fun j r hr=>⟨b,0,rfl,rfl,?_,fun k hk=>?_⟩⟩
 ·unfold maxLen;omega
 ·rw[List.getElem?_map]at hr;obtain⟨x,_,rfl⟩:=Option.map_eq_some_iff.1 hr;rfl
 ·rw[List.getElem?_map]at hr;obtain⟨x,hx,rfl⟩:=Option.map_eq_some_iff.1 hr;obtain rfl:k=0:=by omega
  rw[cell_of_row V b _ cs T f h,hc];simp[hx]
section
variable {P:Program} {ops:Array Oper} {rest:List Oper} {o:Oper} {a:Act} {w w0:World} {Q:Exit→Act→World→Prop} {l:List Res} {M:Nat→Prop}
theorem own_convB (hg:Region.wanted o (yielded ops a.tmps)=true) {TS T:TypeId} {x:Operand} (ho:o.op=Op.convert TS TS x) (ht:P.underlying TS=some (.slice T)) (he:P.underlying T=some (.int .u8)) (H:HoldG M w0 w l) {i b:Nat} {L:Str} {cs:Array Value} (hx:a.eval x=.slice (some ⟨b,0,none⟩) L.length L.length) (hi:At l i (.blk b cs T))
  (hc:cs=(L.map fun x=>Value.int .u8 x.toNat).toArray) (hl:L.length≤1000)
  (h:∀ w',HoldG M w0 w' (l.set i (.kn (·=b) (BytesR (·=b) (some ⟨b,0,none⟩) L.length L)))→wpList P ops Q rest (a.put o.dst (.slice (some ⟨b,0,none⟩) L.length L.length)) w'):wpList P ops Q (o::rest) a w :=
 wpList_wanted hg fun _ hK=>by
  have hb:=(H.blk hi).2;have hsz:cs.size=L.length:=by rw[hc];simp
  have hsh:w.shape? b=some (T,L.length):=by unfold World.shape?;rw[hb];simp[hsz]
  have hr:(convert TS TS (.slice (some ⟨b,0,none⟩) L.length L.length)).run P w=.ok (.slice (some ⟨b,0,none⟩) L.length L.length) (w.freeze ⟨b,L.length,none⟩ 1):=by
   simp[convert,run_underlying ht,run_underlying he,markStringish,hsh]
  unfold Oper.wp;have:(execOp a.eval o).run P w=.ok (.value (.slice (some ⟨b,0,none⟩) L.length L.length)) (w.freeze ⟨b,L.length,none⟩ 1):=by
   simp only[execOp,ho,hx];simp[hr]
  rw[this];obtain⟨f,hf⟩:=freeze_cells (n:=L.length) hb;refine hK _ _ (h _ (H.upd hi.get (freeze_grown w b L.length) ⟨fun b' e=>by subst e;exact(Array.getElem?_eq_some_iff.1 hf).1,fun V hV=>bytes_cells ((hV b rfl).trans hf) hc hl⟩ (fun b' e=>.inl (by subst e;rfl))))
theorem HoldG.blkInts (H:HoldG M w0 w l) {i b:Nat} {xs:List Int} {T:TypeId} {cs:Array Value} (hi:At l i (.blk b cs T)) (hc:cs=(xs.map (Value.int .i64)).toArray) (hn:xs.length≤1000):IntsR (·=b) (some ⟨b,0,none⟩) xs.length xs w:=by
 refine⟨_,xs.length,by rw[List.length_map],by simp,?_,(fun h=>by cases h),fun j r hr=>⟨b,0,rfl,rfl,?_,fun k hk=>?_⟩⟩
 ·unfold maxLen;omega
 ·rw[List.getElem?_map]at hr;obtain⟨x,_,rfl⟩:=Option.map_eq_some_iff.1 hr;rfl
 ·rw[List.getElem?_map]at hr;obtain⟨x,hx,rfl⟩:=Option.map_eq_some_iff.1 hr;obtain rfl:k=0:=by omega
  rw[H.cell hi,hc];simp[hx]
end
def exRegex:Str:=[40,97,124,97,98,41,40,99,124,98,99,100,41,63]
def exText:Str:=[120,97,98,99,100]
theorem ex_plain:∀ i,i<14→byt exRegex i≠92∧byt exRegex i≠91∧byt exRegex i≠123∧atP exRegex i [40,63]=false:=by decide +kernel
theorem ex_words (_:exRegex.length≤1000):WordOk exRegex:=fun i hi w=>word_plain (by decide) hi (ex_plain i hi).1 (ex_plain i hi).2.1 (ex_plain i hi).2.2.1 (ex_plain i hi).2.2.2 w
theorem ex_run:runP (madeP exRegex) exText 0=some [1,5,1,2,2,5]:=by decide +kernel
theorem law_awake (w0:World):Calls Tryz.prog 5 #[] w0 fun e w'=>e=.returned (.bool true)∧Below w0.heap.size w0 w':=by
 have H:=Hold.start w0;have hm:=fun w=>law_madeO exRegex ex_words w
 have hset:=made_ok exRegex;have hv:=fun q n F G p c w h1 h2 h3 h4=>vm_Run q n (madeP exRegex) p c exText 0 F G w hset (by decide) h1 h2 h3 h4
 rw[ex_run]at hv;obtain⟨ps,hps⟩:∃ ps,madeP exRegex=ps:=⟨_,rfl⟩;rw[hps]at hm hv;clear hps hset
 go_enter Tryz.func5,Tryz.ntmps5
 go_wp2_with (first|(go_at_call 13;refine chI14 (hm _) H ?_;clear H;intro q n F w hF H;clear hF;simp only[List.cons_append,List.nil_append]at H)|((with_reducible show @wpList _ _ _ ({dst:=_,op:=Op.convert _ _ _,type:=_,pos:=_,after:=_,guard:=_}::_) _ _);refine own_convB wtd_ rfl Tryz.underlying23 Tryz.underlying5 H (L:=exText) rfl i_1 rfl (by decide) ?_;clear H;intro w H;simp only[List.set_cons_succ,List.set_cons_zero]at H)|(go_at_call 8;refine chRs (hv _ _ _ _ _ _ _ (H.knlt (i:=0) .zero) (H.knlt (i:=1) i_1) (H.kn (i:=0) .zero) (H.kn (i:=1) i_1)) H ?_;clear H;intro q1 n1 F1 w hF1 H;clear hF1;simp only[List.cons_append,List.nil_append]at H)|(go_at_call 16;refine ch (kit_SameI q1 _ n1 _ [1,5,1,2,2,5] F1 _ _ (H.knlt (i:=2) i_2) (fun b e=>by subst e;exact(Array.getElem?_eq_some_iff.1 (H.blk (i:=3) i_3).2).1) (H.kn (i:=2) i_2) (H.blkInts (i:=3) i_3 rfl (by decide))) H ?_;clear H;intro w H)|((with_reducible show @wpList _ _ _ ({dst:=_,op:=Op.buildSlice 23 _ _,type:=_,pos:=_,after:=_,guard:=_}::_) _ _);refine own_build wtd_ _ _ _ rfl H (#[.int .u8 120,.int .u8 97,.int .u8 98,.int .u8 99,.int .u8 100]) 5 (by intro W;simp only[List.map_toArray,List.map_cons,List.map_nil];(try simp only[pe]);simp[go_sem]<;>rfl) ?_;clear H;intro b w H;simp only[List.cons_append,List.nil_append]at H)|((with_reducible show @wpList _ _ _ ({dst:=_,op:=Op.buildSlice 27 _ _,type:=_,pos:=_,after:=_,guard:=_}::_) _ _);refine own_build wtd_ _ _ _ rfl H (#[.int .i64 1,.int .i64 5,.int .i64 1,.int .i64 2,.int .i64 2,.int .i64 5]) 3 (by intro W;simp only[List.map_toArray,List.map_cons,List.map_nil];(try simp only[pe]);simp[go_sem]<;>rfl) ?_;clear H;intro b w H;simp only[List.cons_append,List.nil_append]at H)|fail)
 go_ret;exact⟨rfl,H.below⟩
end Go.Proofs.YtdoflhjhaciepaaGreat
namespace Go.Proofs.YtdoflhjhaciepaaGreat

end Go.Proofs.YtdoflhjhaciepaaGreat
namespace Go.Proofs.YtdoflhjhaciepaaGreat
open Go.RowKit Go.Shelf
attribute [local go_sem] Oper.semAt_some
def i64s (xs:List Int):List Value:=xs.map (.int .i64)
def u8s (xs:List Int):List Value:=xs.map (.int .u8)
theorem Rd.i64 {w:World} {b0:Nat} {v:Value} {xs:List Int} (h:Rd w b0 v (i64s xs)) :
  ((∃ q,v=.slice q 0 0)∧xs=[])∨∃ b off cap,v=.slice (some ⟨b,off,none⟩) xs.length cap∧b<b0∧xs.length≤cap∧cap≤maxLen ∧
  ∀ j,(h:j<xs.length)→w.cell? ⟨b,off+j,none⟩=some (.int .i64 xs[j]):=by
 rcases h with ⟨h1,h2⟩|⟨b,off,cap,e,h1,h2,h3,h4⟩
 ·exact .inl ⟨h1,by simpa [i64s] using h2⟩
 ·refine .inr ⟨b,off,cap,by simpa [i64s] using e,h1,by simpa [i64s] using h2,h3,fun j hj=>?_⟩
  rw[h4 j (by simpa [i64s] using hj)];simp[i64s]
theorem Rd.u8 {w:World} {b0:Nat} {v:Value} {xs:List Int} (h:Rd w b0 v (u8s xs)) :
  ((∃ q,v=.slice q 0 0)∧xs=[])∨∃ b off cap,v=.slice (some ⟨b,off,none⟩) xs.length cap∧b<b0∧xs.length≤cap∧cap≤maxLen ∧
  ∀ j,(h:j<xs.length)→w.cell? ⟨b,off+j,none⟩=some (.int .u8 xs[j]):=by
 rcases h with ⟨h1,h2⟩|⟨b,off,cap,e,h1,h2,h3,h4⟩
 ·exact .inl ⟨h1,by simpa [u8s] using h2⟩
 ·refine .inr ⟨b,off,cap,by simpa [u8s] using e,h1,by simpa [u8s] using h2,h3,fun j hj=>?_⟩
  rw[h4 j (by simpa [u8s] using hj)];simp[u8s]

def markF (k i:Int):Int:=1000003 * (k+7)+i
def markB (k i:Int):Int:=((markF k i).toNat * 11400714819323198485 % 2 ^ 64 / 2 ^ 56:Nat)
theorem markB_range (k i:Int):0≤markB k i∧markB k i≤255:=by
 unfold markB;have:((markF k i).toNat * 11400714819323198485 % 2 ^ 64)<2 ^ 64:=Nat.mod_lt _ (by decide)
 omega
theorem kit_mark (k i:Int) (w:World) (hk:0≤k∧k≤1000000) (hi:0≤i∧i≤1000000000000):Calls Tryz.prog 30 #[.int .i64 k,.int .i64 i] w fun e w'=>e=.returned (.int .i64 (markF k i))∧w=w':=by
 obtain⟨hk1,hk2⟩:=hk;obtain⟨hi1,hi2⟩:=hi
 go_enter Tryz.func30,Tryz.ntmps30
 go_wp2
 go_ret;refine⟨?_,rfl⟩;unfold markF;rfl
theorem kit_markByte (k i:Int) (w:World) (hk:0≤k∧k≤1000000) (hi:0≤i∧i≤1000000000000):Calls Tryz.prog 18 #[.int .i64 k,.int .i64 i] w fun e w'=>e=.returned (.int .u8 (markB k i))∧w=w':=by
 have hm:0≤markF k i∧markF k i≤3000000000000:=by unfold markF;omega
 have hB:markB k i=((markF k i).toNat * 11400714819323198485 % 2 ^ 64 / 2 ^ 56:Nat):=rfl;have HB:=Lib.hid hB;clear hB;have HK:=Lib.hid hk;clear hk;have HI:=Lib.hid hi;clear hi
 go_enter Tryz.func18,Tryz.ntmps18
 go_wp2_with fail
 refine(kit_mark _ _ _ HK.out HI.out).mono ?_
 rintro e w' ⟨rfl,rfl⟩
 generalize markF k i=m at hm HB
 obtain⟨m,rfl⟩:∃ n:Nat,m=n:=⟨m.toNat,by omega⟩
 go_wp2_with fail
 go_ret;refine⟨?_,rfl⟩;rw[HB.out]
 congr 2
 rw[IntKind.wrap_u64];simp;omega
def Lent (b0:Nat) (w:World) (v:Value) (cs extra:List Value):Prop :=
 ∃ g cap,v=.slice (some ⟨g,0,none⟩) cs.length cap∧b0≤g∧g<w.heap.size∧cs.length+12≤cap∧cap≤maxLen∧∀ j,j<cs.length+12→w.cell? ⟨g,j,none⟩=(cs++extra)[j]?
theorem Lent.below {b0:Nat} {w w':World} {v:Value} {cs extra:List Value} (h:Lent b0 w v cs extra) (hb:Below w.heap.size w w'):Lent b0 w' v cs extra:=by
 obtain⟨g,cap,e,h0,h1,h2,h3,h4⟩:=h;exact⟨g,cap,e,h0,by have:=hb.size;omega,h2,h3,fun j hj=>(hb.cell (p:=⟨g,j,none⟩) h1).trans (h4 j hj)⟩
def markI (i:Nat):InstD:={kind:=0,next:=markF 1 i}
def marksI (k:Nat):List InstD:=(List.range k).map markI
theorem marksI_succ (k:Nat):marksI (k+1)=marksI k++[markI k]:=by simp[marksI,List.range_succ]
theorem marksI_len (k:Nat):(marksI k).length=k:=by simp[marksI]
theorem run_mkI (k:Int) (W:World):(Instr.build 43 #[(2,.int .i64 k)]).run Tryz.prog W=.ok (instV {kind:=0,next:=k}) W:=by simp[go_sem];rfl
theorem bMkI {ops:Array Oper} {dst:Option Tmp} {ty:TypeId} {pos:String} {aft:Array Edge} {grd:Option (Nat × Bool)} {rest:List Oper} {a:Act} {w:World} {Q:Exit→Act→World→Prop} {x:Operand} {k:Int} (h:wpList Tryz.prog ops Q rest (a.put dst (instV {kind:=0,next:=k})) w) (hg:Region.wanted (⟨dst,.build 43 #[(2,x)],ty,pos,aft,grd⟩:Oper) (yielded ops a.tmps)=true:=by first|rfl|exact wanted_g rfl (yielded_of rfl (by first|rfl|(simp only[pe];rfl)))) (hx:a.eval x=.int .i64 k:=by first|(simp only[pe];done)|(simp only[pe];rfl)):wpList Tryz.prog ops Q ((⟨dst,.build 43 #[(2,x)],ty,pos,aft,grd⟩:Oper)::rest) a w :=
 own_pure hg (by simp only[execOp,List.map_toArray,List.map_cons,List.map_nil,hx,Sem.run_bind,run_mkI];rfl) h
theorem info_inst:(Tryz.prog.info? 43).map (fun i=>(i.zero.map (·.cells.size),i.size,i.bytes))=some (some 9,9,72):=by kernel_rfl
theorem kit_markInst (i:Nat) (w0:World) (hi:i≤1000000):Calls Tryz.prog 17 #[.int .i64 1,.int .i64 i] w0 fun e w'=>e=.returned (instV (markI i))∧Below w0.heap.size w0 w':=by
 have H:=Hold.start w0;have hm:=fun w=>(kit_mark 1 i w (by omega) (by omega)).mono (R':=fun e w'=>e=.returned (.int .i64 (markF 1 i))∧Below w.heap.size w w') (fun e w' h=>⟨h.1,by rw[← h.2];exact Below.refl _ _⟩)
 obtain⟨mk,hmk⟩:∃ mk,markF 1 i=mk:=⟨_,rfl⟩;rw[hmk]at hm;have HM:=Lib.hid hmk;clear hmk
 go_enter Tryz.func17,Tryz.ntmps17
 go_wp2_with (first|((with_reducible show @wpList _ _ _ ({dst:=_,op:=Op.build _ _,type:=_,pos:=_,after:=_,guard:=_}::_) _ _);refine bMkI ?_)|(go_at_call 30;(with_reducible refine ch (hm _) H ?_);clear H;intro w H)|((first|((with_reducible refine kgA 4 ?_);refine kA 4 H ?_)|((with_reducible refine kgX 4 ?_);(first|refine kS 4 H ?_|refine kB 4 H ?_)));clear H;intro b4 w H;try simp only[nr]at H)|((with_reducible refine gTi ?_);refine aTi H ?_;clear H;intro w H;try simp only[nr]at H))
 refine ret_c Tryz.results17 rfl H (i:=0) .zero row_Inst rfl rfl ?_
 exact⟨by unfold markI;rw[HM.out],H.below⟩
theorem own_make0 {P:Program} {ops:Array Oper} {rest:List Oper} {o:Oper} {a:Act} {w w0:World} {Q:Exit→Act→World→Prop} {l:List Res} {M:Nat→Prop} (hg:o.guard=none) (x c:Operand) (t:TypeId) (hop:o.op=Op.makeSlice t x c) (H:HoldG M w0 w l) {e:TypeId} {i:TypeInfo} {z:Value} {sz bytes:Nat}
  (h1:P.underlying t=some (.slice e)) (h2:P.info? e=some i) (h3:i.zero=some z) (h4:i.size=sz) (h5:i.bytes=bytes) {n:Nat} (hl:a.eval x=.int .i64 0) (hc:a.eval c=.int .i64 n) (b2:bytes * n≤281474976710656) (b3:n≤maxLen)
  (h:∀ g w',HoldG M w0 w' (l++[.row (.slice (some ⟨g,0,none⟩) 0 n) e sz 0 []])→wpList P ops Q rest (a.put o.dst (.slice (some ⟨g,0,none⟩) 0 n)) w'):wpList P ops Q (o::rest) a w:=by
 refine wpList_make_own w hg x c t hop w0.heap.size e i z sz h1 h2 h3 h4 .i64 .i64 n n hl hc rfl (by rw[h5];exact b2) b3 H.keep.size (fun w' r1 r2=>h w.heap.size w' ?_)
 exact H.add r2 r1 (fun b e=>by cases e;exact Nat.le_refl _)
theorem inst_info:∃ (i:TypeInfo) (z:Value),Tryz.prog.info? 43=some i∧i.zero=some z∧i.size=9∧i.bytes=72∧z.cells.size=9:=by
 have h:=info_inst
 cases hu:Tryz.prog.info? 43 with
 | none=>rw[hu]at h;cases h
 | some i =>
  rw[hu]at h;simp only[Option.map_some,Option.some.injEq,Prod.mk.injEq]at h;obtain⟨h1,h2,h3⟩:=h;obtain⟨z,hz,hs⟩:=Option.map_eq_some_iff.1 h1;exact⟨i,z,rfl,hz,h2,h3,hs⟩
theorem run_instL (d:InstD) (W:World):(Instr.buildSlice 22 1 #[(0,instV d)]).run Tryz.prog W=.ok (.slice (some ⟨W.heap.size,0,none⟩) 1 1) (W.alloc (.cells (instC d) 43)):=by kernel_rfl
theorem inst_cells (xs:List InstD):∀ u ∈ flatR (xs.map instC),u.oneCell'=true:=by
 intro u hu;simp only[flatR,List.mem_flatten,List.mem_map]at hu;obtain⟨l,⟨r,⟨x,_,rfl⟩,rfl⟩,hu⟩:=hu;simp only[instC]at hu;simp at hu;rcases hu with rfl|rfl|rfl|rfl|rfl|rfl|rfl|rfl|rfl<;>rfl
theorem kit_LentInsts (pp:Option Addr) (cp:Nat) (ps:List InstD) (Fp:Nat→Prop) (w0:World) (hn:ps.length≤1000) (hFp:∀ b,Fp b→b<w0.heap.size) (hp:InstsR Fp pp cp ps w0) :
  Calls Tryz.prog 6 #[.slice pp ps.length cp] w0 fun e w'=>∃ g cap,e=.returned (.slice (some ⟨g,0,none⟩) ps.length cap)∧w'.ownsRow w0.heap.size 43 9 (.slice (some ⟨g,0,none⟩) (ps.length+12) cap) (ps.length+12) (flatR ((ps++marksI 12).map instC))∧Below w0.heap.size w0 w':=by
 have H:=Hold.insts hFp hp;have hbd:=hp.bound;clear hp;obtain⟨ii,iz,hii,hi0,hi1,hi2,hi3⟩:=inst_info;obtain⟨n,hnn⟩:∃ n,ps.length=n:=⟨_,rfl⟩;have HN:=Lib.hid hnn;have hrd:∀ V,InstsR Fp pp cp ps V→RdN 9 V Fp (.slice pp n cp) (ps.map instC):=fun V h=>by have:=HN.out;subst this;exact h
 rw[hnn]at hn hbd ⊢;clear hnn
 go_enter Tryz.func6,Tryz.ntmps6
 go_wp2_with (first|((with_reducible show @wpList _ _ _ ({dst:=_,op:=Op.makeSlice _ _ _,type:=_,pos:=_,after:=_,guard:=_}::_) _ _);refine own_make0 rfl _ _ 22 rfl H Tryz.underlying22 hii hi0 hi1 hi2 (n:=n+12) rfl rfl (by omega) (by unfold maxLen;omega) ?_;clear H;intro g w H;simp only[List.cons_append,List.nil_append]at H)|(at_builtin;refine own_appendK rfl _ _ 22 rfl H (i:=1) evd_ evd_ i_1 (hrd _ (H.kn (i:=0) .zero)) (instsX_size ps) Tryz.underlying22 hii hi0 hi1 hi2 hi3 (by decide) (inst_cells ps) (by unfold maxLen;omega) (by omega) ?_;clear H;intro v2 w H;simp only[List.set_cons_succ,List.set_cons_zero]at H)|fail)
 rw[Nat.zero_add,List.nil_append]at H;obtain⟨q0,c0,rfl,_,_,_⟩:=H.rowShape (i:=1) i_1
 go_loopw [3,4] (fun out k wr=>∃ (j:Nat) (q:Option Addr) (c:Nat),j≤12∧k=.int .i64 j∧out=.slice q (n+j) c∧Hold w0 wr [.kn Fp (InstsR Fp pp cp ps),.row (.slice q (n+j) c) 43 9 (n+j) (flatR ((ps++marksI j).map instC))]) (fun _ k _=>12 - (intOf k).toNat)
 case atStart=>exact⟨0,q0,c0,by omega,rfl,rfl,by simpa [marksI] using H⟩
 case round =>
  clear H;obtain⟨j,q,c,hj,rfl,rfl,H⟩:=hrel
  by_cases hlt:j<12
  ·have dj:decide (j<12)=true:=decide_eq_true hlt;have dj2:decide ((j:Int)<12)=true:=decide_eq_true (by omega)
   have hap:flatR ((ps++marksI j).map instC)++(instC (markI j)).toList=flatR ((ps++marksI (j+1)).map instC):=by
    rw[marksI_succ,← List.append_assoc,List.map_append (l₁:=ps++marksI j),flatR_append];simp[flatR]
   have HAP:=Lib.hid hap;clear hap;have hmk:=fun w=>kit_markInst j w (by omega)
   go_wp2_with (first|(go_at_call 17;(with_reducible refine ch (hmk _) H ?_);clear H;intro w H)|((with_reducible show @wpList _ _ _ ({dst:=_,op:=Op.buildSlice _ _ _,type:=_,pos:=_,after:=_,guard:=_}::_) _ _);refine own_build wtd_ _ _ _ rfl H (instC (markI j)) 43 (by intro W;simp only[List.map_toArray,List.map_cons,List.map_nil];(try simp only[pe]);exact run_instL _ W) ?_;clear H;intro bk w H;simp only[List.cons_append,List.nil_append]at H)|(at_builtin;refine own_append rfl _ _ 22 rfl H (i:=1) (j:=2) evd_ rfl i_1 i_2 Tryz.underlying22 hii hi0 hi1 hi2 hi3 (by decide) rfl rfl (by unfold maxLen;omega) (by omega) ?_;clear H;intro v2 w H;simp only[List.set_cons_succ,List.set_cons_zero]at H;(obtain⟨q2,c2,rfl,_,_,_⟩:=H.rowShape (i:=1) i_1))|fail)
   rw[HAP.out]at H;go_roundw
   case rel=>exact⟨j+1,q2,c2,by omega,by go_num,rfl,H.take 2⟩
   case measure=>simp[intOf];omega
  ·obtain rfl:j=12:=by omega
   have dj:decide ((12:Int)<12)=false:=by decide
   obtain⟨q2,c2,e2,hc1,_,hq2⟩:=H.rowShape (i:=1) i_1;obtain⟨g,rfl⟩:=hq2 (by omega)
   simp only[Value.slice.injEq]at e2;obtain⟨rfl,_,rfl⟩:=e2;have hcn:n≤c:=by omega
   go_wp2_with (first|((with_reducible show @wpList _ _ _ ({dst:=_,op:=Op.slice _ _ _ _ _,type:=_,pos:=_,after:=_,guard:=_}::_) _ _);refine own_pure wtd_ (run_cutS (sz:=9) (m:=n) (by kernel_rfl) (fun w=>by kernel_rfl) rfl rfl rfl hcn) ?_)|fail)
   go_ret;rw[← HN.out]at H ⊢;exact⟨g,c,rfl,H.all 1 _ rfl,H.below⟩
theorem run_eqIself {o:Oper} {a:Act} {w:World} {x y:Operand} {U:TypeId} {d:InstD} (hop:o.op=.binOp .eql 43 x y U) (hx:a.eval x=instV d) (hy:a.eval y=instV d):(execOp a.eval o).run Tryz.prog w=.ok (.value (.bool true)) w:=by
 have he:=run_eqSetD d.set d.set w;have hs:eqS d.set d.set=true:=by simp[eqS]
 simp only[execOp,hop,hx,hy];unfold instV instC;simp[go_sem,he,hs]
theorem kit_KeptInsts (pp:Option Addr) (cp:Nat) (ps:List InstD) (g cap:Nat) (Fp G:Nat→Prop) (w0:World) (hn:ps.length≤1000) (hFp:∀ b,Fp b→b<w0.heap.size) (hG:∀ b,G b→b<w0.heap.size) (hp:InstsR Fp pp cp ps w0) (hk:InstsR G (some ⟨g,0,none⟩) cap (ps++marksI 12) w0) :
  Calls Tryz.prog 10 #[.slice (some ⟨g,0,none⟩) ps.length cap,.slice pp ps.length cp] w0 fun e w'=>e=.returned (.bool true)∧Below w0.heap.size w0 w':=by
 have hbd:=hp.bound;have hbk:=hk.bound;have hat:=hp.at
 have H:=(Hold.insts hFp hp).know G (InstsR G (some ⟨g,0,none⟩) cap (ps++marksI 12)) hG (fun i r h=>by
  rcases i with _|i
  ·simp at h;subst h;intro b hb;cases hb
  ·simp at h) (fun V hV=>hk.kept hV)
 simp only[List.cons_append,List.nil_append]at H;clear hp hk;rw[List.length_append,marksI_len]at hbk;obtain⟨n,hnn⟩:∃ n,ps.length=n:=⟨_,rfl⟩;have HN:=Lib.hid hnn;rw[hnn]at hn hbd hbk hat ⊢;clear hnn;have hne:((n:Int) != (n:Int))=false:=by simp
 have hsum:wrap64 ((n:Int)+12)=((n+12:Nat):Int):=by unfold wrap64;omega
 have HLK:=Lib.hid hbk.1
 go_enter Tryz.func10,Tryz.ntmps10
 go_wp2_with (first|((with_reducible show @wpList _ _ _ ({dst:=_,op:=Op.slice _ _ _ _ _,type:=_,pos:=_,after:=_,guard:=_}::_) _ _);refine own_pure wtd_ (run_cutS (sz:=9) (m:=n+12) (by kernel_rfl) (fun w=>by kernel_rfl) rfl rfl rfl HLK.out) ?_)|fail)
 go_loopw [6] (fun ix wr=>∃ j:Nat,j≤n+12∧ix=.int .i64 j∧Hold w0 wr [.kn Fp (InstsR Fp pp cp ps),.kn G (InstsR G (some ⟨g,0,none⟩) cap (ps++marksI 12))]) (fun ix _=>n+13 - (intOf ix).toNat)
 case atStart=>exact⟨0,by omega,rfl,H⟩
 case round =>
  clear H;obtain⟨j,hj,rfl,H⟩:=hrel
  by_cases hlt:j<n+12
  ·have dj:decide (j<n+12)=true:=decide_eq_true hlt;have dj2:decide ((j:Int)<((n+12:Nat):Int))=true:=decide_eq_true (by omega)
   have dj3:decide ((j:Int)<(n:Int)+12)=true:=decide_eq_true (by omega)
   by_cases hjn:j<n
   ·obtain⟨x,hx⟩:∃ x,ps[j]?=some x:=⟨_,List.getElem?_eq_getElem (by rw[HN.out];exact hjn)⟩
    have hx2:(ps++marksI 12)[j]?=some x:=by rw[List.getElem?_append_left (by rw[HN.out];exact hjn)];exact hx
    obtain⟨bp,op,rfl⟩:=hat (by omega)
    have HC1:=Lib.hid (fun V (h:InstsR Fp (some ⟨bp,op,none⟩) cp ps V)=>h.cells hx rfl:∀ V,InstsR Fp (some ⟨bp,op,none⟩) cp ps V→∀ k,k<9→V.cell? ⟨bp,op+j * 9+k,none⟩=(instC x)[k]?)
    have HC2:=Lib.hid (fun V (h:InstsR G (some ⟨g,0,none⟩) cap (ps++marksI 12) V)=>h.cells hx2 rfl:∀ V,InstsR G (some ⟨g,0,none⟩) cap (ps++marksI 12) V→∀ k,k<9→V.cell? ⟨g,0+j * 9+k,none⟩=(instC x)[k]?)
    have d1:decide ((j:Int)<(n:Int))=true:=decide_eq_true (by omega)
    have d2:decide ((n:Int)≤(j:Int))=false:=decide_eq_false (by omega)
    clear hx hx2 hat
    go_upto_region 7 with fail
    refine wp_region_spec 35 [fun v _=>v=.int .i64 (j:Int),fun v _=>v=.slice (some ⟨bp,op,none⟩) n cp,fun v _=>v=.int .i64 ((n:Nat):Int),fun v _=>v=.bool true,fun v _=>v=.bool true,fun v _=>v=.slice (some ⟨g,0,none⟩) (n+12) cap,fun v _=>v=.int .i64 (j:Int),fun v _=>v=.pointer (some ⟨g,0+j * 9,none⟩),fun v _=>v=instV x,fun v _=>v=.slice (some ⟨bp,op,none⟩) n cp,fun v _=>v=.int .i64 (j:Int),fun v _=>v=.pointer (some ⟨bp,op+j * 9,none⟩),fun v _=>v=instV x,fun v _=>v=.bool true,fun v _=>v=.bool false,fun v _=>v=.bool false,fun v _=>v=.bool false,fun v _=>v=.int .i64 (j:Int),fun v _=>v=.slice (some ⟨bp,op,none⟩) n cp,fun v _=>v=.int .i64 ((n:Nat):Int),fun v _=>v=.bool false,fun v _=>v=.bool false,fun v _=>v=undef,fun v _=>v=undef,fun v _=>v=undef,fun v _=>v=undef,fun v _=>v=undef,fun v _=>v=undef,fun v _=>v=undef,fun v _=>v=undef,fun v _=>v=undef,fun v _=>v=undef,fun v _=>v=undef,fun v _=>v=Value.bool false,fun v _=>v=Value.bool false] (fun _=>false) (by kernel_rfl) (by kernel_rfl) (by kernel_rfl) (by repeat (first|exact trivial|refine⟨stable_eq _,?_⟩)) (fun _ _ h=>by cases h) ?ob ?en
    case ob =>
     refine⟨?_,?_,?_,?_,?_,?_,?_,?_,?_,?_,?_,?_,?_,?_,?_,?_,?_,?_,?_,?_,?_,?_,?_,?_,?_,?_,?_,?_,?_,?_,?_,?_,?_,?_,?_,trivial⟩<;>intro A W h
     ·exact rs_move rfl rfl (h.frame 6 rfl)
     ·exact rs_move rfl rfl (h.frame 1 rfl)
     ·exact rs_len Tryz.underlying22 rfl rfl (h.dep 1 24 rfl rfl)
     ·(have e23:A.eval (.tmp 23)=.int .i64 (j:Int):=h.dep 0 23 rfl rfl;have e25:A.eval (.tmp 25)=.int .i64 ((n:Nat):Int):=h.dep 2 25 rfl rfl;refine rs_pure rfl ?_;simp only[execOp,e23,e25];simp[go_sem]<;>omega)
     ·exact rs_move rfl rfl (h.dep 3 26 rfl rfl)
     ·exact rs_move (wanted_g rfl (yielded_of (d:=27) rfl (h.dep 4 27 rfl rfl))) rfl (h.frame 5 rfl)
     ·exact rs_move (wanted_g rfl (yielded_of (d:=27) rfl (h.dep 4 27 rfl rfl))) rfl (h.frame 6 rfl)
     ·exact rs_idx (sz:=9) Tryz.underlying22 (fun w=>by kernel_rfl) (wanted_g rfl (yielded_of (d:=27) rfl (h.dep 4 27 rfl rfl))) rfl (h.dep 5 28 rfl rfl) (h.dep 6 29 rfl rfl) hlt rfl (by decide)
     ·exact rs_pure (wanted_g rfl (yielded_of (d:=27) rfl (h.dep 4 27 rfl rfl))) (run_loadK rfl (h.dep 7 30 rfl rfl) row_Inst rfl (HC2.out _ ((H.call h.below).kn (i:=1) i_1))) (by decide)
     ·exact rs_move (wanted_g rfl (yielded_of (d:=27) rfl (h.dep 4 27 rfl rfl))) rfl (h.frame 1 rfl)
     ·exact rs_move (wanted_g rfl (yielded_of (d:=27) rfl (h.dep 4 27 rfl rfl))) rfl (h.frame 6 rfl)
     ·exact rs_idx (sz:=9) Tryz.underlying22 (fun w=>by kernel_rfl) (wanted_g rfl (yielded_of (d:=27) rfl (h.dep 4 27 rfl rfl))) rfl (h.dep 9 32 rfl rfl) (h.dep 10 33 rfl rfl) hjn rfl (by decide)
     ·exact rs_pure (wanted_g rfl (yielded_of (d:=27) rfl (h.dep 4 27 rfl rfl))) (run_loadK rfl (h.dep 11 34 rfl rfl) row_Inst rfl (HC1.out _ ((H.call h.below).kn (i:=0) .zero))) (by decide)
     ·exact rs_pure (wanted_g rfl (yielded_of (d:=27) rfl (h.dep 4 27 rfl rfl))) (run_eqIself rfl (h.dep 8 31 rfl rfl) (h.dep 12 35 rfl rfl)) (by decide)
     ·(have e36:A.eval (.tmp 36)=.bool true:=h.dep 13 36 rfl rfl;refine rs_pure (wanted_g rfl (yielded_of (d:=27) rfl (h.dep 4 27 rfl rfl))) ?_;simp only[execOp,e36];(simp[go_sem]<;>first|done|omega|(rw[IntKind.wrap_i64];omega)|(rw[IntKind.wrap_u8];omega)|(rw[IntKind.wrap_u64];omega)))
     ·exact rs_pick rfl rfl (h.dep 4 27 rfl rfl) (h.dep 14 37 rfl rfl)
     ·exact rs_move rfl rfl (h.dep 15 38 rfl rfl)
     ·exact rs_move (wanted_g rfl (yielded_of (d:=39) rfl (h.dep 16 39 rfl rfl))) rfl (h.frame 6 rfl)
     ·exact rs_move (wanted_g rfl (yielded_of (d:=39) rfl (h.dep 16 39 rfl rfl))) rfl (h.frame 1 rfl)
     ·exact rs_len Tryz.underlying22 (wanted_g rfl (yielded_of (d:=39) rfl (h.dep 16 39 rfl rfl))) rfl (h.dep 18 41 rfl rfl)
     ·(have e40:A.eval (.tmp 40)=.int .i64 (j:Int):=h.dep 17 40 rfl rfl;have e42:A.eval (.tmp 42)=.int .i64 ((n:Nat):Int):=h.dep 19 42 rfl rfl;refine rs_pure (wanted_g rfl (yielded_of (d:=39) rfl (h.dep 16 39 rfl rfl))) ?_;simp only[execOp,e40,e42];simp[go_sem]<;>omega)
     ·exact rs_move (wanted_g rfl (yielded_of (d:=39) rfl (h.dep 16 39 rfl rfl))) rfl (h.dep 20 43 rfl rfl)
     ·exact rsk (h.dep 21 44 rfl rfl)
     ·exact rsk (h.dep 21 44 rfl rfl)
     ·exact rsk (h.dep 21 44 rfl rfl)
     ·exact rsk (h.dep 21 44 rfl rfl)
     ·exact rsk (h.dep 21 44 rfl rfl)
     ·exact rsk (h.dep 21 44 rfl rfl)
     ·exact rsk (h.dep 21 44 rfl rfl)
     ·exact rsk (h.dep 21 44 rfl rfl)
     ·exact rsk (h.dep 21 44 rfl rfl)
     ·exact rsk (h.dep 21 44 rfl rfl)
     ·exact rsk (h.dep 21 44 rfl rfl)
     ·exact rs_pick (wanted_g rfl (yielded_of (d:=39) rfl (h.dep 16 39 rfl rfl))) rfl (h.dep 21 44 rfl rfl) (rfl)
     ·exact rs_pick rfl rfl (h.dep 16 39 rfl rfl) (h.dep 33 56 rfl rfl)
    case en =>
     intro vals W hbw hv _;simp only[fa,Nat.reduceAdd];rw[e_ hv 0,e_ hv 1,e_ hv 2,e_ hv 3,e_ hv 4,e_ hv 5,e_ hv 6,e_ hv 7,e_ hv 8,e_ hv 9,e_ hv 10,e_ hv 11,e_ hv 12,e_ hv 13,e_ hv 14,e_ hv 15,e_ hv 16,e_ hv 17,e_ hv 18,e_ hv 19,e_ hv 20,e_ hv 21,e_ hv 22,e_ hv 23,e_ hv 24,e_ hv 25,e_ hv 26,e_ hv 27,e_ hv 28,e_ hv 29,e_ hv 30,e_ hv 31,e_ hv 32,e_ hv 33,e_ hv 34];clear hv
     try simp only[pl]
     replace H:=H.call hbw;clear hbw
     go_wp2_with fail
     go_roundw
     case rel=>exact⟨j+1,by omega,by go_num,H⟩
     case measure=>simp[intOf];omega
   ·obtain⟨k,hk⟩:∃ k,j - n=k:=⟨_,rfl⟩;have hk12:k<12:=by omega
    have hx2:(ps++marksI 12)[j]?=some (markI k):=by
     rw[List.getElem?_append_right (by rw[HN.out];omega),HN.out,hk]
     simp[marksI,hk12]
    have HC2:=Lib.hid (fun V (h:InstsR G (some ⟨g,0,none⟩) cap (ps++marksI 12) V)=>h.cells hx2 rfl:∀ V,InstsR G (some ⟨g,0,none⟩) cap (ps++marksI 12) V→∀ q,q<9→V.cell? ⟨g,0+j * 9+q,none⟩=(instC (markI k))[q]?)
    have d1:decide ((j:Int)<(n:Int))=false:=decide_eq_false (by omega)
    have d2:decide ((n:Int)≤(j:Int))=true:=decide_eq_true (by omega)
    have hsb:((j:Nat):Int) - ((n:Nat):Int)=((k:Nat):Int):=by omega
    have hsb1:(-9223372036854775808:Int)≤((k:Nat):Int):=by omega
    have hsb2:((k:Nat):Int)≤9223372036854775807:=by omega
    have hmk:=fun w=>kit_markInst k w (by omega)
    clear hx2 hat hk
    go_upto_region 7 with fail
    refine wp_region_spec 35 [fun v _=>v=.int .i64 (j:Int),fun v _=>v=.slice pp n cp,fun v _=>v=.int .i64 ((n:Nat):Int),fun v _=>v=.bool false,fun v _=>v=.bool false,fun v _=>v=undef,fun v _=>v=undef,fun v _=>v=undef,fun v _=>v=undef,fun v _=>v=undef,fun v _=>v=undef,fun v _=>v=undef,fun v _=>v=undef,fun v _=>v=undef,fun v _=>v=undef,fun v _=>v=Value.bool false,fun v _=>v=Value.bool false,fun v _=>v=.int .i64 (j:Int),fun v _=>v=.slice pp n cp,fun v _=>v=.int .i64 ((n:Nat):Int),fun v _=>v=.bool true,fun v _=>v=.bool true,fun v _=>v=.slice (some ⟨g,0,none⟩) (n+12) cap,fun v _=>v=.int .i64 (j:Int),fun v _=>v=.pointer (some ⟨g,0+j * 9,none⟩),fun v _=>v=instV (markI k),fun v _=>v=.int .i64 (j:Int),fun v _=>v=.slice pp n cp,fun v _=>v=.int .i64 ((n:Nat):Int),fun v _=>v=.int .i64 (k:Nat),fun v _=>v=instV (markI k),fun v _=>v=.bool true,fun v _=>v=.bool false,fun v _=>v=.bool false,fun v _=>v=.bool false] (fun _=>false) (by kernel_rfl) (by kernel_rfl) (by kernel_rfl) (by repeat (first|exact trivial|refine⟨stable_eq _,?_⟩)) (fun _ _ h=>by cases h) ?ob ?en
    case ob =>
     refine⟨?_,?_,?_,?_,?_,?_,?_,?_,?_,?_,?_,?_,?_,?_,?_,?_,?_,?_,?_,?_,?_,?_,?_,?_,?_,?_,?_,?_,?_,?_,?_,?_,?_,?_,?_,trivial⟩<;>intro A W h
     ·exact rs_move rfl rfl (h.frame 6 rfl)
     ·exact rs_move rfl rfl (h.frame 1 rfl)
     ·exact rs_len Tryz.underlying22 rfl rfl (h.dep 1 24 rfl rfl)
     ·(have e23:A.eval (.tmp 23)=.int .i64 (j:Int):=h.dep 0 23 rfl rfl;have e25:A.eval (.tmp 25)=.int .i64 ((n:Nat):Int):=h.dep 2 25 rfl rfl;refine rs_pure rfl ?_;simp only[execOp,e23,e25];simp[go_sem]<;>omega)
     ·exact rs_move rfl rfl (h.dep 3 26 rfl rfl)
     ·exact rsk (h.dep 4 27 rfl rfl)
     ·exact rsk (h.dep 4 27 rfl rfl)
     ·exact rsk (h.dep 4 27 rfl rfl)
     ·exact rsk (h.dep 4 27 rfl rfl)
     ·exact rsk (h.dep 4 27 rfl rfl)
     ·exact rsk (h.dep 4 27 rfl rfl)
     ·exact rsk (h.dep 4 27 rfl rfl)
     ·exact rsk (h.dep 4 27 rfl rfl)
     ·exact rsk (h.dep 4 27 rfl rfl)
     ·exact rsk (h.dep 4 27 rfl rfl)
     ·exact rs_pick rfl rfl (h.dep 4 27 rfl rfl) (rfl)
     ·exact rs_move rfl rfl (h.dep 15 38 rfl rfl)
     ·exact rs_move (wanted_g rfl (yielded_of (d:=39) rfl (h.dep 16 39 rfl rfl))) rfl (h.frame 6 rfl)
     ·exact rs_move (wanted_g rfl (yielded_of (d:=39) rfl (h.dep 16 39 rfl rfl))) rfl (h.frame 1 rfl)
     ·exact rs_len Tryz.underlying22 (wanted_g rfl (yielded_of (d:=39) rfl (h.dep 16 39 rfl rfl))) rfl (h.dep 18 41 rfl rfl)
     ·(have e40:A.eval (.tmp 40)=.int .i64 (j:Int):=h.dep 17 40 rfl rfl;have e42:A.eval (.tmp 42)=.int .i64 ((n:Nat):Int):=h.dep 19 42 rfl rfl;refine rs_pure (wanted_g rfl (yielded_of (d:=39) rfl (h.dep 16 39 rfl rfl))) ?_;simp only[execOp,e40,e42];simp[go_sem]<;>omega)
     ·exact rs_move (wanted_g rfl (yielded_of (d:=39) rfl (h.dep 16 39 rfl rfl))) rfl (h.dep 20 43 rfl rfl)
     ·exact rs_move (wanted_g rfl (yielded_of (d:=44) rfl (h.dep 21 44 rfl rfl))) rfl (h.frame 5 rfl)
     ·exact rs_move (wanted_g rfl (yielded_of (d:=44) rfl (h.dep 21 44 rfl rfl))) rfl (h.frame 6 rfl)
     ·exact rs_idx (sz:=9) Tryz.underlying22 (fun w=>by kernel_rfl) (wanted_g rfl (yielded_of (d:=44) rfl (h.dep 21 44 rfl rfl))) rfl (h.dep 22 45 rfl rfl) (h.dep 23 46 rfl rfl) hlt rfl (by decide)
     ·exact rs_pure (wanted_g rfl (yielded_of (d:=44) rfl (h.dep 21 44 rfl rfl))) (run_loadK rfl (h.dep 24 47 rfl rfl) row_Inst rfl (HC2.out _ ((H.call h.below).kn (i:=1) i_1))) (by decide)
     ·exact rs_move (wanted_g rfl (yielded_of (d:=44) rfl (h.dep 21 44 rfl rfl))) rfl (h.frame 6 rfl)
     ·exact rs_move (wanted_g rfl (yielded_of (d:=44) rfl (h.dep 21 44 rfl rfl))) rfl (h.frame 1 rfl)
     ·exact rs_len Tryz.underlying22 (wanted_g rfl (yielded_of (d:=44) rfl (h.dep 21 44 rfl rfl))) rfl (h.dep 27 50 rfl rfl)
     ·exact rs_pure (wanted_g rfl (yielded_of (d:=44) rfl (h.dep 21 44 rfl rfl))) (run_subK rfl (h.dep 26 49 rfl rfl) (h.dep 28 51 rfl rfl) hsb hsb1 hsb2) (by decide)
     ·exact rs_calln (wanted_g rfl (yielded_of (d:=44) rfl (h.dep 21 44 rfl rfl))) rfl (enters_of Tryz.func17 (by kernel_rfl) rfl) (args2 ⟨rfl,(h.dep 29 52 rfl rfl)⟩) (hmk W)
     ·exact rs_pure (wanted_g rfl (yielded_of (d:=44) rfl (h.dep 21 44 rfl rfl))) (run_eqIself rfl (h.dep 25 48 rfl rfl) (h.dep 30 53 rfl rfl)) (by decide)
     ·(have e54:A.eval (.tmp 54)=.bool true:=h.dep 31 54 rfl rfl;refine rs_pure (wanted_g rfl (yielded_of (d:=44) rfl (h.dep 21 44 rfl rfl))) ?_;simp only[execOp,e54];(simp[go_sem]<;>first|done|omega|(rw[IntKind.wrap_i64];omega)|(rw[IntKind.wrap_u8];omega)|(rw[IntKind.wrap_u64];omega)))
     ·exact rs_pick (wanted_g rfl (yielded_of (d:=39) rfl (h.dep 16 39 rfl rfl))) rfl (h.dep 21 44 rfl rfl) (h.dep 32 55 rfl rfl)
     ·exact rs_pick rfl rfl (h.dep 16 39 rfl rfl) (h.dep 33 56 rfl rfl)
    case en =>
     intro vals W hbw hv _;simp only[fa,Nat.reduceAdd];rw[e_ hv 0,e_ hv 1,e_ hv 2,e_ hv 3,e_ hv 4,e_ hv 5,e_ hv 6,e_ hv 7,e_ hv 8,e_ hv 9,e_ hv 10,e_ hv 11,e_ hv 12,e_ hv 13,e_ hv 14,e_ hv 15,e_ hv 16,e_ hv 17,e_ hv 18,e_ hv 19,e_ hv 20,e_ hv 21,e_ hv 22,e_ hv 23,e_ hv 24,e_ hv 25,e_ hv 26,e_ hv 27,e_ hv 28,e_ hv 29,e_ hv 30,e_ hv 31,e_ hv 32,e_ hv 33,e_ hv 34];clear hv
     try simp only[pl]
     replace H:=H.call hbw;clear hbw
     go_wp2_with fail
     go_roundw
     case rel=>exact⟨j+1,by omega,by go_num,H⟩
     case measure=>simp[intOf];omega
  ·obtain rfl:j=n+12:=by omega
   have dj:decide (n+12<n+12)=false:=by simp
   have dj2:decide (((n+12:Nat):Int)<((n+12:Nat):Int))=false:=by simp
   have dj3:decide ((n:Int)+12<(n:Int)+12)=false:=by simp
   go_wp2_with fail
   go_ret;exact⟨rfl,H.below⟩
end Go.Proofs.YtdoflhjhaciepaaGreat
