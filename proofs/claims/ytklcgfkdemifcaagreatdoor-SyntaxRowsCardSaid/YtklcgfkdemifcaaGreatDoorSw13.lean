/-
  Laws of walks, and walks.
-/
import Derived.Test.YtklcgfkdemifcaaGreatDoorSw5
import Derived.Test.YtklcgfkdemifcaaGreatDoorSw6
import Derived.Test.YtklcgfkdemifcaaGreatDoorSw11
import Derived.Test.YtklcgfkdemifcaaGreatDoorSw12
set_option linter.unusedVariables false
set_option linter.unusedSimpArgs false
set_option maxRecDepth 100000
set_option maxHeartbeats 16000000
namespace Go.Proofs.YtklcgfkdemifcaaGreatDoor
section
open Go.RowKit Go.Shelf
attribute [local go_sem] Oper.semAt_some
def zOn (c i:Nat):WordD :=
 if c=46 then {kind:=2,place:=i} else if c=94 then {kind:=3,place:=i} else if c=36 then {kind:=4,place:=i} else if c=40 then {kind:=6,place:=i}
 else if c=41 then {kind:=9,place:=i} else if c=124 then {kind:=10,place:=i} else if c=42 then {kind:=11,place:=i,lo:=0,hi := -1}
 else if c=43 then {kind:=11,place:=i,lo:=1,hi := -1} else if c=63 then {kind:=11,place:=i,lo:=0,hi:=1} else {kind:=0,place:=i}
theorem ieq (c n:Nat):(c=n)=(((c:Int) == (n:Int))=true):=by rw[beq_iff_eq];exact propext ⟨fun h=>by omega,fun h=>by omega⟩
theorem zFl (c i:Nat) (hc:c<256) (w0:World):Calls Tryz.prog 129 #[.int .u8 c,.int .i64 i] w0 (Rt (zAd (zOn c i)) w0):=by
 have H:=Hold.start w0
 go_enter Tryz.func129,Tryz.ntmps129
 go_wp2_with (first|(first|((with_reducible refine gT ?_);((first|refine aO H ?_|refine aT H ?_);clear H;intro w H;try simp only[nr]at H))|((with_reducible refine gL ?_);refine aD H ?_)|((with_reducible refine gA ?_);(refine bA H ?_;clear H;intro b w H;try simp only[nr]at H))))
 all_goals
  (refine xc Tryz.results129 H ?_)
  refine⟨congrArg Ending.returned ?_,H.below⟩;clear H;simp only[zOn,ieq,Int.cast_ofNat_Int, *,Bool.false_eq_true,if_true,if_false];rfl
def RepR (o:Except Nat (WordD × Nat)) (e:Ending):Prop:=match o with
 | .ok (w,k)=>e=.returned (.tuple #[zAd w,.int .i64 k,.int .i64 0])
 | .error x=>∃ w k,e=.returned (.tuple #[zAd w,.int .i64 k,.int .i64 x])
theorem RepR.ok {o:Except Nat (WordD × Nat)} {w:WordD} {k:Nat} (h:o=.ok (w,k)):RepR o (.returned (.tuple #[zAd w,.int .i64 k,.int .i64 0])):=by subst h;rfl
theorem RepR.no {o:Except Nat (WordD × Nat)} {x:Nat} {w:WordD} {k:Int} (h:o=.error x):RepR o (.returned (.tuple #[zAd w,.int .i64 k,.int .i64 x])):=by subst h;exact⟨w,k,rfl⟩
theorem zHs (L:Str) (i e:Nat) (lo hi:Int) (hL:L.length≤2000) (hlo:0≤lo∧lo≤200) (hhi : -1≤hi∧hi≤200) (hel:e≤L.length) (w0:World) :
  Calls Tryz.prog 135 #[.string ⟨L.toArray⟩,zAd {kind:=11,place:=i,lo:=lo,hi:=hi},.int .i64 e] w0 fun e' w'=>RepR (zAZ L i lo hi e) e'∧Below w0.heap.size w0 w':=by
 have H:=Hold.start w0;have hat:=fun w=>zDo L [63] e hL (by simp) (by simp) (by omega) w
 by_cases c1:100<lo
 ·have d1:decide (100<lo)=true:=by simp;omega
  have HE:=Lib.hid (show zAZ L i lo hi e=.error 6 by unfold zAZ;rw[if_pos (.inl c1)])
  clear c1
  go_enter Tryz.func135,Tryz.ntmps135
  go_wp2_with (first|(first|((with_reducible refine gT ?_);(refine aT H ?_;clear H;intro w H;try simp only[nr]at H))|((with_reducible refine gL ?_);(first|refine aG H ?_|refine aD H ?_))|((with_reducible refine gX ?_);(refine bB H ?_;clear H;intro b w H;try simp only[nr]at H))|((with_reducible refine gA ?_);(refine bA H ?_;clear H;intro b w H;try simp only[nr]at H)))|((with_reducible refine ch (hat _) H ?_);clear H;intro w H))
  (refine xctt Tryz.results135 H ?_)
  exact⟨RepR.no (w:={kind:=11,place:=i,lo:=lo,hi:=hi}) HE.out,H.below⟩
 ·have d1:decide (100<lo)=false:=by simp;omega
  by_cases c2:100<hi
  ·have d2:decide (100<hi)=true:=by simp;omega
   have HE:=Lib.hid (show zAZ L i lo hi e=.error 6 by unfold zAZ;rw[if_pos (.inr (.inl c2))])
   clear c2 c1
   go_enter Tryz.func135,Tryz.ntmps135
   go_wp2_with (first|(first|((with_reducible refine gT ?_);(refine aT H ?_;clear H;intro w H;try simp only[nr]at H))|((with_reducible refine gL ?_);(first|refine aG H ?_|refine aD H ?_))|((with_reducible refine gX ?_);(refine bB H ?_;clear H;intro b w H;try simp only[nr]at H))|((with_reducible refine gA ?_);(refine bA H ?_;clear H;intro b w H;try simp only[nr]at H)))|((with_reducible refine ch (hat _) H ?_);clear H;intro w H))
   (refine xctt Tryz.results135 H ?_)
   exact⟨RepR.no (w:={kind:=11,place:=i,lo:=lo,hi:=hi}) HE.out,H.below⟩
  ·have d2:decide (100<hi)=false:=by simp;omega
   by_cases c3:0≤hi
   ·have d3:decide (0≤hi)=true:=by simp;omega
    by_cases c4:hi<lo
    ·have d4:decide (hi<lo)=true:=by simp;omega
     have HE:=Lib.hid (show zAZ L i lo hi e=.error 6 by unfold zAZ;rw[if_pos (.inr (.inr ⟨c3,c4⟩))])
     clear c4 c3 c2 c1
     go_enter Tryz.func135,Tryz.ntmps135
     go_wp2_with (first|(first|((with_reducible refine gT ?_);(refine aT H ?_;clear H;intro w H;try simp only[nr]at H))|((with_reducible refine gL ?_);(first|refine aG H ?_|refine aD H ?_))|((with_reducible refine gX ?_);(refine bB H ?_;clear H;intro b w H;try simp only[nr]at H))|((with_reducible refine gA ?_);(refine bA H ?_;clear H;intro b w H;try simp only[nr]at H)))|((with_reducible refine ch (hat _) H ?_);clear H;intro w H))
     (refine xctt Tryz.results135 H ?_)
     exact⟨RepR.no (w:={kind:=11,place:=i,lo:=lo,hi:=hi}) HE.out,H.below⟩
    ·have d4:decide (hi<lo)=false:=by simp;omega
     have hne:¬ (100<lo∨100<hi∨(0≤hi∧hi<lo)):=by omega
     have he:zAZ L i lo hi e=zAZ L i lo hi e:=rfl
     conv at he=>rhs;unfold zAZ
     rw[if_neg hne]at he;clear hne c1 c2 c3 c4
     cases ha:atP L e [63] with
     | true =>
      rw[ha]at hat;rw[if_pos ha]at he;have HE:=Lib.hid he;clear he ha
      go_enter Tryz.func135,Tryz.ntmps135
      go_wp2_with (first|(first|((with_reducible refine gT ?_);((first|refine aO H ?_|refine aT H ?_);clear H;intro w H;try simp only[nr]at H))|((with_reducible refine gL ?_);(first|refine aG H ?_|refine aD H ?_))|((with_reducible refine gX ?_);(refine bB H ?_;clear H;intro b w H;try simp only[nr]at H))|((with_reducible refine gA ?_);(refine bA H ?_;clear H;intro b w H;try simp only[nr]at H)))|((with_reducible refine ch (hat _) H ?_);clear H;intro w H))
      (refine xctt Tryz.results135 H ?_)
      exact⟨RepR.ok (w:={kind:=11,place:=i,lo:=lo,hi:=hi,lazy:=true}) HE.out,H.below⟩
     | false =>
      rw[ha]at hat;rw[if_neg (by rw[ha];simp)]at he
      have HE:=Lib.hid he;clear he ha
      go_enter Tryz.func135,Tryz.ntmps135
      go_wp2_with (first|(first|((with_reducible refine gT ?_);(refine aT H ?_;clear H;intro w H;try simp only[nr]at H))|((with_reducible refine gL ?_);(first|refine aG H ?_|refine aD H ?_))|((with_reducible refine gX ?_);(refine bB H ?_;clear H;intro b w H;try simp only[nr]at H))|((with_reducible refine gA ?_);(refine bA H ?_;clear H;intro b w H;try simp only[nr]at H)))|((with_reducible refine ch (hat _) H ?_);clear H;intro w H))
      (refine xctt Tryz.results135 H ?_)
      exact⟨RepR.ok (w:={kind:=11,place:=i,lo:=lo,hi:=hi}) HE.out,H.below⟩
   ·have d3:decide (0≤hi)=false:=by simp;omega
    have hne:¬ (100<lo∨100<hi∨(0≤hi∧hi<lo)):=by omega
    have he:zAZ L i lo hi e=zAZ L i lo hi e:=rfl
    conv at he=>rhs;unfold zAZ
    rw[if_neg hne]at he;clear hne c1 c2 c3
    cases ha:atP L e [63] with
    | true =>
     rw[ha]at hat;rw[if_pos ha]at he;have HE:=Lib.hid he;clear he ha
     go_enter Tryz.func135,Tryz.ntmps135
     go_wp2_with (first|(first|((with_reducible refine gT ?_);((first|refine aO H ?_|refine aT H ?_);clear H;intro w H;try simp only[nr]at H))|((with_reducible refine gL ?_);(first|refine aG H ?_|refine aD H ?_))|((with_reducible refine gX ?_);(refine bB H ?_;clear H;intro b w H;try simp only[nr]at H))|((with_reducible refine gA ?_);(refine bA H ?_;clear H;intro b w H;try simp only[nr]at H)))|((with_reducible refine ch (hat _) H ?_);clear H;intro w H))
     (refine xctt Tryz.results135 H ?_)
     exact⟨RepR.ok (w:={kind:=11,place:=i,lo:=lo,hi:=hi,lazy:=true}) HE.out,H.below⟩
    | false =>
     rw[ha]at hat;rw[if_neg (by rw[ha];simp)]at he
     have HE:=Lib.hid he;clear he ha
     go_enter Tryz.func135,Tryz.ntmps135
     go_wp2_with (first|(first|((with_reducible refine gT ?_);(refine aT H ?_;clear H;intro w H;try simp only[nr]at H))|((with_reducible refine gL ?_);(first|refine aG H ?_|refine aD H ?_))|((with_reducible refine gX ?_);(refine bB H ?_;clear H;intro b w H;try simp only[nr]at H))|((with_reducible refine gA ?_);(refine bA H ?_;clear H;intro b w H;try simp only[nr]at H)))|((with_reducible refine ch (hat _) H ?_);clear H;intro w H))
     (refine xctt Tryz.results135 H ?_)
     exact⟨RepR.ok (w:={kind:=11,place:=i,lo:=lo,hi:=hi}) HE.out,H.below⟩
theorem at2 {L:Str} {i:Nat} (hi:i<L.length) (h:byt L i≠40):atP L i [40,63]=false:=by
 unfold atP;have:((40:UInt8) == L[i])=false:=by
  rw[beq_eq_false_iff_ne];intro e;exact h (by rw[zEL hi,← e];rfl)
 rw[List.drop_eq_getElem_cons hi,List.isPrefixOf_cons_cons,this];rfl
theorem at2' {L:Str} {i:Nat} (hi:i<L.length) (h:byt L i=40):atP L i [40,63]=atP L (i+1) [63]:=by
 unfold atP;have:((40:UInt8) == L[i])=true:=by
  rw[beq_iff_eq];apply UInt8.toNat_inj.1;rw[← zEL hi,h];rfl
 rw[List.drop_eq_getElem_cons hi,List.isPrefixOf_cons_cons,this,Bool.true_and]
theorem w_92 {L:Str} {i:Nat} (h:byt L i=92):zAq L i=zBi (zBH L i):=by unfold zAq;simp[h]
theorem w_91 {L:Str} {i:Nat} (h:byt L i=91):zAq L i=zBi (zBO L i):=by unfold zAq;simp[h]
theorem w_40 {L:Str} {i:Nat} (h:byt L i=40):zAq L i=if atP L (i+1) [63] then zBi (zAy L i) else .ok ({kind:=6,place:=i},i+1):=by unfold zAq;simp[h]
theorem zRH {L:Str} {i:Nat} (h:byt L i=123):zAq L i=match zBI L i with|some (lo,hi,e)=>zAZ L i lo hi e|none=>.ok ({kind:=1,place:=i,set:=ofS [123]},i+1):=by unfold zAq;simp[h];cases zBI L i<;>rfl
theorem w_42 {L:Str} {i:Nat} (h:byt L i=42):zAq L i=zAZ L i 0 (-1) (i+1):=by unfold zAq;simp[h]
theorem w_43 {L:Str} {i:Nat} (h:byt L i=43):zAq L i=zAZ L i 1 (-1) (i+1):=by unfold zAq;simp[h]
theorem w_63 {L:Str} {i:Nat} (h:byt L i=63):zAq L i=zAZ L i 0 1 (i+1):=by unfold zAq;simp[h]
theorem w_46 {L:Str} {i:Nat} (h:byt L i=46):zAq L i=.ok ({kind:=2,place:=i},i+1):=by unfold zAq;simp[h,zGQ]
theorem w_94 {L:Str} {i:Nat} (h:byt L i=94):zAq L i=.ok ({kind:=3,place:=i},i+1):=by unfold zAq;simp[h,zGQ]
theorem w_36 {L:Str} {i:Nat} (h:byt L i=36):zAq L i=.ok ({kind:=4,place:=i},i+1):=by unfold zAq;simp[h,zGQ]
theorem w_41 {L:Str} {i:Nat} (h:byt L i=41):zAq L i=.ok ({kind:=9,place:=i},i+1):=by unfold zAq;simp[h,zGQ]
theorem zRB {L:Str} {i:Nat} (h:byt L i=124):zAq L i=.ok ({kind:=10,place:=i},i+1):=by unfold zAq;simp[h,zGQ]
theorem w_no {L:Str} {i:Nat} (h92:byt L i≠92) (h91:byt L i≠91) (h40:byt L i≠40) (h123:byt L i≠123) (h42:byt L i≠42) (h43:byt L i≠43) (h63:byt L i≠63) (h46:byt L i≠46) (h94:byt L i≠94) (h36:byt L i≠36) (h41:byt L i≠41) (h124:byt L i≠124):zAq L i=.ok ({kind:=1,place:=i,set:=ofS [(byt L i:Int)]},i+1):=by unfold zAq;simp[zGQ, *]
theorem zPd {c i:Nat} (h40:c≠40) (h42:c≠42) (h43:c≠43) (h63:c≠63) (h46:c≠46) (h94:c≠94) (h36:c≠36) (h41:c≠41) (h124:c≠124):zOn c i={kind:=0,place:=i}:=by unfold zOn;simp[*]
theorem zN0 (i:Nat) (s:Nat→Nat) (W:World):(Instr.build 161 #[(0,.int .i64 1),(1,.int .i64 i),(2,setV s)]).run Tryz.prog W=.ok (zAd {kind:=1,place:=i,set:=s}) W:=by
 unfold setV;simp[go_sem];rfl
theorem zED {ops:Array Oper} {rest:List Oper} {o:Oper} {a:Act} {w:World} {Q:Exit→Act→World→Prop} (hg:Region.wanted o (yielded ops a.tmps)=true) {x y:Operand} (ho:o.op=.build 161 #[(0,.const (.int .i64 1)),(1,x),(2,y)])
  {i:Nat} {s:Nat→Nat} (hx:a.eval x=.int .i64 i) (hy:a.eval y=setV s) (h:wpList Tryz.prog ops Q rest (a.put o.dst (zAd {kind:=1,place:=i,set:=s})) w):wpList Tryz.prog ops Q (o::rest) a w :=
 zAi hg (by
  simp only[execOp,ho,List.map_toArray,List.map_cons,List.map_nil,hx,hy,zH6,Sem.run_bind,zN0];rfl) h
theorem zMM (L:Str) (i:Nat) (hL:L.length≤2000) (hi:i<L.length) (w0:World) (n92:((byt L i:Int) == 92)=false) (n91:((byt L i:Int) == 91)=false) (n123:((byt L i:Int) == 123)=false) (hat:∀ w,Calls Tryz.prog 132 #[.string ⟨L.toArray⟩,.int .i64 i,.string ⟨#[40,63]⟩] w (Rt (.bool false) w)) {k:Nat} (hsg:∀ w,Calls Tryz.prog 129 #[.int .u8 (byt L i),.int .i64 i] w (Rt (zAd {kind:=k,place:=i}) w)) (n11:((k:Int) == 11)=false) (n0:((k:Int) == 0)=false) (E:Hid (zAq L i=.ok ({kind:=k,place:=i},i+1))) :
  Calls Tryz.prog 81 #[.string ⟨L.toArray⟩,.int .i64 i] w0 fun e w'=>RepR (zAq L i) e∧Below w0.heap.size w0 w':=by
 have H:=Hold.start w0
 go_enter Tryz.func81,Tryz.ntmps81
 go_wp2_with (first|((with_reducible show @wpList _ _ _ ({dst:=_,op:=Op.build _ #[(0,Operand.const (Value.int IntKind.i64 1)),(1,_),(2,_)],type:=_,pos:=_,after:=_,guard:=_}::_) _ _);refine zED wtd_ rfl rfl (by (try simp only[pe]);with_reducible rfl) ?_)|(first|((with_reducible refine gT ?_);(first|((first|refine aS H ?_|refine aW H ?_|refine aO H ?_|refine aT H ?_);clear H;intro w H;try simp only[nr]at H)|(refine aN H ?_;clear H;intro w H;(try simp only[nr]at H);try simp only[zBE,nrl]at H)))|((with_reducible refine gL ?_);(first|refine aV H ?_|refine aL H ?_|refine aG H ?_|refine aD H ?_))|((with_reducible refine gX ?_);((first|refine bS H ?_|refine bB H ?_);clear H;intro b w H;try simp only[nr]at H))|((with_reducible refine gA ?_);(refine bA H ?_;clear H;intro b w H;try simp only[nr]at H))|((with_reducible refine gZ ?_);refine aZ ?_)|((with_reducible refine gI ?_);refine aI ?_)|((with_reducible refine gC ?_);refine aC ?_)|((with_reducible refine gF ?_);refine aF ?_)|((with_reducible refine gU ?_);refine aU ?_)|((with_reducible refine gE ?_);refine aE ?_)|((with_reducible refine gQ ?_);refine aQ ?_))|((with_reducible first|refine ch (hsg _) H ?_|refine ch (hat _) H ?_);clear H;intro w H))
 (refine xctt Tryz.results81 H ?_)
 exact⟨RepR.ok (w:={kind:=k,place:=i}) E.out,H.below⟩
theorem zNm (L:Str) (i:Nat) (hL:L.length≤2000) (hi:i<L.length) (w0:World) (n92:((byt L i:Int) == 92)=false) (n91:((byt L i:Int) == 91)=false) (n123:((byt L i:Int) == 123)=false) (hat:∀ w,Calls Tryz.prog 132 #[.string ⟨L.toArray⟩,.int .i64 i,.string ⟨#[40,63]⟩] w (Rt (.bool false) w)) {lo hi3:Int} (hlo:0≤lo∧lo≤200) (hhi : -1≤hi3∧hi3≤200) (hsg:∀ w,Calls Tryz.prog 129 #[.int .u8 (byt L i),.int .i64 i] w (Rt (zAd {kind:=11,place:=i,lo:=lo,hi:=hi3}) w)) (E:zAq L i=zAZ L i lo hi3 (i+1)) :
  Calls Tryz.prog 81 #[.string ⟨L.toArray⟩,.int .i64 i] w0 fun e w'=>RepR (zAq L i) e∧Below w0.heap.size w0 w':=by
 have H:=Hold.start w0;have hr:=fun w=>zHs L i (i+1) lo hi3 hL hlo hhi (by omega) w
 simp only[Int.natCast_add,Int.cast_ofNat_Int]at hr
 cases hp:zAZ L i lo hi3 (i+1) with
 | error x =>
  rw[hp]at hr E;simp only[RepR]at hr;have E:=Lib.hid E;clear hp
  go_enter Tryz.func81,Tryz.ntmps81
  go_wp2_with (first|((with_reducible show @wpList _ _ _ ({dst:=_,op:=Op.build _ #[(0,Operand.const (Value.int IntKind.i64 1)),(1,_),(2,_)],type:=_,pos:=_,after:=_,guard:=_}::_) _ _);refine zED wtd_ rfl rfl (by (try simp only[pe]);with_reducible rfl) ?_)|(first|((with_reducible refine gT ?_);(first|((first|refine aS H ?_|refine aW H ?_|refine aO H ?_|refine aT H ?_);clear H;intro w H;try simp only[nr]at H)|(refine aN H ?_;clear H;intro w H;(try simp only[nr]at H);try simp only[zBE,nrl]at H)))|((with_reducible refine gL ?_);(first|refine aV H ?_|refine aL H ?_|refine aG H ?_|refine aD H ?_))|((with_reducible refine gX ?_);((first|refine bS H ?_|refine bB H ?_);clear H;intro b w H;try simp only[nr]at H))|((with_reducible refine gA ?_);(refine bA H ?_;clear H;intro b w H;try simp only[nr]at H))|((with_reducible refine gZ ?_);refine aZ ?_)|((with_reducible refine gI ?_);refine aI ?_)|((with_reducible refine gC ?_);refine aC ?_)|((with_reducible refine gF ?_);refine aF ?_)|((with_reducible refine gU ?_);refine aU ?_)|((with_reducible refine gE ?_);refine aE ?_)|((with_reducible refine gQ ?_);refine aQ ?_))|((with_reducible first|refine ch (hsg _) H ?_|refine ch (hat _) H ?_);clear H;intro w H)|(go_at_call 135;(with_reducible refine(hr _).mono ?_);rintro e w ⟨⟨wd,kk,rfl⟩,hb⟩;replace H:=H.call hb;clear hb))
  (refine xctt Tryz.results81 H ?_)
  exact⟨RepR.no (w:=wd) E.out,H.below⟩
 | ok p =>
  obtain⟨d,k⟩:=p;rw[hp]at hr E;simp only[RepR]at hr;have E:=Lib.hid E;clear hp
  go_enter Tryz.func81,Tryz.ntmps81
  go_wp2_with (first|((with_reducible show @wpList _ _ _ ({dst:=_,op:=Op.build _ #[(0,Operand.const (Value.int IntKind.i64 1)),(1,_),(2,_)],type:=_,pos:=_,after:=_,guard:=_}::_) _ _);refine zED wtd_ rfl rfl (by (try simp only[pe]);with_reducible rfl) ?_)|(first|((with_reducible refine gT ?_);(first|((first|refine aS H ?_|refine aW H ?_|refine aO H ?_|refine aT H ?_);clear H;intro w H;try simp only[nr]at H)|(refine aN H ?_;clear H;intro w H;(try simp only[nr]at H);try simp only[zBE,nrl]at H)))|((with_reducible refine gL ?_);(first|refine aV H ?_|refine aL H ?_|refine aG H ?_|refine aD H ?_))|((with_reducible refine gX ?_);((first|refine bS H ?_|refine bB H ?_);clear H;intro b w H;try simp only[nr]at H))|((with_reducible refine gA ?_);(refine bA H ?_;clear H;intro b w H;try simp only[nr]at H))|((with_reducible refine gZ ?_);refine aZ ?_)|((with_reducible refine gI ?_);refine aI ?_)|((with_reducible refine gC ?_);refine aC ?_)|((with_reducible refine gF ?_);refine aF ?_)|((with_reducible refine gU ?_);refine aU ?_)|((with_reducible refine gE ?_);refine aE ?_)|((with_reducible refine gQ ?_);refine aQ ?_))|((with_reducible first|refine ch (hsg _) H ?_|refine ch (hat _) H ?_|refine ch (hr _) H ?_);clear H;intro w H))
  (refine xctt Tryz.results81 H ?_)
  exact⟨RepR.ok (w:=d) E.out,H.below⟩
theorem zLn (L:Str) (i:Nat) (hL:L.length≤2000) (hi:i<L.length) (w0:World) (n92:((byt L i:Int) == 92)=false) (n91:((byt L i:Int) == 91)=false) (n123:((byt L i:Int) == 123)=false) (hat:∀ w,Calls Tryz.prog 132 #[.string ⟨L.toArray⟩,.int .i64 i,.string ⟨#[40,63]⟩] w (Rt (.bool false) w)) (hsg:∀ w,Calls Tryz.prog 129 #[.int .u8 (byt L i),.int .i64 i] w (Rt (zAd {kind:=0,place:=i}) w)) (E:Hid (zAq L i=.ok ({kind:=1,place:=i,set:=ofS [(byt L i:Int)]},i+1))) :
  Calls Tryz.prog 81 #[.string ⟨L.toArray⟩,.int .i64 i] w0 fun e w'=>RepR (zAq L i) e∧Below w0.heap.size w0 w':=by
 have H:=Hold.start w0;have hon:=fun w=>zEr (byt L i) (zCI L i) w
 go_enter Tryz.func81,Tryz.ntmps81
 go_wp2_with (first|((with_reducible show @wpList _ _ _ ({dst:=_,op:=Op.build _ #[(0,Operand.const (Value.int IntKind.i64 1)),(1,_),(2,_)],type:=_,pos:=_,after:=_,guard:=_}::_) _ _);refine zED wtd_ rfl rfl (by (try simp only[pe]);with_reducible rfl) ?_)|(first|((with_reducible refine gT ?_);(first|((first|refine aS H ?_|refine aW H ?_|refine aO H ?_|refine aT H ?_);clear H;intro w H;try simp only[nr]at H)|(refine aN H ?_;clear H;intro w H;(try simp only[nr]at H);try simp only[zBE,nrl]at H)))|((with_reducible refine gL ?_);(first|refine aV H ?_|refine aL H ?_|refine aG H ?_|refine aD H ?_))|((with_reducible refine gX ?_);((first|refine bS H ?_|refine bB H ?_);clear H;intro b w H;try simp only[nr]at H))|((with_reducible refine gA ?_);(refine bA H ?_;clear H;intro b w H;try simp only[nr]at H))|((with_reducible refine gZ ?_);refine aZ ?_)|((with_reducible refine gI ?_);refine aI ?_)|((with_reducible refine gC ?_);refine aC ?_)|((with_reducible refine gF ?_);refine aF ?_)|((with_reducible refine gU ?_);refine aU ?_)|((with_reducible refine gE ?_);refine aE ?_)|((with_reducible refine gQ ?_);refine aQ ?_))|((with_reducible first|refine ch (hsg _) H ?_|refine ch (hat _) H ?_|refine ch (hon _) H ?_);clear H;intro w H))
 (refine xctt Tryz.results81 H ?_)
 exact⟨RepR.ok (w:={kind:=1,place:=i,set:=ofS [(byt L i:Int)]}) E.out,H.below⟩
def zM1 (L:Str):Prop:=∀ i,i<L.length→∀ w0,Calls Tryz.prog 81 #[.string ⟨L.toArray⟩,.int .i64 i] w0 fun e w'=>RepR (zAq L i) e∧Below w0.heap.size w0 w'
theorem zLE {L:Str} (hL:L.length≤2000) {i:Nat} (hi:i<L.length) (h92:byt L i≠92) (h91:byt L i≠91) (h123:byt L i≠123) (hq:atP L i [40,63]=false) (w0:World) :
  Calls Tryz.prog 81 #[.string ⟨L.toArray⟩,.int .i64 i] w0 fun e w'=>RepR (zAq L i) e∧Below w0.heap.size w0 w':=by
 have hat:=fun w=>zDo L [40,63] i hL (by simp) (by simp) (by omega) w
 rw[hq]at hat;have n:∀ c:Nat,byt L i≠c→((byt L i:Int) == (c:Int))=false:=fun c h=>by rw[beq_eq_false_iff_ne];omega
 have sg:=fun w=>zFl (byt L i) i (zCI L i) w
 have S:=@zMM L i hL hi w0 (n 92 h92) (n 91 h91) (n 123 h123) hat;have R:=@zNm L i hL hi w0 (n 92 h92) (n 91 h91) (n 123 h123) hat
 by_cases hc:byt L i=40
 ·exact S (k:=6) (fun w=>by have:=sg w;rw[hc]at this ⊢;exact this) rfl rfl (Lib.hid (by rw[w_40 hc,← at2' hi hc,hq];rfl))
 by_cases hd:byt L i=42
 ·exact R (lo:=0) (hi3 := -1) (by omega) (by omega) (fun w=>by have:=sg w;rw[hd]at this ⊢;exact this) (w_42 hd)
 by_cases he:byt L i=43
 ·exact R (lo:=1) (hi3 := -1) (by omega) (by omega) (fun w=>by have:=sg w;rw[he]at this ⊢;exact this) (w_43 he)
 by_cases hf:byt L i=63
 ·exact R (lo:=0) (hi3:=1) (by omega) (by omega) (fun w=>by have:=sg w;rw[hf]at this ⊢;exact this) (w_63 hf)
 by_cases hg:byt L i=46
 ·exact S (k:=2) (fun w=>by have:=sg w;rw[hg]at this ⊢;exact this) rfl rfl (Lib.hid (w_46 hg))
 by_cases hh:byt L i=94
 ·exact S (k:=3) (fun w=>by have:=sg w;rw[hh]at this ⊢;exact this) rfl rfl (Lib.hid (w_94 hh))
 by_cases hj:byt L i=36
 ·exact S (k:=4) (fun w=>by have:=sg w;rw[hj]at this ⊢;exact this) rfl rfl (Lib.hid (w_36 hj))
 by_cases hk:byt L i=41
 ·exact S (k:=9) (fun w=>by have:=sg w;rw[hk]at this ⊢;exact this) rfl rfl (Lib.hid (w_41 hk))
 by_cases hl:byt L i=124
 ·exact S (k:=10) (fun w=>by have:=sg w;rw[hl]at this ⊢;exact this) rfl rfl (Lib.hid (zRB hl))
 exact zLn L i hL hi w0 (n 92 h92) (n 91 h91) (n 123 h123) hat (fun w=>by have:=sg w;rw[zPd hc hd he hf hg hh hj hk hl]at this;exact this) (Lib.hid (w_no h92 h91 hc h123 hd he hf hg hh hj hk hl))
theorem zMf:(Tryz.prog.info? 161).map (fun i=>(i.zero,i.size,i.bytes))=some (some (.agg (zAY {kind:=0,place:=0})),17,88):=by kernel_rfl
theorem zML (d:WordD) (W:World):(Instr.buildSlice 110 1 #[(0,zAd d)]).run Tryz.prog W=.ok (.slice (some ⟨W.heap.size,0,none⟩) 1 1) (W.alloc (.cells (zAY d) 161)):=by kernel_rfl
theorem zLd (L:Str) (hW:L.length≤1000→zM1 L) (w0:World):Calls Tryz.prog 40 #[.string ⟨L.toArray⟩] w0 fun e w'=>WordsR 161 w0.heap.size (zBn L) e w'∧Below w0.heap.size w0 w':=by
 obtain⟨i0,hi0,hz0,hz1,hz2⟩:=info_parts zMf;have H:=Hold.start w0
 by_cases hlen:1000<L.length
 ·clear hW;have d0:decide ((1000:Int)<(L.length:Int))=true:=by simp;omega
  have E:=Lib.hid (show zBn L=.error (0,3) by unfold zBn;rw[if_pos hlen])
  go_enter Tryz.func40,Tryz.ntmps40
  go_wp2_with (first|fail)
  go_ret3;exact⟨WordsR.no E.out,H.below⟩
 ·have hW2:=hW (by omega)
  clear hW;have d0:decide ((1000:Int)<(L.length:Int))=false:=by simp;omega
  have E:=Lib.hid (show zBn L=zEm L by unfold zBn;rw[if_neg hlen])
  go_enter Tryz.func40,Tryz.ntmps40
  go_wp2_with (first|fail)
  replace H:=H.addNil 161 17;simp only[List.nil_append]at H
  go_loopw [5,6] (fun v k wr=>∃ (j f:Nat) (ws:List WordD),k=.int .i64 j∧j≤L.length∧ws.length≤j∧Hid (zEm L=wcat ws (zA9 L f j)∧L.length≤f+j)∧Hold w0 wr [.row v 161 17 ws.length (zF1 ws)]) (fun _ k _=>L.length+2 - (intOf k).toNat)
  case atStart=>exact⟨0,L.length,[],rfl,by omega,by simp,Lib.hid ⟨(zKN _).symm,by omega⟩,H⟩
  case round =>
   clear H;obtain⟨j,f,ws,rfl,hj,hwl,G,H⟩:=hrel
   by_cases hlt:j<L.length
   ·have dj:decide ((j:Int)<(L.length:Int))=true:=by simp;omega
    obtain⟨f,rfl⟩:∃ f',f=f'+1:=⟨f - 1,by have:=G.out.2;omega⟩
    have hr:=fun w=>hW2 j hlt w
    cases hw:zAq L j with
    | error x =>
     rw[hw]at hr;simp only[RepR]at hr;have E2:=Lib.hid (show zBn L=.error (j,x) by rw[E.out,G.out.1,zI7 hlt hw])
     have hx:((x:Int) != 0)=true:=by rw[bne_iff_ne];have:=zFV hw;omega
     clear hw
     go_wp2_with (first|(first|((with_reducible refine gT ?_);(refine aT H ?_;clear H;intro w H;try simp only[nr]at H))|((with_reducible refine gA ?_);(refine bA H ?_;clear H;intro b w H;try simp only[nr]at H)))|(go_at_call 81;(with_reducible refine(hr _).mono ?_);rintro e w ⟨⟨wd,kk,rfl⟩,hb⟩;replace H:=H.call hb;clear hb))
     go_ret3;exact⟨WordsR.no E2.out,H.below⟩
    | ok p =>
     obtain⟨d,k⟩:=p;have hk:=zGY hlt hw;rw[hw]at hr;simp only[RepR]at hr;have G2:=Lib.hid (show zEm L=wcat (ws++[d]) (zA9 L f k) by rw[G.out.1,zKm hlt hw])
     clear hw
     go_wp2_with (first|((with_reducible refine gBS ?_);refine zAU wtd_ _ _ _ rfl H (zAY d) 161 (by intro W;simp only[ml];(try simp only[zNN,zG3,List.setIfInBounds_toArray,List.set_cons_succ,List.set_cons_zero,zNH,zH6,List.getD_cons_succ,List.getD_cons_zero]);exact zML d W) ?_;clear H;intro b w H;try simp only[nr]at H)|(at_builtin;refine zB2 rfl _ _ 110 rfl H evd_ rfl atd_ atd_ Tryz.underlying110 hi0 hz0 hz1 hz2 rfl (by decide) rfl rfl (by unfold maxLen;omega) (by omega) ?_;clear H;intro v2 w H;try simp only[nr]at H)|(first|((with_reducible refine gT ?_);(refine aT H ?_;clear H;intro w H;try simp only[nr]at H))|((with_reducible refine gL ?_);refine aD H ?_)|((with_reducible refine gA ?_);(refine bA H ?_;clear H;intro b w H;try simp only[nr]at H)))|((with_reducible refine ch (hr _) H ?_);clear H;intro w H))
     go_roundw
     case rel=>exact⟨k,f,ws++[d],rfl,hk.2,by simp;omega,Lib.hid ⟨G2.out,by have:=G.out.2;omega⟩,by rw[zHo,List.length_append];exact H.take 1⟩
     case measure=>simp[intOf];omega
   ·have dj:decide ((j:Int)<(L.length:Int))=false:=by simp;omega
    have E2:=Lib.hid (show zBn L=.ok ws by rw[E.out,G.out.1,zIs hlt])
    go_wp2_with (first|fail)
    go_ret3;exact⟨WordsR.ok E2.out (H.all 0 _ rfl),H.below⟩
theorem zNn (pb:Nat) (FW:Nat→Prop) (p:Option Addr) (n c:Nat) (ws:List WordD):∀ (m:Nat) (j0 g0:Nat) (f0:zAP) (t:Tree) (r':List WordD) (g':Nat) (w0:World),AltPre pb 116 FW p n c ws j0 g0 w0→zA0 m f0 (ws.drop j0) g0 [] []=some (t,r',g') →
  Calls Tryz.prog 42 #[.pointer (some ⟨pb,0,none⟩),zBq f0] w0 (zG8 pb 116 p n c t (n - r'.length) g' w0):=by
 intro m
 induction m using Nat.strongRecOn with
 | _ m ih=>exact fun j0 g0 f0 t r' g' w0 hP h=>zJm m pb FW p n c ws j0 g0 f0 t r' g' w0 hP h (fun k hk j1 g1 f1 t1 r1 g2 w h1 h2=>ih k hk j1 g1 f1 t1 r1 g2 w h1 h2)
theorem zMs:∀ ws:List WordD,zF1 ws=zAb (ws.map zAY)
 | []=>rfl
 | w::r=>by
  have:=zMs r;simp only[zF1,zAb,List.flatMap_cons,List.map_cons,List.flatten_cons]at *;rw[this]
theorem zKz (ws:List WordD):∀ r ∈ ws.map zAY,r.size=17:=by
 intro r hr;obtain⟨x,_,rfl⟩:=List.mem_map.1 hr;rfl
theorem zKo (p:Option Addr) (n c:Nat) (W:World):(Instr.build 116 #[(0,.slice p n c)]).run Tryz.prog W=.ok (.agg (pC p n c 0 0)) W:=by simp[go_sem]
theorem zE1 {ops:Array Oper} {rest:List Oper} {o:Oper} {a:Act} {w:World} {Q:Exit→Act→World→Prop} (hg:Region.wanted o (yielded ops a.tmps)=true) {x:Operand} (ho:o.op=.build 116 #[(0,x)]) {p:Option Addr} {n c:Nat} (hx:a.eval x=.slice p n c)
  (h:wpList Tryz.prog ops Q rest (a.put o.dst (.agg (pC p n c 0 0))) w):wpList Tryz.prog ops Q (o::rest) a w :=
 zAi hg (by simp only[execOp,ho,List.map_toArray,List.map_cons,List.map_nil,hx,Sem.run_bind,zKo];rfl) h
theorem zE5 {P:Program} {fn:Func} {R:Ending→World→Prop} {a:Act} {w w0:World} {l:List Res} {M:Nat→Prop} {p q r s:Tmp} {T:TypeId} (hres:fn.results=#[.cell p T,.tmp q,.tmp r,.tmp s]) {v u x:Value} (hq:a.tmps.getD q undef=v) (hr:a.tmps.getD r undef=u) (hs:a.tmps.getD s undef=x) {b:Nat} (hp:a.tmps.getD p undef=.pointer (some ⟨b,0,none⟩)) (H:HoldG M w0 w l) {i:Nat} {cs:Array Value} {U:TypeId} (hi:At l i (.blk b cs U))
  {n:Nat} (hT:rowB P T n=true) (hn:cs.size=n) (hd:a.defers=[]) (h:R (.returned (.tuple #[.agg cs,v,u,x])) w):bodyPost P fn R .ret a w:=by
 refine bodyPost_ret (v:=.tuple #[.agg cs,v,u,x]) ?_ hd h;have:=H.run_row (T:=T) (P:=P) hi hT hn (k:=0) (fun j _=>by rw[Nat.zero_add])
 have hp':a.tmps[p]?.getD undef=.pointer (some ⟨b,0,none⟩):=by simpa using hp
 have hq':a.tmps[q]?.getD undef=v:=by simpa using hq
 have hr':a.tmps[r]?.getD undef=u:=by simpa using hr
 have hs':a.tmps[s]?.getD undef=x:=by simpa using hs
 simp[results,hres,hp',hq',hr',hs',asAddr,this]
theorem HoldG.gainWords {M:Nat→Prop} {w0 w w':World} {l:List Res} (H:HoldG M w0 w l) (hb:Below w.heap.size w w') {T:TypeId} {v:Value} {ws:List WordD} (ho:w'.ownsRow w.heap.size T 17 v ws.length (zF1 ws)) :
  ∃ (q:Option Addr) (cap:Nat) (F:Nat→Prop),v=.slice q ws.length cap∧HoldG M w0 w' (l++[.kn F (WKnows F q ws.length cap ws)]):=by
 obtain⟨q,cap,rfl,_⟩:=zIX ho;rw[zMs]at ho;refine⟨q,cap,fun b=>(Value.slice q ws.length cap).ownBlock=some b,rfl,H.learn hb Still.none (fun b hb'=>?_) (fun V hV=>RdN.of_own ho (zKz ws) (by rw[List.length_map]) hV)⟩
 obtain⟨_,⟨hv,_⟩|⟨g,cap',cur,hv,hg,hh,_⟩⟩:=ho
 ·rw[hv]at hb';cases hb'
 ·cases hv;cases hb';exact⟨(Array.getElem?_eq_some_iff.1 hh).1,.inl hg⟩
theorem zGa {L:Str}:∀ (f i:Nat) (p x:Nat),L.length≤f+i→zA9 L f i=.error (p,x)→x≠0
 | 0,i,p,x,hf,h=>by
  unfold zA9 at h;rw[if_neg (by omega)]at h;cases h
 | f+1,i,p,x,hf,h=>by
  unfold zA9 at h;split at h
  ·rename_i hlt;split at h
   ·rename_i e he
    cases h
    exact fun e=>by have:=zFV he;omega
   ·rename_i w j hw;have hj:=zGY hlt hw;split at h
    ·rename_i y hy
     cases h
     exact zGa f j p x (by omega) hy
    ·cases h
  ·cases h
theorem zKx {L:Str} {p x:Nat} (h:zBn L=.error (p,x)):x≠0:=by
 unfold zBn at h;split at h
 ·cases h;decide
 ·exact zGa _ _ _ _ (by omega) h
theorem zLN (L:Str) (hW:L.length≤1000→zM1 L) (f:zAP) (w0:World):Calls Tryz.prog 19 #[.string ⟨L.toArray⟩,zBq f] w0 fun e w'=>ParseOut w0 (zBv L f) e w'∧Below w0.heap.size w0 w':=by
 have H:=Hold.start w0;have hwd:=fun w=>zLd L hW w
 clear hW;have E:zBv L f=zBv L f:=rfl
 conv at E=>rhs;unfold zBv
 cases hw:zBn L with
 | error x =>
  obtain⟨a,x⟩:=x;rw[hw]at hwd E;simp only[]at E;simp only[WordsR]at hwd;have hx:((x:Int) != 0)=true:=by rw[bne_iff_ne];have:=zKx hw;omega
  have E2:=Lib.hid E;clear E hw
  go_enter Tryz.func19,Tryz.ntmps19
  go_wp2_with (first|(first|((with_reducible refine gT ?_);(refine aT H ?_;clear H;intro w H;try simp only[nr]at H))|((with_reducible refine gX ?_);(refine bB H ?_;clear H;intro b w H;try simp only[nr]at H))|((with_reducible refine gA ?_);(refine bA H ?_;clear H;intro b w H;try simp only[nr]at H))|((with_reducible refine gZ ?_);refine nb0 ?_))|((with_reducible refine ch (hwd _) H ?_);clear H;intro w H))
  refine zE5 Tryz.results19 rfl rfl rfl rfl H atd_ zAX (by rfl) rfl ?_
  exact⟨ParseOut.no E2.out,H.below⟩
 | ok ws =>
  rw[hw]at hwd E;simp only[]at E;simp only[WordsR]at hwd;have hLn:ws.length≤1000:=by
   unfold zBn at hw;split at hw
   ·cases hw
   ·have:=zDt _ _ _ hw;omega
  have hok:∀ d ∈ ws,zAf d.set:=by
   unfold zBn at hw;split at hw
   ·cases hw
   ·exact zFL _ _ _ hw
  have HOK:=Lib.hid hok;clear hok hw;have hwr:∀ (w:World) (l:List Res) (q:Option Addr) (c:Nat) (FW:Nat→Prop),True→True:=fun _ _ _ _ _ h=>h
  clear hwr
  cases hwp:zCz ws with
  | some a =>
   rw[hwp]at E;simp only[]at E;have hwr:∀ (w:World) (l:List Res) (q:Option Addr) (FW:Nat→Prop) {c:Nat},HoldG (fun _=>False) w0 w l→At l 2 (.kn FW (WKnows FW q ws.length c ws))→Calls Tryz.prog 41 #[.slice q ws.length c] w (Rt (.int .i64 (a:Int)) w):=fun w l q FW c h hi=>by
    have:=zI8 q ws.length c FW ws w (h.knlt hi) (h.kn hi) hLn;rw[hwp]at this;exact this
   have E2:=Lib.hid E;clear E hwp;have da:decide (0≤(a:Int))=true:=by simp
   go_enter Tryz.func19,Tryz.ntmps19
   go_wp2_with (first|(first|((with_reducible refine gT ?_);(refine aT H ?_;clear H;intro w H;try simp only[nr]at H))|((with_reducible refine gX ?_);(refine bB H ?_;clear H;intro b w H;try simp only[nr]at H))|((with_reducible refine gA ?_);(refine bA H ?_;clear H;intro b w H;try simp only[nr]at H))|((with_reducible refine gZ ?_);refine nb0 ?_))|(go_at_call 40;(with_reducible refine(hwd _).mono ?_);rintro e w ⟨⟨v,rfl,ho⟩,hb⟩;obtain⟨q,cap,FW,rfl,H2⟩:=H.gainWords hb ho;clear H ho hb;(have H:=H2);clear H2;try simp only[nr]at H)|((with_reducible refine ch (hwr _ _ _ _ H i_2) H ?_);clear H;intro w H))
   refine zE5 Tryz.results19 rfl rfl rfl rfl H atd_ zAX (by rfl) rfl ?_
   exact⟨ParseOut.no E2.out,H.below⟩
  | none =>
   rw[hwp]at E;simp only[]at E;have hwr:∀ (w:World) (l:List Res) (q:Option Addr) (FW:Nat→Prop) {c:Nat},HoldG (fun _=>False) w0 w l→At l 2 (.kn FW (WKnows FW q ws.length c ws))→Calls Tryz.prog 41 #[.slice q ws.length c] w (Rt (.int .i64 (-1)) w):=fun w l q FW c h hi=>by
    have:=zI8 q ws.length c FW ws w (h.knlt hi) (h.kn hi) hLn;rw[hwp]at this;exact this
   obtain⟨t,g,ha⟩:=zFs f hwp;rw[ha]at E;simp only[]at E;have hsz:=zFz _ _ _ _ _ _ _ _ _ ha;simp only[List.length_nil,zA2]at hsz;have hgl:g≤ws.length:=by have:=(zFJ _ _ _ _ _ _ _ _ _ ha).2;simp at this;omega
   have hal:∀ (w:World) (l:List Res) (q:Option Addr) (c pb:Nat) (FW:Nat→Prop),HoldG (fun _=>False) w0 w (l)→True:=fun _ _ _ _ _ _ _=>trivial
   clear hal;have hal:∀ (w:World) (r0 r1:Res) (q:Option Addr) (FW:Nat→Prop) (l:List Res) {c pb:Nat},HoldG (fun _=>False) w0 w (r0::r1::.kn FW (WKnows FW q ws.length c ws)::.blk pb #[.slice q ws.length c,.int .i64 0,.int .i64 0] 116::l) →
     Calls Tryz.prog 42 #[.pointer (some ⟨pb,0,none⟩),zBq f] w (zG8 pb 116 q ws.length c t ws.length g w):=fun w r0 r1 q FW l c pb h =>
    zNn pb FW q ws.length c ws (ws.length+1) 0 0 f t [] g w ⟨(h.blk i_3).2,h.knlt i_2,fun hf=>h.apart 3 2 _ _ (by decide) rfl rfl pb rfl hf,h.kn i_2,HOK.out,hLn,by omega,by omega⟩ ha
   have hno:∀ (w:World) (l:List Res) (q:Option Addr) (c:Nat) (F:Nat→Prop),HoldG (fun _=>False) w0 w l→At l 4 (.kn F (fun V=>ForestR V F q c t.kids))→Calls Tryz.prog 43 #[zAl t.d (.slice q t.kids.length c)] w (Rt (.int .i64 (zBk t)) w):=fun w l q c F h hi=>zJF 4000 t q _ c F w (by omega) (by omega) (h.knlt hi) (h.kn hi) rfl
   have hde:∀ (w:World) (l:List Res) (q:Option Addr) (c:Nat) (F:Nat→Prop),HoldG (fun _=>False) w0 w l→At l 4 (.kn F (fun V=>ForestR V F q c t.kids))→Calls Tryz.prog 44 #[zAl t.d (.slice q t.kids.length c)] w (Rt (.int .i64 (zDa t)) w):=fun w l q c F h hi=>zKP 4000 t q _ c F w (by omega) (by omega) (h.knlt hi) (h.kn hi) rfl
   clear ha hwp
   by_cases hg:20<g
   ·have dg:decide (20<(g:Int))=true:=by simp;omega
    rw[if_pos (.inl hg)]at E;have E2:=Lib.hid E;clear E
    go_enter Tryz.func19,Tryz.ntmps19
    go_wp2_with (first|(first|((with_reducible refine gT ?_);(refine aT H ?_;clear H;intro w H;try simp only[nr]at H))|((with_reducible refine gL ?_);(first|refine aG H ?_|refine aD H ?_))|((with_reducible refine gX ?_);(refine bB H ?_;clear H;intro b w H;try simp only[nr]at H))|((with_reducible refine gA ?_);(refine bA H ?_;clear H;intro b w H;try simp only[nr]at H))|((with_reducible refine gZ ?_);refine nb0 ?_))|(go_at_call 40;(with_reducible refine(hwd _).mono ?_);rintro e w ⟨⟨v,rfl,ho⟩,hb⟩;obtain⟨q,cap,FW,rfl,H2⟩:=H.gainWords hb ho;clear H ho hb;(have H:=H2);clear H2;try simp only[nr]at H)|((with_reducible refine ch (hwr _ _ _ _ H i_2) H ?_);clear H;intro w H)|((with_reducible show @wpList _ _ _ ({dst:=_,op:=Op.build 116 _,type:=_,pos:=_,after:=_,guard:=_}::_) _ _);refine zE1 wtd_ rfl evd_ ?_)|(go_at_call 42;(with_reducible refine chA (hal _ _ _ _ _ _ H) H i_3 ?_);clear H;intro q1 m1 F1 w hF1 H;try simp only[nr]at H)|((with_reducible first|refine ch (hno _ _ _ _ _ H i_4) H ?_|refine ch (hde _ _ _ _ _ H i_4) H ?_);clear H;intro w H))
    refine zE5 Tryz.results19 rfl rfl rfl rfl H atd_ zAX (by rfl) rfl ?_
    exact⟨ParseOut.no E2.out,H.below⟩
   ·have dg:decide (20<(g:Int))=false:=by simp;omega
    by_cases hs:2000<zBk t
    ·have ds:decide (2000<(zBk t:Int))=true:=by simp;omega
     rw[if_pos (.inr hs)]at E;have E2:=Lib.hid E;clear E
     go_enter Tryz.func19,Tryz.ntmps19
     go_wp2_with (first|(first|((with_reducible refine gT ?_);(refine aT H ?_;clear H;intro w H;try simp only[nr]at H))|((with_reducible refine gL ?_);(first|refine aG H ?_|refine aD H ?_))|((with_reducible refine gX ?_);(refine bB H ?_;clear H;intro b w H;try simp only[nr]at H))|((with_reducible refine gA ?_);(refine bA H ?_;clear H;intro b w H;try simp only[nr]at H))|((with_reducible refine gZ ?_);refine nb0 ?_))|(go_at_call 40;(with_reducible refine(hwd _).mono ?_);rintro e w ⟨⟨v,rfl,ho⟩,hb⟩;obtain⟨q,cap,FW,rfl,H2⟩:=H.gainWords hb ho;clear H ho hb;(have H:=H2);clear H2;try simp only[nr]at H)|((with_reducible refine ch (hwr _ _ _ _ H i_2) H ?_);clear H;intro w H)|((with_reducible show @wpList _ _ _ ({dst:=_,op:=Op.build 116 _,type:=_,pos:=_,after:=_,guard:=_}::_) _ _);refine zE1 wtd_ rfl evd_ ?_)|(go_at_call 42;(with_reducible refine chA (hal _ _ _ _ _ _ H) H i_3 ?_);clear H;intro q1 m1 F1 w hF1 H;try simp only[nr]at H)|((with_reducible first|refine ch (hno _ _ _ _ _ H i_4) H ?_|refine ch (hde _ _ _ _ _ H i_4) H ?_);clear H;intro w H))
     refine zE5 Tryz.results19 rfl rfl rfl rfl H atd_ zAX (by rfl) rfl ?_
     exact⟨ParseOut.no E2.out,H.below⟩
    ·have ds:decide (2000<(zBk t:Int))=false:=by simp;omega
     rw[if_neg (by omega)]at E
     by_cases hd:50<zDa t
     ·have dd:decide (50<(zDa t:Int))=true:=by simp;omega
      rw[if_pos hd]at E;have E2:=Lib.hid E;clear E
      go_enter Tryz.func19,Tryz.ntmps19
      go_wp2_with (first|(first|((with_reducible refine gT ?_);(refine aT H ?_;clear H;intro w H;try simp only[nr]at H))|((with_reducible refine gL ?_);(first|refine aG H ?_|refine aD H ?_))|((with_reducible refine gX ?_);(refine bB H ?_;clear H;intro b w H;try simp only[nr]at H))|((with_reducible refine gA ?_);(refine bA H ?_;clear H;intro b w H;try simp only[nr]at H))|((with_reducible refine gZ ?_);refine nb0 ?_))|(go_at_call 40;(with_reducible refine(hwd _).mono ?_);rintro e w ⟨⟨v,rfl,ho⟩,hb⟩;obtain⟨q,cap,FW,rfl,H2⟩:=H.gainWords hb ho;clear H ho hb;(have H:=H2);clear H2;try simp only[nr]at H)|((with_reducible refine ch (hwr _ _ _ _ H i_2) H ?_);clear H;intro w H)|((with_reducible show @wpList _ _ _ ({dst:=_,op:=Op.build 116 _,type:=_,pos:=_,after:=_,guard:=_}::_) _ _);refine zE1 wtd_ rfl evd_ ?_)|(go_at_call 42;(with_reducible refine chA (hal _ _ _ _ _ _ H) H i_3 ?_);clear H;intro q1 m1 F1 w hF1 H;try simp only[nr]at H)|((with_reducible first|refine ch (hno _ _ _ _ _ H i_4) H ?_|refine ch (hde _ _ _ _ _ H i_4) H ?_);clear H;intro w H))
      refine zE5 Tryz.results19 rfl rfl rfl rfl H atd_ zAX (by rfl) rfl ?_
      exact⟨ParseOut.no E2.out,H.below⟩
     ·have dd:decide (50<(zDa t:Int))=false:=by simp;omega
      rw[if_neg hd]at E;have E2:=Lib.hid E;clear E
      go_enter Tryz.func19,Tryz.ntmps19
      go_upto_region 13 with (first|((first|((with_reducible refine kgA 4 ?_);refine kA 4 H ?_)|((with_reducible refine kgX 4 ?_);(first|refine kS 4 H ?_|refine kB 4 H ?_)));clear H;intro b4 w H;try simp only[nr]at H)|((first|((with_reducible refine kgA 12 ?_);refine kA 12 H ?_)|((with_reducible refine kgX 12 ?_);(first|refine kS 12 H ?_|refine kB 12 H ?_)));clear H;intro b12 w H;try simp only[nr]at H)|((first|((with_reducible refine kgA 32 ?_);refine kA 32 H ?_)|((with_reducible refine kgX 32 ?_);(first|refine kS 32 H ?_|refine kB 32 H ?_)));clear H;intro b32 w H;try simp only[nr]at H)|(first|((with_reducible refine gT ?_);(refine aT H ?_;clear H;intro w H;try simp only[nr]at H))|((with_reducible refine gL ?_);(first|refine aG H ?_|refine aD H ?_))|((with_reducible refine gX ?_);(refine bB H ?_;clear H;intro b w H;try simp only[nr]at H)))|(go_at_call 40;(with_reducible refine(hwd _).mono ?_);rintro e w ⟨⟨v,rfl,ho⟩,hb⟩;obtain⟨q,cap,FW,rfl,H2⟩:=H.gainWords hb ho;clear H ho hb;(have H:=H2);clear H2;try simp only[nr]at H)|((with_reducible refine ch (hwr _ _ _ _ H i_2) H ?_);clear H;intro w H)|((with_reducible show @wpList _ _ _ ({dst:=_,op:=Op.build 116 _,type:=_,pos:=_,after:=_,guard:=_}::_) _ _);refine zE1 wtd_ rfl evd_ ?_)|(go_at_call 42;(with_reducible refine chA (hal _ _ _ _ _ _ H) H i_3 ?_);clear H;intro q1 m1 F1 w hF1 H;try simp only[nr]at H)|((with_reducible first|refine ch (hno _ _ _ _ _ H i_4) H ?_|refine ch (hde _ _ _ _ _ H i_4) H ?_);clear H;intro w H))
      have hS:∀ W,RelS b4 (zAR t.d (.slice q1 t.kids.length m1)) 30 w W→(∀ k,k<10→W.cell? ⟨b12,0+k,none⟩=(zAR t.d (.slice q1 t.kids.length m1))[k]?)∧W.cell? ⟨b32,2,none⟩=some (.int .i64 (g:Int))∧∃ cs,W.heap[b4]?=some (.cells cs 30 (0,0))∧cs.size=10:=fun W hr=>by
       obtain⟨ds,hds,H2⟩:=H.relS (i:=1) i_1 hr;refine⟨fun k _=>?_,H2.cell (i:=3) i_3 2,ds,(H2.blk (i:=1) i_1).2,by rcases hds with rfl|rfl<;>rfl⟩
       rw[Nat.zero_add];exact H2.cell (i:=5) i_5 k
      refine zBh (RelS b4 (zAR t.d (.slice q1 t.kids.length m1)) 30) RelS.refl RelS.trans RelS.drew 6 [fun v _=>v=zAl t.d (.slice q1 t.kids.length m1),fun v _=>v=pt b32 0,fun v _=>v=pt b32 0,fun v _=>v=pt b32 2,fun v _=>v=.int .i64 (g:Int),zOf b4 (zAR t.d (.slice q1 t.kids.length m1)) 30]
       ⟨zAA _,zAA _,zAA _,zAA _,zAA _,zI0,trivial⟩ (by kernel_rfl) (by kernel_rfl) (by kernel_rfl) ?ob ?en
      case ob =>
       refine⟨?_,?_,?_,?_,?_,?_,trivial⟩<;>intro A W h
       ·exact zAt rfl (zAH RelS.refl rfl (zB0 rfl (h.f 12) zAX rfl (hS W h.rel).1))
       ·exact zAt rfl (zDu RelS.refl rfl rfl (h.f 11))
       ·exact zAt rfl (zAH RelS.refl rfl (by simp only[execOp,show A.eval (.tmp 54)=.pointer (some ⟨b32,0,none⟩) from h.d 1 54];simp[go_sem]))
       ·exact zAt rfl (zAH RelS.refl rfl (by simp only[execOp,show A.eval (.tmp 55)=.pointer (some ⟨b32,0,none⟩) from h.d 2 55];simp[go_sem]))
       ·exact zAt rfl (zAH RelS.refl rfl (zAK rfl (h.d 3 56) zAI (hS W h.rel).2.1))
       ·obtain⟨cs,hcs,hsz⟩:=(hS W h.rel).2.2;exact zPV rfl rfl rfl (h.f 4) hcs hsz (h.d 0 53) (zAw (n:=10) zAX) rfl
      case en =>
       intro vals W1 hrel hv hlk;have v0:vals 0=zAl t.d (.slice q1 t.kids.length m1):=hv 0 (by omega)
       have v1:vals 1=.pointer (some ⟨b32,0,none⟩):=hv 1 (by omega)
       have v2:vals 2=.pointer (some ⟨b32,0,none⟩):=hv 2 (by omega)
       have v3:vals 3=.pointer (some ⟨b32,2,none⟩):=hv 3 (by omega)
       have v4:vals 4=.int .i64 (g:Int):=hv 4 (by omega)
       have H2:=H.laidS (i:=1) i_1 hrel (hv 5 (by omega))
       simp only[fa,Nat.reduceAdd];rw[v0,v1,v2,v3,v4];clear hv v0 v1 v2 v3 v4 hlk hrel H hS;have H:=H2;clear H2;simp only[sc]at H;simp only[pl]
       go_wp2_with fail
       refine zE5 Tryz.results19 rfl rfl rfl rfl H (i:=1) i_1 zAX (by rfl) rfl ?_
       refine⟨?_,H.below⟩;rw[E2.out];exact⟨q1,m1,F1,rfl,H.kn (i:=4) i_4,fun b h=>⟨H.knlt (i:=4) i_4 b h,hF1 b h⟩⟩
theorem zLU (L:Str) (i:Nat) (hL:L.length≤2000) (hi:i<L.length) (w0:World):Calls Tryz.prog 134 #[.string ⟨L.toArray⟩,.int .i64 i] w0 fun e w'=>WordR (brW i (zBI L i)) e∧Below w0.heap.size w0 w':=by
 have H:=Hold.start w0;have hn1:=fun w=>zH1 L (i+1) hL (by omega) w
 simp only[Int.natCast_add,Int.cast_ofNat_Int]at hn1;have en:zBI L i=zBI L i:=rfl
 conv at en=>rhs;unfold zBI
 cases hnum:zCX L (i+1) with
 | none =>
  rw[hnum]at hn1 en;simp only[numV]at hn1 en;have E:=Lib.hid (show brW i (zBI L i)=none by rw[en];rfl);clear en hnum
  go_enter Tryz.func134,Tryz.ntmps134
  go_wp2_with (first|(first|((with_reducible refine gT ?_);(refine aT H ?_;clear H;intro w H;try simp only[nr]at H))|((with_reducible refine gL ?_);refine aD H ?_)|((with_reducible refine gA ?_);(refine bA H ?_;clear H;intro b w H;try simp only[nr]at H)))|((with_reducible refine ch (hn1 _) H ?_);clear H;intro w H))
  (refine xct Tryz.results134 H ?_)
  exact⟨WordR.no (w:={kind:=11,place:=i}) E.out,H.below⟩
 | some p =>
  obtain⟨n,k⟩:=p;have hk:=zB6 hnum (by omega)
  rw[hnum]at hn1 en;simp only[numV]at hn1 en;clear hnum;have dk:decide ((k:Int)<0)=false:=by simp
  have ha1:=fun w=>zDo L [44,125] k hL (by simp) (by simp) (by omega) w
  cases h1:atP L k [44,125] with
  | true =>
   rw[h1]at ha1 en;rw[if_pos rfl]at en;have E:=Lib.hid (show brW i (zBI L i)=some ({kind:=11,place:=i,lo:=n,hi := -1},k+2) by rw[en];rfl);clear en h1
   go_enter Tryz.func134,Tryz.ntmps134
   go_wp2_with (first|(first|((with_reducible refine gT ?_);((first|refine aO H ?_|refine aT H ?_);clear H;intro w H;try simp only[nr]at H))|((with_reducible refine gL ?_);refine aD H ?_)|((with_reducible refine gA ?_);(refine bA H ?_;clear H;intro b w H;try simp only[nr]at H)))|((with_reducible first|refine ch (hn1 _) H ?_|refine ch (ha1 _) H ?_);clear H;intro w H))
   (refine xct Tryz.results134 H ?_)
   exact⟨WordR.ok (w:={kind:=11,place:=i,lo:=n,hi := -1}) E.out,H.below⟩
  | false =>
   rw[h1]at ha1 en;rw[if_neg (by simp)]at en
   clear h1;have ha2:=fun w=>zDo L [44] k hL (by simp) (by simp) (by omega) w
   cases h2:atP L k [44] with
   | true =>
    have hl:=zC6 h2 (by simp)
    simp only[List.length_cons,List.length_nil,Nat.zero_add]at hl;rw[h2]at ha2 en;rw[if_pos rfl]at en;clear h2;have hn2:=fun w=>zH1 L (k+1) hL (by omega) w
    simp only[Int.natCast_add,Int.cast_ofNat_Int]at hn2
    cases hnum2:zCX L (k+1) with
    | none =>
     rw[hnum2]at hn2 en;simp only[numV]at hn2 en;have E:=Lib.hid (show brW i (zBI L i)=none by rw[en];rfl);clear en hnum2
     go_enter Tryz.func134,Tryz.ntmps134
     go_wp2_with (first|(first|((with_reducible refine gT ?_);((first|refine aO H ?_|refine aT H ?_);clear H;intro w H;try simp only[nr]at H))|((with_reducible refine gL ?_);refine aD H ?_)|((with_reducible refine gA ?_);(refine bA H ?_;clear H;intro b w H;try simp only[nr]at H)))|((with_reducible first|refine ch (hn1 _) H ?_|refine ch (ha1 _) H ?_|refine ch (ha2 _) H ?_|refine ch (hn2 _) H ?_);clear H;intro w H))
     (refine xct Tryz.results134 H ?_)
     exact⟨WordR.no (w:={kind:=11,place:=i,lo:=n,hi:=n}) E.out,H.below⟩
    | some q =>
     obtain⟨m,e⟩:=q;have hk2:=zB6 hnum2 (by omega)
     rw[hnum2]at hn2 en;simp only[numV]at hn2 en;clear hnum2;have de:decide ((e:Int)<0)=false:=by simp
     have ha3:=fun w=>zDo L [125] e hL (by simp) (by simp) (by omega) w
     cases h3:atP L e [125] with
     | true =>
      rw[h3]at ha3 en;rw[if_pos rfl]at en;have E:=Lib.hid (show brW i (zBI L i)=some ({kind:=11,place:=i,lo:=n,hi:=m},e+1) by rw[en];rfl);clear en h3
      go_enter Tryz.func134,Tryz.ntmps134
      go_wp2_with (first|(first|((with_reducible refine gT ?_);((first|refine aO H ?_|refine aT H ?_);clear H;intro w H;try simp only[nr]at H))|((with_reducible refine gL ?_);refine aD H ?_)|((with_reducible refine gA ?_);(refine bA H ?_;clear H;intro b w H;try simp only[nr]at H)))|((with_reducible first|refine ch (hn1 _) H ?_|refine ch (ha1 _) H ?_|refine ch (ha2 _) H ?_|refine ch (hn2 _) H ?_|refine ch (ha3 _) H ?_);clear H;intro w H))
      (refine xct Tryz.results134 H ?_)
      exact⟨WordR.ok (w:={kind:=11,place:=i,lo:=n,hi:=m}) E.out,H.below⟩
     | false =>
      rw[h3]at ha3 en;rw[if_neg (by simp)]at en
      have E:=Lib.hid (show brW i (zBI L i)=none by rw[en];rfl);clear en h3
      go_enter Tryz.func134,Tryz.ntmps134
      go_wp2_with (first|(first|((with_reducible refine gT ?_);((first|refine aO H ?_|refine aT H ?_);clear H;intro w H;try simp only[nr]at H))|((with_reducible refine gL ?_);refine aD H ?_)|((with_reducible refine gA ?_);(refine bA H ?_;clear H;intro b w H;try simp only[nr]at H)))|((with_reducible first|refine ch (hn1 _) H ?_|refine ch (ha1 _) H ?_|refine ch (ha2 _) H ?_|refine ch (hn2 _) H ?_|refine ch (ha3 _) H ?_);clear H;intro w H))
      (refine xct Tryz.results134 H ?_)
      exact⟨WordR.no (w:={kind:=11,place:=i,lo:=n,hi:=m}) E.out,H.below⟩
   | false =>
    rw[h2]at ha2 en;rw[if_neg (by simp)]at en
    clear h2;have ha3:=fun w=>zDo L [125] k hL (by simp) (by simp) (by omega) w
    cases h3:atP L k [125] with
    | true =>
     rw[h3]at ha3 en;rw[if_pos rfl]at en;have E:=Lib.hid (show brW i (zBI L i)=some ({kind:=11,place:=i,lo:=n,hi:=n},k+1) by rw[en];rfl);clear en h3
     go_enter Tryz.func134,Tryz.ntmps134
     go_wp2_with (first|(first|((with_reducible refine gT ?_);((first|refine aO H ?_|refine aT H ?_);clear H;intro w H;try simp only[nr]at H))|((with_reducible refine gL ?_);refine aD H ?_)|((with_reducible refine gA ?_);(refine bA H ?_;clear H;intro b w H;try simp only[nr]at H)))|((with_reducible first|refine ch (hn1 _) H ?_|refine ch (ha1 _) H ?_|refine ch (ha2 _) H ?_|refine ch (ha3 _) H ?_);clear H;intro w H))
     (refine xct Tryz.results134 H ?_)
     exact⟨WordR.ok (w:={kind:=11,place:=i,lo:=n,hi:=n}) E.out,H.below⟩
    | false =>
     rw[h3]at ha3 en;rw[if_neg (by simp)]at en
     have E:=Lib.hid (show brW i (zBI L i)=none by rw[en];rfl);clear en h3
     go_enter Tryz.func134,Tryz.ntmps134
     go_wp2_with (first|(first|((with_reducible refine gT ?_);((first|refine aO H ?_|refine aT H ?_);clear H;intro w H;try simp only[nr]at H))|((with_reducible refine gL ?_);refine aD H ?_)|((with_reducible refine gA ?_);(refine bA H ?_;clear H;intro b w H;try simp only[nr]at H)))|((with_reducible first|refine ch (hn1 _) H ?_|refine ch (ha1 _) H ?_|refine ch (ha2 _) H ?_|refine ch (ha3 _) H ?_);clear H;intro w H))
     (refine xct Tryz.results134 H ?_)
     exact⟨WordR.no (w:={kind:=11,place:=i,lo:=n,hi:=n}) E.out,H.below⟩
end
end Go.Proofs.YtklcgfkdemifcaaGreatDoor
