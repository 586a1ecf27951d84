/-
  Laws of walks, and walks.
-/
import Derived.Test.YtklcgfkdemifcaaGreatDoorSw11
import Derived.Test.YtklcgfkdemifcaaGreatDoorSw5
set_option linter.unusedVariables false
set_option linter.unusedSimpArgs false
set_option maxRecDepth 100000
set_option maxHeartbeats 16000000
namespace Go.Proofs.YtklcgfkdemifcaaGreatDoor
section
open Go.RowKit Go.Shelf
attribute [local go_sem] Oper.semAt_some
theorem zJU (L:Str) (i:Nat) (hL:L.length≤2000) (hi:i≤L.length) (w0:World):Calls Tryz.prog 180 #[.string ⟨L.toArray⟩,.int .i64 i] w0 (Rt (escV (zCv L i)) w0):=by
 have H:=Hold.start w0
 by_cases hlt:i<L.length
 ·have hd:decide ((L.length:Int)≤(i:Int))=false:=by simp;omega
  by_cases hb:byt L i=92
  ·have d:((byt L i:Int) == 92)=true:=by rw[beq_iff_eq];omega
   have hc:=fun w=>zFt L i hL hi w
   have e:zCv L i=escP L i:=by unfold zCv;rw[if_pos hlt,if_pos hb]
   have E:=Lib.hid e;clear e hb
   cases hs:escP L i with
   | none =>
    rw[hs]at hc;simp only[escV]at hc;have HS:=Lib.hid hs;clear hs
    go_enter Tryz.func180,Tryz.ntmps180
    go_wp2_with (first|((with_reducible refine gI ?_);refine aI ?_)|((with_reducible refine ch (hc _) H ?_);clear H;intro w H))
    go_ret2
    exact⟨by rw[E.out,HS.out];rfl,H.below⟩
   | some p =>
    obtain⟨b,e⟩:=p;rw[hs]at hc;simp only[escV]at hc;have HS:=Lib.hid hs;clear hs
    go_enter Tryz.func180,Tryz.ntmps180
    go_wp2_with (first|((with_reducible refine gI ?_);refine aI ?_)|((with_reducible refine ch (hc _) H ?_);clear H;intro w H))
    go_ret2
    exact⟨by rw[E.out,HS.out];rfl,H.below⟩
  ·have d:((byt L i:Int) == 92)=false:=by rw[beq_eq_false_iff_ne];omega
   have e:zCv L i=some (byt L i,i+1):=by unfold zCv;rw[if_pos hlt,if_neg hb]
   have E:=Lib.hid e;clear e hb
   go_enter Tryz.func180,Tryz.ntmps180
   go_wp2_with (first|((with_reducible refine gI ?_);refine aI ?_))
   go_ret2
   exact⟨by rw[E.out];simp[escV],H.below⟩
 ·have hd:decide ((L.length:Int)≤(i:Int))=true:=by simp;omega
  go_enter Tryz.func180,Tryz.ntmps180
  go_wp2_with (first|fail)
  go_ret2
  exact⟨by unfold zCv;rw[if_neg hlt];rfl,H.below⟩
def ItemR (o:Option ((Nat→Nat) × Nat)) (e:Ending):Prop:=match o with
 | some (s,k)=>e=.returned (.tuple #[setV s,.int .i64 k])
 | none=>∃ S,e=.returned (.tuple #[setV S,.int .i64 (-1)])
theorem ItemR.ok {o:Option ((Nat→Nat) × Nat)} {s:Nat→Nat} {k:Nat} (h:o=some (s,k)):ItemR o (.returned (.tuple #[setV s,.int .i64 k])):=by subst h;rfl
theorem ItemR.no {o:Option ((Nat→Nat) × Nat)} {S:Nat→Nat} (h:o=none):ItemR o (.returned (.tuple #[setV S,.int .i64 (-1)])):=by subst h;exact⟨S,rfl⟩
theorem on_0 (w0:World):Calls Tryz.prog 136 #[.int .u8 0] w0 (Rt (setV (ofS [0])) w0):=zEr 0 (by omega) w0
theorem zDS {L:Str} {i:Nat} {r:Option ((Nat→Nat) × Nat)} (h:zEZ L i=some r):zDj L i=r:=by unfold zDj;rw[h]
theorem zQe {L:Str} {i:Nat} {s:Nat→Nat} (h:zEZ L i=none) (h1:byt L i=92) (h2:i+1<L.length) (h3:zCg (byt L (i+1))=some s):zDj L i=some (s,i+2):=by
 unfold zDj;rw[h];simp only[];rw[if_pos ⟨h1,h2⟩,h3]
theorem zLB {L:Str} {i:Nat} (h:zEZ L i=none) (h1:byt L i=92→i+1<L.length→zCg (byt L (i+1))=none):zDj L i=zDC L i:=by
 unfold zDj;rw[h];simp only[]
 by_cases hc:byt L i=92∧i+1<L.length
 ·rw[if_pos hc,h1 hc.1 hc.2]
 ·rw[if_neg hc]
theorem zJd {i n:Nat} (h:decide ((i:Int)+1<(n:Int))=true):i+1<n:=by have:=of_decide_eq_true h;omega
theorem zD9 (L:Str) (i:Nat) (hL:L.length≤2000) (hi:i<L.length) (w0:World) (b1 b2 b3:Bool) (sv:Nat→Nat) (hat:∀ w,Calls Tryz.prog 132 #[.string ⟨L.toArray⟩,.int .i64 i,.string ⟨#[91,58]⟩] w (Rt (.bool b1) w)) (hfi:b1=true→∀ w,Calls Tryz.prog 179 #[.string ⟨L.toArray⟩,.int .i64 ((i:Int)+2),.string ⟨#[58,93]⟩] w (Rt (.int .i64 (-1)) w)) (d92:((byt L i:Int) == 92)=b2) (dl:decide ((i:Int)+1<(L.length:Int))=b3) (hso:b2=true→b3=true→∀ w,Calls Tryz.prog 161 #[.int .u8 (byt L (i+1))] w (Rt (.tuple #[setV sv,.bool false]) w)) (EI:Hid (zDj L i=zDC L i)) :
  Calls Tryz.prog 163 #[.string ⟨L.toArray⟩,.int .i64 i] w0 fun e w'=>ItemR (zDj L i) e∧Below w0.heap.size w0 w':=by
 have H:=Hold.start w0;have hb:=zCI L i;have hth:=fun w=>zJU L i hL (by omega) w
 have et:zDC L i=zDC L i:=rfl
 conv at et=>rhs;unfold zDC
 cases ht:zCv L i with
 | none =>
  rw[ht]at hth et;simp only[escV]at hth et;have ET:=Lib.hid et;clear et ht
  cases b1<;>cases b2<;>cases b3<;>((try have cl:=zJd dl);go_enter Tryz.func163,Tryz.ntmps163;go_wp2_with (first|(first|((with_reducible refine gT ?_);(refine aS H ?_;clear H;intro w H;try simp only[nr]at H))|((with_reducible refine gA ?_);(refine bA H ?_;clear H;intro b w H;try simp only[nr]at H))|((with_reducible refine gI ?_);refine aI ?_))|((with_reducible first|refine ch (hat _) H ?_|refine ch (hfi (by trivial) _) H ?_|refine ch (hso (by trivial) (by trivial) _) H ?_|refine ch (hth _) H ?_|refine ch (on_0 _) H ?_);clear H;intro w H)))
  all_goals (refine xctS Tryz.results163 H ?_)
  all_goals exact⟨ItemR.no (by rw[EI.out,ET.out]),H.below⟩
 | some p =>
  obtain⟨lo,k⟩:=p;have hk:=zD4 ht;rw[ht]at hth et;simp only[escV]at hth et;clear ht;have dk:decide ((k:Int)<0)=false:=by simp
  have hone:=fun w=>zEr lo hk.2.2 w
  by_cases c1:k+1<L.length
  ·have d1:decide ((L.length:Int)≤(k:Int)+1)=false:=by simp;omega
   by_cases c2:byt L k=45
   ·have d2:((byt L k:Int) == 45)=true:=by rw[beq_iff_eq];omega
    have d2':((byt L k:Int) != 45)=false:=by rw[bne_eq_false_iff_eq];omega
    by_cases c3:byt L (k+1)=93
    ·have d3:((byt L (k+1):Int) == 93)=true:=by rw[beq_iff_eq];omega
     rw[if_neg (by rintro⟨_,_,h⟩;exact h c3)]at et
     have ET:=Lib.hid et;clear et c2 c3
     cases b1<;>cases b2<;>cases b3<;>((try have cl:=zJd dl);go_enter Tryz.func163,Tryz.ntmps163;go_wp2_with (first|(first|((with_reducible refine gT ?_);(refine aS H ?_;clear H;intro w H;try simp only[nr]at H))|((with_reducible refine gA ?_);(refine bA H ?_;clear H;intro b w H;try simp only[nr]at H))|((with_reducible refine gI ?_);refine aI ?_))|((with_reducible first|refine ch (hat _) H ?_|refine ch (hfi (by trivial) _) H ?_|refine ch (hso (by trivial) (by trivial) _) H ?_|refine ch (hth _) H ?_|refine ch (hone _) H ?_);clear H;intro w H)))
     all_goals (refine xctS Tryz.results163 H ?_)
     all_goals exact⟨ItemR.ok (by rw[EI.out,ET.out]),H.below⟩
    ·have d3:((byt L (k+1):Int) == 93)=false:=by rw[beq_eq_false_iff_ne];omega
     rw[if_pos ⟨c1,c2,c3⟩]at et;clear c2 c3;have hth2:=fun w=>zJU L (k+1) hL (by omega) w
     simp only[Int.natCast_add,Int.cast_ofNat_Int]at hth2
     cases ht2:zCv L (k+1) with
     | none =>
      rw[ht2]at hth2 et;simp only[escV]at hth2 et;have ET:=Lib.hid et;clear et ht2
      cases b1<;>cases b2<;>cases b3<;>((try have cl:=zJd dl);go_enter Tryz.func163,Tryz.ntmps163;go_wp2_with (first|(first|((with_reducible refine gT ?_);(refine aS H ?_;clear H;intro w H;try simp only[nr]at H))|((with_reducible refine gA ?_);(refine bA H ?_;clear H;intro b w H;try simp only[nr]at H))|((with_reducible refine gZ ?_);refine aZ ?_)|((with_reducible refine gI ?_);refine aI ?_))|((with_reducible first|refine ch (hat _) H ?_|refine ch (hfi (by trivial) _) H ?_|refine ch (hso (by trivial) (by trivial) _) H ?_|refine ch (hth _) H ?_|refine ch (hth2 _) H ?_);clear H;intro w H)))
      all_goals (refine xctS Tryz.results163 H ?_)
      all_goals exact⟨ItemR.no (by rw[EI.out,ET.out]),H.below⟩
     | some q =>
      obtain⟨hi2,e2⟩:=q;have hk2:=zD4 ht2;rw[ht2]at hth2 et;simp only[escV]at hth2 et;clear ht2;have de:decide ((e2:Int)<0)=false:=by simp
      by_cases c4:lo≤hi2
      ·have d4:decide ((hi2:Int)<(lo:Int))=false:=by simp;omega
       rw[if_pos c4]at et;have ET:=Lib.hid et;clear et;have hsp:=fun w=>zCx lo hi2 (by omega) (by omega) w
       cases b1<;>cases b2<;>cases b3<;>((try have cl:=zJd dl);go_enter Tryz.func163,Tryz.ntmps163;go_wp2_with (first|(first|((with_reducible refine gT ?_);(refine aS H ?_;clear H;intro w H;try simp only[nr]at H))|((with_reducible refine gA ?_);(refine bA H ?_;clear H;intro b w H;try simp only[nr]at H))|((with_reducible refine gI ?_);refine aI ?_))|((with_reducible first|refine ch (hat _) H ?_|refine ch (hfi (by trivial) _) H ?_|refine ch (hso (by trivial) (by trivial) _) H ?_|refine ch (hth _) H ?_|refine ch (hth2 _) H ?_|refine ch (hsp _) H ?_);clear H;intro w H)))
       all_goals (refine xctS Tryz.results163 H ?_)
       all_goals exact⟨ItemR.ok (by rw[EI.out,ET.out]),H.below⟩
      ·have d4:decide ((hi2:Int)<(lo:Int))=true:=by simp;omega
       rw[if_neg c4]at et;have ET:=Lib.hid et;clear et
       cases b1<;>cases b2<;>cases b3<;>((try have cl:=zJd dl);go_enter Tryz.func163,Tryz.ntmps163;go_wp2_with (first|(first|((with_reducible refine gT ?_);(refine aS H ?_;clear H;intro w H;try simp only[nr]at H))|((with_reducible refine gA ?_);(refine bA H ?_;clear H;intro b w H;try simp only[nr]at H))|((with_reducible refine gZ ?_);refine aZ ?_)|((with_reducible refine gI ?_);refine aI ?_))|((with_reducible first|refine ch (hat _) H ?_|refine ch (hfi (by trivial) _) H ?_|refine ch (hso (by trivial) (by trivial) _) H ?_|refine ch (hth _) H ?_|refine ch (hth2 _) H ?_);clear H;intro w H)))
       all_goals (refine xctS Tryz.results163 H ?_)
       all_goals exact⟨ItemR.no (by rw[EI.out,ET.out]),H.below⟩
   ·have d2:((byt L k:Int) == 45)=false:=by rw[beq_eq_false_iff_ne];omega
    have d2':((byt L k:Int) != 45)=true:=by rw[bne_iff_ne];omega
    rw[if_neg (by rintro⟨_,h,_⟩;exact c2 h)]at et
    have ET:=Lib.hid et;clear et c2
    cases b1<;>cases b2<;>cases b3<;>((try have cl:=zJd dl);go_enter Tryz.func163,Tryz.ntmps163;go_wp2_with (first|(first|((with_reducible refine gT ?_);(refine aS H ?_;clear H;intro w H;try simp only[nr]at H))|((with_reducible refine gA ?_);(refine bA H ?_;clear H;intro b w H;try simp only[nr]at H))|((with_reducible refine gI ?_);refine aI ?_))|((with_reducible first|refine ch (hat _) H ?_|refine ch (hfi (by trivial) _) H ?_|refine ch (hso (by trivial) (by trivial) _) H ?_|refine ch (hth _) H ?_|refine ch (hone _) H ?_);clear H;intro w H)))
    all_goals (refine xctS Tryz.results163 H ?_)
    all_goals exact⟨ItemR.ok (by rw[EI.out,ET.out]),H.below⟩
  ·have d1:decide ((L.length:Int)≤(k:Int)+1)=true:=by simp;omega
   rw[if_neg (by rintro⟨h,_⟩;exact c1 h)]at et
   have ET:=Lib.hid et;clear et
   cases b1<;>cases b2<;>cases b3<;>((try have cl:=zJd dl);go_enter Tryz.func163,Tryz.ntmps163;go_wp2_with (first|(first|((with_reducible refine gT ?_);(refine aS H ?_;clear H;intro w H;try simp only[nr]at H))|((with_reducible refine gA ?_);(refine bA H ?_;clear H;intro b w H;try simp only[nr]at H))|((with_reducible refine gI ?_);refine aI ?_))|((with_reducible first|refine ch (hat _) H ?_|refine ch (hfi (by trivial) _) H ?_|refine ch (hso (by trivial) (by trivial) _) H ?_|refine ch (hth _) H ?_|refine ch (hone _) H ?_);clear H;intro w H)))
   all_goals (refine xctS Tryz.results163 H ?_)
   all_goals exact⟨ItemR.ok (by rw[EI.out,ET.out]),H.below⟩
theorem zDq (L:Str) (i:Nat) (hL:L.length≤2000) (hi:i<L.length) (w0:World):Calls Tryz.prog 163 #[.string ⟨L.toArray⟩,.int .i64 i] w0 fun e w'=>ItemR (zDj L i) e∧Below w0.heap.size w0 w':=by
 have H:=Hold.start w0;have hat:=fun w=>zDo L [91,58] i hL (by simp) (by simp) (by omega) w
 have hb:=zCI L i
 cases ha:atP L i [91,58] with
 | true =>
  rw[ha]at hat;have hl:=zC6 ha (by simp)
  simp only[List.length_cons,List.length_nil,Nat.zero_add,Nat.reduceAdd]at hl;have hfi:=fun w=>zOE L [58,93] (i+2) hL (by simp) (by simp) hl w
  simp only[Int.natCast_add,Int.cast_ofNat_Int]at hfi
  cases hf:zD7 [58,93] (L.drop (i+2)) with
  | some k =>
   have hfk:fnd L (i+2) [58,93]=some (k+(i+2)):=by unfold fnd;rw[hf];rfl
   rw[hfk]at hfi;simp only[optI]at hfi;have hk:=zGV hf;simp only[List.length_cons,List.length_nil,Nat.zero_add,Nat.reduceAdd,List.length_drop]at hk;have hnl:((L.take (k+(i+2))).drop (i+2)).length=k:=by simp;omega
   have hseg:=zOv (L:=L) (i:=i) (k:=k);have en:zEZ L i=zEZ L i:=rfl
   conv at en=>rhs;unfold zEZ
   rw[if_pos ha,hf]at en;simp only[]at en;rw[← hseg]at en;rw[show i+2+k+2=k+(i+2)+2 from by omega]at en
   clear ha hf hfk hseg;obtain⟨q,hq⟩:∃ q,q=k+(i+2):=⟨_,rfl⟩;rw[← hq]at hfi hnl en;have hq2:i+2≤q:=by omega
   have hq3:q+2≤L.length:=by omega
   have dq:decide (0≤(q:Int))=true:=by simp
   obtain rfl:k=q - (i+2):=by omega
   clear hq hk
   generalize hn:(L.take q).drop (i+2)=N at en hnl
   cases N with
   | nil =>
    clear hnl;simp only[atP,List.drop_zero,List.isPrefixOf_cons_nil,Bool.false_eq_true,if_false]at en;have hnm:=fun w=>zEk [] w
    cases hN:zCw [] with
    | none =>
     rw[hN]at hnm en;simp only[setO,Option.getD_none,Option.isSome_none]at hnm en;have ei:=zDS en;have EI:=Lib.hid ei;clear ei en hN
     go_enter Tryz.func163,Tryz.ntmps163
     go_wp2_with (first|(first|((with_reducible refine gT ?_);(refine aS H ?_;clear H;intro w H;try simp only[nr]at H))|((with_reducible refine gL ?_);refine aL H ?_)|((with_reducible refine gA ?_);(refine bA H ?_;clear H;intro b w H;try simp only[nr]at H))|((with_reducible refine gC ?_);refine aC ?_))|((with_reducible first|refine ch (hat _) H ?_|refine ch (hfi _) H ?_|refine ch (hnm _) H ?_);clear H;intro w H))
     all_goals (refine xctS Tryz.results163 H ?_)
     all_goals exact⟨ItemR.no (by rw[EI.out]),H.below⟩
    | some s =>
     rw[hN]at hnm en;simp only[setO,Option.getD_some,Option.isSome_some]at hnm en;have ei:=zDS en;have EI:=Lib.hid ei;clear ei en hN
     go_enter Tryz.func163,Tryz.ntmps163
     go_wp2_with (first|(first|((with_reducible refine gT ?_);(refine aS H ?_;clear H;intro w H;try simp only[nr]at H))|((with_reducible refine gL ?_);refine aL H ?_)|((with_reducible refine gA ?_);(refine bA H ?_;clear H;intro b w H;try simp only[nr]at H))|((with_reducible refine gC ?_);refine aC ?_))|((with_reducible first|refine ch (hat _) H ?_|refine ch (hfi _) H ?_|refine ch (hnm _) H ?_);clear H;intro w H))
     all_goals (refine xctS Tryz.results163 H ?_)
     all_goals exact⟨ItemR.ok (by rw[EI.out]),H.below⟩
   | cons c l =>
    clear hnl;have hb0:byt (c::l) 0=c.toNat:=rfl
    by_cases hc:c=94
    ·subst hc;clear hb0;simp only[atP,List.drop_zero,List.isPrefixOf_cons_cons,List.isPrefixOf_nil_left,Bool.and_true,beq_self_eq_true,if_true,List.drop_succ_cons]at en;have hb1:byt ((94:UInt8)::l) 0=94:=rfl;have hnm:=fun w=>zEk l w
     cases hN:zCw l with
     | none =>
      rw[hN]at hnm en;simp only[setO,Option.getD_none,Option.isSome_none]at hnm en;have ei:=zDS en;have EI:=Lib.hid ei;clear ei en hN
      go_enter Tryz.func163,Tryz.ntmps163
      go_wp2_with (first|(first|((with_reducible refine gT ?_);(refine aS H ?_;clear H;intro w H;try simp only[nr]at H))|((with_reducible refine gL ?_);refine aL H ?_)|((with_reducible refine gA ?_);(refine bA H ?_;clear H;intro b w H;try simp only[nr]at H))|((with_reducible refine gI ?_);refine aI ?_)|((with_reducible refine gC ?_);refine aC ?_)|((with_reducible refine gF ?_);refine aF ?_))|((with_reducible first|refine ch (hat _) H ?_|refine ch (hfi _) H ?_|refine ch (hnm _) H ?_);clear H;intro w H))
      all_goals (refine xctS Tryz.results163 H ?_)
      all_goals exact⟨ItemR.no (by rw[EI.out]),H.below⟩
     | some s =>
      have hnot:=fun w=>zEF s (zGy hN) w
      rw[hN]at hnm en;simp only[setO,Option.getD_some,Option.isSome_some]at hnm en;have ei:=zDS en;have EI:=Lib.hid ei;clear ei en hN
      go_enter Tryz.func163,Tryz.ntmps163
      go_wp2_with (first|(first|((with_reducible refine gT ?_);(refine aS H ?_;clear H;intro w H;try simp only[nr]at H))|((with_reducible refine gL ?_);refine aL H ?_)|((with_reducible refine gA ?_);(refine bA H ?_;clear H;intro b w H;try simp only[nr]at H))|((with_reducible refine gI ?_);refine aI ?_)|((with_reducible refine gC ?_);refine aC ?_)|((with_reducible refine gF ?_);refine aF ?_))|((with_reducible first|refine ch (hat _) H ?_|refine ch (hfi _) H ?_|refine ch (hnm _) H ?_|refine ch (hnot _) H ?_);clear H;intro w H))
      all_goals (refine xctS Tryz.results163 H ?_)
      all_goals exact⟨ItemR.ok (by rw[EI.out]),H.below⟩
    ·have hcn:((94:UInt8) == c)=false:=by rw[beq_eq_false_iff_ne];exact fun e=>hc e.symm
     have hcc:((c.toNat:Int) == 94)=false:=by rw[beq_eq_false_iff_ne];intro e;exact hc (UInt8.toNat_inj.1 (by show c.toNat=94;omega))
     simp only[atP,List.drop_zero,List.isPrefixOf_cons_cons,List.isPrefixOf_nil_left,Bool.and_true,hcn,Bool.false_eq_true,if_false]at en;clear hc hcn;have hnm:=fun w=>zEk (c::l) w
     cases hN:zCw (c::l) with
     | none =>
      rw[hN]at hnm en;simp only[setO,Option.getD_none,Option.isSome_none]at hnm en;have ei:=zDS en;have EI:=Lib.hid ei;clear ei en hN
      go_enter Tryz.func163,Tryz.ntmps163
      go_wp2_with (first|(first|((with_reducible refine gT ?_);(refine aS H ?_;clear H;intro w H;try simp only[nr]at H))|((with_reducible refine gL ?_);refine aL H ?_)|((with_reducible refine gA ?_);(refine bA H ?_;clear H;intro b w H;try simp only[nr]at H))|((with_reducible refine gI ?_);refine aI ?_)|((with_reducible refine gC ?_);refine aC ?_))|((with_reducible first|refine ch (hat _) H ?_|refine ch (hfi _) H ?_|refine ch (hnm _) H ?_);clear H;intro w H))
      all_goals (refine xctS Tryz.results163 H ?_)
      all_goals exact⟨ItemR.no (by rw[EI.out]),H.below⟩
     | some s =>
      rw[hN]at hnm en;simp only[setO,Option.getD_some,Option.isSome_some]at hnm en;have ei:=zDS en;have EI:=Lib.hid ei;clear ei en hN
      go_enter Tryz.func163,Tryz.ntmps163
      go_wp2_with (first|(first|((with_reducible refine gT ?_);(refine aS H ?_;clear H;intro w H;try simp only[nr]at H))|((with_reducible refine gL ?_);refine aL H ?_)|((with_reducible refine gA ?_);(refine bA H ?_;clear H;intro b w H;try simp only[nr]at H))|((with_reducible refine gI ?_);refine aI ?_)|((with_reducible refine gC ?_);refine aC ?_))|((with_reducible first|refine ch (hat _) H ?_|refine ch (hfi _) H ?_|refine ch (hnm _) H ?_);clear H;intro w H))
      all_goals (refine xctS Tryz.results163 H ?_)
      all_goals exact⟨ItemR.ok (by rw[EI.out]),H.below⟩
  | none =>
   have hfk:fnd L (i+2) [58,93]=none:=by unfold fnd;rw[hf];rfl
   rw[hfk]at hfi;simp only[optI]at hfi;have HN:zEZ L i=none:=by unfold zEZ;rw[if_pos ha,hf]
   clear ha hf hfk
   by_cases c92:byt L i=92
   ·have d92:((byt L i:Int) == 92)=true:=by rw[beq_iff_eq];omega
    by_cases cl:i+1<L.length
    ·have dl:decide ((i:Int)+1<(L.length:Int))=true:=by simp;omega
     have hso:=fun w=>zIU (byt L (i+1)) (zCI L (i+1)) w
     cases hs:zCg (byt L (i+1)) with
     | some s =>
      have ei:=zQe HN c92 cl hs;rw[hs]at hso;simp only[setO,Option.getD_some,Option.isSome_some]at hso;have EI:=Lib.hid ei;clear ei hs c92 HN
      go_enter Tryz.func163,Tryz.ntmps163
      go_wp2_with (first|(first|((with_reducible refine gT ?_);(refine aS H ?_;clear H;intro w H;try simp only[nr]at H))|((with_reducible refine gL ?_);refine aL H ?_)|((with_reducible refine gA ?_);(refine bA H ?_;clear H;intro b w H;try simp only[nr]at H))|((with_reducible refine gI ?_);refine aI ?_))|((with_reducible first|refine ch (hat _) H ?_|refine ch (hfi _) H ?_|refine ch (hso _) H ?_);clear H;intro w H))
      all_goals (refine xctS Tryz.results163 H ?_)
      all_goals exact⟨ItemR.ok (by rw[EI.out]),H.below⟩
     | none =>
      have ei:=zLB HN (fun _ _=>hs)
      rw[hs]at hso;simp only[setO,Option.getD_none,Option.isSome_none]at hso;exact zD9 L i hL hi w0 true true true _ hat (fun _=>hfi) d92 dl (fun _ _=>hso) (Lib.hid ei)
    ·exact zD9 L i hL hi w0 true true false zAC hat (fun _=>hfi) d92 (by simp;omega) (fun _ h=>by cases h) (Lib.hid (zLB HN (fun _ h=>absurd h cl)))
   ·exact zD9 L i hL hi w0 true false _ zAC hat (fun _=>hfi) (by rw[beq_eq_false_iff_ne];omega) rfl (fun h=>by cases h) (Lib.hid (zLB HN (fun h=>absurd h c92)))
 | false =>
  rw[ha]at hat;have HN:zEZ L i=none:=by unfold zEZ;rw[if_neg (by rw[ha];simp)]
  clear ha
  by_cases c92:byt L i=92
  ·have d92:((byt L i:Int) == 92)=true:=by rw[beq_iff_eq];omega
   by_cases cl:i+1<L.length
   ·have dl:decide ((i:Int)+1<(L.length:Int))=true:=by simp;omega
    have hso:=fun w=>zIU (byt L (i+1)) (zCI L (i+1)) w
    cases hs:zCg (byt L (i+1)) with
    | some s =>
     have ei:=zQe HN c92 cl hs;rw[hs]at hso;simp only[setO,Option.getD_some,Option.isSome_some]at hso;have EI:=Lib.hid ei;clear ei hs c92 HN
     go_enter Tryz.func163,Tryz.ntmps163
     go_wp2_with (first|(first|((with_reducible refine gT ?_);(refine aS H ?_;clear H;intro w H;try simp only[nr]at H))|((with_reducible refine gL ?_);refine aL H ?_)|((with_reducible refine gA ?_);(refine bA H ?_;clear H;intro b w H;try simp only[nr]at H))|((with_reducible refine gI ?_);refine aI ?_))|((with_reducible first|refine ch (hat _) H ?_|refine ch (hso _) H ?_);clear H;intro w H))
     all_goals (refine xctS Tryz.results163 H ?_)
     all_goals exact⟨ItemR.ok (by rw[EI.out]),H.below⟩
    | none =>
     have ei:=zLB HN (fun _ _=>hs)
     rw[hs]at hso;simp only[setO,Option.getD_none,Option.isSome_none]at hso;exact zD9 L i hL hi w0 false true true _ hat (fun h=>by cases h) d92 dl (fun _ _=>hso) (Lib.hid ei)
   ·exact zD9 L i hL hi w0 false true false zAC hat (fun h=>by cases h) d92 (by simp;omega) (fun _ h=>by cases h) (Lib.hid (zLB HN (fun _ h=>absurd h cl)))
  ·exact zD9 L i hL hi w0 false false _ zAC hat (fun h=>by cases h) (by rw[beq_eq_false_iff_ne];omega) rfl (fun h=>by cases h) (Lib.hid (zLB HN (fun h=>absurd h c92)))
theorem zFh {L:Str} {i:Nat} (h:L.length≤i):zDj L i=none:=by
 unfold zDj;have h1:zEZ L i=none:=by unfold zEZ;rw[if_neg (by rw[zMb (by simp;omega) (by simp)];simp)]
 rw[h1];simp only[];rw[if_neg (by omega)]
 simp only[];unfold zDC zCv;rw[if_neg (by omega)]
theorem zMh (L:Str) (i:Nat) (hL:L.length≤2000) (hi:i<L.length) (w0:World):Calls Tryz.prog 131 #[.string ⟨L.toArray⟩,.int .i64 i] w0 fun e w'=>WordR (zBO L i) e∧Below w0.heap.size w0 w':=by
 have H:=Hold.start w0;have ha1:=fun w=>zDo L [94] (i+1) hL (by simp) (by simp) (by omega) w
 simp only[Int.natCast_add,Int.cast_ofNat_Int]at ha1
 cases h1:atP L (i+1) [94] with
 | true =>
  have hl:=zC6 h1 (by simp)
  simp only[List.length_cons,List.length_nil,Nat.zero_add]at hl;rw[h1]at ha1;have E:=Lib.hid (show zBO L i=(zAv L (L.length+1) (i+2) true zAC).map (fun (S,e)=>({kind:=1,place:=i,set:=S,neg:=true},e)) by unfold zBO;simp only[h1];rfl)
  clear h1
  go_enter Tryz.func131,Tryz.ntmps131
  go_wp2_with (first|((first|((with_reducible refine kgA 4 ?_);refine kA 4 H ?_)|((with_reducible refine kgX 4 ?_);(first|refine kS 4 H ?_|refine kB 4 H ?_)));clear H;intro b4 w H;try simp only[nr]at H)|((first|((with_reducible refine kgA 6 ?_);refine kA 6 H ?_)|((with_reducible refine kgX 6 ?_);(first|refine kS 6 H ?_|refine kB 6 H ?_)));clear H;intro b6 w H;try simp only[nr]at H)|((with_reducible refine gT ?_);((first|refine aO H ?_|refine aT H ?_);clear H;intro w H;try simp only[nr]at H))|((with_reducible refine ch (ha1 _) H ?_);clear H;intro w H))
  go_loopw [7,8] (fun k fi wr=>∃ (j f:Nat) (b:Bool) (S:Nat→Nat),k=.int .i64 j∧fi=.bool b∧j≤L.length∧Hid (zAv L (L.length+1) (i+2) true zAC=zAv L f j b S∧L.length<f+j∧zAf S)∧Hold w0 wr [.blk b4 (zAY {kind:=0,place:=0}) 161,.blk b6 (zAY {kind:=1,place:=i,set:=S,neg:=true}) 161]) (fun k _ _=>L.length+2 - (intOf k).toNat)
  case atStart=>exact⟨(i+2),L.length+1,true,zAC,by first|(simp;done)|(simp;omega),rfl,by omega,Lib.hid ⟨rfl,by omega,zBM⟩,H⟩
  case round =>
   clear H;obtain⟨j,f,b,S,rfl,rfl,hj,G,H⟩:=hrel;obtain⟨f,rfl⟩:∃ f',f=f'+1:=⟨f - 1,by have:=G.out.2.1;omega⟩
   have eg:zAv L (f+1) j b S=zAv L (f+1) j b S:=rfl
   conv at eg=>rhs;unfold zAv
   cases b with
   | true =>
    rw[if_neg (by rintro⟨h,_⟩;cases h)]at eg
    by_cases hjl:j<L.length
    ·have dj:decide ((L.length:Int)≤(j:Int))=false:=by simp;omega
     cases hi2:zDj L j with
     | none =>
      have hit:=fun w=>zDq L j hL hjl w
      rw[hi2]at hit eg;have E3:=Lib.hid (show zBO L i=none by rw[E.out,G.out.1,eg];rfl);clear eg hi2
      simp only[ItemR]at hit
      go_wp2_with (first|(first|((with_reducible refine gT ?_);((first|refine aS H ?_|refine aT H ?_);clear H;intro w H;try simp only[nr]at H))|((with_reducible refine gL ?_);refine aD H ?_)|((with_reducible refine gA ?_);(refine bA H ?_;clear H;intro b w H;try simp only[nr]at H)))|(go_at_call 163;(with_reducible refine(hit _).mono ?_);rintro e w ⟨⟨S2,rfl⟩,hb⟩;replace H:=H.call hb;clear hb))
      (refine xct Tryz.results131 H ?_)
      exact⟨WordR.no (w:={kind:=1,place:=i,set:=S,neg:=true}) E3.out,H.below⟩
     | some p =>
      obtain⟨t,e2⟩:=p;have hk:=zDp hi2;have hit:=fun w=>zDq L j hL hjl w
      rw[hi2]at hit eg;simp only[ItemR]at hit eg;have G2:=Lib.hid (show zAv L (L.length+1) (i+2) true zAC=zAv L f e2 false (zAs [S,t]) by rw[G.out.1,eg]);clear eg hi2
      have de:decide ((e2:Int)<0)=false:=by simp
      go_wp2_with (first|(first|((with_reducible refine gT ?_);((first|refine aS H ?_|refine aW H ?_);clear H;intro w H;try simp only[nr]at H))|((with_reducible refine gL ?_);(first|refine aV H ?_|refine aL H ?_))|((with_reducible refine gA ?_);(refine bA H ?_;clear H;intro b w H;try simp only[nr]at H)))|((with_reducible refine ch (hit _) H ?_);clear H;intro w H)|((with_reducible refine gBS ?_);refine zAU wtd_ _ _ _ rfl H (rowC [S,t]).toArray 27 (by intro W;simp only[ml];(try simp only[pe]);(with_reducible exact zCZ (S) (t) W)) ?_;clear H;intro b w H;try simp only[nr]at H)|((with_reducible refine ch (zCt _ [S,t] (ok2 G.out.2.2 hk.2.2) _ (H.rdsn (L:=[S,t]) atd_ (by simp) (by simp[maxLen]))) H ?_);clear H;intro w H))
      go_roundw
      case rel=>exact⟨e2,f,false,zAs [S,t],rfl,rfl,by omega,Lib.hid ⟨G2.out,by have:=G.out.2.1;omega,zBX (ok2 G.out.2.2 hk.2.2)⟩,H.take 2⟩
      case measure=>simp[intOf];omega
    ·have dj:decide ((L.length:Int)≤(j:Int))=true:=by simp;omega
     rw[zFh (by omega)]at eg
     have E3:=Lib.hid (show zBO L i=none by rw[E.out,G.out.1,eg];rfl);clear eg
     go_wp2_with (first|(first|((with_reducible refine gT ?_);(refine aT H ?_;clear H;intro w H;try simp only[nr]at H))|((with_reducible refine gL ?_);refine aD H ?_)))
     (refine xct Tryz.results131 H ?_)
     exact⟨WordR.no (w:={kind:=1,place:=i,set:=S,neg:=true}) E3.out,H.below⟩
   | false =>
    have ha2:=fun w=>zDo L [93] j hL (by simp) (by simp) (by omega) w
    cases h2:atP L j [93] with
    | true =>
     rw[h2]at ha2;rw[if_pos ⟨rfl,h2⟩]at eg;have E3:=Lib.hid (show zBO L i=some ({kind:=1,place:=i,set:=S,neg:=true},j+1) by rw[E.out,G.out.1,eg];rfl);clear eg h2
     go_wp2_with (first|(first|((with_reducible refine gT ?_);(refine aT H ?_;clear H;intro w H;try simp only[nr]at H))|((with_reducible refine gL ?_);refine aD H ?_))|((with_reducible refine ch (ha2 _) H ?_);clear H;intro w H))
     (refine xct Tryz.results131 H ?_)
     exact⟨WordR.ok (w:={kind:=1,place:=i,set:=S,neg:=true}) E3.out,H.below⟩
    | false =>
     rw[h2]at ha2;rw[if_neg (by rintro⟨_,h⟩;rw[h2]at h;cases h)]at eg
     clear h2
     by_cases hjl:j<L.length
     ·have dj:decide ((L.length:Int)≤(j:Int))=false:=by simp;omega
      cases hi2:zDj L j with
      | none =>
       have hit:=fun w=>zDq L j hL hjl w
       rw[hi2]at hit eg;have E3:=Lib.hid (show zBO L i=none by rw[E.out,G.out.1,eg];rfl);clear eg hi2
       simp only[ItemR]at hit
       go_wp2_with (first|(first|((with_reducible refine gT ?_);((first|refine aS H ?_|refine aT H ?_);clear H;intro w H;try simp only[nr]at H))|((with_reducible refine gL ?_);refine aD H ?_)|((with_reducible refine gA ?_);(refine bA H ?_;clear H;intro b w H;try simp only[nr]at H)))|((with_reducible refine ch (ha2 _) H ?_);clear H;intro w H)|(go_at_call 163;(with_reducible refine(hit _).mono ?_);rintro e w ⟨⟨S2,rfl⟩,hb⟩;replace H:=H.call hb;clear hb))
       (refine xct Tryz.results131 H ?_)
       exact⟨WordR.no (w:={kind:=1,place:=i,set:=S,neg:=true}) E3.out,H.below⟩
      | some p =>
       obtain⟨t,e2⟩:=p;have hk:=zDp hi2;have hit:=fun w=>zDq L j hL hjl w
       rw[hi2]at hit eg;simp only[ItemR]at hit eg;have G2:=Lib.hid (show zAv L (L.length+1) (i+2) true zAC=zAv L f e2 false (zAs [S,t]) by rw[G.out.1,eg]);clear eg hi2
       have de:decide ((e2:Int)<0)=false:=by simp
       go_wp2_with (first|(first|((with_reducible refine gT ?_);((first|refine aS H ?_|refine aW H ?_);clear H;intro w H;try simp only[nr]at H))|((with_reducible refine gL ?_);(first|refine aV H ?_|refine aL H ?_))|((with_reducible refine gA ?_);(refine bA H ?_;clear H;intro b w H;try simp only[nr]at H)))|((with_reducible first|refine ch (ha2 _) H ?_|refine ch (hit _) H ?_);clear H;intro w H)|((with_reducible refine gBS ?_);refine zAU wtd_ _ _ _ rfl H (rowC [S,t]).toArray 27 (by intro W;simp only[ml];(try simp only[pe]);(with_reducible exact zCZ (S) (t) W)) ?_;clear H;intro b w H;try simp only[nr]at H)|((with_reducible refine ch (zCt _ [S,t] (ok2 G.out.2.2 hk.2.2) _ (H.rdsn (L:=[S,t]) atd_ (by simp) (by simp[maxLen]))) H ?_);clear H;intro w H))
       go_roundw
       case rel=>exact⟨e2,f,false,zAs [S,t],rfl,rfl,by omega,Lib.hid ⟨G2.out,by have:=G.out.2.1;omega,zBX (ok2 G.out.2.2 hk.2.2)⟩,H.take 2⟩
       case measure=>simp[intOf];omega
     ·have dj:decide ((L.length:Int)≤(j:Int))=true:=by simp;omega
      rw[zFh (by omega)]at eg
      have E3:=Lib.hid (show zBO L i=none by rw[E.out,G.out.1,eg];rfl);clear eg
      go_wp2_with (first|(first|((with_reducible refine gT ?_);(refine aT H ?_;clear H;intro w H;try simp only[nr]at H))|((with_reducible refine gL ?_);refine aD H ?_))|((with_reducible refine ch (ha2 _) H ?_);clear H;intro w H))
      (refine xct Tryz.results131 H ?_)
      exact⟨WordR.no (w:={kind:=1,place:=i,set:=S,neg:=true}) E3.out,H.below⟩
 | false =>
  rw[h1]at ha1;have E:=Lib.hid (show zBO L i=(zAv L (L.length+1) (i+1) true zAC).map (fun (S,e)=>({kind:=1,place:=i,set:=S,neg:=false},e)) by unfold zBO;simp only[h1];rfl)
  clear h1
  go_enter Tryz.func131,Tryz.ntmps131
  go_wp2_with (first|((first|((with_reducible refine kgA 4 ?_);refine kA 4 H ?_)|((with_reducible refine kgX 4 ?_);(first|refine kS 4 H ?_|refine kB 4 H ?_)));clear H;intro b4 w H;try simp only[nr]at H)|((first|((with_reducible refine kgA 6 ?_);refine kA 6 H ?_)|((with_reducible refine kgX 6 ?_);(first|refine kS 6 H ?_|refine kB 6 H ?_)));clear H;intro b6 w H;try simp only[nr]at H)|((with_reducible refine gT ?_);(refine aT H ?_;clear H;intro w H;try simp only[nr]at H))|((with_reducible refine ch (ha1 _) H ?_);clear H;intro w H))
  go_loopw [7,8] (fun k fi wr=>∃ (j f:Nat) (b:Bool) (S:Nat→Nat),k=.int .i64 j∧fi=.bool b∧j≤L.length∧Hid (zAv L (L.length+1) (i+1) true zAC=zAv L f j b S∧L.length<f+j∧zAf S)∧Hold w0 wr [.blk b4 (zAY {kind:=0,place:=0}) 161,.blk b6 (zAY {kind:=1,place:=i,set:=S,neg:=false}) 161]) (fun k _ _=>L.length+2 - (intOf k).toNat)
  case atStart=>exact⟨(i+1),L.length+1,true,zAC,by first|(simp;done)|(simp;omega),rfl,by omega,Lib.hid ⟨rfl,by omega,zBM⟩,H⟩
  case round =>
   clear H;obtain⟨j,f,b,S,rfl,rfl,hj,G,H⟩:=hrel;obtain⟨f,rfl⟩:∃ f',f=f'+1:=⟨f - 1,by have:=G.out.2.1;omega⟩
   have eg:zAv L (f+1) j b S=zAv L (f+1) j b S:=rfl
   conv at eg=>rhs;unfold zAv
   cases b with
   | true =>
    rw[if_neg (by rintro⟨h,_⟩;cases h)]at eg
    by_cases hjl:j<L.length
    ·have dj:decide ((L.length:Int)≤(j:Int))=false:=by simp;omega
     cases hi2:zDj L j with
     | none =>
      have hit:=fun w=>zDq L j hL hjl w
      rw[hi2]at hit eg;have E3:=Lib.hid (show zBO L i=none by rw[E.out,G.out.1,eg];rfl);clear eg hi2
      simp only[ItemR]at hit
      go_wp2_with (first|(first|((with_reducible refine gT ?_);((first|refine aS H ?_|refine aT H ?_);clear H;intro w H;try simp only[nr]at H))|((with_reducible refine gL ?_);refine aD H ?_)|((with_reducible refine gA ?_);(refine bA H ?_;clear H;intro b w H;try simp only[nr]at H)))|(go_at_call 163;(with_reducible refine(hit _).mono ?_);rintro e w ⟨⟨S2,rfl⟩,hb⟩;replace H:=H.call hb;clear hb))
      (refine xct Tryz.results131 H ?_)
      exact⟨WordR.no (w:={kind:=1,place:=i,set:=S,neg:=false}) E3.out,H.below⟩
     | some p =>
      obtain⟨t,e2⟩:=p;have hk:=zDp hi2;have hit:=fun w=>zDq L j hL hjl w
      rw[hi2]at hit eg;simp only[ItemR]at hit eg;have G2:=Lib.hid (show zAv L (L.length+1) (i+1) true zAC=zAv L f e2 false (zAs [S,t]) by rw[G.out.1,eg]);clear eg hi2
      have de:decide ((e2:Int)<0)=false:=by simp
      go_wp2_with (first|(first|((with_reducible refine gT ?_);((first|refine aS H ?_|refine aW H ?_);clear H;intro w H;try simp only[nr]at H))|((with_reducible refine gL ?_);(first|refine aV H ?_|refine aL H ?_))|((with_reducible refine gA ?_);(refine bA H ?_;clear H;intro b w H;try simp only[nr]at H)))|((with_reducible refine ch (hit _) H ?_);clear H;intro w H)|((with_reducible refine gBS ?_);refine zAU wtd_ _ _ _ rfl H (rowC [S,t]).toArray 27 (by intro W;simp only[ml];(try simp only[pe]);(with_reducible exact zCZ (S) (t) W)) ?_;clear H;intro b w H;try simp only[nr]at H)|((with_reducible refine ch (zCt _ [S,t] (ok2 G.out.2.2 hk.2.2) _ (H.rdsn (L:=[S,t]) atd_ (by simp) (by simp[maxLen]))) H ?_);clear H;intro w H))
      go_roundw
      case rel=>exact⟨e2,f,false,zAs [S,t],rfl,rfl,by omega,Lib.hid ⟨G2.out,by have:=G.out.2.1;omega,zBX (ok2 G.out.2.2 hk.2.2)⟩,H.take 2⟩
      case measure=>simp[intOf];omega
    ·have dj:decide ((L.length:Int)≤(j:Int))=true:=by simp;omega
     rw[zFh (by omega)]at eg
     have E3:=Lib.hid (show zBO L i=none by rw[E.out,G.out.1,eg];rfl);clear eg
     go_wp2_with (first|(first|((with_reducible refine gT ?_);(refine aT H ?_;clear H;intro w H;try simp only[nr]at H))|((with_reducible refine gL ?_);refine aD H ?_)))
     (refine xct Tryz.results131 H ?_)
     exact⟨WordR.no (w:={kind:=1,place:=i,set:=S,neg:=false}) E3.out,H.below⟩
   | false =>
    have ha2:=fun w=>zDo L [93] j hL (by simp) (by simp) (by omega) w
    cases h2:atP L j [93] with
    | true =>
     rw[h2]at ha2;rw[if_pos ⟨rfl,h2⟩]at eg;have E3:=Lib.hid (show zBO L i=some ({kind:=1,place:=i,set:=S,neg:=false},j+1) by rw[E.out,G.out.1,eg];rfl);clear eg h2
     go_wp2_with (first|(first|((with_reducible refine gT ?_);(refine aT H ?_;clear H;intro w H;try simp only[nr]at H))|((with_reducible refine gL ?_);refine aD H ?_))|((with_reducible refine ch (ha2 _) H ?_);clear H;intro w H))
     (refine xct Tryz.results131 H ?_)
     exact⟨WordR.ok (w:={kind:=1,place:=i,set:=S,neg:=false}) E3.out,H.below⟩
    | false =>
     rw[h2]at ha2;rw[if_neg (by rintro⟨_,h⟩;rw[h2]at h;cases h)]at eg
     clear h2
     by_cases hjl:j<L.length
     ·have dj:decide ((L.length:Int)≤(j:Int))=false:=by simp;omega
      cases hi2:zDj L j with
      | none =>
       have hit:=fun w=>zDq L j hL hjl w
       rw[hi2]at hit eg;have E3:=Lib.hid (show zBO L i=none by rw[E.out,G.out.1,eg];rfl);clear eg hi2
       simp only[ItemR]at hit
       go_wp2_with (first|(first|((with_reducible refine gT ?_);((first|refine aS H ?_|refine aT H ?_);clear H;intro w H;try simp only[nr]at H))|((with_reducible refine gL ?_);refine aD H ?_)|((with_reducible refine gA ?_);(refine bA H ?_;clear H;intro b w H;try simp only[nr]at H)))|((with_reducible refine ch (ha2 _) H ?_);clear H;intro w H)|(go_at_call 163;(with_reducible refine(hit _).mono ?_);rintro e w ⟨⟨S2,rfl⟩,hb⟩;replace H:=H.call hb;clear hb))
       (refine xct Tryz.results131 H ?_)
       exact⟨WordR.no (w:={kind:=1,place:=i,set:=S,neg:=false}) E3.out,H.below⟩
      | some p =>
       obtain⟨t,e2⟩:=p;have hk:=zDp hi2;have hit:=fun w=>zDq L j hL hjl w
       rw[hi2]at hit eg;simp only[ItemR]at hit eg;have G2:=Lib.hid (show zAv L (L.length+1) (i+1) true zAC=zAv L f e2 false (zAs [S,t]) by rw[G.out.1,eg]);clear eg hi2
       have de:decide ((e2:Int)<0)=false:=by simp
       go_wp2_with (first|(first|((with_reducible refine gT ?_);((first|refine aS H ?_|refine aW H ?_);clear H;intro w H;try simp only[nr]at H))|((with_reducible refine gL ?_);(first|refine aV H ?_|refine aL H ?_))|((with_reducible refine gA ?_);(refine bA H ?_;clear H;intro b w H;try simp only[nr]at H)))|((with_reducible first|refine ch (ha2 _) H ?_|refine ch (hit _) H ?_);clear H;intro w H)|((with_reducible refine gBS ?_);refine zAU wtd_ _ _ _ rfl H (rowC [S,t]).toArray 27 (by intro W;simp only[ml];(try simp only[pe]);(with_reducible exact zCZ (S) (t) W)) ?_;clear H;intro b w H;try simp only[nr]at H)|((with_reducible refine ch (zCt _ [S,t] (ok2 G.out.2.2 hk.2.2) _ (H.rdsn (L:=[S,t]) atd_ (by simp) (by simp[maxLen]))) H ?_);clear H;intro w H))
       go_roundw
       case rel=>exact⟨e2,f,false,zAs [S,t],rfl,rfl,by omega,Lib.hid ⟨G2.out,by have:=G.out.2.1;omega,zBX (ok2 G.out.2.2 hk.2.2)⟩,H.take 2⟩
       case measure=>simp[intOf];omega
     ·have dj:decide ((L.length:Int)≤(j:Int))=true:=by simp;omega
      rw[zFh (by omega)]at eg
      have E3:=Lib.hid (show zBO L i=none by rw[E.out,G.out.1,eg];rfl);clear eg
      go_wp2_with (first|(first|((with_reducible refine gT ?_);(refine aT H ?_;clear H;intro w H;try simp only[nr]at H))|((with_reducible refine gL ?_);refine aD H ?_))|((with_reducible refine ch (ha2 _) H ?_);clear H;intro w H))
      (refine xct Tryz.results131 H ?_)
      exact⟨WordR.no (w:={kind:=1,place:=i,set:=S,neg:=false}) E3.out,H.below⟩
theorem zMo {L:Str} {f j:Nat} {op:Bool} {d:WordD} (h1:j<L.length) (h2:byt L j=105):zAT L (f+1) j false op d=zAT L f (j+1) false true {d with on:=(true,d.on.2.1,d.on.2.2)}:=by
 rw[zAT,if_pos h1];simp[h2]
theorem zL5 {L:Str} {f j:Nat} {op:Bool} {d:WordD} (h1:j<L.length) (h2:byt L j=105):zAT L (f+1) j true op d=zAT L f (j+1) true true {d with off:=(true,d.off.2.1,d.off.2.2)}:=by
 rw[zAT,if_pos h1];simp[h2]
theorem zM7 {L:Str} {f j:Nat} {op:Bool} {d:WordD} (h1:j<L.length) (h2:byt L j=109):zAT L (f+1) j false op d=zAT L f (j+1) false true {d with on:=(d.on.1,true,d.on.2.2)}:=by
 rw[zAT,if_pos h1];simp[h2]
theorem zNC {L:Str} {f j:Nat} {op:Bool} {d:WordD} (h1:j<L.length) (h2:byt L j=109):zAT L (f+1) j true op d=zAT L f (j+1) true true {d with off:=(d.off.1,true,d.off.2.2)}:=by
 rw[zAT,if_pos h1];simp[h2]
theorem zNc {L:Str} {f j:Nat} {op:Bool} {d:WordD} (h1:j<L.length) (h2:byt L j=115):zAT L (f+1) j false op d=zAT L f (j+1) false true {d with on:=(d.on.1,d.on.2.1,true)}:=by
 rw[zAT,if_pos h1];simp[h2]
theorem zNP {L:Str} {f j:Nat} {op:Bool} {d:WordD} (h1:j<L.length) (h2:byt L j=115):zAT L (f+1) j true op d=zAT L f (j+1) true true {d with off:=(d.off.1,d.off.2.1,true)}:=by
 rw[zAT,if_pos h1];simp[h2]
theorem zPM {L:Str} {f j:Nat} {op:Bool} {d:WordD} (h1:j<L.length) (h2:byt L j=45):zAT L (f+1) j false op d=zAT L f (j+1) true false d:=by
 rw[zAT,if_pos h1];simp[h2]
theorem zPG {L:Str} {f j:Nat} {op:Bool} {d:WordD} (h1:j<L.length) (h2:byt L j=45):zAT L (f+1) j true op d=none:=by
 rw[zAT,if_pos h1];simp[h2]
theorem zKB {L:Str} {f j:Nat} {off:Bool} {d:WordD} (h1:j<L.length) (h2:byt L j=58):zAT L (f+1) j off true d=some ({d with kind:=7},j+1):=by
 rw[zAT,if_pos h1];simp[h2]
theorem zNF {L:Str} {f j:Nat} {off:Bool} {d:WordD} (h1:j<L.length) (h2:byt L j=58):zAT L (f+1) j off false d=none:=by
 rw[zAT,if_pos h1];simp[h2]
theorem zKg {L:Str} {f j:Nat} {off:Bool} {d:WordD} (h1:j<L.length) (h2:byt L j=41):zAT L (f+1) j off true d=some ({d with kind:=8},j+1):=by
 rw[zAT,if_pos h1];simp[h2]
theorem zMV {L:Str} {f j:Nat} {off:Bool} {d:WordD} (h1:j<L.length) (h2:byt L j=41):zAT L (f+1) j off false d=none:=by
 rw[zAT,if_pos h1];simp[h2]
theorem zOy {L:Str} {f j:Nat} {off op:Bool} {d:WordD} (h1:j<L.length) (h2:byt L j≠105) (h3:byt L j≠109) (h4:byt L j≠115) (h5:byt L j≠45) (h6:byt L j≠58) (h7:byt L j≠41):zAT L (f+1) j off op d=none:=by
 rw[zAT,if_pos h1];simp[h2,h3,h4,h5,h6,h7]
theorem zPD {L:Str} {f j:Nat} {off op:Bool} {d:WordD} (h1:¬ j<L.length):zAT L (f+1) j off op d=none:=by
 rw[zAT,if_neg h1]
theorem zLi (L:Str) (i:Nat) (hL:L.length≤2000) (hi:i+2≤L.length) (w0:World):Calls Tryz.prog 133 #[.string ⟨L.toArray⟩,.int .i64 i] w0 fun e w'=>WordR (zAy L i) e∧Below w0.heap.size w0 w':=by
 have H:=Hold.start w0
 go_enter Tryz.func133,Tryz.ntmps133
 go_wp2_with (first|((first|((with_reducible refine kgA 4 ?_);refine kA 4 H ?_)|((with_reducible refine kgX 4 ?_);(first|refine kS 4 H ?_|refine kB 4 H ?_)));clear H;intro b4 w H;try simp only[nr]at H)|((first|((with_reducible refine kgA 6 ?_);refine kA 6 H ?_)|((with_reducible refine kgX 6 ?_);(first|refine kS 6 H ?_|refine kB 6 H ?_)));clear H;intro b6 w H;try simp only[nr]at H)|((with_reducible refine gT ?_);(refine aT H ?_;clear H;intro w H;try simp only[nr]at H)))
 go_loopw [7,8,9] (fun o sm k wr=>∃ (j f:Nat) (bo bs:Bool) (d:WordD),o=.bool bo∧sm=.bool bs∧k=.int .i64 j∧j≤L.length∧Hid (zAy L i=zAT L f j bo (!bo || bs) d∧L.length<f+j)∧Hold w0 wr [.blk b4 (zAY {kind:=0,place:=0}) 161,.blk b6 (zAY d) 161]) (fun _ _ k _=>L.length+2 - (intOf k).toNat)
 case atStart=>exact⟨i+2,L.length+1,false,false,{kind:=0,place:=i},rfl,rfl,by first|rfl|(simp;done),hi,Lib.hid ⟨rfl,by omega⟩,H⟩
 case round =>
  clear H;obtain⟨j,f,bo,bs,d,rfl,rfl,rfl,hj,G,H⟩:=hrel;obtain⟨f,rfl⟩:∃ f',f=f'+1:=⟨f - 1,by have:=G.out.2;omega⟩
  by_cases hlt:j<L.length
  ·have dj:decide ((j:Int)<(L.length:Int))=true:=by simp;omega
   cases bo with
   | false =>
    simp only[Bool.not_false,Bool.true_or]at G
    by_cases hc:byt L j=105
    ·have G2:=Lib.hid (show zAy L i=zAT L f (j+1) false true {d with on:=(true,d.on.2.1,d.on.2.2)} by rw[G.out.1,zMo hlt hc]); 
     have HC:=Lib.hid hc
     go_wp2_with (first|(first|((with_reducible refine gT ?_);(refine aO H ?_;clear H;intro w H;try simp only[nr]at H))|((with_reducible refine gI ?_);refine aI ?_)))
     clear hc;go_roundw
     case rel=>exact⟨j+1,f,false,true,{d with on:=(true,d.on.2.1,d.on.2.2)},by first|rfl|(simp;done),by first|rfl|(simp;done),by first|rfl|(simp;done),by omega,Lib.hid ⟨G2.out,by have:=G.out.2;omega⟩,H⟩
     case measure=>simp[intOf];omega
    ·have n105:((byt L j:Int) == 105)=false:=by rw[beq_eq_false_iff_ne];omega
     have m105:=Lib.hid hc;clear hc
     by_cases hc:byt L j=109
     ·have G2:=Lib.hid (show zAy L i=zAT L f (j+1) false true {d with on:=(d.on.1,true,d.on.2.2)} by rw[G.out.1,zM7 hlt hc]); 
      have HC:=Lib.hid hc
      go_wp2_with (first|(first|((with_reducible refine gT ?_);(refine aO H ?_;clear H;intro w H;try simp only[nr]at H))|((with_reducible refine gI ?_);refine aI ?_)))
      clear hc;go_roundw
      case rel=>exact⟨j+1,f,false,true,{d with on:=(d.on.1,true,d.on.2.2)},by first|rfl|(simp;done),by first|rfl|(simp;done),by first|rfl|(simp;done),by omega,Lib.hid ⟨G2.out,by have:=G.out.2;omega⟩,H⟩
      case measure=>simp[intOf];omega
     ·have n109:((byt L j:Int) == 109)=false:=by rw[beq_eq_false_iff_ne];omega
      have m109:=Lib.hid hc;clear hc
      by_cases hc:byt L j=115
      ·have G2:=Lib.hid (show zAy L i=zAT L f (j+1) false true {d with on:=(d.on.1,d.on.2.1,true)} by rw[G.out.1,zNc hlt hc]); 
       have HC:=Lib.hid hc
       go_wp2_with (first|(first|((with_reducible refine gT ?_);(refine aO H ?_;clear H;intro w H;try simp only[nr]at H))|((with_reducible refine gI ?_);refine aI ?_)))
       clear hc;go_roundw
       case rel=>exact⟨j+1,f,false,true,{d with on:=(d.on.1,d.on.2.1,true)},by first|rfl|(simp;done),by first|rfl|(simp;done),by first|rfl|(simp;done),by omega,Lib.hid ⟨G2.out,by have:=G.out.2;omega⟩,H⟩
       case measure=>simp[intOf];omega
      ·have n115:((byt L j:Int) == 115)=false:=by rw[beq_eq_false_iff_ne];omega
       have m115:=Lib.hid hc;clear hc
       by_cases hc:byt L j=45
       ·have G2:=Lib.hid (show zAy L i=zAT L f (j+1) true false d by rw[G.out.1,zPM hlt hc]); 
        have HC:=Lib.hid hc
        go_wp2_with (first|((with_reducible refine gI ?_);refine aI ?_))
        clear hc;go_roundw
        case rel=>exact⟨j+1,f,true,false,d,by first|rfl|(simp;done),by first|rfl|(simp;done),by first|rfl|(simp;done),by omega,Lib.hid ⟨G2.out,by have:=G.out.2;omega⟩,H⟩
        case measure=>simp[intOf];omega
       ·have n45:((byt L j:Int) == 45)=false:=by rw[beq_eq_false_iff_ne];omega
        have m45:=Lib.hid hc;clear hc
        by_cases hc:byt L j=58
        ·have E3:=Lib.hid (show zAy L i=some ({d with kind:=7},j+1) by rw[G.out.1];exact zKB hlt hc)
         go_wp2_with (first|(first|((with_reducible refine gT ?_);((first|refine aO H ?_|refine aT H ?_);clear H;intro w H;try simp only[nr]at H))|((with_reducible refine gL ?_);refine aD H ?_)|((with_reducible refine gI ?_);refine aI ?_)))
         (refine xct Tryz.results133 H ?_)
         exact⟨WordR.ok (w:={d with kind:=7}) E3.out,H.below⟩
        ·have n58:((byt L j:Int) == 58)=false:=by rw[beq_eq_false_iff_ne];omega
         have m58:=Lib.hid hc;clear hc
         by_cases hc:byt L j=41
         ·have E3:=Lib.hid (show zAy L i=some ({d with kind:=8},j+1) by rw[G.out.1];exact zKg hlt hc)
          go_wp2_with (first|(first|((with_reducible refine gT ?_);((first|refine aO H ?_|refine aT H ?_);clear H;intro w H;try simp only[nr]at H))|((with_reducible refine gL ?_);refine aD H ?_)|((with_reducible refine gI ?_);refine aI ?_)))
          (refine xct Tryz.results133 H ?_)
          exact⟨WordR.ok (w:={d with kind:=8}) E3.out,H.below⟩
         ·have n41:((byt L j:Int) == 41)=false:=by rw[beq_eq_false_iff_ne];omega
          have m41:=Lib.hid hc;clear hc;have E3:=Lib.hid (show zAy L i=none by rw[G.out.1];exact zOy hlt m105.out m109.out m115.out m45.out m58.out m41.out)
          go_wp2_with (first|(first|((with_reducible refine gT ?_);(refine aT H ?_;clear H;intro w H;try simp only[nr]at H))|((with_reducible refine gL ?_);refine aD H ?_)|((with_reducible refine gI ?_);refine aI ?_)))
          (refine xct Tryz.results133 H ?_)
          exact⟨WordR.no (w:=d) E3.out,H.below⟩
   | true =>
    simp only[Bool.not_true,Bool.false_or]at G
    by_cases hc:byt L j=105
    ·have G2:=Lib.hid (show zAy L i=zAT L f (j+1) true true {d with off:=(true,d.off.2.1,d.off.2.2)} by rw[G.out.1,zL5 hlt hc]); 
     have HC:=Lib.hid hc
     go_wp2_with (first|(first|((with_reducible refine gT ?_);(refine aO H ?_;clear H;intro w H;try simp only[nr]at H))|((with_reducible refine gI ?_);refine aI ?_)))
     clear hc;go_roundw
     case rel=>exact⟨j+1,f,true,true,{d with off:=(true,d.off.2.1,d.off.2.2)},by first|rfl|(simp;done),by first|rfl|(simp;done),by first|rfl|(simp;done),by omega,Lib.hid ⟨G2.out,by have:=G.out.2;omega⟩,H⟩
     case measure=>simp[intOf];omega
    ·have n105:((byt L j:Int) == 105)=false:=by rw[beq_eq_false_iff_ne];omega
     have m105:=Lib.hid hc;clear hc
     by_cases hc:byt L j=109
     ·have G2:=Lib.hid (show zAy L i=zAT L f (j+1) true true {d with off:=(d.off.1,true,d.off.2.2)} by rw[G.out.1,zNC hlt hc]); 
      have HC:=Lib.hid hc
      go_wp2_with (first|(first|((with_reducible refine gT ?_);(refine aO H ?_;clear H;intro w H;try simp only[nr]at H))|((with_reducible refine gI ?_);refine aI ?_)))
      clear hc;go_roundw
      case rel=>exact⟨j+1,f,true,true,{d with off:=(d.off.1,true,d.off.2.2)},by first|rfl|(simp;done),by first|rfl|(simp;done),by first|rfl|(simp;done),by omega,Lib.hid ⟨G2.out,by have:=G.out.2;omega⟩,H⟩
      case measure=>simp[intOf];omega
     ·have n109:((byt L j:Int) == 109)=false:=by rw[beq_eq_false_iff_ne];omega
      have m109:=Lib.hid hc;clear hc
      by_cases hc:byt L j=115
      ·have G2:=Lib.hid (show zAy L i=zAT L f (j+1) true true {d with off:=(d.off.1,d.off.2.1,true)} by rw[G.out.1,zNP hlt hc]); 
       have HC:=Lib.hid hc
       go_wp2_with (first|(first|((with_reducible refine gT ?_);(refine aO H ?_;clear H;intro w H;try simp only[nr]at H))|((with_reducible refine gI ?_);refine aI ?_)))
       clear hc;go_roundw
       case rel=>exact⟨j+1,f,true,true,{d with off:=(d.off.1,d.off.2.1,true)},by first|rfl|(simp;done),by first|rfl|(simp;done),by first|rfl|(simp;done),by omega,Lib.hid ⟨G2.out,by have:=G.out.2;omega⟩,H⟩
       case measure=>simp[intOf];omega
      ·have n115:((byt L j:Int) == 115)=false:=by rw[beq_eq_false_iff_ne];omega
       have m115:=Lib.hid hc;clear hc
       by_cases hc:byt L j=45
       ·have E3:=Lib.hid (show zAy L i=none by rw[G.out.1];exact zPG hlt hc)
        go_wp2_with (first|(first|((with_reducible refine gT ?_);(refine aT H ?_;clear H;intro w H;try simp only[nr]at H))|((with_reducible refine gL ?_);refine aD H ?_)|((with_reducible refine gI ?_);refine aI ?_)))
        (refine xct Tryz.results133 H ?_)
        exact⟨WordR.no (w:=d) E3.out,H.below⟩
       ·have n45:((byt L j:Int) == 45)=false:=by rw[beq_eq_false_iff_ne];omega
        have m45:=Lib.hid hc;clear hc
        by_cases hc:byt L j=58
        ·cases bs with
         | true =>
          have E3:=Lib.hid (show zAy L i=some ({d with kind:=7},j+1) by rw[G.out.1];exact zKB hlt hc)
          go_wp2_with (first|(first|((with_reducible refine gT ?_);((first|refine aO H ?_|refine aT H ?_);clear H;intro w H;try simp only[nr]at H))|((with_reducible refine gL ?_);refine aD H ?_)|((with_reducible refine gI ?_);refine aI ?_)))
          (refine xct Tryz.results133 H ?_)
          exact⟨WordR.ok (w:={d with kind:=7}) E3.out,H.below⟩
         | false =>
          have E3:=Lib.hid (show zAy L i=none by rw[G.out.1];exact zNF hlt hc)
          go_wp2_with (first|(first|((with_reducible refine gT ?_);(refine aT H ?_;clear H;intro w H;try simp only[nr]at H))|((with_reducible refine gL ?_);refine aD H ?_)|((with_reducible refine gI ?_);refine aI ?_)))
          (refine xct Tryz.results133 H ?_)
          exact⟨WordR.no (w:=d) E3.out,H.below⟩
        ·have n58:((byt L j:Int) == 58)=false:=by rw[beq_eq_false_iff_ne];omega
         have m58:=Lib.hid hc;clear hc
         by_cases hc:byt L j=41
         ·cases bs with
          | true =>
           have E3:=Lib.hid (show zAy L i=some ({d with kind:=8},j+1) by rw[G.out.1];exact zKg hlt hc)
           go_wp2_with (first|(first|((with_reducible refine gT ?_);((first|refine aO H ?_|refine aT H ?_);clear H;intro w H;try simp only[nr]at H))|((with_reducible refine gL ?_);refine aD H ?_)|((with_reducible refine gI ?_);refine aI ?_)))
           (refine xct Tryz.results133 H ?_)
           exact⟨WordR.ok (w:={d with kind:=8}) E3.out,H.below⟩
          | false =>
           have E3:=Lib.hid (show zAy L i=none by rw[G.out.1];exact zMV hlt hc)
           go_wp2_with (first|(first|((with_reducible refine gT ?_);(refine aT H ?_;clear H;intro w H;try simp only[nr]at H))|((with_reducible refine gL ?_);refine aD H ?_)|((with_reducible refine gI ?_);refine aI ?_)))
           (refine xct Tryz.results133 H ?_)
           exact⟨WordR.no (w:=d) E3.out,H.below⟩
         ·have n41:((byt L j:Int) == 41)=false:=by rw[beq_eq_false_iff_ne];omega
          have m41:=Lib.hid hc;clear hc;have E3:=Lib.hid (show zAy L i=none by rw[G.out.1];exact zOy hlt m105.out m109.out m115.out m45.out m58.out m41.out)
          go_wp2_with (first|(first|((with_reducible refine gT ?_);(refine aT H ?_;clear H;intro w H;try simp only[nr]at H))|((with_reducible refine gL ?_);refine aD H ?_)|((with_reducible refine gI ?_);refine aI ?_)))
          (refine xct Tryz.results133 H ?_)
          exact⟨WordR.no (w:=d) E3.out,H.below⟩
  ·have dj:decide ((j:Int)<(L.length:Int))=false:=by simp;omega
   have E3:=Lib.hid (show zAy L i=none by rw[G.out.1];exact zPD hlt)
   go_wp2_with (first|(first|((with_reducible refine gT ?_);(refine aT H ?_;clear H;intro w H;try simp only[nr]at H))|((with_reducible refine gL ?_);refine aD H ?_)))
   (refine xct Tryz.results133 H ?_)
   exact⟨WordR.no (w:=d) E3.out,H.below⟩
def zJS:Str:=[98,66,65,122]
def spotN:List Nat:=[12,13,8,9]
theorem zOi {c k:Nat} (hk:k<4) (h:c=byt zJS k):zFI c=some (spotN.getD k 0):=by
 subst h
 match k,hk with
 | 0,_=>rfl
 | 1,_=>rfl
 | 2,_=>rfl
 | 3,_=>rfl
theorem zNT {c:Nat} (h:∀ m,m<4→c≠byt zJS m):zFI c=none:=by
 have h0:c≠98:=h 0 (by omega)
 have h1:c≠66:=h 1 (by omega)
 have h2:c≠65:=h 2 (by omega)
 have h3:c≠122:=h 3 (by omega)
 unfold zFI;rw[if_neg h0,if_neg h1,if_neg h2,if_neg h3]
theorem zQU {L:Str} {i:Nat} {s:Nat→Nat} (h:i+1<L.length) (hs:zCg (byt L (i+1))=some s):zBH L i=some ({kind:=1,place:=i,set:=s},i+2):=by
 unfold zBH;rw[if_pos h,hs]
theorem zQ4 {L:Str} {i k:Nat} (h:i+1<L.length) (hs:zCg (byt L (i+1))=none) (hp:zFI (byt L (i+1))=some k):zBH L i=some ({kind:=5,place:=i,spot:=k},i+2):=by
 unfold zBH;rw[if_pos h,hs];simp only[];rw[if_pos h,hp]
theorem zRA {L:Str} {i:Nat} (h:i+1<L.length) (hs:zCg (byt L (i+1))=none) (hp:zFI (byt L (i+1))=none):zBH L i=(escP L i).map (fun (b,e)=>({kind:=1,place:=i,set:=ofS [(b:Int)]},e)):=by
 unfold zBH;rw[if_pos h,hs];simp only[];rw[if_pos h,hp]
theorem zQx {L:Str} {i:Nat} (h:¬ i+1<L.length):zBH L i=(escP L i).map (fun (b,e)=>({kind:=1,place:=i,set:=ofS [(b:Int)]},e)):=by
 unfold zBH;rw[if_neg h];simp only[];rw[if_neg h]
theorem zNX (L:Str) (i:Nat) (hL:L.length≤2000) (hi:i<L.length) (w0:World):Calls Tryz.prog 130 #[.string ⟨L.toArray⟩,.int .i64 i] w0 fun e w'=>WordR (zBH L i) e∧Below w0.heap.size w0 w':=by
 have H:=Hold.start w0
 by_cases h1:i+1<L.length
 ·have d1:decide ((i:Int)+1<(L.length:Int))=true:=by simp;omega
  have hso:=fun w=>zIU (byt L (i+1)) (zCI L (i+1)) w
  cases hs:zCg (byt L (i+1)) with
  | some s =>
   rw[hs]at hso;simp only[setO,Option.getD_some,Option.isSome_some]at hso;have E3:=Lib.hid (zQU h1 hs);clear hs
   go_enter Tryz.func130,Tryz.ntmps130
   go_wp2_with (first|(first|((with_reducible refine gT ?_);(first|((first|refine aS H ?_|refine aT H ?_);clear H;intro w H;try simp only[nr]at H)|(refine aN H ?_;clear H;intro w H;(try simp only[nr]at H);try simp only[zBE,nrl]at H)))|((with_reducible refine gL ?_);(first|refine aL H ?_|refine aD H ?_))|((with_reducible refine gA ?_);(refine bA H ?_;clear H;intro b w H;try simp only[nr]at H))|((with_reducible refine gI ?_);refine aI ?_))|((with_reducible refine ch (hso _) H ?_);clear H;intro w H))
   (refine xct Tryz.results130 H ?_)
   exact⟨WordR.ok (w:={kind:=1,place:=i,set:=s}) E3.out,H.below⟩
  | none =>
   rw[hs]at hso;simp only[setO,Option.getD_none,Option.isSome_none]at hso;have HS:=Lib.hid hs;clear hs
   go_enter Tryz.func130,Tryz.ntmps130
   go_wp2_with (first|((first|((with_reducible refine kgA 4 ?_);refine kA 4 H ?_)|((with_reducible refine kgX 4 ?_);(first|refine kS 4 H ?_|refine kB 4 H ?_)));clear H;intro b4 w H;try simp only[nr]at H)|((first|((with_reducible refine kgA 6 ?_);refine kA 6 H ?_)|((with_reducible refine kgX 6 ?_);(first|refine kS 6 H ?_|refine kB 6 H ?_)));clear H;intro b6 w H;try simp only[nr]at H)|((first|((with_reducible refine kgA 7 ?_);refine kA 7 H ?_)|((with_reducible refine kgX 7 ?_);(first|refine kS 7 H ?_|refine kB 7 H ?_)));clear H;intro b7 w H;try simp only[nr]at H)|(first|((with_reducible refine gT ?_);((first|refine aS H ?_|refine aT H ?_);clear H;intro w H;try simp only[nr]at H))|((with_reducible refine gI ?_);refine aI ?_))|((with_reducible refine ch (hso _) H ?_);clear H;intro w H))
   go_loopw [10] (fun k wr=>∃ j:Nat,j≤4∧k=.int .i64 j∧Hid (∀ m,m<j→byt L (i+1)≠byt zJS m)∧Hold w0 wr [.blk b4 (zAY {kind:=0,place:=0}) 161,.blk b6 (zAY {kind:=1,place:=i}) 161,.blk b7 (setC zAC) 27]) (fun k _=>5 - (intOf k).toNat)
   case atStart=>exact⟨0,by omega,rfl,Lib.hid (fun m hm=>by omega),H⟩
   case round =>
    clear H;obtain⟨j,hj,rfl,G,H⟩:=hrel
    by_cases hj4:j<4
    ·have hd4:decide ((j:Int)<4)=true:=by simp;omega
     by_cases hit:byt L (i+1)=byt zJS j
     ·have E3:=Lib.hid (zQ4 h1 HS.out (zOi hj4 hit));have h3:((byt L (i+1):Int) == (byt zJS j:Int))=true:=by rw[beq_iff_eq,hit]
      clear hit;unfold zJS at h3
      go_upto_region 11 with fail
      refine wr_ 8 [fun v _=>v=.string ⟨L.toArray⟩,fun v _=>v=.int .i64 (i:Int),fun v _=>v=.int .i64 ((i+1:Nat):Int),fun v _=>v=.int .u8 (byt L (i+1):Int),fun v _=>v=.string ⟨#[98,66,65,122]⟩,fun v _=>v=.int .i64 ((j:Nat):Int),fun v _=>v=.int .u8 (byt [98,66,65,122] j:Int),fun v _=>v=.bool true] ?ob ?en
      case ob =>
       refine⟨?_,?_,?_,?_,?_,?_,?_,?_,trivial⟩<;>intro A W h
       ·exact zAL rfl rfl (h.f 0)
       ·exact zAL rfl rfl (h.f 1)
       ·(have e41:A.eval (.tmp 41)=.int .i64 (i:Int):=h.d 1 41;refine zAB rfl ?_;simp only[execOp,e41];(simp[go_sem]<;>first|done|omega|(rw[IntKind.wrap_i64];omega)|(rw[IntKind.wrap_u8];omega)|(rw[IntKind.wrap_u64];omega)))
       ·exact zAB rfl (zBQ rfl Tryz.underlying9 (h.d 0 40) (h.d 2 42) rfl (by omega)) (by decide)
       ·exact zAL rfl rfl (h.f 9)
       ·exact zAL rfl rfl (h.f 10)
       ·exact zAB rfl (zBQ (L:=[98,66,65,122]) rfl Tryz.underlying9 (h.d 4 44) (h.d 5 45) rfl (by first|(simp;done)|(simp;omega))) (by decide)
       ·(have e43:A.eval (.tmp 43)=.int .u8 (byt L (i+1):Int):=h.d 3 43;have e46:A.eval (.tmp 46)=.int .u8 (byt [98,66,65,122] j:Int):=h.d 6 46;refine zAB rfl ?_;simp only[execOp,e43,e46];(simp[go_sem,h3]))
      case en =>
       intro vals W hbw hv _;simp only[fa,Nat.reduceAdd];rw[e_ hv 0,e_ hv 1,e_ hv 2,e_ hv 3,e_ hv 4,e_ hv 5,e_ hv 6,e_ hv 7];clear hv
       try simp only[pl]
       replace H:=H.call hbw;clear hbw;clear h3;have hj':j=0∨j=1∨j=2∨j=3:=by omega
       rcases hj' with rfl|rfl|rfl|rfl<;>go_wp2_with (first|(first|((with_reducible refine gT ?_);(refine aT H ?_;clear H;intro w H;try simp only[nr]at H))|((with_reducible refine gL ?_);refine aG H ?_))|((with_reducible refine gBS ?_);refine zAU wtd_ _ _ _ rfl H (#[.int .i64 12,.int .i64 13,.int .i64 8,.int .i64 9]) 24 (by intro W;simp only[ml];(try simp only[pe]);(try unfold setV);simp[go_sem]<;>rfl) ?_;clear H;intro b w H;try simp only[nr]at H))
       all_goals (refine xct Tryz.results130 H ?_)
       all_goals exact⟨WordR.ok (w:={kind:=5,place:=i,spot:=_}) E3.out,H.below⟩
     ·have h3:((byt L (i+1):Int) == (byt zJS j:Int))=false:=by rw[beq_eq_false_iff_ne];omega
      unfold zJS at h3;have HIT:=Lib.hid hit;clear hit
      go_upto_region 11 with fail
      refine wr_ 8 [fun v _=>v=.string ⟨L.toArray⟩,fun v _=>v=.int .i64 (i:Int),fun v _=>v=.int .i64 ((i+1:Nat):Int),fun v _=>v=.int .u8 (byt L (i+1):Int),fun v _=>v=.string ⟨#[98,66,65,122]⟩,fun v _=>v=.int .i64 ((j:Nat):Int),fun v _=>v=.int .u8 (byt [98,66,65,122] j:Int),fun v _=>v=.bool false] ?ob ?en
      case ob =>
       refine⟨?_,?_,?_,?_,?_,?_,?_,?_,trivial⟩<;>intro A W h
       ·exact zAL rfl rfl (h.f 0)
       ·exact zAL rfl rfl (h.f 1)
       ·(have e41:A.eval (.tmp 41)=.int .i64 (i:Int):=h.d 1 41;refine zAB rfl ?_;simp only[execOp,e41];(simp[go_sem]<;>first|done|omega|(rw[IntKind.wrap_i64];omega)|(rw[IntKind.wrap_u8];omega)|(rw[IntKind.wrap_u64];omega)))
       ·exact zAB rfl (zBQ rfl Tryz.underlying9 (h.d 0 40) (h.d 2 42) rfl (by omega)) (by decide)
       ·exact zAL rfl rfl (h.f 9)
       ·exact zAL rfl rfl (h.f 10)
       ·exact zAB rfl (zBQ (L:=[98,66,65,122]) rfl Tryz.underlying9 (h.d 4 44) (h.d 5 45) rfl (by first|(simp;done)|(simp;omega))) (by decide)
       ·(have e43:A.eval (.tmp 43)=.int .u8 (byt L (i+1):Int):=h.d 3 43;have e46:A.eval (.tmp 46)=.int .u8 (byt [98,66,65,122] j:Int):=h.d 6 46;refine zAB rfl ?_;simp only[execOp,e43,e46];(simp[go_sem,h3]))
      case en =>
       intro vals W hbw hv _;simp only[fa,Nat.reduceAdd];rw[e_ hv 0,e_ hv 1,e_ hv 2,e_ hv 3,e_ hv 4,e_ hv 5,e_ hv 6,e_ hv 7];clear hv
       try simp only[pl]
       replace H:=H.call hbw;clear hbw
       go_wp2_with (first|fail)
       go_roundw
       case rel=>exact⟨j+1,by omega,by go_num,Lib.hid (fun m hm=>by
        by_cases e:m=j
        ·subst e;exact HIT.out
        ·exact G.out m (by omega)),H⟩
       case measure=>simp[intOf];omega
    ·obtain rfl:j=4:=by omega
     have E:=zRA h1 HS.out (zNT (fun m hm=>G.out m hm))
     have E2:=Lib.hid E;clear E;have hes:=fun w=>zFt L i hL (by omega) w
     cases he:escP L i with
     | none =>
      rw[he]at hes;simp only[escV]at hes;have E3:=Lib.hid (show zBH L i=none by rw[E2.out,he];rfl);clear he
      go_wp2_with (first|(first|((with_reducible refine gT ?_);((first|refine aW H ?_|refine aT H ?_);clear H;intro w H;try simp only[nr]at H))|((with_reducible refine gL ?_);refine aD H ?_))|((with_reducible first|refine ch (hes _) H ?_|refine ch (on_0 _) H ?_);clear H;intro w H))
      (refine xct Tryz.results130 H ?_)
      exact⟨WordR.no (w:={kind:=1,place:=i,set:=ofS [0]}) E3.out,H.below⟩
     | some p =>
      obtain⟨b,e⟩:=p;have hb:=zGr he;have hon:=fun w=>zEr b hb.2.2 w
      rw[he]at hes;simp only[escV]at hes;have E3:=Lib.hid (show zBH L i=some ({kind:=1,place:=i,set:=ofS [(b:Int)]},e) by rw[E2.out,he];rfl);clear he
      go_wp2_with (first|(first|((with_reducible refine gT ?_);((first|refine aW H ?_|refine aT H ?_);clear H;intro w H;try simp only[nr]at H))|((with_reducible refine gL ?_);refine aD H ?_))|((with_reducible first|refine ch (hes _) H ?_|refine ch (hon _) H ?_);clear H;intro w H))
      (refine xct Tryz.results130 H ?_)
      exact⟨WordR.ok (w:={kind:=1,place:=i,set:=ofS [(b:Int)]}) E3.out,H.below⟩
 ·have d1:decide ((i:Int)+1<(L.length:Int))=false:=by simp;omega
  have E2:=Lib.hid (zQx h1);have hes:=fun w=>zFt L i hL (by omega) w
  cases he:escP L i with
  | none =>
   rw[he]at hes;simp only[escV]at hes;have E3:=Lib.hid (show zBH L i=none by rw[E2.out,he];rfl);clear he
   go_enter Tryz.func130,Tryz.ntmps130
   go_wp2_with (first|(first|((with_reducible refine gT ?_);(first|(refine aT H ?_;clear H;intro w H;try simp only[nr]at H)|(refine aN H ?_;clear H;intro w H;(try simp only[nr]at H);try simp only[zBE,nrl]at H)))|((with_reducible refine gL ?_);refine aD H ?_)|((with_reducible refine gA ?_);(refine bA H ?_;clear H;intro b w H;try simp only[nr]at H)))|((with_reducible first|refine ch (hes _) H ?_|refine ch (on_0 _) H ?_);clear H;intro w H))
   (refine xct Tryz.results130 H ?_)
   exact⟨WordR.no (w:={kind:=1,place:=i,set:=ofS [0]}) E3.out,H.below⟩
  | some p =>
   obtain⟨b,e⟩:=p;have hb:=zGr he;exact absurd hb.1 (by omega)
end
end Go.Proofs.YtklcgfkdemifcaaGreatDoor
