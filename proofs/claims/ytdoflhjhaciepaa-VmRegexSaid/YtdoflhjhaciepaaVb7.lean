/-
  Laws of walks, and walks.
-/
import Derived.Test.YtdoflhjhaciepaaVb5
import Derived.Test.YtdoflhjhaciepaaVb2
set_option linter.unusedVariables false
set_option linter.unusedSimpArgs false
set_option maxRecDepth 100000
set_option maxHeartbeats 16000000
namespace Go.Proofs.Ytdoflhjhaciepaa
open Go.RowKit Go.Shelf
attribute [local go_sem] Oper.semAt_some
theorem ref_thing (L:Str) (i:Nat) (hL:L.length≤2000) (hi:i≤L.length) (w0:World):Calls Try.prog 94 #[.string ⟨L.toArray⟩,.int .i64 i] w0 fun e w'=>e=.returned (escV (thingP L i))∧Below w0.heap.size w0 w':=by
 have H:=Hold.start w0
 by_cases hlt:i<L.length
 ·have hd:decide ((L.length:Int)≤(i:Int))=false:=by simp;omega
  by_cases hb:byt L i=92
  ·have d:((byt L i:Int) == 92)=true:=by rw[beq_iff_eq];omega
   have hc:=fun w=>ref_escape L i hL hi w
   have e:thingP L i=escP L i:=by unfold thingP;rw[if_pos hlt,if_pos hb]
   have E:=Lib.hid e;clear e hb
   cases hs:escP L i with
   | none =>
    rw[hs]at hc
    simp only[escV]at hc
    have HS:=Lib.hid hs;clear hs
    go_enter Try.func94,Try.ntmps94
    go_wp2_with (first|((with_reducible refine gI ?_);refine aI ?_)|(go_at_call 80;(with_reducible refine ch (hc _) H ?_);clear H;intro w H))
    go_ret2
    exact⟨by rw[E.out,HS.out];rfl,H.below⟩
   | some p =>
    obtain⟨b,e⟩:=p
    rw[hs]at hc
    simp only[escV]at hc
    have HS:=Lib.hid hs;clear hs
    go_enter Try.func94,Try.ntmps94
    go_wp2_with (first|((with_reducible refine gI ?_);refine aI ?_)|(go_at_call 80;(with_reducible refine ch (hc _) H ?_);clear H;intro w H))
    go_ret2
    exact⟨by rw[E.out,HS.out];rfl,H.below⟩
  ·have d:((byt L i:Int) == 92)=false:=by rw[beq_eq_false_iff_ne];omega
   have e:thingP L i=some (byt L i,i+1):=by unfold thingP;rw[if_pos hlt,if_neg hb]
   have E:=Lib.hid e;clear e hb
   go_enter Try.func94,Try.ntmps94
   go_wp2_with (first|((with_reducible refine gI ?_);refine aI ?_))
   go_ret2
   exact⟨by rw[E.out];simp[escV],H.below⟩
 ·have hd:decide ((L.length:Int)≤(i:Int))=true:=by simp;omega
  go_enter Try.func94,Try.ntmps94
  go_wp2_with (first|fail)
  go_ret2
  exact⟨by unfold thingP;rw[if_neg hlt];rfl,H.below⟩
def ItemR (o:Option ((Nat→Nat) × Nat)) (e:Ending):Prop:=match o with
 | some (s,k)=>e=.returned (.tuple #[setV s,.int .i64 k])
 | none=>∃ S,e=.returned (.tuple #[setV S,.int .i64 (-1)])
theorem ItemR.ok {o:Option ((Nat→Nat) × Nat)} {s:Nat→Nat} {k:Nat} (h:o=some (s,k)):ItemR o (.returned (.tuple #[setV s,.int .i64 k])):=by subst h;rfl
theorem ItemR.no {o:Option ((Nat→Nat) × Nat)} {S:Nat→Nat} (h:o=none):ItemR o (.returned (.tuple #[setV S,.int .i64 (-1)])):=by subst h;exact⟨S,rfl⟩
theorem on_0 (w0:World):Calls Try.prog 56 #[.int .u8 0] w0 fun e w'=>e=.returned (setV (ofS [0]))∧Below w0.heap.size w0 w':=ref_one 0 (by omega) w0
theorem itemP_name {L:Str} {i:Nat} {r:Option ((Nat→Nat) × Nat)} (h:nameP L i=some r):itemP L i=r:=by unfold itemP;rw[h]
theorem rest1 {L:Str} {i:Nat} {s:Nat→Nat} (h:nameP L i=none) (h1:byt L i=92) (h2:i+1<L.length) (h3:sortP (byt L (i+1))=some s):itemP L i=some (s,i+2):=by
 unfold itemP;rw[h];simp only[];rw[if_pos ⟨h1,h2⟩,h3]
theorem rest2 {L:Str} {i:Nat} (h:nameP L i=none) (h1:byt L i=92→i+1<L.length→sortP (byt L (i+1))=none):itemP L i=itemTail L i:=by
 unfold itemP;rw[h];simp only[]
 by_cases hc:byt L i=92∧i+1<L.length
 ·rw[if_pos hc,h1 hc.1 hc.2]
 ·rw[if_neg hc]
theorem ref_item (L:Str) (i:Nat) (hL:L.length≤2000) (hi:i<L.length) (w0:World):Calls Try.prog 81 #[.string ⟨L.toArray⟩,.int .i64 i] w0 fun e w'=>ItemR (itemP L i) e∧Below w0.heap.size w0 w':=by
 have H:=Hold.start w0
 have hat:=fun w=>ref_at L [91,58] i hL (by simp) (by simp) (by omega) w
 have hb:=byt_lt L i
 cases ha:atP L i [91,58] with
 | true =>
  rw[ha]at hat
  have hl:=at_le ha (by simp)
  simp only[List.length_cons,List.length_nil,Nat.zero_add,Nat.reduceAdd]at hl
  have hfi:=fun w=>ref_find L [58,93] (i+2) hL (by simp) (by simp) hl w
  simp only[Int.natCast_add,Int.cast_ofNat_Int]at hfi
  cases hf:findP [58,93] (L.drop (i+2)) with
  | some k =>
   have hfk:fnd L (i+2) [58,93]=some (k+(i+2)):=by unfold fnd;rw[hf];rfl
   rw[hfk]at hfi
   simp only[optI]at hfi
   have hk:=findP_le hf
   simp only[List.length_cons,List.length_nil,Nat.zero_add,Nat.reduceAdd,List.length_drop]at hk
   have hnl:((L.take (k+(i+2))).drop (i+2)).length=k:=by simp;omega
   have hseg:=name_seg (L:=L) (i:=i) (k:=k)
   have en:nameP L i=nameP L i:=rfl
   conv at en=>rhs;unfold nameP
   rw[if_pos ha,hf]at en
   simp only[]at en
   rw[← hseg]at en
   rw[show i+2+k+2=k+(i+2)+2 from by omega]at en
   clear ha hf hfk hseg
   obtain⟨q,hq⟩:∃ q,q=k+(i+2):=⟨_,rfl⟩
   rw[← hq]at hfi hnl en
   have hq2:i+2≤q:=by omega
   have hq3:q+2≤L.length:=by omega
   have dq:decide (0≤(q:Int))=true:=by simp
   obtain rfl:k=q - (i+2):=by omega
   clear hq hk
   generalize hn:(L.take q).drop (i+2)=N at en hnl
   cases N with
   | nil =>
    clear hnl
    simp only[atP,List.drop_zero,List.isPrefixOf_cons_nil,Bool.false_eq_true,if_false]at en
    have hnm:=fun w=>ref_named [] w
    cases hN:namedP [] with
    | none =>
     rw[hN]at hnm en
     simp only[setO,Option.getD_none,Option.isSome_none]at hnm en
     have ei:=itemP_name en
     have EI:=Lib.hid ei;clear ei en hN
     go_enter Try.func81,Try.ntmps81
     go_wp2_with (first|(first|((with_reducible refine gT ?_);(refine aS H ?_;clear H;intro w H;try simp only[nrm,nrl,Value.cells]at H))|((with_reducible refine gL ?_);refine aL H ?_)|((with_reducible refine gA ?_);(refine bA H ?_;clear H;intro b w H;try simp only[nrm,nrl,Value.cells]at H))|((with_reducible refine gC ?_);refine aC ?_))|(go_at_call 52;(with_reducible refine ch (hat _) H ?_);clear H;intro w H)|(go_at_call 93;(with_reducible refine ch (hfi _) H ?_);clear H;intro w H)|(go_at_call 90;(with_reducible refine ch (hnm _) H ?_);clear H;intro w H))
     all_goals (refine ret_ctS Try.results81 rfl (by first|rfl|(simp only[pl];rfl)) H atd_ (by with_reducible exact row_Set) rfl ?_)
     all_goals exact⟨ItemR.no (by rw[EI.out]),H.below⟩
    | some s =>
     rw[hN]at hnm en
     simp only[setO,Option.getD_some,Option.isSome_some]at hnm en
     have ei:=itemP_name en
     have EI:=Lib.hid ei;clear ei en hN
     go_enter Try.func81,Try.ntmps81
     go_wp2_with (first|(first|((with_reducible refine gT ?_);(refine aS H ?_;clear H;intro w H;try simp only[nrm,nrl,Value.cells]at H))|((with_reducible refine gL ?_);refine aL H ?_)|((with_reducible refine gA ?_);(refine bA H ?_;clear H;intro b w H;try simp only[nrm,nrl,Value.cells]at H))|((with_reducible refine gC ?_);refine aC ?_))|(go_at_call 52;(with_reducible refine ch (hat _) H ?_);clear H;intro w H)|(go_at_call 93;(with_reducible refine ch (hfi _) H ?_);clear H;intro w H)|(go_at_call 90;(with_reducible refine ch (hnm _) H ?_);clear H;intro w H))
     all_goals (refine ret_ctS Try.results81 rfl (by first|rfl|(simp only[pl];rfl)) H atd_ (by with_reducible exact row_Set) rfl ?_)
     all_goals exact⟨ItemR.ok (by rw[EI.out]),H.below⟩
   | cons c l =>
    clear hnl
    have hb0:byt (c::l) 0=c.toNat:=rfl
    by_cases hc:c=94
    ·subst hc
     clear hb0
     simp only[atP,List.drop_zero,List.isPrefixOf_cons_cons,List.isPrefixOf_nil_left,Bool.and_true,beq_self_eq_true,if_true,List.drop_succ_cons]at en
     have hb1:byt ((94:UInt8)::l) 0=94:=rfl
     have hnm:=fun w=>ref_named l w
     cases hN:namedP l with
     | none =>
      rw[hN]at hnm en
      simp only[setO,Option.getD_none,Option.isSome_none]at hnm en
      have ei:=itemP_name en
      have EI:=Lib.hid ei;clear ei en hN
      go_enter Try.func81,Try.ntmps81
      go_wp2_with (first|(first|((with_reducible refine gT ?_);(refine aS H ?_;clear H;intro w H;try simp only[nrm,nrl,Value.cells]at H))|((with_reducible refine gL ?_);refine aL H ?_)|((with_reducible refine gA ?_);(refine bA H ?_;clear H;intro b w H;try simp only[nrm,nrl,Value.cells]at H))|((with_reducible refine gI ?_);refine aI ?_)|((with_reducible refine gC ?_);refine aC ?_)|((with_reducible refine gF ?_);refine aF ?_))|(go_at_call 52;(with_reducible refine ch (hat _) H ?_);clear H;intro w H)|(go_at_call 93;(with_reducible refine ch (hfi _) H ?_);clear H;intro w H)|(go_at_call 90;(with_reducible refine ch (hnm _) H ?_);clear H;intro w H))
      all_goals (refine ret_ctS Try.results81 rfl (by first|rfl|(simp only[pl];rfl)) H atd_ (by with_reducible exact row_Set) rfl ?_)
      all_goals exact⟨ItemR.no (by rw[EI.out]),H.below⟩
     | some s =>
      have hnot:=fun w=>ref_Not s (namedP_ok hN) w
      rw[hN]at hnm en
      simp only[setO,Option.getD_some,Option.isSome_some]at hnm en
      have ei:=itemP_name en
      have EI:=Lib.hid ei;clear ei en hN
      go_enter Try.func81,Try.ntmps81
      go_wp2_with (first|(first|((with_reducible refine gT ?_);(refine aS H ?_;clear H;intro w H;try simp only[nrm,nrl,Value.cells]at H))|((with_reducible refine gL ?_);refine aL H ?_)|((with_reducible refine gA ?_);(refine bA H ?_;clear H;intro b w H;try simp only[nrm,nrl,Value.cells]at H))|((with_reducible refine gI ?_);refine aI ?_)|((with_reducible refine gC ?_);refine aC ?_)|((with_reducible refine gF ?_);refine aF ?_))|(go_at_call 52;(with_reducible refine ch (hat _) H ?_);clear H;intro w H)|(go_at_call 93;(with_reducible refine ch (hfi _) H ?_);clear H;intro w H)|(go_at_call 90;(with_reducible refine ch (hnm _) H ?_);clear H;intro w H)|(go_at_call 58;(with_reducible refine ch (hnot _) H ?_);clear H;intro w H))
      all_goals (refine ret_ctS Try.results81 rfl (by first|rfl|(simp only[pl];rfl)) H atd_ (by with_reducible exact row_Set) rfl ?_)
      all_goals exact⟨ItemR.ok (by rw[EI.out]),H.below⟩
    ·have hcn:((94:UInt8) == c)=false:=by rw[beq_eq_false_iff_ne];exact fun e=>hc e.symm
     have hcc:((c.toNat:Int) == 94)=false:=by rw[beq_eq_false_iff_ne];intro e;exact hc (UInt8.toNat_inj.1 (by show c.toNat=94;omega))
     simp only[atP,List.drop_zero,List.isPrefixOf_cons_cons,List.isPrefixOf_nil_left,Bool.and_true,hcn,Bool.false_eq_true,if_false]at en
     clear hc hcn
     have hnm:=fun w=>ref_named (c::l) w
     cases hN:namedP (c::l) with
     | none =>
      rw[hN]at hnm en
      simp only[setO,Option.getD_none,Option.isSome_none]at hnm en
      have ei:=itemP_name en
      have EI:=Lib.hid ei;clear ei en hN
      go_enter Try.func81,Try.ntmps81
      go_wp2_with (first|(first|((with_reducible refine gT ?_);(refine aS H ?_;clear H;intro w H;try simp only[nrm,nrl,Value.cells]at H))|((with_reducible refine gL ?_);refine aL H ?_)|((with_reducible refine gA ?_);(refine bA H ?_;clear H;intro b w H;try simp only[nrm,nrl,Value.cells]at H))|((with_reducible refine gI ?_);refine aI ?_)|((with_reducible refine gC ?_);refine aC ?_))|(go_at_call 52;(with_reducible refine ch (hat _) H ?_);clear H;intro w H)|(go_at_call 93;(with_reducible refine ch (hfi _) H ?_);clear H;intro w H)|(go_at_call 90;(with_reducible refine ch (hnm _) H ?_);clear H;intro w H))
      all_goals (refine ret_ctS Try.results81 rfl (by first|rfl|(simp only[pl];rfl)) H atd_ (by with_reducible exact row_Set) rfl ?_)
      all_goals exact⟨ItemR.no (by rw[EI.out]),H.below⟩
     | some s =>
      rw[hN]at hnm en
      simp only[setO,Option.getD_some,Option.isSome_some]at hnm en
      have ei:=itemP_name en
      have EI:=Lib.hid ei;clear ei en hN
      go_enter Try.func81,Try.ntmps81
      go_wp2_with (first|(first|((with_reducible refine gT ?_);(refine aS H ?_;clear H;intro w H;try simp only[nrm,nrl,Value.cells]at H))|((with_reducible refine gL ?_);refine aL H ?_)|((with_reducible refine gA ?_);(refine bA H ?_;clear H;intro b w H;try simp only[nrm,nrl,Value.cells]at H))|((with_reducible refine gI ?_);refine aI ?_)|((with_reducible refine gC ?_);refine aC ?_))|(go_at_call 52;(with_reducible refine ch (hat _) H ?_);clear H;intro w H)|(go_at_call 93;(with_reducible refine ch (hfi _) H ?_);clear H;intro w H)|(go_at_call 90;(with_reducible refine ch (hnm _) H ?_);clear H;intro w H))
      all_goals (refine ret_ctS Try.results81 rfl (by first|rfl|(simp only[pl];rfl)) H atd_ (by with_reducible exact row_Set) rfl ?_)
      all_goals exact⟨ItemR.ok (by rw[EI.out]),H.below⟩
  | none =>
   have hfk:fnd L (i+2) [58,93]=none:=by unfold fnd;rw[hf];rfl
   rw[hfk]at hfi
   simp only[optI]at hfi
   have HN:nameP L i=none:=by unfold nameP;rw[if_pos ha,hf]
   clear ha hf hfk
   by_cases c92:byt L i=92
   ·have d92:((byt L i:Int) == 92)=true:=by rw[beq_iff_eq];omega
    by_cases cl:i+1<L.length
    ·have dl:decide ((i:Int)+1<(L.length:Int))=true:=by simp;omega
     have hso:=fun w=>ref_sort (byt L (i+1)) (byt_lt L (i+1)) w
     cases hs:sortP (byt L (i+1)) with
     | some s =>
      have ei:=rest1 HN c92 cl hs
      rw[hs]at hso
      simp only[setO,Option.getD_some,Option.isSome_some]at hso
      have EI:=Lib.hid ei;clear ei hs c92 HN
      go_enter Try.func81,Try.ntmps81
      go_wp2_with (first|(first|((with_reducible refine gT ?_);(refine aS H ?_;clear H;intro w H;try simp only[nrm,nrl,Value.cells]at H))|((with_reducible refine gL ?_);refine aL H ?_)|((with_reducible refine gA ?_);(refine bA H ?_;clear H;intro b w H;try simp only[nrm,nrl,Value.cells]at H))|((with_reducible refine gI ?_);refine aI ?_))|(go_at_call 52;(with_reducible refine ch (hat _) H ?_);clear H;intro w H)|(go_at_call 93;(with_reducible refine ch (hfi _) H ?_);clear H;intro w H)|(go_at_call 79;(with_reducible refine ch (hso _) H ?_);clear H;intro w H))
      all_goals (refine ret_ctS Try.results81 rfl (by first|rfl|(simp only[pl];rfl)) H atd_ (by with_reducible exact row_Set) rfl ?_)
      all_goals exact⟨ItemR.ok (by rw[EI.out]),H.below⟩
     | none =>
      have ei:=rest2 HN (fun _ _=>hs)
      rw[hs]at hso
      simp only[setO,Option.getD_none,Option.isSome_none]at hso
      have EI:=Lib.hid ei;clear ei hs c92 HN
      have hth:=fun w=>ref_thing L i hL (by omega) w
      have et:itemTail L i=itemTail L i:=rfl
      conv at et=>rhs;unfold itemTail
      cases ht:thingP L i with
      | none =>
       rw[ht]at hth et
       simp only[escV]at hth et
       have ET:=Lib.hid et;clear et ht
       go_enter Try.func81,Try.ntmps81
       go_wp2_with (first|(first|((with_reducible refine gT ?_);(refine aS H ?_;clear H;intro w H;try simp only[nrm,nrl,Value.cells]at H))|((with_reducible refine gA ?_);(refine bA H ?_;clear H;intro b w H;try simp only[nrm,nrl,Value.cells]at H))|((with_reducible refine gI ?_);refine aI ?_))|(go_at_call 52;(with_reducible refine ch (hat _) H ?_);clear H;intro w H)|(go_at_call 93;(with_reducible refine ch (hfi _) H ?_);clear H;intro w H)|(go_at_call 79;(with_reducible refine ch (hso _) H ?_);clear H;intro w H)|(go_at_call 94;(with_reducible refine ch (hth _) H ?_);clear H;intro w H)|(go_at_call 56;(with_reducible refine ch (on_0 _) H ?_);clear H;intro w H))
       all_goals (refine ret_ctS Try.results81 rfl (by first|rfl|(simp only[pl];rfl)) H atd_ (by with_reducible exact row_Set) rfl ?_)
       all_goals exact⟨ItemR.no (by rw[EI.out,ET.out]),H.below⟩
      | some p =>
       obtain⟨lo,k⟩:=p
       have hk:=thingP_le ht
       rw[ht]at hth et
       simp only[escV]at hth et
       clear ht
       have dk:decide ((k:Int)<0)=false:=by simp
       have hone:=fun w=>ref_one lo hk.2.2 w
       by_cases c1:k+1<L.length
       ·have d1:decide ((L.length:Int)≤(k:Int)+1)=false:=by simp;omega
        by_cases c2:byt L k=45
        ·have d2:((byt L k:Int) == 45)=true:=by rw[beq_iff_eq];omega
         have d2':((byt L k:Int) != 45)=false:=by rw[bne_eq_false_iff_eq];omega
         by_cases c3:byt L (k+1)=93
         ·have d3:((byt L (k+1):Int) == 93)=true:=by rw[beq_iff_eq];omega
          rw[if_neg (by rintro⟨_,_,h⟩;exact h c3)]at et
          have ET:=Lib.hid et;clear et c2 c3
          go_enter Try.func81,Try.ntmps81
          go_wp2_with (first|(first|((with_reducible refine gT ?_);(refine aS H ?_;clear H;intro w H;try simp only[nrm,nrl,Value.cells]at H))|((with_reducible refine gA ?_);(refine bA H ?_;clear H;intro b w H;try simp only[nrm,nrl,Value.cells]at H))|((with_reducible refine gI ?_);refine aI ?_))|(go_at_call 52;(with_reducible refine ch (hat _) H ?_);clear H;intro w H)|(go_at_call 93;(with_reducible refine ch (hfi _) H ?_);clear H;intro w H)|(go_at_call 79;(with_reducible refine ch (hso _) H ?_);clear H;intro w H)|(go_at_call 94;(with_reducible refine ch (hth _) H ?_);clear H;intro w H)|(go_at_call 56;(with_reducible refine ch (hone _) H ?_);clear H;intro w H))
          all_goals (refine ret_ctS Try.results81 rfl (by first|rfl|(simp only[pl];rfl)) H atd_ (by with_reducible exact row_Set) rfl ?_)
          all_goals exact⟨ItemR.ok (by rw[EI.out,ET.out]),H.below⟩
         ·have d3:((byt L (k+1):Int) == 93)=false:=by rw[beq_eq_false_iff_ne];omega
          rw[if_pos ⟨c1,c2,c3⟩]at et
          clear c2 c3
          have hth2:=fun w=>ref_thing L (k+1) hL (by omega) w
          simp only[Int.natCast_add,Int.cast_ofNat_Int]at hth2
          cases ht2:thingP L (k+1) with
          | none =>
           rw[ht2]at hth2 et
           simp only[escV]at hth2 et
           have ET:=Lib.hid et;clear et ht2
           go_enter Try.func81,Try.ntmps81
           go_wp2_with (first|(first|((with_reducible refine gT ?_);(refine aS H ?_;clear H;intro w H;try simp only[nrm,nrl,Value.cells]at H))|((with_reducible refine gA ?_);(refine bA H ?_;clear H;intro b w H;try simp only[nrm,nrl,Value.cells]at H))|((with_reducible refine gZ ?_);refine aZ ?_)|((with_reducible refine gI ?_);refine aI ?_))|(go_at_call 52;(with_reducible refine ch (hat _) H ?_);clear H;intro w H)|(go_at_call 93;(with_reducible refine ch (hfi _) H ?_);clear H;intro w H)|(go_at_call 79;(with_reducible refine ch (hso _) H ?_);clear H;intro w H)|(go_at_call 94;(with_reducible refine ch (hth _) H ?_);clear H;intro w H)|(go_at_call 94;(with_reducible refine ch (hth2 _) H ?_);clear H;intro w H))
           all_goals (refine ret_ctS Try.results81 rfl (by first|rfl|(simp only[pl];rfl)) H atd_ (by with_reducible exact row_Set) rfl ?_)
           all_goals exact⟨ItemR.no (by rw[EI.out,ET.out]),H.below⟩
          | some q =>
           obtain⟨hi2,e2⟩:=q
           have hk2:=thingP_le ht2
           rw[ht2]at hth2 et
           simp only[escV]at hth2 et
           clear ht2
           have de:decide ((e2:Int)<0)=false:=by simp
           by_cases c4:lo≤hi2
           ·have d4:decide ((hi2:Int)<(lo:Int))=false:=by simp;omega
            rw[if_pos c4]at et
            have ET:=Lib.hid et;clear et
            have hsp:=fun w=>ref_span lo hi2 (by omega) (by omega) w
            go_enter Try.func81,Try.ntmps81
            go_wp2_with (first|(first|((with_reducible refine gT ?_);(refine aS H ?_;clear H;intro w H;try simp only[nrm,nrl,Value.cells]at H))|((with_reducible refine gA ?_);(refine bA H ?_;clear H;intro b w H;try simp only[nrm,nrl,Value.cells]at H))|((with_reducible refine gI ?_);refine aI ?_))|(go_at_call 52;(with_reducible refine ch (hat _) H ?_);clear H;intro w H)|(go_at_call 93;(with_reducible refine ch (hfi _) H ?_);clear H;intro w H)|(go_at_call 79;(with_reducible refine ch (hso _) H ?_);clear H;intro w H)|(go_at_call 94;(with_reducible refine ch (hth _) H ?_);clear H;intro w H)|(go_at_call 94;(with_reducible refine ch (hth2 _) H ?_);clear H;intro w H)|(go_at_call 95;(with_reducible refine ch (hsp _) H ?_);clear H;intro w H))
            all_goals (refine ret_ctS Try.results81 rfl (by first|rfl|(simp only[pl];rfl)) H atd_ (by with_reducible exact row_Set) rfl ?_)
            all_goals exact⟨ItemR.ok (by rw[EI.out,ET.out]),H.below⟩
           ·have d4:decide ((hi2:Int)<(lo:Int))=true:=by simp;omega
            rw[if_neg c4]at et
            have ET:=Lib.hid et;clear et
            go_enter Try.func81,Try.ntmps81
            go_wp2_with (first|(first|((with_reducible refine gT ?_);(refine aS H ?_;clear H;intro w H;try simp only[nrm,nrl,Value.cells]at H))|((with_reducible refine gA ?_);(refine bA H ?_;clear H;intro b w H;try simp only[nrm,nrl,Value.cells]at H))|((with_reducible refine gZ ?_);refine aZ ?_)|((with_reducible refine gI ?_);refine aI ?_))|(go_at_call 52;(with_reducible refine ch (hat _) H ?_);clear H;intro w H)|(go_at_call 93;(with_reducible refine ch (hfi _) H ?_);clear H;intro w H)|(go_at_call 79;(with_reducible refine ch (hso _) H ?_);clear H;intro w H)|(go_at_call 94;(with_reducible refine ch (hth _) H ?_);clear H;intro w H)|(go_at_call 94;(with_reducible refine ch (hth2 _) H ?_);clear H;intro w H))
            all_goals (refine ret_ctS Try.results81 rfl (by first|rfl|(simp only[pl];rfl)) H atd_ (by with_reducible exact row_Set) rfl ?_)
            all_goals exact⟨ItemR.no (by rw[EI.out,ET.out]),H.below⟩
        ·have d2:((byt L k:Int) == 45)=false:=by rw[beq_eq_false_iff_ne];omega
         have d2':((byt L k:Int) != 45)=true:=by rw[bne_iff_ne];omega
         rw[if_neg (by rintro⟨_,h,_⟩;exact c2 h)]at et
         have ET:=Lib.hid et;clear et c2
         go_enter Try.func81,Try.ntmps81
         go_wp2_with (first|(first|((with_reducible refine gT ?_);(refine aS H ?_;clear H;intro w H;try simp only[nrm,nrl,Value.cells]at H))|((with_reducible refine gA ?_);(refine bA H ?_;clear H;intro b w H;try simp only[nrm,nrl,Value.cells]at H))|((with_reducible refine gI ?_);refine aI ?_))|(go_at_call 52;(with_reducible refine ch (hat _) H ?_);clear H;intro w H)|(go_at_call 93;(with_reducible refine ch (hfi _) H ?_);clear H;intro w H)|(go_at_call 79;(with_reducible refine ch (hso _) H ?_);clear H;intro w H)|(go_at_call 94;(with_reducible refine ch (hth _) H ?_);clear H;intro w H)|(go_at_call 56;(with_reducible refine ch (hone _) H ?_);clear H;intro w H))
         all_goals (refine ret_ctS Try.results81 rfl (by first|rfl|(simp only[pl];rfl)) H atd_ (by with_reducible exact row_Set) rfl ?_)
         all_goals exact⟨ItemR.ok (by rw[EI.out,ET.out]),H.below⟩
       ·have d1:decide ((L.length:Int)≤(k:Int)+1)=true:=by simp;omega
        rw[if_neg (by rintro⟨h,_⟩;exact c1 h)]at et
        have ET:=Lib.hid et;clear et
        go_enter Try.func81,Try.ntmps81
        go_wp2_with (first|(first|((with_reducible refine gT ?_);(refine aS H ?_;clear H;intro w H;try simp only[nrm,nrl,Value.cells]at H))|((with_reducible refine gA ?_);(refine bA H ?_;clear H;intro b w H;try simp only[nrm,nrl,Value.cells]at H))|((with_reducible refine gI ?_);refine aI ?_))|(go_at_call 52;(with_reducible refine ch (hat _) H ?_);clear H;intro w H)|(go_at_call 93;(with_reducible refine ch (hfi _) H ?_);clear H;intro w H)|(go_at_call 79;(with_reducible refine ch (hso _) H ?_);clear H;intro w H)|(go_at_call 94;(with_reducible refine ch (hth _) H ?_);clear H;intro w H)|(go_at_call 56;(with_reducible refine ch (hone _) H ?_);clear H;intro w H))
        all_goals (refine ret_ctS Try.results81 rfl (by first|rfl|(simp only[pl];rfl)) H atd_ (by with_reducible exact row_Set) rfl ?_)
        all_goals exact⟨ItemR.ok (by rw[EI.out,ET.out]),H.below⟩
    ·have dl:decide ((i:Int)+1<(L.length:Int))=false:=by simp;omega
     have ei:=rest2 HN (fun _ h=>absurd h cl)
     have EI:=Lib.hid ei;clear ei c92 HN
     have hth:=fun w=>ref_thing L i hL (by omega) w
     have et:itemTail L i=itemTail L i:=rfl
     conv at et=>rhs;unfold itemTail
     cases ht:thingP L i with
     | none =>
      rw[ht]at hth et
      simp only[escV]at hth et
      have ET:=Lib.hid et;clear et ht
      go_enter Try.func81,Try.ntmps81
      go_wp2_with (first|(first|((with_reducible refine gT ?_);(refine aS H ?_;clear H;intro w H;try simp only[nrm,nrl,Value.cells]at H))|((with_reducible refine gA ?_);(refine bA H ?_;clear H;intro b w H;try simp only[nrm,nrl,Value.cells]at H))|((with_reducible refine gI ?_);refine aI ?_))|(go_at_call 52;(with_reducible refine ch (hat _) H ?_);clear H;intro w H)|(go_at_call 93;(with_reducible refine ch (hfi _) H ?_);clear H;intro w H)|(go_at_call 94;(with_reducible refine ch (hth _) H ?_);clear H;intro w H)|(go_at_call 56;(with_reducible refine ch (on_0 _) H ?_);clear H;intro w H))
      all_goals (refine ret_ctS Try.results81 rfl (by first|rfl|(simp only[pl];rfl)) H atd_ (by with_reducible exact row_Set) rfl ?_)
      all_goals exact⟨ItemR.no (by rw[EI.out,ET.out]),H.below⟩
     | some p =>
      obtain⟨lo,k⟩:=p
      have hk:=thingP_le ht
      rw[ht]at hth et
      simp only[escV]at hth et
      clear ht
      have dk:decide ((k:Int)<0)=false:=by simp
      have hone:=fun w=>ref_one lo hk.2.2 w
      by_cases c1:k+1<L.length
      ·have d1:decide ((L.length:Int)≤(k:Int)+1)=false:=by simp;omega
       by_cases c2:byt L k=45
       ·have d2:((byt L k:Int) == 45)=true:=by rw[beq_iff_eq];omega
        have d2':((byt L k:Int) != 45)=false:=by rw[bne_eq_false_iff_eq];omega
        by_cases c3:byt L (k+1)=93
        ·have d3:((byt L (k+1):Int) == 93)=true:=by rw[beq_iff_eq];omega
         rw[if_neg (by rintro⟨_,_,h⟩;exact h c3)]at et
         have ET:=Lib.hid et;clear et c2 c3
         go_enter Try.func81,Try.ntmps81
         go_wp2_with (first|(first|((with_reducible refine gT ?_);(refine aS H ?_;clear H;intro w H;try simp only[nrm,nrl,Value.cells]at H))|((with_reducible refine gA ?_);(refine bA H ?_;clear H;intro b w H;try simp only[nrm,nrl,Value.cells]at H))|((with_reducible refine gI ?_);refine aI ?_))|(go_at_call 52;(with_reducible refine ch (hat _) H ?_);clear H;intro w H)|(go_at_call 93;(with_reducible refine ch (hfi _) H ?_);clear H;intro w H)|(go_at_call 94;(with_reducible refine ch (hth _) H ?_);clear H;intro w H)|(go_at_call 56;(with_reducible refine ch (hone _) H ?_);clear H;intro w H))
         all_goals (refine ret_ctS Try.results81 rfl (by first|rfl|(simp only[pl];rfl)) H atd_ (by with_reducible exact row_Set) rfl ?_)
         all_goals exact⟨ItemR.ok (by rw[EI.out,ET.out]),H.below⟩
        ·have d3:((byt L (k+1):Int) == 93)=false:=by rw[beq_eq_false_iff_ne];omega
         rw[if_pos ⟨c1,c2,c3⟩]at et
         clear c2 c3
         have hth2:=fun w=>ref_thing L (k+1) hL (by omega) w
         simp only[Int.natCast_add,Int.cast_ofNat_Int]at hth2
         cases ht2:thingP L (k+1) with
         | none =>
          rw[ht2]at hth2 et
          simp only[escV]at hth2 et
          have ET:=Lib.hid et;clear et ht2
          go_enter Try.func81,Try.ntmps81
          go_wp2_with (first|(first|((with_reducible refine gT ?_);(refine aS H ?_;clear H;intro w H;try simp only[nrm,nrl,Value.cells]at H))|((with_reducible refine gA ?_);(refine bA H ?_;clear H;intro b w H;try simp only[nrm,nrl,Value.cells]at H))|((with_reducible refine gZ ?_);refine aZ ?_)|((with_reducible refine gI ?_);refine aI ?_))|(go_at_call 52;(with_reducible refine ch (hat _) H ?_);clear H;intro w H)|(go_at_call 93;(with_reducible refine ch (hfi _) H ?_);clear H;intro w H)|(go_at_call 94;(with_reducible refine ch (hth _) H ?_);clear H;intro w H)|(go_at_call 94;(with_reducible refine ch (hth2 _) H ?_);clear H;intro w H))
          all_goals (refine ret_ctS Try.results81 rfl (by first|rfl|(simp only[pl];rfl)) H atd_ (by with_reducible exact row_Set) rfl ?_)
          all_goals exact⟨ItemR.no (by rw[EI.out,ET.out]),H.below⟩
         | some q =>
          obtain⟨hi2,e2⟩:=q
          have hk2:=thingP_le ht2
          rw[ht2]at hth2 et
          simp only[escV]at hth2 et
          clear ht2
          have de:decide ((e2:Int)<0)=false:=by simp
          by_cases c4:lo≤hi2
          ·have d4:decide ((hi2:Int)<(lo:Int))=false:=by simp;omega
           rw[if_pos c4]at et
           have ET:=Lib.hid et;clear et
           have hsp:=fun w=>ref_span lo hi2 (by omega) (by omega) w
           go_enter Try.func81,Try.ntmps81
           go_wp2_with (first|(first|((with_reducible refine gA ?_);(refine bA H ?_;clear H;intro b w H;try simp only[nrm,nrl,Value.cells]at H))|((with_reducible refine gI ?_);refine aI ?_))|(go_at_call 52;(with_reducible refine ch (hat _) H ?_);clear H;intro w H)|(go_at_call 93;(with_reducible refine ch (hfi _) H ?_);clear H;intro w H)|(go_at_call 94;(with_reducible refine ch (hth _) H ?_);clear H;intro w H)|(go_at_call 94;(with_reducible refine ch (hth2 _) H ?_);clear H;intro w H)|(go_at_call 95;(with_reducible refine ch (hsp _) H ?_);clear H;intro w H))
           all_goals (refine ret_ctS Try.results81 rfl (by first|rfl|(simp only[pl];rfl)) H atd_ (by with_reducible exact row_Set) rfl ?_)
           all_goals exact⟨ItemR.ok (by rw[EI.out,ET.out]),H.below⟩
          ·have d4:decide ((hi2:Int)<(lo:Int))=true:=by simp;omega
           rw[if_neg c4]at et
           have ET:=Lib.hid et;clear et
           go_enter Try.func81,Try.ntmps81
           go_wp2_with (first|(first|((with_reducible refine gA ?_);(refine bA H ?_;clear H;intro b w H;try simp only[nrm,nrl,Value.cells]at H))|((with_reducible refine gI ?_);refine aI ?_))|(go_at_call 52;(with_reducible refine ch (hat _) H ?_);clear H;intro w H)|(go_at_call 93;(with_reducible refine ch (hfi _) H ?_);clear H;intro w H)|(go_at_call 94;(with_reducible refine ch (hth _) H ?_);clear H;intro w H)|(go_at_call 94;(with_reducible refine ch (hth2 _) H ?_);clear H;intro w H))
           all_goals (refine ret_ctS Try.results81 rfl (by first|rfl|(simp only[pl];rfl)) H atd_ (by with_reducible exact row_Set) rfl ?_)
           all_goals exact⟨ItemR.no (by rw[EI.out,ET.out]),H.below⟩
       ·have d2:((byt L k:Int) == 45)=false:=by rw[beq_eq_false_iff_ne];omega
        have d2':((byt L k:Int) != 45)=true:=by rw[bne_iff_ne];omega
        rw[if_neg (by rintro⟨_,h,_⟩;exact c2 h)]at et
        have ET:=Lib.hid et;clear et c2
        go_enter Try.func81,Try.ntmps81
        go_wp2_with (first|(first|((with_reducible refine gT ?_);(refine aS H ?_;clear H;intro w H;try simp only[nrm,nrl,Value.cells]at H))|((with_reducible refine gA ?_);(refine bA H ?_;clear H;intro b w H;try simp only[nrm,nrl,Value.cells]at H))|((with_reducible refine gI ?_);refine aI ?_))|(go_at_call 52;(with_reducible refine ch (hat _) H ?_);clear H;intro w H)|(go_at_call 93;(with_reducible refine ch (hfi _) H ?_);clear H;intro w H)|(go_at_call 94;(with_reducible refine ch (hth _) H ?_);clear H;intro w H)|(go_at_call 56;(with_reducible refine ch (hone _) H ?_);clear H;intro w H))
        all_goals (refine ret_ctS Try.results81 rfl (by first|rfl|(simp only[pl];rfl)) H atd_ (by with_reducible exact row_Set) rfl ?_)
        all_goals exact⟨ItemR.ok (by rw[EI.out,ET.out]),H.below⟩
      ·have d1:decide ((L.length:Int)≤(k:Int)+1)=true:=by simp;omega
       rw[if_neg (by rintro⟨h,_⟩;exact c1 h)]at et
       have ET:=Lib.hid et;clear et
       go_enter Try.func81,Try.ntmps81
       go_wp2_with (first|(first|((with_reducible refine gT ?_);(refine aS H ?_;clear H;intro w H;try simp only[nrm,nrl,Value.cells]at H))|((with_reducible refine gA ?_);(refine bA H ?_;clear H;intro b w H;try simp only[nrm,nrl,Value.cells]at H))|((with_reducible refine gI ?_);refine aI ?_))|(go_at_call 52;(with_reducible refine ch (hat _) H ?_);clear H;intro w H)|(go_at_call 93;(with_reducible refine ch (hfi _) H ?_);clear H;intro w H)|(go_at_call 94;(with_reducible refine ch (hth _) H ?_);clear H;intro w H)|(go_at_call 56;(with_reducible refine ch (hone _) H ?_);clear H;intro w H))
       all_goals (refine ret_ctS Try.results81 rfl (by first|rfl|(simp only[pl];rfl)) H atd_ (by with_reducible exact row_Set) rfl ?_)
       all_goals exact⟨ItemR.ok (by rw[EI.out,ET.out]),H.below⟩
   ·have d92:((byt L i:Int) == 92)=false:=by rw[beq_eq_false_iff_ne];omega
    have ei:=rest2 HN (fun h _=>absurd h c92)
    have EI:=Lib.hid ei;clear ei c92 HN
    have hth:=fun w=>ref_thing L i hL (by omega) w
    have et:itemTail L i=itemTail L i:=rfl
    conv at et=>rhs;unfold itemTail
    cases ht:thingP L i with
    | none =>
     rw[ht]at hth et
     simp only[escV]at hth et
     have ET:=Lib.hid et;clear et ht
     go_enter Try.func81,Try.ntmps81
     go_wp2_with (first|(first|((with_reducible refine gT ?_);(refine aS H ?_;clear H;intro w H;try simp only[nrm,nrl,Value.cells]at H))|((with_reducible refine gA ?_);(refine bA H ?_;clear H;intro b w H;try simp only[nrm,nrl,Value.cells]at H))|((with_reducible refine gI ?_);refine aI ?_))|(go_at_call 52;(with_reducible refine ch (hat _) H ?_);clear H;intro w H)|(go_at_call 93;(with_reducible refine ch (hfi _) H ?_);clear H;intro w H)|(go_at_call 94;(with_reducible refine ch (hth _) H ?_);clear H;intro w H)|(go_at_call 56;(with_reducible refine ch (on_0 _) H ?_);clear H;intro w H))
     all_goals (refine ret_ctS Try.results81 rfl (by first|rfl|(simp only[pl];rfl)) H atd_ (by with_reducible exact row_Set) rfl ?_)
     all_goals exact⟨ItemR.no (by rw[EI.out,ET.out]),H.below⟩
    | some p =>
     obtain⟨lo,k⟩:=p
     have hk:=thingP_le ht
     rw[ht]at hth et
     simp only[escV]at hth et
     clear ht
     have dk:decide ((k:Int)<0)=false:=by simp
     have hone:=fun w=>ref_one lo hk.2.2 w
     by_cases c1:k+1<L.length
     ·have d1:decide ((L.length:Int)≤(k:Int)+1)=false:=by simp;omega
      by_cases c2:byt L k=45
      ·have d2:((byt L k:Int) == 45)=true:=by rw[beq_iff_eq];omega
       have d2':((byt L k:Int) != 45)=false:=by rw[bne_eq_false_iff_eq];omega
       by_cases c3:byt L (k+1)=93
       ·have d3:((byt L (k+1):Int) == 93)=true:=by rw[beq_iff_eq];omega
        rw[if_neg (by rintro⟨_,_,h⟩;exact h c3)]at et
        have ET:=Lib.hid et;clear et c2 c3
        go_enter Try.func81,Try.ntmps81
        go_wp2_with (first|(first|((with_reducible refine gT ?_);(refine aS H ?_;clear H;intro w H;try simp only[nrm,nrl,Value.cells]at H))|((with_reducible refine gA ?_);(refine bA H ?_;clear H;intro b w H;try simp only[nrm,nrl,Value.cells]at H))|((with_reducible refine gI ?_);refine aI ?_))|(go_at_call 52;(with_reducible refine ch (hat _) H ?_);clear H;intro w H)|(go_at_call 93;(with_reducible refine ch (hfi _) H ?_);clear H;intro w H)|(go_at_call 94;(with_reducible refine ch (hth _) H ?_);clear H;intro w H)|(go_at_call 56;(with_reducible refine ch (hone _) H ?_);clear H;intro w H))
        all_goals (refine ret_ctS Try.results81 rfl (by first|rfl|(simp only[pl];rfl)) H atd_ (by with_reducible exact row_Set) rfl ?_)
        all_goals exact⟨ItemR.ok (by rw[EI.out,ET.out]),H.below⟩
       ·have d3:((byt L (k+1):Int) == 93)=false:=by rw[beq_eq_false_iff_ne];omega
        rw[if_pos ⟨c1,c2,c3⟩]at et
        clear c2 c3
        have hth2:=fun w=>ref_thing L (k+1) hL (by omega) w
        simp only[Int.natCast_add,Int.cast_ofNat_Int]at hth2
        cases ht2:thingP L (k+1) with
        | none =>
         rw[ht2]at hth2 et
         simp only[escV]at hth2 et
         have ET:=Lib.hid et;clear et ht2
         go_enter Try.func81,Try.ntmps81
         go_wp2_with (first|(first|((with_reducible refine gT ?_);(refine aS H ?_;clear H;intro w H;try simp only[nrm,nrl,Value.cells]at H))|((with_reducible refine gA ?_);(refine bA H ?_;clear H;intro b w H;try simp only[nrm,nrl,Value.cells]at H))|((with_reducible refine gZ ?_);refine aZ ?_)|((with_reducible refine gI ?_);refine aI ?_))|(go_at_call 52;(with_reducible refine ch (hat _) H ?_);clear H;intro w H)|(go_at_call 93;(with_reducible refine ch (hfi _) H ?_);clear H;intro w H)|(go_at_call 94;(with_reducible refine ch (hth _) H ?_);clear H;intro w H)|(go_at_call 94;(with_reducible refine ch (hth2 _) H ?_);clear H;intro w H))
         all_goals (refine ret_ctS Try.results81 rfl (by first|rfl|(simp only[pl];rfl)) H atd_ (by with_reducible exact row_Set) rfl ?_)
         all_goals exact⟨ItemR.no (by rw[EI.out,ET.out]),H.below⟩
        | some q =>
         obtain⟨hi2,e2⟩:=q
         have hk2:=thingP_le ht2
         rw[ht2]at hth2 et
         simp only[escV]at hth2 et
         clear ht2
         have de:decide ((e2:Int)<0)=false:=by simp
         by_cases c4:lo≤hi2
         ·have d4:decide ((hi2:Int)<(lo:Int))=false:=by simp;omega
          rw[if_pos c4]at et
          have ET:=Lib.hid et;clear et
          have hsp:=fun w=>ref_span lo hi2 (by omega) (by omega) w
          go_enter Try.func81,Try.ntmps81
          go_wp2_with (first|(first|((with_reducible refine gT ?_);(refine aS H ?_;clear H;intro w H;try simp only[nrm,nrl,Value.cells]at H))|((with_reducible refine gA ?_);(refine bA H ?_;clear H;intro b w H;try simp only[nrm,nrl,Value.cells]at H))|((with_reducible refine gI ?_);refine aI ?_))|(go_at_call 52;(with_reducible refine ch (hat _) H ?_);clear H;intro w H)|(go_at_call 93;(with_reducible refine ch (hfi _) H ?_);clear H;intro w H)|(go_at_call 94;(with_reducible refine ch (hth _) H ?_);clear H;intro w H)|(go_at_call 94;(with_reducible refine ch (hth2 _) H ?_);clear H;intro w H)|(go_at_call 95;(with_reducible refine ch (hsp _) H ?_);clear H;intro w H))
          all_goals (refine ret_ctS Try.results81 rfl (by first|rfl|(simp only[pl];rfl)) H atd_ (by with_reducible exact row_Set) rfl ?_)
          all_goals exact⟨ItemR.ok (by rw[EI.out,ET.out]),H.below⟩
         ·have d4:decide ((hi2:Int)<(lo:Int))=true:=by simp;omega
          rw[if_neg c4]at et
          have ET:=Lib.hid et;clear et
          go_enter Try.func81,Try.ntmps81
          go_wp2_with (first|(first|((with_reducible refine gT ?_);(refine aS H ?_;clear H;intro w H;try simp only[nrm,nrl,Value.cells]at H))|((with_reducible refine gA ?_);(refine bA H ?_;clear H;intro b w H;try simp only[nrm,nrl,Value.cells]at H))|((with_reducible refine gZ ?_);refine aZ ?_)|((with_reducible refine gI ?_);refine aI ?_))|(go_at_call 52;(with_reducible refine ch (hat _) H ?_);clear H;intro w H)|(go_at_call 93;(with_reducible refine ch (hfi _) H ?_);clear H;intro w H)|(go_at_call 94;(with_reducible refine ch (hth _) H ?_);clear H;intro w H)|(go_at_call 94;(with_reducible refine ch (hth2 _) H ?_);clear H;intro w H))
          all_goals (refine ret_ctS Try.results81 rfl (by first|rfl|(simp only[pl];rfl)) H atd_ (by with_reducible exact row_Set) rfl ?_)
          all_goals exact⟨ItemR.no (by rw[EI.out,ET.out]),H.below⟩
      ·have d2:((byt L k:Int) == 45)=false:=by rw[beq_eq_false_iff_ne];omega
       have d2':((byt L k:Int) != 45)=true:=by rw[bne_iff_ne];omega
       rw[if_neg (by rintro⟨_,h,_⟩;exact c2 h)]at et
       have ET:=Lib.hid et;clear et c2
       go_enter Try.func81,Try.ntmps81
       go_wp2_with (first|(first|((with_reducible refine gT ?_);(refine aS H ?_;clear H;intro w H;try simp only[nrm,nrl,Value.cells]at H))|((with_reducible refine gA ?_);(refine bA H ?_;clear H;intro b w H;try simp only[nrm,nrl,Value.cells]at H))|((with_reducible refine gI ?_);refine aI ?_))|(go_at_call 52;(with_reducible refine ch (hat _) H ?_);clear H;intro w H)|(go_at_call 93;(with_reducible refine ch (hfi _) H ?_);clear H;intro w H)|(go_at_call 94;(with_reducible refine ch (hth _) H ?_);clear H;intro w H)|(go_at_call 56;(with_reducible refine ch (hone _) H ?_);clear H;intro w H))
       all_goals (refine ret_ctS Try.results81 rfl (by first|rfl|(simp only[pl];rfl)) H atd_ (by with_reducible exact row_Set) rfl ?_)
       all_goals exact⟨ItemR.ok (by rw[EI.out,ET.out]),H.below⟩
     ·have d1:decide ((L.length:Int)≤(k:Int)+1)=true:=by simp;omega
      rw[if_neg (by rintro⟨h,_⟩;exact c1 h)]at et
      have ET:=Lib.hid et;clear et
      go_enter Try.func81,Try.ntmps81
      go_wp2_with (first|(first|((with_reducible refine gT ?_);(refine aS H ?_;clear H;intro w H;try simp only[nrm,nrl,Value.cells]at H))|((with_reducible refine gA ?_);(refine bA H ?_;clear H;intro b w H;try simp only[nrm,nrl,Value.cells]at H))|((with_reducible refine gI ?_);refine aI ?_))|(go_at_call 52;(with_reducible refine ch (hat _) H ?_);clear H;intro w H)|(go_at_call 93;(with_reducible refine ch (hfi _) H ?_);clear H;intro w H)|(go_at_call 94;(with_reducible refine ch (hth _) H ?_);clear H;intro w H)|(go_at_call 56;(with_reducible refine ch (hone _) H ?_);clear H;intro w H))
      all_goals (refine ret_ctS Try.results81 rfl (by first|rfl|(simp only[pl];rfl)) H atd_ (by with_reducible exact row_Set) rfl ?_)
      all_goals exact⟨ItemR.ok (by rw[EI.out,ET.out]),H.below⟩
 | false =>
  rw[ha]at hat
  have HN:nameP L i=none:=by unfold nameP;rw[if_neg (by rw[ha];simp)]
  clear ha
  by_cases c92:byt L i=92
  ·have d92:((byt L i:Int) == 92)=true:=by rw[beq_iff_eq];omega
   by_cases cl:i+1<L.length
   ·have dl:decide ((i:Int)+1<(L.length:Int))=true:=by simp;omega
    have hso:=fun w=>ref_sort (byt L (i+1)) (byt_lt L (i+1)) w
    cases hs:sortP (byt L (i+1)) with
    | some s =>
     have ei:=rest1 HN c92 cl hs
     rw[hs]at hso
     simp only[setO,Option.getD_some,Option.isSome_some]at hso
     have EI:=Lib.hid ei;clear ei hs c92 HN
     go_enter Try.func81,Try.ntmps81
     go_wp2_with (first|(first|((with_reducible refine gT ?_);(refine aS H ?_;clear H;intro w H;try simp only[nrm,nrl,Value.cells]at H))|((with_reducible refine gL ?_);refine aL H ?_)|((with_reducible refine gA ?_);(refine bA H ?_;clear H;intro b w H;try simp only[nrm,nrl,Value.cells]at H))|((with_reducible refine gI ?_);refine aI ?_))|(go_at_call 52;(with_reducible refine ch (hat _) H ?_);clear H;intro w H)|(go_at_call 79;(with_reducible refine ch (hso _) H ?_);clear H;intro w H))
     all_goals (refine ret_ctS Try.results81 rfl (by first|rfl|(simp only[pl];rfl)) H atd_ (by with_reducible exact row_Set) rfl ?_)
     all_goals exact⟨ItemR.ok (by rw[EI.out]),H.below⟩
    | none =>
     have ei:=rest2 HN (fun _ _=>hs)
     rw[hs]at hso
     simp only[setO,Option.getD_none,Option.isSome_none]at hso
     have EI:=Lib.hid ei;clear ei hs c92 HN
     have hth:=fun w=>ref_thing L i hL (by omega) w
     have et:itemTail L i=itemTail L i:=rfl
     conv at et=>rhs;unfold itemTail
     cases ht:thingP L i with
     | none =>
      rw[ht]at hth et
      simp only[escV]at hth et
      have ET:=Lib.hid et;clear et ht
      go_enter Try.func81,Try.ntmps81
      go_wp2_with (first|(first|((with_reducible refine gT ?_);(refine aS H ?_;clear H;intro w H;try simp only[nrm,nrl,Value.cells]at H))|((with_reducible refine gA ?_);(refine bA H ?_;clear H;intro b w H;try simp only[nrm,nrl,Value.cells]at H))|((with_reducible refine gI ?_);refine aI ?_))|(go_at_call 52;(with_reducible refine ch (hat _) H ?_);clear H;intro w H)|(go_at_call 79;(with_reducible refine ch (hso _) H ?_);clear H;intro w H)|(go_at_call 94;(with_reducible refine ch (hth _) H ?_);clear H;intro w H)|(go_at_call 56;(with_reducible refine ch (on_0 _) H ?_);clear H;intro w H))
      all_goals (refine ret_ctS Try.results81 rfl (by first|rfl|(simp only[pl];rfl)) H atd_ (by with_reducible exact row_Set) rfl ?_)
      all_goals exact⟨ItemR.no (by rw[EI.out,ET.out]),H.below⟩
     | some p =>
      obtain⟨lo,k⟩:=p
      have hk:=thingP_le ht
      rw[ht]at hth et
      simp only[escV]at hth et
      clear ht
      have dk:decide ((k:Int)<0)=false:=by simp
      have hone:=fun w=>ref_one lo hk.2.2 w
      by_cases c1:k+1<L.length
      ·have d1:decide ((L.length:Int)≤(k:Int)+1)=false:=by simp;omega
       by_cases c2:byt L k=45
       ·have d2:((byt L k:Int) == 45)=true:=by rw[beq_iff_eq];omega
        have d2':((byt L k:Int) != 45)=false:=by rw[bne_eq_false_iff_eq];omega
        by_cases c3:byt L (k+1)=93
        ·have d3:((byt L (k+1):Int) == 93)=true:=by rw[beq_iff_eq];omega
         rw[if_neg (by rintro⟨_,_,h⟩;exact h c3)]at et
         have ET:=Lib.hid et;clear et c2 c3
         go_enter Try.func81,Try.ntmps81
         go_wp2_with (first|(first|((with_reducible refine gT ?_);(refine aS H ?_;clear H;intro w H;try simp only[nrm,nrl,Value.cells]at H))|((with_reducible refine gA ?_);(refine bA H ?_;clear H;intro b w H;try simp only[nrm,nrl,Value.cells]at H))|((with_reducible refine gI ?_);refine aI ?_))|(go_at_call 52;(with_reducible refine ch (hat _) H ?_);clear H;intro w H)|(go_at_call 79;(with_reducible refine ch (hso _) H ?_);clear H;intro w H)|(go_at_call 94;(with_reducible refine ch (hth _) H ?_);clear H;intro w H)|(go_at_call 56;(with_reducible refine ch (hone _) H ?_);clear H;intro w H))
         all_goals (refine ret_ctS Try.results81 rfl (by first|rfl|(simp only[pl];rfl)) H atd_ (by with_reducible exact row_Set) rfl ?_)
         all_goals exact⟨ItemR.ok (by rw[EI.out,ET.out]),H.below⟩
        ·have d3:((byt L (k+1):Int) == 93)=false:=by rw[beq_eq_false_iff_ne];omega
         rw[if_pos ⟨c1,c2,c3⟩]at et
         clear c2 c3
         have hth2:=fun w=>ref_thing L (k+1) hL (by omega) w
         simp only[Int.natCast_add,Int.cast_ofNat_Int]at hth2
         cases ht2:thingP L (k+1) with
         | none =>
          rw[ht2]at hth2 et
          simp only[escV]at hth2 et
          have ET:=Lib.hid et;clear et ht2
          go_enter Try.func81,Try.ntmps81
          go_wp2_with (first|(first|((with_reducible refine gT ?_);(refine aS H ?_;clear H;intro w H;try simp only[nrm,nrl,Value.cells]at H))|((with_reducible refine gA ?_);(refine bA H ?_;clear H;intro b w H;try simp only[nrm,nrl,Value.cells]at H))|((with_reducible refine gZ ?_);refine aZ ?_)|((with_reducible refine gI ?_);refine aI ?_))|(go_at_call 52;(with_reducible refine ch (hat _) H ?_);clear H;intro w H)|(go_at_call 79;(with_reducible refine ch (hso _) H ?_);clear H;intro w H)|(go_at_call 94;(with_reducible refine ch (hth _) H ?_);clear H;intro w H)|(go_at_call 94;(with_reducible refine ch (hth2 _) H ?_);clear H;intro w H))
          all_goals (refine ret_ctS Try.results81 rfl (by first|rfl|(simp only[pl];rfl)) H atd_ (by with_reducible exact row_Set) rfl ?_)
          all_goals exact⟨ItemR.no (by rw[EI.out,ET.out]),H.below⟩
         | some q =>
          obtain⟨hi2,e2⟩:=q
          have hk2:=thingP_le ht2
          rw[ht2]at hth2 et
          simp only[escV]at hth2 et
          clear ht2
          have de:decide ((e2:Int)<0)=false:=by simp
          by_cases c4:lo≤hi2
          ·have d4:decide ((hi2:Int)<(lo:Int))=false:=by simp;omega
           rw[if_pos c4]at et
           have ET:=Lib.hid et;clear et
           have hsp:=fun w=>ref_span lo hi2 (by omega) (by omega) w
           go_enter Try.func81,Try.ntmps81
           go_wp2_with (first|(first|((with_reducible refine gT ?_);(refine aS H ?_;clear H;intro w H;try simp only[nrm,nrl,Value.cells]at H))|((with_reducible refine gA ?_);(refine bA H ?_;clear H;intro b w H;try simp only[nrm,nrl,Value.cells]at H))|((with_reducible refine gI ?_);refine aI ?_))|(go_at_call 52;(with_reducible refine ch (hat _) H ?_);clear H;intro w H)|(go_at_call 79;(with_reducible refine ch (hso _) H ?_);clear H;intro w H)|(go_at_call 94;(with_reducible refine ch (hth _) H ?_);clear H;intro w H)|(go_at_call 94;(with_reducible refine ch (hth2 _) H ?_);clear H;intro w H)|(go_at_call 95;(with_reducible refine ch (hsp _) H ?_);clear H;intro w H))
           all_goals (refine ret_ctS Try.results81 rfl (by first|rfl|(simp only[pl];rfl)) H atd_ (by with_reducible exact row_Set) rfl ?_)
           all_goals exact⟨ItemR.ok (by rw[EI.out,ET.out]),H.below⟩
          ·have d4:decide ((hi2:Int)<(lo:Int))=true:=by simp;omega
           rw[if_neg c4]at et
           have ET:=Lib.hid et;clear et
           go_enter Try.func81,Try.ntmps81
           go_wp2_with (first|(first|((with_reducible refine gT ?_);(refine aS H ?_;clear H;intro w H;try simp only[nrm,nrl,Value.cells]at H))|((with_reducible refine gA ?_);(refine bA H ?_;clear H;intro b w H;try simp only[nrm,nrl,Value.cells]at H))|((with_reducible refine gZ ?_);refine aZ ?_)|((with_reducible refine gI ?_);refine aI ?_))|(go_at_call 52;(with_reducible refine ch (hat _) H ?_);clear H;intro w H)|(go_at_call 79;(with_reducible refine ch (hso _) H ?_);clear H;intro w H)|(go_at_call 94;(with_reducible refine ch (hth _) H ?_);clear H;intro w H)|(go_at_call 94;(with_reducible refine ch (hth2 _) H ?_);clear H;intro w H))
           all_goals (refine ret_ctS Try.results81 rfl (by first|rfl|(simp only[pl];rfl)) H atd_ (by with_reducible exact row_Set) rfl ?_)
           all_goals exact⟨ItemR.no (by rw[EI.out,ET.out]),H.below⟩
       ·have d2:((byt L k:Int) == 45)=false:=by rw[beq_eq_false_iff_ne];omega
        have d2':((byt L k:Int) != 45)=true:=by rw[bne_iff_ne];omega
        rw[if_neg (by rintro⟨_,h,_⟩;exact c2 h)]at et
        have ET:=Lib.hid et;clear et c2
        go_enter Try.func81,Try.ntmps81
        go_wp2_with (first|(first|((with_reducible refine gT ?_);(refine aS H ?_;clear H;intro w H;try simp only[nrm,nrl,Value.cells]at H))|((with_reducible refine gA ?_);(refine bA H ?_;clear H;intro b w H;try simp only[nrm,nrl,Value.cells]at H))|((with_reducible refine gI ?_);refine aI ?_))|(go_at_call 52;(with_reducible refine ch (hat _) H ?_);clear H;intro w H)|(go_at_call 79;(with_reducible refine ch (hso _) H ?_);clear H;intro w H)|(go_at_call 94;(with_reducible refine ch (hth _) H ?_);clear H;intro w H)|(go_at_call 56;(with_reducible refine ch (hone _) H ?_);clear H;intro w H))
        all_goals (refine ret_ctS Try.results81 rfl (by first|rfl|(simp only[pl];rfl)) H atd_ (by with_reducible exact row_Set) rfl ?_)
        all_goals exact⟨ItemR.ok (by rw[EI.out,ET.out]),H.below⟩
      ·have d1:decide ((L.length:Int)≤(k:Int)+1)=true:=by simp;omega
       rw[if_neg (by rintro⟨h,_⟩;exact c1 h)]at et
       have ET:=Lib.hid et;clear et
       go_enter Try.func81,Try.ntmps81
       go_wp2_with (first|(first|((with_reducible refine gT ?_);(refine aS H ?_;clear H;intro w H;try simp only[nrm,nrl,Value.cells]at H))|((with_reducible refine gA ?_);(refine bA H ?_;clear H;intro b w H;try simp only[nrm,nrl,Value.cells]at H))|((with_reducible refine gI ?_);refine aI ?_))|(go_at_call 52;(with_reducible refine ch (hat _) H ?_);clear H;intro w H)|(go_at_call 79;(with_reducible refine ch (hso _) H ?_);clear H;intro w H)|(go_at_call 94;(with_reducible refine ch (hth _) H ?_);clear H;intro w H)|(go_at_call 56;(with_reducible refine ch (hone _) H ?_);clear H;intro w H))
       all_goals (refine ret_ctS Try.results81 rfl (by first|rfl|(simp only[pl];rfl)) H atd_ (by with_reducible exact row_Set) rfl ?_)
       all_goals exact⟨ItemR.ok (by rw[EI.out,ET.out]),H.below⟩
   ·have dl:decide ((i:Int)+1<(L.length:Int))=false:=by simp;omega
    have ei:=rest2 HN (fun _ h=>absurd h cl)
    have EI:=Lib.hid ei;clear ei c92 HN
    have hth:=fun w=>ref_thing L i hL (by omega) w
    have et:itemTail L i=itemTail L i:=rfl
    conv at et=>rhs;unfold itemTail
    cases ht:thingP L i with
    | none =>
     rw[ht]at hth et
     simp only[escV]at hth et
     have ET:=Lib.hid et;clear et ht
     go_enter Try.func81,Try.ntmps81
     go_wp2_with (first|(first|((with_reducible refine gT ?_);(refine aS H ?_;clear H;intro w H;try simp only[nrm,nrl,Value.cells]at H))|((with_reducible refine gA ?_);(refine bA H ?_;clear H;intro b w H;try simp only[nrm,nrl,Value.cells]at H))|((with_reducible refine gI ?_);refine aI ?_))|(go_at_call 52;(with_reducible refine ch (hat _) H ?_);clear H;intro w H)|(go_at_call 94;(with_reducible refine ch (hth _) H ?_);clear H;intro w H)|(go_at_call 56;(with_reducible refine ch (on_0 _) H ?_);clear H;intro w H))
     all_goals (refine ret_ctS Try.results81 rfl (by first|rfl|(simp only[pl];rfl)) H atd_ (by with_reducible exact row_Set) rfl ?_)
     all_goals exact⟨ItemR.no (by rw[EI.out,ET.out]),H.below⟩
    | some p =>
     obtain⟨lo,k⟩:=p
     have hk:=thingP_le ht
     rw[ht]at hth et
     simp only[escV]at hth et
     clear ht
     have dk:decide ((k:Int)<0)=false:=by simp
     have hone:=fun w=>ref_one lo hk.2.2 w
     by_cases c1:k+1<L.length
     ·have d1:decide ((L.length:Int)≤(k:Int)+1)=false:=by simp;omega
      by_cases c2:byt L k=45
      ·have d2:((byt L k:Int) == 45)=true:=by rw[beq_iff_eq];omega
       have d2':((byt L k:Int) != 45)=false:=by rw[bne_eq_false_iff_eq];omega
       by_cases c3:byt L (k+1)=93
       ·have d3:((byt L (k+1):Int) == 93)=true:=by rw[beq_iff_eq];omega
        rw[if_neg (by rintro⟨_,_,h⟩;exact h c3)]at et
        have ET:=Lib.hid et;clear et c2 c3
        go_enter Try.func81,Try.ntmps81
        go_wp2_with (first|(first|((with_reducible refine gT ?_);(refine aS H ?_;clear H;intro w H;try simp only[nrm,nrl,Value.cells]at H))|((with_reducible refine gA ?_);(refine bA H ?_;clear H;intro b w H;try simp only[nrm,nrl,Value.cells]at H))|((with_reducible refine gI ?_);refine aI ?_))|(go_at_call 52;(with_reducible refine ch (hat _) H ?_);clear H;intro w H)|(go_at_call 94;(with_reducible refine ch (hth _) H ?_);clear H;intro w H)|(go_at_call 56;(with_reducible refine ch (hone _) H ?_);clear H;intro w H))
        all_goals (refine ret_ctS Try.results81 rfl (by first|rfl|(simp only[pl];rfl)) H atd_ (by with_reducible exact row_Set) rfl ?_)
        all_goals exact⟨ItemR.ok (by rw[EI.out,ET.out]),H.below⟩
       ·have d3:((byt L (k+1):Int) == 93)=false:=by rw[beq_eq_false_iff_ne];omega
        rw[if_pos ⟨c1,c2,c3⟩]at et
        clear c2 c3
        have hth2:=fun w=>ref_thing L (k+1) hL (by omega) w
        simp only[Int.natCast_add,Int.cast_ofNat_Int]at hth2
        cases ht2:thingP L (k+1) with
        | none =>
         rw[ht2]at hth2 et
         simp only[escV]at hth2 et
         have ET:=Lib.hid et;clear et ht2
         go_enter Try.func81,Try.ntmps81
         go_wp2_with (first|(first|((with_reducible refine gT ?_);(refine aS H ?_;clear H;intro w H;try simp only[nrm,nrl,Value.cells]at H))|((with_reducible refine gA ?_);(refine bA H ?_;clear H;intro b w H;try simp only[nrm,nrl,Value.cells]at H))|((with_reducible refine gZ ?_);refine aZ ?_)|((with_reducible refine gI ?_);refine aI ?_))|(go_at_call 52;(with_reducible refine ch (hat _) H ?_);clear H;intro w H)|(go_at_call 94;(with_reducible refine ch (hth _) H ?_);clear H;intro w H)|(go_at_call 94;(with_reducible refine ch (hth2 _) H ?_);clear H;intro w H))
         all_goals (refine ret_ctS Try.results81 rfl (by first|rfl|(simp only[pl];rfl)) H atd_ (by with_reducible exact row_Set) rfl ?_)
         all_goals exact⟨ItemR.no (by rw[EI.out,ET.out]),H.below⟩
        | some q =>
         obtain⟨hi2,e2⟩:=q
         have hk2:=thingP_le ht2
         rw[ht2]at hth2 et
         simp only[escV]at hth2 et
         clear ht2
         have de:decide ((e2:Int)<0)=false:=by simp
         by_cases c4:lo≤hi2
         ·have d4:decide ((hi2:Int)<(lo:Int))=false:=by simp;omega
          rw[if_pos c4]at et
          have ET:=Lib.hid et;clear et
          have hsp:=fun w=>ref_span lo hi2 (by omega) (by omega) w
          go_enter Try.func81,Try.ntmps81
          go_wp2_with (first|(first|((with_reducible refine gA ?_);(refine bA H ?_;clear H;intro b w H;try simp only[nrm,nrl,Value.cells]at H))|((with_reducible refine gI ?_);refine aI ?_))|(go_at_call 52;(with_reducible refine ch (hat _) H ?_);clear H;intro w H)|(go_at_call 94;(with_reducible refine ch (hth _) H ?_);clear H;intro w H)|(go_at_call 94;(with_reducible refine ch (hth2 _) H ?_);clear H;intro w H)|(go_at_call 95;(with_reducible refine ch (hsp _) H ?_);clear H;intro w H))
          all_goals (refine ret_ctS Try.results81 rfl (by first|rfl|(simp only[pl];rfl)) H atd_ (by with_reducible exact row_Set) rfl ?_)
          all_goals exact⟨ItemR.ok (by rw[EI.out,ET.out]),H.below⟩
         ·have d4:decide ((hi2:Int)<(lo:Int))=true:=by simp;omega
          rw[if_neg c4]at et
          have ET:=Lib.hid et;clear et
          go_enter Try.func81,Try.ntmps81
          go_wp2_with (first|(first|((with_reducible refine gA ?_);(refine bA H ?_;clear H;intro b w H;try simp only[nrm,nrl,Value.cells]at H))|((with_reducible refine gI ?_);refine aI ?_))|(go_at_call 52;(with_reducible refine ch (hat _) H ?_);clear H;intro w H)|(go_at_call 94;(with_reducible refine ch (hth _) H ?_);clear H;intro w H)|(go_at_call 94;(with_reducible refine ch (hth2 _) H ?_);clear H;intro w H))
          all_goals (refine ret_ctS Try.results81 rfl (by first|rfl|(simp only[pl];rfl)) H atd_ (by with_reducible exact row_Set) rfl ?_)
          all_goals exact⟨ItemR.no (by rw[EI.out,ET.out]),H.below⟩
      ·have d2:((byt L k:Int) == 45)=false:=by rw[beq_eq_false_iff_ne];omega
       have d2':((byt L k:Int) != 45)=true:=by rw[bne_iff_ne];omega
       rw[if_neg (by rintro⟨_,h,_⟩;exact c2 h)]at et
       have ET:=Lib.hid et;clear et c2
       go_enter Try.func81,Try.ntmps81
       go_wp2_with (first|(first|((with_reducible refine gT ?_);(refine aS H ?_;clear H;intro w H;try simp only[nrm,nrl,Value.cells]at H))|((with_reducible refine gA ?_);(refine bA H ?_;clear H;intro b w H;try simp only[nrm,nrl,Value.cells]at H))|((with_reducible refine gI ?_);refine aI ?_))|(go_at_call 52;(with_reducible refine ch (hat _) H ?_);clear H;intro w H)|(go_at_call 94;(with_reducible refine ch (hth _) H ?_);clear H;intro w H)|(go_at_call 56;(with_reducible refine ch (hone _) H ?_);clear H;intro w H))
       all_goals (refine ret_ctS Try.results81 rfl (by first|rfl|(simp only[pl];rfl)) H atd_ (by with_reducible exact row_Set) rfl ?_)
       all_goals exact⟨ItemR.ok (by rw[EI.out,ET.out]),H.below⟩
     ·have d1:decide ((L.length:Int)≤(k:Int)+1)=true:=by simp;omega
      rw[if_neg (by rintro⟨h,_⟩;exact c1 h)]at et
      have ET:=Lib.hid et;clear et
      go_enter Try.func81,Try.ntmps81
      go_wp2_with (first|(first|((with_reducible refine gT ?_);(refine aS H ?_;clear H;intro w H;try simp only[nrm,nrl,Value.cells]at H))|((with_reducible refine gA ?_);(refine bA H ?_;clear H;intro b w H;try simp only[nrm,nrl,Value.cells]at H))|((with_reducible refine gI ?_);refine aI ?_))|(go_at_call 52;(with_reducible refine ch (hat _) H ?_);clear H;intro w H)|(go_at_call 94;(with_reducible refine ch (hth _) H ?_);clear H;intro w H)|(go_at_call 56;(with_reducible refine ch (hone _) H ?_);clear H;intro w H))
      all_goals (refine ret_ctS Try.results81 rfl (by first|rfl|(simp only[pl];rfl)) H atd_ (by with_reducible exact row_Set) rfl ?_)
      all_goals exact⟨ItemR.ok (by rw[EI.out,ET.out]),H.below⟩
  ·have d92:((byt L i:Int) == 92)=false:=by rw[beq_eq_false_iff_ne];omega
   have ei:=rest2 HN (fun h _=>absurd h c92)
   have EI:=Lib.hid ei;clear ei c92 HN
   have hth:=fun w=>ref_thing L i hL (by omega) w
   have et:itemTail L i=itemTail L i:=rfl
   conv at et=>rhs;unfold itemTail
   cases ht:thingP L i with
   | none =>
    rw[ht]at hth et
    simp only[escV]at hth et
    have ET:=Lib.hid et;clear et ht
    go_enter Try.func81,Try.ntmps81
    go_wp2_with (first|(first|((with_reducible refine gT ?_);(refine aS H ?_;clear H;intro w H;try simp only[nrm,nrl,Value.cells]at H))|((with_reducible refine gA ?_);(refine bA H ?_;clear H;intro b w H;try simp only[nrm,nrl,Value.cells]at H))|((with_reducible refine gI ?_);refine aI ?_))|(go_at_call 52;(with_reducible refine ch (hat _) H ?_);clear H;intro w H)|(go_at_call 94;(with_reducible refine ch (hth _) H ?_);clear H;intro w H)|(go_at_call 56;(with_reducible refine ch (on_0 _) H ?_);clear H;intro w H))
    all_goals (refine ret_ctS Try.results81 rfl (by first|rfl|(simp only[pl];rfl)) H atd_ (by with_reducible exact row_Set) rfl ?_)
    all_goals exact⟨ItemR.no (by rw[EI.out,ET.out]),H.below⟩
   | some p =>
    obtain⟨lo,k⟩:=p
    have hk:=thingP_le ht
    rw[ht]at hth et
    simp only[escV]at hth et
    clear ht
    have dk:decide ((k:Int)<0)=false:=by simp
    have hone:=fun w=>ref_one lo hk.2.2 w
    by_cases c1:k+1<L.length
    ·have d1:decide ((L.length:Int)≤(k:Int)+1)=false:=by simp;omega
     by_cases c2:byt L k=45
     ·have d2:((byt L k:Int) == 45)=true:=by rw[beq_iff_eq];omega
      have d2':((byt L k:Int) != 45)=false:=by rw[bne_eq_false_iff_eq];omega
      by_cases c3:byt L (k+1)=93
      ·have d3:((byt L (k+1):Int) == 93)=true:=by rw[beq_iff_eq];omega
       rw[if_neg (by rintro⟨_,_,h⟩;exact h c3)]at et
       have ET:=Lib.hid et;clear et c2 c3
       go_enter Try.func81,Try.ntmps81
       go_wp2_with (first|(first|((with_reducible refine gT ?_);(refine aS H ?_;clear H;intro w H;try simp only[nrm,nrl,Value.cells]at H))|((with_reducible refine gA ?_);(refine bA H ?_;clear H;intro b w H;try simp only[nrm,nrl,Value.cells]at H))|((with_reducible refine gI ?_);refine aI ?_))|(go_at_call 52;(with_reducible refine ch (hat _) H ?_);clear H;intro w H)|(go_at_call 94;(with_reducible refine ch (hth _) H ?_);clear H;intro w H)|(go_at_call 56;(with_reducible refine ch (hone _) H ?_);clear H;intro w H))
       all_goals (refine ret_ctS Try.results81 rfl (by first|rfl|(simp only[pl];rfl)) H atd_ (by with_reducible exact row_Set) rfl ?_)
       all_goals exact⟨ItemR.ok (by rw[EI.out,ET.out]),H.below⟩
      ·have d3:((byt L (k+1):Int) == 93)=false:=by rw[beq_eq_false_iff_ne];omega
       rw[if_pos ⟨c1,c2,c3⟩]at et
       clear c2 c3
       have hth2:=fun w=>ref_thing L (k+1) hL (by omega) w
       simp only[Int.natCast_add,Int.cast_ofNat_Int]at hth2
       cases ht2:thingP L (k+1) with
       | none =>
        rw[ht2]at hth2 et
        simp only[escV]at hth2 et
        have ET:=Lib.hid et;clear et ht2
        go_enter Try.func81,Try.ntmps81
        go_wp2_with (first|(first|((with_reducible refine gT ?_);(refine aS H ?_;clear H;intro w H;try simp only[nrm,nrl,Value.cells]at H))|((with_reducible refine gA ?_);(refine bA H ?_;clear H;intro b w H;try simp only[nrm,nrl,Value.cells]at H))|((with_reducible refine gZ ?_);refine aZ ?_)|((with_reducible refine gI ?_);refine aI ?_))|(go_at_call 52;(with_reducible refine ch (hat _) H ?_);clear H;intro w H)|(go_at_call 94;(with_reducible refine ch (hth _) H ?_);clear H;intro w H)|(go_at_call 94;(with_reducible refine ch (hth2 _) H ?_);clear H;intro w H))
        all_goals (refine ret_ctS Try.results81 rfl (by first|rfl|(simp only[pl];rfl)) H atd_ (by with_reducible exact row_Set) rfl ?_)
        all_goals exact⟨ItemR.no (by rw[EI.out,ET.out]),H.below⟩
       | some q =>
        obtain⟨hi2,e2⟩:=q
        have hk2:=thingP_le ht2
        rw[ht2]at hth2 et
        simp only[escV]at hth2 et
        clear ht2
        have de:decide ((e2:Int)<0)=false:=by simp
        by_cases c4:lo≤hi2
        ·have d4:decide ((hi2:Int)<(lo:Int))=false:=by simp;omega
         rw[if_pos c4]at et
         have ET:=Lib.hid et;clear et
         have hsp:=fun w=>ref_span lo hi2 (by omega) (by omega) w
         go_enter Try.func81,Try.ntmps81
         go_wp2_with (first|(first|((with_reducible refine gT ?_);(refine aS H ?_;clear H;intro w H;try simp only[nrm,nrl,Value.cells]at H))|((with_reducible refine gA ?_);(refine bA H ?_;clear H;intro b w H;try simp only[nrm,nrl,Value.cells]at H))|((with_reducible refine gI ?_);refine aI ?_))|(go_at_call 52;(with_reducible refine ch (hat _) H ?_);clear H;intro w H)|(go_at_call 94;(with_reducible refine ch (hth _) H ?_);clear H;intro w H)|(go_at_call 94;(with_reducible refine ch (hth2 _) H ?_);clear H;intro w H)|(go_at_call 95;(with_reducible refine ch (hsp _) H ?_);clear H;intro w H))
         all_goals (refine ret_ctS Try.results81 rfl (by first|rfl|(simp only[pl];rfl)) H atd_ (by with_reducible exact row_Set) rfl ?_)
         all_goals exact⟨ItemR.ok (by rw[EI.out,ET.out]),H.below⟩
        ·have d4:decide ((hi2:Int)<(lo:Int))=true:=by simp;omega
         rw[if_neg c4]at et
         have ET:=Lib.hid et;clear et
         go_enter Try.func81,Try.ntmps81
         go_wp2_with (first|(first|((with_reducible refine gT ?_);(refine aS H ?_;clear H;intro w H;try simp only[nrm,nrl,Value.cells]at H))|((with_reducible refine gA ?_);(refine bA H ?_;clear H;intro b w H;try simp only[nrm,nrl,Value.cells]at H))|((with_reducible refine gZ ?_);refine aZ ?_)|((with_reducible refine gI ?_);refine aI ?_))|(go_at_call 52;(with_reducible refine ch (hat _) H ?_);clear H;intro w H)|(go_at_call 94;(with_reducible refine ch (hth _) H ?_);clear H;intro w H)|(go_at_call 94;(with_reducible refine ch (hth2 _) H ?_);clear H;intro w H))
         all_goals (refine ret_ctS Try.results81 rfl (by first|rfl|(simp only[pl];rfl)) H atd_ (by with_reducible exact row_Set) rfl ?_)
         all_goals exact⟨ItemR.no (by rw[EI.out,ET.out]),H.below⟩
     ·have d2:((byt L k:Int) == 45)=false:=by rw[beq_eq_false_iff_ne];omega
      have d2':((byt L k:Int) != 45)=true:=by rw[bne_iff_ne];omega
      rw[if_neg (by rintro⟨_,h,_⟩;exact c2 h)]at et
      have ET:=Lib.hid et;clear et c2
      go_enter Try.func81,Try.ntmps81
      go_wp2_with (first|(first|((with_reducible refine gT ?_);(refine aS H ?_;clear H;intro w H;try simp only[nrm,nrl,Value.cells]at H))|((with_reducible refine gA ?_);(refine bA H ?_;clear H;intro b w H;try simp only[nrm,nrl,Value.cells]at H))|((with_reducible refine gI ?_);refine aI ?_))|(go_at_call 52;(with_reducible refine ch (hat _) H ?_);clear H;intro w H)|(go_at_call 94;(with_reducible refine ch (hth _) H ?_);clear H;intro w H)|(go_at_call 56;(with_reducible refine ch (hone _) H ?_);clear H;intro w H))
      all_goals (refine ret_ctS Try.results81 rfl (by first|rfl|(simp only[pl];rfl)) H atd_ (by with_reducible exact row_Set) rfl ?_)
      all_goals exact⟨ItemR.ok (by rw[EI.out,ET.out]),H.below⟩
    ·have d1:decide ((L.length:Int)≤(k:Int)+1)=true:=by simp;omega
     rw[if_neg (by rintro⟨h,_⟩;exact c1 h)]at et
     have ET:=Lib.hid et;clear et
     go_enter Try.func81,Try.ntmps81
     go_wp2_with (first|(first|((with_reducible refine gT ?_);(refine aS H ?_;clear H;intro w H;try simp only[nrm,nrl,Value.cells]at H))|((with_reducible refine gA ?_);(refine bA H ?_;clear H;intro b w H;try simp only[nrm,nrl,Value.cells]at H))|((with_reducible refine gI ?_);refine aI ?_))|(go_at_call 52;(with_reducible refine ch (hat _) H ?_);clear H;intro w H)|(go_at_call 94;(with_reducible refine ch (hth _) H ?_);clear H;intro w H)|(go_at_call 56;(with_reducible refine ch (hone _) H ?_);clear H;intro w H))
     all_goals (refine ret_ctS Try.results81 rfl (by first|rfl|(simp only[pl];rfl)) H atd_ (by with_reducible exact row_Set) rfl ?_)
     all_goals exact⟨ItemR.ok (by rw[EI.out,ET.out]),H.below⟩
theorem itemP_out {L:Str} {i:Nat} (h:L.length≤i):itemP L i=none:=by
 unfold itemP
 have h1:nameP L i=none:=by unfold nameP;rw[if_neg (by rw[at_out (by simp;omega) (by simp)];simp)]
 rw[h1]
 simp only[]
 rw[if_neg (by omega)]
 simp only[]
 unfold itemTail thingP
 rw[if_neg (by omega)]
theorem ref_class (L:Str) (i:Nat) (hL:L.length≤2000) (hi:i<L.length) (w0:World):Calls Try.prog 51 #[.string ⟨L.toArray⟩,.int .i64 i] w0 fun e w'=>WordR (classP L i) e∧Below w0.heap.size w0 w':=by
 have H:=Hold.start w0
 have ha1:=fun w=>ref_at L [94] (i+1) hL (by simp) (by simp) (by omega) w
 simp only[Int.natCast_add,Int.cast_ofNat_Int]at ha1
 cases h1:atP L (i+1) [94] with
 | true =>
  have hl:=at_le h1 (by simp)
  simp only[List.length_cons,List.length_nil,Nat.zero_add]at hl
  rw[h1]at ha1
  have E:=Lib.hid (show classP L i=(classGo L (L.length+1) (i+2) true emptyS).map (fun (S,e)=>({kind:=1,place:=i,set:=S,neg:=true},e)) by unfold classP;simp only[h1];rfl)
  clear h1
  go_enter Try.func51,Try.ntmps51
  go_wp2_with (first|((first|((with_reducible refine kgA 4 ?_);refine kA 4 H ?_)|((with_reducible refine kgX 4 ?_);(first|refine kS 4 H ?_|refine kB 4 H ?_)));clear H;intro b4 w H;try simp only[nrm,nrl,Value.cells]at H)|((first|((with_reducible refine kgA 6 ?_);refine kA 6 H ?_)|((with_reducible refine kgX 6 ?_);(first|refine kS 6 H ?_|refine kB 6 H ?_)));clear H;intro b6 w H;try simp only[nrm,nrl,Value.cells]at H)|((with_reducible refine gT ?_);((first|refine aO H ?_|refine aT H ?_);clear H;intro w H;try simp only[nrm,nrl,Value.cells]at H))|(go_at_call 52;(with_reducible refine ch (ha1 _) H ?_);clear H;intro w H))
  go_loopw [7,8] (fun k fi wr=>∃ (j f:Nat) (b:Bool) (S:Nat→Nat),k=.int .i64 j∧fi=.bool b∧j≤L.length∧Hid (classGo L (L.length+1) (i+2) true emptyS=classGo L f j b S∧L.length<f+j∧SetOk S)∧Hold w0 wr [.blk b4 (wordC {kind:=0,place:=0}) 83,.blk b6 (wordC {kind:=1,place:=i,set:=S,neg:=true}) 83]) (fun k _ _=>L.length+2 - (intOf k).toNat)
  case atStart=>exact⟨(i+2),L.length+1,true,emptyS,by first|(simp;done)|(simp;omega),rfl,by omega,Lib.hid ⟨rfl,by omega,emptyS_ok⟩,H⟩
  case round =>
   clear H
   obtain⟨j,f,b,S,rfl,rfl,hj,G,H⟩:=hrel
   obtain⟨f,rfl⟩:∃ f',f=f'+1:=⟨f - 1,by have:=G.out.2.1;omega⟩
   have eg:classGo L (f+1) j b S=classGo L (f+1) j b S:=rfl
   conv at eg=>rhs;unfold classGo
   cases b with
   | true =>
    rw[if_neg (by rintro⟨h,_⟩;cases h)]at eg
    by_cases hjl:j<L.length
    ·have dj:decide ((L.length:Int)≤(j:Int))=false:=by simp;omega
     cases hi2:itemP L j with
     | none =>
      have hit:=fun w=>ref_item L j hL hjl w
      rw[hi2]at hit eg
      have E3:=Lib.hid (show classP L i=none by rw[E.out,G.out.1,eg];rfl);clear eg hi2
      simp only[ItemR]at hit
      go_wp2_with (first|(first|((with_reducible refine gT ?_);((first|refine aS H ?_|refine aT H ?_);clear H;intro w H;try simp only[nrm,nrl,Value.cells]at H))|((with_reducible refine gL ?_);refine aD H ?_)|((with_reducible refine gA ?_);(refine bA H ?_;clear H;intro b w H;try simp only[nrm,nrl,Value.cells]at H)))|(go_at_call 81;(with_reducible refine(hit _).mono ?_);rintro e w ⟨⟨S2,rfl⟩,hb⟩;replace H:=H.call hb;clear hb))
      (refine ret_ct Try.results51 rfl (by first|rfl|(simp only[pl];rfl)) H atd_ (by first|(with_reducible exact row_Word)|(with_reducible exact row_Set)) (by rfl) rfl ?_)
      exact⟨WordR.no (w:={kind:=1,place:=i,set:=S,neg:=true}) E3.out,H.below⟩
     | some p =>
      obtain⟨t,e2⟩:=p
      have hk:=itemP_le hi2
      have hit:=fun w=>ref_item L j hL hjl w
      rw[hi2]at hit eg
      simp only[ItemR]at hit eg
      have G2:=Lib.hid (show classGo L (L.length+1) (i+2) true emptyS=classGo L f e2 false (unionS [S,t]) by rw[G.out.1,eg]);clear eg hi2
      have de:decide ((e2:Int)<0)=false:=by simp
      go_wp2_with (first|(first|((with_reducible refine gT ?_);((first|refine aS H ?_|refine aW H ?_);clear H;intro w H;try simp only[nrm,nrl,Value.cells]at H))|((with_reducible refine gL ?_);(first|refine aV H ?_|refine aL H ?_))|((with_reducible refine gA ?_);(refine bA H ?_;clear H;intro b w H;try simp only[nrm,nrl,Value.cells]at H)))|(go_at_call 81;(with_reducible refine ch (hit _) H ?_);clear H;intro w H)|((with_reducible show @wpList _ _ _ ({dst:=_,op:=Op.buildSlice _ _ _,type:=_,pos:=_,after:=_,guard:=_}::_) _ _);refine own_build wtd_ _ _ _ rfl H (rowC [S,t]).toArray 28 (by intro W;simp only[List.map_toArray,List.map_cons,List.map_nil];(try simp only[pe]);(with_reducible exact run_sets2 (S) (t) W)) ?_;clear H;intro b w H;try simp only[nrm,nrl,Value.cells]at H)|(go_at_call 82;(with_reducible refine ch (ref_join _ [S,t] (ok2 G.out.2.2 hk.2.2) _ (H.rdsn (L:=[S,t]) atd_ (by simp) (by simp[maxLen]))) H ?_);clear H;intro w H))
      go_roundw
      case rel=>exact⟨e2,f,false,unionS [S,t],rfl,rfl,by omega,Lib.hid ⟨G2.out,by have:=G.out.2.1;omega,unionS_ok (ok2 G.out.2.2 hk.2.2)⟩,H.take 2⟩
      case measure=>simp[intOf];omega
    ·have dj:decide ((L.length:Int)≤(j:Int))=true:=by simp;omega
     rw[itemP_out (by omega)]at eg
     have E3:=Lib.hid (show classP L i=none by rw[E.out,G.out.1,eg];rfl);clear eg
     go_wp2_with (first|(first|((with_reducible refine gT ?_);(refine aT H ?_;clear H;intro w H;try simp only[nrm,nrl,Value.cells]at H))|((with_reducible refine gL ?_);refine aD H ?_)))
     (refine ret_ct Try.results51 rfl (by first|rfl|(simp only[pl];rfl)) H atd_ (by first|(with_reducible exact row_Word)|(with_reducible exact row_Set)) (by rfl) rfl ?_)
     exact⟨WordR.no (w:={kind:=1,place:=i,set:=S,neg:=true}) E3.out,H.below⟩
   | false =>
    have ha2:=fun w=>ref_at L [93] j hL (by simp) (by simp) (by omega) w
    cases h2:atP L j [93] with
    | true =>
     rw[h2]at ha2
     rw[if_pos ⟨rfl,h2⟩]at eg
     have E3:=Lib.hid (show classP L i=some ({kind:=1,place:=i,set:=S,neg:=true},j+1) by rw[E.out,G.out.1,eg];rfl);clear eg h2
     go_wp2_with (first|(first|((with_reducible refine gT ?_);(refine aT H ?_;clear H;intro w H;try simp only[nrm,nrl,Value.cells]at H))|((with_reducible refine gL ?_);refine aD H ?_))|(go_at_call 52;(with_reducible refine ch (ha2 _) H ?_);clear H;intro w H))
     (refine ret_ct Try.results51 rfl (by first|rfl|(simp only[pl];rfl)) H atd_ (by first|(with_reducible exact row_Word)|(with_reducible exact row_Set)) (by rfl) rfl ?_)
     exact⟨WordR.ok (w:={kind:=1,place:=i,set:=S,neg:=true}) E3.out,H.below⟩
    | false =>
     rw[h2]at ha2
     rw[if_neg (by rintro⟨_,h⟩;rw[h2]at h;cases h)]at eg
     clear h2
     by_cases hjl:j<L.length
     ·have dj:decide ((L.length:Int)≤(j:Int))=false:=by simp;omega
      cases hi2:itemP L j with
      | none =>
       have hit:=fun w=>ref_item L j hL hjl w
       rw[hi2]at hit eg
       have E3:=Lib.hid (show classP L i=none by rw[E.out,G.out.1,eg];rfl);clear eg hi2
       simp only[ItemR]at hit
       go_wp2_with (first|(first|((with_reducible refine gT ?_);((first|refine aS H ?_|refine aT H ?_);clear H;intro w H;try simp only[nrm,nrl,Value.cells]at H))|((with_reducible refine gL ?_);refine aD H ?_)|((with_reducible refine gA ?_);(refine bA H ?_;clear H;intro b w H;try simp only[nrm,nrl,Value.cells]at H)))|(go_at_call 52;(with_reducible refine ch (ha2 _) H ?_);clear H;intro w H)|(go_at_call 81;(with_reducible refine(hit _).mono ?_);rintro e w ⟨⟨S2,rfl⟩,hb⟩;replace H:=H.call hb;clear hb))
       (refine ret_ct Try.results51 rfl (by first|rfl|(simp only[pl];rfl)) H atd_ (by first|(with_reducible exact row_Word)|(with_reducible exact row_Set)) (by rfl) rfl ?_)
       exact⟨WordR.no (w:={kind:=1,place:=i,set:=S,neg:=true}) E3.out,H.below⟩
      | some p =>
       obtain⟨t,e2⟩:=p
       have hk:=itemP_le hi2
       have hit:=fun w=>ref_item L j hL hjl w
       rw[hi2]at hit eg
       simp only[ItemR]at hit eg
       have G2:=Lib.hid (show classGo L (L.length+1) (i+2) true emptyS=classGo L f e2 false (unionS [S,t]) by rw[G.out.1,eg]);clear eg hi2
       have de:decide ((e2:Int)<0)=false:=by simp
       go_wp2_with (first|(first|((with_reducible refine gT ?_);((first|refine aS H ?_|refine aW H ?_);clear H;intro w H;try simp only[nrm,nrl,Value.cells]at H))|((with_reducible refine gL ?_);(first|refine aV H ?_|refine aL H ?_))|((with_reducible refine gA ?_);(refine bA H ?_;clear H;intro b w H;try simp only[nrm,nrl,Value.cells]at H)))|(go_at_call 52;(with_reducible refine ch (ha2 _) H ?_);clear H;intro w H)|(go_at_call 81;(with_reducible refine ch (hit _) H ?_);clear H;intro w H)|((with_reducible show @wpList _ _ _ ({dst:=_,op:=Op.buildSlice _ _ _,type:=_,pos:=_,after:=_,guard:=_}::_) _ _);refine own_build wtd_ _ _ _ rfl H (rowC [S,t]).toArray 28 (by intro W;simp only[List.map_toArray,List.map_cons,List.map_nil];(try simp only[pe]);(with_reducible exact run_sets2 (S) (t) W)) ?_;clear H;intro b w H;try simp only[nrm,nrl,Value.cells]at H)|(go_at_call 82;(with_reducible refine ch (ref_join _ [S,t] (ok2 G.out.2.2 hk.2.2) _ (H.rdsn (L:=[S,t]) atd_ (by simp) (by simp[maxLen]))) H ?_);clear H;intro w H))
       go_roundw
       case rel=>exact⟨e2,f,false,unionS [S,t],rfl,rfl,by omega,Lib.hid ⟨G2.out,by have:=G.out.2.1;omega,unionS_ok (ok2 G.out.2.2 hk.2.2)⟩,H.take 2⟩
       case measure=>simp[intOf];omega
     ·have dj:decide ((L.length:Int)≤(j:Int))=true:=by simp;omega
      rw[itemP_out (by omega)]at eg
      have E3:=Lib.hid (show classP L i=none by rw[E.out,G.out.1,eg];rfl);clear eg
      go_wp2_with (first|(first|((with_reducible refine gT ?_);(refine aT H ?_;clear H;intro w H;try simp only[nrm,nrl,Value.cells]at H))|((with_reducible refine gL ?_);refine aD H ?_))|(go_at_call 52;(with_reducible refine ch (ha2 _) H ?_);clear H;intro w H))
      (refine ret_ct Try.results51 rfl (by first|rfl|(simp only[pl];rfl)) H atd_ (by first|(with_reducible exact row_Word)|(with_reducible exact row_Set)) (by rfl) rfl ?_)
      exact⟨WordR.no (w:={kind:=1,place:=i,set:=S,neg:=true}) E3.out,H.below⟩
 | false =>
  rw[h1]at ha1
  have E:=Lib.hid (show classP L i=(classGo L (L.length+1) (i+1) true emptyS).map (fun (S,e)=>({kind:=1,place:=i,set:=S,neg:=false},e)) by unfold classP;simp only[h1];rfl)
  clear h1
  go_enter Try.func51,Try.ntmps51
  go_wp2_with (first|((first|((with_reducible refine kgA 4 ?_);refine kA 4 H ?_)|((with_reducible refine kgX 4 ?_);(first|refine kS 4 H ?_|refine kB 4 H ?_)));clear H;intro b4 w H;try simp only[nrm,nrl,Value.cells]at H)|((first|((with_reducible refine kgA 6 ?_);refine kA 6 H ?_)|((with_reducible refine kgX 6 ?_);(first|refine kS 6 H ?_|refine kB 6 H ?_)));clear H;intro b6 w H;try simp only[nrm,nrl,Value.cells]at H)|((with_reducible refine gT ?_);(refine aT H ?_;clear H;intro w H;try simp only[nrm,nrl,Value.cells]at H))|(go_at_call 52;(with_reducible refine ch (ha1 _) H ?_);clear H;intro w H))
  go_loopw [7,8] (fun k fi wr=>∃ (j f:Nat) (b:Bool) (S:Nat→Nat),k=.int .i64 j∧fi=.bool b∧j≤L.length∧Hid (classGo L (L.length+1) (i+1) true emptyS=classGo L f j b S∧L.length<f+j∧SetOk S)∧Hold w0 wr [.blk b4 (wordC {kind:=0,place:=0}) 83,.blk b6 (wordC {kind:=1,place:=i,set:=S,neg:=false}) 83]) (fun k _ _=>L.length+2 - (intOf k).toNat)
  case atStart=>exact⟨(i+1),L.length+1,true,emptyS,by first|(simp;done)|(simp;omega),rfl,by omega,Lib.hid ⟨rfl,by omega,emptyS_ok⟩,H⟩
  case round =>
   clear H
   obtain⟨j,f,b,S,rfl,rfl,hj,G,H⟩:=hrel
   obtain⟨f,rfl⟩:∃ f',f=f'+1:=⟨f - 1,by have:=G.out.2.1;omega⟩
   have eg:classGo L (f+1) j b S=classGo L (f+1) j b S:=rfl
   conv at eg=>rhs;unfold classGo
   cases b with
   | true =>
    rw[if_neg (by rintro⟨h,_⟩;cases h)]at eg
    by_cases hjl:j<L.length
    ·have dj:decide ((L.length:Int)≤(j:Int))=false:=by simp;omega
     cases hi2:itemP L j with
     | none =>
      have hit:=fun w=>ref_item L j hL hjl w
      rw[hi2]at hit eg
      have E3:=Lib.hid (show classP L i=none by rw[E.out,G.out.1,eg];rfl);clear eg hi2
      simp only[ItemR]at hit
      go_wp2_with (first|(first|((with_reducible refine gT ?_);((first|refine aS H ?_|refine aT H ?_);clear H;intro w H;try simp only[nrm,nrl,Value.cells]at H))|((with_reducible refine gL ?_);refine aD H ?_)|((with_reducible refine gA ?_);(refine bA H ?_;clear H;intro b w H;try simp only[nrm,nrl,Value.cells]at H)))|(go_at_call 81;(with_reducible refine(hit _).mono ?_);rintro e w ⟨⟨S2,rfl⟩,hb⟩;replace H:=H.call hb;clear hb))
      (refine ret_ct Try.results51 rfl (by first|rfl|(simp only[pl];rfl)) H atd_ (by first|(with_reducible exact row_Word)|(with_reducible exact row_Set)) (by rfl) rfl ?_)
      exact⟨WordR.no (w:={kind:=1,place:=i,set:=S,neg:=false}) E3.out,H.below⟩
     | some p =>
      obtain⟨t,e2⟩:=p
      have hk:=itemP_le hi2
      have hit:=fun w=>ref_item L j hL hjl w
      rw[hi2]at hit eg
      simp only[ItemR]at hit eg
      have G2:=Lib.hid (show classGo L (L.length+1) (i+1) true emptyS=classGo L f e2 false (unionS [S,t]) by rw[G.out.1,eg]);clear eg hi2
      have de:decide ((e2:Int)<0)=false:=by simp
      go_wp2_with (first|(first|((with_reducible refine gT ?_);((first|refine aS H ?_|refine aW H ?_);clear H;intro w H;try simp only[nrm,nrl,Value.cells]at H))|((with_reducible refine gL ?_);(first|refine aV H ?_|refine aL H ?_))|((with_reducible refine gA ?_);(refine bA H ?_;clear H;intro b w H;try simp only[nrm,nrl,Value.cells]at H)))|(go_at_call 81;(with_reducible refine ch (hit _) H ?_);clear H;intro w H)|((with_reducible show @wpList _ _ _ ({dst:=_,op:=Op.buildSlice _ _ _,type:=_,pos:=_,after:=_,guard:=_}::_) _ _);refine own_build wtd_ _ _ _ rfl H (rowC [S,t]).toArray 28 (by intro W;simp only[List.map_toArray,List.map_cons,List.map_nil];(try simp only[pe]);(with_reducible exact run_sets2 (S) (t) W)) ?_;clear H;intro b w H;try simp only[nrm,nrl,Value.cells]at H)|(go_at_call 82;(with_reducible refine ch (ref_join _ [S,t] (ok2 G.out.2.2 hk.2.2) _ (H.rdsn (L:=[S,t]) atd_ (by simp) (by simp[maxLen]))) H ?_);clear H;intro w H))
      go_roundw
      case rel=>exact⟨e2,f,false,unionS [S,t],rfl,rfl,by omega,Lib.hid ⟨G2.out,by have:=G.out.2.1;omega,unionS_ok (ok2 G.out.2.2 hk.2.2)⟩,H.take 2⟩
      case measure=>simp[intOf];omega
    ·have dj:decide ((L.length:Int)≤(j:Int))=true:=by simp;omega
     rw[itemP_out (by omega)]at eg
     have E3:=Lib.hid (show classP L i=none by rw[E.out,G.out.1,eg];rfl);clear eg
     go_wp2_with (first|(first|((with_reducible refine gT ?_);(refine aT H ?_;clear H;intro w H;try simp only[nrm,nrl,Value.cells]at H))|((with_reducible refine gL ?_);refine aD H ?_)))
     (refine ret_ct Try.results51 rfl (by first|rfl|(simp only[pl];rfl)) H atd_ (by first|(with_reducible exact row_Word)|(with_reducible exact row_Set)) (by rfl) rfl ?_)
     exact⟨WordR.no (w:={kind:=1,place:=i,set:=S,neg:=false}) E3.out,H.below⟩
   | false =>
    have ha2:=fun w=>ref_at L [93] j hL (by simp) (by simp) (by omega) w
    cases h2:atP L j [93] with
    | true =>
     rw[h2]at ha2
     rw[if_pos ⟨rfl,h2⟩]at eg
     have E3:=Lib.hid (show classP L i=some ({kind:=1,place:=i,set:=S,neg:=false},j+1) by rw[E.out,G.out.1,eg];rfl);clear eg h2
     go_wp2_with (first|(first|((with_reducible refine gT ?_);(refine aT H ?_;clear H;intro w H;try simp only[nrm,nrl,Value.cells]at H))|((with_reducible refine gL ?_);refine aD H ?_))|(go_at_call 52;(with_reducible refine ch (ha2 _) H ?_);clear H;intro w H))
     (refine ret_ct Try.results51 rfl (by first|rfl|(simp only[pl];rfl)) H atd_ (by first|(with_reducible exact row_Word)|(with_reducible exact row_Set)) (by rfl) rfl ?_)
     exact⟨WordR.ok (w:={kind:=1,place:=i,set:=S,neg:=false}) E3.out,H.below⟩
    | false =>
     rw[h2]at ha2
     rw[if_neg (by rintro⟨_,h⟩;rw[h2]at h;cases h)]at eg
     clear h2
     by_cases hjl:j<L.length
     ·have dj:decide ((L.length:Int)≤(j:Int))=false:=by simp;omega
      cases hi2:itemP L j with
      | none =>
       have hit:=fun w=>ref_item L j hL hjl w
       rw[hi2]at hit eg
       have E3:=Lib.hid (show classP L i=none by rw[E.out,G.out.1,eg];rfl);clear eg hi2
       simp only[ItemR]at hit
       go_wp2_with (first|(first|((with_reducible refine gT ?_);((first|refine aS H ?_|refine aT H ?_);clear H;intro w H;try simp only[nrm,nrl,Value.cells]at H))|((with_reducible refine gL ?_);refine aD H ?_)|((with_reducible refine gA ?_);(refine bA H ?_;clear H;intro b w H;try simp only[nrm,nrl,Value.cells]at H)))|(go_at_call 52;(with_reducible refine ch (ha2 _) H ?_);clear H;intro w H)|(go_at_call 81;(with_reducible refine(hit _).mono ?_);rintro e w ⟨⟨S2,rfl⟩,hb⟩;replace H:=H.call hb;clear hb))
       (refine ret_ct Try.results51 rfl (by first|rfl|(simp only[pl];rfl)) H atd_ (by first|(with_reducible exact row_Word)|(with_reducible exact row_Set)) (by rfl) rfl ?_)
       exact⟨WordR.no (w:={kind:=1,place:=i,set:=S,neg:=false}) E3.out,H.below⟩
      | some p =>
       obtain⟨t,e2⟩:=p
       have hk:=itemP_le hi2
       have hit:=fun w=>ref_item L j hL hjl w
       rw[hi2]at hit eg
       simp only[ItemR]at hit eg
       have G2:=Lib.hid (show classGo L (L.length+1) (i+1) true emptyS=classGo L f e2 false (unionS [S,t]) by rw[G.out.1,eg]);clear eg hi2
       have de:decide ((e2:Int)<0)=false:=by simp
       go_wp2_with (first|(first|((with_reducible refine gT ?_);((first|refine aS H ?_|refine aW H ?_);clear H;intro w H;try simp only[nrm,nrl,Value.cells]at H))|((with_reducible refine gL ?_);(first|refine aV H ?_|refine aL H ?_))|((with_reducible refine gA ?_);(refine bA H ?_;clear H;intro b w H;try simp only[nrm,nrl,Value.cells]at H)))|(go_at_call 52;(with_reducible refine ch (ha2 _) H ?_);clear H;intro w H)|(go_at_call 81;(with_reducible refine ch (hit _) H ?_);clear H;intro w H)|((with_reducible show @wpList _ _ _ ({dst:=_,op:=Op.buildSlice _ _ _,type:=_,pos:=_,after:=_,guard:=_}::_) _ _);refine own_build wtd_ _ _ _ rfl H (rowC [S,t]).toArray 28 (by intro W;simp only[List.map_toArray,List.map_cons,List.map_nil];(try simp only[pe]);(with_reducible exact run_sets2 (S) (t) W)) ?_;clear H;intro b w H;try simp only[nrm,nrl,Value.cells]at H)|(go_at_call 82;(with_reducible refine ch (ref_join _ [S,t] (ok2 G.out.2.2 hk.2.2) _ (H.rdsn (L:=[S,t]) atd_ (by simp) (by simp[maxLen]))) H ?_);clear H;intro w H))
       go_roundw
       case rel=>exact⟨e2,f,false,unionS [S,t],rfl,rfl,by omega,Lib.hid ⟨G2.out,by have:=G.out.2.1;omega,unionS_ok (ok2 G.out.2.2 hk.2.2)⟩,H.take 2⟩
       case measure=>simp[intOf];omega
     ·have dj:decide ((L.length:Int)≤(j:Int))=true:=by simp;omega
      rw[itemP_out (by omega)]at eg
      have E3:=Lib.hid (show classP L i=none by rw[E.out,G.out.1,eg];rfl);clear eg
      go_wp2_with (first|(first|((with_reducible refine gT ?_);(refine aT H ?_;clear H;intro w H;try simp only[nrm,nrl,Value.cells]at H))|((with_reducible refine gL ?_);refine aD H ?_))|(go_at_call 52;(with_reducible refine ch (ha2 _) H ?_);clear H;intro w H))
      (refine ret_ct Try.results51 rfl (by first|rfl|(simp only[pl];rfl)) H atd_ (by first|(with_reducible exact row_Word)|(with_reducible exact row_Set)) (by rfl) rfl ?_)
      exact⟨WordR.no (w:={kind:=1,place:=i,set:=S,neg:=false}) E3.out,H.below⟩
theorem fl_105f {L:Str} {f j:Nat} {op:Bool} {d:WordD} (h1:j<L.length) (h2:byt L j=105):flagsGo L (f+1) j false op d=flagsGo L f (j+1) false true {d with on:=(true,d.on.2.1,d.on.2.2)}:=by
 rw[flagsGo,if_pos h1];simp[h2]
theorem fl_105t {L:Str} {f j:Nat} {op:Bool} {d:WordD} (h1:j<L.length) (h2:byt L j=105):flagsGo L (f+1) j true op d=flagsGo L f (j+1) true true {d with off:=(true,d.off.2.1,d.off.2.2)}:=by
 rw[flagsGo,if_pos h1];simp[h2]
theorem fl_109f {L:Str} {f j:Nat} {op:Bool} {d:WordD} (h1:j<L.length) (h2:byt L j=109):flagsGo L (f+1) j false op d=flagsGo L f (j+1) false true {d with on:=(d.on.1,true,d.on.2.2)}:=by
 rw[flagsGo,if_pos h1];simp[h2]
theorem fl_109t {L:Str} {f j:Nat} {op:Bool} {d:WordD} (h1:j<L.length) (h2:byt L j=109):flagsGo L (f+1) j true op d=flagsGo L f (j+1) true true {d with off:=(d.off.1,true,d.off.2.2)}:=by
 rw[flagsGo,if_pos h1];simp[h2]
theorem fl_115f {L:Str} {f j:Nat} {op:Bool} {d:WordD} (h1:j<L.length) (h2:byt L j=115):flagsGo L (f+1) j false op d=flagsGo L f (j+1) false true {d with on:=(d.on.1,d.on.2.1,true)}:=by
 rw[flagsGo,if_pos h1];simp[h2]
theorem fl_115t {L:Str} {f j:Nat} {op:Bool} {d:WordD} (h1:j<L.length) (h2:byt L j=115):flagsGo L (f+1) j true op d=flagsGo L f (j+1) true true {d with off:=(d.off.1,d.off.2.1,true)}:=by
 rw[flagsGo,if_pos h1];simp[h2]
theorem fl_45f {L:Str} {f j:Nat} {op:Bool} {d:WordD} (h1:j<L.length) (h2:byt L j=45):flagsGo L (f+1) j false op d=flagsGo L f (j+1) true false d:=by
 rw[flagsGo,if_pos h1];simp[h2]
theorem fl_45t {L:Str} {f j:Nat} {op:Bool} {d:WordD} (h1:j<L.length) (h2:byt L j=45):flagsGo L (f+1) j true op d=none:=by
 rw[flagsGo,if_pos h1];simp[h2]
theorem fl_58y {L:Str} {f j:Nat} {off:Bool} {d:WordD} (h1:j<L.length) (h2:byt L j=58):flagsGo L (f+1) j off true d=some ({d with kind:=7},j+1):=by
 rw[flagsGo,if_pos h1];simp[h2]
theorem fl_58n {L:Str} {f j:Nat} {off:Bool} {d:WordD} (h1:j<L.length) (h2:byt L j=58):flagsGo L (f+1) j off false d=none:=by
 rw[flagsGo,if_pos h1];simp[h2]
theorem fl_41y {L:Str} {f j:Nat} {off:Bool} {d:WordD} (h1:j<L.length) (h2:byt L j=41):flagsGo L (f+1) j off true d=some ({d with kind:=8},j+1):=by
 rw[flagsGo,if_pos h1];simp[h2]
theorem fl_41n {L:Str} {f j:Nat} {off:Bool} {d:WordD} (h1:j<L.length) (h2:byt L j=41):flagsGo L (f+1) j off false d=none:=by
 rw[flagsGo,if_pos h1];simp[h2]
theorem fl_no {L:Str} {f j:Nat} {off op:Bool} {d:WordD} (h1:j<L.length) (h2:byt L j≠105) (h3:byt L j≠109) (h4:byt L j≠115) (h5:byt L j≠45) (h6:byt L j≠58) (h7:byt L j≠41):flagsGo L (f+1) j off op d=none:=by
 rw[flagsGo,if_pos h1];simp[h2,h3,h4,h5,h6,h7]
theorem fl_end {L:Str} {f j:Nat} {off op:Bool} {d:WordD} (h1:¬ j<L.length):flagsGo L (f+1) j off op d=none:=by
 rw[flagsGo,if_neg h1]
theorem ref_flags (L:Str) (i:Nat) (hL:L.length≤2000) (hi:i+2≤L.length) (w0:World):Calls Try.prog 53 #[.string ⟨L.toArray⟩,.int .i64 i] w0 fun e w'=>WordR (flagsP L i) e∧Below w0.heap.size w0 w':=by
 have H:=Hold.start w0
 go_enter Try.func53,Try.ntmps53
 go_wp2_with (first|((first|((with_reducible refine kgA 4 ?_);refine kA 4 H ?_)|((with_reducible refine kgX 4 ?_);(first|refine kS 4 H ?_|refine kB 4 H ?_)));clear H;intro b4 w H;try simp only[nrm,nrl,Value.cells]at H)|((first|((with_reducible refine kgA 6 ?_);refine kA 6 H ?_)|((with_reducible refine kgX 6 ?_);(first|refine kS 6 H ?_|refine kB 6 H ?_)));clear H;intro b6 w H;try simp only[nrm,nrl,Value.cells]at H)|((with_reducible refine gT ?_);(refine aT H ?_;clear H;intro w H;try simp only[nrm,nrl,Value.cells]at H)))
 go_loopw [7,8,9] (fun o sm k wr=>∃ (j f:Nat) (bo bs:Bool) (d:WordD),o=.bool bo∧sm=.bool bs∧k=.int .i64 j∧j≤L.length∧Hid (flagsP L i=flagsGo L f j bo (!bo || bs) d∧L.length<f+j)∧Hold w0 wr [.blk b4 (wordC {kind:=0,place:=0}) 83,.blk b6 (wordC d) 83]) (fun _ _ k _=>L.length+2 - (intOf k).toNat)
 case atStart=>exact⟨i+2,L.length+1,false,false,{kind:=0,place:=i},rfl,rfl,by first|rfl|(simp;done),hi,Lib.hid ⟨rfl,by omega⟩,H⟩
 case round =>
  clear H
  obtain⟨j,f,bo,bs,d,rfl,rfl,rfl,hj,G,H⟩:=hrel
  obtain⟨f,rfl⟩:∃ f',f=f'+1:=⟨f - 1,by have:=G.out.2;omega⟩
  by_cases hlt:j<L.length
  ·have dj:decide ((j:Int)<(L.length:Int))=true:=by simp;omega
   cases bo with
   | false =>
    simp only[Bool.not_false,Bool.true_or]at G
    by_cases hc:byt L j=105
    ·have G2:=Lib.hid (show flagsP L i=flagsGo L f (j+1) false true {d with on:=(true,d.on.2.1,d.on.2.2)} by rw[G.out.1,fl_105f hlt hc]); 
     have HC:=Lib.hid hc
     go_wp2_with (first|(first|((with_reducible refine gT ?_);(refine aO H ?_;clear H;intro w H;try simp only[nrm,nrl,Value.cells]at H))|((with_reducible refine gI ?_);refine aI ?_)))
     clear hc
     go_roundw
     case rel=>exact⟨j+1,f,false,true,{d with on:=(true,d.on.2.1,d.on.2.2)},by first|rfl|(simp;done),by first|rfl|(simp;done),by first|rfl|(simp;done),by omega,Lib.hid ⟨G2.out,by have:=G.out.2;omega⟩,H⟩
     case measure=>simp[intOf];omega
    ·have n105:((byt L j:Int) == 105)=false:=by rw[beq_eq_false_iff_ne];omega
     have m105:=Lib.hid hc;clear hc
     by_cases hc:byt L j=109
     ·have G2:=Lib.hid (show flagsP L i=flagsGo L f (j+1) false true {d with on:=(d.on.1,true,d.on.2.2)} by rw[G.out.1,fl_109f hlt hc]); 
      have HC:=Lib.hid hc
      go_wp2_with (first|(first|((with_reducible refine gT ?_);(refine aO H ?_;clear H;intro w H;try simp only[nrm,nrl,Value.cells]at H))|((with_reducible refine gI ?_);refine aI ?_)))
      clear hc
      go_roundw
      case rel=>exact⟨j+1,f,false,true,{d with on:=(d.on.1,true,d.on.2.2)},by first|rfl|(simp;done),by first|rfl|(simp;done),by first|rfl|(simp;done),by omega,Lib.hid ⟨G2.out,by have:=G.out.2;omega⟩,H⟩
      case measure=>simp[intOf];omega
     ·have n109:((byt L j:Int) == 109)=false:=by rw[beq_eq_false_iff_ne];omega
      have m109:=Lib.hid hc;clear hc
      by_cases hc:byt L j=115
      ·have G2:=Lib.hid (show flagsP L i=flagsGo L f (j+1) false true {d with on:=(d.on.1,d.on.2.1,true)} by rw[G.out.1,fl_115f hlt hc]); 
       have HC:=Lib.hid hc
       go_wp2_with (first|(first|((with_reducible refine gT ?_);(refine aO H ?_;clear H;intro w H;try simp only[nrm,nrl,Value.cells]at H))|((with_reducible refine gI ?_);refine aI ?_)))
       clear hc
       go_roundw
       case rel=>exact⟨j+1,f,false,true,{d with on:=(d.on.1,d.on.2.1,true)},by first|rfl|(simp;done),by first|rfl|(simp;done),by first|rfl|(simp;done),by omega,Lib.hid ⟨G2.out,by have:=G.out.2;omega⟩,H⟩
       case measure=>simp[intOf];omega
      ·have n115:((byt L j:Int) == 115)=false:=by rw[beq_eq_false_iff_ne];omega
       have m115:=Lib.hid hc;clear hc
       by_cases hc:byt L j=45
       ·have G2:=Lib.hid (show flagsP L i=flagsGo L f (j+1) true false d by rw[G.out.1,fl_45f hlt hc]); 
        have HC:=Lib.hid hc
        go_wp2_with (first|((with_reducible refine gI ?_);refine aI ?_))
        clear hc
        go_roundw
        case rel=>exact⟨j+1,f,true,false,d,by first|rfl|(simp;done),by first|rfl|(simp;done),by first|rfl|(simp;done),by omega,Lib.hid ⟨G2.out,by have:=G.out.2;omega⟩,H⟩
        case measure=>simp[intOf];omega
       ·have n45:((byt L j:Int) == 45)=false:=by rw[beq_eq_false_iff_ne];omega
        have m45:=Lib.hid hc;clear hc
        by_cases hc:byt L j=58
        ·have E3:=Lib.hid (show flagsP L i=some ({d with kind:=7},j+1) by rw[G.out.1];exact fl_58y hlt hc)
         go_wp2_with (first|(first|((with_reducible refine gT ?_);((first|refine aO H ?_|refine aT H ?_);clear H;intro w H;try simp only[nrm,nrl,Value.cells]at H))|((with_reducible refine gL ?_);refine aD H ?_)|((with_reducible refine gI ?_);refine aI ?_)))
         (refine ret_ct Try.results53 rfl (by first|rfl|(simp only[pl];rfl)) H atd_ (by first|(with_reducible exact row_Word)|(with_reducible exact row_Set)) (by rfl) rfl ?_)
         exact⟨WordR.ok (w:={d with kind:=7}) E3.out,H.below⟩
        ·have n58:((byt L j:Int) == 58)=false:=by rw[beq_eq_false_iff_ne];omega
         have m58:=Lib.hid hc;clear hc
         by_cases hc:byt L j=41
         ·have E3:=Lib.hid (show flagsP L i=some ({d with kind:=8},j+1) by rw[G.out.1];exact fl_41y hlt hc)
          go_wp2_with (first|(first|((with_reducible refine gT ?_);((first|refine aO H ?_|refine aT H ?_);clear H;intro w H;try simp only[nrm,nrl,Value.cells]at H))|((with_reducible refine gL ?_);refine aD H ?_)|((with_reducible refine gI ?_);refine aI ?_)))
          (refine ret_ct Try.results53 rfl (by first|rfl|(simp only[pl];rfl)) H atd_ (by first|(with_reducible exact row_Word)|(with_reducible exact row_Set)) (by rfl) rfl ?_)
          exact⟨WordR.ok (w:={d with kind:=8}) E3.out,H.below⟩
         ·have n41:((byt L j:Int) == 41)=false:=by rw[beq_eq_false_iff_ne];omega
          have m41:=Lib.hid hc;clear hc
          have E3:=Lib.hid (show flagsP L i=none by rw[G.out.1];exact fl_no hlt m105.out m109.out m115.out m45.out m58.out m41.out)
          go_wp2_with (first|(first|((with_reducible refine gT ?_);(refine aT H ?_;clear H;intro w H;try simp only[nrm,nrl,Value.cells]at H))|((with_reducible refine gL ?_);refine aD H ?_)|((with_reducible refine gI ?_);refine aI ?_)))
          (refine ret_ct Try.results53 rfl (by first|rfl|(simp only[pl];rfl)) H atd_ (by first|(with_reducible exact row_Word)|(with_reducible exact row_Set)) (by rfl) rfl ?_)
          exact⟨WordR.no (w:=d) E3.out,H.below⟩
   | true =>
    simp only[Bool.not_true,Bool.false_or]at G
    by_cases hc:byt L j=105
    ·have G2:=Lib.hid (show flagsP L i=flagsGo L f (j+1) true true {d with off:=(true,d.off.2.1,d.off.2.2)} by rw[G.out.1,fl_105t hlt hc]); 
     have HC:=Lib.hid hc
     go_wp2_with (first|(first|((with_reducible refine gT ?_);(refine aO H ?_;clear H;intro w H;try simp only[nrm,nrl,Value.cells]at H))|((with_reducible refine gI ?_);refine aI ?_)))
     clear hc
     go_roundw
     case rel=>exact⟨j+1,f,true,true,{d with off:=(true,d.off.2.1,d.off.2.2)},by first|rfl|(simp;done),by first|rfl|(simp;done),by first|rfl|(simp;done),by omega,Lib.hid ⟨G2.out,by have:=G.out.2;omega⟩,H⟩
     case measure=>simp[intOf];omega
    ·have n105:((byt L j:Int) == 105)=false:=by rw[beq_eq_false_iff_ne];omega
     have m105:=Lib.hid hc;clear hc
     by_cases hc:byt L j=109
     ·have G2:=Lib.hid (show flagsP L i=flagsGo L f (j+1) true true {d with off:=(d.off.1,true,d.off.2.2)} by rw[G.out.1,fl_109t hlt hc]); 
      have HC:=Lib.hid hc
      go_wp2_with (first|(first|((with_reducible refine gT ?_);(refine aO H ?_;clear H;intro w H;try simp only[nrm,nrl,Value.cells]at H))|((with_reducible refine gI ?_);refine aI ?_)))
      clear hc
      go_roundw
      case rel=>exact⟨j+1,f,true,true,{d with off:=(d.off.1,true,d.off.2.2)},by first|rfl|(simp;done),by first|rfl|(simp;done),by first|rfl|(simp;done),by omega,Lib.hid ⟨G2.out,by have:=G.out.2;omega⟩,H⟩
      case measure=>simp[intOf];omega
     ·have n109:((byt L j:Int) == 109)=false:=by rw[beq_eq_false_iff_ne];omega
      have m109:=Lib.hid hc;clear hc
      by_cases hc:byt L j=115
      ·have G2:=Lib.hid (show flagsP L i=flagsGo L f (j+1) true true {d with off:=(d.off.1,d.off.2.1,true)} by rw[G.out.1,fl_115t hlt hc]); 
       have HC:=Lib.hid hc
       go_wp2_with (first|(first|((with_reducible refine gT ?_);(refine aO H ?_;clear H;intro w H;try simp only[nrm,nrl,Value.cells]at H))|((with_reducible refine gI ?_);refine aI ?_)))
       clear hc
       go_roundw
       case rel=>exact⟨j+1,f,true,true,{d with off:=(d.off.1,d.off.2.1,true)},by first|rfl|(simp;done),by first|rfl|(simp;done),by first|rfl|(simp;done),by omega,Lib.hid ⟨G2.out,by have:=G.out.2;omega⟩,H⟩
       case measure=>simp[intOf];omega
      ·have n115:((byt L j:Int) == 115)=false:=by rw[beq_eq_false_iff_ne];omega
       have m115:=Lib.hid hc;clear hc
       by_cases hc:byt L j=45
       ·have E3:=Lib.hid (show flagsP L i=none by rw[G.out.1];exact fl_45t hlt hc)
        go_wp2_with (first|(first|((with_reducible refine gT ?_);(refine aT H ?_;clear H;intro w H;try simp only[nrm,nrl,Value.cells]at H))|((with_reducible refine gL ?_);refine aD H ?_)|((with_reducible refine gI ?_);refine aI ?_)))
        (refine ret_ct Try.results53 rfl (by first|rfl|(simp only[pl];rfl)) H atd_ (by first|(with_reducible exact row_Word)|(with_reducible exact row_Set)) (by rfl) rfl ?_)
        exact⟨WordR.no (w:=d) E3.out,H.below⟩
       ·have n45:((byt L j:Int) == 45)=false:=by rw[beq_eq_false_iff_ne];omega
        have m45:=Lib.hid hc;clear hc
        by_cases hc:byt L j=58
        ·cases bs with
         | true =>
          have E3:=Lib.hid (show flagsP L i=some ({d with kind:=7},j+1) by rw[G.out.1];exact fl_58y hlt hc)
          go_wp2_with (first|(first|((with_reducible refine gT ?_);((first|refine aO H ?_|refine aT H ?_);clear H;intro w H;try simp only[nrm,nrl,Value.cells]at H))|((with_reducible refine gL ?_);refine aD H ?_)|((with_reducible refine gI ?_);refine aI ?_)))
          (refine ret_ct Try.results53 rfl (by first|rfl|(simp only[pl];rfl)) H atd_ (by first|(with_reducible exact row_Word)|(with_reducible exact row_Set)) (by rfl) rfl ?_)
          exact⟨WordR.ok (w:={d with kind:=7}) E3.out,H.below⟩
         | false =>
          have E3:=Lib.hid (show flagsP L i=none by rw[G.out.1];exact fl_58n hlt hc)
          go_wp2_with (first|(first|((with_reducible refine gT ?_);(refine aT H ?_;clear H;intro w H;try simp only[nrm,nrl,Value.cells]at H))|((with_reducible refine gL ?_);refine aD H ?_)|((with_reducible refine gI ?_);refine aI ?_)))
          (refine ret_ct Try.results53 rfl (by first|rfl|(simp only[pl];rfl)) H atd_ (by first|(with_reducible exact row_Word)|(with_reducible exact row_Set)) (by rfl) rfl ?_)
          exact⟨WordR.no (w:=d) E3.out,H.below⟩
        ·have n58:((byt L j:Int) == 58)=false:=by rw[beq_eq_false_iff_ne];omega
         have m58:=Lib.hid hc;clear hc
         by_cases hc:byt L j=41
         ·cases bs with
          | true =>
           have E3:=Lib.hid (show flagsP L i=some ({d with kind:=8},j+1) by rw[G.out.1];exact fl_41y hlt hc)
           go_wp2_with (first|(first|((with_reducible refine gT ?_);((first|refine aO H ?_|refine aT H ?_);clear H;intro w H;try simp only[nrm,nrl,Value.cells]at H))|((with_reducible refine gL ?_);refine aD H ?_)|((with_reducible refine gI ?_);refine aI ?_)))
           (refine ret_ct Try.results53 rfl (by first|rfl|(simp only[pl];rfl)) H atd_ (by first|(with_reducible exact row_Word)|(with_reducible exact row_Set)) (by rfl) rfl ?_)
           exact⟨WordR.ok (w:={d with kind:=8}) E3.out,H.below⟩
          | false =>
           have E3:=Lib.hid (show flagsP L i=none by rw[G.out.1];exact fl_41n hlt hc)
           go_wp2_with (first|(first|((with_reducible refine gT ?_);(refine aT H ?_;clear H;intro w H;try simp only[nrm,nrl,Value.cells]at H))|((with_reducible refine gL ?_);refine aD H ?_)|((with_reducible refine gI ?_);refine aI ?_)))
           (refine ret_ct Try.results53 rfl (by first|rfl|(simp only[pl];rfl)) H atd_ (by first|(with_reducible exact row_Word)|(with_reducible exact row_Set)) (by rfl) rfl ?_)
           exact⟨WordR.no (w:=d) E3.out,H.below⟩
         ·have n41:((byt L j:Int) == 41)=false:=by rw[beq_eq_false_iff_ne];omega
          have m41:=Lib.hid hc;clear hc
          have E3:=Lib.hid (show flagsP L i=none by rw[G.out.1];exact fl_no hlt m105.out m109.out m115.out m45.out m58.out m41.out)
          go_wp2_with (first|(first|((with_reducible refine gT ?_);(refine aT H ?_;clear H;intro w H;try simp only[nrm,nrl,Value.cells]at H))|((with_reducible refine gL ?_);refine aD H ?_)|((with_reducible refine gI ?_);refine aI ?_)))
          (refine ret_ct Try.results53 rfl (by first|rfl|(simp only[pl];rfl)) H atd_ (by first|(with_reducible exact row_Word)|(with_reducible exact row_Set)) (by rfl) rfl ?_)
          exact⟨WordR.no (w:=d) E3.out,H.below⟩
  ·have dj:decide ((j:Int)<(L.length:Int))=false:=by simp;omega
   have E3:=Lib.hid (show flagsP L i=none by rw[G.out.1];exact fl_end hlt)
   go_wp2_with (first|(first|((with_reducible refine gT ?_);(refine aT H ?_;clear H;intro w H;try simp only[nrm,nrl,Value.cells]at H))|((with_reducible refine gL ?_);refine aD H ?_)))
   (refine ret_ct Try.results53 rfl (by first|rfl|(simp only[pl];rfl)) H atd_ (by first|(with_reducible exact row_Word)|(with_reducible exact row_Set)) (by rfl) rfl ?_)
   exact⟨WordR.no (w:=d) E3.out,H.below⟩
def spotL:Str:=[98,66,65,122]
def spotN:List Nat:=[12,13,8,9]
theorem spot_hit {c k:Nat} (hk:k<4) (h:c=byt spotL k):spotP c=some (spotN.getD k 0):=by
 subst h
 match k,hk with
 | 0,_=>rfl
 | 1,_=>rfl
 | 2,_=>rfl
 | 3,_=>rfl
theorem spot_none {c:Nat} (h:∀ m,m<4→c≠byt spotL m):spotP c=none:=by
 have h0:c≠98:=h 0 (by omega)
 have h1:c≠66:=h 1 (by omega)
 have h2:c≠65:=h 2 (by omega)
 have h3:c≠122:=h 3 (by omega)
 unfold spotP
 rw[if_neg h0,if_neg h1,if_neg h2,if_neg h3]
theorem slash1 {L:Str} {i:Nat} {s:Nat→Nat} (h:i+1<L.length) (hs:sortP (byt L (i+1))=some s):slashP L i=some ({kind:=1,place:=i,set:=s},i+2):=by
 unfold slashP;rw[if_pos h,hs]
theorem slash2 {L:Str} {i k:Nat} (h:i+1<L.length) (hs:sortP (byt L (i+1))=none) (hp:spotP (byt L (i+1))=some k):slashP L i=some ({kind:=5,place:=i,spot:=k},i+2):=by
 unfold slashP;rw[if_pos h,hs];simp only[];rw[if_pos h,hp]
theorem slash3 {L:Str} {i:Nat} (h:i+1<L.length) (hs:sortP (byt L (i+1))=none) (hp:spotP (byt L (i+1))=none):slashP L i=(escP L i).map (fun (b,e)=>({kind:=1,place:=i,set:=ofS [(b:Int)]},e)):=by
 unfold slashP;rw[if_pos h,hs];simp only[];rw[if_pos h,hp]
theorem slash4 {L:Str} {i:Nat} (h:¬ i+1<L.length):slashP L i=(escP L i).map (fun (b,e)=>({kind:=1,place:=i,set:=ofS [(b:Int)]},e)):=by
 unfold slashP;rw[if_neg h];simp only[];rw[if_neg h]
theorem ref_slash (L:Str) (i:Nat) (hL:L.length≤2000) (hi:i<L.length) (w0:World):Calls Try.prog 50 #[.string ⟨L.toArray⟩,.int .i64 i] w0 fun e w'=>WordR (slashP L i) e∧Below w0.heap.size w0 w':=by
 have H:=Hold.start w0
 by_cases h1:i+1<L.length
 ·have d1:decide ((i:Int)+1<(L.length:Int))=true:=by simp;omega
  have hso:=fun w=>ref_sort (byt L (i+1)) (byt_lt L (i+1)) w
  cases hs:sortP (byt L (i+1)) with
  | some s =>
   rw[hs]at hso
   simp only[setO,Option.getD_some,Option.isSome_some]at hso
   have E3:=Lib.hid (slash1 h1 hs);clear hs
   go_enter Try.func50,Try.ntmps50
   go_wp2_with (first|(first|((with_reducible refine gT ?_);(first|((first|refine aS H ?_|refine aT H ?_);clear H;intro w H;try simp only[nrm,nrl,Value.cells]at H)|(refine aN H ?_;clear H;intro w H;(try simp only[nrm,nrl,Value.cells]at H);try simp only[setSeg,nrl]at H)))|((with_reducible refine gL ?_);(first|refine aL H ?_|refine aD H ?_))|((with_reducible refine gA ?_);(refine bA H ?_;clear H;intro b w H;try simp only[nrm,nrl,Value.cells]at H))|((with_reducible refine gI ?_);refine aI ?_))|(go_at_call 79;(with_reducible refine ch (hso _) H ?_);clear H;intro w H))
   (refine ret_ct Try.results50 rfl (by first|rfl|(simp only[pl];rfl)) H atd_ (by first|(with_reducible exact row_Word)|(with_reducible exact row_Set)) (by rfl) rfl ?_)
   exact⟨WordR.ok (w:={kind:=1,place:=i,set:=s}) E3.out,H.below⟩
  | none =>
   rw[hs]at hso
   simp only[setO,Option.getD_none,Option.isSome_none]at hso
   have HS:=Lib.hid hs;clear hs
   go_enter Try.func50,Try.ntmps50
   go_wp2_with (first|((first|((with_reducible refine kgA 4 ?_);refine kA 4 H ?_)|((with_reducible refine kgX 4 ?_);(first|refine kS 4 H ?_|refine kB 4 H ?_)));clear H;intro b4 w H;try simp only[nrm,nrl,Value.cells]at H)|((first|((with_reducible refine kgA 6 ?_);refine kA 6 H ?_)|((with_reducible refine kgX 6 ?_);(first|refine kS 6 H ?_|refine kB 6 H ?_)));clear H;intro b6 w H;try simp only[nrm,nrl,Value.cells]at H)|((first|((with_reducible refine kgA 7 ?_);refine kA 7 H ?_)|((with_reducible refine kgX 7 ?_);(first|refine kS 7 H ?_|refine kB 7 H ?_)));clear H;intro b7 w H;try simp only[nrm,nrl,Value.cells]at H)|(first|((with_reducible refine gT ?_);((first|refine aS H ?_|refine aT H ?_);clear H;intro w H;try simp only[nrm,nrl,Value.cells]at H))|((with_reducible refine gI ?_);refine aI ?_))|(go_at_call 79;(with_reducible refine ch (hso _) H ?_);clear H;intro w H))
   go_loopw [10] (fun k wr=>∃ j:Nat,j≤4∧k=.int .i64 j∧Hid (∀ m,m<j→byt L (i+1)≠byt spotL m)∧Hold w0 wr [.blk b4 (wordC {kind:=0,place:=0}) 83,.blk b6 (wordC {kind:=1,place:=i}) 83,.blk b7 (setC emptyS) 28]) (fun k _=>5 - (intOf k).toNat)
   case atStart=>exact⟨0,by omega,rfl,Lib.hid (fun m hm=>by omega),H⟩
   case round =>
    clear H
    obtain⟨j,hj,rfl,G,H⟩:=hrel
    by_cases hj4:j<4
    ·have hd4:decide ((j:Int)<4)=true:=by simp;omega
     by_cases hit:byt L (i+1)=byt spotL j
     ·have E3:=Lib.hid (slash2 h1 HS.out (spot_hit hj4 hit))
      have h3:((byt L (i+1):Int) == (byt spotL j:Int))=true:=by rw[beq_iff_eq,hit]
      clear hit
      have hj':j=0∨j=1∨j=2∨j=3:=by omega
      unfold spotL at h3
      rcases hj' with rfl|rfl|rfl|rfl
      ·go_upto_region 11 with fail
       refine wp_region_spec 8 [fun v _=>v=.string ⟨L.toArray⟩,fun v _=>v=.int .i64 (i:Int),fun v _=>v=.int .i64 ((i+1:Nat):Int),fun v _=>v=.int .u8 (byt L (i+1):Int),fun v _=>v=.string ⟨#[98,66,65,122]⟩,fun v _=>v=.int .i64 ((0:Nat):Int),fun v _=>v=.int .u8 (byt [98,66,65,122] 0:Int),fun v _=>v=.bool true] (fun _=>false) (by kernel_rfl) (by kernel_rfl) (by kernel_rfl) (by repeat (first|exact trivial|refine⟨stable_eq _,?_⟩)) (fun _ _ h=>by cases h) ?ob ?en
       case ob =>
        refine⟨?_,?_,?_,?_,?_,?_,?_,?_,trivial⟩<;>intro A W h
        ·exact rs_move rfl rfl (h.frame 0 rfl) (by decide)
        ·exact rs_move rfl rfl (h.frame 1 rfl) (by decide)
        ·(have e41:A.eval (.tmp 41)=.int .i64 (i:Int):=h.dep 1 41 rfl rfl;refine rs_pure rfl ?_ (by decide);simp only[execOp,e41];(simp[go_sem]<;>first|done|omega|(rw[IntKind.wrap_i64];omega)|(rw[IntKind.wrap_u8];omega)|(rw[IntKind.wrap_u64];omega)))
        ·exact rs_pure rfl (str_index_run rfl Try.underlying9 (h.dep 0 40 rfl rfl) (h.dep 2 42 rfl rfl) rfl (by omega)) (by decide)
        ·exact rs_move rfl rfl (h.frame 9 rfl) (by decide)
        ·exact rs_move rfl rfl (h.frame 10 rfl) (by decide)
        ·exact rs_pure rfl (str_index_run (L:=[98,66,65,122]) rfl Try.underlying9 (h.dep 4 44 rfl rfl) (h.dep 5 45 rfl rfl) rfl (by first|(simp;done)|(simp;omega))) (by decide)
        ·(have e43:A.eval (.tmp 43)=.int .u8 (byt L (i+1):Int):=h.dep 3 43 rfl rfl;have e46:A.eval (.tmp 46)=.int .u8 (byt [98,66,65,122] 0:Int):=h.dep 6 46 rfl rfl;refine rs_pure rfl ?_ (by decide);simp only[execOp,e43,e46];(simp[go_sem,h3]))
       case en =>
        intro vals W hbw hv _
        have v0:vals 0=_:=hv 0 (by omega)
        have v1:vals 1=_:=hv 1 (by omega)
        have v2:vals 2=_:=hv 2 (by omega)
        have v3:vals 3=_:=hv 3 (by omega)
        have v4:vals 4=_:=hv 4 (by omega)
        have v5:vals 5=_:=hv 5 (by omega)
        have v6:vals 6=_:=hv 6 (by omega)
        have v7:vals 7=_:=hv 7 (by omega)
        simp only[List.take_succ_cons,List.take_zero,List.drop_succ_cons,List.drop_zero,List.drop_nil,List.take_nil,fillAll,Nat.zero_add,Nat.reduceAdd]
        rw[v0,v1,v2,v3,v4,v5,v6,v7]
        clear hv v0 v1 v2 v3 v4 v5 v6 v7
        try simp only[pl]
        replace H:=H.call hbw;clear hbw
        go_wp2_with (first|(first|((with_reducible refine gT ?_);(refine aT H ?_;clear H;intro w H;try simp only[nrm,nrl,Value.cells]at H))|((with_reducible refine gL ?_);refine aG H ?_))|((with_reducible show @wpList _ _ _ ({dst:=_,op:=Op.buildSlice _ _ _,type:=_,pos:=_,after:=_,guard:=_}::_) _ _);refine own_build wtd_ _ _ _ rfl H (#[.int .i64 12,.int .i64 13,.int .i64 8,.int .i64 9]) 25 (by intro W;simp only[List.map_toArray,List.map_cons,List.map_nil];(try simp only[pe]);(try unfold setV);simp[go_sem]<;>rfl) ?_;clear H;intro b w H;try simp only[nrm,nrl,Value.cells]at H))
        (refine ret_ct Try.results50 rfl (by first|rfl|(simp only[pl];rfl)) H atd_ (by first|(with_reducible exact row_Word)|(with_reducible exact row_Set)) (by rfl) rfl ?_)
        exact⟨WordR.ok (w:={kind:=5,place:=i,spot:=12}) E3.out,H.below⟩
      ·go_upto_region 11 with fail
       refine wp_region_spec 8 [fun v _=>v=.string ⟨L.toArray⟩,fun v _=>v=.int .i64 (i:Int),fun v _=>v=.int .i64 ((i+1:Nat):Int),fun v _=>v=.int .u8 (byt L (i+1):Int),fun v _=>v=.string ⟨#[98,66,65,122]⟩,fun v _=>v=.int .i64 ((1:Nat):Int),fun v _=>v=.int .u8 (byt [98,66,65,122] 1:Int),fun v _=>v=.bool true] (fun _=>false) (by kernel_rfl) (by kernel_rfl) (by kernel_rfl) (by repeat (first|exact trivial|refine⟨stable_eq _,?_⟩)) (fun _ _ h=>by cases h) ?ob ?en
       case ob =>
        refine⟨?_,?_,?_,?_,?_,?_,?_,?_,trivial⟩<;>intro A W h
        ·exact rs_move rfl rfl (h.frame 0 rfl) (by decide)
        ·exact rs_move rfl rfl (h.frame 1 rfl) (by decide)
        ·(have e41:A.eval (.tmp 41)=.int .i64 (i:Int):=h.dep 1 41 rfl rfl;refine rs_pure rfl ?_ (by decide);simp only[execOp,e41];(simp[go_sem]<;>first|done|omega|(rw[IntKind.wrap_i64];omega)|(rw[IntKind.wrap_u8];omega)|(rw[IntKind.wrap_u64];omega)))
        ·exact rs_pure rfl (str_index_run rfl Try.underlying9 (h.dep 0 40 rfl rfl) (h.dep 2 42 rfl rfl) rfl (by omega)) (by decide)
        ·exact rs_move rfl rfl (h.frame 9 rfl) (by decide)
        ·exact rs_move rfl rfl (h.frame 10 rfl) (by decide)
        ·exact rs_pure rfl (str_index_run (L:=[98,66,65,122]) rfl Try.underlying9 (h.dep 4 44 rfl rfl) (h.dep 5 45 rfl rfl) rfl (by first|(simp;done)|(simp;omega))) (by decide)
        ·(have e43:A.eval (.tmp 43)=.int .u8 (byt L (i+1):Int):=h.dep 3 43 rfl rfl;have e46:A.eval (.tmp 46)=.int .u8 (byt [98,66,65,122] 1:Int):=h.dep 6 46 rfl rfl;refine rs_pure rfl ?_ (by decide);simp only[execOp,e43,e46];(simp[go_sem,h3]))
       case en =>
        intro vals W hbw hv _
        have v0:vals 0=_:=hv 0 (by omega)
        have v1:vals 1=_:=hv 1 (by omega)
        have v2:vals 2=_:=hv 2 (by omega)
        have v3:vals 3=_:=hv 3 (by omega)
        have v4:vals 4=_:=hv 4 (by omega)
        have v5:vals 5=_:=hv 5 (by omega)
        have v6:vals 6=_:=hv 6 (by omega)
        have v7:vals 7=_:=hv 7 (by omega)
        simp only[List.take_succ_cons,List.take_zero,List.drop_succ_cons,List.drop_zero,List.drop_nil,List.take_nil,fillAll,Nat.zero_add,Nat.reduceAdd]
        rw[v0,v1,v2,v3,v4,v5,v6,v7]
        clear hv v0 v1 v2 v3 v4 v5 v6 v7
        try simp only[pl]
        replace H:=H.call hbw;clear hbw
        go_wp2_with (first|(first|((with_reducible refine gT ?_);(refine aT H ?_;clear H;intro w H;try simp only[nrm,nrl,Value.cells]at H))|((with_reducible refine gL ?_);refine aG H ?_))|((with_reducible show @wpList _ _ _ ({dst:=_,op:=Op.buildSlice _ _ _,type:=_,pos:=_,after:=_,guard:=_}::_) _ _);refine own_build wtd_ _ _ _ rfl H (#[.int .i64 12,.int .i64 13,.int .i64 8,.int .i64 9]) 25 (by intro W;simp only[List.map_toArray,List.map_cons,List.map_nil];(try simp only[pe]);(try unfold setV);simp[go_sem]<;>rfl) ?_;clear H;intro b w H;try simp only[nrm,nrl,Value.cells]at H))
        (refine ret_ct Try.results50 rfl (by first|rfl|(simp only[pl];rfl)) H atd_ (by first|(with_reducible exact row_Word)|(with_reducible exact row_Set)) (by rfl) rfl ?_)
        exact⟨WordR.ok (w:={kind:=5,place:=i,spot:=13}) E3.out,H.below⟩
      ·go_upto_region 11 with fail
       refine wp_region_spec 8 [fun v _=>v=.string ⟨L.toArray⟩,fun v _=>v=.int .i64 (i:Int),fun v _=>v=.int .i64 ((i+1:Nat):Int),fun v _=>v=.int .u8 (byt L (i+1):Int),fun v _=>v=.string ⟨#[98,66,65,122]⟩,fun v _=>v=.int .i64 ((2:Nat):Int),fun v _=>v=.int .u8 (byt [98,66,65,122] 2:Int),fun v _=>v=.bool true] (fun _=>false) (by kernel_rfl) (by kernel_rfl) (by kernel_rfl) (by repeat (first|exact trivial|refine⟨stable_eq _,?_⟩)) (fun _ _ h=>by cases h) ?ob ?en
       case ob =>
        refine⟨?_,?_,?_,?_,?_,?_,?_,?_,trivial⟩<;>intro A W h
        ·exact rs_move rfl rfl (h.frame 0 rfl) (by decide)
        ·exact rs_move rfl rfl (h.frame 1 rfl) (by decide)
        ·(have e41:A.eval (.tmp 41)=.int .i64 (i:Int):=h.dep 1 41 rfl rfl;refine rs_pure rfl ?_ (by decide);simp only[execOp,e41];(simp[go_sem]<;>first|done|omega|(rw[IntKind.wrap_i64];omega)|(rw[IntKind.wrap_u8];omega)|(rw[IntKind.wrap_u64];omega)))
        ·exact rs_pure rfl (str_index_run rfl Try.underlying9 (h.dep 0 40 rfl rfl) (h.dep 2 42 rfl rfl) rfl (by omega)) (by decide)
        ·exact rs_move rfl rfl (h.frame 9 rfl) (by decide)
        ·exact rs_move rfl rfl (h.frame 10 rfl) (by decide)
        ·exact rs_pure rfl (str_index_run (L:=[98,66,65,122]) rfl Try.underlying9 (h.dep 4 44 rfl rfl) (h.dep 5 45 rfl rfl) rfl (by first|(simp;done)|(simp;omega))) (by decide)
        ·(have e43:A.eval (.tmp 43)=.int .u8 (byt L (i+1):Int):=h.dep 3 43 rfl rfl;have e46:A.eval (.tmp 46)=.int .u8 (byt [98,66,65,122] 2:Int):=h.dep 6 46 rfl rfl;refine rs_pure rfl ?_ (by decide);simp only[execOp,e43,e46];(simp[go_sem,h3]))
       case en =>
        intro vals W hbw hv _
        have v0:vals 0=_:=hv 0 (by omega)
        have v1:vals 1=_:=hv 1 (by omega)
        have v2:vals 2=_:=hv 2 (by omega)
        have v3:vals 3=_:=hv 3 (by omega)
        have v4:vals 4=_:=hv 4 (by omega)
        have v5:vals 5=_:=hv 5 (by omega)
        have v6:vals 6=_:=hv 6 (by omega)
        have v7:vals 7=_:=hv 7 (by omega)
        simp only[List.take_succ_cons,List.take_zero,List.drop_succ_cons,List.drop_zero,List.drop_nil,List.take_nil,fillAll,Nat.zero_add,Nat.reduceAdd]
        rw[v0,v1,v2,v3,v4,v5,v6,v7]
        clear hv v0 v1 v2 v3 v4 v5 v6 v7
        try simp only[pl]
        replace H:=H.call hbw;clear hbw
        go_wp2_with (first|(first|((with_reducible refine gT ?_);(refine aT H ?_;clear H;intro w H;try simp only[nrm,nrl,Value.cells]at H))|((with_reducible refine gL ?_);refine aG H ?_))|((with_reducible show @wpList _ _ _ ({dst:=_,op:=Op.buildSlice _ _ _,type:=_,pos:=_,after:=_,guard:=_}::_) _ _);refine own_build wtd_ _ _ _ rfl H (#[.int .i64 12,.int .i64 13,.int .i64 8,.int .i64 9]) 25 (by intro W;simp only[List.map_toArray,List.map_cons,List.map_nil];(try simp only[pe]);(try unfold setV);simp[go_sem]<;>rfl) ?_;clear H;intro b w H;try simp only[nrm,nrl,Value.cells]at H))
        (refine ret_ct Try.results50 rfl (by first|rfl|(simp only[pl];rfl)) H atd_ (by first|(with_reducible exact row_Word)|(with_reducible exact row_Set)) (by rfl) rfl ?_)
        exact⟨WordR.ok (w:={kind:=5,place:=i,spot:=8}) E3.out,H.below⟩
      ·go_upto_region 11 with fail
       refine wp_region_spec 8 [fun v _=>v=.string ⟨L.toArray⟩,fun v _=>v=.int .i64 (i:Int),fun v _=>v=.int .i64 ((i+1:Nat):Int),fun v _=>v=.int .u8 (byt L (i+1):Int),fun v _=>v=.string ⟨#[98,66,65,122]⟩,fun v _=>v=.int .i64 ((3:Nat):Int),fun v _=>v=.int .u8 (byt [98,66,65,122] 3:Int),fun v _=>v=.bool true] (fun _=>false) (by kernel_rfl) (by kernel_rfl) (by kernel_rfl) (by repeat (first|exact trivial|refine⟨stable_eq _,?_⟩)) (fun _ _ h=>by cases h) ?ob ?en
       case ob =>
        refine⟨?_,?_,?_,?_,?_,?_,?_,?_,trivial⟩<;>intro A W h
        ·exact rs_move rfl rfl (h.frame 0 rfl) (by decide)
        ·exact rs_move rfl rfl (h.frame 1 rfl) (by decide)
        ·(have e41:A.eval (.tmp 41)=.int .i64 (i:Int):=h.dep 1 41 rfl rfl;refine rs_pure rfl ?_ (by decide);simp only[execOp,e41];(simp[go_sem]<;>first|done|omega|(rw[IntKind.wrap_i64];omega)|(rw[IntKind.wrap_u8];omega)|(rw[IntKind.wrap_u64];omega)))
        ·exact rs_pure rfl (str_index_run rfl Try.underlying9 (h.dep 0 40 rfl rfl) (h.dep 2 42 rfl rfl) rfl (by omega)) (by decide)
        ·exact rs_move rfl rfl (h.frame 9 rfl) (by decide)
        ·exact rs_move rfl rfl (h.frame 10 rfl) (by decide)
        ·exact rs_pure rfl (str_index_run (L:=[98,66,65,122]) rfl Try.underlying9 (h.dep 4 44 rfl rfl) (h.dep 5 45 rfl rfl) rfl (by first|(simp;done)|(simp;omega))) (by decide)
        ·(have e43:A.eval (.tmp 43)=.int .u8 (byt L (i+1):Int):=h.dep 3 43 rfl rfl;have e46:A.eval (.tmp 46)=.int .u8 (byt [98,66,65,122] 3:Int):=h.dep 6 46 rfl rfl;refine rs_pure rfl ?_ (by decide);simp only[execOp,e43,e46];(simp[go_sem,h3]))
       case en =>
        intro vals W hbw hv _
        have v0:vals 0=_:=hv 0 (by omega)
        have v1:vals 1=_:=hv 1 (by omega)
        have v2:vals 2=_:=hv 2 (by omega)
        have v3:vals 3=_:=hv 3 (by omega)
        have v4:vals 4=_:=hv 4 (by omega)
        have v5:vals 5=_:=hv 5 (by omega)
        have v6:vals 6=_:=hv 6 (by omega)
        have v7:vals 7=_:=hv 7 (by omega)
        simp only[List.take_succ_cons,List.take_zero,List.drop_succ_cons,List.drop_zero,List.drop_nil,List.take_nil,fillAll,Nat.zero_add,Nat.reduceAdd]
        rw[v0,v1,v2,v3,v4,v5,v6,v7]
        clear hv v0 v1 v2 v3 v4 v5 v6 v7
        try simp only[pl]
        replace H:=H.call hbw;clear hbw
        go_wp2_with (first|(first|((with_reducible refine gT ?_);(refine aT H ?_;clear H;intro w H;try simp only[nrm,nrl,Value.cells]at H))|((with_reducible refine gL ?_);refine aG H ?_))|((with_reducible show @wpList _ _ _ ({dst:=_,op:=Op.buildSlice _ _ _,type:=_,pos:=_,after:=_,guard:=_}::_) _ _);refine own_build wtd_ _ _ _ rfl H (#[.int .i64 12,.int .i64 13,.int .i64 8,.int .i64 9]) 25 (by intro W;simp only[List.map_toArray,List.map_cons,List.map_nil];(try simp only[pe]);(try unfold setV);simp[go_sem]<;>rfl) ?_;clear H;intro b w H;try simp only[nrm,nrl,Value.cells]at H))
        (refine ret_ct Try.results50 rfl (by first|rfl|(simp only[pl];rfl)) H atd_ (by first|(with_reducible exact row_Word)|(with_reducible exact row_Set)) (by rfl) rfl ?_)
        exact⟨WordR.ok (w:={kind:=5,place:=i,spot:=9}) E3.out,H.below⟩
     ·have h3:((byt L (i+1):Int) == (byt spotL j:Int))=false:=by rw[beq_eq_false_iff_ne];omega
      unfold spotL at h3
      have HIT:=Lib.hid hit;clear hit
      go_upto_region 11 with fail
      refine wp_region_spec 8 [fun v _=>v=.string ⟨L.toArray⟩,fun v _=>v=.int .i64 (i:Int),fun v _=>v=.int .i64 ((i+1:Nat):Int),fun v _=>v=.int .u8 (byt L (i+1):Int),fun v _=>v=.string ⟨#[98,66,65,122]⟩,fun v _=>v=.int .i64 ((j:Nat):Int),fun v _=>v=.int .u8 (byt [98,66,65,122] j:Int),fun v _=>v=.bool false] (fun _=>false) (by kernel_rfl) (by kernel_rfl) (by kernel_rfl) (by repeat (first|exact trivial|refine⟨stable_eq _,?_⟩)) (fun _ _ h=>by cases h) ?ob ?en
      case ob =>
       refine⟨?_,?_,?_,?_,?_,?_,?_,?_,trivial⟩<;>intro A W h
       ·exact rs_move rfl rfl (h.frame 0 rfl) (by decide)
       ·exact rs_move rfl rfl (h.frame 1 rfl) (by decide)
       ·(have e41:A.eval (.tmp 41)=.int .i64 (i:Int):=h.dep 1 41 rfl rfl;refine rs_pure rfl ?_ (by decide);simp only[execOp,e41];(simp[go_sem]<;>first|done|omega|(rw[IntKind.wrap_i64];omega)|(rw[IntKind.wrap_u8];omega)|(rw[IntKind.wrap_u64];omega)))
       ·exact rs_pure rfl (str_index_run rfl Try.underlying9 (h.dep 0 40 rfl rfl) (h.dep 2 42 rfl rfl) rfl (by omega)) (by decide)
       ·exact rs_move rfl rfl (h.frame 9 rfl) (by decide)
       ·exact rs_move rfl rfl (h.frame 10 rfl) (by decide)
       ·exact rs_pure rfl (str_index_run (L:=[98,66,65,122]) rfl Try.underlying9 (h.dep 4 44 rfl rfl) (h.dep 5 45 rfl rfl) rfl (by first|(simp;done)|(simp;omega))) (by decide)
       ·(have e43:A.eval (.tmp 43)=.int .u8 (byt L (i+1):Int):=h.dep 3 43 rfl rfl;have e46:A.eval (.tmp 46)=.int .u8 (byt [98,66,65,122] j:Int):=h.dep 6 46 rfl rfl;refine rs_pure rfl ?_ (by decide);simp only[execOp,e43,e46];(simp[go_sem,h3]))
      case en =>
       intro vals W hbw hv _
       have v0:vals 0=_:=hv 0 (by omega)
       have v1:vals 1=_:=hv 1 (by omega)
       have v2:vals 2=_:=hv 2 (by omega)
       have v3:vals 3=_:=hv 3 (by omega)
       have v4:vals 4=_:=hv 4 (by omega)
       have v5:vals 5=_:=hv 5 (by omega)
       have v6:vals 6=_:=hv 6 (by omega)
       have v7:vals 7=_:=hv 7 (by omega)
       simp only[List.take_succ_cons,List.take_zero,List.drop_succ_cons,List.drop_zero,List.drop_nil,List.take_nil,fillAll,Nat.zero_add,Nat.reduceAdd]
       rw[v0,v1,v2,v3,v4,v5,v6,v7]
       clear hv v0 v1 v2 v3 v4 v5 v6 v7
       try simp only[pl]
       replace H:=H.call hbw;clear hbw
       go_wp2_with (first|fail)
       go_roundw
       case rel=>exact⟨j+1,by omega,by go_num,Lib.hid (fun m hm=>by
        by_cases e:m=j
        ·subst e;exact HIT.out
        ·exact G.out m (by omega)),H⟩
       case measure=>simp[intOf];omega
    ·obtain rfl:j=4:=by omega
     have E:=slash3 h1 HS.out (spot_none (fun m hm=>G.out m hm))
     have E2:=Lib.hid E;clear E
     have hes:=fun w=>ref_escape L i hL (by omega) w
     cases he:escP L i with
     | none =>
      rw[he]at hes
      simp only[escV]at hes
      have E3:=Lib.hid (show slashP L i=none by rw[E2.out,he];rfl);clear he
      go_wp2_with (first|(first|((with_reducible refine gT ?_);((first|refine aW H ?_|refine aT H ?_);clear H;intro w H;try simp only[nrm,nrl,Value.cells]at H))|((with_reducible refine gL ?_);refine aD H ?_))|(go_at_call 80;(with_reducible refine ch (hes _) H ?_);clear H;intro w H)|(go_at_call 56;(with_reducible refine ch (on_0 _) H ?_);clear H;intro w H))
      (refine ret_ct Try.results50 rfl (by first|rfl|(simp only[pl];rfl)) H atd_ (by first|(with_reducible exact row_Word)|(with_reducible exact row_Set)) (by rfl) rfl ?_)
      exact⟨WordR.no (w:={kind:=1,place:=i,set:=ofS [0]}) E3.out,H.below⟩
     | some p =>
      obtain⟨b,e⟩:=p
      have hb:=escP_le he
      have hon:=fun w=>ref_one b hb.2.2 w
      rw[he]at hes
      simp only[escV]at hes
      have E3:=Lib.hid (show slashP L i=some ({kind:=1,place:=i,set:=ofS [(b:Int)]},e) by rw[E2.out,he];rfl);clear he
      go_wp2_with (first|(first|((with_reducible refine gT ?_);((first|refine aW H ?_|refine aT H ?_);clear H;intro w H;try simp only[nrm,nrl,Value.cells]at H))|((with_reducible refine gL ?_);refine aD H ?_))|(go_at_call 80;(with_reducible refine ch (hes _) H ?_);clear H;intro w H)|(go_at_call 56;(with_reducible refine ch (hon _) H ?_);clear H;intro w H))
      (refine ret_ct Try.results50 rfl (by first|rfl|(simp only[pl];rfl)) H atd_ (by first|(with_reducible exact row_Word)|(with_reducible exact row_Set)) (by rfl) rfl ?_)
      exact⟨WordR.ok (w:={kind:=1,place:=i,set:=ofS [(b:Int)]}) E3.out,H.below⟩
 ·have d1:decide ((i:Int)+1<(L.length:Int))=false:=by simp;omega
  have E2:=Lib.hid (slash4 h1)
  have hes:=fun w=>ref_escape L i hL (by omega) w
  cases he:escP L i with
  | none =>
   rw[he]at hes
   simp only[escV]at hes
   have E3:=Lib.hid (show slashP L i=none by rw[E2.out,he];rfl);clear he
   go_enter Try.func50,Try.ntmps50
   go_wp2_with (first|(first|((with_reducible refine gT ?_);(first|(refine aT H ?_;clear H;intro w H;try simp only[nrm,nrl,Value.cells]at H)|(refine aN H ?_;clear H;intro w H;(try simp only[nrm,nrl,Value.cells]at H);try simp only[setSeg,nrl]at H)))|((with_reducible refine gL ?_);refine aD H ?_)|((with_reducible refine gA ?_);(refine bA H ?_;clear H;intro b w H;try simp only[nrm,nrl,Value.cells]at H)))|(go_at_call 80;(with_reducible refine ch (hes _) H ?_);clear H;intro w H)|(go_at_call 56;(with_reducible refine ch (on_0 _) H ?_);clear H;intro w H))
   (refine ret_ct Try.results50 rfl (by first|rfl|(simp only[pl];rfl)) H atd_ (by first|(with_reducible exact row_Word)|(with_reducible exact row_Set)) (by rfl) rfl ?_)
   exact⟨WordR.no (w:={kind:=1,place:=i,set:=ofS [0]}) E3.out,H.below⟩
  | some p =>
   obtain⟨b,e⟩:=p
   have hb:=escP_le he
   exact absurd hb.1 (by omega)
end Go.Proofs.Ytdoflhjhaciepaa
