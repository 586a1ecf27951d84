/-
  Laws of walks, and walks.
-/
import Derived.Test.YtdoflhjhaciepaaVb2
import Derived.Test.YtdoflhjhaciepaaVb5
set_option linter.unusedVariables false
set_option linter.unusedSimpArgs false
set_option maxRecDepth 100000
set_option maxHeartbeats 16000000
namespace Go.Proofs.Ytdoflhjhaciepaa
open Go.RowKit Go.Shelf
attribute [local go_sem] Oper.semAt_some
def signD (c i:Nat):WordD :=
 if c=46 then {kind:=2,place:=i} else if c=94 then {kind:=3,place:=i} else if c=36 then {kind:=4,place:=i} else if c=40 then {kind:=6,place:=i}
 else if c=41 then {kind:=9,place:=i} else if c=124 then {kind:=10,place:=i} else if c=42 then {kind:=11,place:=i,lo:=0,hi := -1}
 else if c=43 then {kind:=11,place:=i,lo:=1,hi := -1} else if c=63 then {kind:=11,place:=i,lo:=0,hi:=1} else {kind:=0,place:=i}
theorem ieq (c n:Nat):(c=n)=(((c:Int) == (n:Int))=true):=by rw[beq_iff_eq];exact propext ⟨fun h=>by omega,fun h=>by omega⟩
theorem ref_sign (c i:Nat) (hc:c<256) (w0:World):Calls Try.prog 49 #[.int .u8 c,.int .i64 i] w0 fun e w'=>e=.returned (wordV (signD c i))∧Below w0.heap.size w0 w':=by
 have H:=Hold.start w0
 go_enter Try.func49,Try.ntmps49
 go_wp2_with (first|(first|((with_reducible refine gT ?_);((first|refine aO H ?_|refine aT H ?_);clear H;intro w H;try simp only[nrm,nrl,Value.cells]at H))|((with_reducible refine gL ?_);refine aD H ?_)|((with_reducible refine gA ?_);(refine bA H ?_;clear H;intro b w H;try simp only[nrm,nrl,Value.cells]at H))))
 all_goals
  (refine ret_c Try.results49 rfl H atd_ (by first|(with_reducible exact row_Word)|(with_reducible exact row_Set)) (by rfl) rfl ?_)
  refine⟨congrArg Ending.returned ?_,H.below⟩
  clear H
  simp only[signD,ieq,Int.cast_ofNat_Int, *,Bool.false_eq_true,if_true,if_false]
  rfl
def RepR (o:Except Nat (WordD × Nat)) (e:Ending):Prop:=match o with
 | .ok (w,k)=>e=.returned (.tuple #[wordV w,.int .i64 k,.int .i64 0])
 | .error x=>∃ w k,e=.returned (.tuple #[wordV w,.int .i64 k,.int .i64 x])
theorem RepR.ok {o:Except Nat (WordD × Nat)} {w:WordD} {k:Nat} (h:o=.ok (w,k)):RepR o (.returned (.tuple #[wordV w,.int .i64 k,.int .i64 0])):=by subst h;rfl
theorem RepR.no {o:Except Nat (WordD × Nat)} {x:Nat} {w:WordD} {k:Int} (h:o=.error x):RepR o (.returned (.tuple #[wordV w,.int .i64 k,.int .i64 x])):=by subst h;exact⟨w,k,rfl⟩
theorem ref_repeat (L:Str) (i e:Nat) (lo hi:Int) (hL:L.length≤2000) (hlo:0≤lo∧lo≤200) (hhi : -1≤hi∧hi≤200) (hel:e≤L.length) (w0:World) :
  Calls Try.prog 55 #[.string ⟨L.toArray⟩,wordV {kind:=11,place:=i,lo:=lo,hi:=hi},.int .i64 e] w0 fun e' w'=>RepR (repeatP L i lo hi e) e'∧Below w0.heap.size w0 w':=by
 have H:=Hold.start w0
 have hat:=fun w=>ref_at L [63] e hL (by simp) (by simp) (by omega) w
 by_cases c1:100<lo
 ·have d1:decide (100<lo)=true:=by simp;omega
  have HE:=Lib.hid (show repeatP L i lo hi e=.error 6 by unfold repeatP;rw[if_pos (.inl c1)])
  clear c1
  go_enter Try.func55,Try.ntmps55
  go_wp2_with (first|(first|((with_reducible refine gT ?_);(refine aT H ?_;clear H;intro w H;try simp only[nrm,nrl,Value.cells]at H))|((with_reducible refine gL ?_);(first|refine aG H ?_|refine aD H ?_))|((with_reducible refine gX ?_);(refine bB H ?_;clear H;intro b w H;try simp only[nrm,nrl,Value.cells]at H))|((with_reducible refine gA ?_);(refine bA H ?_;clear H;intro b w H;try simp only[nrm,nrl,Value.cells]at H)))|(go_at_call 52;(with_reducible refine ch (hat _) H ?_);clear H;intro w H))
  (refine ret_ctt Try.results55 rfl (by first|rfl|(simp only[pl];rfl)) (by first|rfl|(simp only[pl];rfl)) H atd_ (by first|(with_reducible exact row_Word)|(with_reducible exact row_Set)) (by rfl) rfl ?_)
  exact⟨RepR.no (w:={kind:=11,place:=i,lo:=lo,hi:=hi}) HE.out,H.below⟩
 ·have d1:decide (100<lo)=false:=by simp;omega
  by_cases c2:100<hi
  ·have d2:decide (100<hi)=true:=by simp;omega
   have HE:=Lib.hid (show repeatP L i lo hi e=.error 6 by unfold repeatP;rw[if_pos (.inr (.inl c2))])
   clear c2 c1
   go_enter Try.func55,Try.ntmps55
   go_wp2_with (first|(first|((with_reducible refine gT ?_);(refine aT H ?_;clear H;intro w H;try simp only[nrm,nrl,Value.cells]at H))|((with_reducible refine gL ?_);(first|refine aG H ?_|refine aD H ?_))|((with_reducible refine gX ?_);(refine bB H ?_;clear H;intro b w H;try simp only[nrm,nrl,Value.cells]at H))|((with_reducible refine gA ?_);(refine bA H ?_;clear H;intro b w H;try simp only[nrm,nrl,Value.cells]at H)))|(go_at_call 52;(with_reducible refine ch (hat _) H ?_);clear H;intro w H))
   (refine ret_ctt Try.results55 rfl (by first|rfl|(simp only[pl];rfl)) (by first|rfl|(simp only[pl];rfl)) H atd_ (by first|(with_reducible exact row_Word)|(with_reducible exact row_Set)) (by rfl) rfl ?_)
   exact⟨RepR.no (w:={kind:=11,place:=i,lo:=lo,hi:=hi}) HE.out,H.below⟩
  ·have d2:decide (100<hi)=false:=by simp;omega
   by_cases c3:0≤hi
   ·have d3:decide (0≤hi)=true:=by simp;omega
    by_cases c4:hi<lo
    ·have d4:decide (hi<lo)=true:=by simp;omega
     have HE:=Lib.hid (show repeatP L i lo hi e=.error 6 by unfold repeatP;rw[if_pos (.inr (.inr ⟨c3,c4⟩))])
     clear c4 c3 c2 c1
     go_enter Try.func55,Try.ntmps55
     go_wp2_with (first|(first|((with_reducible refine gT ?_);(refine aT H ?_;clear H;intro w H;try simp only[nrm,nrl,Value.cells]at H))|((with_reducible refine gL ?_);(first|refine aG H ?_|refine aD H ?_))|((with_reducible refine gX ?_);(refine bB H ?_;clear H;intro b w H;try simp only[nrm,nrl,Value.cells]at H))|((with_reducible refine gA ?_);(refine bA H ?_;clear H;intro b w H;try simp only[nrm,nrl,Value.cells]at H)))|(go_at_call 52;(with_reducible refine ch (hat _) H ?_);clear H;intro w H))
     (refine ret_ctt Try.results55 rfl (by first|rfl|(simp only[pl];rfl)) (by first|rfl|(simp only[pl];rfl)) H atd_ (by first|(with_reducible exact row_Word)|(with_reducible exact row_Set)) (by rfl) rfl ?_)
     exact⟨RepR.no (w:={kind:=11,place:=i,lo:=lo,hi:=hi}) HE.out,H.below⟩
    ·have d4:decide (hi<lo)=false:=by simp;omega
     have hne:¬ (100<lo∨100<hi∨(0≤hi∧hi<lo)):=by omega
     have he:repeatP L i lo hi e=repeatP L i lo hi e:=rfl
     conv at he=>rhs;unfold repeatP
     rw[if_neg hne]at he
     clear hne c1 c2 c3 c4
     cases ha:atP L e [63] with
     | true =>
      rw[ha]at hat
      rw[if_pos ha]at he
      have HE:=Lib.hid he;clear he ha
      go_enter Try.func55,Try.ntmps55
      go_wp2_with (first|(first|((with_reducible refine gT ?_);((first|refine aO H ?_|refine aT H ?_);clear H;intro w H;try simp only[nrm,nrl,Value.cells]at H))|((with_reducible refine gL ?_);(first|refine aG H ?_|refine aD H ?_))|((with_reducible refine gX ?_);(refine bB H ?_;clear H;intro b w H;try simp only[nrm,nrl,Value.cells]at H))|((with_reducible refine gA ?_);(refine bA H ?_;clear H;intro b w H;try simp only[nrm,nrl,Value.cells]at H)))|(go_at_call 52;(with_reducible refine ch (hat _) H ?_);clear H;intro w H))
      (refine ret_ctt Try.results55 rfl (by first|rfl|(simp only[pl];rfl)) (by first|rfl|(simp only[pl];rfl)) H atd_ (by first|(with_reducible exact row_Word)|(with_reducible exact row_Set)) (by rfl) rfl ?_)
      exact⟨RepR.ok (w:={kind:=11,place:=i,lo:=lo,hi:=hi,lazy:=true}) HE.out,H.below⟩
     | false =>
      rw[ha]at hat
      rw[if_neg (by rw[ha];simp)]at he
      have HE:=Lib.hid he;clear he ha
      go_enter Try.func55,Try.ntmps55
      go_wp2_with (first|(first|((with_reducible refine gT ?_);(refine aT H ?_;clear H;intro w H;try simp only[nrm,nrl,Value.cells]at H))|((with_reducible refine gL ?_);(first|refine aG H ?_|refine aD H ?_))|((with_reducible refine gX ?_);(refine bB H ?_;clear H;intro b w H;try simp only[nrm,nrl,Value.cells]at H))|((with_reducible refine gA ?_);(refine bA H ?_;clear H;intro b w H;try simp only[nrm,nrl,Value.cells]at H)))|(go_at_call 52;(with_reducible refine ch (hat _) H ?_);clear H;intro w H))
      (refine ret_ctt Try.results55 rfl (by first|rfl|(simp only[pl];rfl)) (by first|rfl|(simp only[pl];rfl)) H atd_ (by first|(with_reducible exact row_Word)|(with_reducible exact row_Set)) (by rfl) rfl ?_)
      exact⟨RepR.ok (w:={kind:=11,place:=i,lo:=lo,hi:=hi}) HE.out,H.below⟩
   ·have d3:decide (0≤hi)=false:=by simp;omega
    have hne:¬ (100<lo∨100<hi∨(0≤hi∧hi<lo)):=by omega
    have he:repeatP L i lo hi e=repeatP L i lo hi e:=rfl
    conv at he=>rhs;unfold repeatP
    rw[if_neg hne]at he
    clear hne c1 c2 c3
    cases ha:atP L e [63] with
    | true =>
     rw[ha]at hat
     rw[if_pos ha]at he
     have HE:=Lib.hid he;clear he ha
     go_enter Try.func55,Try.ntmps55
     go_wp2_with (first|(first|((with_reducible refine gT ?_);((first|refine aO H ?_|refine aT H ?_);clear H;intro w H;try simp only[nrm,nrl,Value.cells]at H))|((with_reducible refine gL ?_);(first|refine aG H ?_|refine aD H ?_))|((with_reducible refine gX ?_);(refine bB H ?_;clear H;intro b w H;try simp only[nrm,nrl,Value.cells]at H))|((with_reducible refine gA ?_);(refine bA H ?_;clear H;intro b w H;try simp only[nrm,nrl,Value.cells]at H)))|(go_at_call 52;(with_reducible refine ch (hat _) H ?_);clear H;intro w H))
     (refine ret_ctt Try.results55 rfl (by first|rfl|(simp only[pl];rfl)) (by first|rfl|(simp only[pl];rfl)) H atd_ (by first|(with_reducible exact row_Word)|(with_reducible exact row_Set)) (by rfl) rfl ?_)
     exact⟨RepR.ok (w:={kind:=11,place:=i,lo:=lo,hi:=hi,lazy:=true}) HE.out,H.below⟩
    | false =>
     rw[ha]at hat
     rw[if_neg (by rw[ha];simp)]at he
     have HE:=Lib.hid he;clear he ha
     go_enter Try.func55,Try.ntmps55
     go_wp2_with (first|(first|((with_reducible refine gT ?_);(refine aT H ?_;clear H;intro w H;try simp only[nrm,nrl,Value.cells]at H))|((with_reducible refine gL ?_);(first|refine aG H ?_|refine aD H ?_))|((with_reducible refine gX ?_);(refine bB H ?_;clear H;intro b w H;try simp only[nrm,nrl,Value.cells]at H))|((with_reducible refine gA ?_);(refine bA H ?_;clear H;intro b w H;try simp only[nrm,nrl,Value.cells]at H)))|(go_at_call 52;(with_reducible refine ch (hat _) H ?_);clear H;intro w H))
     (refine ret_ctt Try.results55 rfl (by first|rfl|(simp only[pl];rfl)) (by first|rfl|(simp only[pl];rfl)) H atd_ (by first|(with_reducible exact row_Word)|(with_reducible exact row_Set)) (by rfl) rfl ?_)
     exact⟨RepR.ok (w:={kind:=11,place:=i,lo:=lo,hi:=hi}) HE.out,H.below⟩
theorem ref_braces (L:Str) (i:Nat) (hL:L.length≤2000) (hi:i<L.length) (w0:World):Calls Try.prog 54 #[.string ⟨L.toArray⟩,.int .i64 i] w0 fun e w'=>WordR (brW i (bracesP L i)) e∧Below w0.heap.size w0 w':=by
 have H:=Hold.start w0
 have hn1:=fun w=>ref_number L (i+1) hL (by omega) w
 simp only[Int.natCast_add,Int.cast_ofNat_Int]at hn1
 have en:bracesP L i=bracesP L i:=rfl
 conv at en=>rhs;unfold bracesP
 cases hnum:numberP L (i+1) with
 | none =>
  rw[hnum]at hn1 en
  simp only[numV]at hn1 en
  have E:=Lib.hid (show brW i (bracesP L i)=none by rw[en];rfl);clear en hnum
  go_enter Try.func54,Try.ntmps54
  go_wp2_with (first|(first|((with_reducible refine gT ?_);(refine aT H ?_;clear H;intro w H;try simp only[nrm,nrl,Value.cells]at H))|((with_reducible refine gL ?_);refine aD H ?_)|((with_reducible refine gA ?_);(refine bA H ?_;clear H;intro b w H;try simp only[nrm,nrl,Value.cells]at H)))|(go_at_call 83;(with_reducible refine ch (hn1 _) H ?_);clear H;intro w H))
  (refine ret_ct Try.results54 rfl (by first|rfl|(simp only[pl];rfl)) H atd_ (by first|(with_reducible exact row_Word)|(with_reducible exact row_Set)) (by rfl) rfl ?_)
  exact⟨WordR.no (w:={kind:=11,place:=i}) E.out,H.below⟩
 | some p =>
  obtain⟨n,k⟩:=p
  have hk:=numberP_le hnum (by omega)
  rw[hnum]at hn1 en
  simp only[numV]at hn1 en
  clear hnum
  have dk:decide ((k:Int)<0)=false:=by simp
  have ha1:=fun w=>ref_at L [44,125] k hL (by simp) (by simp) (by omega) w
  cases h1:atP L k [44,125] with
  | true =>
   rw[h1]at ha1 en
   rw[if_pos rfl]at en
   have E:=Lib.hid (show brW i (bracesP L i)=some ({kind:=11,place:=i,lo:=n,hi := -1},k+2) by rw[en];rfl);clear en h1
   go_enter Try.func54,Try.ntmps54
   go_wp2_with (first|(first|((with_reducible refine gT ?_);((first|refine aO H ?_|refine aT H ?_);clear H;intro w H;try simp only[nrm,nrl,Value.cells]at H))|((with_reducible refine gL ?_);refine aD H ?_)|((with_reducible refine gA ?_);(refine bA H ?_;clear H;intro b w H;try simp only[nrm,nrl,Value.cells]at H)))|(go_at_call 83;(with_reducible refine ch (hn1 _) H ?_);clear H;intro w H)|(go_at_call 52;(with_reducible refine ch (ha1 _) H ?_);clear H;intro w H))
   (refine ret_ct Try.results54 rfl (by first|rfl|(simp only[pl];rfl)) H atd_ (by first|(with_reducible exact row_Word)|(with_reducible exact row_Set)) (by rfl) rfl ?_)
   exact⟨WordR.ok (w:={kind:=11,place:=i,lo:=n,hi := -1}) E.out,H.below⟩
  | false =>
   rw[h1]at ha1 en
   rw[if_neg (by simp)]at en
   clear h1
   have ha2:=fun w=>ref_at L [44] k hL (by simp) (by simp) (by omega) w
   cases h2:atP L k [44] with
   | true =>
    have hl:=at_le h2 (by simp)
    simp only[List.length_cons,List.length_nil,Nat.zero_add]at hl
    rw[h2]at ha2 en
    rw[if_pos rfl]at en
    clear h2
    have hn2:=fun w=>ref_number L (k+1) hL (by omega) w
    simp only[Int.natCast_add,Int.cast_ofNat_Int]at hn2
    cases hnum2:numberP L (k+1) with
    | none =>
     rw[hnum2]at hn2 en
     simp only[numV]at hn2 en
     have E:=Lib.hid (show brW i (bracesP L i)=none by rw[en];rfl);clear en hnum2
     go_enter Try.func54,Try.ntmps54
     go_wp2_with (first|(first|((with_reducible refine gT ?_);((first|refine aO H ?_|refine aT H ?_);clear H;intro w H;try simp only[nrm,nrl,Value.cells]at H))|((with_reducible refine gL ?_);refine aD H ?_)|((with_reducible refine gA ?_);(refine bA H ?_;clear H;intro b w H;try simp only[nrm,nrl,Value.cells]at H)))|(go_at_call 83;(with_reducible refine ch (hn1 _) H ?_);clear H;intro w H)|(go_at_call 52;(with_reducible refine ch (ha1 _) H ?_);clear H;intro w H)|(go_at_call 52;(with_reducible refine ch (ha2 _) H ?_);clear H;intro w H)|(go_at_call 83;(with_reducible refine ch (hn2 _) H ?_);clear H;intro w H))
     (refine ret_ct Try.results54 rfl (by first|rfl|(simp only[pl];rfl)) H atd_ (by first|(with_reducible exact row_Word)|(with_reducible exact row_Set)) (by rfl) rfl ?_)
     exact⟨WordR.no (w:={kind:=11,place:=i,lo:=n,hi:=n}) E.out,H.below⟩
    | some q =>
     obtain⟨m,e⟩:=q
     have hk2:=numberP_le hnum2 (by omega)
     rw[hnum2]at hn2 en
     simp only[numV]at hn2 en
     clear hnum2
     have de:decide ((e:Int)<0)=false:=by simp
     have ha3:=fun w=>ref_at L [125] e hL (by simp) (by simp) (by omega) w
     cases h3:atP L e [125] with
     | true =>
      rw[h3]at ha3 en
      rw[if_pos rfl]at en
      have E:=Lib.hid (show brW i (bracesP L i)=some ({kind:=11,place:=i,lo:=n,hi:=m},e+1) by rw[en];rfl);clear en h3
      go_enter Try.func54,Try.ntmps54
      go_wp2_with (first|(first|((with_reducible refine gT ?_);((first|refine aO H ?_|refine aT H ?_);clear H;intro w H;try simp only[nrm,nrl,Value.cells]at H))|((with_reducible refine gL ?_);refine aD H ?_)|((with_reducible refine gA ?_);(refine bA H ?_;clear H;intro b w H;try simp only[nrm,nrl,Value.cells]at H)))|(go_at_call 83;(with_reducible refine ch (hn1 _) H ?_);clear H;intro w H)|(go_at_call 52;(with_reducible refine ch (ha1 _) H ?_);clear H;intro w H)|(go_at_call 52;(with_reducible refine ch (ha2 _) H ?_);clear H;intro w H)|(go_at_call 83;(with_reducible refine ch (hn2 _) H ?_);clear H;intro w H)|(go_at_call 52;(with_reducible refine ch (ha3 _) H ?_);clear H;intro w H))
      (refine ret_ct Try.results54 rfl (by first|rfl|(simp only[pl];rfl)) H atd_ (by first|(with_reducible exact row_Word)|(with_reducible exact row_Set)) (by rfl) rfl ?_)
      exact⟨WordR.ok (w:={kind:=11,place:=i,lo:=n,hi:=m}) E.out,H.below⟩
     | false =>
      rw[h3]at ha3 en
      rw[if_neg (by simp)]at en
      have E:=Lib.hid (show brW i (bracesP L i)=none by rw[en];rfl);clear en h3
      go_enter Try.func54,Try.ntmps54
      go_wp2_with (first|(first|((with_reducible refine gT ?_);((first|refine aO H ?_|refine aT H ?_);clear H;intro w H;try simp only[nrm,nrl,Value.cells]at H))|((with_reducible refine gL ?_);refine aD H ?_)|((with_reducible refine gA ?_);(refine bA H ?_;clear H;intro b w H;try simp only[nrm,nrl,Value.cells]at H)))|(go_at_call 83;(with_reducible refine ch (hn1 _) H ?_);clear H;intro w H)|(go_at_call 52;(with_reducible refine ch (ha1 _) H ?_);clear H;intro w H)|(go_at_call 52;(with_reducible refine ch (ha2 _) H ?_);clear H;intro w H)|(go_at_call 83;(with_reducible refine ch (hn2 _) H ?_);clear H;intro w H)|(go_at_call 52;(with_reducible refine ch (ha3 _) H ?_);clear H;intro w H))
      (refine ret_ct Try.results54 rfl (by first|rfl|(simp only[pl];rfl)) H atd_ (by first|(with_reducible exact row_Word)|(with_reducible exact row_Set)) (by rfl) rfl ?_)
      exact⟨WordR.no (w:={kind:=11,place:=i,lo:=n,hi:=m}) E.out,H.below⟩
   | false =>
    rw[h2]at ha2 en
    rw[if_neg (by simp)]at en
    clear h2
    have ha3:=fun w=>ref_at L [125] k hL (by simp) (by simp) (by omega) w
    cases h3:atP L k [125] with
    | true =>
     rw[h3]at ha3 en
     rw[if_pos rfl]at en
     have E:=Lib.hid (show brW i (bracesP L i)=some ({kind:=11,place:=i,lo:=n,hi:=n},k+1) by rw[en];rfl);clear en h3
     go_enter Try.func54,Try.ntmps54
     go_wp2_with (first|(first|((with_reducible refine gT ?_);((first|refine aO H ?_|refine aT H ?_);clear H;intro w H;try simp only[nrm,nrl,Value.cells]at H))|((with_reducible refine gL ?_);refine aD H ?_)|((with_reducible refine gA ?_);(refine bA H ?_;clear H;intro b w H;try simp only[nrm,nrl,Value.cells]at H)))|(go_at_call 83;(with_reducible refine ch (hn1 _) H ?_);clear H;intro w H)|(go_at_call 52;(with_reducible refine ch (ha1 _) H ?_);clear H;intro w H)|(go_at_call 52;(with_reducible refine ch (ha2 _) H ?_);clear H;intro w H)|(go_at_call 52;(with_reducible refine ch (ha3 _) H ?_);clear H;intro w H))
     (refine ret_ct Try.results54 rfl (by first|rfl|(simp only[pl];rfl)) H atd_ (by first|(with_reducible exact row_Word)|(with_reducible exact row_Set)) (by rfl) rfl ?_)
     exact⟨WordR.ok (w:={kind:=11,place:=i,lo:=n,hi:=n}) E.out,H.below⟩
    | false =>
     rw[h3]at ha3 en
     rw[if_neg (by simp)]at en
     have E:=Lib.hid (show brW i (bracesP L i)=none by rw[en];rfl);clear en h3
     go_enter Try.func54,Try.ntmps54
     go_wp2_with (first|(first|((with_reducible refine gT ?_);((first|refine aO H ?_|refine aT H ?_);clear H;intro w H;try simp only[nrm,nrl,Value.cells]at H))|((with_reducible refine gL ?_);refine aD H ?_)|((with_reducible refine gA ?_);(refine bA H ?_;clear H;intro b w H;try simp only[nrm,nrl,Value.cells]at H)))|(go_at_call 83;(with_reducible refine ch (hn1 _) H ?_);clear H;intro w H)|(go_at_call 52;(with_reducible refine ch (ha1 _) H ?_);clear H;intro w H)|(go_at_call 52;(with_reducible refine ch (ha2 _) H ?_);clear H;intro w H)|(go_at_call 52;(with_reducible refine ch (ha3 _) H ?_);clear H;intro w H))
     (refine ret_ct Try.results54 rfl (by first|rfl|(simp only[pl];rfl)) H atd_ (by first|(with_reducible exact row_Word)|(with_reducible exact row_Set)) (by rfl) rfl ?_)
     exact⟨WordR.no (w:={kind:=11,place:=i,lo:=n,hi:=n}) E.out,H.below⟩
end Go.Proofs.Ytdoflhjhaciepaa
