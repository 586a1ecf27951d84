/-
  Laws of walks, and walks.
-/
import Derived.Test.YtklcgfkdemifcaaGreatDoorSw5
import Derived.Test.YtklcgfkdemifcaaGreatDoorSw6
import Derived.Test.YtklcgfkdemifcaaGreatDoorSw7
import Derived.RangeFuncLeaves
import Derived.Test.YtklcgfkdemifcaaGreatDoorSw3
import Derived.Test.YtklcgfkdemifcaaGreatDoorSw10
import Derived.Test.YtklcgfkdemifcaaGreatDoorSw4
import Derived.Test.YtklcgfkdemifcaaGreatDoorSw2
set_option linter.unusedVariables false
set_option linter.unusedSimpArgs false
set_option maxRecDepth 100000
set_option maxHeartbeats 16000000
namespace Go.Proofs.YtklcgfkdemifcaaGreatDoor
section
open Go.RowKit Go.Shelf
attribute [local go_sem] Oper.semAt_some
theorem zK1 (w0:World):Calls Tryz.prog 176 #[.string ⟨#[119,111,114,100]⟩] w0 (Rt (.tuple #[setV zDQ,.bool true]) w0):=zEk [119,111,114,100] w0
theorem zFF (w0:World):Calls Tryz.prog 176 #[.string ⟨#[97,108,110,117,109]⟩] w0 (Rt (.tuple #[setV zAx,.bool true]) w0):=zEk [97,108,110,117,109] w0
theorem zOs {c:Nat} (h:((c:Int) == 100)=true):zCg c=some zA3:=by obtain rfl:c=100:=(by have:=beq_iff_eq.1 h;omega);rfl
theorem zOM {c:Nat} (h:((c:Int) == 119)=true):zCg c=some zDQ:=by obtain rfl:c=119:=(by have:=beq_iff_eq.1 h;omega);rfl
theorem zOG {c:Nat} (h:((c:Int) == 115)=true):zCg c=some (ofS [9,10,12,13,32]):=by obtain rfl:c=115:=(by have:=beq_iff_eq.1 h;omega);rfl
theorem zPr {c:Nat} (h:((c:Int) == 68)=true):zCg c=some (notS zA3):=by obtain rfl:c=68:=(by have:=beq_iff_eq.1 h;omega);rfl
theorem zPf {c:Nat} (h:((c:Int) == 87)=true):zCg c=some (notS zDQ):=by obtain rfl:c=87:=(by have:=beq_iff_eq.1 h;omega);rfl
theorem zPW {c:Nat} (h:((c:Int) == 83)=true):zCg c=some (notS (ofS [9,10,12,13,32])):=by obtain rfl:c=83:=(by have:=beq_iff_eq.1 h;omega);rfl
theorem nei {c:Nat} {n:Nat} (h:((c:Int) == (n:Int))=false):(c == n)=false:=by
 rw[beq_eq_false_iff_ne]at h ⊢;omega
theorem zP1 {c:Nat} (h1:((c:Int) == 100)=false) (h2:((c:Int) == 119)=false) (h3:((c:Int) == 115)=false) (h4:((c:Int) == 68)=false) (h5:((c:Int) == 87)=false) (h6:((c:Int) == 83)=false):zCg c=none:=by
 simp[zCg,sortsL,List.find?_cons,nei (n:=100) h1,nei (n:=119) h2,nei (n:=115) h3,nei (n:=68) h4,nei (n:=87) h5,nei (n:=83) h6]
theorem zIU (c:Nat) (hc:c<256) (w0:World):Calls Tryz.prog 161 #[.int .u8 c] w0 (Rt (setO (zCg c)) w0):=by
 have H:=Hold.start w0
 go_enter Tryz.func161,Tryz.ntmps161
 go_wp2_with (first|(first|((with_reducible refine gT ?_);(refine aS H ?_;clear H;intro w H;try simp only[nr]at H))|((with_reducible refine gL ?_);refine aL H ?_)|((with_reducible refine gA ?_);(refine bA H ?_;clear H;intro b w H;try simp only[nr]at H))|((with_reducible refine gZ ?_);refine aZ ?_))|((with_reducible refine ch (zK1 _) H ?_);clear H;intro w H)|((with_reducible refine gBS ?_);refine zAU wtd_ _ _ _ rfl H (#[.int .u8 9,.int .u8 10,.int .u8 12,.int .u8 13,.int .u8 32]) 5 (by intro W;simp only[ml];(try simp only[pe]);(try unfold setV);simp[go_sem]<;>rfl) ?_;clear H;intro b w H;try simp only[nr]at H)|((with_reducible first|refine ch (zKf _ [9,10,12,13,32] (by simp) _ (H.rdn (cs:=[.int .u8 9,.int .u8 10,.int .u8 12,.int .u8 13,.int .u8 32]) atd_ (by simp) (by simp[maxLen]))) H ?_|refine ch (zHh _) H ?_|refine ch (zEF zA3 zCJ _) H ?_|refine ch (zEF zDQ zFS _) H ?_|refine ch (zEF (ofS [9,10,12,13,32]) (zBb _) _) H ?_);clear H;intro w H))
 all_goals
  (refine xctS Tryz.results161 H ?_)
  first|exact⟨congrArg _ (zFb (zP1 (by assumption) (by assumption) (by assumption) (by assumption) (by assumption) (by assumption))),H.below⟩|exact⟨congrArg _ (zCy (zOs (by assumption))),H.below⟩|exact⟨congrArg _ (zCy (zOM (by assumption))),H.below⟩|exact⟨congrArg _ (zCy (zOG (by assumption))),H.below⟩|exact⟨congrArg _ (zCy (zPr (by assumption))),H.below⟩|exact⟨congrArg _ (zCy (zPf (by assumption))),H.below⟩|exact⟨congrArg _ (zCy (zPW (by assumption))),H.below⟩
def numV:Option (Nat × Nat)→Value
 | some (n,k)=>.tuple #[.int .i64 n,.int .i64 k]
 | none=>.tuple #[.int .i64 0,.int .i64 (-1)]
def escV:Option (Nat × Nat)→Value
 | some (b,e)=>.tuple #[.int .u8 b,.int .i64 e]
 | none=>.tuple #[.int .u8 0,.int .i64 (-1)]
theorem zH1 (L:Str) (i:Nat) (hL:L.length≤2000) (hi:i≤L.length) (w0:World):Calls Tryz.prog 165 #[.string ⟨L.toArray⟩,.int .i64 i] w0 fun e w' =>
  e=.returned (numV (zCX L i))∧Below w0.heap.size w0 w':=by
 have H:=Hold.start w0
 go_enter Tryz.func165,Tryz.ntmps165
 go_wp2_with (first|fail)
 go_loopw [6,7] (fun n k wr=>∃ j:Nat,i≤j∧j≤L.length∧k=.int .i64 j∧n=.int .i64 (numF ((L.drop i).take (j - i)):Nat)∧Hid (((L.drop i).take (j - i)).all zA5=true)∧Hold w0 wr []) (fun _ k _=>L.length+1 - (intOf k).toNat)
 case atStart=>exact⟨i,by omega,by omega,rfl,by simp[numF],Lib.hid (by simp),H⟩
 case round =>
  clear H;obtain⟨j,hij,hj,rfl,rfl,G,H⟩:=hrel;have hb:=zCI L j;have hnle:=zIM ((L.drop i).take (j - i));have EX:∀ he:(j<L.length→digB (byt L j)=false),zCX L i=if j=i∨(i+1<j∧byt L i=48) then none else some (numF ((L.drop i).take (j - i)),j):=fun he=>zLC hij hj G.out he
  have ST:∀ hlt:j<L.length,numF ((L.drop i).take (j+1 - i))=min (10 * numF ((L.drop i).take (j - i))+(byt L j - 48)) 101:=fun hlt=>zOP hij hlt
  generalize hn:numF ((L.drop i).take (j - i))=n at hnle EX ST
  clear hn;have EX2:=Lib.hid EX;clear EX;have ST2:=Lib.hid ST;clear ST
  by_cases hlt:j<L.length
  ·by_cases h48:48≤byt L j
   ·by_cases h57:byt L j≤57
    ·have hd:decide ((j:Int)<(L.length:Int))=true:=by simp;omega
     have hw1:IntKind.u8.wrap ((byt L j:Int) - 48)=(byt L j:Int) - 48:=by rw[IntKind.wrap_u8];omega
     go_wp2_with (first|((with_reducible refine gI ?_);refine aI ?_))
     go_roundw
     case rel=>exact⟨j+1,by omega,by omega,by go_num,by rw[ST2.out hlt];congr 1;omega,Lib.hid (zOh hij hlt G.out (by simp[digB];omega)),H⟩
     case measure=>simp[intOf];omega
    ·have g57:decide ((byt L j:Int)≤57)=false:=by simp;omega
     have g48:decide (48≤(byt L j:Int))=true:=by simp;omega
     have hd:decide ((j:Int)<(L.length:Int))=true:=by simp;omega
     have HE:=EX2.out (fun _=>by simp[digB];omega)
     by_cases e1:j=i
     ·subst e1;have d1:((j:Int) == (j:Int))=true:=by simp
      rw[if_pos (.inl rfl)]at HE;have HX:=Lib.hid HE;clear HE
      go_wp2_with (first|((with_reducible refine gI ?_);refine aI ?_))
      go_ret2
      exact⟨by rw[HX.out];rfl,H.below⟩
     ·have d1:((j:Int) == (i:Int))=false:=by rw[beq_eq_false_iff_ne];omega
      by_cases e2:byt L i=48
      ·have d2:((byt L i:Int) == 48)=true:=by rw[beq_iff_eq];omega
       by_cases e3:i+1<j
       ·have d3:decide ((i:Int)+1<(j:Int))=true:=by simp;omega
        rw[if_pos (.inr ⟨e3,e2⟩)]at HE;have HX:=Lib.hid HE;clear HE;clear e2
        go_wp2_with (first|((with_reducible refine gI ?_);refine aI ?_))
        go_ret2
        exact⟨by rw[HX.out];rfl,H.below⟩
       ·have d3:decide ((i:Int)+1<(j:Int))=false:=by simp;omega
        rw[if_neg (by omega)]at HE
        have HX:=Lib.hid HE;clear HE;clear e2
        go_wp2_with (first|((with_reducible refine gI ?_);refine aI ?_))
        go_ret2
        exact⟨by rw[HX.out];rfl,H.below⟩
      ·have d2:((byt L i:Int) == 48)=false:=by rw[beq_eq_false_iff_ne];omega
       rw[if_neg (by omega)]at HE
       have HX:=Lib.hid HE;clear HE;clear e2
       go_wp2_with (first|((with_reducible refine gI ?_);refine aI ?_))
       go_ret2
       exact⟨by rw[HX.out];rfl,H.below⟩
   ·have g48:decide (48≤(byt L j:Int))=false:=by simp;omega
    have hd:decide ((j:Int)<(L.length:Int))=true:=by simp;omega
    have HE:=EX2.out (fun _=>by simp[digB];omega)
    by_cases e1:j=i
    ·subst e1;have d1:((j:Int) == (j:Int))=true:=by simp
     rw[if_pos (.inl rfl)]at HE;have HX:=Lib.hid HE;clear HE
     go_wp2_with (first|((with_reducible refine gI ?_);refine aI ?_))
     go_ret2
     exact⟨by rw[HX.out];rfl,H.below⟩
    ·have d1:((j:Int) == (i:Int))=false:=by rw[beq_eq_false_iff_ne];omega
     by_cases e2:byt L i=48
     ·have d2:((byt L i:Int) == 48)=true:=by rw[beq_iff_eq];omega
      by_cases e3:i+1<j
      ·have d3:decide ((i:Int)+1<(j:Int))=true:=by simp;omega
       rw[if_pos (.inr ⟨e3,e2⟩)]at HE;have HX:=Lib.hid HE;clear HE;clear e2
       go_wp2_with (first|((with_reducible refine gI ?_);refine aI ?_))
       go_ret2
       exact⟨by rw[HX.out];rfl,H.below⟩
      ·have d3:decide ((i:Int)+1<(j:Int))=false:=by simp;omega
       rw[if_neg (by omega)]at HE
       have HX:=Lib.hid HE;clear HE;clear e2
       go_wp2_with (first|((with_reducible refine gI ?_);refine aI ?_))
       go_ret2
       exact⟨by rw[HX.out];rfl,H.below⟩
     ·have d2:((byt L i:Int) == 48)=false:=by rw[beq_eq_false_iff_ne];omega
      rw[if_neg (by omega)]at HE
      have HX:=Lib.hid HE;clear HE;clear e2
      go_wp2_with (first|((with_reducible refine gI ?_);refine aI ?_))
      go_ret2
      exact⟨by rw[HX.out];rfl,H.below⟩
  ·have hd:decide ((j:Int)<(L.length:Int))=false:=by simp;omega
   have HE:=EX2.out (fun h=>absurd h hlt)
   by_cases e1:j=i
   ·subst e1;have d1:((j:Int) == (j:Int))=true:=by simp
    rw[if_pos (.inl rfl)]at HE;have HX:=Lib.hid HE;clear HE
    go_wp2_with (first|fail)
    go_ret2
    exact⟨by rw[HX.out];rfl,H.below⟩
   ·have d1:((j:Int) == (i:Int))=false:=by rw[beq_eq_false_iff_ne];omega
    by_cases e2:byt L i=48
    ·have d2:((byt L i:Int) == 48)=true:=by rw[beq_iff_eq];omega
     by_cases e3:i+1<j
     ·have d3:decide ((i:Int)+1<(j:Int))=true:=by simp;omega
      rw[if_pos (.inr ⟨e3,e2⟩)]at HE;have HX:=Lib.hid HE;clear HE;clear e2
      go_wp2_with (first|((with_reducible refine gI ?_);refine aI ?_))
      go_ret2
      exact⟨by rw[HX.out];rfl,H.below⟩
     ·have d3:decide ((i:Int)+1<(j:Int))=false:=by simp;omega
      rw[if_neg (by omega)]at HE
      have HX:=Lib.hid HE;clear HE;clear e2
      go_wp2_with (first|((with_reducible refine gI ?_);refine aI ?_))
      go_ret2
      exact⟨by rw[HX.out];rfl,H.below⟩
    ·have d2:((byt L i:Int) == 48)=false:=by rw[beq_eq_false_iff_ne];omega
     rw[if_neg (by omega)]at HE
     have HX:=Lib.hid HE;clear HE;clear e2
     go_wp2_with (first|((with_reducible refine gI ?_);refine aI ?_))
     go_ret2
     exact⟨by rw[HX.out];rfl,H.below⟩
def zGK:Str:=[110,116,114,102,118,97]
def plainB:List Nat:=[10,9,13,12,11,7]
theorem zM0 {c k:Nat} (hk:k<6) (h:c=byt zGK k):zFZ c=some (plainB.getD k 0):=by
 subst h
 match k,hk with
 | 0,_=>rfl
 | 1,_=>rfl
 | 2,_=>rfl
 | 3,_=>rfl
 | 4,_=>rfl
 | 5,_=>rfl
theorem zLR {c:Nat} (h:∀ m,m<6→c≠byt zGK m):zFZ c=none:=by
 have h0:c≠110:=h 0 (by omega)
 have h1:c≠116:=h 1 (by omega)
 have h2:c≠114:=h 2 (by omega)
 have h3:c≠102:=h 3 (by omega)
 have h4:c≠118:=h 4 (by omega)
 have h5:c≠97:=h 5 (by omega)
 unfold zFZ;rw[if_neg h0,if_neg h1,if_neg h2,if_neg h3,if_neg h4,if_neg h5]
theorem zIC {c h:Nat} (e:hexP c=some h):h≤15:=by
 unfold hexP at e;split at e
 ·cases e;omega
 ·split at e
  ·cases e;omega
  ·split at e
   ·cases e;omega
   ·cases e
theorem zFt (L:Str) (i:Nat) (hL:L.length≤2000) (hi:i≤L.length) (w0:World):Calls Tryz.prog 162 #[.string ⟨L.toArray⟩,.int .i64 i] w0 (Rt (escV (escP L i)) w0):=by
 have H:=Hold.start w0
 by_cases hlt:i+1<L.length
 ·have hd:decide ((L.length:Int)≤(i:Int)+1)=false:=by simp;omega
  have hb:=zCI L (i+1);have ES:escP L i=escP L i:=rfl
  conv at ES=>rhs;unfold escP
  rw[if_pos hlt]at ES
  generalize hc:byt L (i+1)=c at hb ES
  have HC:=Lib.hid hc;have E2:=Lib.hid ES;clear ES
  go_enter Tryz.func162,Tryz.ntmps162
  go_wp2_with (first|((with_reducible refine gI ?_);refine aI ?_))
  clear hc
  go_loopw [8] (fun k wr=>∃ j:Nat,j≤6∧k=.int .i64 j∧Hid (∀ m,m<j→c≠byt zGK m)∧Hold w0 wr []) (fun k _=>7 - (intOf k).toNat)
  case atStart=>exact⟨0,by omega,rfl,Lib.hid (fun m hm=>by omega),H⟩
  case round =>
   clear H;obtain⟨j,hj,rfl,G,H⟩:=hrel
   by_cases hj6:j<6
   ·have hd6:decide ((j:Int)<6)=true:=by simp;omega
    by_cases hit:c=byt zGK j
    ·have he:=zM0 hj6 hit;have he2:=E2.out;rw[he]at he2;simp only[]at he2;have E3:=Lib.hid he2;clear he he2;have h3:((c:Int) == (byt zGK j:Int))=true:=by rw[beq_iff_eq,hit]
     clear hit;have hj':j=0∨j=1∨j=2∨j=3∨j=4∨j=5:=by omega
     unfold zGK at h3;rcases hj' with rfl|rfl|rfl|rfl|rfl|rfl
     all_goals
      go_wp2_with (first|(first|((with_reducible refine gL ?_);refine aG H ?_)|((with_reducible refine gI ?_);refine aI ?_))|((with_reducible refine gBS ?_);refine zAU wtd_ _ _ _ rfl H (#[.int .u8 10,.int .u8 9,.int .u8 13,.int .u8 12,.int .u8 11,.int .u8 7]) 5 (by intro W;simp only[ml];(try simp only[pe]);(try unfold setV);simp[go_sem]<;>rfl) ?_;clear H;intro b w H;try simp only[nr]at H))
      go_ret2
      exact⟨by rw[E3.out];rfl,H.below⟩
    ·have h3:((c:Int) == (byt zGK j:Int))=false:=by rw[beq_eq_false_iff_ne];omega
     unfold zGK at h3;have HIT:=Lib.hid hit;clear hit
     go_wp2_with (first|((with_reducible refine gI ?_);refine aI ?_))
     go_roundw
     case rel=>exact⟨j+1,by omega,by go_num,Lib.hid (fun m hm=>by
      by_cases e:m=j
      ·subst e;exact HIT.out
      ·exact G.out m (by omega)),H⟩
     case measure=>simp[intOf];omega
   ·obtain rfl:j=6:=by omega
    have he:=zLR (fun m hm=>G.out m hm)
    have he2:=E2.out;rw[he]at he2;simp only[]at he2;have E3:=Lib.hid he2;clear he he2;clear hd
    by_cases hx:c=120
    ·have dx:((c:Int) == 120)=true:=by rw[beq_iff_eq];omega
     have e3:=E3.out;rw[if_pos hx]at e3;clear hx
     by_cases h3:i+3<L.length
     ·have d3:decide ((L.length:Int)≤(i:Int)+3)=false:=by simp;omega
      rw[if_pos (by omega)]at e3
      have hb2:=zCI L (i+2);have hb3:=zCI L (i+3);have hc2:=fun w=>zMJ (byt L (i+2)) hb2 w
      have hc3:=fun w=>zMJ (byt L (i+3)) hb3 w
      cases h2:hexP (byt L (i+2)) with
      | none =>
       rw[h2]at e3 hc2;simp only[optI]at hc2;have E4:=Lib.hid e3;clear e3 h2
       go_wp2_with (first|((with_reducible refine gI ?_);refine aI ?_)|((with_reducible first|refine ch (hc2 _) H ?_|refine ch (hc3 _) H ?_);clear H;intro w H))
       go_ret2
       exact⟨by rw[E4.out];rfl,H.below⟩
      | some x =>
       rw[h2]at e3 hc2;simp only[]at e3;rw[if_pos h3]at e3;have hh:=zIC h2;simp only[optI]at hc2
       cases h4:hexP (byt L (i+3)) with
       | none =>
        rw[h4]at hc3;simp only[h4,optI]at hc3 e3;have E4:=Lib.hid e3;clear e3 h2 h4;have dh:decide ((x:Int)<0)=false:=by simp
        go_wp2_with (first|((with_reducible refine gI ?_);refine aI ?_)|((with_reducible first|refine ch (hc2 _) H ?_|refine ch (hc3 _) H ?_);clear H;intro w H))
        go_ret2
        exact⟨by rw[E4.out];rfl,H.below⟩
       | some y =>
        rw[h4]at hc3;simp only[h4,optI]at hc3 e3;have hg:=zIC h4;have E4:=Lib.hid e3;clear e3 h2 h4;have dh:decide ((x:Int)<0)=false:=by simp
        have dg:decide ((y:Int)<0)=false:=by simp
        go_wp2_with (first|((with_reducible refine gI ?_);refine aI ?_)|((with_reducible first|refine ch (hc2 _) H ?_|refine ch (hc3 _) H ?_);clear H;intro w H))
        refine wr_ 17 [fun v _=>v=.string ⟨L.toArray⟩,fun v _=>v=.int .i64 (i:Int),fun v _=>v=.int .i64 ((i+2:Nat):Int),fun v _=>v=.int .u8 (byt L (i+2):Int),fun v _=>v=.int .i64 (x:Int),fun v _=>v=.int .i64 ((16 * x:Nat):Int),fun v _=>v=.string ⟨L.toArray⟩,fun v _=>v=.int .i64 (i:Int),fun v _=>v=.int .i64 ((i+3:Nat):Int),fun v _=>v=.int .u8 (byt L (i+3):Int),fun v _=>v=.int .i64 (y:Int),fun v _=>v=.int .i64 ((16 * x+y:Nat):Int),fun v _=>v=.int .u8 ((16 * x+y:Nat):Int),fun v _=>v=.int .i64 (i:Int),fun v _=>v=.int .i64 ((i+4:Nat):Int),fun v _=>v=.int .u8 ((16 * x+y:Nat):Int),fun v _=>v=.int .i64 ((i+4:Nat):Int)] ?ob ?en
        case ob =>
         refine⟨?_,?_,?_,?_,?_,?_,?_,?_,?_,?_,?_,?_,?_,?_,?_,?_,?_,trivial⟩<;>intro A W h
         ·exact zAL rfl rfl (h.f 0)
         ·exact zAL rfl rfl (h.f 1)
         ·(have e61:A.eval (.tmp 61)=.int .i64 (i:Int):=h.d 1 61;refine zAB rfl ?_;simp only[execOp,e61];(simp[go_sem]<;>(rw[IntKind.wrap_i64];omega)))
         ·exact zAB rfl (zBQ rfl Tryz.underlying9 (h.d 0 60) (h.d 2 62) rfl (by omega)) (by decide)
         ·exact zBB rfl rfl (enters_of Tryz.func178 (by kernel_rfl) rfl) (zBt (h.d 3 63)) (hc2 W)
         ·(have e64:A.eval (.tmp 64)=.int .i64 (x:Int):=h.d 4 64;refine zAB rfl ?_;simp only[execOp,e64];(simp[go_sem]<;>(rw[IntKind.wrap_i64];omega)))
         ·exact zAL rfl rfl (h.f 0)
         ·exact zAL rfl rfl (h.f 1)
         ·(have e67:A.eval (.tmp 67)=.int .i64 (i:Int):=h.d 7 67;refine zAB rfl ?_;simp only[execOp,e67];(simp[go_sem]<;>(rw[IntKind.wrap_i64];omega)))
         ·exact zAB rfl (zBQ rfl Tryz.underlying9 (h.d 6 66) (h.d 8 68) rfl (by omega)) (by decide)
         ·exact zBB rfl rfl (enters_of Tryz.func178 (by kernel_rfl) rfl) (zBt (h.d 9 69)) (hc3 W)
         ·(have e65:A.eval (.tmp 65)=.int .i64 ((16 * x:Nat):Int):=h.d 5 65;have e70:A.eval (.tmp 70)=.int .i64 (y:Int):=h.d 10 70;refine zAB rfl ?_;simp only[execOp,e65,e70];(simp[go_sem]<;>(rw[IntKind.wrap_i64];omega)))
         ·(have e71:A.eval (.tmp 71)=.int .i64 ((16 * x+y:Nat):Int):=h.d 11 71;refine zAB rfl ?_;simp only[execOp,e71];(simp[go_sem]<;>(rw[IntKind.wrap_u8];omega)))
         ·exact zAL rfl rfl (h.f 1)
         ·(have e73:A.eval (.tmp 73)=.int .i64 (i:Int):=h.d 13 73;refine zAB rfl ?_;simp only[execOp,e73];(simp[go_sem]<;>(rw[IntKind.wrap_i64];omega)))
         ·exact zEf rfl rfl (h.d 12 72)
         ·exact zEf rfl rfl (h.d 14 74)
        case en =>
         intro vals W hbw hv _;simp only[fa,Nat.reduceAdd];rw[e_ hv 0,e_ hv 1,e_ hv 2,e_ hv 3,e_ hv 4,e_ hv 5,e_ hv 6,e_ hv 7,e_ hv 8,e_ hv 9,e_ hv 10,e_ hv 11,e_ hv 12,e_ hv 13,e_ hv 14,e_ hv 15,e_ hv 16];clear hv
         try simp only[pl]
         replace H:=H.call hbw;clear hbw
         go_wp2_with (first|fail)
         go_ret2
         exact⟨by rw[E4.out];simp[escV],H.below⟩
     ·have d3:decide ((L.length:Int)≤(i:Int)+3)=true:=by simp;omega
      have e4:escP L i=none:=by
       rw[e3]
       by_cases h2:i+2<L.length
       ·rw[if_pos h2]
        cases hexP (byt L (i+2)) with
        | none=>rfl
        | some h=>simp only[];rw[if_neg h3]
       ·rw[if_neg h2]
      have E4:=Lib.hid e4;clear e3 e4
      go_wp2_with (first|fail)
      go_ret2
      exact⟨by rw[E4.out];rfl,H.below⟩
    ·have dx:((c:Int) == 120)=false:=by rw[beq_eq_false_iff_ne];omega
     have e3:=E3.out;rw[if_neg hx]at e3;clear hx
     by_cases h128:128≤c
     ·have d8:decide (128≤(c:Int))=true:=by simp;omega
      rw[if_pos h128]at e3;have E4:=Lib.hid e3;clear e3
      go_wp2_with (first|(first|((with_reducible refine gT ?_);(refine aS H ?_;clear H;intro w H;try simp only[nr]at H))|((with_reducible refine gA ?_);(refine bA H ?_;clear H;intro b w H;try simp only[nr]at H)))|((with_reducible refine ch (zFF _) H ?_);clear H;intro w H))
      go_ret2
      exact⟨by rw[E4.out];rfl,H.below⟩
     ·have d8:decide (128≤(c:Int))=false:=by simp;omega
      rw[if_neg h128]at e3;have hH:=fun w=>zEo zAx zCa c hb w
      cases hs:hasB zAx c with
      | true =>
       rw[hs]at e3 hH;rw[if_pos rfl]at e3;have E4:=Lib.hid e3;clear e3 hs
       go_wp2_with (first|(first|((with_reducible refine gT ?_);(refine aS H ?_;clear H;intro w H;try simp only[nr]at H))|((with_reducible refine gL ?_);refine aL H ?_)|((with_reducible refine gA ?_);(refine bA H ?_;clear H;intro b w H;try simp only[nr]at H)))|((with_reducible first|refine ch (zFF _) H ?_|refine ch (hH _) H ?_);clear H;intro w H))
       go_ret2
       exact⟨by rw[E4.out];rfl,H.below⟩
      | false =>
       rw[hs]at e3 hH;rw[if_neg (by simp)]at e3
       have E4:=Lib.hid e3;clear e3 hs
       go_wp2_with (first|(first|((with_reducible refine gT ?_);(refine aS H ?_;clear H;intro w H;try simp only[nr]at H))|((with_reducible refine gL ?_);refine aL H ?_)|((with_reducible refine gA ?_);(refine bA H ?_;clear H;intro b w H;try simp only[nr]at H)))|((with_reducible first|refine ch (zFF _) H ?_|refine ch (hH _) H ?_);clear H;intro w H))
       go_ret2
       exact⟨by rw[E4.out];rfl,H.below⟩
 ·have hd:decide ((L.length:Int)≤(i:Int)+1)=true:=by simp;omega
  go_enter Tryz.func162,Tryz.ntmps162
  go_wp2_with (first|fail)
  go_ret2
  exact⟨by unfold escP;rw[if_neg hlt];rfl,H.below⟩
end
section
open Go.RowKit

def KeepsNC (B:Nat) (W W':World):Prop:=∀ k o,B≤k→W.heap[k]?=some o→o.isCells=false→W'.heap[k]?=some o
theorem KeepsNC.same {B:Nat} {W W':World} (h:KeepsNC B W W') (k:Nat) (o:Obj) (hk:B≤k) (h1:W.heap[k]?=some o) (h2:o.isCells=false):W'.heap[k]?=some o:=h k o hk h1 h2
theorem KeepsNC.refl (B:Nat) (W:World):KeepsNC B W W:=fun _ _ _ h _=>h
theorem KeepsNC.of_below {B:Nat} {W W':World} (h:Below W.heap.size W W'):KeepsNC B W W':=fun k o _ hk _=>(h.block k (Array.getElem?_eq_some_iff.1 hk).1).trans hk
variable {F:Fence} {n:Nat} {P:Program}
def wpR (P:Program) (c:Code) (Q:Exit→Act→World→Prop) (a:Act) (w:World):Prop :=
 ∀ (b:Frame) (k:List Item) (cs:List Frame),b.roundOf=none→(∃ fn,P.funcs[b.fn]?=some fn) →
  ∃ e a' w',Q e a' w'∧ArrivesIn (Machine.fenced P Fence.wide) P (lone (b.atR a (.code c::k)) cs w) b k cs e a' w'
section
variable {n:Nat} {P:Program} {Q:Exit→Act→World→Prop} {a:Act} {w:World}
theorem zQj {c:Code} (h:c.wpIn Fence.wide n P Q a w):wpR P c Q a w:=fun b k cs hro _=>h b k cs hro trivial (room_wide _)
theorem zDI {c:Code} (h:c.wp P Q a w):wpR P c Q a w:=zQj (n:=0) (wpIn_wide.2 h)
theorem zCH {x y:Code} (h:wpR P x (Exit.then (wpR P y Q) Q) a w):wpR P (.seq x y) Q a w:=by
 intro b k cs hro hb;have h0:(lone (b.atR a (.code (.seq x y)::k)) cs w).fenced P Fence.wide:=fenced_wide _ _;obtain⟨e,a₁,w₁,hq,harr⟩:=h b (.code y::k) cs hro hb
 cases e with
 | normal =>
  obtain⟨e₂,a₂,w₂,hq₂,harr₂⟩:=hq b k cs hro hb;exact⟨e₂,a₂,w₂,hq₂,.of_steps (.head h0 stepR_seq harr) harr₂⟩
 | exit id=>exact⟨_,a₁,w₁,hq,.of_steps (.one h0 stepR_seq) (.pass (x:=.code y) rfl (fun _ _=>.inl (by simp)) harr)⟩
 | goto l=>exact⟨_,a₁,w₁,hq,.of_steps (.one h0 stepR_seq) (.pass (x:=.code y) rfl (fun _ _=>.inl (by simp)) harr)⟩
 | ret=>exact⟨_,a₁,w₁,hq,.of_steps (.one h0 stepR_seq) (.pass (x:=.code y) rfl (fun _ _=>.inl (by simp)) harr)⟩
 | panic ch=>exact⟨_,a₁,w₁,hq,.of_steps (.one h0 stepR_seq) (.pass (x:=.code y) rfl (fun _ _=>.inl (by simp)) harr)⟩
 | outgrown=>exact⟨_,a₁,w₁,hq,.of_steps (.one h0 stepR_seq) (.pass (x:=.code y) rfl (fun _ _=>.inl (by simp)) harr)⟩
theorem zNQ {id:Nat} {c:Code} (h:wpR P c (Exit.inBlock id Q) a w):wpR P (.block id c) Q a w:=by
 intro b k cs hro hb;have h0:(lone (b.atR a (.code (.block id c)::k)) cs w).fenced P Fence.wide:=fenced_wide _ _;obtain⟨e,a₁,w₁,hq,harr⟩:=h b (.inBlock id::k) cs hro hb
 cases e with
 | normal=>exact⟨.normal,a₁,w₁,hq,.head h0 stepR_block (StepsIn.trans harr (.one (fenced_wide _ _) stepR_inBlock))⟩
 | exit id' =>
  by_cases hid:id'=id
  ·simp only[Exit.inBlock,hid,if_true]at hq;exact⟨.normal,a₁,w₁,hq,.head h0 stepR_block (harr.1 k (by simp[exitTo,hid]))⟩
  ·simp only[Exit.inBlock,hid,if_false]at hq;have this:(id == id')=false:=by simp;exact fun h=>hid h.symm
   have hx:exitTo id' (.inBlock id::k)=exitTo id' k:=by simp[exitTo,this]
   exact⟨.exit id',a₁,w₁,hq,fun k' hk=>.head h0 stepR_block (harr.1 k' (by rw[hx];exact hk)),
    fun hr' hk=>let ⟨k₁,h1,h2⟩:=harr.2 hr' (by rw[hx];exact hk);⟨k₁,h1,.head h0 stepR_block h2⟩⟩
 | goto l =>
  have hx:gotoIn l (.inBlock id::k)=gotoIn l k:=by simp[gotoIn]
  exact⟨_,a₁,w₁,hq,fun k' hk=>.head h0 stepR_block (harr.1 k' (by rw[hx];exact hk)),
   fun hr' hk=>let ⟨k₁,h1,h2⟩:=harr.2 hr' (by rw[hx];exact hk);⟨k₁,h1,.head h0 stepR_block h2⟩⟩
 | ret=>exact⟨_,a₁,w₁,hq,.of_steps (.one h0 stepR_block) harr⟩
 | panic ch=>exact⟨_,a₁,w₁,hq,.of_steps (.one h0 stepR_block) harr⟩
 | outgrown=>exact⟨_,a₁,w₁,hq,.of_steps (.one h0 stepR_block) harr⟩
theorem zIw {f:FuncId} {fn:Func} {c:Code} {args:Array Value} {R:Ending→World→Prop} (hf:P.funcs[f]?=some fn) (hb:fn.body=some c)
  (h:wpR P c (bodyPostM Fence.wide n P fn R) {tmps:=args++Array.replicate (fn.ntmps - args.size) undef,defers:=[]} w):CallsIn Fence.wide n P f args w R:=by
 have hF:Fence.wide.fn f:=trivial;refine⟨hF,fun cs hr=>?_⟩
 let b:Frame:={(default:Frame) with fn:=f,kind:=.normal,roundOf:=none}
 have henter:Frame.enter P f args .normal =
   b.atR {tmps:=args++Array.replicate (fn.ntmps - args.size) undef,defers:=[]} [.code c]:=by
  simp[Frame.enter,Frame.atR,hf,hb,b]
 obtain⟨e,a',w',hq,harr⟩:=h b [] cs rfl ⟨fn,hf⟩;rw[← henter]at harr
 cases e with
 | normal =>
  obtain⟨e',w'',fr',hR,hs,hfn,hl⟩:=leaves_stepsInM a'.defers .returning w' {b.atR a' [] with mode:=.returning} cs rfl rfl rfl hf rfl hF hr hq
  exact⟨e',w'',fr',hR,ComesIn.of_steps (StepsIn.trans harr (.one (fenced_calm (fr:=b.atR a' []) hF hr rfl) (stepR_end rfl))) hs,hfn,hl⟩
 | ret =>
  obtain⟨todo,hs₀⟩:=harr.1 rfl;obtain⟨e',w'',fr',hR,hs,hfn,hl⟩:=leaves_stepsInM a'.defers .returning w' {b.atR a' todo with mode:=.returning} cs rfl rfl rfl hf rfl hF hr hq
  exact⟨e',w'',fr',hR,ComesIn.of_steps hs₀ hs,hfn,hl⟩
 | panic chain =>
  obtain⟨todo,hs₀⟩:=harr;obtain⟨e',w'',fr',hR,hs,hfn,hl⟩:=leaves_stepsInM a'.defers (.panicking chain) w' {b.atR a' todo with mode:=.panicking chain} cs rfl rfl rfl hf rfl hF hr hq
  exact⟨e',w'',fr',hR,ComesIn.of_steps hs₀ hs,hfn,hl⟩
 | exit id=>exact hq.elim
 | goto l=>exact hq.elim
 | outgrown=>exact⟨.outgrown,w',b,hq,harr.resolve_left (by simp[b]),rfl,trivial⟩
def zKv (P:Program) (l:Nat) (R:Ending→World→Prop):Exit→Act→World→Prop
 | .panic ch,a,w=>a.defers=[]∧R (.panicked ch) w
 | e,a,w=>roundPost P l R e a w
theorem zGT {l:Nat} {f:FuncId} {fn0:Func} {tmps:Array Value} {assign body:Code} {R:Ending→World→Prop} (hf:P.funcs[f]?=some fn0)
  (h:assign.wpIn (Fence.wide.inRound l) n P (Exit.then (fun a₁ w₁=>∃ w₂,(Instr.beginRound l).run P w₁=.ok () w₂∧body.wpIn (Fence.wide.inRound l) n P (zKv P l R) a₁ w₂) (fun _ _ _=>False))
   {tmps:=tmps,defers:=[]} w) :
  RoundIn Fence.wide n P l f tmps assign body w R:=by
 have hF:Fence.wide.fn f:=trivial;refine⟨hF,fun c cs hr=>?_⟩
 let b:Frame:={(default:Frame) with fn:=f,kind:=.normal,roundOf:=some l}
 have hb0:Frame.round l f tmps assign body .normal=b.atR {tmps:=tmps,defers:=[]} [.code assign,.beginRound,.code body]:=by
  simp[Frame.round,Frame.atR,b]
 have hr':(Fence.wide.inRound l).room ((c::cs).length+1+n):=hr;have hF':(Fence.wide.inRound l).fn b.fn:=hF;obtain⟨e,a₁,w₁,hq,harr⟩:=h b [.beginRound,.code body] (c::cs) rfl hF' hr';rw[← hb0]at harr
 cases e with
 | normal =>
  obtain⟨w₂,hbr,hbody⟩:=hq;have s1:StepsIn (Machine.fenced P (Fence.wide.inRound l)) P (lone (b.atR a₁ [.beginRound,.code body]) (c::cs) w₁) (lone (b.atR a₁ [.code body]) (c::cs) w₂) :=
   .one (fenced_calm (fr:=b.atR a₁ [.beginRound,.code body]) hF' hr' rfl) (stepR_beginRound rfl hbr)
  obtain⟨e₂,a₂,w₃,hq₂,harr₂⟩:=hbody b [] (c::cs) rfl hF' hr'
  cases e₂ with
  | normal =>
   obtain⟨v,w₄,hend,hR⟩:=hq₂;exact⟨.returned v,w₄,hR,(StepsIn.trans harr s1).trans (StepsIn.trans harr₂ (.one (fenced_calm (fr:=b.atR a₂ []) hF' hr' rfl) (stepR_round_end rfl rfl hend)))⟩
  | ret =>
   obtain⟨v,w₄,hend,hR⟩:=hq₂;obtain⟨k₁,hs⟩:=harr₂.2 rfl;exact⟨.returned v,w₄,hR,(StepsIn.trans harr s1).trans (StepsIn.trans hs (.one (fenced_calm (fr:=b.atR a₂ (.code .ret::k₁)) hF' hr' rfl) (stepR_round_ret rfl rfl hend)))⟩
  | exit id =>
   obtain⟨v,w₄,hend,hR⟩:=hq₂;obtain⟨k₁,hk,hs⟩:=harr₂.2 rfl rfl;exact⟨.returned v,w₄,hR,(StepsIn.trans harr s1).trans (StepsIn.trans hs (.one (fenced_calm (fr:=b.atR a₂ (.code (.exit id)::k₁)) hF' hr' rfl) (stepR_round_exit rfl rfl hk hend)))⟩
  | goto t =>
   obtain⟨v,w₄,hend,hR⟩:=hq₂;obtain⟨k₁,hk,hs⟩:=harr₂.2 rfl rfl;exact⟨.returned v,w₄,hR,(StepsIn.trans harr s1).trans (StepsIn.trans hs (.one (fenced_calm (fr:=b.atR a₂ (.code (.goto t)::k₁)) hF' hr' rfl) (stepR_round_goto rfl rfl hk hend)))⟩
  | panic chain =>
   obtain⟨hd,hR⟩:=hq₂;obtain⟨todo,hs⟩:=harr₂;refine⟨.panicked chain,w₃,hR,(StepsIn.trans harr s1).trans (StepsIn.trans hs (.one (fenced_wide _ _) (step_leave_panicked ?_)))⟩;exact⟨rfl,hd,fn0,hf⟩
  | outgrown=>exact hq₂.elim
 | exit id=>exact hq.elim
 | goto t=>exact hq.elim
 | ret=>exact hq.elim
 | panic chain=>exact hq.elim
 | outgrown=>exact hq.elim
theorem zH8 {g:Operand} {ps:Array Tmp} {assign body:Code}
  (h:∀ fn,(∃ f,P.funcs[fn]?=some f)→∃ (l:Nat) (mark:List Deferred) (w₁:World) (d:Deferred) (w₁':World) (f:FuncId) (args:Array Value) (w₂:World),
   (Instr.enterLoop fn a.tmps ps assign body none).run P w=.ok (l,mark) w₁ ∧
   (resolve a.eval (rangeCall g l) 0).run P w₁=.ok d w₁' ∧
   (invoke d.target d.args).run P w₁'=.ok (.enter f args) w₂ ∧
   CallsIn Fence.wide n P f args w₂ (rangePost Fence.wide n P l Q {a with defers:=mark++a.defers})) :
  wpR P (Code.rangeFunc g ps assign body) Q a w:=by
 intro b k cs hro hb;have hr:=room_wide;obtain⟨l,mark,w₁,d,w₁',f,args,w₂,he,hres,hinv,hF,hcall⟩:=h b.fn hb;rw[← hro]at he;have h0:(lone (b.atR a (.code (.rangeFunc g ps assign body)::k)) cs w).fenced P Fence.wide:=fenced_wide _ _;have henter:=stepR_rangeFunc (P:=P) (b:=b) (a:=a) (k:=k) (cs:=cs) (w:=w) he hres hinv;obtain⟨e,w₃,fr,hR,hsteps,hfn,hleave⟩:=hcall (b.atR {a with defers:=mark++a.defers} (.inRangeFunc l::k)::cs) (hr _)
 cases e with
 | outgrown =>
  obtain⟨a₀,w₀,hq⟩:=hR;exact⟨.outgrown,a₀,w₀,hq,.inr (Outgrown.of_steps (.one henter) hsteps)⟩
 | returned v =>
  have hl:(lone fr (b.atR {a with defers:=mark++a.defers} (.inRangeFunc l::k)::cs) w₃).fenced P Fence.wide:=fenced_wide _ _
  obtain⟨jump,w₄,hend,hj⟩:=hR;have sback:StepsIn (Machine.fenced P Fence.wide) P (lone (b.atR a (.code (.rangeFunc g ps assign body)::k)) cs w) (lone (b.atR {a with defers:=mark++a.defers} ((jump.map Item.code).toList++k)) cs w₄):=by
   refine .head h0 henter (StepsIn.trans hsteps (.head hl ?_ (.one (fenced_wide _ _) (stepR_endRangeFunc hend))));rw[← finish_atR_inRangeFunc l v];exact step_leave_returned hleave
  cases jump with
  | none=>exact⟨.normal,_,w₄,hj,sback⟩
  | some c =>
   obtain⟨e',a'',w₅,hq,harr⟩:=hj b k cs hro trivial (hr _);exact⟨e',a'',w₅,hq,.of_steps sback harr⟩
 | panicked chain =>
  have hl:(lone fr (b.atR {a with defers:=mark++a.defers} (.inRangeFunc l::k)::cs) w₃).fenced P Fence.wide:=fenced_wide _ _
  refine⟨.panic chain,_,w₃,hR,.inRangeFunc l::k,.head h0 henter (StepsIn.trans hsteps (.one hl ?_))⟩;rw[← Frame.raise_atR];exact step_leave_panicked hleave
end
def zQu (B:Nat) (Y:Option Code→World→Prop) (X:List PanicEntry→World→Prop) (W:World):Exit→Act→World→Prop
 | .normal,_,W'=>KeepsNC B W W'∧Y none W'
 | .ret,_,W'=>KeepsNC B W W'∧Y (some .ret) W'
 | .exit id,_,W'=>KeepsNC B W W'∧Y (some (.exit id)) W'
 | .goto t,_,W'=>KeepsNC B W W'∧Y (some (.goto t)) W'
 | .panic ch,a,W'=>a.defers=[]∧KeepsNC B W W'∧X ch W'
 | .outgrown,_,_=>False
def zRR (Q:Exit→Act→World→Prop) (a:Act) (W:World):Option Code→Prop
 | none=>Q .normal a W
 | some .ret=>Q .ret a W
 | some (.exit id)=>Q (.exit id) a W
 | some (.goto t)=>Q (.goto t) a W
 | _=>False
theorem zMg {σ α:Type} {n:Nat} {P:Program} {g:Operand} {ps:Array Tmp} {assign body:Code} {Q:Exit→Act→World→Prop} {a:Act} {w:World}
  {gf:Nat} {lb:Array Value} (hg:a.eval g=.func (.func gf) #[] lb) (eg:∀ args w,(callFunc gf args).run P w=.ok (.enter gf args) w)
  {encs:α→Array Value} (hps:∀ x,(encs x).size=ps.size)
  (I0:World→Prop) (S:Option Code→World→Prop) (Pn:List PanicEntry→World→Prop) (Yp:σ→α→World→Prop) (Yq:σ→α→Option Code→World→Prop) (Yx:σ→α→List PanicEntry→World→Prop) (Ya:σ→α→Act→World→Prop)
  (st0:Stay w.heap.size I0) (stS:∀ j,Stay w.heap.size (S j)) (stYq:∀ s x j,Stay w.heap.size (Yq s x j)) (stYa:∀ s x a,Stay w.heap.size (Ya s x a))
  (hiter:∀ (l:Nat) (B:Option Code→World→Prop) (K:World→Prop),(∀ j W W',KeepsNC w.heap.size W W'→B j W→B j W')→(∀ W W',KeepsNC w.heap.size W W'→K W→K W')→(∀ j W,B j W→K W) →
   (∀ s x W1,Yp s x W1→B none W1→YieldAt Fence.wide (n - 1) P l (encs x) W1 fun e W'=>(∃ j:Option Code,e=.returned (.bool j.isNone)∧Yq s x j W'∧B j W')∨∃ ch,e=.panicked ch∧Yx s x ch W'∧K W') →
   ∀ W,I0 W→B none W→CallsIn Fence.wide n P gf (#[.func (.yield l) #[] #[]]++lb) W fun e W'=>(∃ v j,e=.returned v∧S j W'∧B j W')∨∃ ch,e=.panicked ch∧Pn ch W'∧K W')
  (h0:I0 w)
  (hassign:∀ (l:Nat) (s:σ) (x:α) (W:World),Yp s x W →
   assign.wpIn (Fence.wide.inRound l) (n - 1) P (Exit.then (fun a1 W1=>KeepsNC w.heap.size W W1∧Ya s x a1 W1) (fun _ _ _=>False)) {tmps:=(ps.zip (encs x)).foldl (fun t (p,v)=>t.setIfInBounds p v) a.tmps,defers:=[]} W)
  (hbody:∀ (l:Nat) (s:σ) (x:α) (a1:Act) (W:World),Ya s x a1 W→body.wpIn (Fence.wide.inRound l) (n - 1) P (zQu w.heap.size (Yq s x) (Yx s x) W) a1 W)
  (hdone:∀ (D:Nat) (j:Option Code) (W:World),w.heap.size≤D→S j W→W.heap[D]?=some (.deferred (some []))→zRR Q {a with defers:={target:=.collected D,args:=#[]}::a.defers} W j)
  (hpan:∀ (D:Nat) (ch:List PanicEntry) (W:World),w.heap.size≤D→Pn ch W→W.heap[D]?=some (.deferred (some []))→Q (.panic ch) {a with defers:={target:=.collected D,args:=#[]}::a.defers} W) :
  wpR P (Code.rangeFunc g ps assign body) Q a w:=by
 refine zH8 (n:=n) ?_
 intro fn hfn;obtain⟨fn0,hfn⟩:=hfn;obtain⟨rec,hrec⟩:∃ rec:LoopState→Option Code→Loop,rec=fun st pe=>{state:=st,pending:=pe,fn,tmps:=a.tmps,params:=ps,assign,body,defers:=w.heap.size}:=⟨_,rfl⟩
 obtain⟨W1,hW1⟩:∃ W1,(w.alloc (.deferred (some []))).alloc (.loop (rec .ready none))=W1:=⟨_,rfl⟩;have hL1:W1.heap[w.heap.size+1]?=some (.loop (rec .ready none)):=by
  rw[← hW1];have:=World.alloc_heap_new (w.alloc (.deferred (some []))) (.loop (rec .ready none));rwa [World.size_alloc]at this
 have hK1:W1.heap[w.heap.size]?=some (.deferred (some [])):=by
  rw[← hW1];exact(Below.heap_alloc _ _ _ (by simp)).trans (World.alloc_heap_new w _)
 have hI1:I0 W1:=by rw[← hW1];exact st0.alloc _ (st0.alloc _ h0)
 refine⟨w.heap.size+1,[{target:=.collected w.heap.size,args:=#[]}],W1,{target:=.fn (.func gf) lb,args:=#[.func (.yield (w.heap.size+1)) #[] #[]]},W1,gf,
  #[.func (.yield (w.heap.size+1)) #[] #[]]++lb,W1,?_,?_,?_,?_⟩
 ·rw[← hW1,hrec];exact run_enterLoop_outer _ _ _ _ _
 ·simp only[resolve,hg];simp[go_sem]
 ·simp[invoke,go_sem,eg]
 ·refine(hiter (w.heap.size+1) (fun j W=>W.heap[w.heap.size+1]?=some (.loop (rec (if j.isNone then .ready else .done) j))∧W.heap[w.heap.size]?=some (.deferred (some []))) (fun W=>W.heap[w.heap.size]?=some (.deferred (some [])))
   (fun j W W' hk hB=>⟨hk.same _ _ (by omega) hB.1 rfl,hk.same _ _ (Nat.le_refl _) hB.2 rfl⟩) (fun W W' hk hB=>hk.same _ _ (Nat.le_refl _) hB rfl) (fun j W hB=>hB.2) ?_ W1 hI1 ⟨hL1,hK1⟩).mono ?_
  ·rintro s x W hy ⟨hl,hk⟩;have hl:W.heap[w.heap.size+1]?=some (.loop (rec .ready none)):=hl;have hlt:w.heap.size+1<W.heap.size:=(Array.getElem?_eq_some_iff.1 hl).1;have hyr:=run_yield (P:=P) (args:=encs x) hl (by rw[hrec];exact hps x)
   rw[hrec]at hyr;refine⟨fn,_,assign,body,hyr,zGT hfn (wpIn_mono (hassign (w.heap.size+1) s x W hy) ?_)⟩;rintro e a1 Wa hp
   cases e with
   | normal =>
    obtain⟨hka,hya⟩:=hp;have hla:=hka.same _ _ (by omega) hl rfl
    have hda:=hka.same _ _ (Nat.le_refl _) hk rfl;refine⟨_,run_beginRound hla (by rw[hrec]),?_⟩
    have hlt2:w.heap.size+1<Wa.heap.size:=(Array.getElem?_eq_some_iff.1 hla).1;have hl2:(Wa.putObj (w.heap.size+1) (.loop {rec .ready none with state:=.busy})).heap[w.heap.size+1]?=some (.loop {rec .ready none with state:=.busy}):=World.putObj_heap_same hlt2
    have hk2:(Wa.putObj (w.heap.size+1) (.loop {rec .ready none with state:=.busy})).heap[w.heap.size]?=some (.deferred (some [])):=(World.putObj_heap_other (by omega)).trans hda
    refine wpIn_mono (hbody _ s x a1 _ ((stYa s x a1).putObj _ hya (by omega) hla rfl)) ?_
    have key:∀ (j:Option Code) (W3:World),KeepsNC w.heap.size (Wa.putObj (w.heap.size+1) (.loop {rec .ready none with state:=.busy})) W3→Yq s x j W3→∃ v w',(Instr.endRound (w.heap.size+1) j).run P W3=.ok v w'∧((∃ j:Option Code,Ending.returned v=.returned (.bool j.isNone)∧Yq s x j w'∧w'.heap[w.heap.size+1]?=some (.loop (rec (if j.isNone then .ready else .done) j))∧w'.heap[w.heap.size]?=some (.deferred (some [])))∨∃ ch,Ending.returned v=.panicked ch∧Yx s x ch w'∧w'.heap[w.heap.size]?=some (.deferred (some []))):=by
     intro j W3 hk3 hq3;have hl3:=hk3.same _ _ (by omega) hl2 rfl
     have hd3:=hk3.same _ _ (Nat.le_refl _) hk2 rfl;have hre:=run_endRound (P:=P) j hl3;refine⟨_,_,hre,.inl ⟨j,rfl,(stYq s x j).putObj _ hq3 (by omega) hl3 rfl,?_,(World.putObj_heap_other (by omega)).trans hd3⟩⟩
     rw[World.putObj_heap_same (Array.getElem?_eq_some_iff.1 hl3).1,hrec]
    rintro e a3 W3 hp
    cases e with
    | normal=>exact key none W3 hp.1 hp.2
    | ret=>exact key (some .ret) W3 hp.1 hp.2
    | exit id=>exact key (some (.exit id)) W3 hp.1 hp.2
    | goto t=>exact key (some (.goto t)) W3 hp.1 hp.2
    | panic ch=>exact⟨hp.1,.inr ⟨ch,rfl,hp.2.2,hp.2.1.same _ _ (Nat.le_refl _) hk2 rfl⟩⟩
    | outgrown=>exact hp.elim
   | ret=>exact hp.elim
   | exit id=>exact hp.elim
   | goto t=>exact hp.elim
   | panic ch=>exact hp.elim
   | outgrown=>exact hp.elim
  ·rintro e W2 (⟨v,j,rfl,hS,hl,hk⟩|⟨ch,rfl,hP,hk⟩)
   ·have hd:=hdone w.heap.size j _ (Nat.le_refl _) ((stS j).putObj (.loop {rec (if j.isNone then .ready else .done) j with state:=.exhausted}) hS (by omega) hl rfl) ((World.putObj_heap_other (by omega)).trans hk)
    have hend:=run_endLoop (P:=P) hl (by rw[hrec];cases j<;>simp)
    subst hrec;refine⟨j,_,hend,?_⟩
    cases j with
    | none=>exact hd
    | some c =>
     cases c with
     | ret=>exact wpIn_ret hd
     | exit id=>exact wpIn_exit hd
     | goto t=>exact wpIn_goto hd
     | _=>exact hd.elim
   ·exact hpan _ ch _ (Nat.le_refl _) hP hk
structure Agree (L L':Str) (m:Nat):Prop where
 one:m≤L.length
 two:m≤L'.length
 same:L.take m=L'.take m
theorem Agree.symm {L L':Str} {m:Nat} (h:Agree L L' m):Agree L' L m:=⟨h.two,h.one,h.same.symm⟩
theorem Agree.le {L L':Str} {m n:Nat} (h:Agree L L' m) (hn:n≤m):Agree L L' n:=by
 refine⟨by have:=h.one;omega,by have:=h.two;omega,?_⟩
 have:=congrArg (List.take n) h.same
 rwa [List.take_take,List.take_take,Nat.min_eq_left hn]at this
theorem Agree.byt {L L':Str} {m k:Nat} (h:Agree L L' m) (hk:k<m):byt L' k=byt L k:=by
 have h1:=h.one;have h2:=h.two;rw[zEL (by omega),zEL (by omega)]
 have e:(L.take m)[k]'(by simp;omega)=(L'.take m)[k]'(by simp;omega):=by simp only[h.same]
 simp only[List.getElem_take]at e;rw[e]
theorem Agree.at {L L' t:Str} {m i:Nat} (h:Agree L L' m) (hk:i+t.length≤m):atP L' i t=atP L i t:=by
 have h1:=h.one;have h2:=h.two;rw[← zPY (by omega),← zPY (by omega),(h.le hk).same]
section
variable (A B:Str)
end

def er (w:WordD):WordD:={w with place:=0}
section
variable {f:zAP} {la:List WordD} {ta:Tree} {ga:Nat}
end
section
variable {A B:Str} {f:zAP} {n m:Tree} {i k:Nat}
end
end
section
open Go.RowKit Go.Shelf
attribute [local go_sem] Oper.semAt_some
def NW (A:Nat→Option Obj→Prop) (t:Tree) (v:Value) (W:World):Prop:=∃ p c F,v=zAl t.d (.slice p t.kids.length c)∧ForestR W F p c t.kids∧∀ b,F b→b<W.heap.size∧A b W.heap[b]?
def KW (A:Nat→Option Obj→Prop) (ts:List Tree) (v:Value) (W:World):Prop:=∃ p c F,v=.slice p ts.length c∧ForestR W F p c ts∧∀ b,F b→b<W.heap.size∧A b W.heap[b]?
section
variable {A:Nat→Option Obj→Prop}
theorem NW.below {t:Tree} {v:Value} {w w':World} (h:NW A t v w) (hb:Below w.heap.size w w'):NW A t v w':=by
 obtain⟨p,c,F,e,h,hF⟩:=h;exact⟨p,c,F,e,h.kept fun b hf=>hb.block b (hF b hf).1,fun b hf=>⟨Nat.lt_of_lt_of_le (hF b hf).1 hb.size,by rw[hb.block b (hF b hf).1];exact(hF b hf).2⟩⟩
theorem KW.below {t:List Tree} {v:Value} {w w':World} (h:KW A t v w) (hb:Below w.heap.size w w'):KW A t v w':=by
 obtain⟨p,c,F,e,h,hF⟩:=h;exact⟨p,c,F,e,h.kept fun b hf=>hb.block b (hF b hf).1,fun b hf=>⟨Nat.lt_of_lt_of_le (hF b hf).1 hb.size,by rw[hb.block b (hF b hf).1];exact(hF b hf).2⟩⟩
theorem zMS (t:Tree):zDr (NW A t):=fun _ _ _ h hb=>h.below hb
theorem zNJ (t:List Tree):zDr (KW A t):=fun _ _ _ h hb=>h.below hb
theorem NW.kids {t:Tree} {v:Value} {W:World} (h:NW A t v W):∃ u,v=zAl t.d u∧KW A t.kids u W:=by
 obtain⟨p,c,F,rfl,h,hF⟩:=h;exact⟨_,rfl,p,c,F,rfl,h,hF⟩
theorem NW.leaf (d:NodeD) (W:World):NW A (.mk d []) (zAl d nilS) W:=⟨none,0,fun _=>False,rfl,ForestR.nil ..,fun _ h=>h.elim⟩
end
theorem zFX {V:World} {g:Nat} {cs:Array Value} {T:TypeId} {f:Nat × Nat} {xs:List TV} {F:Nat→Prop} (h:V.heap[g]?=some (.cells cs T f)) (hc:cs=(zAb (xs.map zAn)).toArray) (hn:xs.length≤1000000) (hk:ListR V F xs):ForestR V (fun b=>b=g∨F b) (some ⟨g,0,none⟩) xs.length (xs.map (·.1)):=by
 refine .mk _ _ _ xs ⟨some ⟨g,0,none⟩,xs.length,by simp,by simp,by unfold maxLen;omega,(fun h=>by cases h),fun j r hr=>⟨g,0,rfl,.inl rfl,zBW xs r (List.mem_of_getElem? hr),fun k hk=>?_⟩⟩ (hk.mono fun _ h=>.inr h) rfl
 rw[Nat.zero_add,cell_of_row V g _ cs T f h,hc,List.getElem?_toArray];exact zDZ (zBW xs) hr hk
section
variable {A:Nat→Option Obj→Prop}
theorem KW.of_alloc {w:World} {ts:List Tree} {vs:List Value} (h:∀ (i:Nat) (t:Tree),ts[i]?=some t→∃ v,vs[i]?=some v∧NW A t v w) (hn:ts.length≤1000000) {cs:Array Value} (hc:cs=(vs.flatMap fun v=>v.cells.toList).toArray) (hl:vs.length=ts.length) (hA:A w.heap.size (some (.cells cs 30 (0,0)))) :
  KW A ts (.slice (some ⟨w.heap.size,0,none⟩) ts.length ts.length) (w.alloc (.cells cs 30)):=by
 have key:∀ (ts:List Tree) (vs:List Value),(∀ (i:Nat) (t:Tree),ts[i]?=some t→∃ v,vs[i]?=some v∧NW A t v w)→vs.length=ts.length→∃ xs:List TV,xs.map (·.1)=ts∧(vs.flatMap fun v=>v.cells.toList)=zAb (xs.map zAn)∧∃ F:Nat→Prop,ListR w F xs∧∀ b,F b→b<w.heap.size∧A b w.heap[b]?:=by
  intro ts
  induction ts with
  | nil =>
   intro vs _ hl;obtain rfl:vs=[]:=List.length_eq_zero_iff.1 hl;exact⟨[],rfl,rfl,fun _=>False,ListR.nil _ _,fun _ h=>h.elim⟩
  | cons t r ih =>
   intro vs h hl
   cases vs with
   | nil=>cases hl
   | cons v vs =>
    obtain⟨xs,e1,e2,F,h1,h2⟩:=ih vs (fun i t ht=>h (i+1) t (by simpa using ht)) (by simpa using hl)
    obtain⟨u,hu,p,c,G,rfl,g1,g2⟩:=h 0 t rfl;simp at hu;subst hu;refine⟨(t,p,c)::xs,by simp[e1],?_,fun b=>F b∨G b,?_,fun b hb=>hb.elim (h2 b) (g2 b)⟩
    ·rw[List.flatMap_cons,e2];simp[zAb,zAn,Value.cells]
    ·intro x hx;rcases List.mem_cons.1 hx with rfl|hx
     ·exact g1.mono fun _ h=>.inr h
     ·exact(h1 x hx).mono fun _ h=>.inl h
 obtain⟨xs,e1,e2,F,h1,h2⟩:=key ts vs h hl;subst e1;rw[List.length_map]at hn ⊢;refine⟨_,xs.length,fun b=>b=w.heap.size∨F b,by rw[List.length_map],?_,?_⟩
 ·refine zFX (World.alloc_heap_new w _) (by rw[hc,e2]) hn (h1.kept fun b hb=>?_)
  exact((Below.refl _ w).alloc (Nat.le_refl _) _).block b (h2 b hb).1
 ·intro b hb;have hs:w.heap.size<(w.alloc (.cells cs 30)).heap.size:=(Array.getElem?_eq_some_iff.1 (World.alloc_heap_new w _)).1;rcases hb with rfl|hb
  ·exact⟨hs,by rw[World.alloc_heap_new];exact hA⟩
  ·have hlt:=(h2 b hb).1;exact⟨by omega,by rw[((Below.refl _ w).alloc (Nat.le_refl _) _).block b hlt];exact(h2 b hb).2⟩
theorem zM9 (d:NodeD) (s:Value) (W:World):(Instr.buildSlice 28 1 #[(0,zAl d s)]).run Tryz.prog W=.ok (.slice (some ⟨W.heap.size,0,none⟩) 1 1) (W.alloc (.cells (([zAl d s].flatMap fun v=>v.cells.toList).toArray) 30)):=by kernel_rfl
theorem zMm (d:NodeD) (s:Value) (d1:NodeD) (s1:Value) (W:World):(Instr.buildSlice 28 2 #[(0,zAl d s),(1,zAl d1 s1)]).run Tryz.prog W=.ok (.slice (some ⟨W.heap.size,0,none⟩) 2 2) (W.alloc (.cells (([zAl d s,zAl d1 s1].flatMap fun v=>v.cells.toList).toArray) 30)):=by kernel_rfl
theorem zRQ {t:Tree} {v:Value} {w:World} (h:NW A t v w) (hA:∀ cs:Array Value,(∃ s,cs=zAR t.d s)→A w.heap.size (some (.cells cs 30 (0,0)))):∃ cs,(Instr.buildSlice 28 1 #[(0,v)]).run Tryz.prog w=.ok (.slice (some ⟨w.heap.size,0,none⟩) 1 1) (w.alloc (.cells cs 30))∧KW A [t] (.slice (some ⟨w.heap.size,0,none⟩) 1 1) (w.alloc (.cells cs 30)):=by
 obtain⟨u,rfl,_⟩:=h.kids;refine⟨_,zM9 t.d u w,KW.of_alloc (ts:=[t]) (vs:=[zAl t.d u]) (fun i x hx=>?_) (by simp) rfl rfl (hA _ ⟨u,by simp[Value.cells]⟩)⟩
 match i,hx with
 | 0,hx=>cases hx;exact⟨_,rfl,h⟩
theorem zRC {t t1:Tree} {v v1:Value} {w:World} (h:NW A t v w) (h1:NW A t1 v1 w) (hA:∀ cs:Array Value,cs.size=20→A w.heap.size (some (.cells cs 30 (0,0)))):∃ cs,(Instr.buildSlice 28 2 #[(0,v),(1,v1)]).run Tryz.prog w=.ok (.slice (some ⟨w.heap.size,0,none⟩) 2 2) (w.alloc (.cells cs 30))∧KW A [t,t1] (.slice (some ⟨w.heap.size,0,none⟩) 2 2) (w.alloc (.cells cs 30)):=by
 obtain⟨u,rfl,_⟩:=h.kids;obtain⟨u1,rfl,_⟩:=h1.kids;refine⟨_,zMm t.d u t1.d u1 w,KW.of_alloc (ts:=[t,t1]) (vs:=[zAl t.d u,zAl t1.d u1]) (fun i x hx=>?_) (by simp) rfl rfl (hA _ rfl)⟩
 match i,hx with
 | 0,hx=>cases hx;exact⟨_,rfl,h⟩
 | 1,hx=>cases hx;exact⟨_,rfl,h1⟩
end
section
variable {ops:Array Oper} {o:Oper} {a:Act} {w:World} {D:Prop} {A:Nat→Option Obj→Prop}
theorem zOm {t0:Tree} {x0:Operand} (hg:Region.wanted o (yielded ops a.tmps)=true) (hop:o.op=.buildSlice 28 1 #[(0,x0)]) (h0:NW A t0 (a.eval x0) w) (hA:∀ cs:Array Value,(∃ s,cs=zAR t0.d s)→A w.heap.size (some (.cells cs 30 (0,0)))) (hD:¬ D:=by decide):zBY Tryz.prog ops o a w (fun v w'=>KW A [t0] v w'∧(D→w.heap.size≤blk v)):=by
 obtain⟨cs,e,h⟩:=zRQ h0 hA;refine zCm hg (v:=.slice (some ⟨w.heap.size,0,none⟩) 1 1) (w':=w.alloc (.cells cs 30)) ?_ ((Below.refl _ w).alloc (Nat.le_refl _) _) ⟨h,fun h=>(hD h).elim⟩
 simp only[execOp,hop,List.map_toArray,List.map_cons,List.map_nil,Sem.run_bind,e,Result.andThen_ok];rfl
theorem zKT {t0 t1:Tree} {x0 x1:Operand} (hg:Region.wanted o (yielded ops a.tmps)=true) (hop:o.op=.buildSlice 28 2 #[(0,x0),(1,x1)]) (h0:NW A t0 (a.eval x0) w) (h1:NW A t1 (a.eval x1) w) (hA:∀ cs:Array Value,cs.size=20→A w.heap.size (some (.cells cs 30 (0,0)))) (hD:¬ D:=by decide):zBY Tryz.prog ops o a w (fun v w'=>KW A [t0,t1] v w'∧(D→w.heap.size≤blk v)):=by
 obtain⟨cs,e,h⟩:=zRC h0 h1 hA;refine zCm hg (v:=.slice (some ⟨w.heap.size,0,none⟩) 2 2) (w':=w.alloc (.cells cs 30)) ?_ ((Below.refl _ w).alloc (Nat.le_refl _) _) ⟨h,fun h=>(hD h).elim⟩
 simp only[execOp,hop,List.map_toArray,List.map_cons,List.map_nil,Sem.run_bind,e,Result.andThen_ok];rfl
theorem zMQ {t:Tree} {v:Value} (hg:Region.wanted o (yielded ops a.tmps)=true) (hr:(execOp a.eval o).run Tryz.prog w=.ok (.value v) w) (h:NW A t v w) (hD:¬ D:=by decide):zBY Tryz.prog ops o a w (fun v w'=>NW A t v w'∧(D→w.heap.size≤blk v)) :=
 zCm hg hr (Below.refl _ w) ⟨h,fun h=>(hD h).elim⟩
theorem zMn {t:Tree} {x:Operand} {b:Nat} {s:Value} (hg:Region.wanted o (yielded ops a.tmps)=true) (hop:o.op=.load 30 x) (hx:a.eval x=.pointer (some ⟨b,0,none⟩)) (hv:w.heap[b]?=some (.cells (zAR t.d s) 30 (0,0))) (h:NW A t (zAl t.d s) w) (hD:¬ D:=by decide) :
  zBY Tryz.prog ops o a w (fun v w'=>NW A t v w'∧(D→w.heap.size≤blk v)) :=
 zMQ hg (zB0 hop hx zAX rfl fun j _=>by rw[Nat.zero_add,cell_of_row w b _ _ _ _ hv]) h hD
end
theorem zJm (m:Nat) (pb:Nat) (FW:Nat→Prop) (p:Option Addr) (n c:Nat) (ws:List WordD) (j0 g0:Nat) (f0:zAP) (t:Tree) (r':List WordD) (g':Nat) (w0:World) (hP:AltPre pb 116 FW p n c ws j0 g0 w0)
  (hres:zA0 m f0 (ws.drop j0) g0 [] []=some (t,r',g'))
  (IH:∀ k,k<m→∀ (j1 g1:Nat) (f1:zAP) (t1:Tree) (r1:List WordD) (g2:Nat) (w:World),AltPre pb 116 FW p n c ws j1 g1 w→zA0 k f1 (ws.drop j1) g1 [] []=some (t1,r1,g2) →
   Calls Tryz.prog 42 #[.pointer (some ⟨pb,0,none⟩),zBq f1] w (zG8 pb 116 p n c t1 (n - r1.length) g2 w)) :
  Calls Tryz.prog 42 #[.pointer (some ⟨pb,0,none⟩),zBq f0] w0 (zG8 pb 116 p n c t (n - r'.length) g' w0):=by
 obtain⟨i0,hi0,hz0,hz1,hz2⟩:=info_parts zFe
 have H:=(HoldG.startB hP.cells).know FW (WKnows FW p n c ws) hP.lt (fun i r h b hb=>by
  match i,h with
  | 0,h=>cases h;cases hb;exact hP.ne) (fun V hV=>hP.words.kept hV)
 simp only[ca]at H;have hlen:=hP.len;have hb:=hP.words.bound;have hp:=hP.words.at;have HN:=Lib.hid hb.1;have hc1:=hb.2.1;have hc2:=hb.2.2;clear hb;have hjn0:=hP.jn;have hgj0:=hP.gn;have HPN:=Lib.hid hP.ne;have HOK:=Lib.hid hP.ok;clear hP
 go_enter Tryz.func42,Tryz.ntmps42
 go_wp2_with (first|((first|((with_reducible refine kgA 3 ?_);refine kA 3 H ?_)|((with_reducible refine kgX 3 ?_);(first|refine kS 3 H ?_|refine kB 3 H ?_)));clear H;intro b3 w H;try simp only[nr]at H)|((first|((with_reducible refine kgA 4 ?_);refine kA 4 H ?_)|((with_reducible refine kgX 4 ?_);(first|refine kS 4 H ?_|refine kB 4 H ?_)));clear H;intro b4 w H;try simp only[nr]at H)|fail)
 replace H:=(H.addNil 30 10).addNil 30 10;have H1:=H.know (fun _=>False) (fun V=>ListR V (fun _=>False) ([]++[])) (fun _ h=>h.elim) (fun _ _ _ _ _ h=>h) (fun V _=>ListR.nil _ _)
 simp only[List.nil_append,List.cons_append]at H1;clear H
 go_loopw [5,6] (fun vA vI wr=>∃ (j g k:Nat) (f:zAP) (xa xi:List TV) (F:Nat→Prop),j≤n∧g≤j∧xa.length≤j∧xi.length≤j∧(∀ b,F b→w0.heap.size≤b)∧Hid (zA0 k f (ws.drop j) g (xa.map (·.1)) (xi.map (·.1))=some (t,r',g')∧k≤m)
  ∧ HoldG (·=pb) w0 wr [.blk pb (pC p n c j g) 116,.kn FW (WKnows FW p n c ws),.blk b3 (zEA f) 23,.blk b4 (zAR {kind:=0} nilS) 30,
   .row vA 30 10 xa.length (zAb (xa.map zAn)),.row vI 30 10 xi.length (zAb (xi.map zAn)),.kn F (fun V=>ListR V F (xa++xi))])
  (fun _ _ wr=>posM pb n wr)
 case atStart=>exact⟨j0,g0,m,f0,[],[],fun _=>False,hjn0,hgj0,by simp,by simp,fun _ h=>h.elim,Lib.hid ⟨hres,Nat.le_refl _⟩,H1⟩
 case round =>
  clear H1;obtain⟨j,g,k,f,xa,xi,F,hj,hgj,hla,hli,hF,G,H⟩:=hrel;have HM:=Lib.hid ((H.cell .zero 1).trans rfl:wr.cell? ⟨pb,1,none⟩=some (.int .i64 (j:Int)));obtain⟨k,rfl⟩:∃ k',k=k'+1:=by
   cases k with
   | zero=>have:=G.out.1;simp[zA0]at this
   | succ k=>exact⟨k,rfl⟩
  have hp0:∀ W,Below wr.heap.size wr W→W.cell? ⟨pb,0,none⟩=some (.slice p n c):=fun W hb=>(H.call hb).cell .zero 0
  have hp1:∀ W,Below wr.heap.size wr W→W.cell? ⟨pb,1,none⟩=some (.int .i64 (j:Int)):=fun W hb=>(H.call hb).cell .zero 1
  by_cases hlt:j<n
  ·obtain⟨d,hd⟩:∃ d,ws[j]?=some d:=⟨_,List.getElem?_eq_getElem (by rw[← HN.out];exact hlt)⟩
   obtain⟨b,off,rfl⟩:=hp (by rw[← HN.out];omega)
   clear hp;have hokd:=HOK.out d (List.mem_of_getElem? hd);have hdj:decide ((j:Int)<(n:Int))=true:=by simp;omega
   have hkd:∀ W,Below wr.heap.size wr W→W.cell? ⟨b,off+j * 17,none⟩=some (.int .i64 d.kind):=fun W hb=>WKnows.kind ((H.call hb).kn i_1) hd
   have hcell:∀ W,Below wr.heap.size wr W→∀ k,k<17→W.cell? ⟨b,off+j * 17+k,none⟩=(zAY d)[k]?:=fun W hb=>WKnows.cells ((H.call hb).kn i_1) hd rfl
   have HD:=Lib.hid (zEn hd);have HDD:=Lib.hid hd;clear hd
   by_cases h9:d.kind=9
   ·have d9:((d.kind:Int) != 9)=false:=by rw[bne_eq_false_iff_eq];omega
    have E:=Lib.hid (show some (rowT 5 (xa.map (·.1)++[rowT 4 (xi.map (·.1))]),ws.drop j,g)=some (t,r',g') by rw[← G.out.1,HD.out,zQt h9])
    clear h9
    go_upto_region 2 with fail
    obtain⟨T,hT,fw,hf,h0⟩:=fam wr;have e0:=fun x=>hp0 _ (hf x)
    have e1:=fun x=>hp1 _ (hf x)
    have e2:=fun x=>hkd _ (hf x)
    refine zEH fw (by kernel_rfl) (by kernel_rfl) h0 ?_
    repeat (go_big_quiet_step (fail))
    refine wpQuiet_nil ?_
    rintro _ ⟨x,rfl⟩;replace H:=H.call (hf x);obtain⟨wq,hwq⟩:∃ wq,fw x=wq:=⟨_,rfl⟩;rw[hwq]at H ⊢;clear hwq e0 e1 e2 h0 hf hp0 hp1 hkd hcell;clear x fw hT T;obtain⟨qi,ci,rfl,hqi1,hqi2,_⟩:=H.rowShape (i:=5) i_5;obtain⟨GF,hGF,H2⟩:=H.rowForest (i:=5) (xs:=xi) (K:=F) i_5 rfl (Still.at (i:=6) i_6) (fun x hx=>(H.kn (i:=6) i_6) x (List.mem_append.2 (.inr hx)))
    clear H;have H:=H2;clear H2;simp only[sc]at H;have hGFl:∀ b,GF b→w0.heap.size≤b:=fun b h=>(hGF b h).elim id (hF b)
    clear hGF
    generalize hrt:rowT 4 (xi.map (·.1))=rt at E
    have hr4:∀ (w:World) (l:List Res),HoldG (·=pb) w0 w l→At l 5 (.kn GF (fun V=>ForestR V GF qi ci (xi.map (·.1))))→Calls Tryz.prog 84 #[.int .i64 4,.slice qi xi.length ci] w fun e w'=>zDg w GF rt e w'∧Below w.heap.size w w':=fun w l h hi=>hrt ▸ zEp 4 qi ci xi.length GF (xi.map (·.1)) w (h.knlt hi) (h.kn hi) (by rw[List.length_map])
    have HRT:=Lib.hid hrt;clear hrt;simp only[Option.some.injEq,Prod.mk.injEq]at E;obtain⟨ht5,hr5',rfl⟩:=E;have hjr:n - r'.length=j:=by rw[← hr5',List.length_drop,← HN.out];omega
    have hr5:∀ (w:World) (l:List Res) (qa:Option Addr) (ca:Nat) (G3:Nat→Prop),HoldG (·=pb) w0 w l→At l 4 (.kn G3 (fun V=>ForestR V G3 qa ca (xa.map (·.1)++[rt])))→Calls Tryz.prog 84 #[.int .i64 5,.slice qa (xa.length+1) ca] w fun e w'=>zDg w G3 t e w'∧Below w.heap.size w w':=fun w l qa ca G3 h hi=>ht5 ▸ zEp 5 qa ca (xa.length+1) G3 (xa.map (·.1)++[rt]) w (h.knlt hi) (h.kn hi) (by rw[List.length_append,List.length_map];rfl)
    have HJR:=Lib.hid hjr;clear hjr hr5' ht5 hli
    go_wp2_with (first|(at_builtin;refine zB2 rfl _ _ 28 rfl H evd_ rfl atd_ atd_ Tryz.underlying28 hi0 hz0 hz1 hz2 rfl (by decide) rfl rfl (by unfold maxLen;omega) (by omega) ?_;clear H;intro v2 w H;try simp only[nr]at H)|((with_reducible refine gBS ?_);refine zAU wtd_ _ _ _ rfl H (zAR (rt.d) (.slice q2 rt.kids.length c2)) 30 (by intro W;simp only[ml];(try simp only[pe]);exact zCQ _ _ W) ?_;clear H;intro bk w H;try simp only[nr]at H)|((with_reducible refine gT ?_);(refine aT H ?_;clear H;intro w H;try simp only[nr]at H))|(go_at_call 84;(with_reducible refine cht (hr4 _ _ H i_5) H (Still.at (i:=5) i_5) ?_);clear H;intro q2 c2 F2 w hF2 H)|(go_at_call 84;(obtain⟨qa,ca,G3,rfl,hG3,H3⟩:=H.rowForest1 (i:=4) (k:=6) (k2:=7) (xs:=xa) (ys:=xa++xi) i_4 i_6 (fun x hx=>List.mem_append.2 (.inl hx)) i_7);clear H;(have H:=H3);clear H3;(simp only[sc]at H);(with_reducible refine cht (hr5 _ _ _ _ _ H i_4) H (Still.at (i:=4) i_4) ?_);clear H;intro q5 c5 F5 w hF5 H;try simp only[nr]at H))
    (refine xc Tryz.results42 H ?_)
    have hG3l:∀ b,G3 b→w0.heap.size≤b:=fun b h=>(hG3 b h).elim id (fun h=>h.elim (hF b) (fun h=>(hF2 b h).elim id (hGFl b)))
    rw[HJR.out];exact⟨H.keep,(H.blk .zero).2,q5,c5,F5,rfl,(H.all 9 _ rfl).2 _ (fun _ _=>rfl),fun b h=>⟨(H.all 9 _ rfl).1 b h,.inl ((hF5 b h).elim id (hG3l b))⟩⟩
   ·have d9:((d.kind:Int) != 9)=true:=by rw[bne_iff_ne];omega
    go_upto_region 2 with fail
    obtain⟨T,hT,fw,hf,h0⟩:=fam wr;have e0:=fun x=>hp0 _ (hf x)
    have e1:=fun x=>hp1 _ (hf x)
    have e2:=fun x=>hkd _ (hf x)
    refine zEH fw (by kernel_rfl) (by kernel_rfl) h0 ?_
    repeat (go_big_quiet_step (fail))
    refine wpQuiet_nil ?_
    rintro _ ⟨x,rfl⟩;replace H:=H.call (hf x);obtain⟨wq,hwq⟩:∃ wq,fw x=wq:=⟨_,rfl⟩;rw[hwq]at H ⊢;have hq0:∀ W,Below wq.heap.size wq W→W.cell? ⟨pb,0,none⟩=some (.slice (some ⟨b,off,none⟩) n c):=fun W hb=>(H.call hb).cell .zero 0
    have hq1:∀ W,Below wq.heap.size wq W→W.cell? ⟨pb,1,none⟩=some (.int .i64 (j:Int)):=fun W hb=>(H.call hb).cell .zero 1
    have hqc:∀ W,Below wq.heap.size wq W→∀ k,k<17→W.cell? ⟨b,off+j * 17+k,none⟩=(zAY d)[k]?:=fun W hb=>WKnows.cells ((H.call hb).kn i_1) HDD.out rfl
    clear hwq e0 e1 e2 h0 hf hp0 hp1 hkd hcell;clear x fw hT T
    go_upto_region 3 with fail
    refine zBd 11 [fun v _=>v=pt pb 0,fun v _=>v=pt pb 0,fun v _=>v=pt pb 0,fun v _=>v=.slice (some ⟨b,off,none⟩) n c,fun v _=>v=pt pb 0,fun v _=>v=pt pb 0,fun v _=>v=pt pb 1,fun v _=>v=.int .i64 (j:Int),fun v _=>v=.pointer (some ⟨b,off+j * 17,none⟩),fun v _=>v=zAd d,zIg wq.heap.size (zAY {kind:=0,place:=0}) 161] (fun _=>false) (by kernel_rfl) (by kernel_rfl) (by kernel_rfl) (by repeat (first|exact trivial|refine⟨zBN _,?_⟩|refine⟨zGO _ _ _,?_⟩)) (fun _ _ h=>by cases h) ?ob ?en
    case ob =>
     refine⟨?_,?_,?_,?_,?_,?_,?_,?_,?_,?_,?_,trivial⟩<;>intro A W h
     ·exact zAL rfl rfl (h.f 0)
     ·(have e34:A.eval (.tmp 34)=.pointer (some ⟨pb,0,none⟩):=h.d 0 34;refine zAB rfl ?_;simp only[execOp,e34];simp[go_sem])
     ·(have e35:A.eval (.tmp 35)=.pointer (some ⟨pb,0,none⟩):=h.d 1 35;refine zAB rfl ?_;simp only[execOp,e35];simp[go_sem])
     ·exact zAB rfl (zAK rfl (h.d 2 36) zE4 (hq0 _ h.below)) (by decide)
     ·exact zAL rfl rfl (h.f 0)
     ·(have e38:A.eval (.tmp 38)=.pointer (some ⟨pb,0,none⟩):=h.d 4 38;refine zAB rfl ?_;simp only[execOp,e38];simp[go_sem])
     ·(have e39:A.eval (.tmp 39)=.pointer (some ⟨pb,0,none⟩):=h.d 5 39;refine zAB rfl ?_;simp only[execOp,e39];simp[go_sem])
     ·exact zAB rfl (zAK rfl (h.d 6 40) zAI (hq1 _ h.below)) (by decide)
     ·exact zFi (sz:=17) Tryz.underlying110 (fun w=>by kernel_rfl) rfl rfl (h.d 3 37) (h.d 7 41) (by omega) (by omega)
     ·exact zAB rfl (zB0 rfl (h.d 8 42) zBx rfl (hqc _ h.below)) (by decide)
     ·exact zKl rfl rfl (by kernel_rfl) zQ5 h.below.size (by decide)
    case en =>
     intro vals W hbw hv _;have x10:=hv 10 (by omega);simp only[zAu]at x10
     simp only[fa,Nat.reduceAdd];rw[e_ hv 0,e_ hv 1,e_ hv 2,e_ hv 3,e_ hv 4,e_ hv 5,e_ hv 6,e_ hv 7,e_ hv 8,e_ hv 9];clear hv
     try simp only[pl]
     obtain⟨b7,e7,H7⟩:=H.gainB hbw x10;rw[e7];clear x10 e7 hq0 hq1 hqc H hbw;have H:=H7;clear H7;simp only[ca]at H
     go_upto_region 6 with (first|(first|((with_reducible refine gT ?_);((first|refine aO H ?_|refine aT H ?_);clear H;intro w H;try simp only[nr]at H))|((with_reducible refine gL ?_);refine aG H ?_)))
     have hnx:(∀ b,F b→w0.heap.size≤b):=hF
     by_cases h8:d.kind=8
     ·have d8:((d.kind:Int) == 8)=true:=by rw[beq_iff_eq];omega
      have G2:=Lib.hid (show zA0 k (zEc f d) (ws.drop (j+1)) g (xa.map (·.1)) (xi.map (·.1))=some (t,r',g')∧k≤m from ⟨by rw[← zQy h8,← HD.out];exact G.out.1,by have:=G.out.2;omega⟩)
      have htu:=fun w=>zHT f d w
      clear h8
      go_wp2_with (first|(first|((with_reducible refine gT ?_);(refine aT H ?_;clear H;intro w H;try simp only[nr]at H))|((with_reducible refine gL ?_);(first|refine aG H ?_|refine aD H ?_)))|((with_reducible refine ch (htu _) H ?_);clear H;intro w H))
      have HC:w.cell? ⟨pb,1,none⟩=some (.int .i64 ((j:Int)+1)):=H.cell .zero 1;go_roundw
      case rel=>(repeat apply Exists.intro);refine⟨?_,rfl⟩;exact⟨j+1,g,k,zEc f d,xa,xi,F,by omega,by omega,by omega,by omega,hF,G2,H.pick [0,1,2,3,4,5,6] _ (by decide) rfl⟩
      case measure=>rw[zDw HM.out,zDw HC];omega
     ·have d8:((d.kind:Int) == 8)=false:=by rw[beq_eq_false_iff_ne];omega
      by_cases h10:d.kind=10
      ·have d10:((d.kind:Int) == 10)=true:=by rw[beq_iff_eq];omega
       have G2:=Lib.hid (show zA0 k f (ws.drop (j+1)) g (xa.map (·.1)++[rowT 4 (xi.map (·.1))]) []=some (t,r',g')∧k≤m from ⟨by rw[← zPn h10,← HD.out];exact G.out.1,by have:=G.out.2;omega⟩)
       clear h10 h8 h9;obtain⟨qi,ci,rfl,hqi1,hqi2,_⟩:=H.rowShape (i:=5) i_5;obtain⟨GF,hGF,H2⟩:=H.rowForest (i:=5) (xs:=xi) (K:=F) i_5 rfl (Still.at (i:=6) i_6) (fun x hx=>(H.kn (i:=6) i_6) x (List.mem_append.2 (.inr hx)))
       clear H;have H:=H2;clear H2;simp only[sc]at H;have hGFl:∀ b,GF b→w0.heap.size≤b:=fun b h=>(hGF b h).elim id (hF b)
       clear hGF
       generalize hrt:rowT 4 (xi.map (·.1))=rt at G2
       have hr4:∀ (w:World) (l:List Res),HoldG (·=pb) w0 w l→At l 5 (.kn GF (fun V=>ForestR V GF qi ci (xi.map (·.1))))→Calls Tryz.prog 84 #[.int .i64 4,.slice qi xi.length ci] w fun e w'=>zDg w GF rt e w'∧Below w.heap.size w w':=fun w l h hi=>hrt ▸ zEp 4 qi ci xi.length GF (xi.map (·.1)) w (h.knlt hi) (h.kn hi) (by rw[List.length_map])
       have HRT:=Lib.hid hrt;clear hrt
       go_wp2_with (first|(at_builtin;refine zB2 rfl _ _ 28 rfl H evd_ rfl atd_ atd_ Tryz.underlying28 hi0 hz0 hz1 hz2 rfl (by decide) rfl rfl (by unfold maxLen;omega) (by omega) ?_;clear H;intro v2 w H;try simp only[nr]at H)|((with_reducible refine gBS ?_);refine zAU wtd_ _ _ _ rfl H (zAR (rt.d) (.slice q2 rt.kids.length c2)) 30 (by intro W;simp only[ml];(try simp only[pe]);exact zCQ _ _ W) ?_;clear H;intro bk w H;try simp only[nr]at H)|((with_reducible refine gL ?_);refine aG H ?_)|(go_at_call 84;(with_reducible refine cht (hr4 _ _ H i_5) H (Still.at (i:=5) i_5) ?_);clear H;intro q2 c2 F2 w hF2 H))
       have hF3:∀ b,(F b∨F2 b)→w0.heap.size≤b:=fun b h=>h.elim (hF b) (fun h=>(hF2 b h).elim id (hGFl b))
       have H2:=(H.rowGrown (i:=4) (k:=6) (k2:=8) (xs:=xa) (ys:=xa++xi) i_4 i_6 i_8 ((xa++[(rt,q2,c2)])++[]) (fun x hx=>by
        rw[List.append_nil]at hx
        exact(List.mem_append.1 hx).imp (fun h=>List.mem_append.2 (.inl h)) List.mem_singleton.1)).addNil 30 10
       have HC:w.cell? ⟨pb,1,none⟩=some (.int .i64 ((j:Int)+1)):=H.cell .zero 1;go_roundw
       case rel=>first|exact⟨j+1,g,k,f,xa++[(rt,q2,c2)],[],(fun b=>F b∨F2 b),by omega,by omega,by (try simp only[List.length_append,List.length_singleton,List.length_nil]);omega,by (try simp only[List.length_append,List.length_singleton,List.length_nil]);omega,hF3,Lib.hid ⟨by (try rw[List.map_append]);exact G2.out.1,G2.out.2⟩,H2.pick [0,1,2,3,4,11,10] _ (by decide) rfl⟩|((repeat apply Exists.intro);refine⟨?_,rfl⟩;exact⟨j+1,g,k,f,xa++[(rt,q2,c2)],[],(fun b=>F b∨F2 b),by omega,by omega,by (try simp only[List.length_append,List.length_singleton,List.length_nil]);omega,by (try simp only[List.length_append,List.length_singleton,List.length_nil]);omega,hF3,Lib.hid ⟨by (try rw[List.map_append]);exact G2.out.1,G2.out.2⟩,H2.pick [0,1,2,3,4,11,10] _ (by decide) rfl⟩)
       case measure=>rw[zDw HM.out,zDw HC];omega
      ·have d10:((d.kind:Int) == 10)=false:=by rw[beq_eq_false_iff_ne];omega
       by_cases h11:d.kind=11
       ·have d11:((d.kind:Int) == 11)=true:=by rw[beq_iff_eq];omega
        obtain⟨ys,x,rfl,hou⟩:=zNY h11 (show zA0 (k+1) f (d::ws.drop (j+1)) g (xa.map (·.1)) (xi.map (·.1))=some (t,r',g') by rw[← HD.out];exact G.out.1)
        have G2:=Lib.hid (show zA0 k f (ws.drop (j+1)) g (xa.map (·.1)) (ys.map (·.1)++[repT d x.1])=some (t,r',g')∧k≤m from ⟨hou,by have:=G.out.2;omega⟩)
        clear hou h8 h9 h10 h11;obtain⟨qi,ci,rfl,hqi1,hqi2,hqi3⟩:=H.rowShape (i:=5) i_5;obtain⟨gI,rfl⟩:=hqi3 (by simp)
        clear hqi3;have hxg:((ys++[x]).map zAn)[ys.length]?=some (zAn x):=by simp
        have HXG:=Lib.hid hxg;clear hxg;have hyl:((ys++[x]).map zAn).length=ys.length+1:=by simp
        have HYL:=Lib.hid hyl;clear hyl;simp only[List.length_append,List.length_singleton]at H hqi1 hli;unfold maxLen at hqi2
        go_wp2_with (first|((with_reducible refine gL ?_);refine zBL wtd_ _ _ rfl rfl zAX (zCT x) (H.rowCell (i:=5) i_5 (zBW _) HYL.out HXG.out rfl) ?_)|((with_reducible refine gT ?_);refine zBp wtd_ _ _ _ rfl rfl (i:=ys.length) rfl evd_ H (j:=5) i_5 (zBW _) HYL.out (by with_reducible exact zAw zAX) rfl rfl (by omega) ?_;clear H;intro w H;try simp only[nr]at H)|((with_reducible refine gBS ?_);refine zAU wtd_ _ _ _ rfl H (zAR (x.1.d) (.slice x.2.1 x.1.kids.length x.2.2)) 30 (by intro W;simp only[ml];(try simp only[pe]);exact zCQ _ _ W) ?_;clear H;intro bk w H;try simp only[nr]at H)|(first|((with_reducible refine gT ?_);(refine aT H ?_;clear H;intro w H;try simp only[nr]at H))|((with_reducible refine gL ?_);(first|refine aG H ?_|refine aD H ?_))|((with_reducible refine gA ?_);(refine bA H ?_;clear H;intro b w H;try simp only[nr]at H))|((with_reducible refine gZ ?_);refine nbR ?_)))
        have e:=zN2 (ys:=ys) (x:=x) (x':=((repT d x.1,some ⟨bk,0,none⟩,1):TV)) (c:=zAR {kind:=6,lo:=d.lo,hi:=d.hi,lazy:=d.lazy} (.slice (some ⟨bk,0,none⟩) 1 1)) rfl;rw[e]at H;clear e;have H1:=H.also F (fun V=>ForestR V F x.2.1 x.2.2 x.1.kids) (Still.at (i:=6) i_6) (fun V hV=>((H.kn (i:=6) i_6) x (by simp)).kept hV)
        have hbk:=H.freshB (i:=8) i_8;have H3:=H1.kid (i:=9) (k:=10) i_9 i_10;have hF3:∀ z,((z=bk∨F z)∨F z)→w0.heap.size≤z:=fun z h=>h.elim (fun h=>h.elim (fun e=>e ▸ hbk) (hF z)) (hF z)
        have H2:=H3.also (fun z=>(z=bk∨F z)∨F z) (fun V=>ListR V (fun z=>(z=bk∨F z)∨F z) (xa++(ys++[(repT d x.1,some ⟨bk,0,none⟩,1)]))) ((Still.at (i:=11) (F:=fun z=>z=bk∨F z) (S:=fun V=>ForestR V (fun z=>z=bk∨F z) (some ⟨bk,0,none⟩) 1 [x.1]) i_11).or (Still.at (i:=6) i_6)) (fun V hV y hy=>by
         have hold:∀ y,y ∈ xa++(ys++[x])→ForestR V (fun z=>(z=bk∨F z)∨F z) y.2.1 y.2.2 y.1.kids:=fun y hy=>(((H.kn (i:=6) i_6) y hy).mono (fun _ h=>.inr h)).kept hV
         rcases List.mem_append.1 hy with h|h
         ·exact hold y (List.mem_append.2 (.inl h))
         ·rcases List.mem_append.1 h with h|h
          ·exact hold y (List.mem_append.2 (.inr (List.mem_append.2 (.inl h))))
          ·rw[List.mem_singleton]at h;subst h
           exact(((H3.all 11 _ rfl).2 w (fun _ _=>rfl)).mono (fun _ h=>.inl h)).kept hV)
        have HC:w.cell? ⟨pb,1,none⟩=some (.int .i64 ((j:Int)+1)):=H.cell .zero 1;go_roundw
        case rel=>first|exact⟨j+1,g,k,f,xa,ys++[(repT d x.1,some ⟨bk,0,none⟩,1)],(fun z=>(z=bk∨F z)∨F z),by omega,by omega,by (try simp only[List.length_append,List.length_singleton,List.length_nil]);omega,by (try simp only[List.length_append,List.length_singleton,List.length_nil]);omega,hF3,Lib.hid ⟨by (try rw[List.map_append]);exact G2.out.1,G2.out.2⟩,by rw[show (ys++[((repT d x.1,some ⟨bk,0,none⟩,1):TV)]).length=ys.length+1 from by simp];exact H2.pick [0,1,2,3,4,5,12] _ (by decide) rfl⟩|((repeat apply Exists.intro);refine⟨?_,rfl⟩;exact⟨j+1,g,k,f,xa,ys++[(repT d x.1,some ⟨bk,0,none⟩,1)],(fun z=>(z=bk∨F z)∨F z),by omega,by omega,by (try simp only[List.length_append,List.length_singleton,List.length_nil]);omega,by (try simp only[List.length_append,List.length_singleton,List.length_nil]);omega,hF3,Lib.hid ⟨by (try rw[List.map_append]);exact G2.out.1,G2.out.2⟩,by rw[show (ys++[((repT d x.1,some ⟨bk,0,none⟩,1):TV)]).length=ys.length+1 from by simp];exact H2.pick [0,1,2,3,4,5,12] _ (by decide) rfl⟩)
        case measure=>rw[zDw HM.out,zDw HC];omega
       ·have d11:((d.kind:Int) == 11)=false:=by rw[beq_eq_false_iff_ne];omega
        have hop:=fun w=>zGi d w
        cases ho:zA1 d with
        | true =>
         rw[ho]at hop;obtain⟨t1,d1,r1,g1,hin,hou⟩:=zNV ho (show zA0 (k+1) f (d::ws.drop (j+1)) g (xa.map (·.1)) (xi.map (·.1))=some (t,r',g') by rw[← HD.out];exact G.out.1)
         have hfa:=zFJ _ _ _ _ _ _ _ _ _ hin;have hsuf:=drop_suffix HN.out (hfa.1.trans (List.drop_suffix _ _));have hl1:r1.length+1≤n - (j+1):=by have:=hfa.1.length_le;rw[List.length_drop,← HN.out]at this;exact this
         have hg1:g1+(r1.length+1)≤(if d.kind=7 then g else g+1)+(n - (j+1)):=by have:=hfa.2;rw[List.length_drop,← HN.out]at this;exact this
         have hgg:(if d.kind=7 then g else g+1)≤g+1:=by split<;>omega
         obtain⟨j',hj'⟩:∃ j',n - (r1.length+1)=j':=⟨_,rfl⟩;have hd1:ws.drop (j'+1)=r1:=by
          have h1:ws.drop j'=d1::r1:=by rw[← hj'];exact hsuf
          rw[← List.drop_drop,h1];rfl
         have hkm:k<m:=by have:=G.out.2;omega
         have hgr:=fun w hP=>zL0 pb FW (some ⟨b,off,none⟩) n c ws (j+1) g f d t1 j' g1 w hP (by omega) (by omega) (by omega) (fun w h=>hj' ▸ IH k hkm (j+1) _ _ t1 (d1::r1) g1 w h hin)
         generalize htt:(if d.kind=7 then t1 else zEh (g+1) t1)=tt at hou hgr
         have G2:=Lib.hid (show zA0 k f (ws.drop (j'+1)) g1 (xa.map (·.1)) (xi.map (·.1)++[tt])=some (t,r',g')∧k≤m from ⟨by rw[hd1];exact hou,by omega⟩)
         have hb1:j+1≤j':=by omega
         have hb2:j'<n:=by omega
         have hb3:g1≤j':=by omega
         have hpre:∀ (w:World) (l:List Res),HoldG (·=pb) w0 w (.blk pb #[.slice (some ⟨b,off,none⟩) n c,.int .i64 ((j:Int)+1),.int .i64 (g:Int)] 116::.kn FW (WKnows FW (some ⟨b,off,none⟩) n c ws)::l)→AltPre pb 116 FW (some ⟨b,off,none⟩) n c ws (j+1) g w:=fun w l h=>⟨(h.blk .zero).2,h.knlt i_1,HPN.out,h.kn i_1,HOK.out,hlen,hlt,by omega⟩
         clear hin hou hfa hsuf hl1 hg1 hgg hj' hd1 htt IH ho h8 h10 h11 h9
         go_wp2_with (first|(at_builtin;refine zB2 rfl _ _ 28 rfl H evd_ rfl atd_ atd_ Tryz.underlying28 hi0 hz0 hz1 hz2 rfl (by decide) rfl rfl (by unfold maxLen;omega) (by omega) ?_;clear H;intro v2 w H;try simp only[nr]at H)|((with_reducible refine gBS ?_);refine zAU wtd_ _ _ _ rfl H (zAR (tt.d) (.slice q2 tt.kids.length m2)) 30 (by intro W;simp only[ml];(try simp only[pe]);exact zCQ _ _ W) ?_;clear H;intro bk w H;try simp only[nr]at H)|(first|((with_reducible refine gT ?_);(refine aT H ?_;clear H;intro w H;try simp only[nr]at H))|((with_reducible refine gL ?_);(first|refine aG H ?_|refine aD H ?_))|((with_reducible refine gA ?_);(refine bA H ?_;clear H;intro b w H;try simp only[nr]at H)))|((with_reducible refine ch (hop _) H ?_);clear H;intro w H)|(go_at_call 85;(with_reducible refine chA (hgr _ (hpre _ _ H)) H .zero ?_);clear H;intro q2 m2 F2 w hF2 H;try simp only[nr]at H))
         have H2:=H.rowGrown (i:=5) (k:=6) (k2:=8) (xs:=xi) (ys:=xa++xi) i_5 i_6 i_8 (xa++(xi++[(tt,q2,m2)])) (fun y hy=>by
          rcases List.mem_append.1 hy with h|h
          ·exact .inl (List.mem_append.2 (.inl h))
          ·exact(List.mem_append.1 h).imp (fun h=>List.mem_append.2 (.inr h)) List.mem_singleton.1)
         have hF3:∀ b,(F b∨F2 b)→w0.heap.size≤b:=fun b h=>h.elim (hF b) (hF2 b)
         have HC:w.cell? ⟨pb,1,none⟩=some (.int .i64 ((j':Int)+1)):=H.cell .zero 1;go_roundw
         case rel=>first|exact⟨j'+1,g1,k,f,xa,xi++[(tt,q2,m2)],(fun b=>F b∨F2 b),by omega,by omega,by (try simp only[List.length_append,List.length_singleton,List.length_nil]);omega,by (try simp only[List.length_append,List.length_singleton,List.length_nil]);omega,hF3,Lib.hid ⟨by (try rw[List.map_append]);exact G2.out.1,G2.out.2⟩,H2.pick [0,1,2,3,4,5,11] _ (by decide) rfl⟩|((repeat apply Exists.intro);refine⟨?_,rfl⟩;exact⟨j'+1,g1,k,f,xa,xi++[(tt,q2,m2)],(fun b=>F b∨F2 b),by omega,by omega,by (try simp only[List.length_append,List.length_singleton,List.length_nil]);omega,by (try simp only[List.length_append,List.length_singleton,List.length_nil]);omega,hF3,Lib.hid ⟨by (try rw[List.map_append]);exact G2.out.1,G2.out.2⟩,H2.pick [0,1,2,3,4,5,11] _ (by decide) rfl⟩)
         case measure=>rw[zDw HM.out,zDw HC];omega
        | false =>
         rw[ho]at hop;have h67:d.kind≠6∧d.kind≠7:=by simpa [zA1] using ho
         have G2:=Lib.hid (show zA0 k f (ws.drop (j+1)) g (xa.map (·.1)) (xi.map (·.1)++[zCb d f])=some (t,r',g')∧k≤m from ⟨by rw[← zPl h9 h8 h10 h11 h67.2 h67.1,← HD.out];exact G.out.1,by have:=G.out.2;omega⟩)
         clear h8 h9 h10 h11 h67 ho
         generalize hta:zCb d f=ta at G2
         have hat:∀ w,Calls Tryz.prog 86 #[zAd d,zBq f] w (Rt (zAl ta.d (.slice none ta.kids.length 0)) w):=fun w=>by
          have:=zOd f d hokd w;rw[← hta,zHw];exact this
         have hk0:ta.kids=[]:=by rw[← hta];exact zHw d f
         have HK:=Lib.hid hk0;clear hk0 hta
         go_wp2_with (first|(at_builtin;refine zB2 rfl _ _ 28 rfl H evd_ rfl atd_ atd_ Tryz.underlying28 hi0 hz0 hz1 hz2 rfl (by decide) rfl rfl (by unfold maxLen;omega) (by omega) ?_;clear H;intro v2 w H;try simp only[nr]at H)|((with_reducible refine gBS ?_);refine zAU wtd_ _ _ _ rfl H (zAR (ta.d) (.slice none ta.kids.length 0)) 30 (by intro W;simp only[ml];(try simp only[pe]);exact zCQ _ _ W) ?_;clear H;intro bk w H;try simp only[nr]at H)|((with_reducible refine gL ?_);(first|refine aG H ?_|refine aD H ?_))|((with_reducible first|refine ch (hop _) H ?_|refine ch (hat _) H ?_);clear H;intro w H))
         have H1:=H.know (fun _=>False) (fun V=>ForestR V (fun _=>False) none 0 ta.kids) (fun _ h=>h.elim) (fun _ _ _ _ _ h=>h) (fun V _=>by rw[HK.out];exact ForestR.nil _ _ _)
         have H2:=H1.rowGrown (i:=5) (k:=6) (k2:=9) (xs:=xi) (ys:=xa++xi) i_5 i_6 i_9 (xa++(xi++[(ta,none,0)])) (fun y hy=>by
          rcases List.mem_append.1 hy with h|h
          ·exact .inl (List.mem_append.2 (.inl h))
          ·exact(List.mem_append.1 h).imp (fun h=>List.mem_append.2 (.inr h)) List.mem_singleton.1)
         have hF3:∀ b,(F b∨False)→w0.heap.size≤b:=fun b h=>h.elim (hF b) False.elim
         have HC:w.cell? ⟨pb,1,none⟩=some (.int .i64 ((j:Int)+1)):=H.cell .zero 1;go_roundw
         case rel=>first|exact⟨j+1,g,k,f,xa,xi++[(ta,none,0)],(fun b=>F b∨False),by omega,by omega,by (try simp only[List.length_append,List.length_singleton,List.length_nil]);omega,by (try simp only[List.length_append,List.length_singleton,List.length_nil]);omega,hF3,Lib.hid ⟨by (try rw[List.map_append]);exact G2.out.1,G2.out.2⟩,H2.pick [0,1,2,3,4,5,10] _ (by decide) rfl⟩|((repeat apply Exists.intro);refine⟨?_,rfl⟩;exact⟨j+1,g,k,f,xa,xi++[(ta,none,0)],(fun b=>F b∨False),by omega,by omega,by (try simp only[List.length_append,List.length_singleton,List.length_nil]);omega,by (try simp only[List.length_append,List.length_singleton,List.length_nil]);omega,hF3,Lib.hid ⟨by (try rw[List.map_append]);exact G2.out.1,G2.out.2⟩,H2.pick [0,1,2,3,4,5,10] _ (by decide) rfl⟩)
         case measure=>rw[zDw HM.out,zDw HC];omega
  ·have hdj:decide ((j:Int)<(n:Int))=false:=by simp;omega
   have E:=Lib.hid (show some (rowT 5 (xa.map (·.1)++[rowT 4 (xi.map (·.1))]),ws.drop j,g)=some (t,r',g') by
    rw[← G.out.1,show ws.drop j=[] from List.drop_eq_nil_of_le (by rw[← HN.out];omega),zOq])
   go_upto_region 2 with fail
   obtain⟨T,hT,fw,hf,h0⟩:=fam wr;have e0:=fun x=>hp0 _ (hf x)
   have e1:=fun x=>hp1 _ (hf x)
   refine zEH fw (by kernel_rfl) (by kernel_rfl) h0 ?_
   repeat (go_big_quiet_step (fail))
   refine wpQuiet_nil ?_
   rintro _ ⟨x,rfl⟩;replace H:=H.call (hf x);obtain⟨wq,hwq⟩:∃ wq,fw x=wq:=⟨_,rfl⟩;rw[hwq]at H ⊢;clear hwq e0 e1 h0 hf hp0 hp1;clear x fw hT T;obtain⟨qi,ci,rfl,hqi1,hqi2,_⟩:=H.rowShape (i:=5) i_5;obtain⟨GF,hGF,H2⟩:=H.rowForest (i:=5) (xs:=xi) (K:=F) i_5 rfl (Still.at (i:=6) i_6) (fun x hx=>(H.kn (i:=6) i_6) x (List.mem_append.2 (.inr hx)))
   clear H;have H:=H2;clear H2;simp only[sc]at H;have hGFl:∀ b,GF b→w0.heap.size≤b:=fun b h=>(hGF b h).elim id (hF b)
   clear hGF
   generalize hrt:rowT 4 (xi.map (·.1))=rt at E
   have hr4:∀ (w:World) (l:List Res),HoldG (·=pb) w0 w l→At l 5 (.kn GF (fun V=>ForestR V GF qi ci (xi.map (·.1))))→Calls Tryz.prog 84 #[.int .i64 4,.slice qi xi.length ci] w fun e w'=>zDg w GF rt e w'∧Below w.heap.size w w':=fun w l h hi=>hrt ▸ zEp 4 qi ci xi.length GF (xi.map (·.1)) w (h.knlt hi) (h.kn hi) (by rw[List.length_map])
   have HRT:=Lib.hid hrt;clear hrt;simp only[Option.some.injEq,Prod.mk.injEq]at E;obtain⟨ht5,hr5',rfl⟩:=E;have hjr:n - r'.length=j:=by rw[← hr5',List.length_drop,← HN.out];omega
   have hr5:∀ (w:World) (l:List Res) (qa:Option Addr) (ca:Nat) (G3:Nat→Prop),HoldG (·=pb) w0 w l→At l 4 (.kn G3 (fun V=>ForestR V G3 qa ca (xa.map (·.1)++[rt])))→Calls Tryz.prog 84 #[.int .i64 5,.slice qa (xa.length+1) ca] w fun e w'=>zDg w G3 t e w'∧Below w.heap.size w w':=fun w l qa ca G3 h hi=>ht5 ▸ zEp 5 qa ca (xa.length+1) G3 (xa.map (·.1)++[rt]) w (h.knlt hi) (h.kn hi) (by rw[List.length_append,List.length_map];rfl)
   have HJR:=Lib.hid hjr;clear hjr hr5' ht5 hli
   go_wp2_with (first|(at_builtin;refine zB2 rfl _ _ 28 rfl H evd_ rfl atd_ atd_ Tryz.underlying28 hi0 hz0 hz1 hz2 rfl (by decide) rfl rfl (by unfold maxLen;omega) (by omega) ?_;clear H;intro v2 w H;try simp only[nr]at H)|((with_reducible refine gBS ?_);refine zAU wtd_ _ _ _ rfl H (zAR (rt.d) (.slice q2 rt.kids.length c2)) 30 (by intro W;simp only[ml];(try simp only[pe]);exact zCQ _ _ W) ?_;clear H;intro bk w H;try simp only[nr]at H)|((with_reducible refine gT ?_);(refine aT H ?_;clear H;intro w H;try simp only[nr]at H))|(go_at_call 84;(with_reducible refine cht (hr4 _ _ H i_5) H (Still.at (i:=5) i_5) ?_);clear H;intro q2 c2 F2 w hF2 H)|(go_at_call 84;(obtain⟨qa,ca,G3,rfl,hG3,H3⟩:=H.rowForest1 (i:=4) (k:=6) (k2:=7) (xs:=xa) (ys:=xa++xi) i_4 i_6 (fun x hx=>List.mem_append.2 (.inl hx)) i_7);clear H;(have H:=H3);clear H3;(simp only[sc]at H);(with_reducible refine cht (hr5 _ _ _ _ _ H i_4) H (Still.at (i:=4) i_4) ?_);clear H;intro q5 c5 F5 w hF5 H;try simp only[nr]at H))
   (refine xc Tryz.results42 H ?_)
   have hG3l:∀ b,G3 b→w0.heap.size≤b:=fun b h=>(hG3 b h).elim id (fun h=>h.elim (hF b) (fun h=>(hF2 b h).elim id (hGFl b)))
   rw[HJR.out];exact⟨H.keep,(H.blk .zero).2,q5,c5,F5,rfl,(H.all 9 _ rfl).2 _ (fun _ _=>rfl),fun b h=>⟨(H.all 9 _ rfl).1 b h,.inl ((hF5 b h).elim id (hG3l b))⟩⟩
end
end Go.Proofs.YtklcgfkdemifcaaGreatDoor
