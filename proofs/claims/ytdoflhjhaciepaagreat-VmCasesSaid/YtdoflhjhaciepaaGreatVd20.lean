/-
  Laws of walks, and walks.
-/
import Derived.Test.YtdoflhjhaciepaaGreatVd5
set_option linter.unusedVariables false
set_option linter.unusedSimpArgs false
set_option maxRecDepth 100000
set_option maxHeartbeats 16000000
namespace Go.Proofs.YtdoflhjhaciepaaGreat
section
open Go.RowKit Go.Shelf
attribute [local go_sem] Oper.semAt_some
theorem zMF (w0:World):Calls Tryz.prog 155 #[.string ⟨#[119,111,114,100]⟩] w0 (Rt (.tuple #[setV zI6,.bool true]) w0):=zEY [119,111,114,100] w0
theorem zFQ (w0:World):Calls Tryz.prog 155 #[.string ⟨#[97,108,110,117,109]⟩] w0 (Rt (.tuple #[setV zBP,.bool true]) w0):=zEY [97,108,110,117,109] w0
theorem zPR {c:Nat} (h:((c:Int) == 100)=true):zDl c=some zB8:=by obtain rfl:c=100:=(by have:=beq_iff_eq.1 h;omega);rfl
theorem zPp {c:Nat} (h:((c:Int) == 119)=true):zDl c=some zI6:=by obtain rfl:c=119:=(by have:=beq_iff_eq.1 h;omega);rfl
theorem zPC {c:Nat} (h:((c:Int) == 115)=true):zDl c=some (ofS [9,10,12,13,32]):=by obtain rfl:c=115:=(by have:=beq_iff_eq.1 h;omega);rfl
theorem zQf {c:Nat} (h:((c:Int) == 68)=true):zDl c=some (notS zB8):=by obtain rfl:c=68:=(by have:=beq_iff_eq.1 h;omega);rfl
theorem zQZ {c:Nat} (h:((c:Int) == 87)=true):zDl c=some (notS zI6):=by obtain rfl:c=87:=(by have:=beq_iff_eq.1 h;omega);rfl
theorem zRT {c:Nat} (h:((c:Int) == 83)=true):zDl c=some (notS (ofS [9,10,12,13,32])):=by obtain rfl:c=83:=(by have:=beq_iff_eq.1 h;omega);rfl
theorem nei {c:Nat} {n:Nat} (h:((c:Int) == (n:Int))=false):(c == n)=false:=by
 rw[beq_eq_false_iff_ne]at h ⊢;omega
theorem zRP {c:Nat} (h1:((c:Int) == 100)=false) (h2:((c:Int) == 119)=false) (h3:((c:Int) == 115)=false) (h4:((c:Int) == 68)=false) (h5:((c:Int) == 87)=false) (h6:((c:Int) == 83)=false):zDl c=none:=by
 simp[zDl,sortsL,List.find?_cons,nei (n:=100) h1,nei (n:=119) h2,nei (n:=115) h3,nei (n:=68) h4,nei (n:=87) h5,nei (n:=83) h6]
theorem zIl (c:Nat) (hc:c<256) (w0:World):Calls Tryz.prog 146 #[.int .u8 c] w0 (Rt (setO (zDl c)) w0):=by
 have H:=Hold.start w0
 go_enter Tryz.func146,Tryz.ntmps146
 go_wp2_with (first|(first|((with_reducible refine gT ?_);(refine aS H ?_;clear H;intro w H;try simp only[nr]at H))|((with_reducible refine gL ?_);refine aL H ?_)|((with_reducible refine gA ?_);(refine bA H ?_;clear H;intro b w H;try simp only[nr]at H))|((with_reducible refine gZ ?_);refine aZ ?_))|((with_reducible refine ch (zMF _) H ?_);clear H;intro w H)|((with_reducible refine gBS ?_);refine zAL wtd_ _ _ _ rfl H (#[.int .u8 9,.int .u8 10,.int .u8 12,.int .u8 13,.int .u8 32]) 5 (by intro W;simp only[ml];(try simp only[pe]);(try unfold setV);simp[go_sem]<;>rfl) ?_;clear H;intro b w H;try simp only[nr]at H)|((with_reducible first|refine ch (zLL _ [9,10,12,13,32] (by simp) _ (H.rdn (cs:=[.int .u8 9,.int .u8 10,.int .u8 12,.int .u8 13,.int .u8 32]) atd_ (by simp) (by simp[maxLen]))) H ?_|refine ch (zHq _) H ?_|refine ch (zEB zB8 zDP _) H ?_|refine ch (zEB zI6 zIK _) H ?_|refine ch (zEB (ofS [9,10,12,13,32]) (zB3 _) _) H ?_);clear H;intro w H))
 all_goals
  (refine xctS Tryz.results146 H ?_)
  first|exact⟨congrArg _ (zFz (zRP (by assumption) (by assumption) (by assumption) (by assumption) (by assumption) (by assumption))),H.below⟩|exact⟨congrArg _ (zCJ (zPR (by assumption))),H.below⟩|exact⟨congrArg _ (zCJ (zPp (by assumption))),H.below⟩|exact⟨congrArg _ (zCJ (zPC (by assumption))),H.below⟩|exact⟨congrArg _ (zCJ (zQf (by assumption))),H.below⟩|exact⟨congrArg _ (zCJ (zQZ (by assumption))),H.below⟩|exact⟨congrArg _ (zCJ (zRT (by assumption))),H.below⟩
def numV:Option (Nat × Nat)→Value
 | some (n,k)=>.tuple #[.int .i64 n,.int .i64 k]
 | none=>.tuple #[.int .i64 0,.int .i64 (-1)]
def escV:Option (Nat × Nat)→Value
 | some (b,e)=>.tuple #[.int .u8 b,.int .i64 e]
 | none=>.tuple #[.int .u8 0,.int .i64 (-1)]
theorem zH4 (L:Str) (i:Nat) (hL:L.length≤2000) (hi:i≤L.length) (w0:World):Calls Tryz.prog 150 #[.string ⟨L.toArray⟩,.int .i64 i] w0 fun e w' =>
  e=.returned (numV (zDi L i))∧Below w0.heap.size w0 w':=by
 have H:=Hold.start w0
 go_enter Tryz.func150,Tryz.ntmps150
 go_wp2_with (first|fail)
 go_loopw [6,7] (fun n k wr=>∃ j:Nat,i≤j∧j≤L.length∧k=.int .i64 j∧n=.int .i64 (numF ((L.drop i).take (j - i)):Nat)∧Hid (((L.drop i).take (j - i)).all zDk=true)∧Hold w0 wr []) (fun _ k _=>L.length+1 - (intOf k).toNat)
 case atStart=>exact⟨i,by omega,by omega,rfl,by simp[numF],Lib.hid (by simp),H⟩
 case round =>
  clear H;obtain⟨j,hij,hj,rfl,rfl,G,H⟩:=hrel;have hb:=zCf L j;have hnle:=zNz ((L.drop i).take (j - i));have EX:∀ he:(j<L.length→digB (byt L j)=false),zDi L i=if j=i∨(i+1<j∧byt L i=48) then none else some (numF ((L.drop i).take (j - i)),j):=fun he=>zMg hij hj G.out he
  have ST:∀ hlt:j<L.length,numF ((L.drop i).take (j+1 - i))=min (10 * numF ((L.drop i).take (j - i))+(byt L j - 48)) 101:=fun hlt=>zPA hij hlt
  generalize hn:numF ((L.drop i).take (j - i))=n at hnle EX ST
  clear hn;have EX2:=Lib.hid EX;clear EX;have ST2:=Lib.hid ST;clear ST
  by_cases hlt:j<L.length
  ·by_cases h48:48≤byt L j
   ·by_cases h57:byt L j≤57
    ·have hd:decide ((j:Int)<(L.length:Int))=true:=by simp;omega
     have hw1:IntKind.u8.wrap ((byt L j:Int) - 48)=(byt L j:Int) - 48:=by rw[IntKind.wrap_u8];omega
     go_wp2_with (first|((with_reducible refine gI ?_);refine aI ?_))
     go_roundw
     case rel=>exact⟨j+1,by omega,by omega,by go_num,by rw[ST2.out hlt];congr 1;omega,Lib.hid (zPZ hij hlt G.out (by simp[digB];omega)),H⟩
     case measure=>simp[intOf];omega
    ·have g57:decide ((byt L j:Int)≤57)=false:=by simp;omega
     have g48:decide (48≤(byt L j:Int))=true:=by simp;omega
     have hd:decide ((j:Int)<(L.length:Int))=true:=by simp;omega
     have HE:=EX2.out (fun _=>by simp[digB];omega)
     by_cases e1:j=i
     ·subst e1;have d1:((j:Int) == (j:Int))=true:=by simp
      rw[if_pos (.inl rfl)]at HE;have HX:=Lib.hid HE;clear HE
      go_wp2_with (first|((with_reducible refine gI ?_);refine aI ?_))
      go_ret2
      exact⟨by rw[HX.out];rfl,H.below⟩
     ·have d1:((j:Int) == (i:Int))=false:=by rw[beq_eq_false_iff_ne];omega
      by_cases e2:byt L i=48
      ·have d2:((byt L i:Int) == 48)=true:=by rw[beq_iff_eq];omega
       by_cases e3:i+1<j
       ·have d3:decide ((i:Int)+1<(j:Int))=true:=by simp;omega
        rw[if_pos (.inr ⟨e3,e2⟩)]at HE;have HX:=Lib.hid HE;clear HE;clear e2
        go_wp2_with (first|((with_reducible refine gI ?_);refine aI ?_))
        go_ret2
        exact⟨by rw[HX.out];rfl,H.below⟩
       ·have d3:decide ((i:Int)+1<(j:Int))=false:=by simp;omega
        rw[if_neg (by omega)]at HE
        have HX:=Lib.hid HE;clear HE;clear e2
        go_wp2_with (first|((with_reducible refine gI ?_);refine aI ?_))
        go_ret2
        exact⟨by rw[HX.out];rfl,H.below⟩
      ·have d2:((byt L i:Int) == 48)=false:=by rw[beq_eq_false_iff_ne];omega
       rw[if_neg (by omega)]at HE
       have HX:=Lib.hid HE;clear HE;clear e2
       go_wp2_with (first|((with_reducible refine gI ?_);refine aI ?_))
       go_ret2
       exact⟨by rw[HX.out];rfl,H.below⟩
   ·have g48:decide (48≤(byt L j:Int))=false:=by simp;omega
    have hd:decide ((j:Int)<(L.length:Int))=true:=by simp;omega
    have HE:=EX2.out (fun _=>by simp[digB];omega)
    by_cases e1:j=i
    ·subst e1;have d1:((j:Int) == (j:Int))=true:=by simp
     rw[if_pos (.inl rfl)]at HE;have HX:=Lib.hid HE;clear HE
     go_wp2_with (first|((with_reducible refine gI ?_);refine aI ?_))
     go_ret2
     exact⟨by rw[HX.out];rfl,H.below⟩
    ·have d1:((j:Int) == (i:Int))=false:=by rw[beq_eq_false_iff_ne];omega
     by_cases e2:byt L i=48
     ·have d2:((byt L i:Int) == 48)=true:=by rw[beq_iff_eq];omega
      by_cases e3:i+1<j
      ·have d3:decide ((i:Int)+1<(j:Int))=true:=by simp;omega
       rw[if_pos (.inr ⟨e3,e2⟩)]at HE;have HX:=Lib.hid HE;clear HE;clear e2
       go_wp2_with (first|((with_reducible refine gI ?_);refine aI ?_))
       go_ret2
       exact⟨by rw[HX.out];rfl,H.below⟩
      ·have d3:decide ((i:Int)+1<(j:Int))=false:=by simp;omega
       rw[if_neg (by omega)]at HE
       have HX:=Lib.hid HE;clear HE;clear e2
       go_wp2_with (first|((with_reducible refine gI ?_);refine aI ?_))
       go_ret2
       exact⟨by rw[HX.out];rfl,H.below⟩
     ·have d2:((byt L i:Int) == 48)=false:=by rw[beq_eq_false_iff_ne];omega
      rw[if_neg (by omega)]at HE
      have HX:=Lib.hid HE;clear HE;clear e2
      go_wp2_with (first|((with_reducible refine gI ?_);refine aI ?_))
      go_ret2
      exact⟨by rw[HX.out];rfl,H.below⟩
  ·have hd:decide ((j:Int)<(L.length:Int))=false:=by simp;omega
   have HE:=EX2.out (fun h=>absurd h hlt)
   by_cases e1:j=i
   ·subst e1;have d1:((j:Int) == (j:Int))=true:=by simp
    rw[if_pos (.inl rfl)]at HE;have HX:=Lib.hid HE;clear HE
    go_wp2_with (first|fail)
    go_ret2
    exact⟨by rw[HX.out];rfl,H.below⟩
   ·have d1:((j:Int) == (i:Int))=false:=by rw[beq_eq_false_iff_ne];omega
    by_cases e2:byt L i=48
    ·have d2:((byt L i:Int) == 48)=true:=by rw[beq_iff_eq];omega
     by_cases e3:i+1<j
     ·have d3:decide ((i:Int)+1<(j:Int))=true:=by simp;omega
      rw[if_pos (.inr ⟨e3,e2⟩)]at HE;have HX:=Lib.hid HE;clear HE;clear e2
      go_wp2_with (first|((with_reducible refine gI ?_);refine aI ?_))
      go_ret2
      exact⟨by rw[HX.out];rfl,H.below⟩
     ·have d3:decide ((i:Int)+1<(j:Int))=false:=by simp;omega
      rw[if_neg (by omega)]at HE
      have HX:=Lib.hid HE;clear HE;clear e2
      go_wp2_with (first|((with_reducible refine gI ?_);refine aI ?_))
      go_ret2
      exact⟨by rw[HX.out];rfl,H.below⟩
    ·have d2:((byt L i:Int) == 48)=false:=by rw[beq_eq_false_iff_ne];omega
     rw[if_neg (by omega)]at HE
     have HX:=Lib.hid HE;clear HE;clear e2
     go_wp2_with (first|((with_reducible refine gI ?_);refine aI ?_))
     go_ret2
     exact⟨by rw[HX.out];rfl,H.below⟩
def zGd:Str:=[110,116,114,102,118,97]
def plainB:List Nat:=[10,9,13,12,11,7]
theorem zOF {c k:Nat} (hk:k<6) (h:c=byt zGd k):zJZ c=some (plainB.getD k 0):=by
 subst h
 match k,hk with
 | 0,_=>rfl
 | 1,_=>rfl
 | 2,_=>rfl
 | 3,_=>rfl
 | 4,_=>rfl
 | 5,_=>rfl
theorem zMM {c:Nat} (h:∀ m,m<6→c≠byt zGd m):zJZ c=none:=by
 have h0:c≠110:=h 0 (by omega)
 have h1:c≠116:=h 1 (by omega)
 have h2:c≠114:=h 2 (by omega)
 have h3:c≠102:=h 3 (by omega)
 have h4:c≠118:=h 4 (by omega)
 have h5:c≠97:=h 5 (by omega)
 unfold zJZ;rw[if_neg h0,if_neg h1,if_neg h2,if_neg h3,if_neg h4,if_neg h5]
theorem zNA {c h:Nat} (e:hexP c=some h):h≤15:=by
 unfold hexP at e;split at e
 ·cases e;omega
 ·split at e
  ·cases e;omega
  ·split at e
   ·cases e;omega
   ·cases e
theorem zGK (L:Str) (i:Nat) (hL:L.length≤2000) (hi:i≤L.length) (w0:World):Calls Tryz.prog 147 #[.string ⟨L.toArray⟩,.int .i64 i] w0 (Rt (escV (escP L i)) w0):=by
 have H:=Hold.start w0
 by_cases hlt:i+1<L.length
 ·have hd:decide ((L.length:Int)≤(i:Int)+1)=false:=by simp;omega
  have hb:=zCf L (i+1);have ES:escP L i=escP L i:=rfl
  conv at ES=>rhs;unfold escP
  rw[if_pos hlt]at ES
  generalize hc:byt L (i+1)=c at hb ES
  have HC:=Lib.hid hc;have E2:=Lib.hid ES;clear ES
  go_enter Tryz.func147,Tryz.ntmps147
  go_wp2_with (first|((with_reducible refine gI ?_);refine aI ?_))
  clear hc
  go_loopw [8] (fun k wr=>∃ j:Nat,j≤6∧k=.int .i64 j∧Hid (∀ m,m<j→c≠byt zGd m)∧Hold w0 wr []) (fun k _=>7 - (intOf k).toNat)
  case atStart=>exact⟨0,by omega,rfl,Lib.hid (fun m hm=>by omega),H⟩
  case round =>
   clear H;obtain⟨j,hj,rfl,G,H⟩:=hrel
   by_cases hj6:j<6
   ·have hd6:decide ((j:Int)<6)=true:=by simp;omega
    by_cases hit:c=byt zGd j
    ·have he:=zOF hj6 hit;have he2:=E2.out;rw[he]at he2;simp only[]at he2;have E3:=Lib.hid he2;clear he he2;have h3:((c:Int) == (byt zGd j:Int))=true:=by rw[beq_iff_eq,hit]
     clear hit;have hj':j=0∨j=1∨j=2∨j=3∨j=4∨j=5:=by omega
     unfold zGd at h3;rcases hj' with rfl|rfl|rfl|rfl|rfl|rfl
     all_goals
      go_wp2_with (first|(first|((with_reducible refine gL ?_);refine aG H ?_)|((with_reducible refine gI ?_);refine aI ?_))|((with_reducible refine gBS ?_);refine zAL wtd_ _ _ _ rfl H (#[.int .u8 10,.int .u8 9,.int .u8 13,.int .u8 12,.int .u8 11,.int .u8 7]) 5 (by intro W;simp only[ml];(try simp only[pe]);(try unfold setV);simp[go_sem]<;>rfl) ?_;clear H;intro b w H;try simp only[nr]at H))
      go_ret2
      exact⟨by rw[E3.out];rfl,H.below⟩
    ·have h3:((c:Int) == (byt zGd j:Int))=false:=by rw[beq_eq_false_iff_ne];omega
     unfold zGd at h3;have HIT:=Lib.hid hit;clear hit
     go_wp2_with (first|((with_reducible refine gI ?_);refine aI ?_))
     go_roundw
     case rel=>exact⟨j+1,by omega,by go_num,Lib.hid (fun m hm=>by
      by_cases e:m=j
      ·subst e;exact HIT.out
      ·exact G.out m (by omega)),H⟩
     case measure=>simp[intOf];omega
   ·obtain rfl:j=6:=by omega
    have he:=zMM (fun m hm=>G.out m hm)
    have he2:=E2.out;rw[he]at he2;simp only[]at he2;have E3:=Lib.hid he2;clear he he2;clear hd
    by_cases hx:c=120
    ·have dx:((c:Int) == 120)=true:=by rw[beq_iff_eq];omega
     have e3:=E3.out;rw[if_pos hx]at e3;clear hx
     by_cases h3:i+3<L.length
     ·have d3:decide ((L.length:Int)≤(i:Int)+3)=false:=by simp;omega
      rw[if_pos (by omega)]at e3
      have hb2:=zCf L (i+2);have hb3:=zCf L (i+3);have hc2:=fun w=>zMi (byt L (i+2)) hb2 w
      have hc3:=fun w=>zMi (byt L (i+3)) hb3 w
      cases h2:hexP (byt L (i+2)) with
      | none =>
       rw[h2]at e3 hc2;simp only[optI]at hc2;have E4:=Lib.hid e3;clear e3 h2
       go_wp2_with (first|((with_reducible refine gI ?_);refine aI ?_)|((with_reducible first|refine ch (hc2 _) H ?_|refine ch (hc3 _) H ?_);clear H;intro w H))
       go_ret2
       exact⟨by rw[E4.out];rfl,H.below⟩
      | some x =>
       rw[h2]at e3 hc2;simp only[]at e3;rw[if_pos h3]at e3;have hh:=zNA h2;simp only[optI]at hc2
       cases h4:hexP (byt L (i+3)) with
       | none =>
        rw[h4]at hc3;simp only[h4,optI]at hc3 e3;have E4:=Lib.hid e3;clear e3 h2 h4;have dh:decide ((x:Int)<0)=false:=by simp
        go_wp2_with (first|((with_reducible refine gI ?_);refine aI ?_)|((with_reducible first|refine ch (hc2 _) H ?_|refine ch (hc3 _) H ?_);clear H;intro w H))
        go_ret2
        exact⟨by rw[E4.out];rfl,H.below⟩
       | some y =>
        rw[h4]at hc3;simp only[h4,optI]at hc3 e3;have hg:=zNA h4;have E4:=Lib.hid e3;clear e3 h2 h4;have dh:decide ((x:Int)<0)=false:=by simp
        have dg:decide ((y:Int)<0)=false:=by simp
        go_wp2_with (first|((with_reducible refine gI ?_);refine aI ?_)|((with_reducible first|refine ch (hc2 _) H ?_|refine ch (hc3 _) H ?_);clear H;intro w H))
        refine wr_ 17 [fun v _=>v=.string ⟨L.toArray⟩,fun v _=>v=.int .i64 (i:Int),fun v _=>v=.int .i64 ((i+2:Nat):Int),fun v _=>v=.int .u8 (byt L (i+2):Int),fun v _=>v=.int .i64 (x:Int),fun v _=>v=.int .i64 ((16 * x:Nat):Int),fun v _=>v=.string ⟨L.toArray⟩,fun v _=>v=.int .i64 (i:Int),fun v _=>v=.int .i64 ((i+3:Nat):Int),fun v _=>v=.int .u8 (byt L (i+3):Int),fun v _=>v=.int .i64 (y:Int),fun v _=>v=.int .i64 ((16 * x+y:Nat):Int),fun v _=>v=.int .u8 ((16 * x+y:Nat):Int),fun v _=>v=.int .i64 (i:Int),fun v _=>v=.int .i64 ((i+4:Nat):Int),fun v _=>v=.int .u8 ((16 * x+y:Nat):Int),fun v _=>v=.int .i64 ((i+4:Nat):Int)] ?ob ?en
        case ob =>
         refine⟨?_,?_,?_,?_,?_,?_,?_,?_,?_,?_,?_,?_,?_,?_,?_,?_,?_,trivial⟩<;>intro A W h
         ·exact zAB rfl rfl (h.f 0)
         ·exact zAB rfl rfl (h.f 1)
         ·(have e61:A.eval (.tmp 61)=.int .i64 (i:Int):=h.d 1 61;refine zAA rfl ?_;simp only[execOp,e61];(simp[go_sem]<;>(rw[IntKind.wrap_i64];omega)))
         ·exact zAA rfl (zBi rfl Tryz.underlying9 (h.d 0 60) (h.d 2 62) rfl (by omega)) (by decide)
         ·exact zAm rfl rfl (enters_of Tryz.func157 (by kernel_rfl) rfl) (zCL (h.d 3 63)) (hc2 W)
         ·(have e64:A.eval (.tmp 64)=.int .i64 (x:Int):=h.d 4 64;refine zAA rfl ?_;simp only[execOp,e64];(simp[go_sem]<;>(rw[IntKind.wrap_i64];omega)))
         ·exact zAB rfl rfl (h.f 0)
         ·exact zAB rfl rfl (h.f 1)
         ·(have e67:A.eval (.tmp 67)=.int .i64 (i:Int):=h.d 7 67;refine zAA rfl ?_;simp only[execOp,e67];(simp[go_sem]<;>(rw[IntKind.wrap_i64];omega)))
         ·exact zAA rfl (zBi rfl Tryz.underlying9 (h.d 6 66) (h.d 8 68) rfl (by omega)) (by decide)
         ·exact zAm rfl rfl (enters_of Tryz.func157 (by kernel_rfl) rfl) (zCL (h.d 9 69)) (hc3 W)
         ·(have e65:A.eval (.tmp 65)=.int .i64 ((16 * x:Nat):Int):=h.d 5 65;have e70:A.eval (.tmp 70)=.int .i64 (y:Int):=h.d 10 70;refine zAA rfl ?_;simp only[execOp,e65,e70];(simp[go_sem]<;>(rw[IntKind.wrap_i64];omega)))
         ·(have e71:A.eval (.tmp 71)=.int .i64 ((16 * x+y:Nat):Int):=h.d 11 71;refine zAA rfl ?_;simp only[execOp,e71];(simp[go_sem]<;>(rw[IntKind.wrap_u8];omega)))
         ·exact zAB rfl rfl (h.f 1)
         ·(have e73:A.eval (.tmp 73)=.int .i64 (i:Int):=h.d 13 73;refine zAA rfl ?_;simp only[execOp,e73];(simp[go_sem]<;>(rw[IntKind.wrap_i64];omega)))
         ·exact zCB rfl rfl (h.d 12 72)
         ·exact zCB rfl rfl (h.d 14 74)
        case en =>
         intro vals W hbw hv _;simp only[fa,Nat.reduceAdd];rw[e_ hv 0,e_ hv 1,e_ hv 2,e_ hv 3,e_ hv 4,e_ hv 5,e_ hv 6,e_ hv 7,e_ hv 8,e_ hv 9,e_ hv 10,e_ hv 11,e_ hv 12,e_ hv 13,e_ hv 14,e_ hv 15,e_ hv 16];clear hv
         try simp only[pl]
         replace H:=H.call hbw;clear hbw
         go_wp2_with (first|fail)
         go_ret2
         exact⟨by rw[E4.out];simp[escV],H.below⟩
     ·have d3:decide ((L.length:Int)≤(i:Int)+3)=true:=by simp;omega
      have e4:escP L i=none:=by
       rw[e3]
       by_cases h2:i+2<L.length
       ·rw[if_pos h2]
        cases hexP (byt L (i+2)) with
        | none=>rfl
        | some h=>simp only[];rw[if_neg h3]
       ·rw[if_neg h2]
      have E4:=Lib.hid e4;clear e3 e4
      go_wp2_with (first|fail)
      go_ret2
      exact⟨by rw[E4.out];rfl,H.below⟩
    ·have dx:((c:Int) == 120)=false:=by rw[beq_eq_false_iff_ne];omega
     have e3:=E3.out;rw[if_neg hx]at e3;clear hx
     by_cases h128:128≤c
     ·have d8:decide (128≤(c:Int))=true:=by simp;omega
      rw[if_pos h128]at e3;have E4:=Lib.hid e3;clear e3
      go_wp2_with (first|(first|((with_reducible refine gT ?_);(refine aS H ?_;clear H;intro w H;try simp only[nr]at H))|((with_reducible refine gA ?_);(refine bA H ?_;clear H;intro b w H;try simp only[nr]at H)))|((with_reducible refine ch (zFQ _) H ?_);clear H;intro w H))
      go_ret2
      exact⟨by rw[E4.out];rfl,H.below⟩
     ·have d8:decide (128≤(c:Int))=false:=by simp;omega
      rw[if_neg h128]at e3;have hH:=fun w=>zD9 zBP zDQ c hb w
      cases hs:hasB zBP c with
      | true =>
       rw[hs]at e3 hH;rw[if_pos rfl]at e3;have E4:=Lib.hid e3;clear e3 hs
       go_wp2_with (first|(first|((with_reducible refine gT ?_);(refine aS H ?_;clear H;intro w H;try simp only[nr]at H))|((with_reducible refine gL ?_);refine aL H ?_)|((with_reducible refine gA ?_);(refine bA H ?_;clear H;intro b w H;try simp only[nr]at H)))|((with_reducible first|refine ch (zFQ _) H ?_|refine ch (hH _) H ?_);clear H;intro w H))
       go_ret2
       exact⟨by rw[E4.out];rfl,H.below⟩
      | false =>
       rw[hs]at e3 hH;rw[if_neg (by simp)]at e3
       have E4:=Lib.hid e3;clear e3 hs
       go_wp2_with (first|(first|((with_reducible refine gT ?_);(refine aS H ?_;clear H;intro w H;try simp only[nr]at H))|((with_reducible refine gL ?_);refine aL H ?_)|((with_reducible refine gA ?_);(refine bA H ?_;clear H;intro b w H;try simp only[nr]at H)))|((with_reducible first|refine ch (zFQ _) H ?_|refine ch (hH _) H ?_);clear H;intro w H))
       go_ret2
       exact⟨by rw[E4.out];rfl,H.below⟩
 ·have hd:decide ((L.length:Int)≤(i:Int)+1)=true:=by simp;omega
  go_enter Tryz.func147,Tryz.ntmps147
  go_wp2_with (first|fail)
  go_ret2
  exact⟨by unfold escP;rw[if_neg hlt];rfl,H.below⟩
theorem zLw (L:Str) (i:Nat) (hL:L.length≤2000) (hi:i<L.length) (w0:World):Calls Tryz.prog 128 #[.string ⟨L.toArray⟩,.int .i64 i] w0 fun e w'=>WordR (brW i (zBg L i)) e∧Below w0.heap.size w0 w':=by
 have H:=Hold.start w0;have hn1:=fun w=>zH4 L (i+1) hL (by omega) w
 simp only[Int.natCast_add,Int.cast_ofNat_Int]at hn1;have en:zBg L i=zBg L i:=rfl
 conv at en=>rhs;unfold zBg
 cases hnum:zDi L (i+1) with
 | none =>
  rw[hnum]at hn1 en;simp only[numV]at hn1 en;have E:=Lib.hid (show brW i (zBg L i)=none by rw[en];rfl);clear en hnum
  go_enter Tryz.func128,Tryz.ntmps128
  go_wp2_with (first|(first|((with_reducible refine gT ?_);(refine aT H ?_;clear H;intro w H;try simp only[nr]at H))|((with_reducible refine gL ?_);refine aD H ?_)|((with_reducible refine gA ?_);(refine bA H ?_;clear H;intro b w H;try simp only[nr]at H)))|((with_reducible refine ch (hn1 _) H ?_);clear H;intro w H))
  (refine xct Tryz.results128 H ?_)
  exact⟨WordR.no (w:={kind:=11,place:=i}) E.out,H.below⟩
 | some p =>
  obtain⟨n,k⟩:=p;have hk:=zDD hnum (by omega)
  rw[hnum]at hn1 en;simp only[numV]at hn1 en;clear hnum;have dk:decide ((k:Int)<0)=false:=by simp
  have ha1:=fun w=>zDV L [44,125] k hL (by simp) (by simp) (by omega) w
  cases h1:atP L k [44,125] with
  | true =>
   rw[h1]at ha1 en;rw[if_pos rfl]at en;have E:=Lib.hid (show brW i (zBg L i)=some ({kind:=11,place:=i,lo:=n,hi := -1},k+2) by rw[en];rfl);clear en h1
   go_enter Tryz.func128,Tryz.ntmps128
   go_wp2_with (first|(first|((with_reducible refine gT ?_);((first|refine aO H ?_|refine aT H ?_);clear H;intro w H;try simp only[nr]at H))|((with_reducible refine gL ?_);refine aD H ?_)|((with_reducible refine gA ?_);(refine bA H ?_;clear H;intro b w H;try simp only[nr]at H)))|((with_reducible first|refine ch (hn1 _) H ?_|refine ch (ha1 _) H ?_);clear H;intro w H))
   (refine xct Tryz.results128 H ?_)
   exact⟨WordR.ok (w:={kind:=11,place:=i,lo:=n,hi := -1}) E.out,H.below⟩
  | false =>
   rw[h1]at ha1 en;rw[if_neg (by simp)]at en
   clear h1;have ha2:=fun w=>zDV L [44] k hL (by simp) (by simp) (by omega) w
   cases h2:atP L k [44] with
   | true =>
    have hl:=zET h2 (by simp)
    simp only[List.length_cons,List.length_nil,Nat.zero_add]at hl;rw[h2]at ha2 en;rw[if_pos rfl]at en;clear h2;have hn2:=fun w=>zH4 L (k+1) hL (by omega) w
    simp only[Int.natCast_add,Int.cast_ofNat_Int]at hn2
    cases hnum2:zDi L (k+1) with
    | none =>
     rw[hnum2]at hn2 en;simp only[numV]at hn2 en;have E:=Lib.hid (show brW i (zBg L i)=none by rw[en];rfl);clear en hnum2
     go_enter Tryz.func128,Tryz.ntmps128
     go_wp2_with (first|(first|((with_reducible refine gT ?_);((first|refine aO H ?_|refine aT H ?_);clear H;intro w H;try simp only[nr]at H))|((with_reducible refine gL ?_);refine aD H ?_)|((with_reducible refine gA ?_);(refine bA H ?_;clear H;intro b w H;try simp only[nr]at H)))|((with_reducible first|refine ch (hn1 _) H ?_|refine ch (ha1 _) H ?_|refine ch (ha2 _) H ?_|refine ch (hn2 _) H ?_);clear H;intro w H))
     (refine xct Tryz.results128 H ?_)
     exact⟨WordR.no (w:={kind:=11,place:=i,lo:=n,hi:=n}) E.out,H.below⟩
    | some q =>
     obtain⟨m,e⟩:=q;have hk2:=zDD hnum2 (by omega)
     rw[hnum2]at hn2 en;simp only[numV]at hn2 en;clear hnum2;have de:decide ((e:Int)<0)=false:=by simp
     have ha3:=fun w=>zDV L [125] e hL (by simp) (by simp) (by omega) w
     cases h3:atP L e [125] with
     | true =>
      rw[h3]at ha3 en;rw[if_pos rfl]at en;have E:=Lib.hid (show brW i (zBg L i)=some ({kind:=11,place:=i,lo:=n,hi:=m},e+1) by rw[en];rfl);clear en h3
      go_enter Tryz.func128,Tryz.ntmps128
      go_wp2_with (first|(first|((with_reducible refine gT ?_);((first|refine aO H ?_|refine aT H ?_);clear H;intro w H;try simp only[nr]at H))|((with_reducible refine gL ?_);refine aD H ?_)|((with_reducible refine gA ?_);(refine bA H ?_;clear H;intro b w H;try simp only[nr]at H)))|((with_reducible first|refine ch (hn1 _) H ?_|refine ch (ha1 _) H ?_|refine ch (ha2 _) H ?_|refine ch (hn2 _) H ?_|refine ch (ha3 _) H ?_);clear H;intro w H))
      (refine xct Tryz.results128 H ?_)
      exact⟨WordR.ok (w:={kind:=11,place:=i,lo:=n,hi:=m}) E.out,H.below⟩
     | false =>
      rw[h3]at ha3 en;rw[if_neg (by simp)]at en
      have E:=Lib.hid (show brW i (zBg L i)=none by rw[en];rfl);clear en h3
      go_enter Tryz.func128,Tryz.ntmps128
      go_wp2_with (first|(first|((with_reducible refine gT ?_);((first|refine aO H ?_|refine aT H ?_);clear H;intro w H;try simp only[nr]at H))|((with_reducible refine gL ?_);refine aD H ?_)|((with_reducible refine gA ?_);(refine bA H ?_;clear H;intro b w H;try simp only[nr]at H)))|((with_reducible first|refine ch (hn1 _) H ?_|refine ch (ha1 _) H ?_|refine ch (ha2 _) H ?_|refine ch (hn2 _) H ?_|refine ch (ha3 _) H ?_);clear H;intro w H))
      (refine xct Tryz.results128 H ?_)
      exact⟨WordR.no (w:={kind:=11,place:=i,lo:=n,hi:=m}) E.out,H.below⟩
   | false =>
    rw[h2]at ha2 en;rw[if_neg (by simp)]at en
    clear h2;have ha3:=fun w=>zDV L [125] k hL (by simp) (by simp) (by omega) w
    cases h3:atP L k [125] with
    | true =>
     rw[h3]at ha3 en;rw[if_pos rfl]at en;have E:=Lib.hid (show brW i (zBg L i)=some ({kind:=11,place:=i,lo:=n,hi:=n},k+1) by rw[en];rfl);clear en h3
     go_enter Tryz.func128,Tryz.ntmps128
     go_wp2_with (first|(first|((with_reducible refine gT ?_);((first|refine aO H ?_|refine aT H ?_);clear H;intro w H;try simp only[nr]at H))|((with_reducible refine gL ?_);refine aD H ?_)|((with_reducible refine gA ?_);(refine bA H ?_;clear H;intro b w H;try simp only[nr]at H)))|((with_reducible first|refine ch (hn1 _) H ?_|refine ch (ha1 _) H ?_|refine ch (ha2 _) H ?_|refine ch (ha3 _) H ?_);clear H;intro w H))
     (refine xct Tryz.results128 H ?_)
     exact⟨WordR.ok (w:={kind:=11,place:=i,lo:=n,hi:=n}) E.out,H.below⟩
    | false =>
     rw[h3]at ha3 en;rw[if_neg (by simp)]at en
     have E:=Lib.hid (show brW i (zBg L i)=none by rw[en];rfl);clear en h3
     go_enter Tryz.func128,Tryz.ntmps128
     go_wp2_with (first|(first|((with_reducible refine gT ?_);((first|refine aO H ?_|refine aT H ?_);clear H;intro w H;try simp only[nr]at H))|((with_reducible refine gL ?_);refine aD H ?_)|((with_reducible refine gA ?_);(refine bA H ?_;clear H;intro b w H;try simp only[nr]at H)))|((with_reducible first|refine ch (hn1 _) H ?_|refine ch (ha1 _) H ?_|refine ch (ha2 _) H ?_|refine ch (ha3 _) H ?_);clear H;intro w H))
     (refine xct Tryz.results128 H ?_)
     exact⟨WordR.no (w:={kind:=11,place:=i,lo:=n,hi:=n}) E.out,H.below⟩
end
end Go.Proofs.YtdoflhjhaciepaaGreat
