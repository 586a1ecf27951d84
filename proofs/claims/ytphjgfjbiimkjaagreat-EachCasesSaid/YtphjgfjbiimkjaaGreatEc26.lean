/-
  Laws of walks, and walks.
-/
import Derived.Test.YtphjgfjbiimkjaaGreatEc25
set_option linter.unusedVariables false
set_option linter.unusedSimpArgs false
set_option maxRecDepth 100000
set_option maxHeartbeats 16000000
namespace Go.Proofs.YtphjgfjbiimkjaaGreat
section
open Go.RowKit Go.Shelf
attribute [local go_sem] Oper.semAt_some
theorem zBW (n m:Int) (w0:World):Calls Tryz.prog 6 #[.int .i64 n,.int .i64 m] w0 (Rt (zA8 {kind:=3,slot:=n,next:=m}) w0):=by
 have H:=Hold.start w0
 go_enter Tryz.func6,Tryz.ntmps6
 go_wp2_with (first|(first|((with_reducible refine gTi ?_);refine aTi H ?_;clear H;intro w H;try simp only[nr]at H)|((with_reducible refine gBi ?_);refine ib4 ?_)|((with_reducible refine gA ?_);(refine bA H ?_;clear H;intro b w H;try simp only[nr]at H))))
 refine zNv Tryz.results6 rfl H (i:=0) .zero zAp (by rfl) rfl ?_
 exact⟨rfl,H.below⟩
def texQ:Array Value:=(textsQ.map Value.string).toArray
theorem zPK {i:Nat} (h:i<21):∃ L:ByteArray,textsQ[i]?=some L/\texQ[i]?=some (.string L):=by
 refine⟨textsQ[i]'h,List.getElem?_eq_getElem h,?_⟩
 unfold texQ;rw[List.getElem?_toArray,List.getElem?_map,List.getElem?_eq_getElem h];rfl
def digE:Array Value:=#[.int .u8 97,.int .u8 98]
theorem zPZ {m:Nat} (h:m<2):∃ x:UInt8,digE[m]?=some (.int .u8 x.toNat):=by
 match m,h with
 | 0,_=>exact⟨97,rfl⟩
 | 1,_=>exact⟨98,rfl⟩
theorem zIG {P:Program} {ops:Array Oper} {Q:Exit->Act->World->Prop} {a:Act} {w:World} {rest:List Oper} {d:Option Tmp} {p:Op} {t:TypeId} {pos:String} {af:Array Edge} {g:Option (Nat × Bool)} (hg:Region.wanted ⟨d,p,t,pos,af,g⟩ (yielded ops a.tmps)=true) (h:wpList P ops Q (⟨d,p,t,pos,af,none⟩::rest) a w):wpList P ops Q (⟨d,p,t,pos,af,g⟩::rest) a w:=by
 unfold wpList at h ⊢;rw[if_pos hg];rw[if_pos (by rfl)]at h
 exact h
theorem zI0 (q:Option Addr) (c:Nat) (ps:List InstD) (z:Int) (F:Nat->Prop) (w:World) (hs:∀ x ∈ ps,zAb x.set) (hn:ps.length<=200) (hF:∀ b,F b->b<w.heap.size) (hp:InstsR F q c ps w) :
  Calls Tryz.prog 7 #[.slice q ps.length c,.slice none 0 0,.int .i64 z] w (Rt (.bool true) w) :=
 zEp q c ps none 0 [] z F (fun _=>False) w hs hn (by decide) hF (fun _ h=>h.elim) hp (RdN.nil ..) (.inl ⟨⟨none,rfl⟩,rfl⟩)
def aaaF:Str:=[97,97,97]
def aaaE:Array Value:=#[.int .u8 97,.int .u8 97,.int .u8 97]
def aabF:Str:=[97,97,98,97,97,97]
def aabE:Array Value:=#[.int .u8 97,.int .u8 97,.int .u8 98,.int .u8 97,.int .u8 97,.int .u8 97]
theorem zPj (W:World):(Instr.build 33 #[(0,.int .i64 6)]).run Tryz.prog W=.ok (zA8 {kind:=6}) W:=by kernel_rfl
theorem zLp {ops:Array Oper} {o:Oper} {a:Act} {w:World} {D:Prop} (hg:Region.wanted o (yielded ops a.tmps)=true) (hop:o.op=.build 33 #[(0,.const (.int .i64 6))]) (hD:¬ D:=by decide):zA4 Tryz.prog ops o a w (fun v w'=>IW v w'/\(D->w.heap.size<=blk v)):=by
 refine zBo hg (v:=zA8 {kind:=6}) (w':=w) ?_ (Below.refl _ w) ⟨⟨_,rfl,zAj⟩,fun h=>(hD h).elim⟩
 simp only[execOp,hop,List.map_toArray,List.map_cons,List.map_nil,Sem.run_bind];rw[show a.eval (.const (.int .i64 6))=.int .i64 6 from rfl,zPj];rfl
theorem zIk {M:Nat->Prop} {w0 w:World} {l:List Res} {q:Option Addr} {n:Nat} {ps:List InstD} {F:Nat->Prop} (hs:∀ x ∈ ps,zAb x.set) (H:HoldG M w0 w l) {k i:Nat} (hk:At l k (.kn F (InstsR F q n ps))) {qs:Option Addr} {c nn:Nat} {vals:List Value} {S:Str} (hi:At l i (.row (.slice qs nn c) 5 1 nn vals)) (hv:vals=S.map fun b=>.int .u8 b.toNat) (hn:nn=S.length) (hS:S.length<=1000) (many:Int) :
  Calls Tryz.prog 5 #[.slice q ps.length n,.slice qs nn c,.int .i64 many] w (Rt (.bool true) w):=by
 subst hv hn;obtain⟨FS,hFS,hSb⟩:=H.rowBytes hi;exact zC8 q n ps qs c S many F FS w hs hS (H.knlt hk) hFS (H.kn hk) hSb
theorem zHp (w0:World):Calls Tryz.prog 3 #[] w0 (Rt (.bool true) w0):=by
 have H:=Hold.start w0;obtain⟨i0,hi0,hz0,hz1,hz2⟩:=info_parts zGp
 go_enter Tryz.func3,Tryz.ntmps3
 go_wp2_with (first|((with_reducible show @wpList _ _ _ ({dst:=_,op:=Op.buildSlice _ 21 _,type:=_,pos:=_,after:=_,guard:=_}::_) _ _);refine zAQ wtd_ _ _ _ rfl H texQ 9 (by intro W;kernel_rfl) ?_;clear H;intro bt w H;simp only[List.nil_append]at H)|fail)
 go_loopw [2] (fun k wr=>∃ i:Nat,k=.int .i64 i/\i<=21/\Hold w0 wr [.blk bt texQ 9]) (fun k _=>22 - (intOf k).toNat)
 case atStart=>exact⟨0,rfl,by omega,H⟩
 case round =>
  clear H;obtain⟨i,rfl,hi,H⟩:=hrel
  by_cases hlt:i<21
  ·have di:decide ((i:Int)<21)=true:=by simp;omega
   obtain⟨L,hL1,hL⟩:=zPK hlt;have hm:=zNc i L hL1;clear hL1
   go_wp2_with (first|((with_reducible refine gIA ?_);refine zAh wtd_ (zEZ Tryz.underlying22 (fun w=>by kernel_rfl) rfl evd_ evd_ hlt) ?_)|((with_reducible refine gL ?_);refine zAK wtd_ _ _ rfl rfl zI1 ((H.cell (i:=0) .zero i).trans hL) ?_)|(go_at_call 4;refine chMQ (hm _) H ?_;clear H;intro q n ps F w hq hs H;clear hq;simp only[ca]at H)|fail)
   clear hm hL
   go_loopw [4] (fun k wr=>∃ j:Nat,k=.int .i64 j/\1<=j/\j<=128/\Hold w0 wr [.blk bt texQ 9,.kn F (InstsR F q n ps)]) (fun k _=>129 - (intOf k).toNat)
   case atStart=>exact⟨1,rfl,by omega,by omega,H⟩
   case round =>
    clear H;obtain⟨k,rfl,hk1,hk,H⟩:=hrel
    by_cases hkt:k<128
    ·have dk:decide ((k:Int)<128)=true:=by simp;omega
     go_wp2_with (first|fail)
     replace H:=H.addNil 5 1;simp only[ca]at H
     go_loopw [5,6] (fun v k wr=>∃ (j c:Nat) (qs:Option Addr) (S:Str),k=.int .i64 j/\v=.slice qs S.length c/\S.length+j<=128/\Hold w0 wr [.blk bt texQ 9,.kn F (InstsR F q n ps),.row (.slice qs S.length c) 5 1 S.length (S.map fun b=>.int .u8 b.toNat)]) (fun _ k _=>(intOf k).toNat)
     case atStart=>exact⟨k,0,none,[],rfl,rfl,by simp;omega,H⟩
     case round =>
      clear H;obtain⟨j,c,qs,S,rfl,rfl,hS,H⟩:=hrel
      by_cases hj0:1<j
      ·have dj:decide (1<(j:Int))=true:=by simp;omega
       obtain⟨m,hmq⟩:∃ m,j % 2=m:=⟨_,rfl⟩;have hm3:m<2:=by omega
       obtain⟨x,hx⟩:=zPZ hm3;have hmod:Int.tmod (j:Int) 2=(m:Int):=by rw[Int.tmod_eq_emod_of_nonneg (by omega)];omega
       obtain⟨j2,hj2⟩:∃ j2,j / 2=j2:=⟨_,rfl⟩;have hquo:Int.tdiv (j:Int) 2=(j2:Int):=by rw[Int.tdiv_eq_ediv_of_nonneg (by omega)];omega
       have hj3:j2<j:=by omega
       clear hmq hj2
       go_wp2_with (first|((with_reducible show @wpList _ _ _ ({dst:=_,op:=Op.buildSlice _ 2 _,type:=_,pos:=_,after:=_,guard:=_}::_) _ _);refine zAQ wtd_ _ _ _ rfl H digE 5 (by intro W;kernel_rfl) ?_;clear H;intro bd w H;simp only[ca]at H)|((with_reducible refine gIA ?_);refine zAh wtd_ (zEZ Tryz.underlying25 (fun w=>by kernel_rfl) rfl evd_ evd_ hm3) ?_)|((with_reducible refine gL ?_);refine zAK wtd_ _ _ rfl rfl zBd ((H.cell (i:=3) i_3 m).trans hx) ?_)|((with_reducible show @wpList _ _ _ ({dst:=_,op:=Op.buildSlice _ 1 _,type:=_,pos:=_,after:=_,guard:=_}::_) _ _);refine zAQ wtd_ _ _ _ rfl H #[.int .u8 x.toNat] 5 (by intro W;simp only[ml];(try simp only[pe]);kernel_rfl) ?_;clear H;intro be w H;simp only[ca]at H)|(at_builtin;refine zAx rfl _ _ 25 rfl H (i:=2) (j:=4) evd_ rfl i_2 i_4 Tryz.underlying25 hi0 hz0 hz1 hz2 rfl (by decide) rfl rfl (by unfold maxLen;omega) (by omega) ?_;clear H;intro v2 w H;simp only[sc]at H;(obtain⟨q2,c2,rfl,_,_,_⟩:=H.rowShape (i:=2) i_2))|fail)
       go_roundw
       case rel=>exact⟨j2,c2,q2,S++[x],rfl,by rw[List.length_append];rfl,by simp;omega,by rw[List.map_append,List.length_append];exact H.take 3⟩
       case measure=>simp[intOf];omega
      ·have dj:decide (1<(j:Int))=false:=by simp;omega
       have hSL:S.length<=128:=by omega
       clear hS;obtain⟨m,hmq⟩:∃ m,k % 5=m:=⟨_,rfl⟩;have hmod:Int.tmod (k:Int) 5=(m:Int):=by rw[Int.tmod_eq_emod_of_nonneg (by omega)];omega
       clear hmq
       go_wp2_with (first|((with_reducible show @wpList _ _ _ ({dst:=_,op:=Op.buildSlice _ 2 _,type:=_,pos:=_,after:=_,guard:=_}::_) _ _);refine zAQ wtd_ _ _ _ rfl H #[.int .u8 10,.int .u8 97] 5 (by intro W;kernel_rfl) ?_;clear H;intro bd w H;simp only[ca]at H)|(at_builtin;refine zIG wtd_ ?_;refine zAx rfl _ _ 25 rfl H (i:=2) (j:=3) evd_ rfl i_2 i_3 Tryz.underlying25 hi0 hz0 hz1 hz2 rfl (by decide) rfl rfl (by unfold maxLen;omega) (by omega) ?_;clear H;intro v2 w H;simp only[sc]at H;(obtain⟨q2,c2,rfl,_,_,_⟩:=H.rowShape (i:=2) i_2))|((with_reducible first|refine ch (zIk (S:=S) hs.out H (k:=1) i_1 (i:=2) i_2 rfl rfl (by omega) 99) H ?_|refine ch (zIk (S:=S++[10,97]) hs.out H (k:=1) i_1 (i:=2) i_2 (by simp) (by simp) (by simp;omega) (m:Int)) H ?_);clear H;intro w H)|fail)
       go_roundw
       case rel=>exact⟨k+1,by go_num,by omega,by omega,H.take 2⟩
       case measure=>simp[intOf];omega
    ·have dk:decide ((k:Int)<128)=false:=by simp;omega
     go_wp2_with (first|fail)
     go_roundw
     case rel=>exact⟨i+1,by go_num,by omega,H.take 1⟩
     case measure=>simp[intOf];omega
  ·have di:decide ((i:Int)<21)=false:=by simp;omega
   clear hi hlt;have hma:=zOr
   go_upto_region 20 with (first|((with_reducible refine gIA ?_);refine zAh wtd_ (zN3 (sz:=9) (i:=1) Tryz.underlying23 (fun w=>by kernel_rfl) rfl evd_ rfl hna rfl) ?_)|((with_reducible refine gLi ?_);refine zCW wtd_ _ _ rfl rfl zAp rfl ((H.kn (i:=1) i_1).cells hda rfl) ?_)|(go_at_call 4;refine chMQ (hma _) H ?_;clear H hma;intro qa na psa Fa w hqa hsa H;simp only[ca]at H;(have hna:1<psa.length:=of_decide_eq_true hqa.out);(obtain⟨ba,oa,rfl⟩:=(H.kn (i:=1) i_1).at (by omega));(obtain⟨da,hda⟩:∃ d,psa[1]?=some d:=⟨_,List.getElem?_eq_getElem hna⟩);(have HOK:=Lib.hid (hsa.out da (List.mem_of_getElem? hda))))|((with_reducible refine gT ?_);refine zAN wtd_ _ _ _ rfl rfl evd_ H (i:=2) i_2 rfl (by show 5<9;omega) (by with_reducible exact zAD zAF) ?_;clear H;intro w H;(rw[zCz]at H);try simp only[nr]at H)|((with_reducible refine kg 7 ?_);(first|refine kA 7 H ?_|refine kS 7 H ?_|refine kB 7 H ?_);clear H;intro b7 w H;try simp only[nr]at H)|((with_reducible refine kg 9 ?_);(first|refine kA 9 H ?_|refine kS 9 H ?_|refine kB 9 H ?_);clear H;intro b9 w H;try simp only[nr]at H)|(first|((with_reducible refine gTi ?_);refine aTi H ?_;clear H;intro w H;try simp only[nr]at H)|((with_reducible refine gBi ?_);refine ib1 ?_)))
   refine zAd 39 [fun v W=>IW v W,fun v W=>SW w.heap.size v W,fun v _=>v=.func (.func 6) #[] #[],fun v W=>IW v W,fun v W=>IW v W,fun v W=>SW w.heap.size v W,fun v _=>v=.func (.func 6) #[] #[],fun v W=>IW v W,fun v W=>IW v W,fun v W=>SW w.heap.size v W,fun v _=>v=.func (.func 6) #[] #[],fun v W=>IW v W,fun v W=>IW v W,fun v _=>v=.func (.func 6) #[] #[],fun v W=>IW v W,fun v W=>IW v W,fun v W=>SW w.heap.size v W,fun v _=>v=.func (.func 6) #[] #[],fun v W=>IW v W,fun v W=>IW v W,fun v _=>v=.func (.func 6) #[] #[],fun v W=>IW v W,fun v W=>IW v W,fun v W=>SW w.heap.size v W,fun v _=>v=.func (.func 6) #[] #[],fun v W=>IW v W,fun v W=>IW v W,fun v _=>v=.func (.func 6) #[] #[],fun v W=>IW v W,fun v _=>v=.func (.func 6) #[] #[],fun v W=>IW v W,fun v W=>IW v W,fun v W=>SW w.heap.size v W,fun v W=>IW v W,fun v W=>SW w.heap.size v W,fun v W=>SW w.heap.size v W,fun v W=>IW v W,fun v W=>SW w.heap.size v W,fun v W=>GW w.heap.size v W] (fun _=>false) (by kernel_rfl) (by kernel_rfl) (by kernel_rfl) (by repeat (first|exact trivial|refine⟨zAI _,?_⟩|refine⟨zMU,?_⟩|refine⟨zNL _,?_⟩|refine⟨zNP _,?_⟩)) (fun _ _ h=>by cases h) ?ob ?en
   case ob =>
    refine⟨?_,?_,?_,?_,?_,?_,?_,?_,?_,?_,?_,?_,?_,?_,?_,?_,?_,?_,?_,?_,?_,?_,?_,?_,?_,?_,?_,?_,?_,?_,?_,?_,?_,?_,?_,?_,?_,?_,?_,trivial⟩<;>intro A W h
    ·exact zCQ (d:={kind:=5}) rfl rfl (h.f 9) (zET ((H.call h.below).blk (i:=3) i_3).2) zAj
    ·exact zGL rfl rfl h.below.size (h.d 0 61)
    ·exact zAB rfl rfl (h.f 8)
    ·exact zCP rfl rfl (enters_of Tryz.func6 (by kernel_rfl) rfl) (h.d 2 63) (zBm ⟨rfl,rfl⟩) (zBW 0 1 W) zAj
    ·exact zCQ (d:={kind:=5}) rfl rfl (h.f 9) (zET ((H.call h.below).blk (i:=3) i_3).2) zAj
    ·exact zIl rfl rfl h.below.size (h.d 3 64) (h.d 4 65)
    ·exact zAB rfl rfl (h.f 8)
    ·exact zCP rfl rfl (enters_of Tryz.func6 (by kernel_rfl) rfl) (h.d 6 67) (zBm ⟨rfl,rfl⟩) (zBW 1 1 W) zAj
    ·exact zCQ (d:={kind:=5}) rfl rfl (h.f 9) (zET ((H.call h.below).blk (i:=3) i_3).2) zAj
    ·exact zIl rfl rfl h.below.size (h.d 7 68) (h.d 8 69)
    ·exact zAB rfl rfl (h.f 8)
    ·exact zCP rfl rfl (enters_of Tryz.func6 (by kernel_rfl) rfl) (h.d 10 71) (zBm ⟨rfl,rfl⟩) (zBW 1 1 W) zAj
    ·exact zCQ rfl rfl (h.f 7) (zET ((H.call h.below).blk (i:=2) i_2).2) HOK.out
    ·exact zAB rfl rfl (h.f 8)
    ·exact zCP rfl rfl (enters_of Tryz.func6 (by kernel_rfl) rfl) (h.d 13 74) (zBm ⟨rfl,rfl⟩) (zBW 0 3 W) zAj
    ·exact zCQ (d:={kind:=5}) rfl rfl (h.f 9) (zET ((H.call h.below).blk (i:=3) i_3).2) zAj
    ·exact zIF rfl rfl h.below.size (h.d 11 72) (h.d 12 73) (h.d 14 75) (h.d 15 76)
    ·exact zAB rfl rfl (h.f 8)
    ·exact zCP rfl rfl (enters_of Tryz.func6 (by kernel_rfl) rfl) (h.d 17 78) (zBm ⟨rfl,rfl⟩) (zBW 0 1 W) zAj
    ·exact zCQ rfl rfl (h.f 7) (zET ((H.call h.below).blk (i:=2) i_2).2) HOK.out
    ·exact zAB rfl rfl (h.f 8)
    ·exact zCP rfl rfl (enters_of Tryz.func6 (by kernel_rfl) rfl) (h.d 20 81) (zBm ⟨rfl,rfl⟩) (zBW 1 3 W) zAj
    ·exact zCQ (d:={kind:=5}) rfl rfl (h.f 9) (zET ((H.call h.below).blk (i:=3) i_3).2) zAj
    ·exact zIF rfl rfl h.below.size (h.d 18 79) (h.d 19 80) (h.d 21 82) (h.d 22 83)
    ·exact zAB rfl rfl (h.f 8)
    ·exact zCP rfl rfl (enters_of Tryz.func6 (by kernel_rfl) rfl) (h.d 24 85) (zBm ⟨rfl,rfl⟩) (zBW 0 1 W) zAj
    ·exact zCQ rfl rfl (h.f 7) (zET ((H.call h.below).blk (i:=2) i_2).2) HOK.out
    ·exact zAB rfl rfl (h.f 8)
    ·exact zCP rfl rfl (enters_of Tryz.func6 (by kernel_rfl) rfl) (h.d 27 88) (zBm ⟨rfl,rfl⟩) (zBW 0 3 W) zAj
    ·exact zAB rfl rfl (h.f 8)
    ·exact zCP rfl rfl (enters_of Tryz.func6 (by kernel_rfl) rfl) (h.d 29 90) (zBm ⟨rfl,rfl⟩) (zBW 1 4 W) zAj
    ·exact zCQ (d:={kind:=5}) rfl rfl (h.f 9) (zET ((H.call h.below).blk (i:=3) i_3).2) zAj
    ·exact zLP rfl rfl h.below.size (h.d 25 86) (h.d 26 87) (h.d 28 89) (h.d 30 91) (h.d 31 92)
    ·exact zLp rfl rfl
    ·exact zGL rfl rfl h.below.size (h.d 33 94)
    ·exact zM7 rfl rfl h.below.size
    ·exact zMn rfl rfl
    ·exact zGL rfl rfl h.below.size (h.d 36 97)
    ·exact zOb rfl rfl h.below.size (h.d 1 62) (h.d 5 66) (h.d 9 70) (h.d 16 77) (h.d 23 84) (h.d 32 93) (h.d 34 95) (h.d 35 96) (h.d 37 98)
   case en =>
    intro vals W hbw hv _;have x0:=hv 0 (by omega);simp only[zAO]at x0
    have x1:=hv 1 (by omega);simp only[zAO]at x1
    have x3:=hv 3 (by omega);simp only[zAO]at x3
    have x4:=hv 4 (by omega);simp only[zAO]at x4
    have x5:=hv 5 (by omega);simp only[zAO]at x5
    have x7:=hv 7 (by omega);simp only[zAO]at x7
    have x8:=hv 8 (by omega);simp only[zAO]at x8
    have x9:=hv 9 (by omega);simp only[zAO]at x9
    have x11:=hv 11 (by omega);simp only[zAO]at x11
    have x12:=hv 12 (by omega);simp only[zAO]at x12
    have x14:=hv 14 (by omega);simp only[zAO]at x14
    have x15:=hv 15 (by omega);simp only[zAO]at x15
    have x16:=hv 16 (by omega);simp only[zAO]at x16
    have x18:=hv 18 (by omega);simp only[zAO]at x18
    have x19:=hv 19 (by omega);simp only[zAO]at x19
    have x21:=hv 21 (by omega);simp only[zAO]at x21
    have x22:=hv 22 (by omega);simp only[zAO]at x22
    have x23:=hv 23 (by omega);simp only[zAO]at x23
    have x25:=hv 25 (by omega);simp only[zAO]at x25
    have x26:=hv 26 (by omega);simp only[zAO]at x26
    have x28:=hv 28 (by omega);simp only[zAO]at x28
    have x30:=hv 30 (by omega);simp only[zAO]at x30
    have x31:=hv 31 (by omega);simp only[zAO]at x31
    have x32:=hv 32 (by omega);simp only[zAO]at x32
    have x33:=hv 33 (by omega);simp only[zAO]at x33
    have x34:=hv 34 (by omega);simp only[zAO]at x34
    have x35:=hv 35 (by omega);simp only[zAO]at x35
    have x36:=hv 36 (by omega);simp only[zAO]at x36
    have x37:=hv 37 (by omega);simp only[zAO]at x37
    have x38:=hv 38 (by omega);simp only[zAO]at x38
    simp only[fa,Nat.reduceAdd];rw[e_ hv 2,e_ hv 6,e_ hv 10,e_ hv 13,e_ hv 17,e_ hv 20,e_ hv 24,e_ hv 27,e_ hv 29];clear hv
    try simp only[pl]
    obtain⟨gg,e38,hpr⟩:=GW.progs x38;rw[e38];clear e38 x0 x1 x3 x4 x5 x7 x8 x9 x11 x12 x14 x15 x16 x18 x19 x21 x22 x23 x25 x26 x28 x30 x31 x32 x33 x34 x35 x36 x37 x38;have H2:=H.learn hbw Still.none (fun b hb=>⟨hb.2,.inl hb.1⟩) hpr
    generalize (fun b=>w.heap.size<=b/\b<W.heap.size)=FG at H2
    have H:=H2.pick [4] [.kn FG (zKH gg FG)] (by decide) rfl
    clear H2 hpr hbw HOK
    go_wp2_with (first|fail)
    go_loopw [11] (fun k wr=>∃ i:Nat,k=.int .i64 i/\i<=9/\Hold w0 wr [.kn FG (zKH gg FG)]) (fun k _=>10 - (intOf k).toNat)
    case atStart=>exact⟨0,rfl,by omega,H⟩
    case round =>
     clear H;obtain⟨j,rfl,hj,H⟩:=hrel
     by_cases hjt:j<9
     ·have dj:decide ((j:Int)<9)=true:=by simp;omega
      go_wp2_with (first|fail)
      go_loopw [12] (fun k wr=>∃ z:Int,k=.int .i64 z /\ -1<=z/\z<=6/\Hold w0 wr [.kn FG (zKH gg FG)]) (fun k _=>(7 - intOf k).toNat)
      case atStart=>exact⟨-1,rfl,by omega,by omega,H⟩
      case round =>
       clear H;obtain⟨z,rfl,hz1,hz2,H⟩:=hrel
       by_cases hzt:z<6
       ·have dz:decide (z<6)=true:=decide_eq_true hzt
        go_wp2_with (first|((with_reducible refine gIA ?_);refine zAh wtd_ (zEZ Tryz.underlying35 (fun w=>by kernel_rfl) rfl evd_ evd_ hjt) ?_)|((with_reducible refine gL ?_);(obtain⟨qk,ck,pk,hcell,h5,hsk,hik⟩:=(H.kn (i:=0) .zero) j hjt);refine zAK wtd_ _ _ rfl rfl zCI hcell ?_;(have H2:=H.also FG (InstsR FG qk ck pk) (Still.at (i:=0) .zero) (fun V hV=>hik.kept hV));clear H hik;(have H:=H2);clear H2 hcell;simp only[ca]at H)|((with_reducible show @wpList _ _ _ ({dst:=_,op:=Op.buildSlice _ 6 _,type:=_,pos:=_,after:=_,guard:=_}::_) _ _);refine zAQ wtd_ _ _ _ rfl H aabE 5 (by intro W;kernel_rfl) ?_;clear H;intro bd w H;simp only[ca]at H)|((with_reducible refine gCV ?_);refine zES wtd_ rfl Tryz.underlying25 Tryz.underlying5 H (i:=2) (L:=aabF) rfl i_2 rfl (by decide) ?_;clear H;intro w H;simp only[sc]at H)|(go_at_call 7;(with_reducible refine ch (zEp qk ck pk (some ⟨bd,0,none⟩) aabF.length aabF z FG (·=bd) _ hsk (by omega) (by decide) (H.knlt (i:=1) i_1) (H.knlt (i:=2) i_2) (H.kn (i:=1) i_1) (H.kn (i:=2) i_2) (BytesR.rdN (H.kn (i:=2) i_2) (H.knlt (i:=2) i_2) (by decide))) H ?_);clear H;intro w H)|((with_reducible refine ch (zI0 qk ck pk z FG _ hsk (by omega) (H.knlt (i:=3) i_3) (H.kn (i:=3) i_3)) H ?_);clear H;intro w H)|fail)
        go_roundw
        case rel=>exact⟨z+1,rfl,by omega,by omega,H.take 1⟩
        case measure=>simp[intOf];omega
       ·have dz:decide (z<6)=false:=decide_eq_false hzt
        go_wp2_with (first|fail)
        go_roundw
        case rel=>exact⟨j+1,by go_num,by omega,H⟩
        case measure=>simp[intOf];omega
     ·have dj:decide ((j:Int)<9)=false:=by simp;omega
      have hma:=zOr
      go_wp2_with (first|(go_at_call 4;refine chMQ (hma _) H ?_;clear H;intro qb nb psb Fb w hqb hsb H;clear hqb;simp only[ca]at H)|((with_reducible show @wpList _ _ _ ({dst:=_,op:=Op.buildSlice _ 3 _,type:=_,pos:=_,after:=_,guard:=_}::_) _ _);refine zAQ wtd_ _ _ _ rfl H aaaE 5 (by intro W;kernel_rfl) ?_;clear H;intro bx w H;simp only[ca]at H)|((with_reducible refine gCV ?_);(first|refine zES wtd_ rfl Tryz.underlying25 Tryz.underlying5 H (i:=2) (L:=aaaF) rfl i_2 rfl (by decide) ?_|refine zES wtd_ rfl Tryz.underlying25 Tryz.underlying5 H (i:=4) (L:=aaaF) rfl i_4 rfl (by decide) ?_);clear H;intro w H;simp only[sc]at H)|((with_reducible first|refine ch (zC8 qb nb psb (some ⟨bx,0,none⟩) aaaF.length aaaF (-9223372036854775808) Fb (·=bx) _ hsb.out (by decide) (H.knlt (i:=1) i_1) (H.knlt (i:=2) i_2) (H.kn (i:=1) i_1) (H.kn (i:=2) i_2)) H ?_|refine ch (zC8 qb nb psb (some ⟨bx,0,none⟩) aaaF.length aaaF 9223372036854775807 Fb (·=bx) _ hsb.out (by decide) (H.knlt (i:=3) i_3) (H.knlt (i:=4) i_4) (H.kn (i:=3) i_3) (H.kn (i:=4) i_4)) H ?_|refine ch (zD6 _) H ?_);clear H;intro w H)|fail)
      go_ret;exact⟨rfl,H.below⟩
end
end Go.Proofs.YtphjgfjbiimkjaaGreat
