/-
  Laws of walks, and walks.
-/
import Derived.Test.YtklcgfkdemifcaaGreatDoorSw4
import Derived.Test.YtklcgfkdemifcaaGreatDoorSw3
import Derived.Test.YtklcgfkdemifcaaGreatDoorSw2
set_option linter.unusedVariables false
set_option linter.unusedSimpArgs false
set_option maxRecDepth 100000
set_option maxHeartbeats 16000000
namespace Go.Proofs.YtklcgfkdemifcaaGreatDoor
section
open Go.RowKit Go.Shelf
attribute [local go_sem] Oper.semAt_some
def optI:Option Nat→Int
 | some n=>n
 | none => -1
theorem zMJ (c:Nat) (hc:c<256) (w0:World):Calls Tryz.prog 178 #[.int .u8 c] w0 (Rt (.int .i64 (optI (hexP c))) w0):=by
 go_enter Tryz.func178,Tryz.ntmps178
 go_wp2
 all_goals
  go_ret;refine⟨reti ?_,Below.refl _ _⟩;unfold hexP
  (repeat' split)<;>simp only[optI]<;>omega
theorem zCx (lo hi:Nat) (hlo:lo≤255) (hhi:hi≤255) (w0:World):Calls Tryz.prog 181 #[.int .u8 lo,.int .u8 hi] w0 (Rt (setV (zAV lo (hi+1 - lo))) w0):=by
 have H:=Hold.start w0
 go_enter Tryz.func181,Tryz.ntmps181
 go_wp2_with (first|(first|((with_reducible refine gT ?_);(refine aS H ?_;clear H;intro w H;try simp only[nr]at H))|((with_reducible refine gA ?_);(refine bA H ?_;clear H;intro b w H;try simp only[nr]at H)))|((with_reducible refine ch (zId lo hi hlo hhi _) H ?_);clear H;intro w H))
 (refine xcS Tryz.results181 H ?_)
 exact⟨rfl,H.below⟩
theorem zEr (c:Nat) (hc:c<256) (w0:World):Calls Tryz.prog 136 #[.int .u8 c] w0 (Rt (setV (ofS [(c:Int)])) w0):=by
 have H:=Hold.start w0
 go_enter Tryz.func136,Tryz.ntmps136
 go_wp2_with (first|(first|((with_reducible refine gT ?_);(refine aS H ?_;clear H;intro w H;try simp only[nr]at H))|((with_reducible refine gA ?_);(refine bA H ?_;clear H;intro b w H;try simp only[nr]at H)))|((with_reducible refine gBS ?_);refine zAU wtd_ _ _ _ rfl H (#[.int .u8 c]) 5 (by intro W;simp only[ml];(try simp only[pe]);(try unfold setV);simp[go_sem]<;>rfl) ?_;clear H;intro b w H;try simp only[nr]at H)|((with_reducible refine ch (zKf _ [(c:Int)] (by simp;omega) _ (H.rdn (cs:=[.int .u8 c]) atd_ (by simp) (by simp[maxLen]))) H ?_);clear H;intro w H))
 (refine xcS Tryz.results136 H ?_)
 exact⟨rfl,H.below⟩
theorem zNx (w0:World):Calls Tryz.prog 181 #[.int .u8 0,.int .u8 127] w0 (Rt (setV (zAV 0 128)) w0):=zCx 0 127 (by omega) (by omega) w0
theorem zQQ (w0:World):Calls Tryz.prog 181 #[.int .u8 0,.int .u8 31] w0 (Rt (setV (zAV 0 32)) w0):=zCx 0 31 (by omega) (by omega) w0
theorem zI4 (w0:World):Calls Tryz.prog 181 #[.int .u8 33,.int .u8 126] w0 (Rt (setV zCl) w0):=zCx 33 126 (by omega) (by omega) w0
theorem zIz (w0:World):Calls Tryz.prog 181 #[.int .u8 97,.int .u8 122] w0 (Rt (setV zCU) w0):=zCx 97 122 (by omega) (by omega) w0
theorem zNd (w0:World):Calls Tryz.prog 181 #[.int .u8 32,.int .u8 126] w0 (Rt (setV (zAV 32 95)) w0):=zCx 32 126 (by omega) (by omega) w0
theorem zQD (w0:World):Calls Tryz.prog 181 #[.int .u8 9,.int .u8 13] w0 (Rt (setV (zAV 9 5)) w0):=zCx 9 13 (by omega) (by omega) w0
theorem zKG (w0:World):Calls Tryz.prog 181 #[.int .u8 65,.int .u8 90] w0 (Rt (setV zCV) w0):=zCx 65 90 (by omega) (by omega) w0
theorem zMi (w0:World):Calls Tryz.prog 181 #[.int .u8 97,.int .u8 102] w0 (Rt (setV (zAV 97 6)) w0):=zCx 97 102 (by omega) (by omega) w0
theorem zOY (w0:World):Calls Tryz.prog 181 #[.int .u8 65,.int .u8 70] w0 (Rt (setV (zAV 65 6)) w0):=zCx 65 70 (by omega) (by omega) w0
theorem zNu (w0:World):Calls Tryz.prog 181 #[.int .u8 48,.int .u8 57] w0 (Rt (setV zA3) w0):=zCx 48 57 (by omega) (by omega) w0
theorem zQk (w0:World):Calls Tryz.prog 136 #[.int .u8 127] w0 (Rt (setV (ofS [127])) w0):=zEr 127 (by omega) w0
theorem zRN (w0:World):Calls Tryz.prog 136 #[.int .u8 32] w0 (Rt (setV (ofS [32])) w0):=zEr 32 (by omega) w0
theorem zQY (w0:World):Calls Tryz.prog 136 #[.int .u8 95] w0 (Rt (setV (ofS [95])) w0):=zEr 95 (by omega) w0
theorem zCt (v:Value) (L:List (Nat→Nat)) (hL:∀ t ∈ L,zAf t) (w0:World) (h:RdS w0 w0.heap.size v L):Calls Tryz.prog 164 #[v] w0 (Rt (setV (zAs L)) w0):=by
 have H:=Hold.start w0
 go_enter Tryz.func164,Tryz.ntmps164
 go_wp2_with (first|(first|((with_reducible refine gT ?_);(refine aS H ?_;clear H;intro w H;try simp only[nr]at H))|((with_reducible refine gA ?_);(refine bA H ?_;clear H;intro b w H;try simp only[nr]at H)))|((with_reducible refine ch (zMX _ L hL _ ((h.below H.below).up H.below.size)) H ?_);clear H;intro w H))
 (refine xcS Tryz.results164 H ?_)
 exact⟨rfl,H.below⟩
theorem zHh (w0:World):Calls Tryz.prog 177 #[] w0 (Rt (setV zA3) w0):=by
 have H:=Hold.start w0
 go_enter Tryz.func177,Tryz.ntmps177
 go_wp2_with (first|(first|((with_reducible refine gT ?_);(refine aS H ?_;clear H;intro w H;try simp only[nr]at H))|((with_reducible refine gA ?_);(refine bA H ?_;clear H;intro b w H;try simp only[nr]at H)))|((with_reducible refine ch (zNu _) H ?_);clear H;intro w H))
 (refine xcS Tryz.results177 H ?_)
 exact⟨rfl,H.below⟩
def zCp:Nat→Nat:=zAs [zCU,zCV]
theorem zJk:zAf zCp:=zBX (ok2 zDd zDh)
theorem zJz (w0:World):Calls Tryz.prog 192 #[] w0 (Rt (setV zCp) w0):=by
 have H:=Hold.start w0
 go_enter Tryz.func192,Tryz.ntmps192
 go_wp2_with (first|(first|((with_reducible refine gT ?_);(refine aS H ?_;clear H;intro w H;try simp only[nr]at H))|((with_reducible refine gA ?_);(refine bA H ?_;clear H;intro b w H;try simp only[nr]at H)))|((with_reducible refine gBS ?_);refine zAU wtd_ _ _ _ rfl H (rowC [zCU,zCV]).toArray 27 (by intro W;simp only[ml];(try simp only[pe]);(with_reducible exact zCZ (zCU) (zCV) W)) ?_;clear H;intro b w H;try simp only[nr]at H)|((with_reducible first|refine ch (zCt _ [zCU,zCV] (ok2 zDd zDh) _ (H.rdsn (L:=[zCU,zCV]) atd_ (by simp) (by simp[maxLen]))) H ?_|refine ch (zIz _) H ?_|refine ch (zKG _) H ?_);clear H;intro w H))
 (refine xcS Tryz.results192 H ?_)
 exact⟨rfl,H.below⟩
theorem zO4 {s t:Nat→Nat} (h0:s 0=t 0) (h1:s 1=t 1) (h2:s 2=t 2) (h3:s 3=t 3):setV s=setV t:=by unfold setV;rw[h0,h1,h2,h3]
theorem zOV:setV (zAs [zA3,zCp])=setV zAx:=zO4 (by decide +kernel) (by decide +kernel) (by decide +kernel) (by decide +kernel)
theorem zDo (L t:Str) (i:Nat) (hL:L.length≤2000) (ht:t≠[]) (htl:t.length≤2000) (hi:i≤4000) (w0:World) :
  Calls Tryz.prog 132 #[.string ⟨L.toArray⟩,.int .i64 i,.string ⟨t.toArray⟩] w0 (Rt (.bool (atP L i t)) w0):=by
 have H:=Hold.start w0;have HT:=Lib.hid ht;clear ht
 by_cases h:i+t.length≤L.length
 ·have hd:decide ((i:Int)+(t.length:Int)≤(L.length:Int))=true:=by simp;omega
  have hw:IntKind.i64.wrap ((i:Int)+(t.length:Int))=(i:Int)+(t.length:Int):=by rw[IntKind.wrap_i64];omega
  go_enter Tryz.func132,Tryz.ntmps132
  go_wp2_with (first|(first|((with_reducible refine gC ?_);refine aC ?_)|((with_reducible refine gE ?_);refine aE ?_)))
  go_ret;exact⟨retb (zPY h),Below.refl _ _⟩
 ·have hd:decide ((i:Int)+(t.length:Int)≤(L.length:Int))=false:=by simp;omega
  have hw:IntKind.i64.wrap ((i:Int)+(t.length:Int))=(i:Int)+(t.length:Int):=by rw[IntKind.wrap_i64];omega
  go_enter Tryz.func132,Tryz.ntmps132
  go_wp2_with (first|fail)
  go_ret;exact⟨retb (zMb (by omega) HT.out).symm,Below.refl _ _⟩
theorem zOE (L t:Str) (i:Nat) (hL:L.length≤2000) (ht:t≠[]) (htl:t.length≤2000) (hi:i≤L.length) (w0:World) :
  Calls Tryz.prog 179 #[.string ⟨L.toArray⟩,.int .i64 i,.string ⟨t.toArray⟩] w0 (Rt (.int .i64 (optI (fnd L i t))) w0):=by
 have H:=Hold.start w0;have HT:=Lib.hid ht;clear ht;have htp:0<t.length:=List.length_pos_iff.2 HT.out
 go_enter Tryz.func179,Tryz.ntmps179
 go_wp2_with (first|fail)
 go_loopw [7] (fun k wr=>∃ n:Nat,n≤L.length∧k=.int .i64 n∧Hid (fnd L i t=fnd L n t)∧Hold w0 wr []) (fun k _=>L.length+1 - (intOf k).toNat)
 case atStart=>exact⟨i,hi,rfl,Lib.hid rfl,H⟩
 case round =>
  clear H;obtain⟨n,hn,rfl,HF,H⟩:=hrel;have hw:IntKind.i64.wrap ((n:Int)+(t.length:Int))=(n:Int)+(t.length:Int):=by rw[IntKind.wrap_i64];omega
  by_cases h:n+t.length≤L.length
  ·have hd:decide ((n:Int)+(t.length:Int)≤(L.length:Int))=true:=by simp;omega
   cases ha:atP L n t with
   | true =>
    have hc:=fun w=>zDo L t n hL HT.out htl (by omega) w
    rw[ha]at hc;have HA:=Lib.hid ha;clear ha
    go_wp2_with (first|fail|((with_reducible refine ch (hc _) H ?_);clear H;intro w H))
    go_ret;exact⟨reti (by rw[HF.out,zPi HA.out];rfl),H.below⟩
   | false =>
    have hc:=fun w=>zDo L t n hL HT.out htl (by omega) w
    rw[ha]at hc;have HA:=Lib.hid ha;clear ha
    go_wp2_with (first|fail|((with_reducible refine ch (hc _) H ?_);clear H;intro w H))
    go_roundw
    case rel=>exact⟨n+1,by omega,by go_num,Lib.hid (by rw[HF.out,zOZ HA.out (by omega)]),H⟩
    case measure=>simp[intOf];omega
  ·have hd:decide ((n:Int)+(t.length:Int)≤(L.length:Int))=false:=by simp;omega
   go_wp2_with (first|fail)
   go_ret;exact⟨reti (by rw[HF.out,zP3 (by omega) HT.out];rfl),H.below⟩
def setO (o:Option (Nat→Nat)):Value:=.tuple #[setV (o.getD zAC),.bool o.isSome]
theorem zCy {o:Option (Nat→Nat)} {s:Nat→Nat} (h:o=some s):Value.tuple #[setV s,.bool true]=setO o:=by rw[h];rfl
theorem zFb {o:Option (Nat→Nat)} (h:o=none):Value.tuple #[setV zAC,.bool false]=setO o:=by rw[h];rfl
theorem zMe (s:Nat→Nat):zAf zAC∧∀ c,c<256→hasB zAC c=(decide (c<0)&&!hasB s c):=⟨zBM,fun c _=>by simp[zEl]⟩
theorem zEF (s:Nat→Nat) (hs:zAf s) (w0:World):Calls Tryz.prog 138 #[setV s] w0 (Rt (setV (notS s)) w0):=by
 have H:=Hold.start w0
 go_enter Tryz.func138,Tryz.ntmps138
 go_wp2_with (first|((first|((with_reducible refine kgA 1 ?_);refine kA 1 H ?_)|((with_reducible refine kgX 1 ?_);(first|refine kS 1 H ?_|refine kB 1 H ?_)));clear H;intro b1 w H;try simp only[nr]at H)|((first|((with_reducible refine kgA 2 ?_);refine kA 2 H ?_)|((with_reducible refine kgX 2 ?_);(first|refine kS 2 H ?_|refine kB 2 H ?_)));clear H;intro b2 w H;try simp only[nr]at H)|((first|((with_reducible refine kgA 3 ?_);refine kA 3 H ?_)|((with_reducible refine kgX 3 ?_);(first|refine kS 3 H ?_|refine kB 3 H ?_)));clear H;intro b3 w H;try simp only[nr]at H)|fail)
 go_loopw [4] (fun i wr=>∃ (k:Nat) (S:Nat→Nat),k≤256∧i=.int .i64 k∧Hid (zAf S∧∀ c,c<256→hasB S c=(decide (c<k)&&!hasB s c))∧Hold w0 wr [.blk b1 (setC s) 27,.blk b2 (setC zAC) 27,.blk b3 (setC S) 27]) (fun i _=>256 - (intOf i).toNat)
 case atStart=>exact⟨0,zAC,by omega,rfl,Lib.hid (zMe s),H⟩
 case round =>
  clear H;obtain⟨k,S,hk,rfl,G,H⟩:=hrel
  by_cases hlt:k<256
  ·cases hb:hasB s k with
   | true =>
    have hc:=fun w=>zEo s hs k hlt w
    rw[hb]at hc;have HB:=Lib.hid hb;clear hb
    go_wp2_with (first|((with_reducible refine gL ?_);refine aL H ?_)|((with_reducible refine ch (hc _) H ?_);clear H;intro w H))
    go_roundw
    case rel=>exact⟨k+1,S,by omega,by go_num,Lib.hid ⟨G.out.1,fun c hc=>by
     rw[G.out.2 c hc]
     by_cases e:c=k
     ·subst e;simp[HB.out]
     ·simp[show c<k+1↔c<k from by omega]⟩,H⟩
    case measure=>simp[intOf];omega
   | false =>
    have hc:=fun w=>zEo s hs k hlt w
    rw[hb]at hc;have HB:=Lib.hid hb;clear hb
    go_wp2_with (first|(first|((with_reducible refine gT ?_);(refine aS H ?_;clear H;intro w H;try simp only[nr]at H))|((with_reducible refine gL ?_);refine aL H ?_))|((with_reducible first|refine ch (hc _) H ?_|refine ch (zEN S G.out.1 k hlt _) H ?_);clear H;intro w H))
    go_roundw
    case rel=>exact⟨k+1,addS S k,by omega,by go_num,Lib.hid ⟨zEd G.out.1 k,fun c hc=>by
     rw[zFH,G.out.2 c hc]
     by_cases e:c=k
     ·subst e;simp[HB.out]
     ·simp[e,show c<k+1↔c<k from by omega]⟩,H⟩
    case measure=>simp[intOf];omega
  ·obtain rfl:k=256:=by omega
   go_wp2_with (first|(first|((with_reducible refine gT ?_);(refine aS H ?_;clear H;intro w H;try simp only[nr]at H))|((with_reducible refine gL ?_);refine aL H ?_)))
   (refine xcS Tryz.results138 H ?_)
   exact⟨congrArg Ending.returned (zFP G.out.1 (zES s) fun c hc=>by rw[G.out.2 c hc,zPT hs hc];simp[hc]),H.below⟩
theorem zO5 (v:Value) (w0:World) (h:RdS w0 w0.heap.size v [zA3,zCp]):Calls Tryz.prog 164 #[v] w0 (Rt (setV zAx) w0) :=
 zOV ▸ zCt v [zA3,zCp] (ok2 zCJ zJk) w0 h
theorem zEk (L:Str) (w0:World):Calls Tryz.prog 176 #[.string ⟨L.toArray⟩] w0 (Rt (setO (zCw L)) w0):=by
 have H:=Hold.start w0
 go_enter Tryz.func176,Tryz.ntmps176
 go_wp2_with (first|((first|((with_reducible refine kgA 4 ?_);refine kA 4 H ?_)|((with_reducible refine kgX 4 ?_);(first|refine kS 4 H ?_|refine kB 4 H ?_)));clear H;intro b4 w H;try simp only[nr]at H)|(first|((with_reducible refine gT ?_);(refine aS H ?_;clear H;intro w H;try simp only[nr]at H))|((with_reducible refine gL ?_);refine aL H ?_)|((with_reducible refine gA ?_);(refine bA H ?_;clear H;intro b w H;try simp only[nr]at H))|((with_reducible refine gZ ?_);refine aZ ?_)|((with_reducible refine gE ?_);refine aE ?_))|((with_reducible refine gBS ?_);refine zAU wtd_ _ _ _ rfl H (rowC [zA3,zCp]).toArray 27 (by intro W;simp only[ml];(try simp only[pe]);(with_reducible exact zCZ (zA3) (zCp) W)) ?_;clear H;intro b w H;try simp only[nr]at H)|((with_reducible refine gBS ?_);refine zAU wtd_ _ _ _ rfl H (rowC [zAV 0 32,ofS [127]]).toArray 27 (by intro W;simp only[ml];(try simp only[pe]);(with_reducible exact zCZ (zAV 0 32) (ofS [127]) W)) ?_;clear H;intro b w H;try simp only[nr]at H)|((with_reducible refine gBS ?_);refine zAU wtd_ _ _ _ rfl H (rowC [zAV 9 5,ofS [32]]).toArray 27 (by intro W;simp only[ml];(try simp only[pe]);(with_reducible exact zCZ (zAV 9 5) (ofS [32]) W)) ?_;clear H;intro b w H;try simp only[nr]at H)|((with_reducible refine gBS ?_);refine zAU wtd_ _ _ _ rfl H (rowC [zAx,ofS [95]]).toArray 27 (by intro W;simp only[ml];(try simp only[pe]);(with_reducible exact zCZ (zAx) (ofS [95]) W)) ?_;clear H;intro b w H;try simp only[nr]at H)|((with_reducible refine gBS ?_);refine zAU wtd_ _ _ _ rfl H (rowC [zA3,zAV 97 6,zAV 65 6]).toArray 27 (by intro W;simp only[ml];(try simp only[pe]);(with_reducible exact zI9 (zA3) (zAV 97 6) (zAV 65 6) W)) ?_;clear H;intro b w H;try simp only[nr]at H)|((with_reducible refine gBS ?_);refine zAU wtd_ _ _ _ rfl H (rowC [zCl,notS zAx]).toArray 27 (by intro W;simp only[ml];(try simp only[pe]);(with_reducible exact zCZ (zCl) (notS zAx) W)) ?_;clear H;intro b w H;try simp only[nr]at H)|((with_reducible refine gBS ?_);refine zAU wtd_ _ _ _ rfl H (#[.int .u8 9,.int .u8 32]) 5 (by intro W;simp only[ml];(try simp only[pe]);(try unfold setV);simp[go_sem]<;>rfl) ?_;clear H;intro b w H;try simp only[nr]at H)|((with_reducible first|refine ch (zKf _ [9,32] (by simp) _ (H.rdn (cs:=[.int .u8 9,.int .u8 32]) atd_ (by simp) (by simp[maxLen]))) H ?_|refine ch (zHh _) H ?_|refine ch (zJz _) H ?_|refine ch (zO5 _ _ (H.rdsn (L:=[zA3,zCp]) atd_ (by simp) (by simp[maxLen]))) H ?_|refine ch (zCt _ [zAV 0 32,ofS [127]] (ok2 (zBf _ _) (zBb _)) _ (H.rdsn (L:=[zAV 0 32,ofS [127]]) atd_ (by simp) (by simp[maxLen]))) H ?_|refine ch (zCt _ [zAV 9 5,ofS [32]] (ok2 (zBf _ _) (zBb _)) _ (H.rdsn (L:=[zAV 9 5,ofS [32]]) atd_ (by simp) (by simp[maxLen]))) H ?_|refine ch (zCt _ [zAx,ofS [95]] (ok2 zCa (zBb _)) _ (H.rdsn (L:=[zAx,ofS [95]]) atd_ (by simp) (by simp[maxLen]))) H ?_|refine ch (zCt _ [zA3,zAV 97 6,zAV 65 6] (ok3 zCJ (zBf _ _) (zBf _ _)) _ (H.rdsn (L:=[zA3,zAV 97 6,zAV 65 6]) atd_ (by simp) (by simp[maxLen]))) H ?_|refine ch (zEF zAx zCa _) H ?_|refine ch (zKc _ [zCl,notS zAx] (ok2 zEj (zES _)) _ (H.rdsn (L:=[zCl,notS zAx]) atd_ (by simp) (by simp[maxLen]))) H ?_|refine ch (zNx _) H ?_|refine ch (zQQ _) H ?_|refine ch (zI4 _) H ?_|refine ch (zIz _) H ?_|refine ch (zNd _) H ?_|refine ch (zQD _) H ?_|refine ch (zKG _) H ?_|refine ch (zMi _) H ?_|refine ch (zOY _) H ?_|refine ch (zQk _) H ?_|refine ch (zRN _) H ?_|refine ch (zQY _) H ?_);clear H;intro w H))
 any_goals
  (refine xctS Tryz.results176 H ?_)
  (first|exact⟨congrArg _ (zFb (by simp[zCw,namesL,List.find?_cons, *])),H.below⟩|exact⟨congrArg _ (zCy (by simp[zCw,namesL,List.find?_cons,zCp, *])),H.below⟩)
 ·skip
  refine zBd 5 [fun v _=>v=setV zCl,fun v _=>v=setV zAx,fun v _=>v=setV (notS zAx),fun v w=>RdS w w.heap.size v [zCl,notS zAx],fun v _=>v=setV (zGR [zCl,notS zAx])] (fun _=>false) (by kernel_rfl) (by kernel_rfl) (by kernel_rfl) (by repeat (first|exact trivial|refine⟨zBN _,?_⟩|refine⟨zHf _,?_⟩)) (fun _ _ h=>by cases h) ?ob ?en
  case ob =>
   refine⟨?_,?_,?_,?_,?_,trivial⟩<;>intro A W h
   ·exact zBB rfl rfl (enters_of Tryz.func181 (by kernel_rfl) rfl) (zE9 ⟨rfl,rfl⟩) (zI4 W)
   ·exact zDX (s:=zAx) rfl rfl (h.f 4) ((H.call h.below).blk atd_).2 (by decide)
   ·exact zBB rfl rfl (enters_of Tryz.func138 (by kernel_rfl) rfl) (zBt (h.d 1 44)) (zEF zAx zCa W)
   ·exact zDY rfl rfl (h.d 0 43) (h.d 2 45) (by decide)
   ·exact zBB rfl rfl (enters_of Tryz.func193 (by kernel_rfl) rfl) (zBt rfl) (zKc _ [zCl,notS zAx] (ok2 zEj (zES _)) W (h.d 3 46))
  case en =>
   intro vals W hbw hv _;have x3:=hv 3 (by omega);simp only[zAu]at x3
   simp only[fa,Nat.reduceAdd];rw[e_ hv 0,e_ hv 1,e_ hv 2,e_ hv 4];clear hv
   try simp only[pl]
   replace H:=H.call hbw;clear hbw
   go_wp2_with (first|((with_reducible refine gT ?_);(refine aS H ?_;clear H;intro w H;try simp only[nr]at H)))
   (refine xctS Tryz.results176 H ?_)
   (first|exact⟨congrArg _ (zFb (by simp[zCw,namesL,List.find?_cons, *])),H.below⟩|exact⟨congrArg _ (zCy (by simp[zCw,namesL,List.find?_cons,zCp, *])),H.below⟩)
 ·skip
  refine zBd 4 [fun v _=>v=setV zAx,fun v _=>v=setV (ofS [95]),fun v w=>RdS w w.heap.size v [zAx,ofS [95]],fun v _=>v=setV zDQ] (fun _=>false) (by kernel_rfl) (by kernel_rfl) (by kernel_rfl) (by repeat (first|exact trivial|refine⟨zBN _,?_⟩|refine⟨zHf _,?_⟩)) (fun _ _ h=>by cases h) ?ob ?en
  case ob =>
   refine⟨?_,?_,?_,?_,trivial⟩<;>intro A W h
   ·exact zDX (s:=zAx) rfl rfl (h.f 4) ((H.call h.below).blk atd_).2 (by decide)
   ·exact zBB rfl rfl (enters_of Tryz.func136 (by kernel_rfl) rfl) (zBt rfl) (zQY W)
   ·exact zDY rfl rfl (h.d 0 59) (h.d 1 60) (by decide)
   ·exact zBB rfl rfl (enters_of Tryz.func164 (by kernel_rfl) rfl) (zBt rfl) ((zCt _ [zAx,ofS [95]] (ok2 zCa (zBb _)) W (h.d 2 61)))
  case en =>
   intro vals W hbw hv _;have x2:=hv 2 (by omega);simp only[zAu]at x2
   simp only[fa,Nat.reduceAdd];rw[e_ hv 0,e_ hv 1,e_ hv 3];clear hv
   try simp only[pl]
   replace H:=H.call hbw;clear hbw
   go_wp2_with (first|((with_reducible refine gT ?_);(refine aS H ?_;clear H;intro w H;try simp only[nr]at H)))
   (refine xctS Tryz.results176 H ?_)
   (first|exact⟨congrArg _ (zFb (by simp[zCw,namesL,List.find?_cons, *])),H.below⟩|exact⟨congrArg _ (zCy (by simp[zCw,namesL,List.find?_cons,zCp, *])),H.below⟩)
theorem zNj (s:Nat→Nat) (hs:zAf s) (w0:World):Calls Tryz.prog 137 #[setV s] w0 (Rt (setV (zDK s)) w0):=by
 have H:=Hold.start w0
 go_enter Tryz.func137,Tryz.ntmps137
 go_wp2_with (first|((first|((with_reducible refine kgA 1 ?_);refine kA 1 H ?_)|((with_reducible refine kgX 1 ?_);(first|refine kS 1 H ?_|refine kB 1 H ?_)));clear H;intro b1 w H;try simp only[nr]at H)|((first|((with_reducible refine kgA 2 ?_);refine kA 2 H ?_)|((with_reducible refine kgX 2 ?_);(first|refine kS 2 H ?_|refine kB 2 H ?_)));clear H;intro b2 w H;try simp only[nr]at H)|((first|((with_reducible refine kgA 3 ?_);refine kA 3 H ?_)|((with_reducible refine kgX 3 ?_);(first|refine kS 3 H ?_|refine kB 3 H ?_)));clear H;intro b3 w H;try simp only[nr]at H)|(first|((with_reducible refine gT ?_);(refine aS H ?_;clear H;intro w H;try simp only[nr]at H))|((with_reducible refine gL ?_);refine aL H ?_)))
 go_loopw [4] (fun i wr=>∃ (k:Nat),k≤26∧i=.int .u8 (97+(k:Int))∧Hold w0 wr [.blk b1 (setC s) 27,.blk b2 (setC zAC) 27,.blk b3 (setC (zCk s k)) 27]) (fun i _=>26+97 - (intOf i).toNat)
 case atStart=>exact⟨0,by omega,rfl,H⟩
 case round =>
  clear H;obtain⟨k,hk,rfl,H⟩:=hrel
  by_cases hlt:k<26
  ·have hd:decide (97+(k:Int)≤122)=true:=by simp;omega
   have hc:=fun w=>zEo s hs (97+k) (by omega) w
   have hc2:=fun w=>zEo s hs (65+k) (by omega) w
   have h32:IntKind.u8.wrap (97+(k:Int) - 32)=65+(k:Int):=by rw[IntKind.wrap_u8];omega
   have hw1:=fun w=>zEN (zCk s k) (zDc hs k) (97+k) (by omega) w
   have hw2:=fun w=>zEN (addS (zCk s k) (97+k)) (zEd (zDc hs k) _) (65+k) (by omega) w
   simp only[Int.natCast_add,Int.cast_ofNat_Int]at hc hc2 hw1 hw2;have ha1:IntKind.u8.wrap (97+(k:Int)+1)=97+((k+1:Nat):Int):=by rw[IntKind.wrap_u8];omega
   cases ha:hasB s (97+k) with
   | true =>
    have E:=Lib.hid (show zCk s (k+1)=addS (addS (zCk s k) (97+k)) (65+k) by simp[zCk,ha])
    rw[ha]at hc;clear ha
    go_wp2_with (first|(first|((with_reducible refine gT ?_);(refine aS H ?_;clear H;intro w H;try simp only[nr]at H))|((with_reducible refine gL ?_);refine aL H ?_))|((with_reducible first|refine ch (hc _) H ?_|refine ch (hw1 _) H ?_|refine ch (hw2 _) H ?_);clear H;intro w H))
    go_roundw
    case rel=>exact⟨k+1,by omega,rfl,by rw[E.out];exact H⟩
    case measure=>simp[intOf];omega
   | false =>
    cases hb:hasB s (65+k) with
    | true =>
     have E:=Lib.hid (show zCk s (k+1)=addS (addS (zCk s k) (97+k)) (65+k) by simp[zCk,hb])
     rw[ha]at hc;rw[hb]at hc2;clear ha hb
     go_wp2_with (first|(first|((with_reducible refine gT ?_);(refine aS H ?_;clear H;intro w H;try simp only[nr]at H))|((with_reducible refine gL ?_);refine aL H ?_))|((with_reducible first|refine ch (hc _) H ?_|refine ch (hc2 _) H ?_|refine ch (hw1 _) H ?_|refine ch (hw2 _) H ?_);clear H;intro w H))
     go_roundw
     case rel=>exact⟨k+1,by omega,rfl,by rw[E.out];exact H⟩
     case measure=>simp[intOf];omega
    | false =>
     have E:=Lib.hid (show zCk s (k+1)=zCk s k by simp[zCk,ha,hb])
     rw[ha]at hc;rw[hb]at hc2;clear ha hb
     go_wp2_with (first|((with_reducible refine gL ?_);refine aL H ?_)|((with_reducible first|refine ch (hc _) H ?_|refine ch (hc2 _) H ?_);clear H;intro w H))
     go_roundw
     case rel=>exact⟨k+1,by omega,rfl,by rw[E.out];exact H⟩
     case measure=>simp[intOf];omega
  ·obtain rfl:k=26:=by omega
   go_wp2_with (first|(first|((with_reducible refine gT ?_);(refine aS H ?_;clear H;intro w H;try simp only[nr]at H))|((with_reducible refine gL ?_);refine aL H ?_)))
   (refine xcS Tryz.results137 H ?_)
   exact⟨rfl,H.below⟩
theorem or3 (f n:Bool):(f=true)∨(f=false∧n=true)∨(f=false∧n=false):=by cases f<;>cases n<;>simp
theorem zHT (f:zAP) (d:WordD) (w0:World):Calls Tryz.prog 83 #[zBq f,zAd d] w0 (Rt (zBq (zEc f d)) w0):=by
 have H:=Hold.start w0
 rcases or3 f.1 d.on.1 with h1|⟨h1,k1⟩|⟨h1,k1⟩<;>rcases or3 f.2.1 d.on.2.1 with h2|⟨h2,k2⟩|⟨h2,k2⟩<;>rcases or3 f.2.2 d.on.2.2 with h3|⟨h3,k3⟩|⟨h3,k3⟩<;>(
  go_enter Tryz.func83,Tryz.ntmps83
  go_wp2_with (first|(first|((with_reducible refine gT ?_);(refine aT H ?_;clear H;intro w H;try simp only[nr]at H))|((with_reducible refine gL ?_);(first|refine aGb H ?_|refine aG H ?_))|((with_reducible refine gX ?_);(refine bB H ?_;clear H;intro b w H;try simp only[nr]at H))|((with_reducible refine gA ?_);(refine bA H ?_;clear H;intro b w H;try simp only[nr]at H))|((with_reducible refine gZ ?_);refine fb3 ?_)))
  (refine xc Tryz.results83 H ?_)
  exact⟨congrArg (fun x=>Ending.returned (zBq x)) (by simp[zEc, *]),H.below⟩)
theorem zGi (d:WordD) (w0:World):Calls Tryz.prog 82 #[zAd d] w0 (Rt (.bool (zA1 d)) w0):=by
 have H:=Hold.start w0
 by_cases h6:d.kind=6
 ·have d6:((d.kind:Int) == 6)=true:=by rw[beq_iff_eq];omega
  have E:=Lib.hid (show zA1 d=true by simp[zA1,h6]);clear h6
  go_enter Tryz.func82,Tryz.ntmps82
  go_wp2_with (first|(first|((with_reducible refine gL ?_);refine aG H ?_)|((with_reducible refine gX ?_);(refine bB H ?_;clear H;intro b w H;try simp only[nr]at H))))
  go_ret;exact⟨retb E.out.symm,H.below⟩
 ·have d6:((d.kind:Int) == 6)=false:=by rw[beq_eq_false_iff_ne];omega
  have E:=Lib.hid (show zA1 d=((d.kind:Int) == 7) by
   simp only[zA1,show (d.kind == 6)=false from by simpa using h6,Bool.false_or]
   rw[Bool.eq_iff_iff,beq_iff_eq,beq_iff_eq];omega);clear h6
  go_enter Tryz.func82,Tryz.ntmps82
  go_wp2_with (first|(first|((with_reducible refine gL ?_);refine aG H ?_)|((with_reducible refine gX ?_);(refine bB H ?_;clear H;intro b w H;try simp only[nr]at H))))
  go_ret;exact⟨retb E.out.symm,H.below⟩
theorem zMR (s:Nat→Nat) (w0:World):Calls Tryz.prog 139 #[setV s] w0 (Rt (zAl (setT s).d nilS) w0):=by
 have H:=Hold.start w0
 cases hq:eqS s zAC with
 | true =>
  have E:=Lib.hid (show (setT s).d={kind:=2} by simp[setT,hq,zDv,Tree.d])
  go_enter Tryz.func139,Tryz.ntmps139
  go_wp2_with (first|(first|((with_reducible refine gT ?_);(refine aT H ?_;clear H;intro w H;try simp only[nr]at H))|((with_reducible refine gL ?_);refine aL H ?_)|((with_reducible refine gX ?_);(refine bS H ?_;clear H;intro b w H;try simp only[nr]at H))|((with_reducible refine gA ?_);(refine bA H ?_;clear H;intro b w H;try simp only[nr]at H))|((with_reducible refine gZ ?_);refine nb1 ?_)|((with_reducible refine gES ?_);refine qS ?_)|((with_reducible refine gZ ?_);refine aZ ?_)))
  (refine xc Tryz.results139 H ?_)
  exact⟨by rw[E.out],H.below⟩
 | false =>
  have E:=Lib.hid (show (setT s).d={kind:=3,set:=s} by simp[setT,hq,Tree.d])
  go_enter Tryz.func139,Tryz.ntmps139
  go_wp2_with (first|(first|((with_reducible refine gT ?_);(refine aT H ?_;clear H;intro w H;try simp only[nr]at H))|((with_reducible refine gL ?_);refine aL H ?_)|((with_reducible refine gX ?_);(refine bS H ?_;clear H;intro b w H;try simp only[nr]at H))|((with_reducible refine gA ?_);(refine bA H ?_;clear H;intro b w H;try simp only[nr]at H))|((with_reducible refine gZ ?_);refine nbS ?_)|((with_reducible refine gES ?_);refine qS ?_)|((with_reducible refine gZ ?_);refine aZ ?_)))
  (refine xc Tryz.results139 H ?_)
  exact⟨by rw[E.out],H.below⟩
theorem zHY (f:zAP) (p q:Int) (w0:World):Calls Tryz.prog 142 #[zBq f,.int .i64 p,.int .i64 q] w0 (Rt (zAl (zGU f p q).d nilS) w0):=by
 have H:=Hold.start w0;obtain⟨f1,f2,f3⟩:=f
 cases f2 with
 | true =>
  go_enter Tryz.func142,Tryz.ntmps142
  go_wp2_with (first|(first|((with_reducible refine gT ?_);(refine aT H ?_;clear H;intro w H;try simp only[nr]at H))|((with_reducible refine gL ?_);refine aG H ?_)|((with_reducible refine gX ?_);(refine bB H ?_;clear H;intro b w H;try simp only[nr]at H))|((with_reducible refine gA ?_);(refine bA H ?_;clear H;intro b w H;try simp only[nr]at H))|((with_reducible refine gZ ?_);refine nb1 ?_)))
  (refine xc Tryz.results142 H ?_)
  exact⟨rfl,H.below⟩
 | false =>
  go_enter Tryz.func142,Tryz.ntmps142
  go_wp2_with (first|(first|((with_reducible refine gT ?_);(refine aT H ?_;clear H;intro w H;try simp only[nr]at H))|((with_reducible refine gL ?_);refine aG H ?_)|((with_reducible refine gX ?_);(refine bB H ?_;clear H;intro b w H;try simp only[nr]at H))|((with_reducible refine gA ?_);(refine bA H ?_;clear H;intro b w H;try simp only[nr]at H))|((with_reducible refine gZ ?_);refine nb1 ?_)))
  (refine xc Tryz.results142 H ?_)
  exact⟨rfl,H.below⟩
theorem zP0 (w0:World):Calls Tryz.prog 140 #[.int .u8 0,.int .u8 255] w0 (Rt (setV (zAV 0 256)) w0):=zId 0 255 (by omega) (by omega) w0
theorem zRE (v:Value) (w0:World) (h:Rd w0 w0.heap.size v [.int .u8 10]):Calls Tryz.prog 141 #[v] w0 (Rt (setV (ofS [10])) w0):=zKf v [10] (by simp) w0 h
theorem zOS {s:Nat→Nat} (hs:zAf s):zAf (zDK s):=zDc hs 26
theorem zOd (f:zAP) (d:WordD) (hs:zAf d.set) (w0:World):Calls Tryz.prog 86 #[zAd d,zBq f] w0 (Rt (zAl (zCb d f).d nilS) w0):=by
 have H:=Hold.start w0;have E:zCb d f=zCb d f:=rfl
 conv at E=>rhs;unfold zCb
 by_cases h1:d.kind=1
 ·have d1:((d.kind:Int) == 1)=true:=by rw[beq_iff_eq];omega
  rw[if_pos h1]at E;clear h1;have hof:=fun s w=>zMR s w
  cases hf:f.1 with
  | true =>
   rw[hf]at E;simp only[if_true]at E;have hfo:=fun w=>zNj d.set hs w
   have hno:=fun w=>zEF (zDK d.set) (zOS hs) w
   cases hg:d.neg with
   | true =>
    rw[hg]at E;simp only[if_true]at E;have E2:=Lib.hid E;clear E
    go_enter Tryz.func86,Tryz.ntmps86
    go_wp2_with (first|(first|((with_reducible refine gT ?_);((first|refine aS H ?_|refine aT H ?_);clear H;intro w H;try simp only[nr]at H))|((with_reducible refine gL ?_);(first|refine aV H ?_|refine aL H ?_|refine aGb H ?_|refine aG H ?_))|((with_reducible refine gX ?_);(refine bB H ?_;clear H;intro b w H;try simp only[nr]at H))|((with_reducible refine gA ?_);(refine bA H ?_;clear H;intro b w H;try simp only[nr]at H)))|((with_reducible first|refine ch (hfo _) H ?_|refine ch (hno _) H ?_|refine ch (hof _ _) H ?_);clear H;intro w H))
    (refine xc Tryz.results86 H ?_)
    exact⟨by rw[E2.out],H.below⟩
   | false =>
    rw[hg]at E;simp only[Bool.false_eq_true,if_false]at E;have E2:=Lib.hid E;clear E
    go_enter Tryz.func86,Tryz.ntmps86
    go_wp2_with (first|(first|((with_reducible refine gT ?_);((first|refine aS H ?_|refine aT H ?_);clear H;intro w H;try simp only[nr]at H))|((with_reducible refine gL ?_);(first|refine aV H ?_|refine aL H ?_|refine aGb H ?_|refine aG H ?_))|((with_reducible refine gX ?_);(refine bB H ?_;clear H;intro b w H;try simp only[nr]at H))|((with_reducible refine gA ?_);(refine bA H ?_;clear H;intro b w H;try simp only[nr]at H)))|((with_reducible first|refine ch (hfo _) H ?_|refine ch (hof _ _) H ?_);clear H;intro w H))
    (refine xc Tryz.results86 H ?_)
    exact⟨by rw[E2.out],H.below⟩
  | false =>
   rw[hf]at E;simp only[Bool.false_eq_true,if_false]at E;have hno:=fun w=>zEF d.set hs w
   cases hg:d.neg with
   | true =>
    rw[hg]at E;simp only[if_true]at E;have E2:=Lib.hid E;clear E
    go_enter Tryz.func86,Tryz.ntmps86
    go_wp2_with (first|(first|((with_reducible refine gT ?_);((first|refine aS H ?_|refine aT H ?_);clear H;intro w H;try simp only[nr]at H))|((with_reducible refine gL ?_);(first|refine aV H ?_|refine aL H ?_|refine aGb H ?_|refine aG H ?_))|((with_reducible refine gX ?_);(refine bB H ?_;clear H;intro b w H;try simp only[nr]at H))|((with_reducible refine gA ?_);(refine bA H ?_;clear H;intro b w H;try simp only[nr]at H)))|((with_reducible first|refine ch (hno _) H ?_|refine ch (hof _ _) H ?_);clear H;intro w H))
    (refine xc Tryz.results86 H ?_)
    exact⟨by rw[E2.out],H.below⟩
   | false =>
    rw[hg]at E;simp only[Bool.false_eq_true,if_false]at E;have E2:=Lib.hid E;clear E
    go_enter Tryz.func86,Tryz.ntmps86
    go_wp2_with (first|(first|((with_reducible refine gT ?_);((first|refine aS H ?_|refine aT H ?_);clear H;intro w H;try simp only[nr]at H))|((with_reducible refine gL ?_);(first|refine aV H ?_|refine aL H ?_|refine aGb H ?_|refine aG H ?_))|((with_reducible refine gX ?_);(refine bB H ?_;clear H;intro b w H;try simp only[nr]at H))|((with_reducible refine gA ?_);(refine bA H ?_;clear H;intro b w H;try simp only[nr]at H)))|((with_reducible refine ch (hof _ _) H ?_);clear H;intro w H))
    (refine xc Tryz.results86 H ?_)
    exact⟨by rw[E2.out],H.below⟩
 ·have d1:((d.kind:Int) == 1)=false:=by rw[beq_eq_false_iff_ne];omega
  rw[if_neg h1]at E;clear h1
  by_cases h2:d.kind=2
  ·have d2:((d.kind:Int) == 2)=true:=by rw[beq_iff_eq];omega
   rw[if_pos h2]at E;clear h2
   cases hf:f.2.2 with
   | true =>
    rw[hf]at E;simp only[if_true]at E;have E2:=Lib.hid E;clear E;have hof:=fun w=>zMR (zAV 0 256) w
    have hr:=fun w=>zP0 w
    go_enter Tryz.func86,Tryz.ntmps86
    go_wp2_with (first|(first|((with_reducible refine gT ?_);(refine aT H ?_;clear H;intro w H;try simp only[nr]at H))|((with_reducible refine gL ?_);(first|refine aGb H ?_|refine aG H ?_))|((with_reducible refine gX ?_);(refine bB H ?_;clear H;intro b w H;try simp only[nr]at H))|((with_reducible refine gA ?_);(refine bA H ?_;clear H;intro b w H;try simp only[nr]at H)))|((with_reducible first|refine ch (hr _) H ?_|refine ch (hof _) H ?_);clear H;intro w H))
    (refine xc Tryz.results86 H ?_)
    exact⟨by rw[E2.out],H.below⟩
   | false =>
    rw[hf]at E;simp only[Bool.false_eq_true,if_false]at E;have E2:=Lib.hid E;clear E;have hof:=fun w=>zMR (notS (ofS [10])) w
    have hno:=fun w=>zEF (ofS [10]) (zBb _) w
    go_enter Tryz.func86,Tryz.ntmps86
    go_wp2_with (first|(first|((with_reducible refine gT ?_);(refine aT H ?_;clear H;intro w H;try simp only[nr]at H))|((with_reducible refine gL ?_);(first|refine aGb H ?_|refine aG H ?_))|((with_reducible refine gX ?_);(refine bB H ?_;clear H;intro b w H;try simp only[nr]at H))|((with_reducible refine gA ?_);(refine bA H ?_;clear H;intro b w H;try simp only[nr]at H)))|((with_reducible refine gBS ?_);refine zAU wtd_ _ _ _ rfl H (#[.int .u8 10]) 5 (by intro W;simp only[ml];(try simp only[pe]);(try unfold setV);simp[go_sem]<;>rfl) ?_;clear H;intro b w H;try simp only[nr]at H)|((with_reducible first|refine ch (zRE _ _ (H.rdn (cs:=[.int .u8 10]) atd_ (by simp) (by simp[maxLen]))) H ?_|refine ch (hno _) H ?_|refine ch (hof _) H ?_);clear H;intro w H))
    (refine xc Tryz.results86 H ?_)
    exact⟨by rw[E2.out],H.below⟩
  ·have d2:((d.kind:Int) == 2)=false:=by rw[beq_eq_false_iff_ne];omega
   rw[if_neg h2]at E;clear h2
   by_cases h3:d.kind=3
   ·have d3:((d.kind:Int) == 3)=true:=by rw[beq_iff_eq];omega
    rw[if_pos h3]at E;clear h3;have E2:=Lib.hid E;clear E;have hsp:=fun w=>zHY f 8 10 w
    go_enter Tryz.func86,Tryz.ntmps86
    go_wp2_with (first|(first|((with_reducible refine gT ?_);(refine aT H ?_;clear H;intro w H;try simp only[nr]at H))|((with_reducible refine gL ?_);(first|refine aG H ?_|refine aD H ?_))|((with_reducible refine gX ?_);(refine bB H ?_;clear H;intro b w H;try simp only[nr]at H))|((with_reducible refine gA ?_);(refine bA H ?_;clear H;intro b w H;try simp only[nr]at H)))|((with_reducible refine ch (hsp _) H ?_);clear H;intro w H))
    (refine xc Tryz.results86 H ?_)
    exact⟨by rw[E2.out],H.below⟩
   ·have d3:((d.kind:Int) == 3)=false:=by rw[beq_eq_false_iff_ne];omega
    rw[if_neg h3]at E;clear h3
    by_cases h4:d.kind=4
    ·have d4:((d.kind:Int) == 4)=true:=by rw[beq_iff_eq];omega
     rw[if_pos h4]at E;clear h4;have E2:=Lib.hid E;clear E;have hsp:=fun w=>zHY f 9 11 w
     go_enter Tryz.func86,Tryz.ntmps86
     go_wp2_with (first|(first|((with_reducible refine gT ?_);(refine aT H ?_;clear H;intro w H;try simp only[nr]at H))|((with_reducible refine gL ?_);(first|refine aG H ?_|refine aD H ?_))|((with_reducible refine gX ?_);(refine bB H ?_;clear H;intro b w H;try simp only[nr]at H))|((with_reducible refine gA ?_);(refine bA H ?_;clear H;intro b w H;try simp only[nr]at H)))|((with_reducible refine ch (hsp _) H ?_);clear H;intro w H))
     (refine xc Tryz.results86 H ?_)
     exact⟨by rw[E2.out],H.below⟩
    ·have d4:((d.kind:Int) == 4)=false:=by rw[beq_eq_false_iff_ne];omega
     rw[if_neg h4]at E;clear h4;have E2:=Lib.hid E;clear E
     go_enter Tryz.func86,Tryz.ntmps86
     go_wp2_with (first|(first|((with_reducible refine gT ?_);(refine aT H ?_;clear H;intro w H;try simp only[nr]at H))|((with_reducible refine gL ?_);refine aG H ?_)|((with_reducible refine gX ?_);(refine bB H ?_;clear H;intro b w H;try simp only[nr]at H))|((with_reducible refine gA ?_);(refine bA H ?_;clear H;intro b w H;try simp only[nr]at H))|((with_reducible refine gZ ?_);refine nb1 ?_)))
     (refine xc Tryz.results86 H ?_)
     exact⟨by rw[E2.out];rfl,H.below⟩
def Knows (F:Nat→Prop) (p:Option Addr) (n c:Nat) (xs:List TV) (V:World):Prop:=RdN 10 V F (.slice p n c) (xs.map zAn)∧ListR V F xs
section
variable {F:Nat→Prop} {p:Option Addr} {n c:Nat} {xs:List TV} {V W w0:World}
theorem Knows.kept (h:Knows F p n c xs W) (hV:∀ b,F b→V.heap[b]?=W.heap[b]?):Knows F p n c xs V:=⟨h.1.kept hV,h.2.kept hV⟩
theorem Knows.forest (h:Knows F p (xs.map (·.1)).length c xs V):ForestR V F p c (xs.map (·.1)):=.mk _ _ _ xs h.1 h.2 rfl
theorem Hold.knows (hF:∀ b,F b→b<w0.heap.size) (h:Knows F p n c xs w0):Hold w0 w0 [.kn F (Knows F p n c xs)] :=
 (Hold.start w0).know F (Knows F p n c xs) hF (fun i r h=>by simp at h) (fun V hV=>h.kept hV)
theorem Knows.cells {b off:Nat} (h:Knows F (some ⟨b,off,none⟩) n c xs V) {j:Nat} {x:TV} (hj:xs[j]?=some x) {q:Nat} (hq:off+j * 10=q):∀ k,k<10→V.cell? ⟨b,q+k,none⟩=(zAn x)[k]?:=by
 obtain⟨p,c,e1,_,_,_,h3⟩:=h.1;obtain⟨b',off',e2,_,_,h4⟩:=h3 j (zAn x) (by rw[List.getElem?_map,hj];rfl)
 cases e1;cases e2;subst hq
 exact h4
theorem Knows.bound (h:Knows F p n c xs V):n=xs.length∧n≤c∧c≤9223372036854775807:=by
 obtain⟨p,c,e1,h1,h2,_,h3⟩:=h.1
 cases e1
 unfold maxLen at h2;rw[List.length_map]at h1 ⊢;exact⟨rfl,h1,h2⟩
theorem Knows.at (h:Knows F p n c xs V) (h0:0<xs.length):∃ b off,p=some ⟨b,off,none⟩:=by
 obtain⟨p,c,e1,h1,h2,_,h3⟩:=h.1
 cases e1
 obtain⟨b,off,e,_⟩:=h3 0 _ (by rw[List.getElem?_map,List.getElem?_eq_getElem h0];rfl)
 exact⟨b,off,e⟩
end
theorem zEp (k:Int) (p:Option Addr) (c n:Nat) (F:Nat→Prop) (ts:List Tree) (w0:World) (hF:∀ b,F b→b<w0.heap.size) (h:ForestR w0 F p c ts) (hn:n=ts.length) :
  Calls Tryz.prog 84 #[.int .i64 k,.slice p n c] w0 fun e w'=>zDg w0 F (rowT k ts) e w'∧Below w0.heap.size w0 w':=by
 obtain⟨xs,h1,h2,rfl⟩:=h.open;rw[List.length_map]at hn;rw[← hn]at h1;have hK:Knows F p n c xs w0:=⟨h1,h2⟩;clear h h1 h2;have H:=Hold.knows hF hK;have hc1:=hK.bound.2.1;have hc2:=hK.bound.2.2;have hp:=hK.at;rcases xs with _|⟨x,_|⟨y,xs⟩⟩
 ·obtain rfl:n=0:=hn;clear hp
  go_enter Tryz.func84,Tryz.ntmps84
  go_wp2_with (first|(first|((with_reducible refine gT ?_);(refine aT H ?_;clear H;intro w H;try simp only[nr]at H))|((with_reducible refine gA ?_);(refine bA H ?_;clear H;intro b w H;try simp only[nr]at H))|((with_reducible refine gZ ?_);refine nb1 ?_)))
  (refine xc Tryz.results84 H ?_)
  exact⟨⟨none,0,fun _=>False,rfl,ForestR.nil ..,fun _ h=>h.elim⟩,H.below⟩
 ·obtain rfl:n=1:=hn;obtain⟨b,off,rfl⟩:=hp (by simp)
  clear hp;have hcell:∀ V,Knows F (some ⟨b,off,none⟩) 1 c [x] V→∀ k,k<10→V.cell? ⟨b,off+k,none⟩=(zAn x)[k]?:=fun V h=>h.cells (j:=0) rfl rfl
  go_enter Tryz.func84,Tryz.ntmps84
  go_wp2_with (first|((with_reducible refine gL ?_);refine zBL wtd_ _ _ rfl rfl zAX (zCT x) (hcell _ (H.kn .zero)) ?_)|(first|((with_reducible refine gT ?_);(refine aT H ?_;clear H;intro w H;try simp only[nr]at H))|((with_reducible refine gA ?_);(refine bA H ?_;clear H;intro b w H;try simp only[nr]at H))))
  (refine xc Tryz.results84 H ?_)
  exact⟨⟨_,_,F,rfl,(H.kn (i:=0) .zero).2 x (List.mem_singleton.2 rfl),fun b h=>⟨H.knlt .zero b h,.inr h⟩⟩,H.below⟩
 ·clear hp;have h2:2≤n:=by rw[hn];simp
  have HN:=Lib.hid hn;clear hn;have d0:((n:Int) == 0)=false:=by rw[beq_eq_false_iff_ne];omega
  have d1:((n:Int) == 1)=false:=by rw[beq_eq_false_iff_ne];omega
  go_enter Tryz.func84,Tryz.ntmps84
  go_wp2_with (first|(first|((with_reducible refine gT ?_);(refine aT H ?_;clear H;intro w H;try simp only[nr]at H))|((with_reducible refine gA ?_);(refine bA H ?_;clear H;intro b w H;try simp only[nr]at H))|((with_reducible refine gZ ?_);refine nbK ?_)))
  (refine xc Tryz.results84 H ?_)
  have e:n=((x::y::xs).map (·.1)).length:=by rw[HN.out,List.length_map]
  refine⟨⟨p,c,F,by rw[e];rfl,?_,fun b h=>⟨H.knlt .zero b h,.inr h⟩⟩,H.below⟩
  have:=H.kn (i:=0) .zero;rw[e]at this;exact this.forest
theorem zNU {xs:List TV} {j:Nat} {x:TV} (h:xs[j]?=some x):zA2 ((xs.map (·.1)).take (j+1))=zA2 ((xs.map (·.1)).take j)+zBk x.1:=zHG (by rw[List.getElem?_map,h];rfl)
theorem zIj {xs:List TV} {j:Nat} {x:TV} (h:xs[j]?=some x):zA2 ((xs.map (·.1)).take j)+zBk x.1≤zA2 (xs.map (·.1)):=zHj (by rw[List.getElem?_map,h];rfl)
theorem zJF:∀ (m:Nat) (t:Tree) (p:Option Addr) (n c:Nat) (F:Nat→Prop) (w0:World),zBk t≤m→m≤1000000000000→(∀ b,F b→b<w0.heap.size)→ForestR w0 F p c t.kids→n=t.kids.length →
  Calls Tryz.prog 43 #[zAl t.d (.slice p n c)] w0 (Rt (.int .i64 (zBk t)) w0)
 | 0,t,_,_,_,_,_,hm,_,_,_,_=>by have:=zFf t;omega
 | m+1,.mk d ts,p,n,c,F,w0,hm,hm2,hF,h,hn=>by
  have IH:=zJF m;simp only[Tree.kids,Tree.d]at h hn ⊢;obtain⟨xs,h1,h2,rfl⟩:=h.open;rw[List.length_map]at hn;rw[← hn]at h1;have hK:Knows F p n c xs w0:=⟨h1,h2⟩;clear h h1 h2;have H:=Hold.knows hF hK;have hc1:=hK.bound.2.1;have hc2:=hK.bound.2.2;have hp:=hK.at;clear hK;have E:zBk (.mk d (xs.map (·.1)))=1+zA2 (xs.map (·.1)):=by simp[zBk]
  rw[E]at hm;have E2:=Lib.hid E;clear E;have HN:=Lib.hid hn;clear hn
  go_enter Tryz.func43,Tryz.ntmps43
  go_wp2_with (first|((first|((with_reducible refine kgA 1 ?_);refine kA 1 H ?_)|((with_reducible refine kgX 1 ?_);(first|refine kS 1 H ?_|refine kB 1 H ?_)));clear H;intro b1 w H;try simp only[nr]at H)|fail)
  go_loopw [3,4] (fun k i wr=>∃ j:Nat,j≤n∧i=.int .i64 j∧k=.int .i64 ((1+zA2 ((xs.map (·.1)).take j):Nat):Int)∧Hold w0 wr [.kn F (Knows F p n c xs),.blk b1 (zAR d (.slice p n c)) 30]) (fun _ i _=>n+1 - (intOf i).toNat)
  case atStart=>exact⟨0,by omega,rfl,by simp[zA2],H⟩
  case round =>
   clear H;obtain⟨j,hj,rfl,rfl,H⟩:=hrel
   by_cases hlt:j<n
   ·have dj:decide ((j:Int)<(n:Int))=true:=by simp;omega
    obtain⟨x,hx⟩:∃ x,xs[j]?=some x:=⟨_,List.getElem?_eq_getElem (by rw[← HN.out];exact hlt)⟩
    obtain⟨b,off,rfl⟩:=hp (by rw[← HN.out];omega)
    have hs1:=zIj hx;have HS:=Lib.hid (zNU hx);have hmem:=List.mem_of_getElem? hx;have hcell:∀ V,Knows F (some ⟨b,off,none⟩) n c xs V→∀ k,k<10→V.cell? ⟨b,off+j * 10+k,none⟩=(zAn x)[k]?:=fun V h=>h.cells hx rfl
    have ih:=fun w (hw:∀ b,F b→b<w.heap.size) (hk:Knows F (some ⟨b,off,none⟩) n c xs w)=>IH x.1 x.2.1 _ x.2.2 F w (by omega) (by omega) hw (hk.2 x hmem) rfl
    clear IH hx hmem hp
    generalize zA2 ((xs.map (·.1)).take j)=S at *
    go_wp2_with (first|((with_reducible refine gL ?_);refine zBL wtd_ _ _ rfl rfl zAX (zCT x) (hcell _ (H.kn .zero)) ?_)|((with_reducible refine gL ?_);refine aG H ?_)|((with_reducible refine ch (ih _ (H.knlt .zero) (H.kn .zero)) H ?_);clear H;intro w H))
    go_roundw
    case rel=>exact⟨j+1,by omega,by go_num,by rw[HS.out];go_num,H⟩
    case measure=>simp[intOf];omega
   ·have dj:decide ((j:Int)<(n:Int))=false:=by simp;omega
    obtain rfl:j=n:=by omega
    go_wp2_with (first|((with_reducible refine gL ?_);refine aG H ?_))
    go_ret;exact⟨reti (by rw[E2.out,List.take_of_length_le (by rw[List.length_map,← HN.out];exact Nat.le_refl _)];omega),H.below⟩
theorem zMC {xs:List TV} {j:Nat} {x:TV} (h:xs[j]?=some x):zBR ((xs.map (·.1)).take (j+1))=max (zBR ((xs.map (·.1)).take j)) (zDa x.1):=zJl (by rw[List.getElem?_map,h];rfl)
theorem zKP:∀ (m:Nat) (t:Tree) (p:Option Addr) (n c:Nat) (F:Nat→Prop) (w0:World),zBk t≤m→m≤1000000000000→(∀ b,F b→b<w0.heap.size)→ForestR w0 F p c t.kids→n=t.kids.length →
  Calls Tryz.prog 44 #[zAl t.d (.slice p n c)] w0 (Rt (.int .i64 (zDa t)) w0)
 | 0,t,_,_,_,_,_,hm,_,_,_,_=>by have:=zFf t;omega
 | m+1,.mk d ts,p,n,c,F,w0,hm,hm2,hF,h,hn=>by
  have IH:=zKP m;simp only[Tree.kids,Tree.d]at h hn ⊢;obtain⟨xs,h1,h2,rfl⟩:=h.open;rw[List.length_map]at hn;rw[← hn]at h1;have hK:Knows F p n c xs w0:=⟨h1,h2⟩;clear h h1 h2;have H:=Hold.knows hF hK;have hc1:=hK.bound.2.1;have hc2:=hK.bound.2.2;have hp:=hK.at;clear hK;have E:zDa (.mk d (xs.map (·.1)))=zBR (xs.map (·.1))+1:=by simp[zDa]
  have hd:=zFw (xs.map (·.1));simp only[zBk]at hm;have E2:=Lib.hid E;clear E;have HN:=Lib.hid hn;clear hn
  go_enter Tryz.func44,Tryz.ntmps44
  go_wp2_with (first|((first|((with_reducible refine kgA 1 ?_);refine kA 1 H ?_)|((with_reducible refine kgX 1 ?_);(first|refine kS 1 H ?_|refine kB 1 H ?_)));clear H;intro b1 w H;try simp only[nr]at H)|fail)
  go_loopw [3,4] (fun k i wr=>∃ j:Nat,j≤n∧i=.int .i64 j∧k=.int .i64 ((zBR ((xs.map (·.1)).take j):Nat):Int)∧zBR ((xs.map (·.1)).take j)≤m∧Hold w0 wr [.kn F (Knows F p n c xs),.blk b1 (zAR d (.slice p n c)) 30]) (fun _ i _=>n+1 - (intOf i).toNat)
  case atStart=>exact⟨0,by omega,rfl,by simp[zBR],by simp[zBR],H⟩
  case round =>
   clear H;obtain⟨j,hj,rfl,rfl,hS,H⟩:=hrel
   by_cases hlt:j<n
   ·have dj:decide ((j:Int)<(n:Int))=true:=by simp;omega
    obtain⟨x,hx⟩:∃ x,xs[j]?=some x:=⟨_,List.getElem?_eq_getElem (by rw[← HN.out];exact hlt)⟩
    obtain⟨b,off,rfl⟩:=hp (by rw[← HN.out];omega)
    have hs1:=zIj hx;have hs2:=zHC x.1;have HS:=Lib.hid (zMC hx);have hmem:=List.mem_of_getElem? hx;have hcell:∀ V,Knows F (some ⟨b,off,none⟩) n c xs V→∀ k,k<10→V.cell? ⟨b,off+j * 10+k,none⟩=(zAn x)[k]?:=fun V h=>h.cells hx rfl
    have ih:=fun w (hw:∀ b,F b→b<w.heap.size) (hk:Knows F (some ⟨b,off,none⟩) n c xs w)=>IH x.1 x.2.1 _ x.2.2 F w (by omega) (by omega) hw (hk.2 x hmem) rfl
    clear IH hx hmem hp
    generalize zBR ((xs.map (·.1)).take j)=S at *
    go_wp2_with (first|((with_reducible refine gL ?_);refine zBL wtd_ _ _ rfl rfl zAX (zCT x) (hcell _ (H.kn .zero)) ?_)|((with_reducible refine gL ?_);refine aG H ?_)|((with_reducible refine ch (ih _ (H.knlt .zero) (H.kn .zero)) H ?_);clear H;intro w H))
    go_roundw
    case rel=>exact⟨j+1,by omega,by go_num,by rw[HS.out];go_num,by rw[HS.out];omega,H⟩
    case measure=>simp[intOf];omega
   ·have dj:decide ((j:Int)<(n:Int))=false:=by simp;omega
    obtain rfl:j=n:=by omega
    go_wp2_with (first|((with_reducible refine gL ?_);refine aG H ?_))
    go_ret;exact⟨reti (by rw[E2.out,List.take_of_length_le (by rw[List.length_map,← HN.out];exact Nat.le_refl _)];omega),H.below⟩
def WKnows (F:Nat→Prop) (p:Option Addr) (n c:Nat) (ws:List WordD) (V:World):Prop:=RdN 17 V F (.slice p n c) (ws.map zAY)
section
variable {F:Nat→Prop} {p:Option Addr} {n c:Nat} {ws:List WordD} {V W w0:World}
theorem WKnows.kept (h:WKnows F p n c ws W) (hV:∀ b,F b→V.heap[b]?=W.heap[b]?):WKnows F p n c ws V:=RdN.kept h hV
theorem WKnows.cells {b off:Nat} (h:WKnows F (some ⟨b,off,none⟩) n c ws V) {j:Nat} {d:WordD} (hj:ws[j]?=some d) {q:Nat} (hq:off+j * 17=q):∀ k,k<17→V.cell? ⟨b,q+k,none⟩=(zAY d)[k]?:=by
 obtain⟨p,c,e1,_,_,_,h3⟩:=h;obtain⟨b',off',e2,_,_,h4⟩:=h3 j (zAY d) (by rw[List.getElem?_map,hj];rfl)
 cases e1;cases e2;subst hq
 exact h4
theorem WKnows.kind {b off:Nat} (h:WKnows F (some ⟨b,off,none⟩) n c ws V) {j:Nat} {d:WordD} (hj:ws[j]?=some d):V.cell? ⟨b,off+j * 17,none⟩=some (.int .i64 d.kind):=h.cells hj rfl 0 (by omega)
theorem WKnows.place {b off:Nat} (h:WKnows F (some ⟨b,off,none⟩) n c ws V) {j:Nat} {d:WordD} (hj:ws[j]?=some d):V.cell? ⟨b,off+j * 17+1,none⟩=some (.int .i64 d.place):=h.cells hj rfl 1 (by omega)
theorem WKnows.bound (h:WKnows F p n c ws V):n=ws.length∧n≤c∧c≤9223372036854775807:=by
 obtain⟨p,c,e1,h1,h2,_,h3⟩:=h
 cases e1
 unfold maxLen at h2;rw[List.length_map]at h1 ⊢;exact⟨rfl,h1,h2⟩
theorem WKnows.at (h:WKnows F p n c ws V) (h0:0<ws.length):∃ b off,p=some ⟨b,off,none⟩:=by
 obtain⟨p,c,e1,h1,h2,_,h3⟩:=h
 cases e1
 obtain⟨b,off,e,_⟩:=h3 0 _ (by rw[List.getElem?_map,List.getElem?_eq_getElem h0];rfl)
 exact⟨b,off,e⟩
end
def zGp (l:List Nat):List Value:=l.map (fun a:Nat=>Value.int .i64 (a:Int))
theorem zMK {l:List Nat} {j a:Nat} (h:l[j]?=some a):(zGp l)[j]?=some (.int .i64 (a:Int)):=by simp[zGp,h]
def zJI (o:Option Nat):Int:=match o with|some a=>a|none => -1
theorem zO1:(Tryz.prog.info? 3).map (fun i=>(i.zero,i.size,i.bytes))=some (some (.int .i64 0),1,8):=by kernel_rfl
theorem zOp {l:List Nat} (h:l≠[]):∃ a,l[l.length - 1]?=some a∧l.getLast?=some a:=by
 refine⟨l.getLast h,?_,List.getLast?_eq_some_getLast h⟩;rw[← List.getLast?_eq_getElem?];exact List.getLast?_eq_some_getLast h
theorem zI8 (p:Option Addr) (n c:Nat) (F:Nat→Prop) (ws:List WordD) (w0:World) (hF:∀ b,F b→b<w0.heap.size) (hK:WKnows F p n c ws w0) (hn2:n≤1000) :
  Calls Tryz.prog 41 #[.slice p n c] w0 (Rt (.int .i64 (zJI (zCz ws))) w0):=by
 obtain⟨i0,hi0,hz0,hz1,hz2⟩:=info_parts zO1;have H:=(Hold.start w0).know F (WKnows F p n c ws) hF (fun i r h=>by simp at h) (fun V hV=>hK.kept hV)
 have hb:=hK.bound;have hp:=hK.at;clear hK;have HN:=Lib.hid hb.1;have hc1:=hb.2.1;have hc2:=hb.2.2;clear hb
 go_enter Tryz.func41,Tryz.ntmps41
 go_wp2_with (first|fail)
 replace H:=H.addNil 3 1;simp only[List.nil_append,List.cons_append]at H
 go_loopw [3,4] (fun v i wr=>∃ (j:Nat) (op:List Nat),j≤n∧i=.int .i64 j∧op.length≤j∧Hid (zCz ws=zAp (zDN ws j) op (ws.drop j))∧Hold w0 wr [.kn F (WKnows F p n c ws),.row v 3 1 op.length (zGp op)]) (fun _ i _=>n+1 - (intOf i).toNat)
 case atStart=>exact⟨0,[],by omega,rfl,by simp,Lib.hid rfl,(by simpa [zGp] using H)⟩
 case round =>
  clear H;obtain⟨j,op,hj,rfl,hol,G,H⟩:=hrel
  by_cases hlt:j<n
  ·have dj:decide ((j:Int)<(n:Int))=true:=by simp;omega
   obtain⟨d,hd⟩:∃ d,ws[j]?=some d:=⟨_,List.getElem?_eq_getElem (by rw[← HN.out];exact hlt)⟩
   obtain⟨b,off,rfl⟩:=hp (by rw[← HN.out];omega)
   clear hp;have hkd:∀ V,WKnows F (some ⟨b,off,none⟩) n c ws V→V.cell? ⟨b,off+j * 17,none⟩=some (.int .i64 d.kind):=fun V h=>h.kind hd
   have hpl:∀ V,WKnows F (some ⟨b,off,none⟩) n c ws V→V.cell? ⟨b,off+j * 17+1,none⟩=some (.int .i64 d.place):=fun V h=>h.place hd
   have hcell:∀ V,WKnows F (some ⟨b,off,none⟩) n c ws V→∀ k,k<17→V.cell? ⟨b,off+j * 17+k,none⟩=(zAY d)[k]?:=fun V h=>h.cells hd rfl
   have HD:=Lib.hid hd;clear hd;obtain⟨q,cap,rfl,hq1,hq2,hq3⟩:=H.rowShape i_1;unfold maxLen at hq2
   generalize hm:op.length=m at hol H hq1 hq3
   have HM:=Lib.hid hm;clear hm
   go_upto_region 5 with fail
   go_cut [5] from 6 to 99 (fun v wx=>v=.bool (zDN ws j)∧Hold w0 wx [.kn F (WKnows F (some ⟨b,off,none⟩) n c ws),.row (.slice q m cap) 3 1 m (zGp op)])
   case first =>
    rcases j with _|k
    ·go_wp2_with (first|fail)
     go_meet
     case rel=>exact⟨rfl,H⟩
    ·obtain⟨d',hd'⟩:∃ d',ws[k]?=some d':=⟨_,List.getElem?_eq_getElem (by rw[← HN.out];omega)⟩
     have hkd':∀ V,WKnows F (some ⟨b,off,none⟩) n c ws V→V.cell? ⟨b,off+k * 17,none⟩=some (.int .i64 d'.kind):=fun V h=>h.kind hd'
     have hcell':∀ V,WKnows F (some ⟨b,off,none⟩) n c ws V→∀ q,q<17→V.cell? ⟨b,off+k * 17+q,none⟩=(zAY d')[q]?:=fun V h=>h.cells hd' rfl
     have hb':=zEJ hd';clear hd';have hop:=fun w=>zGi d' w
     have hkn:decide (k<n)=true:=by simp;omega
     have hk0:((k:Int)+1 == 0)=false:=by rw[beq_eq_false_iff_ne];omega
     cases ho:zA1 d' with
     | true =>
      have E:=Lib.hid (show zDN ws (k+1)=true by rw[hb'];simp[zID,ho])
      rw[ho]at hop;clear ho hb'
      go_wp2_with (first|((with_reducible refine gL ?_);refine zBL wtd_ _ _ rfl rfl zBx rfl (hcell' _ (H.kn .zero)) ?_)|fail|((with_reducible refine ch (hop _) H ?_);clear H;intro w H))
      go_meet
      case rel=>exact⟨by rw[E.out],H⟩
     | false =>
      rw[ho]at hop
      by_cases h8:d'.kind=8
      ·have d8:((d'.kind:Int) == 8)=true:=by rw[beq_iff_eq];omega
       have E:=Lib.hid (show zDN ws (k+1)=true by rw[hb'];simp[zID,h8])
       clear ho hb' h8
       go_wp2_with (first|((with_reducible refine gL ?_);refine zBL wtd_ _ _ rfl rfl zBx rfl (hcell' _ (H.kn .zero)) ?_)|((with_reducible refine gL ?_);refine zAE wtd_ _ _ rfl rfl zAI (hkd' _ (H.kn .zero)) ?_)|fail|((with_reducible refine ch (hop _) H ?_);clear H;intro w H))
       go_meet
       case rel=>exact⟨by rw[E.out],H⟩
      ·have d8:((d'.kind:Int) == 8)=false:=by rw[beq_eq_false_iff_ne];omega
       by_cases h10:d'.kind=10
       ·have d10:((d'.kind:Int) == 10)=true:=by rw[beq_iff_eq];omega
        have E:=Lib.hid (show zDN ws (k+1)=true by rw[hb'];simp[zID,h10])
        clear ho hb' h8 h10
        go_wp2_with (first|((with_reducible refine gL ?_);refine zBL wtd_ _ _ rfl rfl zBx rfl (hcell' _ (H.kn .zero)) ?_)|((with_reducible refine gL ?_);refine zAE wtd_ _ _ rfl rfl zAI (hkd' _ (H.kn .zero)) ?_)|fail|((with_reducible refine ch (hop _) H ?_);clear H;intro w H))
        go_meet
        case rel=>exact⟨by rw[E.out],H⟩
       ·have d10:((d'.kind:Int) == 10)=false:=by rw[beq_eq_false_iff_ne];omega
        have E:=Lib.hid (show zDN ws (k+1)=((d'.kind:Int) == 11) by
         rw[hb'];simp only[zID,ho,show (d'.kind == 8)=false from by simpa using h8,show (d'.kind == 10)=false from by simpa using h10,Bool.false_or]
         rw[Bool.eq_iff_iff,beq_iff_eq,beq_iff_eq];omega)
        clear ho hb' h8 h10
        go_wp2_with (first|((with_reducible refine gL ?_);refine zBL wtd_ _ _ rfl rfl zBx rfl (hcell' _ (H.kn .zero)) ?_)|((with_reducible refine gL ?_);refine zAE wtd_ _ _ rfl rfl zAI (hkd' _ (H.kn .zero)) ?_)|fail|((with_reducible refine ch (hop _) H ?_);clear H;intro w H))
        go_meet
        case rel=>exact⟨by rw[E.out],H⟩
   case rest =>
    obtain⟨rfl,H⟩:=hcut;have hop:=fun w=>zGi d w
    by_cases h11:d.kind=11
    ·have d11:((d.kind:Int) == 11)=true:=by rw[beq_iff_eq];omega
     have d9:((d.kind:Int) == 9)=false:=by rw[beq_eq_false_iff_ne];omega
     have ho:zA1 d=false:=by simp[zA1,h11]
     cases hb:zDN ws j with
     | true =>
      have E:=Lib.hid (show zJI (zCz ws)=d.place by rw[G.out,zI1 HD.out (.inl ⟨h11,hb⟩)];rfl)
      clear h11 ho hb
      go_wp2_with (first|((with_reducible refine gL ?_);refine zAE wtd_ _ _ rfl rfl zAI (hkd _ (H.kn .zero)) ?_)|((with_reducible refine gL ?_);refine zAE wtd_ _ _ rfl rfl zAI (hpl _ (H.kn .zero)) ?_)|fail)
      go_ret;exact⟨reti E.out.symm,H.below⟩
     | false =>
      have G2:=Lib.hid (show zCz ws=zAp (zDN ws (j+1)) op (ws.drop (j+1)) by rw[G.out,hb,zKO HD.out (by simp[h11]) ho (by omega)])
      rw[ho]at hop;clear h11 ho hb
      go_wp2_with (first|((with_reducible refine gL ?_);refine zBL wtd_ _ _ rfl rfl zBx rfl (hcell _ (H.kn .zero)) ?_)|((with_reducible refine gL ?_);refine zAE wtd_ _ _ rfl rfl zAI (hkd _ (H.kn .zero)) ?_)|fail|((with_reducible refine ch (hop _) H ?_);clear H;intro w H))
      go_roundw
      case rel=>exact⟨j+1,op,by omega,by go_num,by rw[HM.out];omega,G2,by rw[HM.out];exact H⟩
      case measure=>simp[intOf];omega
    ·have d11:((d.kind:Int) == 11)=false:=by rw[beq_eq_false_iff_ne];omega
     by_cases h9:d.kind=9
     ·have d9:((d.kind:Int) == 9)=true:=by rw[beq_iff_eq];omega
      have ho:zA1 d=false:=by simp[zA1,h9]
      rw[ho]at hop;rcases m with _|m
      ·have E:=Lib.hid (show zJI (zCz ws)=d.place by rw[G.out,zI1 HD.out (.inr ⟨h9,List.length_eq_zero_iff.1 HM.out⟩)];rfl)
       clear h9 h11 ho hq1 hq3
       go_wp2_with (first|((with_reducible refine gL ?_);refine zAE wtd_ _ _ rfl rfl zAI (hkd _ (H.kn .zero)) ?_)|((with_reducible refine gL ?_);refine zAE wtd_ _ _ rfl rfl zAI (hpl _ (H.kn .zero)) ?_)|fail)
       go_ret;exact⟨reti E.out.symm,H.below⟩
      ·obtain⟨g,rfl⟩:=hq3 (by omega)
       clear hq3;have hm0:((m:Int)+1 == 0)=false:=by rw[beq_eq_false_iff_ne];omega
       have G2:=Lib.hid (show zCz ws=zAp (zDN ws (j+1)) op.dropLast (ws.drop (j+1)) by rw[G.out,zJs HD.out h9 (fun e=>by have:=HM.out;rw[e]at this;simp at this)])
       clear h9 h11 ho
       go_wp2_with (first|((with_reducible refine gL ?_);refine zBL wtd_ _ _ rfl rfl zBx rfl (hcell _ (H.kn .zero)) ?_)|((with_reducible refine gL ?_);refine zAE wtd_ _ _ rfl rfl zAI (hkd _ (H.kn .zero)) ?_)|((with_reducible refine gL ?_);refine zAE wtd_ _ _ rfl rfl zAI (hpl _ (H.kn .zero)) ?_)|fail|((with_reducible refine ch (hop _) H ?_);clear H;intro w H))
       have H2:=H.cutRow i_1 (m:=m) (by omega)
       go_roundw
       case rel=>exact⟨j+1,op.dropLast,by omega,by go_num,by rw[List.length_dropLast,HM.out];omega,G2,by
        rw[List.length_dropLast,HM.out];have e:(zGp op).take (m * 1)=zGp op.dropLast:=by
         rw[Nat.mul_one,List.dropLast_eq_take,HM.out];simp[zGp,List.map_take]
        rw[e]at H2
        exact H2⟩
       case measure=>simp[intOf];omega
     ·have d9:((d.kind:Int) == 9)=false:=by rw[beq_eq_false_iff_ne];omega
      cases ho:zA1 d with
      | true =>
       have G2:=Lib.hid (show zCz ws=zAp (zDN ws (j+1)) (op++[d.place]) (ws.drop (j+1)) by rw[G.out,zLc HD.out ho])
       rw[ho]at hop;clear h9 h11 ho
       go_wp2_with (first|((with_reducible refine gL ?_);refine zBL wtd_ _ _ rfl rfl zBx rfl (hcell _ (H.kn .zero)) ?_)|((with_reducible refine gL ?_);refine zAE wtd_ _ _ rfl rfl zAI (hkd _ (H.kn .zero)) ?_)|((with_reducible refine gL ?_);refine zAE wtd_ _ _ rfl rfl zAI (hpl _ (H.kn .zero)) ?_)|(at_builtin;refine zB2 rfl _ _ 164 rfl H evd_ rfl atd_ atd_ Tryz.underlying164 hi0 hz0 hz1 hz2 rfl (by decide) rfl rfl (by unfold maxLen;omega) (by omega) ?_;clear H;intro v2 w H;try simp only[nr]at H)|((with_reducible refine gBS ?_);refine zAU wtd_ _ _ _ rfl H (#[.int .i64 (d.place:Int)]) 3 (by intro W;simp only[ml];(try simp only[pe]);(try unfold setV);simp[go_sem]<;>rfl) ?_;clear H;intro b w H;try simp only[nr]at H)|fail|((with_reducible refine ch (hop _) H ?_);clear H;intro w H))
       go_roundw
       case rel=>exact⟨j+1,op++[d.place],by omega,by go_num,by rw[List.length_append,HM.out,List.length_singleton];omega,G2,by
        rw[List.length_append,HM.out,List.length_singleton];have e:zGp op++[.int .i64 (d.place:Int)]=zGp (op++[d.place]):=by simp[zGp]
        rw[← e]
        exact H.take 2⟩
       case measure=>simp[intOf];omega
      | false =>
       have G2:=Lib.hid (show zCz ws=zAp (zDN ws (j+1)) op (ws.drop (j+1)) by rw[G.out,zKO HD.out (by omega) ho h9])
       rw[ho]at hop;clear h9 h11 ho
       go_wp2_with (first|((with_reducible refine gL ?_);refine zBL wtd_ _ _ rfl rfl zBx rfl (hcell _ (H.kn .zero)) ?_)|((with_reducible refine gL ?_);refine zAE wtd_ _ _ rfl rfl zAI (hkd _ (H.kn .zero)) ?_)|((with_reducible refine gL ?_);refine zAE wtd_ _ _ rfl rfl zAI (hpl _ (H.kn .zero)) ?_)|fail|((with_reducible refine ch (hop _) H ?_);clear H;intro w H))
       go_roundw
       case rel=>exact⟨j+1,op,by omega,by go_num,by rw[HM.out];omega,G2,by rw[HM.out];exact H⟩
       case measure=>simp[intOf];omega
  ·have dj:decide ((j:Int)<(n:Int))=false:=by simp;omega
   have E:=Lib.hid (show zCz ws=op.getLast? by rw[G.out,zL2 (by have:=HN.out;omega)])
   obtain⟨q,cap,rfl,hq1,hq2,hq3⟩:=H.rowShape i_1;unfold maxLen at hq2
   generalize hm:op.length=m at hol H hq1 hq3
   rcases m with _|m
   ·have E2:=Lib.hid (show zJI (zCz ws) = -1 by rw[E.out,List.length_eq_zero_iff.1 hm];rfl)
    clear hm hp hq3
    go_wp2_with (first|fail)
    go_ret;exact⟨reti E2.out.symm,H.below⟩
   ·obtain⟨a,ha,hl⟩:=zOp (l:=op) (fun e=>by rw[e]at hm;simp at hm)
    have E2:=Lib.hid (show zJI (zCz ws)=(a:Int) by rw[E.out,hl];rfl)
    rw[hm,Nat.add_sub_cancel]at ha;have HA:=Lib.hid (zMK ha);obtain⟨g,rfl⟩:=hq3 (by omega)
    have dm:decide ((0:Int)<(m:Int)+1)=true:=by rw[decide_eq_true_iff];omega
    clear hm hp hq3 ha hl
    go_wp2_with (first|((with_reducible refine gL ?_);refine zAE wtd_ _ _ rfl rfl zAI (H.row1 i_1 HA.out) ?_)|fail)
    go_ret;exact⟨reti E2.out.symm,H.below⟩
abbrev pC (p:Option Addr) (n c:Nat) (j g:Nat):Array Value:=#[.slice p n c,.int .i64 (j:Int),.int .i64 (g:Int)]
structure AltPre (pb:Nat) (U:TypeId) (FW:Nat→Prop) (p:Option Addr) (n c:Nat) (ws:List WordD) (j g:Nat) (w:World):Prop where
 cells:w.heap[pb]?=some (.cells (pC p n c j g) U (0,0))
 lt:∀ b,FW b→b<w.heap.size
 ne:¬ FW pb
 words:WKnows FW p n c ws w
 ok:∀ d ∈ ws,zAf d.set
 len:n≤1000
 jn:j≤n
 gn:g≤j
def zG8 (pb:Nat) (U:TypeId) (p:Option Addr) (n c:Nat) (t:Tree) (j g:Nat) (w:World) (e:Ending) (w':World):Prop :=
 KeepBut (·=pb) w.heap.size w w'∧w'.heap[pb]?=some (.cells (pC p n c j g) U (0,0))∧zDg w (fun _=>False) t e w'
theorem chA {M:Nat→Prop} {P:Program} {f:FuncId} {args:Array Value} {w w0:World} {l:List Res} {pb:Nat} {U:TypeId} {p:Option Addr} {n c j g:Nat} {t:Tree} {R:Ending→World→Prop} (k:Calls P f args w (zG8 pb U p n c t j g w)) (H:HoldG M w0 w l) {i:Nat} {cs:Array Value} (hi:At l i (.blk pb cs U))
  (h:∀ q m F w',(∀ b,F b→w0.heap.size≤b)→HoldG M w0 w' (l.set i (.blk pb (pC p n c j g) U)++[.kn F (fun V=>ForestR V F q m t.kids)])→R (.returned (zAl t.d (.slice q t.kids.length m))) w'):Calls P f args w R:=k.mono fun _ w' h'=>by
 obtain⟨hk,hb,q,m,F,rfl,hs,hF⟩:=h';exact h q m F w' (fun b hb=>by rcases(hF b hb).2 with h1|h1;exact Nat.le_trans H.keep.size h1;exact h1.elim) (H.learnBut hi hk hb Still.none hF (fun V hV=>hs.kept hV))
section
variable {M:Nat→Prop} {w0 w:World} {l:List Res}
theorem zPQ {V W:World} {F:Nat→Prop} {b:Nat} {t:Tree} {q:Option Addr} {m:Nat} {T:TypeId} (hb:W.heap[b]?=some (.cells (zAR t.d (.slice q t.kids.length m)) T (0,0))) (hF:ForestR W F q m t.kids) (hV:∀ k,(k=b∨F k)→V.heap[k]?=W.heap[k]?):ForestR V (fun k=>k=b∨F k) (some ⟨b,0,none⟩) 1 [t]:=by
 refine .mk _ _ _ [(t,q,m)] ⟨_,1,rfl,by simp,by decide,(fun h=>by cases h),fun j r hj=>⟨b,0,rfl,.inl rfl,?_,fun k hk=>?_⟩⟩ (fun x hx=>?_) rfl
 ·match j,hj with
  | 0,hj=>simp at hj;subst hj;rfl
 ·match j,hj with
  | 0,hj =>
   simp only[List.map_cons,List.map_nil,List.getElem?_cons_zero,Option.some.injEq]at hj;subst hj;rw[cell_of_row V b _ _ T (0,0) ((hV b (.inl rfl)).trans hb)];simp
 ·rw[List.mem_singleton]at hx;subst hx;exact(hF.mono (fun _ h=>.inr h)).kept hV
theorem HoldG.freshB {pb b i:Nat} {cs ds:Array Value} {U T:TypeId} (H:HoldG (·=pb) w0 w (.blk pb cs U::l)) (hi:At l i (.blk b ds T)):w0.heap.size≤b:=by
 rcases(H.blk (.succ hi)).1 with h|h
 ·exact h
 ·exact(H.apart 0 (i+1) _ _ (by omega) rfl (At.get (.succ hi)) pb rfl (by rw[h];exact rfl)).elim
theorem HoldG.kid (H:HoldG M w0 w l) {i k b:Nat} {F:Nat→Prop} {t:Tree} {q:Option Addr} {m:Nat} {T:TypeId} (hi:At l i (.blk b (zAR t.d (.slice q t.kids.length m)) T)) (hk:At l k (.kn F (fun V=>ForestR V F q m t.kids))) :
  HoldG M w0 w (l.set i (.kn (fun k=>some b=some k) (fun V=>V.heap[b]?=some (.cells (zAR t.d (.slice q t.kids.length m)) T (0,0))))++[.kn (fun k=>k=b∨F k) (fun V=>ForestR V (fun k=>k=b∨F k) (some ⟨b,0,none⟩) 1 [t])]):=by
 have hb:=(H.blk hi).2;have H2:=H.rest hi (fun V=>V.heap[b]?=some (.cells (zAR t.d (.slice q t.kids.length m)) T (0,0))) (fun V hV=>(hV b rfl).trans hb)
 refine H2.also _ _ (fun z hz=>?_) (fun V hV=>zPQ hb (H.kn hk) hV)
 have hil:i<l.length:=(List.getElem?_eq_some_iff.1 hi.get).1;have hne:i≠k:=fun e=>by subst e;have:=hi.get.symm.trans hk.get;cases this
 rcases hz with e|h
 ·exact⟨i,_,by rw[List.getElem?_set,if_pos rfl,if_pos hil],rfl,by rw[e];exact rfl⟩
 ·exact⟨k,.kn F (fun V=>ForestR V F q m t.kids),by rw[List.getElem?_set,if_neg hne];exact hk.get,rfl,h⟩
end
theorem zL0 (pb:Nat) (FW:Nat→Prop) (p:Option Addr) (n c:Nat) (ws:List WordD) (j g:Nat) (f:zAP) (d:WordD) (t:Tree) (j' g':Nat) (w0:World) (hP:AltPre pb 116 FW p n c ws j g w0) (hj':j'<n) (hg1:g+1≤j) (hg':g'≤j')
  (A:∀ w,AltPre pb 116 FW p n c ws j (if d.kind=7 then g else g+1) w→Calls Tryz.prog 42 #[.pointer (some ⟨pb,0,none⟩),zBq (if d.kind=7 then zEc f d else f)] w (zG8 pb 116 p n c t j' g' w)) :
  Calls Tryz.prog 85 #[.pointer (some ⟨pb,0,none⟩),zAd d,zBq f] w0 (zG8 pb 116 p n c (if d.kind=7 then t else zEh (g+1) t) (j'+1) g' w0):=by
 have H:=(HoldG.startB hP.cells).know FW (WKnows FW p n c ws) hP.lt (fun i r h b hb=>by
  match i,h with
  | 0,h=>cases h;cases hb;exact hP.ne) (fun V hV=>hP.words.kept hV)
 simp only[ca]at H;have hlen:=hP.len;have hjn:=hP.jn;have hgn:=hP.gn;have hpre:∀ (g1:Nat) (w:World) (l:List Res),g1≤j→HoldG (·=pb) w0 w (.blk pb (pC p n c j g1) 116::.kn FW (WKnows FW p n c ws)::l)→AltPre pb 116 FW p n c ws j g1 w:=fun g1 w l h1 h=>⟨(h.blk .zero).2,h.knlt i_1,hP.ne,h.kn i_1,hP.ok,hP.len,hP.jn,h1⟩
 have hpre1:∀ (w:World) (l:List Res),HoldG (·=pb) w0 w (.blk pb #[.slice p n c,.int .i64 (j:Int),.int .i64 ((g:Int)+1)] 116::.kn FW (WKnows FW p n c ws)::l)→AltPre pb 116 FW p n c ws j (g+1) w:=fun w l h=>hpre (g+1) w l hg1 h
 by_cases h7:d.kind=7
 ·have d7:((d.kind:Int) == 7)=true:=by rw[beq_iff_eq];omega
  simp only[h7,if_true]at A ⊢;have htu:=fun w=>zHT f d w
  clear h7
  go_enter Tryz.func85,Tryz.ntmps85
  go_wp2_with (first|(first|((with_reducible refine gT ?_);((first|refine aO H ?_|refine aT H ?_);clear H;intro w H;try simp only[nr]at H))|((with_reducible refine gL ?_);(first|refine aG H ?_|refine aD H ?_))|((with_reducible refine gX ?_);(refine bB H ?_;clear H;intro b w H;try simp only[nr]at H))|((with_reducible refine gA ?_);(refine bA H ?_;clear H;intro b w H;try simp only[nr]at H)))|((with_reducible refine ch (htu _) H ?_);clear H;intro w H)|(go_at_call 42;(with_reducible refine chA (A _ (hpre g _ _ (by omega) H)) H .zero ?_);clear H;intro q m F w hF H))
  (refine xc Tryz.results85 H ?_)
  exact⟨H.keep,(H.blk .zero).2,q,m,F,rfl,H.kn (i:=5) i_5,fun b h=>⟨H.knlt i_5 b h,.inl (hF b h)⟩⟩
 ·have d7:((d.kind:Int) == 7)=false:=by rw[beq_eq_false_iff_ne];omega
  simp only[h7,if_false]at A ⊢;clear h7
  go_enter Tryz.func85,Tryz.ntmps85
  go_upto_region 8 with (first|(first|((with_reducible refine gT ?_);((first|refine aO H ?_|refine aT H ?_);clear H;intro w H;try simp only[nr]at H))|((with_reducible refine gL ?_);(first|refine aG H ?_|refine aD H ?_))|((with_reducible refine gX ?_);(refine bB H ?_;clear H;intro b w H;try simp only[nr]at H))|((with_reducible refine gA ?_);(refine bA H ?_;clear H;intro b w H;try simp only[nr]at H)))|(go_at_call 42;(with_reducible refine chA (A _ (hpre1 _ _ H)) H .zero ?_);clear H;intro q m F w hF H))
  go_wp2_with (first|((with_reducible refine gBS ?_);refine zAU wtd_ _ _ _ rfl H (zAR (t.d) (.slice q t.kids.length m)) 30 (by intro W;simp only[ml];(try simp only[pe]);exact zCQ _ _ W) ?_;clear H;intro bk w H;try simp only[nr]at H)|(first|((with_reducible refine gT ?_);((first|refine aO H ?_|refine aT H ?_);clear H;intro w H;try simp only[nr]at H))|((with_reducible refine gL ?_);(first|refine aG H ?_|refine aD H ?_))|((with_reducible refine gZ ?_);refine nbG ?_)))
  (refine xc Tryz.results85 H ?_)
  have hkk:w0.heap.size≤bk:=H.freshB (i:=6) i_6;have H2:=H.kid (i:=7) (k:=5) i_7 i_5;exact⟨H.keep,(H.blk .zero).2,some ⟨bk,0,none⟩,1,_,rfl,(H2.all 8 _ rfl).2 w (fun _ _=>rfl),fun b h=>⟨(H2.all 8 _ rfl).1 b h,.inl (h.elim (fun e=>e ▸ hkk) (hF b))⟩⟩
end
section
open Go.RowKit
def zIg (n0:Nat) (cs:Array Value) (T:TypeId) (v:Value) (W:World):Prop:=∃ b,v=pt b 0∧n0≤b∧W.heap[b]?=some (.cells cs T (0,0))
theorem zGO (n0:Nat) (cs:Array Value) (T:TypeId):zDr (zIg n0 cs T):=fun v w w' ⟨b,e,h1,h2⟩ hb=>⟨b,e,h1,(hb.block b (Array.getElem?_eq_some_iff.1 h2).1).trans h2⟩
theorem zKl {P:Program} {ops:Array Oper} {o:Oper} {a:Act} {w:World} {n0:Nat} {T:TypeId} {cs:Array Value} {D:Prop} (hg:Region.wanted o (yielded ops a.tmps)=true) (hop:o.op=Op.alloc T) (hi:((P.info? T).bind (·.zero)).isSome=true) (hz:zB1 P T=cs) (hn:n0≤w.heap.size) (hD:¬ D:=by decide) :
  zBY P ops o a w (fun v w'=>zIg n0 cs T v w'∧(D→w.heap.size≤blk v)):=by
 subst hz
 cases hi1:P.info? T with
 | none=>simp[hi1]at hi
 | some i0 =>
  cases hz:i0.zero with
  | none=>simp[hi1,hz]at hi
  | some z =>
   have hzc:zB1 P T=z.cells:=by simp[zB1,hi1,hz]
   refine zCm hg (v:=.pointer (some ⟨w.heap.size,0,none⟩)) (w':=w.alloc (.cells (zB1 P T) T)) ?_ ((Below.refl _ w).alloc (Nat.le_refl _) _) ⟨⟨w.heap.size,rfl,hn,World.alloc_heap_new w _⟩,fun h=>(hD h).elim⟩
   rw[hzc];simp[execOp,hop,Instr.alloc,zeroValue,typeInfo,hi1,hz,newVar,newRow]
theorem HoldG.gainB {M:Nat→Prop} {w0 w w':World} {l:List Res} (H:HoldG M w0 w l) (hb:Below w.heap.size w w') {cs:Array Value} {T:TypeId} {v:Value} (h:zIg w.heap.size cs T v w'):∃ b,v=pt b 0∧HoldG M w0 w' (l++[.blk b cs T]):=by
 obtain⟨b,e,h1,h2⟩:=h;refine⟨b,e,(H.call hb).keep,?_,?_⟩
 ·intro j s hs;rw[List.getElem?_append]at hs;split at hs
  ·exact(H.call hb).all j s hs
  ·rcases List.getElem?_eq_some_iff.1 hs with ⟨h3,h4⟩
   simp at h3;simp[h3]at h4;subst h4;exact⟨.inl (Nat.le_trans H.keep.size h1),h2⟩
 ·intro j k s t hjk hs ht;rw[List.getElem?_append]at hs ht;split at hs
  ·split at ht
   ·exact H.apart j k s t hjk hs ht
   ·rcases List.getElem?_eq_some_iff.1 ht with ⟨h3,h4⟩
    simp at h3;simp[h3]at h4;subst h4;intro z hz1 hz2;have:=((H.all j s hs).lt z hz1).2;have e:some b=some z:=hz2
    cases e;omega
  ·rcases List.getElem?_eq_some_iff.1 hs with ⟨h3,h4⟩
   simp at h3;simp[h3]at h4;subst h4;split at ht
   ·intro z hz1 hz2;have:=(H.all k t ht).ltf z hz2
    cases hz1;omega
   ·rcases List.getElem?_eq_some_iff.1 ht with ⟨h5,h6⟩
    simp at h5;omega
def zEV (n0:Nat) (cs:Array Value) (T:TypeId) (v:Value) (W:World):Prop:=∃ b,v=.slice (some ⟨b,0,none⟩) 1 1∧n0≤b∧W.heap[b]?=some (.cells cs T (0,0))
theorem zCS (n0:Nat) (cs:Array Value) (T:TypeId):zDr (zEV n0 cs T):=fun v w w' ⟨b,e,h1,h2⟩ hb=>⟨b,e,h1,(hb.block b (Array.getElem?_eq_some_iff.1 h2).1).trans h2⟩
theorem HoldG.gainS {M:Nat→Prop} {w0 w w':World} {l:List Res} (H:HoldG M w0 w l) (hb:Below w.heap.size w w') {cs:Array Value} {T:TypeId} {v:Value} (h:zEV w.heap.size cs T v w'):∃ b,v=.slice (some ⟨b,0,none⟩) 1 1∧HoldG M w0 w' (l++[.blk b cs T]):=by
 obtain⟨b,e,h1,h2⟩:=h;obtain⟨b',e',H2⟩:=H.gainB hb (v:=.pointer (some ⟨b,0,none⟩)) ⟨b,rfl,h1,h2⟩
 cases e'
 exact⟨b,e,H2⟩
theorem zJB {P:Program} {ops:Array Oper} {o:Oper} {a:Act} {w:World} {n0:Nat} {x:Operand} {TS T:TypeId} {cs:Array Value} {D:Prop} (hg:Region.wanted o (yielded ops a.tmps)=true) (hop:o.op=Op.buildSlice TS 1 #[(0,x)]) (hx:a.eval x=.agg cs)
  (hr:∀ W:World,(Instr.buildSlice TS 1 #[(0,.agg cs)]).run P W=.ok (.slice (some ⟨W.heap.size,0,none⟩) 1 1) (W.alloc (.cells cs T))) (hn:n0≤w.heap.size) (hD:¬ D:=by decide):zBY P ops o a w (fun v w'=>zEV n0 cs T v w'∧(D→w.heap.size≤blk v)):=by
 refine zCm hg (v:=.slice (some ⟨w.heap.size,0,none⟩) 1 1) (w':=w.alloc (.cells cs T)) ?_ ((Below.refl _ w).alloc (Nat.le_refl _) _) ⟨⟨w.heap.size,rfl,hn,World.alloc_heap_new w _⟩,fun h=>(hD h).elim⟩
 simp only[execOp,hop,List.map_toArray,List.map_cons,List.map_nil,hx,Sem.run_bind,hr];rfl
end
end Go.Proofs.YtklcgfkdemifcaaGreatDoor
