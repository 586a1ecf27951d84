/-
  Laws of walks, and walks.
-/
import Derived.Test.YtklcgfkdemifcaaDoorSr7
import Derived.Test.YtklcgfkdemifcaaDoorSr3
import Derived.Test.YtklcgfkdemifcaaDoorSr4
import Derived.Shelf.Strings.Trim
import Derived.Shelf.Small.Utf8
import Derived.Shelf.Small.Strs
import Derived.Shelf.Small.Wraps
import Derived.Shelf.Strings.Search1
import Derived.Shelf.Strings.Search2
import Derived.Shelf.Strings.Search3
import Derived.Shelf.Strings.Cut
import Derived.Shelf.LaysM
import Derived.Shelf.Strings.Shaped
import Derived.Shelf.Strings.Prefix
import Derived.Shelf.Unicode.Decode
import Derived.Shelf.Strings.Runes
import Derived.Shelf.Strings.AsciiSet
import Derived.Shelf.Unicode.DecodeSlow
import Derived.Shelf.Unicode.DecodeAny
import Derived.Test.YtklcgfkdemifcaaDoorProg
import Derived.Test.YtklcgfkdemifcaaDoorSr2
import Derived.MapKept
import Derived.Test.YtklcgfkdemifcaaDoorSr5
set_option linter.unusedVariables false
set_option linter.unusedSimpArgs false
set_option maxRecDepth 100000
set_option maxHeartbeats 16000000
namespace Go.Proofs.YtklcgfkdemifcaaDoor
section
open Go.RowKit Go.Shelf
attribute [local go_sem] Oper.semAt_some
section
variable {M:Nat→Prop} {w0 w wc w':World} {ls l1 l2 l3:List Res} {pb:Nat} {lq:Option Addr} {ln lc last:Nat} {f:zAU} {g og oc:Nat} {pre:List LevM} {F:Nat→Prop} {zs:List TV}
theorem zM6 {P:Program} {fn:FuncId} {args:Array Value} {R:Ending→World→Prop} {Post:World→Ending→World→Prop} (c:HoldG M w0 wc l1→Calls P fn args wc (Post wc)) (H:HoldG M w0 wc ls) (js:List Nat) (hj:js.Nodup) (h1:js.map (fun j=>ls[j]?)=l1.map some)
  (hr:∀ e w',Post wc e w'→e=.returned (.tuple #[])) (hv:∀ w',Post wc (.returned (.tuple #[])) w'→Post w (.returned (.tuple #[])) w') (k:∀ w',Post w (.returned (.tuple #[])) w'→R (.returned (.tuple #[])) w'):Calls P fn args wc R :=
 (c (H.pick js _ hj h1)).mono fun e w' h=>by
  obtain rfl:=hr e w' h;exact k w' (hv w' h)
theorem Turned.viaE {X:List Res} {rF:Nat→Prop} {rS:World→Prop} (H:HoldG M w0 wc ls) {i:Nat} (hi:At ls i (.kn rF rS)) (e1:X=l1) (e2:zBN w l1=rF) (e3:zCB w l1=rS) (T:Turned M w0 wc X l2 w'):Turned M w0 w X l2 w':=by
 subst e2 e3 e1;exact T.via H hi
theorem chT {P:Program} {fn:FuncId} {args:Array Value} {R:Ending→World→Prop} {X:Type} {L2:X→List Res} (c:HoldG M w0 wc l1→Calls P fn args wc fun e w'=>e=.returned (.tuple #[])∧∃ x,Turned M w0 wc l1 (L2 x) w') (H:HoldG M w0 wc ls) (js ks:List Nat) (h1:js.map (fun j=>ls[j]?)=l1.map some) (h3:ks.map (fun j=>ls[j]?)=l3.map some) (hn:(js++ks).Nodup)
  (k:∀ w' x,HoldG M w0 w' (L2 x++l3)→R (.returned (.tuple #[])) w'):Calls P fn args wc R:=by
 have hn':=List.nodup_append.1 hn;exact(c (H.pick js _ hn'.1 h1)).mono fun e w' h=>by
  obtain⟨rfl,x,T⟩:=h;exact k w' x (H.callIn T js ks h1 h3 hn'.2.1 (fun j hj hk=>hn'.2.2 j hj j hk rfl))
theorem zF7 (oq:Option Addr) (oc:Nat) (lvs:List LevM) (at_ gr:Nat) (hn:lvs.length≤1000000) (H0:HoldG M w0 wc (zBH pb lq ln lc last f g oq oc lvs)) :
  Calls Tryd.prog 18 #[.pointer (some ⟨pb,0,none⟩),.int .i64 at_,.int .i64 gr] wc fun e w'=>e=.returned (.tuple #[])∧∃ x:Option Addr × Nat,Turned M w0 wc (zBH pb lq ln lc last f g oq oc lvs) (zBH pb lq ln lc last f g x.1 x.2 (lvs++[newL at_ gr f])) w' :=
 (zMY pb lq ln lc last f g oq oc lvs at_ gr hn H0).mono fun e w' h=>by
  obtain⟨h1,q,c,T⟩:=h;exact⟨h1,(q,c),T⟩
theorem zNn (l2 l:LevM) (a:Nat) (hn:pre.length+1≤1000000) (hi:l2.items.length≤1000000) (ha:l.all.length≤1000000) (hsub:∀ x,x ∈ l.items∨x ∈ l.all→x ∈ zs) (hsub2:∀ x ∈ l2.items,x ∈ zs) (H0:HoldG M w0 w (zDl pb lq ln lc last f g og oc pre l2 l F zs)) :
  Calls Tryd.prog 38 #[.pointer (some ⟨pb,0,none⟩),.int .i64 a] w (zHC M w0 pb lq ln lc last f g og oc pre l2 l F zs w):=by
 by_cases h:l.group=0
 ·exact zMO l2 l a h hn hi ha hsub hsub2 H0
 ·exact zMQ l2 l a (by omega) hn hi ha hsub hsub2 H0
theorem zE4 {d:WordD} {b:Nat} {T:TypeId} {W:World} {ls:List Res} (H:HoldG M w0 W ls) {i:Nat} (hi:At ls i (.blk b (zAg d) T)):W.cell? ⟨b,1,none⟩=some (.int .i64 d.place):=by
 rw[H.cell hi 1];simp[zAg]
theorem zJK (d:WordD):(zAg d).extract 11 (11+(#[.bool d.on.1,.bool d.on.2.1,.bool d.on.2.2]:Array Value).size)=#[.bool d.on.1,.bool d.on.2.1,.bool d.on.2.2]:=rfl
theorem zIM (d:WordD):(zAg d).extract 14 (14+(#[.bool d.off.1,.bool d.off.2.1,.bool d.off.2.2]:Array Value).size)=#[.bool d.off.1,.bool d.off.2.1,.bool d.off.2.2]:=rfl
theorem zMg (d:WordD) (hk:d.kind=6) (oq:Option Addr) (oc:Nat) (lvs:List LevM) (hn:lvs.length≤1000000) (hg:g≤1000000) (H0:HoldG M w0 w (zBH pb lq ln lc last f g oq oc lvs)) :
  Calls Tryd.prog 20 #[.pointer (some ⟨pb,0,none⟩),zAk d] w fun e w'=>e=.returned (.tuple #[])∧∃ q c,Turned M w0 w (zBH pb lq ln lc last f g oq oc lvs) (zBH pb lq ln lc last f (g+1) q c (lvs++[newL d.place (g+1) f])) w':=by
 have H:=H0.framed;clear H0;obtain⟨l1,hl1⟩:∃ l1,zBH pb lq ln lc last f g oq oc lvs=l1:=⟨_,rfl⟩;obtain⟨rF,hrF⟩:∃ rF,zBN w l1=rF:=⟨_,rfl⟩;obtain⟨rS,hrS⟩:∃ rS,zCB w l1=rS:=⟨_,rfl⟩;rw[hl1,hrF,hrS,← hl1]at H;simp only[putL,zBH,zDl,zBA,List.cons_append,List.nil_append]at H;have HR:=Lib.hid (And.intro hl1 (And.intro hrF hrS));clear hl1 hrF hrS;have HK:=Lib.hid hk;clear hk;obtain⟨g',hg'⟩:∃ g',g+1=g':=⟨_,rfl⟩
 rw[hg'];have HG:=Lib.hid hg';clear hg'
 go_enter Tryd.func20,Tryd.ntmps20
 go_upto_region 16 with (first|((with_reducible refine gL ?_);refine zAH wtd_ _ _ rfl rfl zAN (zBS HK.out H (i:=3) i_3) ?_)|((first|((with_reducible refine kgA 3 ?_);refine kA 3 H ?_)|((with_reducible refine kgX 3 ?_);(first|refine kS 3 H ?_|refine kB 3 H ?_)));clear H;intro b3 w H;try simp only[nr]at H)|(first|((with_reducible refine gT ?_);(refine aO H ?_;clear H;intro w H;try simp only[nr]at H))|((with_reducible refine gL ?_);refine aG H ?_)))
 have eg:((g:Int)+1)=(g':Int):=by have:=HG.out;omega
 rw[eg]at H;clear eg;refine wr_ 7 [fun v _=>v=pt pb 0,fun v _=>v=pt b3 1,fun v _=>v=.int .i64 d.place,fun v _=>v=pt pb 0,fun v _=>v=pt pb 0,fun v _=>v=pt pb 5,fun v _=>v=.int .i64 g'] ?ob ?en
 case ob =>
  refine⟨?_,?_,?_,?_,?_,?_,?_,trivial⟩<;>intro A W h
  ·exact zAY rfl rfl (h.f 0)
  ·(have e3:A.eval (.tmp 3)=.pointer (some ⟨b3,0,none⟩):=h.f 3;refine zAB rfl ?_;simp only[execOp,e3];(simp[go_sem]<;>first|done|omega|(rw[IntKind.wrap_i64];omega)|(rw[IntKind.wrap_u8];omega)|(rw[IntKind.wrap_u64];omega)))
  ·exact zAB rfl (zAL rfl (h.d 1 52) (by first|(with_reducible exact zAJ)|(with_reducible exact one_u8)|(with_reducible exact zAZ)|(with_reducible exact zAh)|(with_reducible exact zAe)|(with_reducible exact one_u64)|(with_reducible exact zAV)|(with_reducible exact zAN)|(with_reducible exact zAR)|(with_reducible exact zAM)|(with_reducible exact zAD)|(with_reducible exact zAE)) ((H.call h.below).cell (i:=3) i_3 1)) (by decide)
  ·exact zAY rfl rfl (h.f 0)
  ·(have e54:A.eval (.tmp 54)=.pointer (some ⟨pb,0,none⟩):=h.d 3 54;refine zAB rfl ?_;simp only[execOp,e54];(simp[go_sem]<;>first|done|omega|(rw[IntKind.wrap_i64];omega)|(rw[IntKind.wrap_u8];omega)|(rw[IntKind.wrap_u64];omega)))
  ·(have e55:A.eval (.tmp 55)=.pointer (some ⟨pb,0,none⟩):=h.d 4 55;refine zAB rfl ?_;simp only[execOp,e55];(simp[go_sem]<;>first|done|omega|(rw[IntKind.wrap_i64];omega)|(rw[IntKind.wrap_u8];omega)|(rw[IntKind.wrap_u64];omega)))
  ·exact zAB rfl (zAL rfl (h.d 5 56) (by first|(with_reducible exact zAJ)|(with_reducible exact one_u8)|(with_reducible exact zAZ)|(with_reducible exact zAh)|(with_reducible exact zAe)|(with_reducible exact one_u64)|(with_reducible exact zAV)|(with_reducible exact zAN)|(with_reducible exact zAR)|(with_reducible exact zAM)|(with_reducible exact zAD)|(with_reducible exact zAE)) ((H.call h.below).cell (i:=0) .zero 5)) (by decide)
 case en =>
  intro vals W hbw hv _;simp only[fa,Nat.reduceAdd];rw[e_ hv 0,e_ hv 1,e_ hv 2,e_ hv 3,e_ hv 4,e_ hv 5,e_ hv 6];clear hv
  try simp only[pl]
  replace H:=H.call hbw;clear hbw
  go_wp2_with (first|(go_at_call 18;refine chT (fun h=>zF7 (g:=g') oq oc lvs d.place g' hn h) H (l3:=[.kn rF rS]) [0,1] [2] rfl rfl (by decide) ?_;clear H;intro w x H;simp only[zBH,List.cons_append,List.nil_append]at H)|((first|((with_reducible refine kgA 3 ?_);refine kA 3 H ?_)|((with_reducible refine kgX 3 ?_);(first|refine kS 3 H ?_|refine kB 3 H ?_)));clear H;intro b3 w H;try simp only[nr]at H)|fail)
  obtain⟨h1,h2,h3⟩:=HR.out;rw[← h2,← h3]at H;refine⟨rfl,.tuple #[],resE rfl,rfl,x.1,x.2,?_⟩
  rw[h1];exact Turned.of H (i:=2) i_2 [0,1] (by decide) (by decide) rfl (fun F3 S3 hm b hb=>by simp[zBH]at hm)
theorem zMk (d:WordD) (hk:d.kind=7) (oq:Option Addr) (oc:Nat) (lvs:List LevM) (hn:lvs.length≤1000000) (H0:HoldG M w0 w (zBH pb lq ln lc last f g oq oc lvs)) :
  Calls Tryd.prog 20 #[.pointer (some ⟨pb,0,none⟩),zAk d] w fun e w'=>e=.returned (.tuple #[])∧∃ q c,Turned M w0 w (zBH pb lq ln lc last f g oq oc lvs) (zBH pb lq ln lc last (zHf f d) g q c (lvs++[newL d.place 0 f])) w':=by
 have H:=H0.framed;clear H0;obtain⟨l1,hl1⟩:∃ l1,zBH pb lq ln lc last f g oq oc lvs=l1:=⟨_,rfl⟩;obtain⟨rF,hrF⟩:∃ rF,zBN w l1=rF:=⟨_,rfl⟩;obtain⟨rS,hrS⟩:∃ rS,zCB w l1=rS:=⟨_,rfl⟩;rw[hl1,hrF,hrS,← hl1]at H;simp only[putL,zBH,zDl,zBA,List.cons_append,List.nil_append]at H;have HR:=Lib.hid (And.intro hl1 (And.intro hrF hrS));clear hl1 hrF hrS;have HK:=Lib.hid hk;clear hk
 go_enter Tryd.func20,Tryd.ntmps20
 go_wp2_with (first|((with_reducible refine gL ?_);refine zAH wtd_ _ _ rfl rfl zAN (zBS HK.out H (i:=3) i_3) ?_)|(go_at_call 18;refine chT (fun h=>zF7 oq oc lvs d.place 0 hn h) H (l3:=[.kn rF rS,.blk b3 (zAg d) 65]) [0,1] [2,3] rfl rfl (by decide) ?_;clear H;intro w x H;simp only[zBH,List.cons_append,List.nil_append]at H)|(go_at_call 37;refine zKS (zKn pb _ lq ln lc last g f d.on d.off _ _ (H.blk .zero).2) H .zero ?_;clear H;intro w H;simp only[nrl]at H)|((with_reducible refine gL ?_);refine zDb wtd_ _ _ rfl (k:=11) rfl H (i:=3) i_3 (#[.bool d.on.1,.bool d.on.2.1,.bool d.on.2.2]) zBC (zJK d) ?_)|((with_reducible refine gL ?_);refine zDb wtd_ _ _ rfl (k:=14) rfl H (i:=3) i_3 (#[.bool d.off.1,.bool d.off.2.1,.bool d.off.2.2]) zBC (zIM d) ?_)|((first|((with_reducible refine kgA 3 ?_);refine kA 3 H ?_)|((with_reducible refine kgX 3 ?_);(first|refine kS 3 H ?_|refine kB 3 H ?_)));clear H;intro b3 w H;try simp only[nr]at H)|((with_reducible refine gL ?_);refine aG H ?_))
 obtain⟨h1,h2,h3⟩:=HR.out;rw[← h2,← h3]at H;refine⟨rfl,.tuple #[],resE rfl,rfl,x.1,x.2,?_⟩
 rw[h1];exact Turned.of H (i:=2) i_2 [0,1] (by decide) (by decide) rfl (fun F3 S3 hm b hb=>by simp[zBH]at hm)
theorem zLt (d:WordD) (hk:d.kind=8) (oq:Option Addr) (on oc:Nat) (H0:HoldG M w0 w [blkP pb lq ln lc last f g oq on oc]) :
  Calls Tryd.prog 20 #[.pointer (some ⟨pb,0,none⟩),zAk d] w fun e w'=>e=.returned (.tuple #[])∧Turned M w0 w [blkP pb lq ln lc last f g oq on oc] [blkP pb lq ln lc last (zHf f d) g oq on oc] w':=by
 have H:=H0.framed;clear H0;obtain⟨l1,hl1⟩:∃ l1,[blkP pb lq ln lc last f g oq on oc]=l1:=⟨_,rfl⟩;obtain⟨rF,hrF⟩:∃ rF,zBN w l1=rF:=⟨_,rfl⟩;obtain⟨rS,hrS⟩:∃ rS,zCB w l1=rS:=⟨_,rfl⟩;rw[hl1,hrF,hrS,← hl1]at H;simp only[putL,zBH,zDl,zBA,List.cons_append,List.nil_append]at H;have HR:=Lib.hid (And.intro hl1 (And.intro hrF hrS));clear hl1 hrF hrS;have HK:=Lib.hid hk;clear hk
 go_enter Tryd.func20,Tryd.ntmps20
 go_wp2_with (first|((with_reducible refine gL ?_);refine zAH wtd_ _ _ rfl rfl zAN (zBS HK.out H (i:=2) i_2) ?_)|(go_at_call 37;refine zKS (zKn pb _ lq ln lc last g f d.on d.off _ _ (H.blk .zero).2) H .zero ?_;clear H;intro w H;simp only[nrl]at H)|((with_reducible refine gL ?_);refine zDb wtd_ _ _ rfl (k:=11) rfl H (i:=2) i_2 (#[.bool d.on.1,.bool d.on.2.1,.bool d.on.2.2]) zBC (zJK d) ?_)|((with_reducible refine gL ?_);refine zDb wtd_ _ _ rfl (k:=14) rfl H (i:=2) i_2 (#[.bool d.off.1,.bool d.off.2.1,.bool d.off.2.2]) zBC (zIM d) ?_)|((first|((with_reducible refine kgA 3 ?_);refine kA 3 H ?_)|((with_reducible refine kgX 3 ?_);(first|refine kS 3 H ?_|refine kB 3 H ?_)));clear H;intro b3 w H;try simp only[nr]at H)|fail)
 obtain⟨h1,h2,h3⟩:=HR.out;rw[← h2,← h3]at H;refine⟨rfl,.tuple #[],resE rfl,rfl,?_⟩
 rw[h1];exact Turned.of H (i:=1) i_1 [0] (by decide) (by decide) rfl (fun F3 S3 hm b hb=>by simp at hm)
theorem zMV (d:WordD) (hk:d.kind=9) (l2 l:LevM) (hn:pre.length+1≤1000000) (hi:l2.items.length≤1000000) (ha:l.all.length≤1000000) (hsub:∀ x,x ∈ l.items∨x ∈ l.all→x ∈ zs) (hsub2:∀ x ∈ l2.items,x ∈ zs) (H0:HoldG M w0 w (zDl pb lq ln lc last f g og oc pre l2 l F zs)) :
  Calls Tryd.prog 20 #[.pointer (some ⟨pb,0,none⟩),zAk d] w (zHC M w0 pb lq ln lc last f g og oc pre l2 l F zs w):=by
 have H:=H0.framed;clear H0;obtain⟨l1,hl1⟩:∃ l1,zDl pb lq ln lc last f g og oc pre l2 l F zs=l1:=⟨_,rfl⟩;obtain⟨rF,hrF⟩:∃ rF,zBN w l1=rF:=⟨_,rfl⟩;obtain⟨rS,hrS⟩:∃ rS,zCB w l1=rS:=⟨_,rfl⟩;rw[hl1,hrF,hrS,← hl1]at H;simp only[putL,zBH,zDl,zBA,List.cons_append,List.nil_append]at H;have HR:=Lib.hid (And.intro hl1 (And.intro hrF hrS));clear hl1 hrF hrS;have HK:=Lib.hid hk;clear hk;have HI:=Lib.hid (And.intro hn (And.intro hi (And.intro ha (And.intro hsub hsub2))));clear hn hi ha hsub hsub2
 go_enter Tryd.func20,Tryd.ntmps20
 go_wp2_with (first|((with_reducible refine gL ?_);refine zAH wtd_ _ _ rfl rfl zAN (zBS HK.out H (i:=7) i_7) ?_)|((with_reducible refine gL ?_);refine zAH wtd_ _ _ rfl rfl zAJ (zE4 H (i:=7) i_7) ?_)|(go_at_call 38;refine zM6 (fun h=>zNn l2 l d.place HI.out.1 HI.out.2.1 HI.out.2.2.1 HI.out.2.2.2.1 HI.out.2.2.2.2 h) H [0,1,2,3,4,5] (by decide) rfl (fun _ _ h=>h.1) (fun w' h=>⟨h.1,h.2.choose,h.2.choose_spec.choose,h.2.choose_spec.choose_spec.choose,h.2.choose_spec.choose_spec.choose_spec.choose,h.2.choose_spec.choose_spec.choose_spec.choose_spec.choose,Turned.viaE H i_6 HR.out.1 HR.out.2.1 HR.out.2.2 h.2.choose_spec.choose_spec.choose_spec.choose_spec.choose_spec⟩) ?_;clear H;intro wp hP)|((first|((with_reducible refine kgA 3 ?_);refine kA 3 H ?_)|((with_reducible refine kgX 3 ?_);(first|refine kS 3 H ?_|refine kB 3 H ?_)));clear H;intro b3 w H;try simp only[nr]at H)|fail)
 exact⟨rfl,.tuple #[],resE rfl,hP⟩
theorem zLg (d:WordD) (hk:d.kind=10) (l:LevM) (hn:pre.length≤1000000) (ha:l.all.length≤1000000) (hsub:∀ x,x ∈ l.items∨x ∈ l.all→x ∈ zs) (H0:HoldG M w0 w (zBA og oc pre l F zs++[blkP pb lq ln lc last f g (some ⟨og,0,none⟩) (pre.length+1) oc])) :
  Calls Tryd.prog 20 #[.pointer (some ⟨pb,0,none⟩),zAk d] w fun e w'=>e=.returned (.tuple #[])∧∃ x l4 F',(l4.all=l.all++[x]∧x.1=rowT 4 (l.items.map (·.1))∧l4.items=[]∧l4.group=l.group∧l4.behind=l.behind∧l4.place=l.place)∧Turned M w0 w (zBA og oc pre l F zs++[blkP pb lq ln lc last f g (some ⟨og,0,none⟩) (pre.length+1) oc]) (zBA og oc pre l4 F' (zs++[x])++[blkP pb lq ln lc last f g (some ⟨og,0,none⟩) (pre.length+1) oc]) w':=by
 have H:=H0.framed;clear H0;obtain⟨l1,hl1⟩:∃ l1,zBA og oc pre l F zs++[blkP pb lq ln lc last f g (some ⟨og,0,none⟩) (pre.length+1) oc]=l1:=⟨_,rfl⟩;obtain⟨rF,hrF⟩:∃ rF,zBN w l1=rF:=⟨_,rfl⟩;obtain⟨rS,hrS⟩:∃ rS,zCB w l1=rS:=⟨_,rfl⟩;rw[hl1,hrF,hrS,← hl1]at H;simp only[putL,zBH,zDl,zBA,List.cons_append,List.nil_append]at H;have HR:=Lib.hid (And.intro hl1 (And.intro hrF hrS));clear hl1 hrF hrS
 have HK:=Lib.hid hk;clear hk;have HS:=Lib.hid hsub;clear hsub;have HA:=Lib.hid ha;clear ha;obtain⟨N,hNe⟩:∃ N,NewF w l1=N:=⟨_,rfl⟩;have HNW:=Lib.hid (show ∀ (wc:World) (ls:List Res) (i:Nat),HoldG M w0 wc ls→At ls i (.kn rF rS)→∀ b,wc.heap.size≤b→N b from fun wc ls i H hi=>hNe ▸ H.newer hi HR.out.2.1)
 have HNF:=Lib.hid (show ∀ s ∈ l1,∀ b,s.foot b→N b from fun s hs b hb=>hNe ▸ .inl ⟨s,hs,hb⟩)
 have HNE:=Lib.hid hNe;clear hNe
 go_enter Tryd.func20,Tryd.ntmps20
 go_wp2_with (first|((with_reducible refine gL ?_);refine zAH wtd_ _ _ rfl rfl zAN (zBS HK.out H (i:=6) i_6) ?_)|(go_at_call 22;refine zLh (zEr pb og pre.length oc _ (Array.getElem?_eq_some_iff.1 (H.blk (i:=4) i_4).2).1 hn (H.cell (i:=4) i_4 6)) H ?_;clear H;intro w H)|(go_at_call 39;refine zNw (fun h=>zM1 og oc pre l F zs hn HA.out HS.out h) (H:HoldG M w0 _ (zBA og oc pre l F zs++_)) (N:=N) (fun b hb=>HNF.out (knL F zs) (by rw[← HR.out.1];simp[zBA]) b hb) (fun b hb=>HNF.out (rowN l.iq l.ic l.items) (by rw[← HR.out.1];simp[zBA]) b hb) (HNW.out _ _ 5 H i_5) ?_;clear H;intro w l4 x F' HL HF H)|((first|((with_reducible refine kgA 3 ?_);refine kA 3 H ?_)|((with_reducible refine kgX 3 ?_);(first|refine kS 3 H ?_|refine kB 3 H ?_)));clear H;intro b3 w H;try simp only[nr]at H)|fail)
 simp only[zBA,List.cons_append,List.nil_append]at H;obtain⟨h1,h2,h3⟩:=HR.out;rw[← h2,← h3]at H;refine⟨rfl,.tuple #[],resE rfl,rfl,x,l4,F',HL.out,?_⟩
 rw[h1];refine Turned.of H (i:=5) i_5 [0,1,2,3,4] (by decide) (by decide) rfl (fun F2 S2 hm b hb=>?_)
 simp only[zBA,List.cons_append,List.nil_append,List.mem_cons,List.not_mem_nil,or_false,reduceCtorEq,false_or,Res.kn.injEq]at hm;obtain⟨rfl,_⟩:=hm;have:=HF.out b hb;rw[← HNE.out]at this;exact this
theorem zK9 (d:WordD) (hk:d.kind=11) (l:LevM) (ys:List TV) (x:TV) (hit:l.items=ys++[x]) (hb:zB8 last=false) (hn:pre.length≤1000000) (hi:l.items.length≤1000000) (hsub:∀ x ∈ l.items,x ∈ zs) (H0:HoldG M w0 w (putL pb lq ln lc last f g og oc pre l F zs)) :
  Calls Tryd.prog 20 #[.pointer (some ⟨pb,0,none⟩),zAk d] w (zKl M w0 pb lq ln lc last f g og oc pre l F zs ys x d w):=by
 have H:=H0.framed;clear H0;obtain⟨l1,hl1⟩:∃ l1,putL pb lq ln lc last f g og oc pre l F zs=l1:=⟨_,rfl⟩;obtain⟨rF,hrF⟩:∃ rF,zBN w l1=rF:=⟨_,rfl⟩;obtain⟨rS,hrS⟩:∃ rS,zCB w l1=rS:=⟨_,rfl⟩;rw[hl1,hrF,hrS,← hl1]at H;simp only[putL,zBH,zDl,zBA,List.cons_append,List.nil_append]at H;have HR:=Lib.hid (And.intro hl1 (And.intro hrF hrS));clear hl1 hrF hrS;have HK:=Lib.hid hk;clear hk;have HI:=Lib.hid (And.intro hit (And.intro hb (And.intro hn (And.intro hi hsub))));clear hit hb hn hi hsub
 go_enter Tryd.func20,Tryd.ntmps20
 go_wp2_with (first|((with_reducible refine gL ?_);refine zAH wtd_ _ _ rfl rfl zAN (zBS HK.out H (i:=5) i_5) ?_)|(go_at_call 40;refine zM6 (fun h=>zKy d l ys x HI.out.1 HI.out.2.1 HI.out.2.2.1 HI.out.2.2.2.1 HI.out.2.2.2.2 h) H [0,1,2,3] (by decide) rfl (fun _ _ h=>h.1) (fun w' h=>⟨h.1,h.2.choose,h.2.choose_spec.choose,h.2.choose_spec.choose_spec.choose,Turned.viaE H i_4 HR.out.1 HR.out.2.1 HR.out.2.2 h.2.choose_spec.choose_spec.choose_spec⟩) ?_;clear H;intro wp hP)|((first|((with_reducible refine kgA 3 ?_);refine kA 3 H ?_)|((with_reducible refine kgX 3 ?_);(first|refine kS 3 H ?_|refine kB 3 H ?_)));clear H;intro b3 w H;try simp only[nr]at H)|((with_reducible refine gL ?_);refine aD H ?_))
 exact⟨rfl,.tuple #[],resE rfl,hP⟩
theorem zKs (d:WordD) (hk:d.kind=9) (oq:Option Addr) (oc:Nat) {T:TypeId} (w:World) (h:w.heap[pb]?=some (.cells (psC lq ln lc last f g (.slice oq 1 oc)) T (0,0))) :
  Calls Tryd.prog 20 #[.pointer (some ⟨pb,0,none⟩),zAk d] w fun e w'=>e=.panicked (zCw d.place 4)∧Below w.heap.size w w':=by
 have H:=(Hold.start w).know (·=pb) (fun V=>V.heap[pb]?=some (.cells (psC lq ln lc last f g (.slice oq 1 oc)) T (0,0))) (fun b hb=>by rw[hb];exact(Array.getElem?_eq_some_iff.1 h).1) (fun i r h=>by simp at h) (fun V hV=>by rw[← h];exact hV pb rfl)
 simp only[List.nil_append]at H;clear h;have hc1:∀ V:World,V.heap[pb]?=some (.cells (psC lq ln lc last f g (.slice oq 1 oc)) T (0,0))→V.cell? ⟨pb,1,none⟩=some (.int .i64 last):=fun V h=>by simp[World.cell?,h]
 have hc6:∀ V:World,V.heap[pb]?=some (.cells (psC lq ln lc last f g (.slice oq 1 oc)) T (0,0))→V.cell? ⟨pb,6,none⟩=some (.slice oq 1 oc):=fun V h=>by simp[World.cell?,h]
 have HK:=Lib.hid hk;clear hk
 go_enter Tryd.func20,Tryd.ntmps20
 go_wp2_with (first|((with_reducible refine gL ?_);refine zAH wtd_ _ _ rfl rfl zAN (zBS HK.out H (i:=1) i_1) ?_)|((with_reducible refine gL ?_);refine zAH wtd_ _ _ rfl rfl zAJ (zE4 H (i:=1) i_1) ?_)|(go_at_call 38;refine chP (zJl pb d.place oq oc _ (Array.getElem?_eq_some_iff.1 (H.kn (i:=0) .zero)).1 (hc6 _ (H.kn (i:=0) .zero))) H ?_;clear H;intro w H)|((first|((with_reducible refine kgA 3 ?_);refine kA 3 H ?_)|((with_reducible refine kgX 3 ?_);(first|refine kS 3 H ?_|refine kB 3 H ?_)));clear H;intro b3 w H;try simp only[nr]at H)|fail)
 exact⟨rfl,rfl,H.below⟩
theorem zJt (d:WordD) (hk:d.kind=11) (hb:zB8 last=true) (oq:Option Addr) (on oc:Nat) {T:TypeId} (w:World) (h:w.heap[pb]?=some (.cells (psC lq ln lc last f g (.slice oq on oc)) T (0,0))) :
  Calls Tryd.prog 20 #[.pointer (some ⟨pb,0,none⟩),zAk d] w fun e w'=>e=.panicked (zCw d.place 4)∧Below w.heap.size w w':=by
 have H:=(Hold.start w).know (·=pb) (fun V=>V.heap[pb]?=some (.cells (psC lq ln lc last f g (.slice oq on oc)) T (0,0))) (fun b hb=>by rw[hb];exact(Array.getElem?_eq_some_iff.1 h).1) (fun i r h=>by simp at h) (fun V hV=>by rw[← h];exact hV pb rfl)
 simp only[List.nil_append]at H;clear h;have hc1:∀ V:World,V.heap[pb]?=some (.cells (psC lq ln lc last f g (.slice oq on oc)) T (0,0))→V.cell? ⟨pb,1,none⟩=some (.int .i64 last):=fun V h=>by simp[World.cell?,h]
 have hc6:∀ V:World,V.heap[pb]?=some (.cells (psC lq ln lc last f g (.slice oq on oc)) T (0,0))→V.cell? ⟨pb,6,none⟩=some (.slice oq on oc):=fun V h=>by simp[World.cell?,h]
 have HK:=Lib.hid hk;clear hk
 go_enter Tryd.func20,Tryd.ntmps20
 go_wp2_with (first|((with_reducible refine gL ?_);refine zAH wtd_ _ _ rfl rfl zAN (zBS HK.out H (i:=1) i_1) ?_)|((with_reducible refine gL ?_);refine zAH wtd_ _ _ rfl rfl zAJ (zE4 H (i:=1) i_1) ?_)|(go_at_call 40;refine chP (zH6 pb last d _ (Array.getElem?_eq_some_iff.1 (H.kn (i:=0) .zero)).1 hb (hc1 _ (H.kn (i:=0) .zero))) H ?_;clear H;intro w H)|((first|((with_reducible refine kgA 3 ?_);refine kA 3 H ?_)|((with_reducible refine kgX 3 ?_);(first|refine kS 3 H ?_|refine kB 3 H ?_)));clear H;intro b3 w H;try simp only[nr]at H)|((with_reducible refine gL ?_);refine aD H ?_))
 exact⟨rfl,rfl,H.below⟩
end
end
section
open Go.RowKit
theorem zCX {L:Str}:∀ (f k:Nat) (a b:Bool) (d d':WordD) (e:Nat),zAT L f k a b d=some (d',e)→d'.place=d.place
 | 0,_,_,_,_,_,_,h=>by cases h
 | f+1,k,a,b,d,d',e,h=>by
  rw[zAT]at h;split at h
  ·simp only[]at h;split at h
   ·rw[zCX f _ _ _ _ _ _ h];cases a<;>rfl
   ·split at h
    ·rw[zCX f _ _ _ _ _ _ h];cases a<;>rfl
    ·split at h
     ·rw[zCX f _ _ _ _ _ _ h];cases a<;>rfl
     ·split at h
      ·split at h
       ·cases h
       ·rw[zCX f _ _ _ _ _ _ h]
      ·split at h
       ·split at h
        ·cases h;rfl
        ·cases h
       ·split at h
        ·split at h
         ·cases h;rfl
         ·cases h
        ·cases h
  ·cases h
theorem zIB {L:Str} {i j:Nat} {d:WordD} (h:zBw L i=some (d,j)):d.place=i:=by
 unfold zBw at h;split at h
 ·cases h;rfl
 ·split at h
  ·cases h;rfl
  ·obtain⟨⟨b,e⟩,_,h2⟩:=Option.map_eq_some_iff.1 h
   cases h2;rfl
theorem zIJ {L:Str} {i j:Nat} {d:WordD} (h:zCZ L i=some (d,j)):d.place=i:=by
 unfold zCZ at h;obtain⟨⟨b,e⟩,_,h2⟩:=Option.map_eq_some_iff.1 h
 cases h2;rfl
theorem zC5 {L:Str} {i e j:Nat} {lo hi:Int} {d:WordD} (h:zAj L i lo hi e=.ok (d,j)):d.place=i:=by
 unfold zAj at h;split at h
 ·cases h
 ·split at h<;>(cases h;rfl)
theorem zIU {L:Str} {i j:Nat} {d:WordD} (h:zBc L i=.ok (d,j)):d.place=i:=by
 unfold zBc at h;simp only[]at h;split at h
 ·exact zIB (zEO h)
 ·split at h
  ·exact zIJ (zEO h)
  ·split at h
   ·split at h
    ·exact zCX _ _ _ _ _ _ _ (zEO h)
    ·cases h;rfl
   ·split at h
    ·split at h
     ·exact zC5 h
     ·cases h;rfl
    ·split at h
     ·exact zC5 h
     ·split at h
      ·exact zC5 h
      ·split at h
       ·exact zC5 h
       ·split at h<;>(cases h;rfl)
def zBV (w:WordD):Prop:=1≤w.kind∧w.kind≤11∧(w.kind=5→8≤w.spot∧w.spot≤13)∧(w.kind=11→0≤w.lo∧w.lo≤100∧w.hi≤100∧(w.hi = -1∨w.lo≤w.hi))
theorem zGn {w:WordD} (k:Nat) (hk:w.kind=k) (h:1≤k∧k≤11∧k≠5∧k≠11:=by decide):zBV w:=⟨by omega,by omega,fun h=>by omega,fun h=>by omega⟩
theorem zIS {w:WordD} (h1:1≤w.kind) (h2:w.kind≤11) (h5:w.kind≠5) (h11:w.kind≠11):zBV w:=⟨h1,h2,fun h=>absurd h h5,fun h=>absurd h h11⟩
theorem zJc {L:Str} {i e:Nat} {d:WordD} (h:zCZ L i=some (d,e)):zBV d:=by
 unfold zCZ at h;obtain⟨⟨S,e1⟩,_,h2⟩:=Option.map_eq_some_iff.1 h
 cases h2
 exact zGn 1 rfl
theorem zG2 {L:Str}:∀ (f k:Nat) (off opn:Bool) (w d:WordD) (e:Nat),zAT L f k off opn w=some (d,e)→zBV d
 | 0,_,_,_,_,_,_,h=>by simp[zAT]at h
 | f+1,k,off,opn,w,d,e,h=>by
  unfold zAT at h;have IH:=fun k off opn w=>zG2 (L:=L) f k off opn w d e
  dsimp only at h
  split at h
  ·split at h
   ·exact IH _ _ _ _ h
   split at h
   ·exact IH _ _ _ _ h
   split at h
   ·exact IH _ _ _ _ h
   split at h
   ·split at h
    ·cases h
    ·exact IH _ _ _ _ h
   split at h
   ·split at h
    ·cases h;exact zIS (by show 1≤7;decide) (by show 7≤11;decide) (by show 7≠5;decide) (by show 7≠11;decide)
    ·cases h
   split at h
   ·split at h
    ·cases h;exact zIS (by show 1≤8;decide) (by show 8≤11;decide) (by show 8≠5;decide) (by show 8≠11;decide)
    ·cases h
   ·cases h
  ·cases h
theorem zJ9 {L:Str} {i e:Nat} {d:WordD} (h:zBw L i=some (d,e)):zBV d:=by
 unfold zBw at h;split at h
 ·cases h;exact zGn 1 rfl
 ·split at h
  ·rename_i k hk
   cases h
   refine⟨by show 1≤5;decide,by show 5≤11;decide,fun _=>?_,fun h=>absurd h (by show 5≠11;decide)⟩
   show 8≤k∧k≤13
   split at hk
   ·unfold zGZ at hk;split at hk
    ·cases hk;decide
    split at hk
    ·cases hk;decide
    split at hk
    ·cases hk;decide
    split at hk
    ·cases hk;decide
    ·cases hk
   ·cases hk
  ·obtain⟨⟨b,e1⟩,_,h2⟩:=Option.map_eq_some_iff.1 h
   cases h2;exact zGn 1 rfl
theorem zDi {L:Str} {i k e:Nat} {lo hi:Int} {d:WordD} (hlo:0≤lo) (hhi : -1≤hi) (h:zAj L i lo hi k=.ok (d,e)):zBV d:=by
 unfold zAj at h;split at h
 ·cases h
 ·rename_i hc;have key:0≤lo∧lo≤100∧hi≤100∧(hi = -1∨lo≤hi):=by omega
  split at h<;>(cases h;exact⟨by show 1≤11;decide,by show 11≤11;decide,fun h=>absurd h (by show 11≠5;decide),fun _=>key⟩)
theorem zK3 {L:Str} {i e:Nat} {n:Nat} {hi:Int} (h:zC0 L i=some (n,hi,e)) : -1≤hi:=by
 unfold zC0 at h;split at h
 ·cases h
 ·split at h
  ·cases h;decide
  split at h
  ·split at h
   ·cases h
   ·split at h
    ·cases h;omega
    ·cases h
  split at h
  ·cases h;omega
  ·cases h
theorem zLZ {L:Str} {i e:Nat} {d:WordD} (h:zBc L i=.ok (d,e)):zBV d:=by
 unfold zBc at h
 dsimp only at h
 split at h
 ·exact zJ9 (zDF h)
 split at h
 ·exact zJc (zDF h)
 split at h
 ·split at h
  ·have h:=zDF h;unfold zBU at h;exact zG2 _ _ _ _ _ _ _ h
  ·cases h;exact zGn 6 rfl
 split at h
 ·split at h
  ·rename_i hb;exact zDi (by omega) (zK3 hb) h
  ·cases h;exact zGn 1 rfl
 split at h
 ·exact zDi (by decide) (by decide) h
 split at h
 ·exact zDi (by decide) (by decide) h
 split at h
 ·exact zDi (by decide) (by decide) h
 split at h
 ·rename_i k hk
  cases h
  unfold zJq at hk;have:k=2∨k=3∨k=4∨k=9∨k=10:=by
   repeat' split at hk
   all_goals first|(cases hk;omega)|cases hk
  exact zIS (by show 1≤k;omega) (by show k≤11;omega) (by show k≠5;omega) (by show k≠11;omega)
 ·cases h;exact zGn 1 rfl
theorem zFL {L:Str}:∀ (f i:Nat) (ws:List WordD),zA9 L f i=.ok ws→∀ d ∈ ws,zBV d
 | 0,i,ws,h=>by
  unfold zA9 at h;split at h
  ·cases h
  ·cases h;intro d hd;cases hd
 | f+1,i,ws,h=>by
  unfold zA9 at h;split at h
  ·split at h
   ·cases h
   ·rename_i w j hw;split at h
    ·cases h
    ·rename_i l hl
     cases h
     intro d hd;rcases List.mem_cons.1 hd with rfl|hd
     ·exact zLZ hw
     ·exact zFL f j l hl d hd
  ·cases h;intro d hd;cases hd
theorem zGc {L:Str} {ws:List WordD} (h:zCt L=.ok ws):∀ d ∈ ws,zBV d:=by
 unfold zCt at h;split at h
 ·cases h
 ·exact zFL _ _ _ h
def zOV (d:NodeD) (n:Nat) (g g1:Int):Prop :=
 (d.kind=3∧n=0∧eqS d.set zAF=false∧d.lo=0∧d.hi=0∧d.lazy=false∧d.group=0∧g1=g) ∨
 ((d.kind=4∨d.kind=5)∧2≤n∧d.set=zAF∧d.lo=0∧d.hi=0∧d.lazy=false∧d.group=0∧g1=g) ∨
 (d.kind=6∧n=1∧d.set=zAF∧0≤d.lo∧d.lo≤100∧d.hi≤100∧(d.hi = -1∨d.lo≤d.hi)∧d.group=0∧g1=g) ∨
 (d.kind=7∧n=1∧d.set=zAF∧d.lo=0∧d.hi=0∧d.lazy=false∧d.group=g+1∧g1=g+1) ∨
 ((d.kind=1∨d.kind=2∨8≤d.kind∧d.kind≤13)∧n=0∧d.set=zAF∧d.lo=0∧d.hi=0∧d.lazy=false∧d.group=0∧g1=g)
mutual
def zCR:Tree→Int→Int→Prop
 | .mk d ks,g,g2=>∃ g1,zOV d ks.length g g1∧zAr ks g1 g2
def zAr:List Tree→Int→Int→Prop
 | [],g,g2=>g2=g
 | t::r,g,g2=>∃ g1,zCR t g g1∧zAr r g1 g2
end
theorem zBR:∀ (a b:List Tree) (g g1 g2:Int),zAr a g g1→zAr b g1 g2→zAr (a++b) g g2
 | [],b,g,g1,g2,h1,h2=>by simp only[zAr]at h1;subst h1;exact h2
 | t::r,b,g,g1,g2,⟨g3,h3,h4⟩,h2=>⟨g3,h3,zBR r b g3 g1 g2 h4 h2⟩
theorem zDN:∀ (a b:List Tree) (g g2:Int),zAr (a++b) g g2→∃ g1,zAr a g g1∧zAr b g1 g2
 | [],b,g,g2,h=>⟨g,by simp only[zAr],h⟩
 | t::r,b,g,g2,⟨g3,h3,h4⟩=>by
  obtain⟨g1,h5,h6⟩:=zDN r b g3 g2 h4;exact⟨g1,⟨g3,h3,h5⟩,h6⟩
theorem zCW {t:Tree} {g g2:Int} (h:zCR t g g2):zAr [t] g g2:=⟨g2,h,by simp only[zAr]⟩
theorem zF1 {t:Tree} {g g2:Int} (h:zAr [t] g g2):zCR t g g2:=by
 obtain⟨g1,h1,h2⟩:=h;simp only[zAr]at h2;subst h2;exact h1
theorem zD9 (k:Int) (g:Int) (h:k=1∨k=2∨8≤k∧k≤13):zCR (zDV k) g g :=
 ⟨g,.inr (.inr (.inr (.inr ⟨h,rfl,rfl,rfl,rfl,rfl,rfl,rfl⟩))),by simp only[zAr]⟩
theorem zFb {k:Int} {ts:List Tree} {g g2:Int} (hk:k=4∨k=5) (h:zAr ts g g2):zCR (rowT k ts) g g2:=by
 match ts,h with
 | [],h =>
  simp only[zAr]at h;subst h;exact zD9 1 _ (.inl rfl)
 | [t],h=>exact zF1 h
 | a::b::r,h=>exact⟨g,.inr (.inl ⟨hk,by simp,rfl,rfl,rfl,rfl,rfl,rfl⟩),h⟩
theorem zHH (s:Nat→Nat) (g:Int):zCR (setT s) g g:=by
 unfold setT;split
 ·exact zD9 2 _ (.inr (.inl rfl))
 ·rename_i h;exact⟨g,.inl ⟨rfl,rfl,by simpa using h,rfl,rfl,rfl,rfl,rfl⟩,by simp only[zAr]⟩
theorem zL3 (b:Bool) (s u:Nat→Nat) (g:Int):zCR (if b=true then setT s else setT u) g g:=by
 cases b
 ·simp only[Bool.false_eq_true,if_false];exact zHH u g
 ·simp only[if_true];exact zHH s g
theorem zK1 {w:WordD} (hw:zBV w) (h6:w.kind≠6) (h7:w.kind≠7) (h8:w.kind≠8) (h9:w.kind≠9) (h10:w.kind≠10) (h11:w.kind≠11) (f:zAU) (g:Int):zCR (zCy w f) g g:=by
 obtain⟨k1,k2,k5,_⟩:=hw;unfold zCy;split
 ·exact zHH _ _
 split
 ·exact zL3 _ _ _ _
 split
 ·unfold zFX;exact zD9 _ _ (by split<;>decide)
 split
 ·unfold zFX;exact zD9 _ _ (by split<;>decide)
 ·have:=k5 (by omega)
  exact zD9 _ _ (by omega)
theorem zL6 {w:WordD} (hw:zBV w) (h11:w.kind=11) {x:Tree} {g g2:Int} (h:zCR x g g2):zCR (repT w x) g g2:=by
 obtain⟨r1,r2,r3,r4⟩:=hw.2.2.2 h11;exact⟨g,.inr (.inr (.inl ⟨rfl,rfl,rfl,r1,r2,r3,r4,rfl,rfl⟩)),zCW h⟩
theorem zJw {k:Nat} {x:Tree} {g2:Int} (h:zCR x ((k+1:Nat):Int) g2):zCR (zFO (k+1) x) (k:Int) g2 :=
 ⟨((k+1:Nat):Int),.inr (.inr (.inr (.inl ⟨rfl,rfl,rfl,rfl,rfl,rfl,by show ((k+1:Nat):Int)=_;omega,by omega⟩))),zCW h⟩
theorem zFP:∀ (m:Nat) (f:zAU) (r:List WordD) (g:Nat) (all items:List Tree) (t:Tree) (r':List WordD) (g':Nat),zBy m f r g all items=some (t,r',g')→r' <:+ r
 | 0,f,r,g,all,items,t,r',g',h=>by simp[zBy]at h
 | m+1,f,[],g,all,items,t,r',g',h=>by
  simp only[zBy,Option.some.injEq,Prod.mk.injEq]at h;obtain⟨_,rfl,rfl⟩:=h;exact List.suffix_refl _
 | m+1,f,w::r,g,all,items,t,r',g',h=>by
  have IH:=zFP m;have hs:r <:+ w::r:=List.suffix_cons w r;unfold zBy at h;split at h
  ·simp only[Option.some.injEq,Prod.mk.injEq]at h;obtain⟨_,rfl,rfl⟩:=h;exact List.suffix_refl _
  split at h
  ·exact(IH _ _ _ _ _ _ _ _ h).trans hs
  split at h
  ·exact(IH _ _ _ _ _ _ _ _ h).trans hs
  split at h
  ·split at h
   ·cases h
   ·exact(IH _ _ _ _ _ _ _ _ h).trans hs
  split at h
  ·split at h
   ·rename_i t1 d1 r1 g1 h1;exact((IH _ _ _ _ _ _ _ _ h).trans (List.suffix_cons d1 r1)).trans ((IH _ _ _ _ _ _ _ _ h1).trans hs)
   ·cases h
  split at h
  ·split at h
   ·rename_i t1 d1 r1 g1 h1;exact((IH _ _ _ _ _ _ _ _ h).trans (List.suffix_cons d1 r1)).trans ((IH _ _ _ _ _ _ _ _ h1).trans hs)
   ·cases h
  ·exact(IH _ _ _ _ _ _ _ _ h).trans hs
theorem zGx:∀ (m:Nat) (f:zAU) (r:List WordD) (g:Nat) (all items:List Tree) (t:Tree) (r':List WordD) (g':Nat),zBy m f r g all items=some (t,r',g')→(∀ w ∈ r,zBV w)→∀ g0:Int,zAr (all++items) g0 g→zCR t g0 g'
 | 0,f,r,g,all,items,t,r',g',h=>by simp[zBy]at h
 | m+1,f,[],g,all,items,t,r',g',h=>by
  simp only[zBy,Option.some.injEq,Prod.mk.injEq]at h;obtain⟨rfl,rfl,rfl⟩:=h;intro _ g0 hw;obtain⟨g1,h1,h2⟩:=zDN _ _ _ _ hw;exact zFb (.inr rfl) (zBR _ _ _ _ _ h1 (zCW (zFb (.inl rfl) h2)))
 | m+1,f,w::r,g,all,items,t,r',g',h=>by
  have IH:=zGx m;intro hf g0 hw;have hw0:=hf w (List.mem_cons_self ..);have hr:∀ x ∈ r,zBV x:=fun x hx=>hf x (List.mem_cons_of_mem _ hx)
  obtain⟨g1,h1,h2⟩:=zDN _ _ _ _ hw;have hrow:zAr (all++[rowT 4 items]) g0 g:=zBR _ _ _ _ _ h1 (zCW (zFb (.inl rfl) h2));have sub:∀ {f g all items t d r1 g1},zBy m f r g all items=some (t,d::r1,g1)→∀ x ∈ r1,zBV x:=fun e x hx=>by
   have:=(zFP _ _ _ _ _ _ _ _ _ e).subset (List.mem_cons_of_mem _ hx);exact hr x this
  unfold zBy at h;split at h
  ·simp only[Option.some.injEq,Prod.mk.injEq]at h;obtain⟨rfl,rfl,rfl⟩:=h;exact zFb (.inr rfl) hrow
  rename_i h9;split at h
  ·exact IH _ _ _ _ _ _ _ _ h hr g0 hw
  rename_i h8;split at h
  ·exact IH _ _ _ _ _ _ _ _ h hr g0 (by simpa using hrow)
  rename_i h10;split at h
  ·rename_i h11;split at h
   ·cases h
   ·rename_i x hx;rcases List.eq_nil_or_concat items with rfl|⟨ys,y,rfl⟩
    ·simp at hx
    ·simp only[List.concat_eq_append]at *;simp at hx;subst hx;obtain⟨g2,h3,h4⟩:=zDN _ _ _ _ h2;refine IH _ _ _ _ _ _ _ _ h hr g0 ?_
     rw[List.dropLast_concat];exact zBR _ _ _ _ _ h1 (zBR _ _ _ _ _ h3 (zCW (zL6 hw0 h11 (zF1 h4))))
  rename_i h11;split at h
  ·split at h
   ·rename_i t1 d1 r1 g3 e1;have a:=IH _ _ _ _ _ _ _ _ e1 hr g (by simp only[List.append_nil,zAr])
    refine IH _ _ _ _ _ _ _ _ h (sub e1) g0 ?_
    rw[← List.append_assoc];exact zBR _ _ _ _ _ hw (zCW a)
   ·cases h
  rename_i h7;split at h
  ·split at h
   ·rename_i t1 d1 r1 g3 e1;have a:=IH _ _ _ _ _ _ _ _ e1 hr ((g+1:Nat):Int) (by simp only[List.append_nil,zAr])
    refine IH _ _ _ _ _ _ _ _ h (sub e1) g0 ?_
    rw[← List.append_assoc];exact zBR _ _ _ _ _ hw (zCW (zJw a))
   ·cases h
  rename_i h6;refine IH _ _ _ _ _ _ _ _ h hr g0 ?_
  rw[← List.append_assoc];exact zBR _ _ _ _ _ hw (zCW (zK1 hw0 h6 h7 h8 h9 h10 h11 f _))
theorem zJY {L:Str} {f:zAU} {t:Tree} {g:Nat} (h:zCK L f=.ok (t,g)):zCR t 0 g∧g≤20∧zAl t≤2000∧zC8 t≤50:=by
 unfold zCK at h;split at h
 ·cases h
 ·rename_i ws hws;split at h
  ·cases h
  ·split at h
   ·cases h
   ·rename_i t' r' g' ha;split at h
    ·cases h
    ·split at h
     ·cases h
     ·cases h
      exact⟨zGx _ _ _ _ _ _ _ _ _ ha (zGc hws) 0 (by simp only[List.append_nil,zAr];rfl),by omega,by omega,by omega⟩
theorem zG5 {L:Str}:∀ (f i:Nat) (ws:List WordD),zA9 L f i=.ok ws→∀ d ∈ ws,d.place<L.length
 | 0,i,ws,h=>by
  unfold zA9 at h;split at h
  ·cases h
  ·cases h;intro d hd;cases hd
 | f+1,i,ws,h=>by
  unfold zA9 at h;split at h
  ·rename_i hlt;split at h
   ·cases h
   ·rename_i w j hw;split at h
    ·cases h
    ·rename_i l hl
     cases h
     intro d hd;rcases List.mem_cons.1 hd with rfl|hd
     ·rw[zIU hw];exact hlt
     ·exact zG5 f j l hl d hd
  ·cases h;intro d hd;cases hd
theorem zGh {L:Str}:∀ (f i:Nat) (p x:Nat),L.length≤f+i→zA9 L f i=.error (p,x)→p<L.length∧(x=4∨x=6)
 | 0,i,p,x,hf,h=>by
  unfold zA9 at h;rw[if_neg (by omega)]at h;cases h
 | f+1,i,p,x,hf,h=>by
  unfold zA9 at h;split at h
  ·rename_i hlt;split at h
   ·rename_i e he
    cases h
    exact⟨hlt,zHj he⟩
   ·rename_i w j hw;have hj:=zJB hlt hw;split at h
    ·rename_i y hy
     cases h
     exact zGh f j p x (by omega) hy
    ·cases h
  ·cases h
theorem zGE:∀ (r:List WordD) (b:Bool) (op:List Nat) (a:Nat),zBF b op r=some a→a ∈ op∨∃ w ∈ r,w.place=a
 | [],b,op,a,h=>by
  rw[zBF]at h;exact .inl (List.mem_of_getLast? h)
 | w::r,b,op,a,h=>by
  rw[zBF]at h;split at h
  ·cases h;exact .inr ⟨w,List.mem_cons_self ..,rfl⟩
  ·dsimp only at h
   have h0:∀ x ∈ (if zBY w=true then op++[w.place] else op),x ∈ op∨x=w.place:=by
    intro x hx;split at hx
    ·rcases List.mem_append.1 hx with hx|hx
     ·exact .inl hx
     ·exact .inr (by simpa using hx)
    ·exact .inl hx
   rcases zGE r _ _ a h with h1|⟨d,hd,e⟩
   ·have h2:a ∈ (if zBY w=true then op++[w.place] else op):=by
     split at h1
     ·exact(List.dropLast_subset _ h1)
     ·exact h1
    rcases h0 a h2 with h3|h3
    ·exact .inl h3
    ·exact .inr ⟨w,List.mem_cons_self ..,h3.symm⟩
   ·exact .inr ⟨d,List.mem_cons_of_mem _ hd,e⟩
theorem zHz {L:Str} {f:zAU} {a x:Nat} (h:zCK L f=.error (a,x)):x≠0∧x≠2∧(a<L.length∨a=0):=by
 unfold zCK at h;split at h
 ·rename_i y hy
  cases h
  unfold zCt at hy;split at hy
  ·cases hy;exact⟨by decide,by decide,.inr rfl⟩
  ·obtain⟨h1,h2⟩:=zGh _ _ _ _ (by omega) hy
   exact⟨by omega,by omega,.inl h1⟩
 ·rename_i ws hws;split at h
  ·rename_i b hb
   cases h
   refine⟨by decide,by decide,.inl ?_⟩
   rcases zGE _ _ _ _ hb with h1|⟨w,hw,e⟩
   ·cases h1
   ·subst e;unfold zCt at hws;split at hws
    ·cases hws
    ·exact zG5 _ _ _ hws w hw
  ·rename_i hb;split at h
   ·rename_i hn;obtain⟨t,g,ht⟩:=zGm f hb;rw[ht]at hn;cases hn
   ·split at h
    ·cases h;exact⟨by decide,by decide,.inr rfl⟩
    ·split at h
     ·cases h;exact⟨by decide,by decide,.inr rfl⟩
     ·cases h
end
section
open Go.RowKit Go.Shelf
section
variable {M:Nat→Prop} {w0 w w':World} {l l1 l2 R A B:List Res}
theorem HoldG.perms (H:HoldG M w0 w l) (p:l.Perm l2):HoldG M w0 w l2:=by
 have hp:l.Pairwise (fun r s=>zJd r s∧zJd s r):=by
  rw[List.pairwise_iff_getElem];intro i j hi hj hij;exact⟨H.apart i j _ _ (by omega) (List.getElem?_eq_getElem hi) (List.getElem?_eq_getElem hj),H.apart j i _ _ (by omega) (List.getElem?_eq_getElem hj) (List.getElem?_eq_getElem hi)⟩
 have hp2:=hp.perm p (fun h=>⟨h.2,h.1⟩)
 rw[List.pairwise_iff_getElem]at hp2;refine⟨H.keep,fun i r h=>?_,fun i j r s hij hr hs=>?_⟩
 ·obtain⟨k,hk⟩:=List.getElem?_of_mem (p.symm.subset (List.mem_of_getElem? h));exact H.all k r hk
 ·obtain⟨h1,rfl⟩:=List.getElem?_eq_some_iff.1 hr;obtain⟨h2,rfl⟩:=List.getElem?_eq_some_iff.1 hs;rcases Nat.lt_or_ge i j with h|h
  ·exact(hp2 i j h1 h2 h).1
  ·exact(hp2 j i h2 h1 (by omega)).2
theorem HoldG.left (H:HoldG M w0 w (l1++R)):HoldG M w0 w l1 :=
 ⟨H.keep,fun i r h=>H.all i r (by rw[List.getElem?_append_left (List.getElem?_eq_some_iff.1 h).1];exact h),fun i j r s hij hr hs=>H.apart i j r s hij (by rw[List.getElem?_append_left (List.getElem?_eq_some_iff.1 hr).1];exact hr) (by rw[List.getElem?_append_left (List.getElem?_eq_some_iff.1 hs).1];exact hs)⟩
theorem Turned.frame (H:HoldG M w0 w (l1++R)) (T:Turned M w0 w l1 l2 w'):Turned M w0 w (l1++R) (l2++R) w':=by
 have hr:∀ b,zBN w (l1++R) b→zBN w l1 b:=fun b h=>⟨h.1,fun r hr=>h.2 r (List.mem_append_left _ hr)⟩
 refine⟨H.callL T,fun b hb=>T.rest b (hr b hb),fun b hb=>T.lt b (hr b hb),fun r h b hp=>?_,fun r h b hp=>?_⟩
 ·rcases List.mem_append.1 h with h|h
  ·exact(T.place r h b hp).imp (fun ⟨s,hs,e⟩=>⟨s,List.mem_append_left _ hs,e⟩) id
  ·exact .inl ⟨r,List.mem_append_right _ h,hp⟩
 ·rcases List.mem_append.1 h with h|h
  ·exact(T.foot r h b hp).imp (fun ⟨s,hs,e⟩=>⟨s,List.mem_append_left _ hs,e⟩) id
  ·exact .inl ⟨r,List.mem_append_right _ h,hp⟩
theorem Turned.perm (p1:A.Perm l1) (p2:B.Perm l2) (T:Turned M w0 w l1 l2 w'):Turned M w0 w A B w':=by
 have hr:∀ b,zBN w A b→zBN w l1 b:=fun b h=>⟨h.1,fun r hr=>h.2 r (p1.symm.subset hr)⟩
 exact⟨T.hold.perms p2.symm,fun b hb=>T.rest b (hr b hb),fun b hb=>T.lt b (hr b hb),fun r h b hp=>(T.place r (p2.subset h) b hp).imp (fun ⟨s,hs,e⟩=>⟨s,p1.symm.subset hs,e⟩) id,fun r h b hp=>(T.foot r (p2.subset h) b hp).imp (fun ⟨s,hs,e⟩=>⟨s,p1.symm.subset hs,e⟩) id⟩
theorem Turned.lift (H:HoldG M w0 w A) (p1:A.Perm (l1++R)) (p2:B.Perm (l2++R)) (T:Turned M w0 w l1 l2 w'):Turned M w0 w A B w':=(T.frame (H.perms p1)).perm p1 p2
theorem Turned.addNil (T:Turned M w0 w l1 l2 w') (e:TypeId) (sz:Nat):Turned M w0 w l1 (l2++[.row (.slice none 0 0) e sz 0 []]) w':=by
 refine⟨T.hold.addNil e sz,T.rest,T.lt,fun r h b hp=>?_,fun r h b hp=>?_⟩
 ·rcases List.mem_append.1 h with h|h
  ·exact T.place r h b hp
  ·rw[List.mem_singleton]at h;subst h;simp[Res.place,Value.ownBlock]at hp
 ·rcases List.mem_append.1 h with h|h
  ·exact T.foot r h b hp
  ·rw[List.mem_singleton]at h;subst h;simp[Res.foot,Value.ownBlock]at hp
theorem zMJ {α:Type} (b r k i a:α) (X:List α):(b::r::k::(X++[i,a])).Perm ([b,r,k,i]++(X++[a])):=.cons _ (.cons _ (.cons _ List.perm_middle))
theorem zJP {α:Type} (b r k i a:α) (X:List α):(b::r::k::(X++[i,a])).Perm ([r,k,i,a,b]++X):=by
 have h1:(r::k::(X++[i,a])).Perm ([r,k,i,a]++X):=.cons _ (.cons _ List.perm_append_comm);have h2:(b::([r,k,i,a]++X)).Perm ([r,k,i,a]++b::X):=List.perm_middle.symm;exact(h1.cons b).trans h2
theorem zLI {α:Type} (b r k i2 a2 i a:α) (X:List α):(b::r::k::(X++[i2,a2]++[i,a])).Perm ([r,k,i,a,b,i2]++(X++[a2])):=by
 refine(zJP b r k i a (X++[i2,a2])).trans ?_
 exact .cons _ (.cons _ (.cons _ (.cons _ (.cons _ List.perm_middle))))
end
def zDT (ls:List LevM):List Res:=ls.flatMap fun l=>[rowN l.iq l.ic l.items,rowN l.aq l.ac l.all]
theorem zEI (ls:List LevM) (l:LevM):zDT (ls++[l])=zDT ls++[rowN l.iq l.ic l.items,rowN l.aq l.ac l.all]:=by simp[zDT]
def psL (pb:Nat) (lq:Option Addr) (ln lc last:Nat) (f:zAU) (g:Nat) (oq:Option Addr) (oc:Nat) (ls:List LevM) (F:Nat→Prop) (zs:List TV):List Res :=
 blkP pb lq ln lc last f g oq ls.length oc::rowL oq ls.length oc ls::knL F zs::zDT ls
structure LevsOk (ls:List LevM) (zs:List TV) (j:Nat):Prop where
 sub:∀ l ∈ ls,∀ x,x ∈ l.items∨x ∈ l.all→x ∈ zs
 len:ls.length≤j+1
 cnt:∀ l ∈ ls,l.items.length≤j∧l.all.length≤j
def opOf (ls:List LevM):List LevP:=(ls.map LevM.plain).reverse
theorem zBi (ls:List LevM) (l:LevM):opOf (ls++[l])=l.plain::opOf ls:=by simp[opOf]
def zDH (M:Nat→Prop) (w0:World) (pb:Nat) (lq:Option Addr) (ln lc:Nat) (s:StP) (d:WordD) (A:List Res) (j:Nat) (w:World) (e:Ending) (w':World):Prop :=
 match zBx s d with
 | .ok s'=>e=.returned (.tuple #[])∧∃ oq oc ls F zs,s'.op=opOf ls∧ls≠[]∧LevsOk ls zs (j+1)∧s'.groups≤j+1∧Turned M w0 w A (psL pb lq ln lc s.last s'.fl s'.groups oq oc ls F zs) w'
 | .error a=>e=.panicked (zCw a 4)∧Below w.heap.size w w'
section
variable {M:Nat→Prop} {w0 w:World} {pb:Nat} {lq:Option Addr} {ln lc:Nat} {F:Nat→Prop} {zs:List TV}
theorem LevsOk.put {pre:List LevM} {l l':LevM} {j:Nat} (h:LevsOk (pre++[l]) zs j) (zs':List TV) (hz:∀ x ∈ zs,x ∈ zs') (h1:∀ x,x ∈ l'.items∨x ∈ l'.all→x ∈ zs') (h2:l'.items.length≤j+1∧l'.all.length≤j+1):LevsOk (pre++[l']) zs' (j+1):=by
 refine⟨fun x hx y hy=>?_,by have:=h.len;simp at this ⊢;omega,fun x hx=>?_⟩
 ·rcases List.mem_append.1 hx with hx|hx
  ·exact hz _ (h.sub x (List.mem_append_left _ hx) y hy)
  ·rw[List.mem_singleton]at hx;subst hx;exact h1 y hy
 ·rcases List.mem_append.1 hx with hx|hx
  ·have:=h.cnt x (List.mem_append_left _ hx);omega
  ·rw[List.mem_singleton]at hx;subst hx;exact h2
theorem zHc {last:Nat} {f:zAU} {g og oc:Nat} (pre:List LevM) (l:LevM):psL pb lq ln lc last f g (some ⟨og,0,none⟩) oc (pre++[l]) F zs =
  blkP pb lq ln lc last f g (some ⟨og,0,none⟩) (pre.length+1) oc::rowL (some ⟨og,0,none⟩) (pre.length+1) oc (pre++[l])::knL F zs::(zDT pre++[rowN l.iq l.ic l.items,rowN l.aq l.ac l.all]):=by
 unfold psL;rw[zEI,show (pre++[l]).length=pre.length+1 by simp]
theorem zEd {last:Nat} {f:zAU} {g og oc:Nat} (pre:List LevM) (l:LevM):(psL pb lq ln lc last f g (some ⟨og,0,none⟩) oc (pre++[l]) F zs).Perm (putL pb lq ln lc last f g og oc pre l F zs++(zDT pre++[rowN l.aq l.ac l.all])):=by
 rw[zHc];exact zMJ ..
theorem zIr {last:Nat} {f:zAU} {g og oc:Nat} (pre:List LevM) (l:LevM):(psL pb lq ln lc last f g (some ⟨og,0,none⟩) oc (pre++[l]) F zs).Perm ((zBA og oc pre l F zs++[blkP pb lq ln lc last f g (some ⟨og,0,none⟩) (pre.length+1) oc])++zDT pre):=by
 rw[zHc];exact zJP ..
theorem zI5 {last:Nat} {f:zAU} {g og oc:Nat} (pre:List LevM) (l2 l:LevM):(psL pb lq ln lc last f g (some ⟨og,0,none⟩) oc ((pre++[l2])++[l]) F zs).Perm (zDl pb lq ln lc last f g og oc pre l2 l F zs++(zDT pre++[rowN l2.aq l2.ac l2.all])):=by
 rw[zHc,zEI];exact zLI ..
end
section
variable {M:Nat→Prop} {w0 w:World} {pb:Nat} {lq:Option Addr} {ln lc:Nat} {F:Nat→Prop} {zs:List TV}
theorem zOn {d:WordD} (f:zAU) (h:d.kind=1):zCy d f=setT (if d.neg then notS (if f.1 then zDK d.set else d.set) else if f.1 then zDK d.set else d.set):=by simp[zCy,h]
theorem zOX {d:WordD} (f:zAU) (h:d.kind=2) (h2:f.2.2=true):zCy d f=setT (zAm 0 256):=by simp[zCy,h,h2]
theorem zOD {d:WordD} (f:zAU) (h:d.kind=2) (h2:f.2.2=false):zCy d f=setT (notS (ofS [10])):=by simp[zCy,h,h2]
theorem zOd {d:WordD} (f:zAU) (h:d.kind=3):zCy d f=zFX f 8 10:=by simp[zCy,h]
theorem zOZ {d:WordD} (f:zAU) (h:d.kind=4):zCy d f=zFX f 9 11:=by simp[zCy,h]
theorem zOf {d:WordD} (f:zAU) (h:d.kind=5):zCy d f=zDV d.spot:=by simp[zCy,h]
theorem zMG (d:WordD) (h1:1≤d.kind) (h5:d.kind≤5) (hs:zAs d.set) {last:Nat} {f:zAU} {g og oc:Nat} {pre:List LevM} {l:LevM} (hn:pre.length≤1000000) (hi:l.items.length≤1000000) (hsub:∀ x ∈ l.items,x ∈ zs) (H:HoldG M w0 w (putL pb lq ln lc last f g og oc pre l F zs)) :
  Calls Tryd.prog 20 #[.pointer (some ⟨pb,0,none⟩),zAk d] w (zBa M w0 pb lq ln lc last f g og oc pre l F zs (zCy d f) w):=by
 by_cases k1:d.kind=1
 ·rw[zOn f k1];exact zME d k1 hs hn hi hsub H
 by_cases k2:d.kind=2
 ·cases hf:f.2.2 with
  | true=>rw[zOX f k2 hf];exact zLY d k2 hf hn hi hsub H
  | false=>rw[zOD f k2 hf];exact zLP d k2 hf hn hi hsub H
 by_cases k3:d.kind=3
 ·rw[zOd f k3];exact zMA d k3 hn hi hsub H
 by_cases k4:d.kind=4
 ·rw[zOZ f k4];exact zMF d k4 hn hi hsub H
 have k5:d.kind=5:=by omega
 rw[zOf f k5];exact zLw d k5 hn hi hsub H
theorem zNp (d:WordD) (hf:zBV d) (hs:zAs d.set) (s:StP) (oq:Option Addr) (oc:Nat) (ls:List LevM) (j:Nat) (hop:s.op=opOf ls) (hne:ls≠[]) (ok:LevsOk ls zs j) (hg:s.groups≤j) (hj:j+2≤1000000) (hrep:zB8 s.last=false→∀ l r,s.op=l::r→l.items≠[])
  (H0:HoldG M w0 w (psL pb lq ln lc s.last s.fl s.groups oq oc ls F zs)) :
  Calls Tryd.prog 20 #[.pointer (some ⟨pb,0,none⟩),zAk d] w (zDH M w0 pb lq ln lc s d (psL pb lq ln lc s.last s.fl s.groups oq oc ls F zs) j w):=by
 obtain⟨og,rfl⟩:∃ og,oq=some ⟨og,0,none⟩:=by
  obtain⟨q,c,e,_,_,h⟩:=H0.rowShape (i:=1) i_1;obtain⟨og,rfl⟩:=h (List.length_pos_iff.2 hne);exact⟨og,by injection e⟩
 obtain⟨pre,l,rfl⟩:∃ pre l,ls=pre++[l]:=⟨ls.dropLast,ls.getLast hne,(List.dropLast_concat_getLast hne).symm⟩;have hpl:pre.length≤j:=by have:=ok.len;simp at this;omega
 have hlm:l ∈ pre++[l]:=by simp
 have hcnt:=ok.cnt l hlm;have hsb:=ok.sub l hlm;rw[zBi]at hop
 by_cases k6:d.kind=6
 ·have p1:(psL pb lq ln lc s.last s.fl s.groups (some ⟨og,0,none⟩) oc (pre++[l]) F zs).Perm (zBH pb lq ln lc s.last s.fl s.groups (some ⟨og,0,none⟩) oc (pre++[l])++(knL F zs::zDT (pre++[l]))):=.refl _;refine(zMg d k6 (some ⟨og,0,none⟩) oc (pre++[l]) (by simp;omega) (by omega) ((H0.perms p1).left)).mono fun e w' h=>?_
  obtain⟨rfl,q,c,T⟩:=h;unfold zDH;rw[wm_6 hop k6];refine⟨rfl,q,c,(pre++[l])++[newL d.place (s.groups+1) s.fl],F,zs,by rw[zBi,zBi];rfl,by simp,⟨fun x hx=>?_,by have:=ok.len;simp at this ⊢;omega,fun x hx=>?_⟩,by show s.groups+1≤j+1;omega,?_⟩
  ·rcases List.mem_append.1 hx with hx|hx
   ·exact ok.sub x hx
   ·rw[List.mem_singleton]at hx;subst hx;intro y hy;simp[newL]at hy
  ·rcases List.mem_append.1 hx with hx|hx
   ·have:=ok.cnt x hx;omega
   ·rw[List.mem_singleton]at hx;subst hx;simp[newL]
  ·refine Turned.lift H0 p1 ?_ ((T.addNil 31 10).addNil 31 10);unfold psL zBH;rw[zEI (pre++[l])];exact .cons _ (.cons _ (List.perm_append_comm (l₁:=knL F zs::zDT (pre++[l])) (l₂:=[_,_])))
 by_cases k7:d.kind=7
 ·have p1:(psL pb lq ln lc s.last s.fl s.groups (some ⟨og,0,none⟩) oc (pre++[l]) F zs).Perm (zBH pb lq ln lc s.last s.fl s.groups (some ⟨og,0,none⟩) oc (pre++[l])++(knL F zs::zDT (pre++[l]))):=.refl _;refine(zMk d k7 (some ⟨og,0,none⟩) oc (pre++[l]) (by simp;omega) ((H0.perms p1).left)).mono fun e w' h=>?_
  obtain⟨rfl,q,c,T⟩:=h;unfold zDH;rw[wm_7 hop k7];refine⟨rfl,q,c,(pre++[l])++[newL d.place 0 s.fl],F,zs,by rw[zBi,zBi];rfl,by simp,⟨fun x hx=>?_,by have:=ok.len;simp at this ⊢;omega,fun x hx=>?_⟩,by show s.groups≤j+1;omega,?_⟩
  ·rcases List.mem_append.1 hx with hx|hx
   ·exact ok.sub x hx
   ·rw[List.mem_singleton]at hx;subst hx;intro y hy;simp[newL]at hy
  ·rcases List.mem_append.1 hx with hx|hx
   ·have:=ok.cnt x hx;omega
   ·rw[List.mem_singleton]at hx;subst hx;simp[newL]
  ·refine Turned.lift H0 p1 ?_ ((T.addNil 31 10).addNil 31 10);unfold psL zBH;rw[zEI (pre++[l])];exact .cons _ (.cons _ (List.perm_append_comm (l₁:=knL F zs::zDT (pre++[l])) (l₂:=[_,_])))
 by_cases k8:d.kind=8
 ·have p1:(psL pb lq ln lc s.last s.fl s.groups (some ⟨og,0,none⟩) oc (pre++[l]) F zs).Perm ([blkP pb lq ln lc s.last s.fl s.groups (some ⟨og,0,none⟩) (pre++[l]).length oc]++(rowL (some ⟨og,0,none⟩) (pre++[l]).length oc (pre++[l])::knL F zs::zDT (pre++[l]))):=.refl _;refine(zLt d k8 (some ⟨og,0,none⟩) (pre++[l]).length oc ((H0.perms p1).left)).mono fun e w' h=>?_
  obtain⟨rfl,T⟩:=h;unfold zDH;rw[wm_8 hop k8];exact⟨rfl,some ⟨og,0,none⟩,oc,pre++[l],F,zs,by rw[zBi];exact hop,by simp,ok.put zs (fun x hx=>hx) hsb (by omega),by show s.groups≤j+1;omega,Turned.lift H0 p1 (.refl _) T⟩
 by_cases k9:d.kind=9
 ·by_cases hp:pre=[]
  ·subst hp;refine(zKs d k9 (some ⟨og,0,none⟩) oc w ((H0.blk .zero).2)).mono fun e w' h=>?_
   unfold zDH;rw[zNk hop k9];exact h
  ·obtain⟨pp,l2,rfl⟩:∃ pp l2,pre=pp++[l2]:=⟨pre.dropLast,pre.getLast hp,(List.dropLast_concat_getLast hp).symm⟩;have hl2:l2 ∈ pp++[l2]++[l]:=by simp
   have hc2:=ok.cnt l2 hl2;have hs2:=ok.sub l2 hl2;rw[zBi]at hop;have hpl2:pp.length+1≤j:=by simpa using hpl
   refine(zMV d k9 l2 l (by omega) (by omega) (by omega) hsb (fun x hx=>hs2 x (.inl hx)) ((H0.perms (zI5 pp l2 l)).left)).mono fun e w' h=>?_
   obtain⟨rfl,q,c,iq,ic,F',T⟩:=h;unfold zDH;rw[wm_9 hop k9];have hok:LevsOk (pp++[l2]) zs j:=⟨fun x hx=>ok.sub x (List.mem_append_left _ hx),by have:=ok.len;simp at this ⊢;omega,fun x hx=>ok.cnt x (List.mem_append_left _ hx)⟩
   refine⟨rfl,some ⟨og,0,none⟩,oc,pp++[{l2 with items:=l2.items++[(zES l.plain,q,c)],iq:=iq,ic:=ic}],F',zs++[(zES l.plain,q,c)],by rw[zBi];simp[LevM.plain,addL],by simp,hok.put _ (fun x hx=>List.mem_append_left _ hx) (fun x hx=>?_) (by simp;omega),by show s.groups≤j+1;omega,Turned.lift H0 (zI5 pp l2 l) (zEd pp {l2 with items:=l2.items++[(zES l.plain,q,c)],iq:=iq,ic:=ic}) T⟩
   rcases hx with hx|hx
   ·rcases List.mem_append.1 hx with hx|hx
    ·exact List.mem_append_left _ (hs2 x (.inl hx))
    ·exact List.mem_append_right _ hx
   ·exact List.mem_append_left _ (hs2 x (.inr hx))
 by_cases k10:d.kind=10
 ·refine(zLg d k10 l (by omega) (by omega) hsb ((H0.perms (zIr pre l)).left)).mono fun e w' h=>?_
  obtain⟨rfl,x,l4,F',⟨a1,a2,a3,a4,a5,a6⟩,T⟩:=h;unfold zDH;rw[zNi hop k10];refine⟨rfl,some ⟨og,0,none⟩,oc,pre++[l4],F',zs++[x],by rw[zBi];simp[LevM.plain,barL,a1,a2,a3,a4,a5,a6],by simp,ok.put _ (fun x hx=>List.mem_append_left _ hx) (fun y hy=>?_) (by rw[a1,a3];simp;omega),by show s.groups≤j+1;omega,Turned.lift H0 (zIr pre l) (zIr pre l4) T⟩
  rw[a1,a3]at hy;rcases hy with hy|hy
  ·cases hy
  ·rcases List.mem_append.1 hy with hy|hy
   ·exact List.mem_append_left _ (hsb y (.inr hy))
   ·exact List.mem_append_right _ hy
 by_cases k11:d.kind=11
 ·cases hb:zB8 s.last with
  | true =>
   refine(zJt d k11 hb (some ⟨og,0,none⟩) (pre++[l]).length oc w ((H0.blk .zero).2)).mono fun e w' h=>?_
   unfold zDH;rw[zKx hop k11 hb];exact h
  | false =>
   have hne2:l.items≠[]:=fun h=>hrep hb _ _ hop (by simp[LevM.plain,h])
   obtain⟨ys,x,hit⟩:∃ ys x,l.items=ys++[x]:=⟨l.items.dropLast,l.items.getLast hne2,(List.dropLast_concat_getLast hne2).symm⟩;have hx:l.plain.items.getLast?=some x.1:=by simp[LevM.plain,hit]
   refine(zK9 d k11 l ys x hit hb (by omega) (by omega) (fun x hx=>hsb x (.inl hx)) ((H0.perms (zEd pre l)).left)).mono fun e w' h=>?_
   obtain⟨rfl,q,c,F',T⟩:=h;unfold zDH;rw[zNY hop k11 hb hx];refine⟨rfl,some ⟨og,0,none⟩,oc,pre++[{l with items:=ys++[(repT d x.1,q,c)]}],F',zs++[(repT d x.1,q,c)],by rw[zBi];simp[LevM.plain,zL0,hit],by simp,ok.put _ (fun x hx=>List.mem_append_left _ hx) (fun y hy=>?_) (by have:=hcnt.1;rw[hit]at this;simp at this ⊢;omega),by show s.groups≤j+1;omega,Turned.lift H0 (zEd pre l) (zEd pre {l with items:=ys++[(repT d x.1,q,c)]}) T⟩
   rcases hy with hy|hy
   ·rcases List.mem_append.1 hy with hy|hy
    ·exact List.mem_append_left _ (hsb y (.inl (by rw[hit];exact List.mem_append_left _ hy)))
    ·exact List.mem_append_right _ hy
   ·exact List.mem_append_left _ (hsb y (.inr hy))
 ·have hk5:d.kind≤5:=by have:=hf.2.1;omega
  refine(zMG d hf.1 hk5 hs (by omega) (by omega) (fun x hx=>hsb x (.inl hx)) ((H0.perms (zEd pre l)).left)).mono fun e w' h=>?_
  obtain⟨rfl,iq,ic,F',_,T⟩:=h;unfold zDH;rw[zMK hop k6 k7 k8 k9 k10 k11];refine⟨rfl,some ⟨og,0,none⟩,oc,pre++[{l with items:=l.items++[(zCy d s.fl,none,0)],iq:=iq,ic:=ic}],F',zs++[(zCy d s.fl,none,0)],by rw[zBi];simp[LevM.plain,addL],by simp,ok.put _ (fun x hx=>List.mem_append_left _ hx) (fun y hy=>?_) (by simp;omega),by show s.groups≤j+1;omega,Turned.lift H0 (zEd pre l) (zEd pre {l with items:=l.items++[(zCy d s.fl,none,0)],iq:=iq,ic:=ic}) T⟩
  rcases hy with hy|hy
  ·rcases List.mem_append.1 hy with hy|hy
   ·exact List.mem_append_left _ (hsb y (.inl hy))
   ·exact List.mem_append_right _ hy
  ·exact List.mem_append_left _ (hsb y (.inr hy))
end
end
end Go.Proofs.YtklcgfkdemifcaaDoor
namespace Go.Proofs
open Go.Shelf
def Tryd.lays161_ren:Go.Shelf.Ren:=⟨fun|161=>85|231=>90|227=>91|233=>92|235=>93|228=>97|197=>98|151=>99|260=>100|152=>101|137=>78|119=>102|224=>52|225=>51|217=>50|266=>65|n=>n,fun|9=>9|4=>4|3=>3|5=>5|117=>144|116=>143|0=>0|124=>147|105=>148|21=>21|119=>152|46=>102|139=>155|138=>154|n=>n,fun|3=>1|4=>2|n=>n⟩
theorem Tryd.lays161:Go.Proofs.Lays.n161 Tryd.prog Tryd.lays161_ren:={
 mixed:=by kernel_rfl
 f119:=Tryd.func102.trans (congrArg some (by kernel_rfl))
 f137:=Tryd.func78.trans (congrArg some (by kernel_rfl))
 f151:=Tryd.func99.trans (congrArg some (by kernel_rfl))
 f152:=Tryd.func101.trans (congrArg some (by kernel_rfl))
 f161:=Tryd.func85.trans (congrArg some (by kernel_rfl))
 f197:=Tryd.func98.trans (congrArg some (by kernel_rfl))
 f217:=Tryd.func50.trans (congrArg some (by kernel_rfl))
 f224:=Tryd.func52.trans (congrArg some (by kernel_rfl))
 f225:=Tryd.func51.trans (congrArg some (by kernel_rfl))
 f227:=Tryd.func91.trans (congrArg some (by kernel_rfl))
 f228:=Tryd.func97.trans (congrArg some (by kernel_rfl))
 f231:=Tryd.func90.trans (congrArg some (by kernel_rfl))
 f233:=Tryd.func92.trans (congrArg some (by kernel_rfl))
 f235:=Tryd.func93.trans (congrArg some (by kernel_rfl))
 f260:=Tryd.func100.trans (congrArg some (by kernel_rfl))
 f266:=Tryd.func65.trans (congrArg some (by kernel_rfl))
 t0:=Tryd.underlying0
 a0:=Tryd.isAgg0
 z0:=Tryd.sizeOf0
 v0:=Tryd.zeroValue0
 t3:=Tryd.underlying3
 a3:=Tryd.isAgg3
 z3:=Tryd.sizeOf3
 v3:=Tryd.zeroValue3
 t4:=Tryd.underlying4
 a4:=Tryd.isAgg4
 z4:=Tryd.sizeOf4
 v4:=Tryd.zeroValue4
 t5:=Tryd.underlying5
 a5:=Tryd.isAgg5
 z5:=Tryd.sizeOf5
 v5:=Tryd.zeroValue5
 t9:=Tryd.underlying9
 a9:=Tryd.isAgg9
 z9:=Tryd.sizeOf9
 v9:=Tryd.zeroValue9
 t21:=Tryd.underlying21
 a21:=Tryd.isAgg21
 z21:=Tryd.sizeOf21
 v21:=Tryd.zeroValue21
 t46:=Tryd.underlying102
 a46:=Tryd.isAgg102
 z46:=Tryd.sizeOf102
 v46:=Tryd.zeroValue102
 t105:=Tryd.underlying148
 a105:=Tryd.isAgg148
 z105:=Tryd.sizeOf148
 v105:=Tryd.zeroValue148
 t116:=Tryd.underlying143
 a116:=Tryd.isAgg143
 z116:=Tryd.sizeOf143
 t117:=Tryd.underlying144
 a117:=Tryd.isAgg144
 z117:=Tryd.sizeOf144
 v117:=Tryd.zeroValue144
 t119:=Tryd.underlying152
 a119:=Tryd.isAgg152
 z119:=Tryd.sizeOf152
 t124:=Tryd.underlying147
 a124:=Tryd.isAgg147
 z124:=Tryd.sizeOf147
 v124:=Tryd.zeroValue147
 t138:=Tryd.underlying154
 a138:=Tryd.isAgg154
 z138:=Tryd.sizeOf154
 v138:=Tryd.zeroValue154
 t139:=Tryd.underlying155
 a139:=Tryd.isAgg155
 z139:=Tryd.sizeOf155
 v139:=Tryd.zeroValue155
 g3:=by kernel_rfl
 g4:=by kernel_rfl}
def Tryd.lays137_ren:Go.Shelf.Ren:=⟨fun|137=>78|217=>50|266=>65|n=>n,fun|9=>9|5=>5|3=>3|n=>n,fun|n=>n⟩
theorem Tryd.lays137:Go.Proofs.Lays.n137 Tryd.prog Tryd.lays137_ren:={
 mixed:=by kernel_rfl
 f137:=Tryd.func78.trans (congrArg some (by kernel_rfl))
 f217:=Tryd.func50.trans (congrArg some (by kernel_rfl))
 f266:=Tryd.func65.trans (congrArg some (by kernel_rfl))
 t3:=Tryd.underlying3
 a3:=Tryd.isAgg3
 z3:=Tryd.sizeOf3
 v3:=Tryd.zeroValue3
 t5:=Tryd.underlying5
 a5:=Tryd.isAgg5
 z5:=Tryd.sizeOf5
 v5:=Tryd.zeroValue5
 t9:=Tryd.underlying9
 a9:=Tryd.isAgg9
 z9:=Tryd.sizeOf9
 v9:=Tryd.zeroValue9}
open Go.RowKit in
theorem Tryd.strings_IndexByte (s:ByteArray) (c:Int) (w:World) :
  Calls Tryd.prog 78 #[.string s,.int .u8 c] w fun e w'=>e=.returned (.int .i64 (Lib.indexByte s.data.toList c.toNat.toUInt8))∧w'=w:=Any.strings_IndexByte Tryd.lays137 s c w
def Tryd.lays210_ren:Go.Shelf.Ren:=⟨fun|210=>95|206=>84|n=>n,fun|9=>9|4=>4|3=>3|n=>n,fun|n=>n⟩
def Tryd.lays103_ren:Go.Shelf.Ren:=⟨fun|103=>88|210=>95|206=>84|n=>n,fun|9=>9|4=>4|24=>137|3=>3|n=>n,fun|n=>n⟩
theorem Tryd.lays103:Go.Proofs.Lays.n103 Tryd.prog Tryd.lays103_ren:={
 mixed:=by kernel_rfl
 f103:=Tryd.func88.trans (congrArg some (by kernel_rfl))
 f206:=Tryd.func84.trans (congrArg some (by kernel_rfl))
 f210:=Tryd.func95.trans (congrArg some (by kernel_rfl))
 t3:=Tryd.underlying3
 a3:=Tryd.isAgg3
 z3:=Tryd.sizeOf3
 v3:=Tryd.zeroValue3
 t4:=Tryd.underlying4
 a4:=Tryd.isAgg4
 z4:=Tryd.sizeOf4
 v4:=Tryd.zeroValue4
 t9:=Tryd.underlying9
 a9:=Tryd.isAgg9
 z9:=Tryd.sizeOf9
 v9:=Tryd.zeroValue9
 t24:=Tryd.underlying137
 a24:=Tryd.isAgg137
 z24:=Tryd.sizeOf137
 v24:=Tryd.zeroValue137}
open Go.RowKit in
theorem Tryd.strings_CutPrefix (s p:ByteArray) (w:World) :
  Calls Tryd.prog 88 #[.string s,.string p] w fun e w'=>e=.returned (.tuple #[.string ⟨(Lib.trimPrefix s.data.toList p.data.toList).toArray⟩,.bool (Lib.hasPrefix s.data.toList p.data.toList)])∧w'=w:=Any.strings_CutPrefix Tryd.lays103 s p w
def Tryd.lays219_ren:Go.Shelf.Ren:=⟨fun|219=>42|217=>50|225=>51|224=>52|267=>53|266=>65|314=>66|n=>n,fun|9=>9|3=>3|4=>4|5=>5|46=>102|146=>118|51=>117|n=>n,fun|1=>0|n=>n⟩
def Tryd.lays145_ren:Go.Shelf.Ren:=⟨fun|145=>89|220=>96|219=>42|217=>50|225=>51|224=>52|267=>53|266=>65|314=>66|n=>n,fun|9=>9|4=>4|59=>139|3=>3|5=>5|46=>102|146=>118|51=>117|n=>n,fun|1=>0|n=>n⟩
theorem Tryd.lays145:Go.Proofs.Lays.n145 Tryd.prog Tryd.lays145_ren:={
 mixed:=by kernel_rfl
 f145:=Tryd.func89.trans (congrArg some (by kernel_rfl))
 f217:=Tryd.func50.trans (congrArg some (by kernel_rfl))
 f219:=Tryd.func42.trans (congrArg some (by kernel_rfl))
 f220:=Tryd.func96.trans (congrArg some (by kernel_rfl))
 f224:=Tryd.func52.trans (congrArg some (by kernel_rfl))
 f225:=Tryd.func51.trans (congrArg some (by kernel_rfl))
 f266:=Tryd.func65.trans (congrArg some (by kernel_rfl))
 f267:=Tryd.func53.trans (congrArg some (by kernel_rfl))
 f314:=Tryd.func66.trans (congrArg some (by kernel_rfl))
 t3:=Tryd.underlying3
 a3:=Tryd.isAgg3
 z3:=Tryd.sizeOf3
 v3:=Tryd.zeroValue3
 t4:=Tryd.underlying4
 a4:=Tryd.isAgg4
 z4:=Tryd.sizeOf4
 v4:=Tryd.zeroValue4
 t5:=Tryd.underlying5
 a5:=Tryd.isAgg5
 z5:=Tryd.sizeOf5
 v5:=Tryd.zeroValue5
 t9:=Tryd.underlying9
 a9:=Tryd.isAgg9
 z9:=Tryd.sizeOf9
 v9:=Tryd.zeroValue9
 t46:=Tryd.underlying102
 a46:=Tryd.isAgg102
 z46:=Tryd.sizeOf102
 v46:=Tryd.zeroValue102
 t51:=Tryd.underlying117
 a51:=Tryd.isAgg117
 z51:=Tryd.sizeOf117
 v51:=Tryd.zeroValue117
 t59:=Tryd.underlying139
 a59:=Tryd.isAgg139
 z59:=Tryd.sizeOf139
 v59:=Tryd.zeroValue139
 t146:=Tryd.underlying118
 a146:=Tryd.isAgg118
 z146:=Tryd.sizeOf118
 v146:=Tryd.zeroValue118
 g1:=by kernel_rfl}
open Go.RowKit Go.Lib in
theorem Tryd.strings_Cut (s sep:ByteArray) (m:Int) (w:World) (hs:s.size<4294967281) (hm:w.cell? ⟨0,0,none⟩=some (.int .i64 m)) :
  Calls Tryd.prog 89 #[.string s,.string sep] w fun e w'=>e=.returned (.tuple #[.string ⟨(Lib.cut s.data.toList sep.data.toList).1.toArray⟩,.string ⟨(Lib.cut s.data.toList sep.data.toList).2.1.toArray⟩,.bool (Lib.cut s.data.toList sep.data.toList).2.2])∧∃ n,w'=w.drewN n:=Any.strings_Cut Tryd.lays145 s sep m w hs hm
def Tryd.lays99_ren:Go.Shelf.Ren:=⟨fun|99=>71|206=>84|n=>n,fun|9=>9|4=>4|3=>3|n=>n,fun|n=>n⟩
theorem Tryd.lays99:Go.Proofs.Lays.n99 Tryd.prog Tryd.lays99_ren:={
 mixed:=by kernel_rfl
 f99:=Tryd.func71.trans (congrArg some (by kernel_rfl))
 f206:=Tryd.func84.trans (congrArg some (by kernel_rfl))
 t3:=Tryd.underlying3
 a3:=Tryd.isAgg3
 z3:=Tryd.sizeOf3
 v3:=Tryd.zeroValue3
 t4:=Tryd.underlying4
 a4:=Tryd.isAgg4
 z4:=Tryd.sizeOf4
 v4:=Tryd.zeroValue4
 t9:=Tryd.underlying9
 a9:=Tryd.isAgg9
 z9:=Tryd.sizeOf9
 v9:=Tryd.zeroValue9}
open Go.RowKit Go.Lib in
theorem Tryd.strings_HasPrefix (s p:ByteArray) (w:World) :
  Calls Tryd.prog 71 #[.string s,.string p] w fun e w'=>e=.returned (.bool (Lib.hasPrefix s.data.toList p.data.toList))∧w'=w:=Any.strings_HasPrefix Tryd.lays99 s p w
end Go.Proofs
namespace Go.Proofs.YtklcgfkdemifcaaDoor
section
open Go.RowKit Go.MapKept
def Sub (d:TypeDesc) (F:Value→Option Value) (es:Array MapEntry):Prop:=∀ e ∈ es.toList,IsKey d e.key∧F e.key=some e.val
def HasK (es:Array MapEntry) (k:Value):Prop:=∃ e ∈ es.toList,e.key=k
def zFo (d:TypeDesc) (F:Value→Option Value) (es:Array MapEntry):Prop:=Sub d F es∧∀ k v,F k=some v→HasK es k
theorem Sub.keys {d F es} (h:Sub d F es):∀ x ∈ es.toList,IsKey d x.key:=fun x hx=>(h x hx).1
theorem Sub.nil (d:TypeDesc) (F:Value→Option Value):Sub d F #[]:=fun e he=>by simp at he
section
variable {P:Program} {w:World} {T kt et:TypeId} {d:TypeDesc} {F:Value→Option Value} {es:Array MapEntry} {c mb:Nat}
theorem zIF (h:zFo d F es) {k v:Value} (hk:IsKey d k) (hF:F k=some v):∃ j,Instr.findNow d k es.toList 0=some (some (j,v)):=by
 rcases findNow_spec hk es.toList 0 h.1.keys with ⟨_,h2⟩|⟨j,e,h1,h2,h3⟩
 ·obtain⟨e,he,hek⟩:=h.2 k v hF;exact absurd hek (h2 e he)
 ·have:=h.1 e (List.mem_of_getElem? h2);rw[h3,hF]at this;refine⟨0+j,?_⟩
  rw[h1]
  cases this.2;rfl
theorem zKY (h:Sub d F es) {k:Value} (hk:IsKey d k) (hF:F k=none):Instr.findNow d k es.toList 0=some none:=by
 rcases findNow_spec hk es.toList 0 h.keys with ⟨h1,_⟩|⟨j,e,h1,h2,h3⟩
 ·exact h1
 ·have:=h e (List.mem_of_getElem? h2);rw[h3,hF]at this
  cases this.2
theorem zGi (hT:P.underlying T=some (.map kt et)) (hd:P.underlying kt=some d) (hm:w.heap[mb]?=some (.map es c)) (h:zFo d F es) {k v:Value} (hk:IsKey d k) (hF:F k=some v) :
  (Instr.lookup T (.map (some mb)) k false).run P w=.ok v w:=by
 obtain⟨j,hj⟩:=zIF h hk hF;simp[Instr.lookup,Sem.run_bind,run_underlying hT,Result.andThen,Go.MapKept.run_getObj_map hm,run_checkKey hd hk,run_findKey hd hj]
theorem zGB (hT:P.underlying T=some (.map kt et)) (hd:P.underlying kt=some d) (hm:w.heap[mb]?=some (.map es c)) (h:zFo d F es) {k v:Value} (hk:IsKey d k) (hF:F k=some v) :
  (Instr.lookup T (.map (some mb)) k true).run P w=.ok (.tuple #[v,.bool true]) w:=by
 obtain⟨j,hj⟩:=zIF h hk hF;simp[Instr.lookup,Sem.run_bind,run_underlying hT,Result.andThen,Go.MapKept.run_getObj_map hm,run_checkKey hd hk,run_findKey hd hj]
theorem zDu (hT:P.underlying T=some (.map kt et)) (hd:P.underlying kt=some d) (hm:w.heap[mb]?=some (.map es c)) (h:zFo d F es) {k z:Value} (hk:IsKey d k) (hF:F k=none)
  (hz:∀ W,(zeroValue et).run P W=.ok z W):(Instr.lookup T (.map (some mb)) k true).run P w=.ok (.tuple #[z,.bool false]) w:=by
 simp[Instr.lookup,Sem.run_bind,run_underlying hT,Result.andThen,Go.MapKept.run_getObj_map hm,run_checkKey hd hk,run_findKey hd (zKY h.1 hk hF),hz]
theorem Sub.push (h:Sub d F es) {k v:Value} (hk:IsKey d k) (hF:F k=some v) (b:Nat):Sub d F (es.push {key:=k,val:=v,born:=b}):=by
 intro e he;simp at he;rcases he with he|rfl
 ·exact h e (by simpa using he)
 ·exact⟨hk,hF⟩
theorem Sub.modify (h:Sub d F es) {k v:Value} (hk:IsKey d k) (hF:F k=some v) (j:Nat):Sub d F (es.modify j fun e=>{e with key:=k,val:=v}):=by
 intro e he;rw[Array.mem_toList_iff,Array.mem_iff_getElem?]at he;obtain⟨i,hi⟩:=he;rw[Array.getElem?_modify]at hi;split at hi
 ·cases hh:es[i]? with
  | none=>rw[hh]at hi;cases hi
  | some x=>rw[hh]at hi;cases hi;exact⟨hk,hF⟩
 ·exact h e (by rw[Array.mem_toList_iff];exact Array.mem_of_getElem? hi)
theorem HasK.push {k k' v:Value} {b:Nat} (h:HasK es k'):HasK (es.push {key:=k,val:=v,born:=b}) k':=by
 obtain⟨e,he,hk⟩:=h;exact⟨e,(by simp;exact .inl (by simpa using he)),hk⟩
theorem HasK.modify {k k' v:Value} {j:Nat} {e0:MapEntry} (hj:es[j]?=some e0) (hk0:e0.key=k) (h:HasK es k'):HasK (es.modify j fun e=>{e with key:=k,val:=v}) k':=by
 obtain⟨e,he,hk⟩:=h;rw[Array.mem_toList_iff,Array.mem_iff_getElem?]at he;obtain⟨i,hi⟩:=he
 by_cases hij:j=i
 ·subst hij;have he0:e=e0:=by rw[hi]at hj;injection hj
  refine⟨{e with key:=k,val:=v},?_,?_⟩
  ·rw[Array.mem_toList_iff];exact Array.mem_of_getElem? (i:=j) (by rw[Array.getElem?_modify,if_pos rfl,hi];rfl)
  ·show k=k'
   rw[← hk0,← he0,hk]
 ·refine⟨e,?_,hk⟩;rw[Array.mem_toList_iff];exact Array.mem_of_getElem? (i:=i) (by rw[Array.getElem?_modify,if_neg hij];exact hi)
theorem zKL (hT:P.underlying T=some (.map kt et)) (hd:P.underlying kt=some d) (hm:w.heap[mb]?=some (.map es c)) (h:Sub d F es) {k v:Value} (hk:IsKey d k) (hF:F k=some v) :
  ∃ es' c',(Instr.mapUpdate T (.map (some mb)) k v).run P w=.ok () {w with heap:=w.heap.setIfInBounds mb (.map es' c')}∧Sub d F es'∧HasK es' k∧∀ k',HasK es k'→HasK es' k':=by
 rcases findNow_spec hk es.toList 0 h.keys with ⟨h1,_⟩|⟨j,e,h1,h2,h3⟩
 ·refine⟨es.push {key:=k,val:=v,born:=c},c+1,?_,h.push hk hF c,⟨{key:=k,val:=v,born:=c},(by simp),rfl⟩,fun k' hk'=>hk'.push⟩
  simp[Instr.mapUpdate,Sem.run_bind,run_underlying hT,Result.andThen,Go.MapKept.run_getObj_map hm,run_checkKey hd hk,run_findKey hd h1,run_setObj_map _ hm]
 ·have h2':es[j]?=some e:=by simpa using h2
  have hlt:=(Array.getElem?_eq_some_iff.1 h2').1;refine⟨es.modify j fun e=>{e with key:=k,val:=v},c,?_,h.modify hk hF j,⟨{e with key:=k,val:=v},?_,rfl⟩,fun k' hk'=>hk'.modify h2' h3⟩
  ·have hst:(Instr.keyThatStays ((Option.map (fun x=>x.key) es[j]?).getD k) k).run P w=.ok k w:=by
    rw[h2'];show (Instr.keyThatStays e.key k).run P w=_
    rw[h3];exact run_keyThatStays hk
   simp[Instr.mapUpdate,Sem.run_bind,run_underlying hT,Result.andThen,Go.MapKept.run_getObj_map hm,run_checkKey hd hk,run_findKey hd h1,run_setObj_map _ hm,hst]
  ·rw[Array.mem_toList_iff];exact Array.mem_of_getElem? (i:=j) (by rw[Array.getElem?_modify,if_pos rfl,h2'];rfl)
end
structure RelM (d:TypeDesc) (F:Value→Option Value) (n0:Nat) (w w':World):Prop where
 os:w'.os=w.os
 tape:w'.tape=w.tape
 output:w'.output=w.output
 size:w.heap.size≤w'.heap.size
 block:∀ k,k<w.heap.size→w'.heap[k]?=w.heap[k]?∨(n0≤k∧∃ es c es' c',w.heap[k]?=some (.map es c)∧w'.heap[k]?=some (.map es' c')∧(Sub d F es→Sub d F es'∧∀ x,HasK es x→HasK es' x))
section
variable {d:TypeDesc} {F:Value→Option Value} {n0:Nat}
theorem RelM.refl (w:World):RelM d F n0 w w:=⟨rfl,rfl,rfl,Nat.le_refl _,fun _ _=>.inl rfl⟩
theorem RelM.trans (u v w:World) (h:RelM d F n0 u v) (k:RelM d F n0 v w):RelM d F n0 u w:=by
 refine⟨k.os.trans h.os,k.tape.trans h.tape,k.output.trans h.output,Nat.le_trans h.size k.size,fun i hi=>?_⟩
 rcases h.block i hi with e1|⟨hn,es,c,es',c',e1,e2,e3⟩
 ·rcases k.block i (Nat.lt_of_lt_of_le hi h.size) with e2|⟨hn,es,c,es',c',f1,f2,f3⟩
  ·exact .inl (e2.trans e1)
  ·exact .inr ⟨hn,es,c,es',c',e1 ▸ f1,f2,f3⟩
 ·rcases k.block i (Nat.lt_of_lt_of_le hi h.size) with f1|⟨_,fs,x,fs',x',f1,f2,f3⟩
  ·exact .inr ⟨hn,es,c,es',c',e1,f1.trans e2,e3⟩
  ·rw[e2]at f1;cases f1
   exact .inr ⟨hn,es,c,fs',x',e1,f2,fun hs=>⟨(f3 (e3 hs).1).1,fun y hy=>(f3 (e3 hs).1).2 y ((e3 hs).2 y hy)⟩⟩
theorem RelM.drew (w:World):RelM d F n0 w {w with drawn:=w.drawn+1}:=⟨rfl,rfl,rfl,Nat.le_refl _,fun _ _=>.inl rfl⟩
theorem RelM.of_below {w w':World} (h:Below w.heap.size w w'):RelM d F n0 w w':=⟨h.os,h.tape,h.output,h.size,fun k hk=>.inl (h.block k hk)⟩
theorem RelM.below {w w':World} (h:RelM d F w.heap.size w w'):Below w.heap.size w w' :=
 ⟨h.os,h.tape,h.output,h.size,fun k hk=>by rcases h.block k hk with e|⟨hn,_⟩;exact e;omega⟩
theorem RelM.cells {w w':World} (h:RelM d F n0 w w') {b:Nat} {cs:Array Value} {T:TypeId} {f:Nat × Nat} (hb:w.heap[b]?=some (.cells cs T f)):w'.heap[b]?=some (.cells cs T f):=by
 rcases h.block b (Array.getElem?_eq_some_iff.1 hb).1 with e|⟨_,es,c,es',c',e,_⟩
 ·exact e.trans hb
 ·rw[hb]at e;cases e
theorem RelM.cell {w w':World} (h:RelM d F n0 w w') {a:Addr} {v:Value} (hb:w.cell? a=some v):w'.cell? a=some v:=by
 rcases h.block a.block (by
  rcases Nat.lt_or_ge a.block w.heap.size with h1|h1
  ·exact h1
  ·unfold World.cell? at hb;simp[Array.getElem?_eq_none h1]at hb) with e|⟨_,es,c,es',c',e,_⟩
 ·unfold World.cell? at hb ⊢;rw[e];exact hb
 ·unfold World.cell? at hb;simp[e]at hb
theorem RelM.rds {w w':World} (h:RelM d F n0 w w') {v:Value} {L:List (Nat→Nat)} (hr:RdS w w.heap.size v L):RdS w' w'.heap.size v L:=by
 rcases hr with hr|⟨b,off,c,e,hlt,h1,h2,h3⟩
 ·exact .inl hr
 ·exact .inr ⟨b,off,c,e,Nat.lt_of_lt_of_le hlt h.size,h1,h2,fun j hj k hk=>h.cell (h3 j hj k hk)⟩
theorem RelM.rd {w w':World} (h:RelM d F n0 w w') {v:Value} {L:List Value} (hr:Rd w w.heap.size v L):Rd w' w'.heap.size v L:=by
 rcases hr with hr|⟨b,off,c,e,hlt,h1,h2,h3⟩
 ·exact .inl hr
 ·exact .inr ⟨b,off,c,e,Nat.lt_of_lt_of_le hlt h.size,h1,h2,fun j hj=>h.cell (h3 j hj)⟩
def InMap (d:TypeDesc) (F:Value→Option Value) (n0:Nat) (ks:List Value) (v:Value) (w:World):Prop :=
 ∃ mb es c,v=.map (some mb)∧n0≤mb∧w.heap[mb]?=some (.map es c)∧Sub d F es∧∀ k ∈ ks,HasK es k
theorem zAP (ks:List Value):zDz (RelM d F n0) (InMap d F n0 ks):=by
 rintro v w w' ⟨mb,es,c,rfl,h1,h2,h3,h4⟩ h;rcases h.block mb (Array.getElem?_eq_some_iff.1 h2).1 with e|⟨_,fs,x,es',c',e1,e2,e3⟩
 ·exact⟨mb,es,c,rfl,h1,e.trans h2,h3,h4⟩
 ·rw[h2]at e1;cases e1
  exact⟨mb,es',c',rfl,h1,e2,(e3 h3).1,fun k hk=>(e3 h3).2 k (h4 k hk)⟩
theorem zCg (L:List (Nat→Nat)):zDz (RelM d F n0) (fun v w=>RdS w w.heap.size v L):=fun _ _ _ h hr=>hr.rds h
theorem zEP (L:List Value):zDz (RelM d F n0) (fun v w=>Rd w w.heap.size v L):=fun _ _ _ h hr=>hr.rd h
theorem InMap.both {ks ls:List Value} {v:Value} {w:World} (h:InMap d F n0 ks v w) (k:InMap d F n0 ls v w):InMap d F n0 (ks++ls) v w:=by
 obtain⟨mb,es,c,rfl,h1,h2,h3,h4⟩:=h;obtain⟨mb',es',c',e,g1,g2,g3,g4⟩:=k
 cases e
 rw[h2]at g2;cases g2
 refine⟨mb,es,c,rfl,h1,h2,h3,fun x hx=>?_⟩
 rcases List.mem_append.1 hx with hx|hx
 ·exact h4 x hx
 ·exact g4 x hx
section
variable {P:Program} {ops:Array Oper} {o:Oper} {a:Act} {w:World} {R:World→World→Prop} {S:Value→World→Prop}
theorem zAt {t:Tmp} (hd:o.dst=some t) (h:zCF P ops R o a w S):zCF P ops R o a w (fun v w'=>S v w'∧(o.dst=none→v=zFi o a)):=by
 have hn:∀ v:Value,o.dst=none→v=zFi o a:=fun v e=>by rw[hd]at e;cases e
 unfold zCF at h ⊢;split at h
 ·rename_i hw;rw[if_pos hw];exact Oper.wp_mono (fun a' w' ⟨v,e,h1,h2⟩=>⟨v,e,h1,h2,hn v⟩) h
 ·rename_i hw;rw[if_neg hw];exact⟨h,hn _⟩
theorem zGT {S':Value→World→Prop} (hR:∀ w',Below w.heap.size w w'→R w w') (hS:∀ v w',S' v w'→S v w') (h:zBK P ops o a w S'):zCF P ops R o a w S:=by
 unfold zBK zIG at h;unfold zCF;split at h
 ·rename_i hw;rw[if_pos hw];exact Oper.wp_mono (fun a' w' ⟨u,e,hb,h1⟩=>⟨u,e,hR w' hb,hS _ _ h1⟩) h
 ·rename_i hw;rw[if_neg hw];exact hS _ _ h
theorem zFB {T:TypeId} (hg:Region.wanted o (yielded ops a.tmps)=true) (hop:o.op=.makeMap T none) (hn:n0≤w.heap.size):zCF P ops (RelM d F n0) o a w (InMap d F n0 []):=by
 unfold zCF;rw[if_pos hg];unfold Oper.wp;have hr:(execOp a.eval o).run P w=.ok (.value (.map (some w.heap.size))) (w.alloc (.map #[] 0)):=by
  simp only[execOp,hop];simp[Instr.makeMap,newObj,go_sem];rfl
 rw[hr];simp only[Oper.upon];exact⟨_,rfl,RelM.of_below ((Below.refl _ w).alloc (Nat.le_refl _) _),w.heap.size,#[],0,rfl,hn,World.alloc_heap_new w _,Sub.nil _ _,fun k hk=>by cases hk⟩
theorem zAi {T kt et:TypeId} {m:Tmp} {x y:Operand} {k v:Value} (hg:Region.wanted o (yielded ops a.tmps)=true) (hop:o.op=.insert T (.tmp m) x y) (hdst:o.dst=none)
  (hT:P.underlying T=some (.map kt et)) (hd:P.underlying kt=some d) (hm:InMap d F n0 [] (a.eval (.tmp m)) w) (hx:a.eval x=k) (hy:a.eval y=v) (hk:IsKey d k) (hF:F k=some v) :
  zCF P ops (RelM d F n0) o a w (fun v w'=>InMap d F n0 [k] v w'∧(o.dst=none→v=zFi o a)):=by
 obtain⟨mb,es,c,e,h1,h2,h3,_⟩:=hm;obtain⟨es',c',hr,g1,g2,g3⟩:=zKL (w:=w) hT hd h2 h3 hk hF;unfold zCF;rw[if_pos hg];unfold Oper.wp;have hr':(execOp a.eval o).run P w=.ok .skip {w with heap:=w.heap.setIfInBounds mb (.map es' c')}:=by
  simp only[execOp,hop,hx,hy,e,Sem.run_bind,hr,Result.andThen];rfl
 rw[hr'];simp only[Oper.upon];refine⟨.map (some mb),(by rw[hdst];rfl),⟨rfl,rfl,rfl,by simp,fun j hj=>?_⟩,⟨mb,es',c',rfl,h1,(heap_set h2).1,g1,fun z hz=>by simp at hz;subst hz;exact g2⟩,fun _=>?_⟩
 ·by_cases hjm:j=mb
  ·subst hjm;exact .inr ⟨h1,es,c,es',c',h2,(heap_set h2).1,fun _=>⟨g1,g3⟩⟩
  ·exact .inl ((heap_set h2).2 j hjm)
 ·unfold zFi ownT;rw[hop];exact e.symm
end
end
end
section
open Go.RowKit Go.Shelf
attribute [local go_sem] Oper.semAt_some

theorem zLJ {c h:Nat} (e:hexP c=some h):h≤15:=by
 unfold hexP at e;split at e
 ·cases e;omega
 ·split at e
  ·cases e;omega
  ·split at e
   ·cases e;omega
   ·cases e
end
section
open Go.RowKit

def KeepsNC (B:Nat) (W W':World):Prop:=∀ k o,B≤k→W.heap[k]?=some o→o.isCells=false→W'.heap[k]?=some o
theorem KeepsNC.same {B:Nat} {W W':World} (h:KeepsNC B W W') (k:Nat) (o:Obj) (hk:B≤k) (h1:W.heap[k]?=some o) (h2:o.isCells=false):W'.heap[k]?=some o:=h k o hk h1 h2
theorem KeepsNC.refl (B:Nat) (W:World):KeepsNC B W W:=fun _ _ _ h _=>h
theorem KeepsNC.of_below {B:Nat} {W W':World} (h:Below W.heap.size W W'):KeepsNC B W W':=fun k o _ hk _=>(h.block k (Array.getElem?_eq_some_iff.1 hk).1).trans hk
variable {F:Fence} {n:Nat} {P:Program}
end
end Go.Proofs.YtklcgfkdemifcaaDoor
