/-
  Laws of walks, and walks.
-/
import Derived.Test.YtklcgfkdemifcaaGreatDoorSw9
import Derived.Test.YtklcgfkdemifcaaGreatDoorSw3
import Derived.Test.YtklcgfkdemifcaaGreatDoorSw6
import Derived.Shelf.Strings.Builder1
import Derived.Shelf.Strings.Builder2
import Derived.Shelf.Strings.Trim
import Derived.Shelf.Small.Utf8
import Derived.Shelf.Small.Strs
import Derived.Shelf.Small.Wraps
import Derived.Shelf.Strings.BuilderF
import Derived.Shelf.Strings.Search1
import Derived.Shelf.Strings.Search2
import Derived.Shelf.Strings.Cut
import Derived.Shelf.LaysM
import Derived.Shelf.Strings.Shaped
import Derived.Shelf.Strings.Prefix
import Derived.Shelf.Unicode.Decode
import Derived.Shelf.Strings.Runes
import Derived.Shelf.Strings.AsciiSet
import Derived.Shelf.Bits.Mul64
import Derived.Shelf.Strings.Repeat
import Derived.Shelf.Unicode.DecodeSlow
import Derived.Shelf.Unicode.DecodeAny
import Derived.Test.YtklcgfkdemifcaaGreatDoorProg
import Derived.Test.YtklcgfkdemifcaaGreatDoorSw2
import Derived.MapKept
set_option linter.unusedVariables false
set_option linter.unusedSimpArgs false
set_option maxRecDepth 100000
set_option maxHeartbeats 16000000
namespace Go.Proofs.YtklcgfkdemifcaaGreatDoor
section
open Go.RowKit Go.Shelf
attribute [local go_sem] Oper.semAt_some
section
variable {M:Nat→Prop} {w0 w wc w':World} {ls l1 l2 l3:List Res} {pb:Nat} {lq:Option Addr} {ln lc last:Nat} {f:zAP} {g og oc:Nat} {pre:List LevM} {F:Nat→Prop} {zs:List TV}
theorem zPC {P:Program} {fn:FuncId} {args:Array Value} {R:Ending→World→Prop} {Post:World→Ending→World→Prop} (c:HoldG M w0 wc l1→Calls P fn args wc (Post wc)) (H:HoldG M w0 wc ls) (js:List Nat) (hj:js.Nodup) (h1:js.map (fun j=>ls[j]?)=l1.map some)
  (hr:∀ e w',Post wc e w'→e=.returned (.tuple #[])) (hv:∀ w',Post wc (.returned (.tuple #[])) w'→Post w (.returned (.tuple #[])) w') (k:∀ w',Post w (.returned (.tuple #[])) w'→R (.returned (.tuple #[])) w'):Calls P fn args wc R :=
 (c (H.pick js _ hj h1)).mono fun e w' h=>by
  obtain rfl:=hr e w' h;exact k w' (hv w' h)
theorem Turned.viaE {X:List Res} {rF:Nat→Prop} {rS:World→Prop} (H:HoldG M w0 wc ls) {i:Nat} (hi:At ls i (.kn rF rS)) (e1:X=l1) (e2:zBj w l1=rF) (e3:zCK w l1=rS) (T:Turned M w0 wc X l2 w'):Turned M w0 w X l2 w':=by
 subst e2 e3 e1;exact T.via H hi
theorem chT {P:Program} {fn:FuncId} {args:Array Value} {R:Ending→World→Prop} {X:Type} {L2:X→List Res} (c:HoldG M w0 wc l1→Calls P fn args wc fun e w'=>e=.returned (.tuple #[])∧∃ x,Turned M w0 wc l1 (L2 x) w') (H:HoldG M w0 wc ls) (js ks:List Nat) (h1:js.map (fun j=>ls[j]?)=l1.map some) (h3:ks.map (fun j=>ls[j]?)=l3.map some) (hn:(js++ks).Nodup)
  (k:∀ w' x,HoldG M w0 w' (L2 x++l3)→R (.returned (.tuple #[])) w'):Calls P fn args wc R:=by
 have hn':=List.nodup_append.1 hn;exact(c (H.pick js _ hn'.1 h1)).mono fun e w' h=>by
  obtain⟨rfl,x,T⟩:=h;exact k w' x (H.callIn T js ks h1 h3 hn'.2.1 (fun j hj hk=>hn'.2.2 j hj j hk rfl))
theorem zHF (oq:Option Addr) (oc:Nat) (lvs:List LevM) (at_ gr:Nat) (hn:lvs.length≤1000000) (H0:HoldG M w0 wc (zBZ pb lq ln lc last f g oq oc lvs)) :
  Calls Tryz.prog 12 #[.pointer (some ⟨pb,0,none⟩),.int .i64 at_,.int .i64 gr] wc fun e w'=>e=.returned (.tuple #[])∧∃ x:Option Addr × Nat,Turned M w0 wc (zBZ pb lq ln lc last f g oq oc lvs) (zBZ pb lq ln lc last f g x.1 x.2 (lvs++[newL at_ gr f])) w' :=
 (zOJ pb lq ln lc last f g oq oc lvs at_ gr hn H0).mono fun e w' h=>by
  obtain⟨h1,q,c,T⟩:=h;exact⟨h1,(q,c),T⟩
theorem zPu (l2 l:LevM) (a:Nat) (hn:pre.length+1≤1000000) (hi:l2.items.length≤1000000) (ha:l.all.length≤1000000) (hsub:∀ x,x ∈ l.items∨x ∈ l.all→x ∈ zs) (hsub2:∀ x ∈ l2.items,x ∈ zs) (H0:HoldG M w0 w (zEE pb lq ln lc last f g og oc pre l2 l F zs)) :
  Calls Tryz.prog 36 #[.pointer (some ⟨pb,0,none⟩),.int .i64 a] w (zIT M w0 pb lq ln lc last f g og oc pre l2 l F zs w):=by
 by_cases h:l.group=0
 ·exact zOw l2 l a h hn hi ha hsub hsub2 H0
 ·exact zO2 l2 l a (by omega) hn hi ha hsub hsub2 H0
theorem zFv {d:WordD} {b:Nat} {T:TypeId} {W:World} {ls:List Res} (H:HoldG M w0 W ls) {i:Nat} (hi:At ls i (.blk b (zAY d) T)):W.cell? ⟨b,1,none⟩=some (.int .i64 d.place):=by
 rw[H.cell hi 1];simp[zAY]
theorem zKV (d:WordD):(zAY d).extract 11 (11+(#[.bool d.on.1,.bool d.on.2.1,.bool d.on.2.2]:Array Value).size)=#[.bool d.on.1,.bool d.on.2.1,.bool d.on.2.2]:=rfl
theorem zJD (d:WordD):(zAY d).extract 14 (14+(#[.bool d.off.1,.bool d.off.2.1,.bool d.off.2.2]:Array Value).size)=#[.bool d.off.1,.bool d.off.2.1,.bool d.off.2.2]:=rfl
theorem zO0 (d:WordD) (hk:d.kind=6) (oq:Option Addr) (oc:Nat) (lvs:List LevM) (hn:lvs.length≤1000000) (hg:g≤1000000) (H0:HoldG M w0 w (zBZ pb lq ln lc last f g oq oc lvs)) :
  Calls Tryz.prog 14 #[.pointer (some ⟨pb,0,none⟩),zAd d] w fun e w'=>e=.returned (.tuple #[])∧∃ q c,Turned M w0 w (zBZ pb lq ln lc last f g oq oc lvs) (zBZ pb lq ln lc last f (g+1) q c (lvs++[newL d.place (g+1) f])) w':=by
 have H:=H0.framed;clear H0;obtain⟨l1,hl1⟩:∃ l1,zBZ pb lq ln lc last f g oq oc lvs=l1:=⟨_,rfl⟩;obtain⟨rF,hrF⟩:∃ rF,zBj w l1=rF:=⟨_,rfl⟩;obtain⟨rS,hrS⟩:∃ rS,zCK w l1=rS:=⟨_,rfl⟩;rw[hl1,hrF,hrS,← hl1]at H;simp only[putL,zBZ,zEE,zBP,List.cons_append,List.nil_append]at H;have HR:=Lib.hid (And.intro hl1 (And.intro hrF hrS));clear hl1 hrF hrS;have HK:=Lib.hid hk;clear hk;obtain⟨g',hg'⟩:∃ g',g+1=g':=⟨_,rfl⟩
 rw[hg'];have HG:=Lib.hid hg';clear hg'
 go_enter Tryz.func14,Tryz.ntmps14
 go_upto_region 16 with (first|((with_reducible refine gL ?_);refine zAE wtd_ _ _ rfl rfl zAQ (zBo HK.out H (i:=3) i_3) ?_)|((first|((with_reducible refine kgA 3 ?_);refine kA 3 H ?_)|((with_reducible refine kgX 3 ?_);(first|refine kS 3 H ?_|refine kB 3 H ?_)));clear H;intro b3 w H;try simp only[nr]at H)|(first|((with_reducible refine gT ?_);(refine aO H ?_;clear H;intro w H;try simp only[nr]at H))|((with_reducible refine gL ?_);refine aG H ?_)))
 have eg:((g:Int)+1)=(g':Int):=by have:=HG.out;omega
 rw[eg]at H;clear eg;refine wr_ 7 [fun v _=>v=pt pb 0,fun v _=>v=pt b3 1,fun v _=>v=.int .i64 d.place,fun v _=>v=pt pb 0,fun v _=>v=pt pb 0,fun v _=>v=pt pb 5,fun v _=>v=.int .i64 g'] ?ob ?en
 case ob =>
  refine⟨?_,?_,?_,?_,?_,?_,?_,trivial⟩<;>intro A W h
  ·exact zAL rfl rfl (h.f 0)
  ·(have e3:A.eval (.tmp 3)=.pointer (some ⟨b3,0,none⟩):=h.f 3;refine zAB rfl ?_;simp only[execOp,e3];(simp[go_sem]<;>first|done|omega|(rw[IntKind.wrap_i64];omega)|(rw[IntKind.wrap_u8];omega)|(rw[IntKind.wrap_u64];omega)))
  ·exact zAB rfl (zAK rfl (h.d 1 52) (by first|(with_reducible exact zAI)|(with_reducible exact zBU)|(with_reducible exact zAe)|(with_reducible exact zAk)|(with_reducible exact zAo)|(with_reducible exact one_u64)|(with_reducible exact zAa)|(with_reducible exact zAQ)|(with_reducible exact zAW)|(with_reducible exact zAN)|(with_reducible exact zAF)|(with_reducible exact zAG)) ((H.call h.below).cell (i:=3) i_3 1)) (by decide)
  ·exact zAL rfl rfl (h.f 0)
  ·(have e54:A.eval (.tmp 54)=.pointer (some ⟨pb,0,none⟩):=h.d 3 54;refine zAB rfl ?_;simp only[execOp,e54];(simp[go_sem]<;>first|done|omega|(rw[IntKind.wrap_i64];omega)|(rw[IntKind.wrap_u8];omega)|(rw[IntKind.wrap_u64];omega)))
  ·(have e55:A.eval (.tmp 55)=.pointer (some ⟨pb,0,none⟩):=h.d 4 55;refine zAB rfl ?_;simp only[execOp,e55];(simp[go_sem]<;>first|done|omega|(rw[IntKind.wrap_i64];omega)|(rw[IntKind.wrap_u8];omega)|(rw[IntKind.wrap_u64];omega)))
  ·exact zAB rfl (zAK rfl (h.d 5 56) (by first|(with_reducible exact zAI)|(with_reducible exact zBU)|(with_reducible exact zAe)|(with_reducible exact zAk)|(with_reducible exact zAo)|(with_reducible exact one_u64)|(with_reducible exact zAa)|(with_reducible exact zAQ)|(with_reducible exact zAW)|(with_reducible exact zAN)|(with_reducible exact zAF)|(with_reducible exact zAG)) ((H.call h.below).cell (i:=0) .zero 5)) (by decide)
 case en =>
  intro vals W hbw hv _;simp only[fa,Nat.reduceAdd];rw[e_ hv 0,e_ hv 1,e_ hv 2,e_ hv 3,e_ hv 4,e_ hv 5,e_ hv 6];clear hv
  try simp only[pl]
  replace H:=H.call hbw;clear hbw
  go_wp2_with (first|(go_at_call 12;refine chT (fun h=>zHF (g:=g') oq oc lvs d.place g' hn h) H (l3:=[.kn rF rS]) [0,1] [2] rfl rfl (by decide) ?_;clear H;intro w x H;simp only[zBZ,List.cons_append,List.nil_append]at H)|((first|((with_reducible refine kgA 3 ?_);refine kA 3 H ?_)|((with_reducible refine kgX 3 ?_);(first|refine kS 3 H ?_|refine kB 3 H ?_)));clear H;intro b3 w H;try simp only[nr]at H)|fail)
  obtain⟨h1,h2,h3⟩:=HR.out;rw[← h2,← h3]at H;refine⟨rfl,.tuple #[],resE rfl,rfl,x.1,x.2,?_⟩
  rw[h1];exact Turned.of H (i:=2) i_2 [0,1] (by decide) (by decide) rfl (fun F3 S3 hm b hb=>by simp[zBZ]at hm)
theorem zNr (d:WordD) (hk:d.kind=7) (oq:Option Addr) (oc:Nat) (lvs:List LevM) (hn:lvs.length≤1000000) (H0:HoldG M w0 w (zBZ pb lq ln lc last f g oq oc lvs)) :
  Calls Tryz.prog 14 #[.pointer (some ⟨pb,0,none⟩),zAd d] w fun e w'=>e=.returned (.tuple #[])∧∃ q c,Turned M w0 w (zBZ pb lq ln lc last f g oq oc lvs) (zBZ pb lq ln lc last (zEc f d) g q c (lvs++[newL d.place 0 f])) w':=by
 have H:=H0.framed;clear H0;obtain⟨l1,hl1⟩:∃ l1,zBZ pb lq ln lc last f g oq oc lvs=l1:=⟨_,rfl⟩;obtain⟨rF,hrF⟩:∃ rF,zBj w l1=rF:=⟨_,rfl⟩;obtain⟨rS,hrS⟩:∃ rS,zCK w l1=rS:=⟨_,rfl⟩;rw[hl1,hrF,hrS,← hl1]at H;simp only[putL,zBZ,zEE,zBP,List.cons_append,List.nil_append]at H;have HR:=Lib.hid (And.intro hl1 (And.intro hrF hrS));clear hl1 hrF hrS;have HK:=Lib.hid hk;clear hk
 go_enter Tryz.func14,Tryz.ntmps14
 go_wp2_with (first|((with_reducible refine gL ?_);refine zAE wtd_ _ _ rfl rfl zAQ (zBo HK.out H (i:=3) i_3) ?_)|(go_at_call 12;refine chT (fun h=>zHF oq oc lvs d.place 0 hn h) H (l3:=[.kn rF rS,.blk b3 (zAY d) 57]) [0,1] [2,3] rfl rfl (by decide) ?_;clear H;intro w x H;simp only[zBZ,List.cons_append,List.nil_append]at H)|(go_at_call 35;refine zMP (zNM pb _ lq ln lc last g f d.on d.off _ _ (H.blk .zero).2) H .zero ?_;clear H;intro w H;simp only[nrl]at H)|((with_reducible refine gL ?_);refine zD5 wtd_ _ _ rfl (k:=11) rfl H (i:=3) i_3 (#[.bool d.on.1,.bool d.on.2.1,.bool d.on.2.2]) zBT (zKV d) ?_)|((with_reducible refine gL ?_);refine zD5 wtd_ _ _ rfl (k:=14) rfl H (i:=3) i_3 (#[.bool d.off.1,.bool d.off.2.1,.bool d.off.2.2]) zBT (zJD d) ?_)|((first|((with_reducible refine kgA 3 ?_);refine kA 3 H ?_)|((with_reducible refine kgX 3 ?_);(first|refine kS 3 H ?_|refine kB 3 H ?_)));clear H;intro b3 w H;try simp only[nr]at H)|((with_reducible refine gL ?_);refine aG H ?_))
 obtain⟨h1,h2,h3⟩:=HR.out;rw[← h2,← h3]at H;refine⟨rfl,.tuple #[],resE rfl,rfl,x.1,x.2,?_⟩
 rw[h1];exact Turned.of H (i:=2) i_2 [0,1] (by decide) (by decide) rfl (fun F3 S3 hm b hb=>by simp[zBZ]at hm)
theorem zOo (d:WordD) (hk:d.kind=8) (oq:Option Addr) (on oc:Nat) (H0:HoldG M w0 w [blkP pb lq ln lc last f g oq on oc]) :
  Calls Tryz.prog 14 #[.pointer (some ⟨pb,0,none⟩),zAd d] w fun e w'=>e=.returned (.tuple #[])∧Turned M w0 w [blkP pb lq ln lc last f g oq on oc] [blkP pb lq ln lc last (zEc f d) g oq on oc] w':=by
 have H:=H0.framed;clear H0;obtain⟨l1,hl1⟩:∃ l1,[blkP pb lq ln lc last f g oq on oc]=l1:=⟨_,rfl⟩;obtain⟨rF,hrF⟩:∃ rF,zBj w l1=rF:=⟨_,rfl⟩;obtain⟨rS,hrS⟩:∃ rS,zCK w l1=rS:=⟨_,rfl⟩;rw[hl1,hrF,hrS,← hl1]at H;simp only[putL,zBZ,zEE,zBP,List.cons_append,List.nil_append]at H;have HR:=Lib.hid (And.intro hl1 (And.intro hrF hrS));clear hl1 hrF hrS;have HK:=Lib.hid hk;clear hk
 go_enter Tryz.func14,Tryz.ntmps14
 go_wp2_with (first|((with_reducible refine gL ?_);refine zAE wtd_ _ _ rfl rfl zAQ (zBo HK.out H (i:=2) i_2) ?_)|(go_at_call 35;refine zMP (zNM pb _ lq ln lc last g f d.on d.off _ _ (H.blk .zero).2) H .zero ?_;clear H;intro w H;simp only[nrl]at H)|((with_reducible refine gL ?_);refine zD5 wtd_ _ _ rfl (k:=11) rfl H (i:=2) i_2 (#[.bool d.on.1,.bool d.on.2.1,.bool d.on.2.2]) zBT (zKV d) ?_)|((with_reducible refine gL ?_);refine zD5 wtd_ _ _ rfl (k:=14) rfl H (i:=2) i_2 (#[.bool d.off.1,.bool d.off.2.1,.bool d.off.2.2]) zBT (zJD d) ?_)|((first|((with_reducible refine kgA 3 ?_);refine kA 3 H ?_)|((with_reducible refine kgX 3 ?_);(first|refine kS 3 H ?_|refine kB 3 H ?_)));clear H;intro b3 w H;try simp only[nr]at H)|fail)
 obtain⟨h1,h2,h3⟩:=HR.out;rw[← h2,← h3]at H;refine⟨rfl,.tuple #[],resE rfl,rfl,?_⟩
 rw[h1];exact Turned.of H (i:=1) i_1 [0] (by decide) (by decide) rfl (fun F3 S3 hm b hb=>by simp at hm)
theorem zOH (d:WordD) (hk:d.kind=9) (l2 l:LevM) (hn:pre.length+1≤1000000) (hi:l2.items.length≤1000000) (ha:l.all.length≤1000000) (hsub:∀ x,x ∈ l.items∨x ∈ l.all→x ∈ zs) (hsub2:∀ x ∈ l2.items,x ∈ zs) (H0:HoldG M w0 w (zEE pb lq ln lc last f g og oc pre l2 l F zs)) :
  Calls Tryz.prog 14 #[.pointer (some ⟨pb,0,none⟩),zAd d] w (zIT M w0 pb lq ln lc last f g og oc pre l2 l F zs w):=by
 have H:=H0.framed;clear H0;obtain⟨l1,hl1⟩:∃ l1,zEE pb lq ln lc last f g og oc pre l2 l F zs=l1:=⟨_,rfl⟩;obtain⟨rF,hrF⟩:∃ rF,zBj w l1=rF:=⟨_,rfl⟩;obtain⟨rS,hrS⟩:∃ rS,zCK w l1=rS:=⟨_,rfl⟩;rw[hl1,hrF,hrS,← hl1]at H;simp only[putL,zBZ,zEE,zBP,List.cons_append,List.nil_append]at H;have HR:=Lib.hid (And.intro hl1 (And.intro hrF hrS));clear hl1 hrF hrS;have HK:=Lib.hid hk;clear hk;have HI:=Lib.hid (And.intro hn (And.intro hi (And.intro ha (And.intro hsub hsub2))));clear hn hi ha hsub hsub2
 go_enter Tryz.func14,Tryz.ntmps14
 go_wp2_with (first|((with_reducible refine gL ?_);refine zAE wtd_ _ _ rfl rfl zAQ (zBo HK.out H (i:=7) i_7) ?_)|((with_reducible refine gL ?_);refine zAE wtd_ _ _ rfl rfl zAI (zFv H (i:=7) i_7) ?_)|(go_at_call 36;refine zPC (fun h=>zPu l2 l d.place HI.out.1 HI.out.2.1 HI.out.2.2.1 HI.out.2.2.2.1 HI.out.2.2.2.2 h) H [0,1,2,3,4,5] (by decide) rfl (fun _ _ h=>h.1) (fun w' h=>⟨h.1,h.2.choose,h.2.choose_spec.choose,h.2.choose_spec.choose_spec.choose,h.2.choose_spec.choose_spec.choose_spec.choose,h.2.choose_spec.choose_spec.choose_spec.choose_spec.choose,Turned.viaE H i_6 HR.out.1 HR.out.2.1 HR.out.2.2 h.2.choose_spec.choose_spec.choose_spec.choose_spec.choose_spec⟩) ?_;clear H;intro wp hP)|((first|((with_reducible refine kgA 3 ?_);refine kA 3 H ?_)|((with_reducible refine kgX 3 ?_);(first|refine kS 3 H ?_|refine kB 3 H ?_)));clear H;intro b3 w H;try simp only[nr]at H)|fail)
 exact⟨rfl,.tuple #[],resE rfl,hP⟩
theorem zMZ (d:WordD) (hk:d.kind=10) (l:LevM) (hn:pre.length≤1000000) (ha:l.all.length≤1000000) (hsub:∀ x,x ∈ l.items∨x ∈ l.all→x ∈ zs) (H0:HoldG M w0 w (zBP og oc pre l F zs++[blkP pb lq ln lc last f g (some ⟨og,0,none⟩) (pre.length+1) oc])) :
  Calls Tryz.prog 14 #[.pointer (some ⟨pb,0,none⟩),zAd d] w fun e w'=>e=.returned (.tuple #[])∧∃ x l4 F',(l4.all=l.all++[x]∧x.1=rowT 4 (l.items.map (·.1))∧l4.items=[]∧l4.group=l.group∧l4.behind=l.behind∧l4.place=l.place)∧Turned M w0 w (zBP og oc pre l F zs++[blkP pb lq ln lc last f g (some ⟨og,0,none⟩) (pre.length+1) oc]) (zBP og oc pre l4 F' (zs++[x])++[blkP pb lq ln lc last f g (some ⟨og,0,none⟩) (pre.length+1) oc]) w':=by
 have H:=H0.framed;clear H0;obtain⟨l1,hl1⟩:∃ l1,zBP og oc pre l F zs++[blkP pb lq ln lc last f g (some ⟨og,0,none⟩) (pre.length+1) oc]=l1:=⟨_,rfl⟩;obtain⟨rF,hrF⟩:∃ rF,zBj w l1=rF:=⟨_,rfl⟩;obtain⟨rS,hrS⟩:∃ rS,zCK w l1=rS:=⟨_,rfl⟩;rw[hl1,hrF,hrS,← hl1]at H;simp only[putL,zBZ,zEE,zBP,List.cons_append,List.nil_append]at H;have HR:=Lib.hid (And.intro hl1 (And.intro hrF hrS));clear hl1 hrF hrS
 have HK:=Lib.hid hk;clear hk;have HS:=Lib.hid hsub;clear hsub;have HA:=Lib.hid ha;clear ha;obtain⟨N,hNe⟩:∃ N,NewF w l1=N:=⟨_,rfl⟩;have HNW:=Lib.hid (show ∀ (wc:World) (ls:List Res) (i:Nat),HoldG M w0 wc ls→At ls i (.kn rF rS)→∀ b,wc.heap.size≤b→N b from fun wc ls i H hi=>hNe ▸ H.newer hi HR.out.2.1)
 have HNF:=Lib.hid (show ∀ s ∈ l1,∀ b,s.foot b→N b from fun s hs b hb=>hNe ▸ .inl ⟨s,hs,hb⟩)
 have HNE:=Lib.hid hNe;clear hNe
 go_enter Tryz.func14,Tryz.ntmps14
 go_wp2_with (first|((with_reducible refine gL ?_);refine zAE wtd_ _ _ rfl rfl zAQ (zBo HK.out H (i:=6) i_6) ?_)|(go_at_call 16;refine zL9 (zFT pb og pre.length oc _ (Array.getElem?_eq_some_iff.1 (H.blk (i:=4) i_4).2).1 hn (H.cell (i:=4) i_4 6)) H ?_;clear H;intro w H)|(go_at_call 37;refine zQf (fun h=>zPN og oc pre l F zs hn HA.out HS.out h) (H:HoldG M w0 _ (zBP og oc pre l F zs++_)) (N:=N) (fun b hb=>HNF.out (knL F zs) (by rw[← HR.out.1];simp[zBP]) b hb) (fun b hb=>HNF.out (rowN l.iq l.ic l.items) (by rw[← HR.out.1];simp[zBP]) b hb) (HNW.out _ _ 5 H i_5) ?_;clear H;intro w l4 x F' HL HF H)|((first|((with_reducible refine kgA 3 ?_);refine kA 3 H ?_)|((with_reducible refine kgX 3 ?_);(first|refine kS 3 H ?_|refine kB 3 H ?_)));clear H;intro b3 w H;try simp only[nr]at H)|fail)
 simp only[zBP,List.cons_append,List.nil_append]at H;obtain⟨h1,h2,h3⟩:=HR.out;rw[← h2,← h3]at H;refine⟨rfl,.tuple #[],resE rfl,rfl,x,l4,F',HL.out,?_⟩
 rw[h1];refine Turned.of H (i:=5) i_5 [0,1,2,3,4] (by decide) (by decide) rfl (fun F2 S2 hm b hb=>?_)
 simp only[zBP,List.cons_append,List.nil_append,List.mem_cons,List.not_mem_nil,or_false,reduceCtorEq,false_or,Res.kn.injEq]at hm;obtain⟨rfl,_⟩:=hm;have:=HF.out b hb;rw[← HNE.out]at this;exact this
theorem zLs (d:WordD) (hk:d.kind=11) (l:LevM) (ys:List TV) (x:TV) (hit:l.items=ys++[x]) (hb:zCG last=false) (hn:pre.length≤1000000) (hi:l.items.length≤1000000) (hsub:∀ x ∈ l.items,x ∈ zs) (H0:HoldG M w0 w (putL pb lq ln lc last f g og oc pre l F zs)) :
  Calls Tryz.prog 14 #[.pointer (some ⟨pb,0,none⟩),zAd d] w (zMU M w0 pb lq ln lc last f g og oc pre l F zs ys x d w):=by
 have H:=H0.framed;clear H0;obtain⟨l1,hl1⟩:∃ l1,putL pb lq ln lc last f g og oc pre l F zs=l1:=⟨_,rfl⟩;obtain⟨rF,hrF⟩:∃ rF,zBj w l1=rF:=⟨_,rfl⟩;obtain⟨rS,hrS⟩:∃ rS,zCK w l1=rS:=⟨_,rfl⟩;rw[hl1,hrF,hrS,← hl1]at H;simp only[putL,zBZ,zEE,zBP,List.cons_append,List.nil_append]at H;have HR:=Lib.hid (And.intro hl1 (And.intro hrF hrS));clear hl1 hrF hrS;have HK:=Lib.hid hk;clear hk;have HI:=Lib.hid (And.intro hit (And.intro hb (And.intro hn (And.intro hi hsub))));clear hit hb hn hi hsub
 go_enter Tryz.func14,Tryz.ntmps14
 go_wp2_with (first|((with_reducible refine gL ?_);refine zAE wtd_ _ _ rfl rfl zAQ (zBo HK.out H (i:=5) i_5) ?_)|(go_at_call 38;refine zPC (fun h=>zMB d l ys x HI.out.1 HI.out.2.1 HI.out.2.2.1 HI.out.2.2.2.1 HI.out.2.2.2.2 h) H [0,1,2,3] (by decide) rfl (fun _ _ h=>h.1) (fun w' h=>⟨h.1,h.2.choose,h.2.choose_spec.choose,h.2.choose_spec.choose_spec.choose,Turned.viaE H i_4 HR.out.1 HR.out.2.1 HR.out.2.2 h.2.choose_spec.choose_spec.choose_spec⟩) ?_;clear H;intro wp hP)|((first|((with_reducible refine kgA 3 ?_);refine kA 3 H ?_)|((with_reducible refine kgX 3 ?_);(first|refine kS 3 H ?_|refine kB 3 H ?_)));clear H;intro b3 w H;try simp only[nr]at H)|((with_reducible refine gL ?_);refine aD H ?_))
 exact⟨rfl,.tuple #[],resE rfl,hP⟩
theorem zLu (d:WordD) (hk:d.kind=9) (oq:Option Addr) (oc:Nat) {T:TypeId} (w:World) (h:w.heap[pb]?=some (.cells (psC lq ln lc last f g (.slice oq 1 oc)) T (0,0))) :
  Calls Tryz.prog 14 #[.pointer (some ⟨pb,0,none⟩),zAd d] w fun e w'=>e=.panicked (zDM d.place 4)∧Below w.heap.size w w':=by
 have H:=(Hold.start w).know (·=pb) (fun V=>V.heap[pb]?=some (.cells (psC lq ln lc last f g (.slice oq 1 oc)) T (0,0))) (fun b hb=>by rw[hb];exact(Array.getElem?_eq_some_iff.1 h).1) (fun i r h=>by simp at h) (fun V hV=>by rw[← h];exact hV pb rfl)
 simp only[List.nil_append]at H;clear h;have hc1:∀ V:World,V.heap[pb]?=some (.cells (psC lq ln lc last f g (.slice oq 1 oc)) T (0,0))→V.cell? ⟨pb,1,none⟩=some (.int .i64 last):=fun V h=>by simp[World.cell?,h]
 have hc6:∀ V:World,V.heap[pb]?=some (.cells (psC lq ln lc last f g (.slice oq 1 oc)) T (0,0))→V.cell? ⟨pb,6,none⟩=some (.slice oq 1 oc):=fun V h=>by simp[World.cell?,h]
 have HK:=Lib.hid hk;clear hk
 go_enter Tryz.func14,Tryz.ntmps14
 go_wp2_with (first|((with_reducible refine gL ?_);refine zAE wtd_ _ _ rfl rfl zAQ (zBo HK.out H (i:=1) i_1) ?_)|((with_reducible refine gL ?_);refine zAE wtd_ _ _ rfl rfl zAI (zFv H (i:=1) i_1) ?_)|(go_at_call 36;refine chP (zLF pb d.place oq oc _ (Array.getElem?_eq_some_iff.1 (H.kn (i:=0) .zero)).1 (hc6 _ (H.kn (i:=0) .zero))) H ?_;clear H;intro w H)|((first|((with_reducible refine kgA 3 ?_);refine kA 3 H ?_)|((with_reducible refine kgX 3 ?_);(first|refine kS 3 H ?_|refine kB 3 H ?_)));clear H;intro b3 w H;try simp only[nr]at H)|fail)
 exact⟨rfl,rfl,H.below⟩
theorem zLH (d:WordD) (hk:d.kind=11) (hb:zCG last=true) (oq:Option Addr) (on oc:Nat) {T:TypeId} (w:World) (h:w.heap[pb]?=some (.cells (psC lq ln lc last f g (.slice oq on oc)) T (0,0))) :
  Calls Tryz.prog 14 #[.pointer (some ⟨pb,0,none⟩),zAd d] w fun e w'=>e=.panicked (zDM d.place 4)∧Below w.heap.size w w':=by
 have H:=(Hold.start w).know (·=pb) (fun V=>V.heap[pb]?=some (.cells (psC lq ln lc last f g (.slice oq on oc)) T (0,0))) (fun b hb=>by rw[hb];exact(Array.getElem?_eq_some_iff.1 h).1) (fun i r h=>by simp at h) (fun V hV=>by rw[← h];exact hV pb rfl)
 simp only[List.nil_append]at H;clear h;have hc1:∀ V:World,V.heap[pb]?=some (.cells (psC lq ln lc last f g (.slice oq on oc)) T (0,0))→V.cell? ⟨pb,1,none⟩=some (.int .i64 last):=fun V h=>by simp[World.cell?,h]
 have hc6:∀ V:World,V.heap[pb]?=some (.cells (psC lq ln lc last f g (.slice oq on oc)) T (0,0))→V.cell? ⟨pb,6,none⟩=some (.slice oq on oc):=fun V h=>by simp[World.cell?,h]
 have HK:=Lib.hid hk;clear hk
 go_enter Tryz.func14,Tryz.ntmps14
 go_wp2_with (first|((with_reducible refine gL ?_);refine zAE wtd_ _ _ rfl rfl zAQ (zBo HK.out H (i:=1) i_1) ?_)|((with_reducible refine gL ?_);refine zAE wtd_ _ _ rfl rfl zAI (zFv H (i:=1) i_1) ?_)|(go_at_call 38;refine chP (zJJ pb last d _ (Array.getElem?_eq_some_iff.1 (H.kn (i:=0) .zero)).1 hb (hc1 _ (H.kn (i:=0) .zero))) H ?_;clear H;intro w H)|((first|((with_reducible refine kgA 3 ?_);refine kA 3 H ?_)|((with_reducible refine kgX 3 ?_);(first|refine kS 3 H ?_|refine kB 3 H ?_)));clear H;intro b3 w H;try simp only[nr]at H)|((with_reducible refine gL ?_);refine aD H ?_))
 exact⟨rfl,rfl,H.below⟩
end
end
section
open Go.RowKit
theorem zCq {L:Str}:∀ (f k:Nat) (a b:Bool) (d d':WordD) (e:Nat),zAT L f k a b d=some (d',e)→d'.place=d.place
 | 0,_,_,_,_,_,_,h=>by cases h
 | f+1,k,a,b,d,d',e,h=>by
  rw[zAT]at h;split at h
  ·simp only[]at h;split at h
   ·rw[zCq f _ _ _ _ _ _ h];cases a<;>rfl
   ·split at h
    ·rw[zCq f _ _ _ _ _ _ h];cases a<;>rfl
    ·split at h
     ·rw[zCq f _ _ _ _ _ _ h];cases a<;>rfl
     ·split at h
      ·split at h
       ·cases h
       ·rw[zCq f _ _ _ _ _ _ h]
      ·split at h
       ·split at h
        ·cases h;rfl
        ·cases h
       ·split at h
        ·split at h
         ·cases h;rfl
         ·cases h
        ·cases h
  ·cases h
theorem zIo {L:Str} {i j:Nat} {d:WordD} (h:zBH L i=some (d,j)):d.place=i:=by
 unfold zBH at h;split at h
 ·cases h;rfl
 ·split at h
  ·cases h;rfl
  ·obtain⟨⟨b,e⟩,_,h2⟩:=Option.map_eq_some_iff.1 h
   cases h2;rfl
theorem zIl {L:Str} {i j:Nat} {d:WordD} (h:zBO L i=some (d,j)):d.place=i:=by
 unfold zBO at h;obtain⟨⟨b,e⟩,_,h2⟩:=Option.map_eq_some_iff.1 h
 cases h2;rfl
theorem zDO {L:Str} {i e j:Nat} {lo hi:Int} {d:WordD} (h:zAZ L i lo hi e=.ok (d,j)):d.place=i:=by
 unfold zAZ at h;split at h
 ·cases h
 ·split at h<;>(cases h;rfl)
theorem zJ1 {L:Str} {i j:Nat} {d:WordD} (h:zAq L i=.ok (d,j)):d.place=i:=by
 unfold zAq at h;simp only[]at h;split at h
 ·exact zIo (zE6 h)
 ·split at h
  ·exact zIl (zE6 h)
  ·split at h
   ·split at h
    ·exact zCq _ _ _ _ _ _ _ (zE6 h)
    ·cases h;rfl
   ·split at h
    ·split at h
     ·exact zDO h
     ·cases h;rfl
    ·split at h
     ·exact zDO h
     ·split at h
      ·exact zDO h
      ·split at h
       ·exact zDO h
       ·split at h<;>(cases h;rfl)
def zC0 (w:WordD):Prop:=1≤w.kind∧w.kind≤11∧(w.kind=5→8≤w.spot∧w.spot≤13)∧(w.kind=11→0≤w.lo∧w.lo≤100∧w.hi≤100∧(w.hi = -1∨w.lo≤w.hi))
theorem zHV {w:WordD} (k:Nat) (hk:w.kind=k) (h:1≤k∧k≤11∧k≠5∧k≠11:=by decide):zC0 w:=⟨by omega,by omega,fun h=>by omega,fun h=>by omega⟩
theorem zJ0 {w:WordD} (h1:1≤w.kind) (h2:w.kind≤11) (h5:w.kind≠5) (h11:w.kind≠11):zC0 w:=⟨h1,h2,fun h=>absurd h h5,fun h=>absurd h h11⟩
theorem zKu {L:Str} {i e:Nat} {d:WordD} (h:zBO L i=some (d,e)):zC0 d:=by
 unfold zBO at h;obtain⟨⟨S,e1⟩,_,h2⟩:=Option.map_eq_some_iff.1 h
 cases h2
 exact zHV 1 rfl
theorem zHl {L:Str}:∀ (f k:Nat) (off opn:Bool) (w d:WordD) (e:Nat),zAT L f k off opn w=some (d,e)→zC0 d
 | 0,_,_,_,_,_,_,h=>by simp[zAT]at h
 | f+1,k,off,opn,w,d,e,h=>by
  unfold zAT at h;have IH:=fun k off opn w=>zHl (L:=L) f k off opn w d e
  dsimp only at h
  split at h
  ·split at h
   ·exact IH _ _ _ _ h
   split at h
   ·exact IH _ _ _ _ h
   split at h
   ·exact IH _ _ _ _ h
   split at h
   ·split at h
    ·cases h
    ·exact IH _ _ _ _ h
   split at h
   ·split at h
    ·cases h;exact zJ0 (by show 1≤7;decide) (by show 7≤11;decide) (by show 7≠5;decide) (by show 7≠11;decide)
    ·cases h
   split at h
   ·split at h
    ·cases h;exact zJ0 (by show 1≤8;decide) (by show 8≤11;decide) (by show 8≠5;decide) (by show 8≠11;decide)
    ·cases h
   ·cases h
  ·cases h
theorem zK8 {L:Str} {i e:Nat} {d:WordD} (h:zBH L i=some (d,e)):zC0 d:=by
 unfold zBH at h;split at h
 ·cases h;exact zHV 1 rfl
 ·split at h
  ·rename_i k hk
   cases h
   refine⟨by show 1≤5;decide,by show 5≤11;decide,fun _=>?_,fun h=>absurd h (by show 5≠11;decide)⟩
   show 8≤k∧k≤13
   split at hk
   ·unfold zFI at hk;split at hk
    ·cases hk;decide
    split at hk
    ·cases hk;decide
    split at hk
    ·cases hk;decide
    split at hk
    ·cases hk;decide
    ·cases hk
   ·cases hk
  ·obtain⟨⟨b,e1⟩,_,h2⟩:=Option.map_eq_some_iff.1 h
   cases h2;exact zHV 1 rfl
theorem zEU {L:Str} {i k e:Nat} {lo hi:Int} {d:WordD} (hlo:0≤lo) (hhi : -1≤hi) (h:zAZ L i lo hi k=.ok (d,e)):zC0 d:=by
 unfold zAZ at h;split at h
 ·cases h
 ·rename_i hc;have key:0≤lo∧lo≤100∧hi≤100∧(hi = -1∨lo≤hi):=by omega
  split at h<;>(cases h;exact⟨by show 1≤11;decide,by show 11≤11;decide,fun h=>absurd h (by show 11≠5;decide),fun _=>key⟩)
theorem zMx {L:Str} {i e:Nat} {n:Nat} {hi:Int} (h:zBI L i=some (n,hi,e)) : -1≤hi:=by
 unfold zBI at h;split at h
 ·cases h
 ·split at h
  ·cases h;decide
  split at h
  ·split at h
   ·cases h
   ·split at h
    ·cases h;omega
    ·cases h
  split at h
  ·cases h;omega
  ·cases h
theorem zLz {L:Str} {i e:Nat} {d:WordD} (h:zAq L i=.ok (d,e)):zC0 d:=by
 unfold zAq at h
 dsimp only at h
 split at h
 ·exact zK8 (zDW h)
 split at h
 ·exact zKu (zDW h)
 split at h
 ·split at h
  ·have h:=zDW h;unfold zAy at h;exact zHl _ _ _ _ _ _ _ h
  ·cases h;exact zHV 6 rfl
 split at h
 ·split at h
  ·rename_i hb;exact zEU (by omega) (zMx hb) h
  ·cases h;exact zHV 1 rfl
 split at h
 ·exact zEU (by decide) (by decide) h
 split at h
 ·exact zEU (by decide) (by decide) h
 split at h
 ·exact zEU (by decide) (by decide) h
 split at h
 ·rename_i k hk
  cases h
  unfold zGQ at hk;have:k=2∨k=3∨k=4∨k=9∨k=10:=by
   repeat' split at hk
   all_goals first|(cases hk;omega)|cases hk
  exact zJ0 (by show 1≤k;omega) (by show k≤11;omega) (by show k≠5;omega) (by show k≠11;omega)
 ·cases h;exact zHV 1 rfl
theorem zF7 {L:Str}:∀ (f i:Nat) (ws:List WordD),zA9 L f i=.ok ws→∀ d ∈ ws,zC0 d
 | 0,i,ws,h=>by
  unfold zA9 at h;split at h
  ·cases h
  ·cases h;intro d hd;cases hd
 | f+1,i,ws,h=>by
  unfold zA9 at h;split at h
  ·split at h
   ·cases h
   ·rename_i w j hw;split at h
    ·cases h
    ·rename_i l hl
     cases h
     intro d hd;rcases List.mem_cons.1 hd with rfl|hd
     ·exact zLz hw
     ·exact zF7 f j l hl d hd
  ·cases h;intro d hd;cases hd
theorem zKr {L:Str} {ws:List WordD} (h:zBn L=.ok ws):∀ d ∈ ws,zC0 d:=by
 unfold zBn at h;split at h
 ·cases h
 ·exact zF7 _ _ _ h
theorem zHb {L:Str}:∀ (f i:Nat) (ws:List WordD),zA9 L f i=.ok ws→∀ d ∈ ws,d.place<L.length
 | 0,i,ws,h=>by
  unfold zA9 at h;split at h
  ·cases h
  ·cases h;intro d hd;cases hd
 | f+1,i,ws,h=>by
  unfold zA9 at h;split at h
  ·rename_i hlt;split at h
   ·cases h
   ·rename_i w j hw;split at h
    ·cases h
    ·rename_i l hl
     cases h
     intro d hd;rcases List.mem_cons.1 hd with rfl|hd
     ·rw[zJ1 hw];exact hlt
     ·exact zHb f j l hl d hd
  ·cases h;intro d hd;cases hd
theorem zHd {L:Str}:∀ (f i:Nat) (p x:Nat),L.length≤f+i→zA9 L f i=.error (p,x)→p<L.length∧(x=4∨x=6)
 | 0,i,p,x,hf,h=>by
  unfold zA9 at h;rw[if_neg (by omega)]at h;cases h
 | f+1,i,p,x,hf,h=>by
  unfold zA9 at h;split at h
  ·rename_i hlt;split at h
   ·rename_i e he
    cases h
    exact⟨hlt,zFV he⟩
   ·rename_i w j hw;have hj:=zGY hlt hw;split at h
    ·rename_i y hy
     cases h
     exact zHd f j p x (by omega) hy
    ·cases h
  ·cases h
theorem zGb:∀ (r:List WordD) (b:Bool) (op:List Nat) (a:Nat),zAp b op r=some a→a ∈ op∨∃ w ∈ r,w.place=a
 | [],b,op,a,h=>by
  rw[zAp]at h;exact .inl (List.mem_of_getLast? h)
 | w::r,b,op,a,h=>by
  rw[zAp]at h;split at h
  ·cases h;exact .inr ⟨w,List.mem_cons_self ..,rfl⟩
  ·dsimp only at h
   have h0:∀ x ∈ (if zA1 w=true then op++[w.place] else op),x ∈ op∨x=w.place:=by
    intro x hx;split at hx
    ·rcases List.mem_append.1 hx with hx|hx
     ·exact .inl hx
     ·exact .inr (by simpa using hx)
    ·exact .inl hx
   rcases zGb r _ _ a h with h1|⟨d,hd,e⟩
   ·have h2:a ∈ (if zA1 w=true then op++[w.place] else op):=by
     split at h1
     ·exact(List.dropLast_subset _ h1)
     ·exact h1
    rcases h0 a h2 with h3|h3
    ·exact .inl h3
    ·exact .inr ⟨w,List.mem_cons_self ..,h3.symm⟩
   ·exact .inr ⟨d,List.mem_cons_of_mem _ hd,e⟩
theorem zMH {L:Str} {f:zAP} {a x:Nat} (h:zBv L f=.error (a,x)):x≠0∧x≠2∧(a<L.length∨a=0):=by
 unfold zBv at h;split at h
 ·rename_i y hy
  cases h
  unfold zBn at hy;split at hy
  ·cases hy;exact⟨by decide,by decide,.inr rfl⟩
  ·obtain⟨h1,h2⟩:=zHd _ _ _ _ (by omega) hy
   exact⟨by omega,by omega,.inl h1⟩
 ·rename_i ws hws;split at h
  ·rename_i b hb
   cases h
   refine⟨by decide,by decide,.inl ?_⟩
   rcases zGb _ _ _ _ hb with h1|⟨w,hw,e⟩
   ·cases h1
   ·subst e;unfold zBn at hws;split at hws
    ·cases hws
    ·exact zHb _ _ _ hws w hw
  ·rename_i hb;split at h
   ·rename_i hn;obtain⟨t,g,ht⟩:=zFs f hb;rw[ht]at hn;cases hn
   ·split at h
    ·cases h;exact⟨by decide,by decide,.inr rfl⟩
    ·split at h
     ·cases h;exact⟨by decide,by decide,.inr rfl⟩
     ·cases h
end
section
open Go.RowKit Go.Shelf
section
variable {M:Nat→Prop} {w0 w w':World} {l l1 l2 R A B:List Res}
theorem HoldG.perms (H:HoldG M w0 w l) (p:l.Perm l2):HoldG M w0 w l2:=by
 have hp:l.Pairwise (fun r s=>zLe r s∧zLe s r):=by
  rw[List.pairwise_iff_getElem];intro i j hi hj hij;exact⟨H.apart i j _ _ (by omega) (List.getElem?_eq_getElem hi) (List.getElem?_eq_getElem hj),H.apart j i _ _ (by omega) (List.getElem?_eq_getElem hj) (List.getElem?_eq_getElem hi)⟩
 have hp2:=hp.perm p (fun h=>⟨h.2,h.1⟩)
 rw[List.pairwise_iff_getElem]at hp2;refine⟨H.keep,fun i r h=>?_,fun i j r s hij hr hs=>?_⟩
 ·obtain⟨k,hk⟩:=List.getElem?_of_mem (p.symm.subset (List.mem_of_getElem? h));exact H.all k r hk
 ·obtain⟨h1,rfl⟩:=List.getElem?_eq_some_iff.1 hr;obtain⟨h2,rfl⟩:=List.getElem?_eq_some_iff.1 hs;rcases Nat.lt_or_ge i j with h|h
  ·exact(hp2 i j h1 h2 h).1
  ·exact(hp2 j i h2 h1 (by omega)).2
theorem HoldG.left (H:HoldG M w0 w (l1++R)):HoldG M w0 w l1 :=
 ⟨H.keep,fun i r h=>H.all i r (by rw[List.getElem?_append_left (List.getElem?_eq_some_iff.1 h).1];exact h),fun i j r s hij hr hs=>H.apart i j r s hij (by rw[List.getElem?_append_left (List.getElem?_eq_some_iff.1 hr).1];exact hr) (by rw[List.getElem?_append_left (List.getElem?_eq_some_iff.1 hs).1];exact hs)⟩
theorem Turned.frame (H:HoldG M w0 w (l1++R)) (T:Turned M w0 w l1 l2 w'):Turned M w0 w (l1++R) (l2++R) w':=by
 have hr:∀ b,zBj w (l1++R) b→zBj w l1 b:=fun b h=>⟨h.1,fun r hr=>h.2 r (List.mem_append_left _ hr)⟩
 refine⟨H.callL T,fun b hb=>T.rest b (hr b hb),fun b hb=>T.lt b (hr b hb),fun r h b hp=>?_,fun r h b hp=>?_⟩
 ·rcases List.mem_append.1 h with h|h
  ·exact(T.place r h b hp).imp (fun ⟨s,hs,e⟩=>⟨s,List.mem_append_left _ hs,e⟩) id
  ·exact .inl ⟨r,List.mem_append_right _ h,hp⟩
 ·rcases List.mem_append.1 h with h|h
  ·exact(T.foot r h b hp).imp (fun ⟨s,hs,e⟩=>⟨s,List.mem_append_left _ hs,e⟩) id
  ·exact .inl ⟨r,List.mem_append_right _ h,hp⟩
theorem Turned.perm (p1:A.Perm l1) (p2:B.Perm l2) (T:Turned M w0 w l1 l2 w'):Turned M w0 w A B w':=by
 have hr:∀ b,zBj w A b→zBj w l1 b:=fun b h=>⟨h.1,fun r hr=>h.2 r (p1.symm.subset hr)⟩
 exact⟨T.hold.perms p2.symm,fun b hb=>T.rest b (hr b hb),fun b hb=>T.lt b (hr b hb),fun r h b hp=>(T.place r (p2.subset h) b hp).imp (fun ⟨s,hs,e⟩=>⟨s,p1.symm.subset hs,e⟩) id,fun r h b hp=>(T.foot r (p2.subset h) b hp).imp (fun ⟨s,hs,e⟩=>⟨s,p1.symm.subset hs,e⟩) id⟩
theorem Turned.lift (H:HoldG M w0 w A) (p1:A.Perm (l1++R)) (p2:B.Perm (l2++R)) (T:Turned M w0 w l1 l2 w'):Turned M w0 w A B w':=(T.frame (H.perms p1)).perm p1 p2
theorem Turned.addNil (T:Turned M w0 w l1 l2 w') (e:TypeId) (sz:Nat):Turned M w0 w l1 (l2++[.row (.slice none 0 0) e sz 0 []]) w':=by
 refine⟨T.hold.addNil e sz,T.rest,T.lt,fun r h b hp=>?_,fun r h b hp=>?_⟩
 ·rcases List.mem_append.1 h with h|h
  ·exact T.place r h b hp
  ·rw[List.mem_singleton]at h;subst h;simp[Res.place,Value.ownBlock]at hp
 ·rcases List.mem_append.1 h with h|h
  ·exact T.foot r h b hp
  ·rw[List.mem_singleton]at h;subst h;simp[Res.foot,Value.ownBlock]at hp
theorem zOK {α:Type} (b r k i a:α) (X:List α):(b::r::k::(X++[i,a])).Perm ([b,r,k,i]++(X++[a])):=.cons _ (.cons _ (.cons _ List.perm_middle))
theorem zKQ {α:Type} (b r k i a:α) (X:List α):(b::r::k::(X++[i,a])).Perm ([r,k,i,a,b]++X):=by
 have h1:(r::k::(X++[i,a])).Perm ([r,k,i,a]++X):=.cons _ (.cons _ List.perm_append_comm);have h2:(b::([r,k,i,a]++X)).Perm ([r,k,i,a]++b::X):=List.perm_middle.symm;exact(h1.cons b).trans h2
theorem zMN {α:Type} (b r k i2 a2 i a:α) (X:List α):(b::r::k::(X++[i2,a2]++[i,a])).Perm ([r,k,i,a,b,i2]++(X++[a2])):=by
 refine(zKQ b r k i a (X++[i2,a2])).trans ?_
 exact .cons _ (.cons _ (.cons _ (.cons _ (.cons _ List.perm_middle))))
end
def zDz (ls:List LevM):List Res:=ls.flatMap fun l=>[rowN l.iq l.ic l.items,rowN l.aq l.ac l.all]
theorem zEt (ls:List LevM) (l:LevM):zDz (ls++[l])=zDz ls++[rowN l.iq l.ic l.items,rowN l.aq l.ac l.all]:=by simp[zDz]
def psL (pb:Nat) (lq:Option Addr) (ln lc last:Nat) (f:zAP) (g:Nat) (oq:Option Addr) (oc:Nat) (ls:List LevM) (F:Nat→Prop) (zs:List TV):List Res :=
 blkP pb lq ln lc last f g oq ls.length oc::rowL oq ls.length oc ls::knL F zs::zDz ls
structure LevsOk (ls:List LevM) (zs:List TV) (j:Nat):Prop where
 sub:∀ l ∈ ls,∀ x,x ∈ l.items∨x ∈ l.all→x ∈ zs
 len:ls.length≤j+1
 cnt:∀ l ∈ ls,l.items.length≤j∧l.all.length≤j
def opOf (ls:List LevM):List LevP:=(ls.map LevM.plain).reverse
theorem zBz (ls:List LevM) (l:LevM):opOf (ls++[l])=l.plain::opOf ls:=by simp[opOf]
def zDe (M:Nat→Prop) (w0:World) (pb:Nat) (lq:Option Addr) (ln lc:Nat) (s:StP) (d:WordD) (A:List Res) (j:Nat) (w:World) (e:Ending) (w':World):Prop :=
 match zCD s d with
 | .ok s'=>e=.returned (.tuple #[])∧∃ oq oc ls F zs,s'.op=opOf ls∧ls≠[]∧LevsOk ls zs (j+1)∧s'.groups≤j+1∧Turned M w0 w A (psL pb lq ln lc s.last s'.fl s'.groups oq oc ls F zs) w'
 | .error a=>e=.panicked (zDM a 4)∧Below w.heap.size w w'
section
variable {M:Nat→Prop} {w0 w:World} {pb:Nat} {lq:Option Addr} {ln lc:Nat} {F:Nat→Prop} {zs:List TV}
theorem LevsOk.put {pre:List LevM} {l l':LevM} {j:Nat} (h:LevsOk (pre++[l]) zs j) (zs':List TV) (hz:∀ x ∈ zs,x ∈ zs') (h1:∀ x,x ∈ l'.items∨x ∈ l'.all→x ∈ zs') (h2:l'.items.length≤j+1∧l'.all.length≤j+1):LevsOk (pre++[l']) zs' (j+1):=by
 refine⟨fun x hx y hy=>?_,by have:=h.len;simp at this ⊢;omega,fun x hx=>?_⟩
 ·rcases List.mem_append.1 hx with hx|hx
  ·exact hz _ (h.sub x (List.mem_append_left _ hx) y hy)
  ·rw[List.mem_singleton]at hx;subst hx;exact h1 y hy
 ·rcases List.mem_append.1 hx with hx|hx
  ·have:=h.cnt x (List.mem_append_left _ hx);omega
  ·rw[List.mem_singleton]at hx;subst hx;exact h2
theorem zIZ {last:Nat} {f:zAP} {g og oc:Nat} (pre:List LevM) (l:LevM):psL pb lq ln lc last f g (some ⟨og,0,none⟩) oc (pre++[l]) F zs =
  blkP pb lq ln lc last f g (some ⟨og,0,none⟩) (pre.length+1) oc::rowL (some ⟨og,0,none⟩) (pre.length+1) oc (pre++[l])::knL F zs::(zDz pre++[rowN l.iq l.ic l.items,rowN l.aq l.ac l.all]):=by
 unfold psL;rw[zEt,show (pre++[l]).length=pre.length+1 by simp]
theorem zFN {last:Nat} {f:zAP} {g og oc:Nat} (pre:List LevM) (l:LevM):(psL pb lq ln lc last f g (some ⟨og,0,none⟩) oc (pre++[l]) F zs).Perm (putL pb lq ln lc last f g og oc pre l F zs++(zDz pre++[rowN l.aq l.ac l.all])):=by
 rw[zIZ];exact zOK ..
theorem zJ3 {last:Nat} {f:zAP} {g og oc:Nat} (pre:List LevM) (l:LevM):(psL pb lq ln lc last f g (some ⟨og,0,none⟩) oc (pre++[l]) F zs).Perm ((zBP og oc pre l F zs++[blkP pb lq ln lc last f g (some ⟨og,0,none⟩) (pre.length+1) oc])++zDz pre):=by
 rw[zIZ];exact zKQ ..
theorem zKk {last:Nat} {f:zAP} {g og oc:Nat} (pre:List LevM) (l2 l:LevM):(psL pb lq ln lc last f g (some ⟨og,0,none⟩) oc ((pre++[l2])++[l]) F zs).Perm (zEE pb lq ln lc last f g og oc pre l2 l F zs++(zDz pre++[rowN l2.aq l2.ac l2.all])):=by
 rw[zIZ,zEt];exact zMN ..
end
section
variable {M:Nat→Prop} {w0 w:World} {pb:Nat} {lq:Option Addr} {ln lc:Nat} {F:Nat→Prop} {zs:List TV}
theorem zRU {d:WordD} (f:zAP) (h:d.kind=1):zCb d f=setT (if d.neg then notS (if f.1 then zDK d.set else d.set) else if f.1 then zDK d.set else d.set):=by simp[zCb,h]
theorem zQV {d:WordD} (f:zAP) (h:d.kind=2) (h2:f.2.2=true):zCb d f=setT (zAV 0 256):=by simp[zCb,h,h2]
theorem zQ1 {d:WordD} (f:zAP) (h:d.kind=2) (h2:f.2.2=false):zCb d f=setT (notS (ofS [10])):=by simp[zCb,h,h2]
theorem zRI {d:WordD} (f:zAP) (h:d.kind=3):zCb d f=zGU f 8 10:=by simp[zCb,h]
theorem zRJ {d:WordD} (f:zAP) (h:d.kind=4):zCb d f=zGU f 9 11:=by simp[zCb,h]
theorem zRM {d:WordD} (f:zAP) (h:d.kind=5):zCb d f=zDv d.spot:=by simp[zCb,h]
theorem zOc (d:WordD) (h1:1≤d.kind) (h5:d.kind≤5) (hs:zAf d.set) {last:Nat} {f:zAP} {g og oc:Nat} {pre:List LevM} {l:LevM} (hn:pre.length≤1000000) (hi:l.items.length≤1000000) (hsub:∀ x ∈ l.items,x ∈ zs) (H:HoldG M w0 w (putL pb lq ln lc last f g og oc pre l F zs)) :
  Calls Tryz.prog 14 #[.pointer (some ⟨pb,0,none⟩),zAd d] w (zBs M w0 pb lq ln lc last f g og oc pre l F zs (zCb d f) w):=by
 by_cases k1:d.kind=1
 ·rw[zRU f k1];exact zOD d k1 hs hn hi hsub H
 by_cases k2:d.kind=2
 ·cases hf:f.2.2 with
  | true=>rw[zQV f k2 hf];exact zLf d k2 hf hn hi hsub H
  | false=>rw[zQ1 f k2 hf];exact zMy d k2 hf hn hi hsub H
 by_cases k3:d.kind=3
 ·rw[zRI f k3];exact zN7 d k3 hn hi hsub H
 by_cases k4:d.kind=4
 ·rw[zRJ f k4];exact zNl d k4 hn hi hsub H
 have k5:d.kind=5:=by omega
 rw[zRM f k5];exact zOr d k5 hn hi hsub H
theorem zPz (d:WordD) (hf:zC0 d) (hs:zAf d.set) (s:StP) (oq:Option Addr) (oc:Nat) (ls:List LevM) (j:Nat) (hop:s.op=opOf ls) (hne:ls≠[]) (ok:LevsOk ls zs j) (hg:s.groups≤j) (hj:j+2≤1000000) (hrep:zCG s.last=false→∀ l r,s.op=l::r→l.items≠[])
  (H0:HoldG M w0 w (psL pb lq ln lc s.last s.fl s.groups oq oc ls F zs)) :
  Calls Tryz.prog 14 #[.pointer (some ⟨pb,0,none⟩),zAd d] w (zDe M w0 pb lq ln lc s d (psL pb lq ln lc s.last s.fl s.groups oq oc ls F zs) j w):=by
 obtain⟨og,rfl⟩:∃ og,oq=some ⟨og,0,none⟩:=by
  obtain⟨q,c,e,_,_,h⟩:=H0.rowShape (i:=1) i_1;obtain⟨og,rfl⟩:=h (List.length_pos_iff.2 hne);exact⟨og,by injection e⟩
 obtain⟨pre,l,rfl⟩:∃ pre l,ls=pre++[l]:=⟨ls.dropLast,ls.getLast hne,(List.dropLast_concat_getLast hne).symm⟩;have hpl:pre.length≤j:=by have:=ok.len;simp at this;omega
 have hlm:l ∈ pre++[l]:=by simp
 have hcnt:=ok.cnt l hlm;have hsb:=ok.sub l hlm;rw[zBz]at hop
 by_cases k6:d.kind=6
 ·have p1:(psL pb lq ln lc s.last s.fl s.groups (some ⟨og,0,none⟩) oc (pre++[l]) F zs).Perm (zBZ pb lq ln lc s.last s.fl s.groups (some ⟨og,0,none⟩) oc (pre++[l])++(knL F zs::zDz (pre++[l]))):=.refl _;refine(zO0 d k6 (some ⟨og,0,none⟩) oc (pre++[l]) (by simp;omega) (by omega) ((H0.perms p1).left)).mono fun e w' h=>?_
  obtain⟨rfl,q,c,T⟩:=h;unfold zDe;rw[wm_6 hop k6];refine⟨rfl,q,c,(pre++[l])++[newL d.place (s.groups+1) s.fl],F,zs,by rw[zBz,zBz];rfl,by simp,⟨fun x hx=>?_,by have:=ok.len;simp at this ⊢;omega,fun x hx=>?_⟩,by show s.groups+1≤j+1;omega,?_⟩
  ·rcases List.mem_append.1 hx with hx|hx
   ·exact ok.sub x hx
   ·rw[List.mem_singleton]at hx;subst hx;intro y hy;simp[newL]at hy
  ·rcases List.mem_append.1 hx with hx|hx
   ·have:=ok.cnt x hx;omega
   ·rw[List.mem_singleton]at hx;subst hx;simp[newL]
  ·refine Turned.lift H0 p1 ?_ ((T.addNil 30 10).addNil 30 10);unfold psL zBZ;rw[zEt (pre++[l])];exact .cons _ (.cons _ (List.perm_append_comm (l₁:=knL F zs::zDz (pre++[l])) (l₂:=[_,_])))
 by_cases k7:d.kind=7
 ·have p1:(psL pb lq ln lc s.last s.fl s.groups (some ⟨og,0,none⟩) oc (pre++[l]) F zs).Perm (zBZ pb lq ln lc s.last s.fl s.groups (some ⟨og,0,none⟩) oc (pre++[l])++(knL F zs::zDz (pre++[l]))):=.refl _;refine(zNr d k7 (some ⟨og,0,none⟩) oc (pre++[l]) (by simp;omega) ((H0.perms p1).left)).mono fun e w' h=>?_
  obtain⟨rfl,q,c,T⟩:=h;unfold zDe;rw[wm_7 hop k7];refine⟨rfl,q,c,(pre++[l])++[newL d.place 0 s.fl],F,zs,by rw[zBz,zBz];rfl,by simp,⟨fun x hx=>?_,by have:=ok.len;simp at this ⊢;omega,fun x hx=>?_⟩,by show s.groups≤j+1;omega,?_⟩
  ·rcases List.mem_append.1 hx with hx|hx
   ·exact ok.sub x hx
   ·rw[List.mem_singleton]at hx;subst hx;intro y hy;simp[newL]at hy
  ·rcases List.mem_append.1 hx with hx|hx
   ·have:=ok.cnt x hx;omega
   ·rw[List.mem_singleton]at hx;subst hx;simp[newL]
  ·refine Turned.lift H0 p1 ?_ ((T.addNil 30 10).addNil 30 10);unfold psL zBZ;rw[zEt (pre++[l])];exact .cons _ (.cons _ (List.perm_append_comm (l₁:=knL F zs::zDz (pre++[l])) (l₂:=[_,_])))
 by_cases k8:d.kind=8
 ·have p1:(psL pb lq ln lc s.last s.fl s.groups (some ⟨og,0,none⟩) oc (pre++[l]) F zs).Perm ([blkP pb lq ln lc s.last s.fl s.groups (some ⟨og,0,none⟩) (pre++[l]).length oc]++(rowL (some ⟨og,0,none⟩) (pre++[l]).length oc (pre++[l])::knL F zs::zDz (pre++[l]))):=.refl _;refine(zOo d k8 (some ⟨og,0,none⟩) (pre++[l]).length oc ((H0.perms p1).left)).mono fun e w' h=>?_
  obtain⟨rfl,T⟩:=h;unfold zDe;rw[wm_8 hop k8];exact⟨rfl,some ⟨og,0,none⟩,oc,pre++[l],F,zs,by rw[zBz];exact hop,by simp,ok.put zs (fun x hx=>hx) hsb (by omega),by show s.groups≤j+1;omega,Turned.lift H0 p1 (.refl _) T⟩
 by_cases k9:d.kind=9
 ·by_cases hp:pre=[]
  ·subst hp;refine(zLu d k9 (some ⟨og,0,none⟩) oc w ((H0.blk .zero).2)).mono fun e w' h=>?_
   unfold zDe;rw[zPh hop k9];exact h
  ·obtain⟨pp,l2,rfl⟩:∃ pp l2,pre=pp++[l2]:=⟨pre.dropLast,pre.getLast hp,(List.dropLast_concat_getLast hp).symm⟩;have hl2:l2 ∈ pp++[l2]++[l]:=by simp
   have hc2:=ok.cnt l2 hl2;have hs2:=ok.sub l2 hl2;rw[zBz]at hop;have hpl2:pp.length+1≤j:=by simpa using hpl
   refine(zOH d k9 l2 l (by omega) (by omega) (by omega) hsb (fun x hx=>hs2 x (.inl hx)) ((H0.perms (zKk pp l2 l)).left)).mono fun e w' h=>?_
   obtain⟨rfl,q,c,iq,ic,F',T⟩:=h;unfold zDe;rw[wm_9 hop k9];have hok:LevsOk (pp++[l2]) zs j:=⟨fun x hx=>ok.sub x (List.mem_append_left _ hx),by have:=ok.len;simp at this ⊢;omega,fun x hx=>ok.cnt x (List.mem_append_left _ hx)⟩
   refine⟨rfl,some ⟨og,0,none⟩,oc,pp++[{l2 with items:=l2.items++[(zFB l.plain,q,c)],iq:=iq,ic:=ic}],F',zs++[(zFB l.plain,q,c)],by rw[zBz];simp[LevM.plain,addL],by simp,hok.put _ (fun x hx=>List.mem_append_left _ hx) (fun x hx=>?_) (by simp;omega),by show s.groups≤j+1;omega,Turned.lift H0 (zKk pp l2 l) (zFN pp {l2 with items:=l2.items++[(zFB l.plain,q,c)],iq:=iq,ic:=ic}) T⟩
   rcases hx with hx|hx
   ·rcases List.mem_append.1 hx with hx|hx
    ·exact List.mem_append_left _ (hs2 x (.inl hx))
    ·exact List.mem_append_right _ hx
   ·exact List.mem_append_left _ (hs2 x (.inr hx))
 by_cases k10:d.kind=10
 ·refine(zMZ d k10 l (by omega) (by omega) hsb ((H0.perms (zJ3 pre l)).left)).mono fun e w' h=>?_
  obtain⟨rfl,x,l4,F',⟨a1,a2,a3,a4,a5,a6⟩,T⟩:=h;unfold zDe;rw[zQI hop k10];refine⟨rfl,some ⟨og,0,none⟩,oc,pre++[l4],F',zs++[x],by rw[zBz];simp[LevM.plain,barL,a1,a2,a3,a4,a5,a6],by simp,ok.put _ (fun x hx=>List.mem_append_left _ hx) (fun y hy=>?_) (by rw[a1,a3];simp;omega),by show s.groups≤j+1;omega,Turned.lift H0 (zJ3 pre l) (zJ3 pre l4) T⟩
  rw[a1,a3]at hy;rcases hy with hy|hy
  ·cases hy
  ·rcases List.mem_append.1 hy with hy|hy
   ·exact List.mem_append_left _ (hsb y (.inr hy))
   ·exact List.mem_append_right _ hy
 by_cases k11:d.kind=11
 ·cases hb:zCG s.last with
  | true =>
   refine(zLH d k11 hb (some ⟨og,0,none⟩) (pre++[l]).length oc w ((H0.blk .zero).2)).mono fun e w' h=>?_
   unfold zDe;rw[zLm hop k11 hb];exact h
  | false =>
   have hne2:l.items≠[]:=fun h=>hrep hb _ _ hop (by simp[LevM.plain,h])
   obtain⟨ys,x,hit⟩:∃ ys x,l.items=ys++[x]:=⟨l.items.dropLast,l.items.getLast hne2,(List.dropLast_concat_getLast hne2).symm⟩;have hx:l.plain.items.getLast?=some x.1:=by simp[LevM.plain,hit]
   refine(zLs d k11 l ys x hit hb (by omega) (by omega) (fun x hx=>hsb x (.inl hx)) ((H0.perms (zFN pre l)).left)).mono fun e w' h=>?_
   obtain⟨rfl,q,c,F',T⟩:=h;unfold zDe;rw[zPp hop k11 hb hx];refine⟨rfl,some ⟨og,0,none⟩,oc,pre++[{l with items:=ys++[(repT d x.1,q,c)]}],F',zs++[(repT d x.1,q,c)],by rw[zBz];simp[LevM.plain,zNi,hit],by simp,ok.put _ (fun x hx=>List.mem_append_left _ hx) (fun y hy=>?_) (by have:=hcnt.1;rw[hit]at this;simp at this ⊢;omega),by show s.groups≤j+1;omega,Turned.lift H0 (zFN pre l) (zFN pre {l with items:=ys++[(repT d x.1,q,c)]}) T⟩
   rcases hy with hy|hy
   ·rcases List.mem_append.1 hy with hy|hy
    ·exact List.mem_append_left _ (hsb y (.inl (by rw[hit];exact List.mem_append_left _ hy)))
    ·exact List.mem_append_right _ hy
   ·exact List.mem_append_left _ (hsb y (.inr hy))
 ·have hk5:d.kind≤5:=by have:=hf.2.1;omega
  refine(zOc d hf.1 hk5 hs (by omega) (by omega) (fun x hx=>hsb x (.inl hx)) ((H0.perms (zFN pre l)).left)).mono fun e w' h=>?_
  obtain⟨rfl,iq,ic,F',_,T⟩:=h;unfold zDe;rw[zOW hop k6 k7 k8 k9 k10 k11];refine⟨rfl,some ⟨og,0,none⟩,oc,pre++[{l with items:=l.items++[(zCb d s.fl,none,0)],iq:=iq,ic:=ic}],F',zs++[(zCb d s.fl,none,0)],by rw[zBz];simp[LevM.plain,addL],by simp,ok.put _ (fun x hx=>List.mem_append_left _ hx) (fun y hy=>?_) (by simp;omega),by show s.groups≤j+1;omega,Turned.lift H0 (zFN pre l) (zFN pre {l with items:=l.items++[(zCb d s.fl,none,0)],iq:=iq,ic:=ic}) T⟩
  rcases hy with hy|hy
  ·rcases List.mem_append.1 hy with hy|hy
   ·exact List.mem_append_left _ (hsb y (.inl hy))
   ·exact List.mem_append_right _ hy
  ·exact List.mem_append_left _ (hsb y (.inr hy))
end
end
end Go.Proofs.YtklcgfkdemifcaaGreatDoor
namespace Go.Proofs
open Go.Shelf
def Tryz.lays161_ren:Go.Shelf.Ren:=⟨fun|161=>175|231=>188|227=>189|233=>190|235=>191|228=>198|197=>199|151=>200|260=>202|152=>203|137=>169|119=>207|224=>205|225=>204|217=>183|266=>194|n=>n,fun|9=>9|4=>4|3=>3|5=>5|117=>316|116=>315|0=>0|124=>319|105=>320|21=>21|119=>326|46=>140|139=>329|138=>328|n=>n,fun|3=>1|4=>2|n=>n⟩
theorem Tryz.lays161:Go.Proofs.Lays.n161 Tryz.prog Tryz.lays161_ren:={
 mixed:=by kernel_rfl
 f119:=Tryz.func207.trans (congrArg some (by kernel_rfl))
 f137:=Tryz.func169.trans (congrArg some (by kernel_rfl))
 f151:=Tryz.func200.trans (congrArg some (by kernel_rfl))
 f152:=Tryz.func203.trans (congrArg some (by kernel_rfl))
 f161:=Tryz.func175.trans (congrArg some (by kernel_rfl))
 f197:=Tryz.func199.trans (congrArg some (by kernel_rfl))
 f217:=Tryz.func183.trans (congrArg some (by kernel_rfl))
 f224:=Tryz.func205.trans (congrArg some (by kernel_rfl))
 f225:=Tryz.func204.trans (congrArg some (by kernel_rfl))
 f227:=Tryz.func189.trans (congrArg some (by kernel_rfl))
 f228:=Tryz.func198.trans (congrArg some (by kernel_rfl))
 f231:=Tryz.func188.trans (congrArg some (by kernel_rfl))
 f233:=Tryz.func190.trans (congrArg some (by kernel_rfl))
 f235:=Tryz.func191.trans (congrArg some (by kernel_rfl))
 f260:=Tryz.func202.trans (congrArg some (by kernel_rfl))
 f266:=Tryz.func194.trans (congrArg some (by kernel_rfl))
 t0:=Tryz.underlying0
 a0:=Tryz.isAgg0
 z0:=Tryz.sizeOf0
 v0:=Tryz.zeroValue0
 t3:=Tryz.underlying3
 a3:=Tryz.isAgg3
 z3:=Tryz.sizeOf3
 v3:=Tryz.zeroValue3
 t4:=Tryz.underlying4
 a4:=Tryz.isAgg4
 z4:=Tryz.sizeOf4
 v4:=Tryz.zeroValue4
 t5:=Tryz.underlying5
 a5:=Tryz.isAgg5
 z5:=Tryz.sizeOf5
 v5:=Tryz.zeroValue5
 t9:=Tryz.underlying9
 a9:=Tryz.isAgg9
 z9:=Tryz.sizeOf9
 v9:=Tryz.zeroValue9
 t21:=Tryz.underlying21
 a21:=Tryz.isAgg21
 z21:=Tryz.sizeOf21
 v21:=Tryz.zeroValue21
 t46:=Tryz.underlying140
 a46:=Tryz.isAgg140
 z46:=Tryz.sizeOf140
 v46:=Tryz.zeroValue140
 t105:=Tryz.underlying320
 a105:=Tryz.isAgg320
 z105:=Tryz.sizeOf320
 v105:=Tryz.zeroValue320
 t116:=Tryz.underlying315
 a116:=Tryz.isAgg315
 z116:=Tryz.sizeOf315
 t117:=Tryz.underlying316
 a117:=Tryz.isAgg316
 z117:=Tryz.sizeOf316
 v117:=Tryz.zeroValue316
 t119:=Tryz.underlying326
 a119:=Tryz.isAgg326
 z119:=Tryz.sizeOf326
 t124:=Tryz.underlying319
 a124:=Tryz.isAgg319
 z124:=Tryz.sizeOf319
 v124:=Tryz.zeroValue319
 t138:=Tryz.underlying328
 a138:=Tryz.isAgg328
 z138:=Tryz.sizeOf328
 v138:=Tryz.zeroValue328
 t139:=Tryz.underlying329
 a139:=Tryz.isAgg329
 z139:=Tryz.sizeOf329
 v139:=Tryz.zeroValue329
 g3:=by kernel_rfl
 g4:=by kernel_rfl}
def Tryz.lays137_ren:Go.Shelf.Ren:=⟨fun|137=>169|217=>183|266=>194|n=>n,fun|9=>9|5=>5|3=>3|n=>n,fun|n=>n⟩
theorem Tryz.lays137:Go.Proofs.Lays.n137 Tryz.prog Tryz.lays137_ren:={
 mixed:=by kernel_rfl
 f137:=Tryz.func169.trans (congrArg some (by kernel_rfl))
 f217:=Tryz.func183.trans (congrArg some (by kernel_rfl))
 f266:=Tryz.func194.trans (congrArg some (by kernel_rfl))
 t3:=Tryz.underlying3
 a3:=Tryz.isAgg3
 z3:=Tryz.sizeOf3
 v3:=Tryz.zeroValue3
 t5:=Tryz.underlying5
 a5:=Tryz.isAgg5
 z5:=Tryz.sizeOf5
 v5:=Tryz.zeroValue5
 t9:=Tryz.underlying9
 a9:=Tryz.isAgg9
 z9:=Tryz.sizeOf9
 v9:=Tryz.zeroValue9}
open Go.RowKit in
theorem Tryz.strings_IndexByte (s:ByteArray) (c:Int) (w:World) :
  Calls Tryz.prog 169 #[.string s,.int .u8 c] w fun e w'=>e=.returned (.int .i64 (Lib.indexByte s.data.toList c.toNat.toUInt8))∧w'=w:=Any.strings_IndexByte Tryz.lays137 s c w
def Tryz.lays210_ren:Go.Shelf.Ren:=⟨fun|210=>196|206=>115|n=>n,fun|9=>9|4=>4|3=>3|n=>n,fun|n=>n⟩
def Tryz.lays103_ren:Go.Shelf.Ren:=⟨fun|103=>186|210=>196|206=>115|n=>n,fun|9=>9|4=>4|24=>309|3=>3|n=>n,fun|n=>n⟩
theorem Tryz.lays103:Go.Proofs.Lays.n103 Tryz.prog Tryz.lays103_ren:={
 mixed:=by kernel_rfl
 f103:=Tryz.func186.trans (congrArg some (by kernel_rfl))
 f206:=Tryz.func115.trans (congrArg some (by kernel_rfl))
 f210:=Tryz.func196.trans (congrArg some (by kernel_rfl))
 t3:=Tryz.underlying3
 a3:=Tryz.isAgg3
 z3:=Tryz.sizeOf3
 v3:=Tryz.zeroValue3
 t4:=Tryz.underlying4
 a4:=Tryz.isAgg4
 z4:=Tryz.sizeOf4
 v4:=Tryz.zeroValue4
 t9:=Tryz.underlying9
 a9:=Tryz.isAgg9
 z9:=Tryz.sizeOf9
 v9:=Tryz.zeroValue9
 t24:=Tryz.underlying309
 a24:=Tryz.isAgg309
 z24:=Tryz.sizeOf309
 v24:=Tryz.zeroValue309}
open Go.RowKit in
theorem Tryz.strings_CutPrefix (s p:ByteArray) (w:World) :
  Calls Tryz.prog 186 #[.string s,.string p] w fun e w'=>e=.returned (.tuple #[.string ⟨(Lib.trimPrefix s.data.toList p.data.toList).toArray⟩,.bool (Lib.hasPrefix s.data.toList p.data.toList)])∧w'=w:=Any.strings_CutPrefix Tryz.lays103 s p w
def Tryz.lays219_ren:Go.Shelf.Ren:=⟨fun|219=>201|217=>183|225=>204|224=>205|267=>206|266=>194|314=>208|n=>n,fun|9=>9|3=>3|4=>4|5=>5|46=>140|146=>241|51=>170|n=>n,fun|1=>0|n=>n⟩
def Tryz.lays145_ren:Go.Shelf.Ren:=⟨fun|145=>187|220=>197|219=>201|217=>183|225=>204|224=>205|267=>206|266=>194|314=>208|n=>n,fun|9=>9|4=>4|59=>311|3=>3|5=>5|46=>140|146=>241|51=>170|n=>n,fun|1=>0|n=>n⟩
theorem Tryz.lays145:Go.Proofs.Lays.n145 Tryz.prog Tryz.lays145_ren:={
 mixed:=by kernel_rfl
 f145:=Tryz.func187.trans (congrArg some (by kernel_rfl))
 f217:=Tryz.func183.trans (congrArg some (by kernel_rfl))
 f219:=Tryz.func201.trans (congrArg some (by kernel_rfl))
 f220:=Tryz.func197.trans (congrArg some (by kernel_rfl))
 f224:=Tryz.func205.trans (congrArg some (by kernel_rfl))
 f225:=Tryz.func204.trans (congrArg some (by kernel_rfl))
 f266:=Tryz.func194.trans (congrArg some (by kernel_rfl))
 f267:=Tryz.func206.trans (congrArg some (by kernel_rfl))
 f314:=Tryz.func208.trans (congrArg some (by kernel_rfl))
 t3:=Tryz.underlying3
 a3:=Tryz.isAgg3
 z3:=Tryz.sizeOf3
 v3:=Tryz.zeroValue3
 t4:=Tryz.underlying4
 a4:=Tryz.isAgg4
 z4:=Tryz.sizeOf4
 v4:=Tryz.zeroValue4
 t5:=Tryz.underlying5
 a5:=Tryz.isAgg5
 z5:=Tryz.sizeOf5
 v5:=Tryz.zeroValue5
 t9:=Tryz.underlying9
 a9:=Tryz.isAgg9
 z9:=Tryz.sizeOf9
 v9:=Tryz.zeroValue9
 t46:=Tryz.underlying140
 a46:=Tryz.isAgg140
 z46:=Tryz.sizeOf140
 v46:=Tryz.zeroValue140
 t51:=Tryz.underlying170
 a51:=Tryz.isAgg170
 z51:=Tryz.sizeOf170
 v51:=Tryz.zeroValue170
 t59:=Tryz.underlying311
 a59:=Tryz.isAgg311
 z59:=Tryz.sizeOf311
 v59:=Tryz.zeroValue311
 t146:=Tryz.underlying241
 a146:=Tryz.isAgg241
 z146:=Tryz.sizeOf241
 v146:=Tryz.zeroValue241
 g1:=by kernel_rfl}
open Go.RowKit Go.Lib in
theorem Tryz.strings_Cut (s sep:ByteArray) (m:Int) (w:World) (hs:s.size<4294967281) (hm:w.cell? ⟨0,0,none⟩=some (.int .i64 m)) :
  Calls Tryz.prog 187 #[.string s,.string sep] w fun e w'=>e=.returned (.tuple #[.string ⟨(Lib.cut s.data.toList sep.data.toList).1.toArray⟩,.string ⟨(Lib.cut s.data.toList sep.data.toList).2.1.toArray⟩,.bool (Lib.cut s.data.toList sep.data.toList).2.2])∧∃ n,w'=w.drewN n:=Any.strings_Cut Tryz.lays145 s sep m w hs hm
def Tryz.lays99_ren:Go.Shelf.Ren:=⟨fun|99=>69|206=>115|n=>n,fun|9=>9|4=>4|3=>3|n=>n,fun|n=>n⟩
theorem Tryz.lays99:Go.Proofs.Lays.n99 Tryz.prog Tryz.lays99_ren:={
 mixed:=by kernel_rfl
 f99:=Tryz.func69.trans (congrArg some (by kernel_rfl))
 f206:=Tryz.func115.trans (congrArg some (by kernel_rfl))
 t3:=Tryz.underlying3
 a3:=Tryz.isAgg3
 z3:=Tryz.sizeOf3
 v3:=Tryz.zeroValue3
 t4:=Tryz.underlying4
 a4:=Tryz.isAgg4
 z4:=Tryz.sizeOf4
 v4:=Tryz.zeroValue4
 t9:=Tryz.underlying9
 a9:=Tryz.isAgg9
 z9:=Tryz.sizeOf9
 v9:=Tryz.zeroValue9}
open Go.RowKit Go.Lib in
theorem Tryz.strings_HasPrefix (s p:ByteArray) (w:World) :
  Calls Tryz.prog 69 #[.string s,.string p] w fun e w'=>e=.returned (.bool (Lib.hasPrefix s.data.toList p.data.toList))∧w'=w:=Any.strings_HasPrefix Tryz.lays99 s p w
def Tryz.lays105_ren:Go.Shelf.Ren:=⟨fun|105=>25|212=>68|99=>69|165=>70|166=>71|170=>72|169=>73|263=>113|264=>114|206=>115|240=>116|241=>117|276=>150|277=>151|n=>n,fun|9=>9|3=>3|4=>4|20=>20|0=>0|46=>140|109=>141|5=>5|72=>147|76=>150|51=>170|146=>241|53=>25|148=>243|70=>144|37=>145|75=>149|127=>245|164=>277|80=>153|n=>n,fun|n=>n⟩
theorem Tryz.lays105:Go.Proofs.Lays.n105 Tryz.prog Tryz.lays105_ren:={
 mixed:=by kernel_rfl
 f99:=Tryz.func69.trans (congrArg some (by kernel_rfl))
 f105:=Tryz.func25.trans (congrArg some (by kernel_rfl))
 f165:=Tryz.func70.trans (congrArg some (by kernel_rfl))
 f166:=Tryz.func71.trans (congrArg some (by kernel_rfl))
 f169:=Tryz.func73.trans (congrArg some (by kernel_rfl))
 f170:=Tryz.func72.trans (congrArg some (by kernel_rfl))
 f206:=Tryz.func115.trans (congrArg some (by kernel_rfl))
 f212:=Tryz.func68.trans (congrArg some (by kernel_rfl))
 f240:=Tryz.func116.trans (congrArg some (by kernel_rfl))
 f241:=Tryz.func117.trans (congrArg some (by kernel_rfl))
 f263:=Tryz.func113.trans (congrArg some (by kernel_rfl))
 f264:=Tryz.func114.trans (congrArg some (by kernel_rfl))
 f276:=Tryz.func150.trans (congrArg some (by kernel_rfl))
 f277:=Tryz.func151.trans (congrArg some (by kernel_rfl))
 t0:=Tryz.underlying0
 a0:=Tryz.isAgg0
 z0:=Tryz.sizeOf0
 v0:=Tryz.zeroValue0
 t3:=Tryz.underlying3
 a3:=Tryz.isAgg3
 z3:=Tryz.sizeOf3
 v3:=Tryz.zeroValue3
 t4:=Tryz.underlying4
 a4:=Tryz.isAgg4
 z4:=Tryz.sizeOf4
 v4:=Tryz.zeroValue4
 t5:=Tryz.underlying5
 a5:=Tryz.isAgg5
 z5:=Tryz.sizeOf5
 v5:=Tryz.zeroValue5
 t9:=Tryz.underlying9
 a9:=Tryz.isAgg9
 z9:=Tryz.sizeOf9
 v9:=Tryz.zeroValue9
 t20:=Tryz.underlying20
 a20:=Tryz.isAgg20
 z20:=Tryz.sizeOf20
 v20:=Tryz.zeroValue20
 t37:=Tryz.underlying145
 a37:=Tryz.isAgg145
 z37:=Tryz.sizeOf145
 v37:=Tryz.zeroValue145
 t46:=Tryz.underlying140
 a46:=Tryz.isAgg140
 z46:=Tryz.sizeOf140
 v46:=Tryz.zeroValue140
 t51:=Tryz.underlying170
 a51:=Tryz.isAgg170
 z51:=Tryz.sizeOf170
 v51:=Tryz.zeroValue170
 t53:=Tryz.underlying25
 a53:=Tryz.isAgg25
 z53:=Tryz.sizeOf25
 v53:=Tryz.zeroValue25
 t70:=Tryz.underlying144
 a70:=Tryz.isAgg144
 z70:=Tryz.sizeOf144
 v70:=Tryz.zeroValue144
 t72:=Tryz.underlying147
 a72:=Tryz.isAgg147
 z72:=Tryz.sizeOf147
 v72:=Tryz.zeroValue147
 t75:=Tryz.underlying149
 a75:=Tryz.isAgg149
 z75:=Tryz.sizeOf149
 v75:=Tryz.zeroValue149
 t76:=Tryz.underlying150
 a76:=Tryz.isAgg150
 z76:=Tryz.sizeOf150
 v76:=Tryz.zeroValue150
 t109:=Tryz.underlying141
 a109:=Tryz.isAgg141
 z109:=Tryz.sizeOf141
 v109:=Tryz.zeroValue141
 t127:=Tryz.underlying245
 a127:=Tryz.isAgg245
 z127:=Tryz.sizeOf245
 v127:=Tryz.zeroValue245
 t146:=Tryz.underlying241
 a146:=Tryz.isAgg241
 z146:=Tryz.sizeOf241
 v146:=Tryz.zeroValue241
 t148:=Tryz.underlying243
 a148:=Tryz.isAgg243
 z148:=Tryz.sizeOf243
 v148:=Tryz.zeroValue243
 t164:=Tryz.underlying277
 a164:=Tryz.isAgg277
 z164:=Tryz.sizeOf277
 v164:=Tryz.zeroValue277}
theorem Tryz.Builder_Extra_105:Builder.Extra Tryz.prog Tryz.lays105_ren:={
 sizeBuilder:=by kernel_rfl
 liesBuilder:=by kernel_rfl
 t5:=Tryz.underlying5
 a5:=Tryz.isAgg5
 z5:=Tryz.sizeOf5
 v5:=Tryz.zeroValue5
 infoByte:=by kernel_rfl
 cellsByte:=by kernel_rfl
 sizeByte:=by kernel_rfl
 neB5:=by decide}
open Go.RowKit Go.Lib in
theorem Tryz.strings_Repeat (s:ByteArray) (c:Nat) (w:World) (hc:c≤9223372036854775807) (hlen:s.size * c≤140737488355328) :
  Calls Tryz.prog 25 #[.string s,.int .i64 c] w fun e w'=>e=.returned (.string ⟨(Lib.repeatL s.data.toList c).toArray⟩)∧Below w.heap.size w w':=Any.strings_Repeat Tryz.lays105 Tryz.Builder_Extra_105 s c w hc hlen
end Go.Proofs
namespace Go.Proofs.YtklcgfkdemifcaaGreatDoor
section
open Go.RowKit Go.MapKept
def Sub (d:TypeDesc) (F:Value→Option Value) (es:Array MapEntry):Prop:=∀ e ∈ es.toList,IsKey d e.key∧F e.key=some e.val
def HasK (es:Array MapEntry) (k:Value):Prop:=∃ e ∈ es.toList,e.key=k
def zGf (d:TypeDesc) (F:Value→Option Value) (es:Array MapEntry):Prop:=Sub d F es∧∀ k v,F k=some v→HasK es k
theorem Sub.keys {d F es} (h:Sub d F es):∀ x ∈ es.toList,IsKey d x.key:=fun x hx=>(h x hx).1
theorem Sub.nil (d:TypeDesc) (F:Value→Option Value):Sub d F #[]:=fun e he=>by simp at he
section
variable {P:Program} {w:World} {T kt et:TypeId} {d:TypeDesc} {F:Value→Option Value} {es:Array MapEntry} {c mb:Nat}
theorem zIq (h:zGf d F es) {k v:Value} (hk:IsKey d k) (hF:F k=some v):∃ j,Instr.findNow d k es.toList 0=some (some (j,v)):=by
 rcases findNow_spec hk es.toList 0 h.1.keys with ⟨_,h2⟩|⟨j,e,h1,h2,h3⟩
 ·obtain⟨e,he,hek⟩:=h.2 k v hF;exact absurd hek (h2 e he)
 ·have:=h.1 e (List.mem_of_getElem? h2);rw[h3,hF]at this;refine⟨0+j,?_⟩
  rw[h1]
  cases this.2;rfl
theorem zL8 (h:Sub d F es) {k:Value} (hk:IsKey d k) (hF:F k=none):Instr.findNow d k es.toList 0=some none:=by
 rcases findNow_spec hk es.toList 0 h.keys with ⟨h1,_⟩|⟨j,e,h1,h2,h3⟩
 ·exact h1
 ·have:=h e (List.mem_of_getElem? h2);rw[h3,hF]at this
  cases this.2
theorem zHU (hT:P.underlying T=some (.map kt et)) (hd:P.underlying kt=some d) (hm:w.heap[mb]?=some (.map es c)) (h:zGf d F es) {k v:Value} (hk:IsKey d k) (hF:F k=some v) :
  (Instr.lookup T (.map (some mb)) k false).run P w=.ok v w:=by
 obtain⟨j,hj⟩:=zIq h hk hF;simp[Instr.lookup,Sem.run_bind,run_underlying hT,Result.andThen,Go.MapKept.run_getObj_map hm,run_checkKey hd hk,run_findKey hd hj]
theorem zGs (hT:P.underlying T=some (.map kt et)) (hd:P.underlying kt=some d) (hm:w.heap[mb]?=some (.map es c)) (h:zGf d F es) {k v:Value} (hk:IsKey d k) (hF:F k=some v) :
  (Instr.lookup T (.map (some mb)) k true).run P w=.ok (.tuple #[v,.bool true]) w:=by
 obtain⟨j,hj⟩:=zIq h hk hF;simp[Instr.lookup,Sem.run_bind,run_underlying hT,Result.andThen,Go.MapKept.run_getObj_map hm,run_checkKey hd hk,run_findKey hd hj]
theorem zEW (hT:P.underlying T=some (.map kt et)) (hd:P.underlying kt=some d) (hm:w.heap[mb]?=some (.map es c)) (h:zGf d F es) {k z:Value} (hk:IsKey d k) (hF:F k=none)
  (hz:∀ W,(zeroValue et).run P W=.ok z W):(Instr.lookup T (.map (some mb)) k true).run P w=.ok (.tuple #[z,.bool false]) w:=by
 simp[Instr.lookup,Sem.run_bind,run_underlying hT,Result.andThen,Go.MapKept.run_getObj_map hm,run_checkKey hd hk,run_findKey hd (zL8 h.1 hk hF),hz]
theorem Sub.push (h:Sub d F es) {k v:Value} (hk:IsKey d k) (hF:F k=some v) (b:Nat):Sub d F (es.push {key:=k,val:=v,born:=b}):=by
 intro e he;simp at he;rcases he with he|rfl
 ·exact h e (by simpa using he)
 ·exact⟨hk,hF⟩
theorem Sub.modify (h:Sub d F es) {k v:Value} (hk:IsKey d k) (hF:F k=some v) (j:Nat):Sub d F (es.modify j fun e=>{e with key:=k,val:=v}):=by
 intro e he;rw[Array.mem_toList_iff,Array.mem_iff_getElem?]at he;obtain⟨i,hi⟩:=he;rw[Array.getElem?_modify]at hi;split at hi
 ·cases hh:es[i]? with
  | none=>rw[hh]at hi;cases hi
  | some x=>rw[hh]at hi;cases hi;exact⟨hk,hF⟩
 ·exact h e (by rw[Array.mem_toList_iff];exact Array.mem_of_getElem? hi)
theorem HasK.push {k k' v:Value} {b:Nat} (h:HasK es k'):HasK (es.push {key:=k,val:=v,born:=b}) k':=by
 obtain⟨e,he,hk⟩:=h;exact⟨e,(by simp;exact .inl (by simpa using he)),hk⟩
theorem HasK.modify {k k' v:Value} {j:Nat} {e0:MapEntry} (hj:es[j]?=some e0) (hk0:e0.key=k) (h:HasK es k'):HasK (es.modify j fun e=>{e with key:=k,val:=v}) k':=by
 obtain⟨e,he,hk⟩:=h;rw[Array.mem_toList_iff,Array.mem_iff_getElem?]at he;obtain⟨i,hi⟩:=he
 by_cases hij:j=i
 ·subst hij;have he0:e=e0:=by rw[hi]at hj;injection hj
  refine⟨{e with key:=k,val:=v},?_,?_⟩
  ·rw[Array.mem_toList_iff];exact Array.mem_of_getElem? (i:=j) (by rw[Array.getElem?_modify,if_pos rfl,hi];rfl)
  ·show k=k'
   rw[← hk0,← he0,hk]
 ·refine⟨e,?_,hk⟩;rw[Array.mem_toList_iff];exact Array.mem_of_getElem? (i:=i) (by rw[Array.getElem?_modify,if_neg hij];exact hi)
theorem zLK (hT:P.underlying T=some (.map kt et)) (hd:P.underlying kt=some d) (hm:w.heap[mb]?=some (.map es c)) (h:Sub d F es) {k v:Value} (hk:IsKey d k) (hF:F k=some v) :
  ∃ es' c',(Instr.mapUpdate T (.map (some mb)) k v).run P w=.ok () {w with heap:=w.heap.setIfInBounds mb (.map es' c')}∧Sub d F es'∧HasK es' k∧∀ k',HasK es k'→HasK es' k':=by
 rcases findNow_spec hk es.toList 0 h.keys with ⟨h1,_⟩|⟨j,e,h1,h2,h3⟩
 ·refine⟨es.push {key:=k,val:=v,born:=c},c+1,?_,h.push hk hF c,⟨{key:=k,val:=v,born:=c},(by simp),rfl⟩,fun k' hk'=>hk'.push⟩
  simp[Instr.mapUpdate,Sem.run_bind,run_underlying hT,Result.andThen,Go.MapKept.run_getObj_map hm,run_checkKey hd hk,run_findKey hd h1,run_setObj_map _ hm]
 ·have h2':es[j]?=some e:=by simpa using h2
  have hlt:=(Array.getElem?_eq_some_iff.1 h2').1;refine⟨es.modify j fun e=>{e with key:=k,val:=v},c,?_,h.modify hk hF j,⟨{e with key:=k,val:=v},?_,rfl⟩,fun k' hk'=>hk'.modify h2' h3⟩
  ·have hst:(Instr.keyThatStays ((Option.map (fun x=>x.key) es[j]?).getD k) k).run P w=.ok k w:=by
    rw[h2'];show (Instr.keyThatStays e.key k).run P w=_
    rw[h3];exact run_keyThatStays hk
   simp[Instr.mapUpdate,Sem.run_bind,run_underlying hT,Result.andThen,Go.MapKept.run_getObj_map hm,run_checkKey hd hk,run_findKey hd h1,run_setObj_map _ hm,hst]
  ·rw[Array.mem_toList_iff];exact Array.mem_of_getElem? (i:=j) (by rw[Array.getElem?_modify,if_pos rfl,h2'];rfl)
end
structure RelM (d:TypeDesc) (F:Value→Option Value) (n0:Nat) (w w':World):Prop where
 os:w'.os=w.os
 tape:w'.tape=w.tape
 output:w'.output=w.output
 size:w.heap.size≤w'.heap.size
 block:∀ k,k<w.heap.size→w'.heap[k]?=w.heap[k]?∨(n0≤k∧∃ es c es' c',w.heap[k]?=some (.map es c)∧w'.heap[k]?=some (.map es' c')∧(Sub d F es→Sub d F es'∧∀ x,HasK es x→HasK es' x))
section
variable {d:TypeDesc} {F:Value→Option Value} {n0:Nat}
theorem RelM.refl (w:World):RelM d F n0 w w:=⟨rfl,rfl,rfl,Nat.le_refl _,fun _ _=>.inl rfl⟩
theorem RelM.trans (u v w:World) (h:RelM d F n0 u v) (k:RelM d F n0 v w):RelM d F n0 u w:=by
 refine⟨k.os.trans h.os,k.tape.trans h.tape,k.output.trans h.output,Nat.le_trans h.size k.size,fun i hi=>?_⟩
 rcases h.block i hi with e1|⟨hn,es,c,es',c',e1,e2,e3⟩
 ·rcases k.block i (Nat.lt_of_lt_of_le hi h.size) with e2|⟨hn,es,c,es',c',f1,f2,f3⟩
  ·exact .inl (e2.trans e1)
  ·exact .inr ⟨hn,es,c,es',c',e1 ▸ f1,f2,f3⟩
 ·rcases k.block i (Nat.lt_of_lt_of_le hi h.size) with f1|⟨_,fs,x,fs',x',f1,f2,f3⟩
  ·exact .inr ⟨hn,es,c,es',c',e1,f1.trans e2,e3⟩
  ·rw[e2]at f1;cases f1
   exact .inr ⟨hn,es,c,fs',x',e1,f2,fun hs=>⟨(f3 (e3 hs).1).1,fun y hy=>(f3 (e3 hs).1).2 y ((e3 hs).2 y hy)⟩⟩
theorem RelM.drew (w:World):RelM d F n0 w {w with drawn:=w.drawn+1}:=⟨rfl,rfl,rfl,Nat.le_refl _,fun _ _=>.inl rfl⟩
theorem RelM.of_below {w w':World} (h:Below w.heap.size w w'):RelM d F n0 w w':=⟨h.os,h.tape,h.output,h.size,fun k hk=>.inl (h.block k hk)⟩
theorem RelM.below {w w':World} (h:RelM d F w.heap.size w w'):Below w.heap.size w w' :=
 ⟨h.os,h.tape,h.output,h.size,fun k hk=>by rcases h.block k hk with e|⟨hn,_⟩;exact e;omega⟩
theorem RelM.cells {w w':World} (h:RelM d F n0 w w') {b:Nat} {cs:Array Value} {T:TypeId} {f:Nat × Nat} (hb:w.heap[b]?=some (.cells cs T f)):w'.heap[b]?=some (.cells cs T f):=by
 rcases h.block b (Array.getElem?_eq_some_iff.1 hb).1 with e|⟨_,es,c,es',c',e,_⟩
 ·exact e.trans hb
 ·rw[hb]at e;cases e
theorem RelM.cell {w w':World} (h:RelM d F n0 w w') {a:Addr} {v:Value} (hb:w.cell? a=some v):w'.cell? a=some v:=by
 rcases h.block a.block (by
  rcases Nat.lt_or_ge a.block w.heap.size with h1|h1
  ·exact h1
  ·unfold World.cell? at hb;simp[Array.getElem?_eq_none h1]at hb) with e|⟨_,es,c,es',c',e,_⟩
 ·unfold World.cell? at hb ⊢;rw[e];exact hb
 ·unfold World.cell? at hb;simp[e]at hb
theorem RelM.rds {w w':World} (h:RelM d F n0 w w') {v:Value} {L:List (Nat→Nat)} (hr:RdS w w.heap.size v L):RdS w' w'.heap.size v L:=by
 rcases hr with hr|⟨b,off,c,e,hlt,h1,h2,h3⟩
 ·exact .inl hr
 ·exact .inr ⟨b,off,c,e,Nat.lt_of_lt_of_le hlt h.size,h1,h2,fun j hj k hk=>h.cell (h3 j hj k hk)⟩
theorem RelM.rd {w w':World} (h:RelM d F n0 w w') {v:Value} {L:List Value} (hr:Rd w w.heap.size v L):Rd w' w'.heap.size v L:=by
 rcases hr with hr|⟨b,off,c,e,hlt,h1,h2,h3⟩
 ·exact .inl hr
 ·exact .inr ⟨b,off,c,e,Nat.lt_of_lt_of_le hlt h.size,h1,h2,fun j hj=>h.cell (h3 j hj)⟩
def InMap (d:TypeDesc) (F:Value→Option Value) (n0:Nat) (ks:List Value) (v:Value) (w:World):Prop :=
 ∃ mb es c,v=.map (some mb)∧n0≤mb∧w.heap[mb]?=some (.map es c)∧Sub d F es∧∀ k ∈ ks,HasK es k
theorem zAS (ks:List Value):zEG (RelM d F n0) (InMap d F n0 ks):=by
 rintro v w w' ⟨mb,es,c,rfl,h1,h2,h3,h4⟩ h;rcases h.block mb (Array.getElem?_eq_some_iff.1 h2).1 with e|⟨_,fs,x,es',c',e1,e2,e3⟩
 ·exact⟨mb,es,c,rfl,h1,e.trans h2,h3,h4⟩
 ·rw[h2]at e1;cases e1
  exact⟨mb,es',c',rfl,h1,e2,(e3 h3).1,fun k hk=>(e3 h3).2 k (h4 k hk)⟩
theorem zC4 (L:List (Nat→Nat)):zEG (RelM d F n0) (fun v w=>RdS w w.heap.size v L):=fun _ _ _ h hr=>hr.rds h
theorem zEu (L:List Value):zEG (RelM d F n0) (fun v w=>Rd w w.heap.size v L):=fun _ _ _ h hr=>hr.rd h
theorem InMap.both {ks ls:List Value} {v:Value} {w:World} (h:InMap d F n0 ks v w) (k:InMap d F n0 ls v w):InMap d F n0 (ks++ls) v w:=by
 obtain⟨mb,es,c,rfl,h1,h2,h3,h4⟩:=h;obtain⟨mb',es',c',e,g1,g2,g3,g4⟩:=k
 cases e
 rw[h2]at g2;cases g2
 refine⟨mb,es,c,rfl,h1,h2,h3,fun x hx=>?_⟩
 rcases List.mem_append.1 hx with hx|hx
 ·exact h4 x hx
 ·exact g4 x hx
section
variable {P:Program} {ops:Array Oper} {o:Oper} {a:Act} {w:World} {R:World→World→Prop} {S:Value→World→Prop}
theorem zAt {t:Tmp} (hd:o.dst=some t) (h:zCE P ops R o a w S):zCE P ops R o a w (fun v w'=>S v w'∧(o.dst=none→v=zFo o a)):=by
 have hn:∀ v:Value,o.dst=none→v=zFo o a:=fun v e=>by rw[hd]at e;cases e
 unfold zCE at h ⊢;split at h
 ·rename_i hw;rw[if_pos hw];exact Oper.wp_mono (fun a' w' ⟨v,e,h1,h2⟩=>⟨v,e,h1,h2,hn v⟩) h
 ·rename_i hw;rw[if_neg hw];exact⟨h,hn _⟩
theorem zHR {S':Value→World→Prop} (hR:∀ w',Below w.heap.size w w'→R w w') (hS:∀ v w',S' v w'→S v w') (h:zBY P ops o a w S'):zCE P ops R o a w S:=by
 unfold zBY zIh at h;unfold zCE;split at h
 ·rename_i hw;rw[if_pos hw];exact Oper.wp_mono (fun a' w' ⟨u,e,hb,h1⟩=>⟨u,e,hR w' hb,hS _ _ h1⟩) h
 ·rename_i hw;rw[if_neg hw];exact hS _ _ h
theorem zF0 {T:TypeId} (hg:Region.wanted o (yielded ops a.tmps)=true) (hop:o.op=.makeMap T none) (hn:n0≤w.heap.size):zCE P ops (RelM d F n0) o a w (InMap d F n0 []):=by
 unfold zCE;rw[if_pos hg];unfold Oper.wp;have hr:(execOp a.eval o).run P w=.ok (.value (.map (some w.heap.size))) (w.alloc (.map #[] 0)):=by
  simp only[execOp,hop];simp[Instr.makeMap,newObj,go_sem];rfl
 rw[hr];simp only[Oper.upon];exact⟨_,rfl,RelM.of_below ((Below.refl _ w).alloc (Nat.le_refl _) _),w.heap.size,#[],0,rfl,hn,World.alloc_heap_new w _,Sub.nil _ _,fun k hk=>by cases hk⟩
theorem zAr {T kt et:TypeId} {m:Tmp} {x y:Operand} {k v:Value} (hg:Region.wanted o (yielded ops a.tmps)=true) (hop:o.op=.insert T (.tmp m) x y) (hdst:o.dst=none)
  (hT:P.underlying T=some (.map kt et)) (hd:P.underlying kt=some d) (hm:InMap d F n0 [] (a.eval (.tmp m)) w) (hx:a.eval x=k) (hy:a.eval y=v) (hk:IsKey d k) (hF:F k=some v) :
  zCE P ops (RelM d F n0) o a w (fun v w'=>InMap d F n0 [k] v w'∧(o.dst=none→v=zFo o a)):=by
 obtain⟨mb,es,c,e,h1,h2,h3,_⟩:=hm;obtain⟨es',c',hr,g1,g2,g3⟩:=zLK (w:=w) hT hd h2 h3 hk hF;unfold zCE;rw[if_pos hg];unfold Oper.wp;have hr':(execOp a.eval o).run P w=.ok .skip {w with heap:=w.heap.setIfInBounds mb (.map es' c')}:=by
  simp only[execOp,hop,hx,hy,e,Sem.run_bind,hr,Result.andThen];rfl
 rw[hr'];simp only[Oper.upon];refine⟨.map (some mb),(by rw[hdst];rfl),⟨rfl,rfl,rfl,by simp,fun j hj=>?_⟩,⟨mb,es',c',rfl,h1,(heap_set h2).1,g1,fun z hz=>by simp at hz;subst hz;exact g2⟩,fun _=>?_⟩
 ·by_cases hjm:j=mb
  ·subst hjm;exact .inr ⟨h1,es,c,es',c',h2,(heap_set h2).1,fun _=>⟨g1,g3⟩⟩
  ·exact .inl ((heap_set h2).2 j hjm)
 ·unfold zFo ownT;rw[hop];exact e.symm
end
end
end
end Go.Proofs.YtklcgfkdemifcaaGreatDoor
