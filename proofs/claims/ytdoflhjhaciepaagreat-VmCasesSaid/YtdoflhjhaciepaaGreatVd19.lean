/-
  Laws of walks, and walks.
-/
import Derived.Test.YtdoflhjhaciepaaGreatVd17
import Derived.Test.YtdoflhjhaciepaaGreatVd18
import Derived.Test.YtdoflhjhaciepaaGreatVd9
import Derived.Test.YtdoflhjhaciepaaGreatVd14
import Derived.Test.YtdoflhjhaciepaaGreatVd13
set_option linter.unusedVariables false
set_option linter.unusedSimpArgs false
set_option maxRecDepth 100000
set_option maxHeartbeats 16000000
namespace Go.Proofs.YtdoflhjhaciepaaGreat
section
open Go.RowKit Go.Shelf
attribute [local go_sem] Oper.semAt_some
abbrev zBe (f:FuncId):Prop:=∀ w,Calls Tryz.prog f #[.slice none 0 0] w fun e w'=>e=.returned (.bool true)∧Below w.heap.size w w'
abbrev zBZ (T E:TypeId):Prop:=∀ w,(Instr.makeSlice T (.int .i64 0) (.int .i64 0)).run Tryz.prog w=.ok (.slice (some ⟨w.heap.size,0,none⟩) 0 0) (w.alloc (.cells #[] E))
theorem zLm {T E:TypeId} (_:Hid (zBZ T E)) {w wr:World} (B:Hid (Below w.heap.size w wr)):Hid (Below w.heap.size w (wr.alloc (.cells #[] E))):=Lib.hid (B.out.alloc B.out.size _)
theorem zA4:zBe 41∧zBe 42∧zBe 44∧zBe 45∧zBe 46∧zBe 47∧zBe 48∧zBe 49∧zBe 50∧zBe 51∧zBe 52∧zBe 53∧zBe 54∧zBe 55∧zBe 56∧zBe 57∧zBe 58∧zBe 59∧zBe 60∧zBe 61:=by
 refine⟨?fLimbs,?fWords,?fLongs,?fTexts,?fBytes,?fTruths,?fNodes,?fInsts,?fQueries,?fFiles,?fDocs,?fPlaces,?fPostings,?fShardRefs,?fManifests,?fAsks,?fHits,?fAnswers,?fParts,?fChanges⟩<;>intro w
 case' fLimbs=>(have E:zBZ 63 161:=fun _=>by kernel_rfl);have HMK:=Lib.hid E;clear E;go_enter Tryz.func41,Tryz.ntmps41
 case' fWords=>(have E:zBZ 64 162:=fun _=>by kernel_rfl);have HMK:=Lib.hid E;clear E;go_enter Tryz.func42,Tryz.ntmps42
 case' fLongs=>(have E:zBZ 65 163:=fun _=>by kernel_rfl);have HMK:=Lib.hid E;clear E;go_enter Tryz.func44,Tryz.ntmps44
 case' fTexts=>(have E:zBZ 66 35:=fun _=>by kernel_rfl);have HMK:=Lib.hid E;clear E;go_enter Tryz.func45,Tryz.ntmps45
 case' fBytes=>(have E:zBZ 67 23:=fun _=>by kernel_rfl);have HMK:=Lib.hid E;clear E;go_enter Tryz.func46,Tryz.ntmps46
 case' fTruths=>(have E:zBZ 68 108:=fun _=>by kernel_rfl);have HMK:=Lib.hid E;clear E;go_enter Tryz.func47,Tryz.ntmps47
 case' fNodes=>(have E:zBZ 69 85:=fun _=>by kernel_rfl);have HMK:=Lib.hid E;clear E;go_enter Tryz.func48,Tryz.ntmps48
 case' fInsts=>(have E:zBZ 45 22:=fun _=>by kernel_rfl);have HMK:=Lib.hid E;clear E;go_enter Tryz.func49,Tryz.ntmps49
 case' fQueries=>(have E:zBZ 70 167:=fun _=>by kernel_rfl);have HMK:=Lib.hid E;clear E;go_enter Tryz.func50,Tryz.ntmps50
 case' fFiles=>(have E:zBZ 71 173:=fun _=>by kernel_rfl);have HMK:=Lib.hid E;clear E;go_enter Tryz.func51,Tryz.ntmps51
 case' fDocs=>(have E:zBZ 72 178:=fun _=>by kernel_rfl);have HMK:=Lib.hid E;clear E;go_enter Tryz.func52,Tryz.ntmps52
 case' fPlaces=>(have E:zBZ 73 182:=fun _=>by kernel_rfl);have HMK:=Lib.hid E;clear E;go_enter Tryz.func53,Tryz.ntmps53
 case' fPostings=>(have E:zBZ 74 186:=fun _=>by kernel_rfl);have HMK:=Lib.hid E;clear E;go_enter Tryz.func54,Tryz.ntmps54
 case' fShardRefs=>(have E:zBZ 75 191:=fun _=>by kernel_rfl);have HMK:=Lib.hid E;clear E;go_enter Tryz.func55,Tryz.ntmps55
 case' fManifests=>(have E:zBZ 76 196:=fun _=>by kernel_rfl);have HMK:=Lib.hid E;clear E;go_enter Tryz.func56,Tryz.ntmps56
 case' fAsks=>(have E:zBZ 77 201:=fun _=>by kernel_rfl);have HMK:=Lib.hid E;clear E;go_enter Tryz.func57,Tryz.ntmps57
 case' fHits=>(have E:zBZ 78 206:=fun _=>by kernel_rfl);have HMK:=Lib.hid E;clear E;go_enter Tryz.func58,Tryz.ntmps58
 case' fAnswers=>(have E:zBZ 79 210:=fun _=>by kernel_rfl);have HMK:=Lib.hid E;clear E;go_enter Tryz.func59,Tryz.ntmps59
 case' fParts=>(have E:zBZ 80 215:=fun _=>by kernel_rfl);have HMK:=Lib.hid E;clear E;go_enter Tryz.func60,Tryz.ntmps60
 case' fChanges=>(have E:zBZ 81 220:=fun _=>by kernel_rfl);have HMK:=Lib.hid E;clear E;go_enter Tryz.func61,Tryz.ntmps61
 all_goals
  go_wp2_with fail
  go_loopw [3] (fun i wr=>i=.int .i64 0∧Hid (Below w.heap.size w wr)) (fun _ _=>0)
  case atStart=>exact⟨rfl,Below.refl _ _⟩
  case round =>
   obtain⟨rfl,B⟩:=hrel;have hmk:=HMK.out
   go_wp2_with fail
   have B1:=zLm HMK B;clear B hmk
   go_loopw [6] (fun i wr=>i=.int .i64 0∧Hid (Below w.heap.size w wr)) (fun _ _=>0)
   case atStart=>exact⟨rfl,B1.out⟩
   case round =>
    clear B1;obtain⟨rfl,B⟩:=hrel
    go_wp2_with fail
    have B2:=B;clear B
    go_loopw [9] (fun i wr=>i=.int .i64 0∧Hid (Below w.heap.size w wr)) (fun _ _=>0)
    case atStart=>exact⟨rfl,B2.out⟩
    case round =>
     clear B2;obtain⟨rfl,B⟩:=hrel
     go_wp2_with fail
     have B3:=B;clear B
     go_loopw [11] (fun i wr=>i=.int .i64 0∧Hid (Below w.heap.size w wr)) (fun _ _=>0)
     case atStart=>exact⟨rfl,B3.out⟩
     case round =>
      clear B3;obtain⟨rfl,B⟩:=hrel
      go_wp2_with fail
      have B4:=B;clear B
      go_loopw [14] (fun i wr=>i=.int .i64 0∧Hid (Below w.heap.size w wr)) (fun _ _=>0)
      case atStart=>exact⟨rfl,B4.out⟩
      case round =>
       clear B4;obtain⟨rfl,B⟩:=hrel
       go_wp2
       go_ret;exact⟨rfl,B.out⟩
theorem zGP:zBe 41:=zA4.1
theorem zGM:zBe 42:=zA4.2.1
theorem zGI:zBe 44:=zA4.2.2.1
theorem zGO:zBe 45:=zA4.2.2.2.1
theorem zGS:zBe 46:=zA4.2.2.2.2.1
theorem zF1:zBe 47:=zA4.2.2.2.2.2.1
theorem zGN:zBe 48:=zA4.2.2.2.2.2.2.1
theorem zGU:zBe 49:=zA4.2.2.2.2.2.2.2.1
theorem zFO:zBe 50:=zA4.2.2.2.2.2.2.2.2.1
theorem zGE:zBe 51:=zA4.2.2.2.2.2.2.2.2.2.1
theorem zGr:zBe 52:=zA4.2.2.2.2.2.2.2.2.2.2.1
theorem zFe:zBe 53:=zA4.2.2.2.2.2.2.2.2.2.2.2.1
theorem zE9:zBe 54:=zA4.2.2.2.2.2.2.2.2.2.2.2.2.1
theorem zEn:zBe 55:=zA4.2.2.2.2.2.2.2.2.2.2.2.2.2.1
theorem zEg:zBe 56:=zA4.2.2.2.2.2.2.2.2.2.2.2.2.2.2.1
theorem zGw:zBe 57:=zA4.2.2.2.2.2.2.2.2.2.2.2.2.2.2.2.1
theorem zGv:zBe 58:=zA4.2.2.2.2.2.2.2.2.2.2.2.2.2.2.2.2.1
theorem zFM:zBe 59:=zA4.2.2.2.2.2.2.2.2.2.2.2.2.2.2.2.2.2.1
theorem zGW:zBe 60:=zA4.2.2.2.2.2.2.2.2.2.2.2.2.2.2.2.2.2.2.1
theorem zFJ:zBe 61:=zA4.2.2.2.2.2.2.2.2.2.2.2.2.2.2.2.2.2.2.2
def zHe (base:Nat) (lsv:Value) (K:Nat) (V:Nat→Value) (N:Nat→Nat) (w:World):Prop:=∃ X,w.ownsRow base 27 1 lsv K (rowV V K)∧Fam 3 1 base w K V V N N X X
def RelA (base:Nat) (lsv:Value) (K:Nat) (V:Nat→Value) (N:Nat→Nat) (B0:Nat) (u v:World):Prop:=KeepBut (Mine K V) B0 u v∧(zHe base lsv K V N u→zHe base lsv K V N v)
section
variable {base:Nat} {lsv:Value} {K:Nat} {V:Nat→Value} {N:Nat→Nat} {B0:Nat}
theorem RelA.refl (w:World):RelA base lsv K V N B0 w w:=⟨KeepBut.refl _ _ _,id⟩
theorem RelA.trans (u v w:World) (h1:RelA base lsv K V N B0 u v) (h2:RelA base lsv K V N B0 v w):RelA base lsv K V N B0 u w:=⟨h1.1.trans h2.1,fun h=>h2.2 (h1.2 h)⟩
theorem RelA.size {w W:World} (h:RelA base lsv K V N w.heap.size w W):w.heap.size≤W.heap.size:=h.1.size
theorem RelA.rows {w W:World} (h:RelA base lsv K V N B0 w W) (h2:zHe base lsv K V N w):zHe base lsv K V N W:=h.2 h2
theorem KeepBut.cellOf {M:Nat→Prop} {B b o:Nat} {u v:World} (h:KeepBut M B u v) (hb:b<B) (hM:¬ M b):v.cell? ⟨b,o,none⟩=u.cell? ⟨b,o,none⟩:=World.cell?_of_block (h.old b hb hM)
theorem RelA.nil {f:FuncId} {args:Array Value} {W:World} (hs:B0≤W.heap.size) (h:Calls Tryz.prog f args W fun e w'=>e=.returned (.bool true)∧Below W.heap.size W w') :
  Calls Tryz.prog f args W fun e w'=>e=.returned (.bool true)∧RelA base lsv K V N B0 W w' :=
 h.mono fun _ _ ⟨he,hb⟩=>⟨he,KeepBut.of_below (hb.mono hs),fun ⟨X,h1,h2⟩=>⟨X,zBv h1 hb,h2.below hb⟩⟩
theorem RelA.ints {W:World} (hK:K≤1000) (hN:∀ j,j<K→N j≤4194304) (hr:zHe base lsv K V N W) (hs:B0≤W.heap.size) (hbase:base≤B0) :
  Calls Tryz.prog 43 #[lsv] W fun e w'=>e=.returned (.bool true)∧RelA base lsv K V N B0 W w':=by
 obtain⟨X,h1,h2⟩:=hr;refine(zJ1 lsv K base V N X W hK hN ⟨h1,h2,KeepBut.refl _ _ _,Nat.le_trans hbase hs⟩).mono fun e w' ⟨he,X',hf⟩=>⟨he,hf.below.mono hs (fun _ _ h=>h),fun _=>⟨X',hf.ls,hf.fam⟩⟩
end
def bagV (lsv:Value) (k:Nat):Value:=if k=2 then lsv else .slice none 0 0
theorem zNd (lsv:Value) (K base B:Nat) (V:Nat→Value) (N:Nat→Nat) (w:World) (hK:K≤1000) (hN:∀ j,j<K→N j≤4194304) (hrows:zHe base lsv K V N w) (hbase:base≤w.heap.size)
  (hB:B<w.heap.size) (hBM:¬ Mine K V B) (hbag:∀ k,k<21→w.cell? ⟨B,k,none⟩=some (bagV lsv k)) (hlsv:∃ p n c,lsv=.slice p n c) :
  Calls Tryz.prog 27 #[.pointer (some ⟨B,0,none⟩)] w fun e w'=>e=.returned (.bool true)∧RelA base lsv K V N w.heap.size w w':=by
 obtain⟨pl,nl,cl,rfl⟩:=hlsv;have HBAG:=Lib.hid hbag
 go_enter Tryz.func27,Tryz.ntmps27
 go_upto_region 1 with fail
 have hrefl:∀ W,(RelA base (.slice pl nl cl) K V N w.heap.size) W W:=(RelA.refl);refine zHh (RelA base (.slice pl nl cl) K V N w.heap.size) (RelA.refl) (RelA.trans) 145 [fun v _=>v=pt B 0,fun v _=>v=pt B 0,fun v _=>v=pt B 0,fun v _=>v=.slice none 0 0,fun v _=>v=.bool true,fun v _=>v=.bool true,fun v _=>v=pt B 0,fun v _=>v=pt B 0,fun v _=>v=pt B 1,fun v _=>v=.slice none 0 0,fun v _=>v=.bool true,fun v _=>v=.bool true,fun v _=>v=.bool true,fun v _=>v=pt B 0,fun v _=>v=pt B 0,fun v _=>v=pt B 2,fun v _=>v=(.slice pl nl cl),fun v _=>v=.bool true,fun v _=>v=.bool true,fun v _=>v=.bool true,fun v _=>v=pt B 0,fun v _=>v=pt B 0,fun v _=>v=pt B 3,fun v _=>v=.slice none 0 0,fun v _=>v=.bool true,fun v _=>v=.bool true,fun v _=>v=.bool true,fun v _=>v=pt B 0,fun v _=>v=pt B 0,fun v _=>v=pt B 4,fun v _=>v=.slice none 0 0,fun v _=>v=.bool true,fun v _=>v=.bool true,fun v _=>v=.bool true,fun v _=>v=pt B 0,fun v _=>v=pt B 0,fun v _=>v=pt B 5,fun v _=>v=.slice none 0 0,fun v _=>v=.bool true,fun v _=>v=.bool true,fun v _=>v=.bool true,fun v _=>v=pt B 0,fun v _=>v=pt B 0,fun v _=>v=pt B 6,fun v _=>v=.slice none 0 0,fun v _=>v=.bool true,fun v _=>v=.bool true,fun v _=>v=.bool true,fun v _=>v=pt B 0,fun v _=>v=pt B 0,fun v _=>v=pt B 7,fun v _=>v=.slice none 0 0,fun v _=>v=.bool true,fun v _=>v=.bool true,fun v _=>v=.bool true,fun v _=>v=pt B 0,fun v _=>v=pt B 0,fun v _=>v=pt B 8,fun v _=>v=.slice none 0 0,fun v _=>v=.bool true,fun v _=>v=.bool true,fun v _=>v=.bool true,fun v _=>v=pt B 0,fun v _=>v=pt B 0,fun v _=>v=pt B 9,fun v _=>v=.slice none 0 0,fun v _=>v=.bool true,fun v _=>v=.bool true,fun v _=>v=.bool true,fun v _=>v=pt B 0,fun v _=>v=pt B 0,fun v _=>v=pt B 10,fun v _=>v=.slice none 0 0,fun v _=>v=.bool true,fun v _=>v=.bool true,fun v _=>v=.bool true,fun v _=>v=pt B 0,fun v _=>v=pt B 0,fun v _=>v=pt B 11,fun v _=>v=.slice none 0 0,fun v _=>v=.bool true,fun v _=>v=.bool true,fun v _=>v=.bool true,fun v _=>v=pt B 0,fun v _=>v=pt B 0,fun v _=>v=pt B 12,fun v _=>v=.slice none 0 0,fun v _=>v=.bool true,fun v _=>v=.bool true,fun v _=>v=.bool true,fun v _=>v=pt B 0,fun v _=>v=pt B 0,fun v _=>v=pt B 13,fun v _=>v=.slice none 0 0,fun v _=>v=.bool true,fun v _=>v=.bool true,fun v _=>v=.bool true,fun v _=>v=pt B 0,fun v _=>v=pt B 0,fun v _=>v=pt B 14,fun v _=>v=.slice none 0 0,fun v _=>v=.bool true,fun v _=>v=.bool true,fun v _=>v=.bool true,fun v _=>v=pt B 0,fun v _=>v=pt B 0,fun v _=>v=pt B 15,fun v _=>v=.slice none 0 0,fun v _=>v=.bool true,fun v _=>v=.bool true,fun v _=>v=.bool true,fun v _=>v=pt B 0,fun v _=>v=pt B 0,fun v _=>v=pt B 16,fun v _=>v=.slice none 0 0,fun v _=>v=.bool true,fun v _=>v=.bool true,fun v _=>v=.bool true,fun v _=>v=pt B 0,fun v _=>v=pt B 0,fun v _=>v=pt B 17,fun v _=>v=.slice none 0 0,fun v _=>v=.bool true,fun v _=>v=.bool true,fun v _=>v=.bool true,fun v _=>v=pt B 0,fun v _=>v=pt B 0,fun v _=>v=pt B 18,fun v _=>v=.slice none 0 0,fun v _=>v=.bool true,fun v _=>v=.bool true,fun v _=>v=.bool true,fun v _=>v=pt B 0,fun v _=>v=pt B 0,fun v _=>v=pt B 19,fun v _=>v=.slice none 0 0,fun v _=>v=.bool true,fun v _=>v=.bool true,fun v _=>v=.bool true,fun v _=>v=pt B 0,fun v _=>v=pt B 0,fun v _=>v=pt B 20,fun v _=>v=.slice none 0 0,fun v _=>v=.bool true,fun v _=>v=.bool true] (by repeat (first|exact trivial|refine⟨zAi _,?_⟩)) (by kernel_rfl) (by kernel_rfl) ?ob ?en
 case ob =>
  refine⟨?_,?_,?_,?_,?_,?_,?_,?_,?_,?_,?_,?_,?_,?_,?_,?_,?_,?_,?_,?_,?_,?_,?_,?_,?_,?_,?_,?_,?_,?_,?_,?_,?_,?_,?_,?_,?_,?_,?_,?_,?_,?_,?_,?_,?_,?_,?_,?_,?_,?_,?_,?_,?_,?_,?_,?_,?_,?_,?_,?_,?_,?_,?_,?_,?_,?_,?_,?_,?_,?_,?_,?_,?_,?_,?_,?_,?_,?_,?_,?_,?_,?_,?_,?_,?_,?_,?_,?_,?_,?_,?_,?_,?_,?_,?_,?_,?_,?_,?_,?_,?_,?_,?_,?_,?_,?_,?_,?_,?_,?_,?_,?_,?_,?_,?_,?_,?_,?_,?_,?_,?_,?_,?_,?_,?_,?_,?_,?_,?_,?_,?_,?_,?_,?_,?_,?_,?_,?_,?_,?_,?_,?_,?_,?_,?_,trivial⟩<;>intro A W h
  ·exact zAg hrefl rfl rfl (h.f 0)
  ·(have e3:A.eval (.tmp 3)=.pointer (some ⟨B,0,none⟩):=h.d 0 3;refine zAM hrefl rfl ?_;simp only[execOp,e3];simp[go_sem])
  ·(have e4:A.eval (.tmp 4)=.pointer (some ⟨B,0,none⟩):=h.d 1 4;refine zAM hrefl rfl ?_;simp only[execOp,e4];simp[go_sem])
  ·(have e5:A.eval (.tmp 5)=.pointer (some ⟨B,0,none⟩):=h.d 2 5;refine zAM hrefl rfl ?_;simp only[execOp,e5];(have q:=(h.rel.1.cellOf hB hBM).trans (hbag 0 (by omega));simp[bagV]at q;simp[go_sem,q]))
  ·exact zA9 rfl rfl (enters_of Tryz.func41 (by kernel_rfl) rfl) (zCL (h.d 3 6)) (RelA.nil (RelA.size h.rel) (zGP W))
  ·exact zAg hrefl rfl rfl (h.d 4 7)
  ·exact zAg hrefl (wg (h.d 5 8)) rfl (h.f 0)
  ·(have e9:A.eval (.tmp 9)=.pointer (some ⟨B,0,none⟩):=h.d 6 9;refine zAM hrefl (wg (h.d 5 8)) ?_;simp only[execOp,e9];simp[go_sem])
  ·(have e10:A.eval (.tmp 10)=.pointer (some ⟨B,0,none⟩):=h.d 7 10;refine zAM hrefl (wg (h.d 5 8)) ?_;simp only[execOp,e10];simp[go_sem])
  ·(have e11:A.eval (.tmp 11)=.pointer (some ⟨B,1,none⟩):=h.d 8 11;refine zAM hrefl (wg (h.d 5 8)) ?_;simp only[execOp,e11];(have q:=(h.rel.1.cellOf hB hBM).trans (hbag 1 (by omega));simp[bagV]at q;simp[go_sem,q]))
  ·exact zA9 (wg (h.d 5 8)) rfl (enters_of Tryz.func42 (by kernel_rfl) rfl) (zCL (h.d 9 12)) (RelA.nil (RelA.size h.rel) (zGM W))
  ·exact zBQ hrefl rfl rfl (h.d 5 8) (h.d 10 13)
  ·exact zAg hrefl rfl rfl (h.d 11 14)
  ·exact zAg hrefl (wg (h.d 12 15)) rfl (h.f 0)
  ·(have e16:A.eval (.tmp 16)=.pointer (some ⟨B,0,none⟩):=h.d 13 16;refine zAM hrefl (wg (h.d 12 15)) ?_;simp only[execOp,e16];simp[go_sem])
  ·(have e17:A.eval (.tmp 17)=.pointer (some ⟨B,0,none⟩):=h.d 14 17;refine zAM hrefl (wg (h.d 12 15)) ?_;simp only[execOp,e17];simp[go_sem])
  ·(have e18:A.eval (.tmp 18)=.pointer (some ⟨B,2,none⟩):=h.d 15 18;refine zAM hrefl (wg (h.d 12 15)) ?_;simp only[execOp,e18];(have q:=(h.rel.1.cellOf hB hBM).trans (hbag 2 (by omega));simp[bagV]at q;simp[go_sem,q]))
  ·exact zA9 (wg (h.d 12 15)) rfl (enters_of Tryz.func43 (by kernel_rfl) rfl) (zCL (h.d 16 19)) (RelA.ints hK hN (RelA.rows h.rel hrows) (RelA.size h.rel) hbase)
  ·exact zBQ hrefl rfl rfl (h.d 12 15) (h.d 17 20)
  ·exact zAg hrefl rfl rfl (h.d 18 21)
  ·exact zAg hrefl (wg (h.d 19 22)) rfl (h.f 0)
  ·(have e23:A.eval (.tmp 23)=.pointer (some ⟨B,0,none⟩):=h.d 20 23;refine zAM hrefl (wg (h.d 19 22)) ?_;simp only[execOp,e23];simp[go_sem])
  ·(have e24:A.eval (.tmp 24)=.pointer (some ⟨B,0,none⟩):=h.d 21 24;refine zAM hrefl (wg (h.d 19 22)) ?_;simp only[execOp,e24];simp[go_sem])
  ·(have e25:A.eval (.tmp 25)=.pointer (some ⟨B,3,none⟩):=h.d 22 25;refine zAM hrefl (wg (h.d 19 22)) ?_;simp only[execOp,e25];(have q:=(h.rel.1.cellOf hB hBM).trans (hbag 3 (by omega));simp[bagV]at q;simp[go_sem,q]))
  ·exact zA9 (wg (h.d 19 22)) rfl (enters_of Tryz.func44 (by kernel_rfl) rfl) (zCL (h.d 23 26)) (RelA.nil (RelA.size h.rel) (zGI W))
  ·exact zBQ hrefl rfl rfl (h.d 19 22) (h.d 24 27)
  ·exact zAg hrefl rfl rfl (h.d 25 28)
  ·exact zAg hrefl (wg (h.d 26 29)) rfl (h.f 0)
  ·(have e30:A.eval (.tmp 30)=.pointer (some ⟨B,0,none⟩):=h.d 27 30;refine zAM hrefl (wg (h.d 26 29)) ?_;simp only[execOp,e30];simp[go_sem])
  ·(have e31:A.eval (.tmp 31)=.pointer (some ⟨B,0,none⟩):=h.d 28 31;refine zAM hrefl (wg (h.d 26 29)) ?_;simp only[execOp,e31];simp[go_sem])
  ·(have e32:A.eval (.tmp 32)=.pointer (some ⟨B,4,none⟩):=h.d 29 32;refine zAM hrefl (wg (h.d 26 29)) ?_;simp only[execOp,e32];(have q:=(h.rel.1.cellOf hB hBM).trans (hbag 4 (by omega));simp[bagV]at q;simp[go_sem,q]))
  ·exact zA9 (wg (h.d 26 29)) rfl (enters_of Tryz.func45 (by kernel_rfl) rfl) (zCL (h.d 30 33)) (RelA.nil (RelA.size h.rel) (zGO W))
  ·exact zBQ hrefl rfl rfl (h.d 26 29) (h.d 31 34)
  ·exact zAg hrefl rfl rfl (h.d 32 35)
  ·exact zAg hrefl (wg (h.d 33 36)) rfl (h.f 0)
  ·(have e37:A.eval (.tmp 37)=.pointer (some ⟨B,0,none⟩):=h.d 34 37;refine zAM hrefl (wg (h.d 33 36)) ?_;simp only[execOp,e37];simp[go_sem])
  ·(have e38:A.eval (.tmp 38)=.pointer (some ⟨B,0,none⟩):=h.d 35 38;refine zAM hrefl (wg (h.d 33 36)) ?_;simp only[execOp,e38];simp[go_sem])
  ·(have e39:A.eval (.tmp 39)=.pointer (some ⟨B,5,none⟩):=h.d 36 39;refine zAM hrefl (wg (h.d 33 36)) ?_;simp only[execOp,e39];(have q:=(h.rel.1.cellOf hB hBM).trans (hbag 5 (by omega));simp[bagV]at q;simp[go_sem,q]))
  ·exact zA9 (wg (h.d 33 36)) rfl (enters_of Tryz.func46 (by kernel_rfl) rfl) (zCL (h.d 37 40)) (RelA.nil (RelA.size h.rel) (zGS W))
  ·exact zBQ hrefl rfl rfl (h.d 33 36) (h.d 38 41)
  ·exact zAg hrefl rfl rfl (h.d 39 42)
  ·exact zAg hrefl (wg (h.d 40 43)) rfl (h.f 0)
  ·(have e44:A.eval (.tmp 44)=.pointer (some ⟨B,0,none⟩):=h.d 41 44;refine zAM hrefl (wg (h.d 40 43)) ?_;simp only[execOp,e44];simp[go_sem])
  ·(have e45:A.eval (.tmp 45)=.pointer (some ⟨B,0,none⟩):=h.d 42 45;refine zAM hrefl (wg (h.d 40 43)) ?_;simp only[execOp,e45];simp[go_sem])
  ·(have e46:A.eval (.tmp 46)=.pointer (some ⟨B,6,none⟩):=h.d 43 46;refine zAM hrefl (wg (h.d 40 43)) ?_;simp only[execOp,e46];(have q:=(h.rel.1.cellOf hB hBM).trans (hbag 6 (by omega));simp[bagV]at q;simp[go_sem,q]))
  ·exact zA9 (wg (h.d 40 43)) rfl (enters_of Tryz.func47 (by kernel_rfl) rfl) (zCL (h.d 44 47)) (RelA.nil (RelA.size h.rel) (zF1 W))
  ·exact zBQ hrefl rfl rfl (h.d 40 43) (h.d 45 48)
  ·exact zAg hrefl rfl rfl (h.d 46 49)
  ·exact zAg hrefl (wg (h.d 47 50)) rfl (h.f 0)
  ·(have e51:A.eval (.tmp 51)=.pointer (some ⟨B,0,none⟩):=h.d 48 51;refine zAM hrefl (wg (h.d 47 50)) ?_;simp only[execOp,e51];simp[go_sem])
  ·(have e52:A.eval (.tmp 52)=.pointer (some ⟨B,0,none⟩):=h.d 49 52;refine zAM hrefl (wg (h.d 47 50)) ?_;simp only[execOp,e52];simp[go_sem])
  ·(have e53:A.eval (.tmp 53)=.pointer (some ⟨B,7,none⟩):=h.d 50 53;refine zAM hrefl (wg (h.d 47 50)) ?_;simp only[execOp,e53];(have q:=(h.rel.1.cellOf hB hBM).trans (hbag 7 (by omega));simp[bagV]at q;simp[go_sem,q]))
  ·exact zA9 (wg (h.d 47 50)) rfl (enters_of Tryz.func48 (by kernel_rfl) rfl) (zCL (h.d 51 54)) (RelA.nil (RelA.size h.rel) (zGN W))
  ·exact zBQ hrefl rfl rfl (h.d 47 50) (h.d 52 55)
  ·exact zAg hrefl rfl rfl (h.d 53 56)
  ·exact zAg hrefl (wg (h.d 54 57)) rfl (h.f 0)
  ·(have e58:A.eval (.tmp 58)=.pointer (some ⟨B,0,none⟩):=h.d 55 58;refine zAM hrefl (wg (h.d 54 57)) ?_;simp only[execOp,e58];simp[go_sem])
  ·(have e59:A.eval (.tmp 59)=.pointer (some ⟨B,0,none⟩):=h.d 56 59;refine zAM hrefl (wg (h.d 54 57)) ?_;simp only[execOp,e59];simp[go_sem])
  ·(have e60:A.eval (.tmp 60)=.pointer (some ⟨B,8,none⟩):=h.d 57 60;refine zAM hrefl (wg (h.d 54 57)) ?_;simp only[execOp,e60];(have q:=(h.rel.1.cellOf hB hBM).trans (hbag 8 (by omega));simp[bagV]at q;simp[go_sem,q]))
  ·exact zA9 (wg (h.d 54 57)) rfl (enters_of Tryz.func49 (by kernel_rfl) rfl) (zCL (h.d 58 61)) (RelA.nil (RelA.size h.rel) (zGU W))
  ·exact zBQ hrefl rfl rfl (h.d 54 57) (h.d 59 62)
  ·exact zAg hrefl rfl rfl (h.d 60 63)
  ·exact zAg hrefl (wg (h.d 61 64)) rfl (h.f 0)
  ·(have e65:A.eval (.tmp 65)=.pointer (some ⟨B,0,none⟩):=h.d 62 65;refine zAM hrefl (wg (h.d 61 64)) ?_;simp only[execOp,e65];simp[go_sem])
  ·(have e66:A.eval (.tmp 66)=.pointer (some ⟨B,0,none⟩):=h.d 63 66;refine zAM hrefl (wg (h.d 61 64)) ?_;simp only[execOp,e66];simp[go_sem])
  ·(have e67:A.eval (.tmp 67)=.pointer (some ⟨B,9,none⟩):=h.d 64 67;refine zAM hrefl (wg (h.d 61 64)) ?_;simp only[execOp,e67];(have q:=(h.rel.1.cellOf hB hBM).trans (hbag 9 (by omega));simp[bagV]at q;simp[go_sem,q]))
  ·exact zA9 (wg (h.d 61 64)) rfl (enters_of Tryz.func50 (by kernel_rfl) rfl) (zCL (h.d 65 68)) (RelA.nil (RelA.size h.rel) (zFO W))
  ·exact zBQ hrefl rfl rfl (h.d 61 64) (h.d 66 69)
  ·exact zAg hrefl rfl rfl (h.d 67 70)
  ·exact zAg hrefl (wg (h.d 68 71)) rfl (h.f 0)
  ·(have e72:A.eval (.tmp 72)=.pointer (some ⟨B,0,none⟩):=h.d 69 72;refine zAM hrefl (wg (h.d 68 71)) ?_;simp only[execOp,e72];simp[go_sem])
  ·(have e73:A.eval (.tmp 73)=.pointer (some ⟨B,0,none⟩):=h.d 70 73;refine zAM hrefl (wg (h.d 68 71)) ?_;simp only[execOp,e73];simp[go_sem])
  ·(have e74:A.eval (.tmp 74)=.pointer (some ⟨B,10,none⟩):=h.d 71 74;refine zAM hrefl (wg (h.d 68 71)) ?_;simp only[execOp,e74];(have q:=(h.rel.1.cellOf hB hBM).trans (hbag 10 (by omega));simp[bagV]at q;simp[go_sem,q]))
  ·exact zA9 (wg (h.d 68 71)) rfl (enters_of Tryz.func51 (by kernel_rfl) rfl) (zCL (h.d 72 75)) (RelA.nil (RelA.size h.rel) (zGE W))
  ·exact zBQ hrefl rfl rfl (h.d 68 71) (h.d 73 76)
  ·exact zAg hrefl rfl rfl (h.d 74 77)
  ·exact zAg hrefl (wg (h.d 75 78)) rfl (h.f 0)
  ·(have e79:A.eval (.tmp 79)=.pointer (some ⟨B,0,none⟩):=h.d 76 79;refine zAM hrefl (wg (h.d 75 78)) ?_;simp only[execOp,e79];simp[go_sem])
  ·(have e80:A.eval (.tmp 80)=.pointer (some ⟨B,0,none⟩):=h.d 77 80;refine zAM hrefl (wg (h.d 75 78)) ?_;simp only[execOp,e80];simp[go_sem])
  ·(have e81:A.eval (.tmp 81)=.pointer (some ⟨B,11,none⟩):=h.d 78 81;refine zAM hrefl (wg (h.d 75 78)) ?_;simp only[execOp,e81];(have q:=(h.rel.1.cellOf hB hBM).trans (hbag 11 (by omega));simp[bagV]at q;simp[go_sem,q]))
  ·exact zA9 (wg (h.d 75 78)) rfl (enters_of Tryz.func52 (by kernel_rfl) rfl) (zCL (h.d 79 82)) (RelA.nil (RelA.size h.rel) (zGr W))
  ·exact zBQ hrefl rfl rfl (h.d 75 78) (h.d 80 83)
  ·exact zAg hrefl rfl rfl (h.d 81 84)
  ·exact zAg hrefl (wg (h.d 82 85)) rfl (h.f 0)
  ·(have e86:A.eval (.tmp 86)=.pointer (some ⟨B,0,none⟩):=h.d 83 86;refine zAM hrefl (wg (h.d 82 85)) ?_;simp only[execOp,e86];simp[go_sem])
  ·(have e87:A.eval (.tmp 87)=.pointer (some ⟨B,0,none⟩):=h.d 84 87;refine zAM hrefl (wg (h.d 82 85)) ?_;simp only[execOp,e87];simp[go_sem])
  ·(have e88:A.eval (.tmp 88)=.pointer (some ⟨B,12,none⟩):=h.d 85 88;refine zAM hrefl (wg (h.d 82 85)) ?_;simp only[execOp,e88];(have q:=(h.rel.1.cellOf hB hBM).trans (hbag 12 (by omega));simp[bagV]at q;simp[go_sem,q]))
  ·exact zA9 (wg (h.d 82 85)) rfl (enters_of Tryz.func53 (by kernel_rfl) rfl) (zCL (h.d 86 89)) (RelA.nil (RelA.size h.rel) (zFe W))
  ·exact zBQ hrefl rfl rfl (h.d 82 85) (h.d 87 90)
  ·exact zAg hrefl rfl rfl (h.d 88 91)
  ·exact zAg hrefl (wg (h.d 89 92)) rfl (h.f 0)
  ·(have e93:A.eval (.tmp 93)=.pointer (some ⟨B,0,none⟩):=h.d 90 93;refine zAM hrefl (wg (h.d 89 92)) ?_;simp only[execOp,e93];simp[go_sem])
  ·(have e94:A.eval (.tmp 94)=.pointer (some ⟨B,0,none⟩):=h.d 91 94;refine zAM hrefl (wg (h.d 89 92)) ?_;simp only[execOp,e94];simp[go_sem])
  ·(have e95:A.eval (.tmp 95)=.pointer (some ⟨B,13,none⟩):=h.d 92 95;refine zAM hrefl (wg (h.d 89 92)) ?_;simp only[execOp,e95];(have q:=(h.rel.1.cellOf hB hBM).trans (hbag 13 (by omega));simp[bagV]at q;simp[go_sem,q]))
  ·exact zA9 (wg (h.d 89 92)) rfl (enters_of Tryz.func54 (by kernel_rfl) rfl) (zCL (h.d 93 96)) (RelA.nil (RelA.size h.rel) (zE9 W))
  ·exact zBQ hrefl rfl rfl (h.d 89 92) (h.d 94 97)
  ·exact zAg hrefl rfl rfl (h.d 95 98)
  ·exact zAg hrefl (wg (h.d 96 99)) rfl (h.f 0)
  ·(have e100:A.eval (.tmp 100)=.pointer (some ⟨B,0,none⟩):=h.d 97 100;refine zAM hrefl (wg (h.d 96 99)) ?_;simp only[execOp,e100];simp[go_sem])
  ·(have e101:A.eval (.tmp 101)=.pointer (some ⟨B,0,none⟩):=h.d 98 101;refine zAM hrefl (wg (h.d 96 99)) ?_;simp only[execOp,e101];simp[go_sem])
  ·(have e102:A.eval (.tmp 102)=.pointer (some ⟨B,14,none⟩):=h.d 99 102;refine zAM hrefl (wg (h.d 96 99)) ?_;simp only[execOp,e102];(have q:=(h.rel.1.cellOf hB hBM).trans (hbag 14 (by omega));simp[bagV]at q;simp[go_sem,q]))
  ·exact zA9 (wg (h.d 96 99)) rfl (enters_of Tryz.func55 (by kernel_rfl) rfl) (zCL (h.d 100 103)) (RelA.nil (RelA.size h.rel) (zEn W))
  ·exact zBQ hrefl rfl rfl (h.d 96 99) (h.d 101 104)
  ·exact zAg hrefl rfl rfl (h.d 102 105)
  ·exact zAg hrefl (wg (h.d 103 106)) rfl (h.f 0)
  ·(have e107:A.eval (.tmp 107)=.pointer (some ⟨B,0,none⟩):=h.d 104 107;refine zAM hrefl (wg (h.d 103 106)) ?_;simp only[execOp,e107];simp[go_sem])
  ·(have e108:A.eval (.tmp 108)=.pointer (some ⟨B,0,none⟩):=h.d 105 108;refine zAM hrefl (wg (h.d 103 106)) ?_;simp only[execOp,e108];simp[go_sem])
  ·(have e109:A.eval (.tmp 109)=.pointer (some ⟨B,15,none⟩):=h.d 106 109;refine zAM hrefl (wg (h.d 103 106)) ?_;simp only[execOp,e109];(have q:=(h.rel.1.cellOf hB hBM).trans (hbag 15 (by omega));simp[bagV]at q;simp[go_sem,q]))
  ·exact zA9 (wg (h.d 103 106)) rfl (enters_of Tryz.func56 (by kernel_rfl) rfl) (zCL (h.d 107 110)) (RelA.nil (RelA.size h.rel) (zEg W))
  ·exact zBQ hrefl rfl rfl (h.d 103 106) (h.d 108 111)
  ·exact zAg hrefl rfl rfl (h.d 109 112)
  ·exact zAg hrefl (wg (h.d 110 113)) rfl (h.f 0)
  ·(have e114:A.eval (.tmp 114)=.pointer (some ⟨B,0,none⟩):=h.d 111 114;refine zAM hrefl (wg (h.d 110 113)) ?_;simp only[execOp,e114];simp[go_sem])
  ·(have e115:A.eval (.tmp 115)=.pointer (some ⟨B,0,none⟩):=h.d 112 115;refine zAM hrefl (wg (h.d 110 113)) ?_;simp only[execOp,e115];simp[go_sem])
  ·(have e116:A.eval (.tmp 116)=.pointer (some ⟨B,16,none⟩):=h.d 113 116;refine zAM hrefl (wg (h.d 110 113)) ?_;simp only[execOp,e116];(have q:=(h.rel.1.cellOf hB hBM).trans (hbag 16 (by omega));simp[bagV]at q;simp[go_sem,q]))
  ·exact zA9 (wg (h.d 110 113)) rfl (enters_of Tryz.func57 (by kernel_rfl) rfl) (zCL (h.d 114 117)) (RelA.nil (RelA.size h.rel) (zGw W))
  ·exact zBQ hrefl rfl rfl (h.d 110 113) (h.d 115 118)
  ·exact zAg hrefl rfl rfl (h.d 116 119)
  ·exact zAg hrefl (wg (h.d 117 120)) rfl (h.f 0)
  ·(have e121:A.eval (.tmp 121)=.pointer (some ⟨B,0,none⟩):=h.d 118 121;refine zAM hrefl (wg (h.d 117 120)) ?_;simp only[execOp,e121];simp[go_sem])
  ·(have e122:A.eval (.tmp 122)=.pointer (some ⟨B,0,none⟩):=h.d 119 122;refine zAM hrefl (wg (h.d 117 120)) ?_;simp only[execOp,e122];simp[go_sem])
  ·(have e123:A.eval (.tmp 123)=.pointer (some ⟨B,17,none⟩):=h.d 120 123;refine zAM hrefl (wg (h.d 117 120)) ?_;simp only[execOp,e123];(have q:=(h.rel.1.cellOf hB hBM).trans (hbag 17 (by omega));simp[bagV]at q;simp[go_sem,q]))
  ·exact zA9 (wg (h.d 117 120)) rfl (enters_of Tryz.func58 (by kernel_rfl) rfl) (zCL (h.d 121 124)) (RelA.nil (RelA.size h.rel) (zGv W))
  ·exact zBQ hrefl rfl rfl (h.d 117 120) (h.d 122 125)
  ·exact zAg hrefl rfl rfl (h.d 123 126)
  ·exact zAg hrefl (wg (h.d 124 127)) rfl (h.f 0)
  ·(have e128:A.eval (.tmp 128)=.pointer (some ⟨B,0,none⟩):=h.d 125 128;refine zAM hrefl (wg (h.d 124 127)) ?_;simp only[execOp,e128];simp[go_sem])
  ·(have e129:A.eval (.tmp 129)=.pointer (some ⟨B,0,none⟩):=h.d 126 129;refine zAM hrefl (wg (h.d 124 127)) ?_;simp only[execOp,e129];simp[go_sem])
  ·(have e130:A.eval (.tmp 130)=.pointer (some ⟨B,18,none⟩):=h.d 127 130;refine zAM hrefl (wg (h.d 124 127)) ?_;simp only[execOp,e130];(have q:=(h.rel.1.cellOf hB hBM).trans (hbag 18 (by omega));simp[bagV]at q;simp[go_sem,q]))
  ·exact zA9 (wg (h.d 124 127)) rfl (enters_of Tryz.func59 (by kernel_rfl) rfl) (zCL (h.d 128 131)) (RelA.nil (RelA.size h.rel) (zFM W))
  ·exact zBQ hrefl rfl rfl (h.d 124 127) (h.d 129 132)
  ·exact zAg hrefl rfl rfl (h.d 130 133)
  ·exact zAg hrefl (wg (h.d 131 134)) rfl (h.f 0)
  ·(have e135:A.eval (.tmp 135)=.pointer (some ⟨B,0,none⟩):=h.d 132 135;refine zAM hrefl (wg (h.d 131 134)) ?_;simp only[execOp,e135];simp[go_sem])
  ·(have e136:A.eval (.tmp 136)=.pointer (some ⟨B,0,none⟩):=h.d 133 136;refine zAM hrefl (wg (h.d 131 134)) ?_;simp only[execOp,e136];simp[go_sem])
  ·(have e137:A.eval (.tmp 137)=.pointer (some ⟨B,19,none⟩):=h.d 134 137;refine zAM hrefl (wg (h.d 131 134)) ?_;simp only[execOp,e137];(have q:=(h.rel.1.cellOf hB hBM).trans (hbag 19 (by omega));simp[bagV]at q;simp[go_sem,q]))
  ·exact zA9 (wg (h.d 131 134)) rfl (enters_of Tryz.func60 (by kernel_rfl) rfl) (zCL (h.d 135 138)) (RelA.nil (RelA.size h.rel) (zGW W))
  ·exact zBQ hrefl rfl rfl (h.d 131 134) (h.d 136 139)
  ·exact zAg hrefl rfl rfl (h.d 137 140)
  ·exact zAg hrefl (wg (h.d 138 141)) rfl (h.f 0)
  ·(have e142:A.eval (.tmp 142)=.pointer (some ⟨B,0,none⟩):=h.d 139 142;refine zAM hrefl (wg (h.d 138 141)) ?_;simp only[execOp,e142];simp[go_sem])
  ·(have e143:A.eval (.tmp 143)=.pointer (some ⟨B,0,none⟩):=h.d 140 143;refine zAM hrefl (wg (h.d 138 141)) ?_;simp only[execOp,e143];simp[go_sem])
  ·(have e144:A.eval (.tmp 144)=.pointer (some ⟨B,20,none⟩):=h.d 141 144;refine zAM hrefl (wg (h.d 138 141)) ?_;simp only[execOp,e144];(have q:=(h.rel.1.cellOf hB hBM).trans (hbag 20 (by omega));simp[bagV]at q;simp[go_sem,q]))
  ·exact zA9 (wg (h.d 138 141)) rfl (enters_of Tryz.func61 (by kernel_rfl) rfl) (zCL (h.d 142 145)) (RelA.nil (RelA.size h.rel) (zFJ W))
  ·exact zBQ hrefl rfl rfl (h.d 138 141) (h.d 143 146)
 case en =>
  intro vals W hbw hv;simp only[List.append,fa,Nat.reduceAdd];rw[e_ hv 0,e_ hv 1,e_ hv 2,e_ hv 3,e_ hv 4,e_ hv 5,e_ hv 6,e_ hv 7,e_ hv 8,e_ hv 9,e_ hv 10,e_ hv 11,e_ hv 12,e_ hv 13,e_ hv 14,e_ hv 15,e_ hv 16,e_ hv 17,e_ hv 18,e_ hv 19,e_ hv 20,e_ hv 21,e_ hv 22,e_ hv 23,e_ hv 24,e_ hv 25,e_ hv 26,e_ hv 27,e_ hv 28,e_ hv 29,e_ hv 30,e_ hv 31,e_ hv 32,e_ hv 33,e_ hv 34,e_ hv 35,e_ hv 36,e_ hv 37,e_ hv 38,e_ hv 39,e_ hv 40,e_ hv 41,e_ hv 42,e_ hv 43,e_ hv 44,e_ hv 45,e_ hv 46,e_ hv 47,e_ hv 48,e_ hv 49,e_ hv 50,e_ hv 51,e_ hv 52,e_ hv 53,e_ hv 54,e_ hv 55,e_ hv 56,e_ hv 57,e_ hv 58,e_ hv 59,e_ hv 60,e_ hv 61,e_ hv 62,e_ hv 63,e_ hv 64,e_ hv 65,e_ hv 66,e_ hv 67,e_ hv 68,e_ hv 69,e_ hv 70,e_ hv 71,e_ hv 72,e_ hv 73,e_ hv 74,e_ hv 75,e_ hv 76,e_ hv 77,e_ hv 78,e_ hv 79,e_ hv 80,e_ hv 81,e_ hv 82,e_ hv 83,e_ hv 84,e_ hv 85,e_ hv 86,e_ hv 87,e_ hv 88,e_ hv 89,e_ hv 90,e_ hv 91,e_ hv 92,e_ hv 93,e_ hv 94,e_ hv 95,e_ hv 96,e_ hv 97,e_ hv 98,e_ hv 99,e_ hv 100,e_ hv 101,e_ hv 102,e_ hv 103,e_ hv 104,e_ hv 105,e_ hv 106,e_ hv 107,e_ hv 108,e_ hv 109,e_ hv 110,e_ hv 111,e_ hv 112,e_ hv 113,e_ hv 114,e_ hv 115,e_ hv 116,e_ hv 117,e_ hv 118,e_ hv 119,e_ hv 120,e_ hv 121,e_ hv 122,e_ hv 123,e_ hv 124,e_ hv 125,e_ hv 126,e_ hv 127,e_ hv 128,e_ hv 129,e_ hv 130,e_ hv 131,e_ hv 132,e_ hv 133,e_ hv 134,e_ hv 135,e_ hv 136,e_ hv 137,e_ hv 138,e_ hv 139,e_ hv 140,e_ hv 141,e_ hv 142,e_ hv 143,e_ hv 144]
  clear hv
  try simp only[pl]
  have R:=Lib.hid hbw;clear hbw
  go_wp2
  go_ret;exact⟨rfl,R.out⟩
def bagC (lsv:Value):Array Value:=#[.slice none 0 0,.slice none 0 0,lsv,.slice none 0 0,.slice none 0 0,.slice none 0 0,.slice none 0 0,.slice none 0 0,.slice none 0 0,.slice none 0 0,.slice none 0 0,.slice none 0 0,.slice none 0 0,.slice none 0 0,.slice none 0 0,.slice none 0 0,.slice none 0 0,.slice none 0 0,.slice none 0 0,.slice none 0 0,.slice none 0 0]
def Bag (W:World) (B:Nat) (lsv:Value):Prop:=W.heap[B]?=some (.cells (bagC lsv) 83 (0,0))
theorem Bag.lt {W:World} {B:Nat} {lsv:Value} (h:Bag W B lsv):B<W.heap.size:=(Array.getElem?_eq_some_iff.1 h).1
theorem Bag.cell {W:World} {B:Nat} {lsv:Value} (h:Bag W B lsv) {k:Nat} (hk:k<21):W.cell? ⟨B,k,none⟩=some (bagV lsv k):=by
 rw[cell_of_row W B k _ _ _ h];have:∀ k,k<21→(bagC lsv)[k]?=some (bagV lsv k):=by
  intro k hk
  match k,hk with
  | 0,_=>rfl
  | 1,_=>rfl
  | 2,_=>rfl
  | 3,_=>rfl
  | 4,_=>rfl
  | 5,_=>rfl
  | 6,_=>rfl
  | 7,_=>rfl
  | 8,_=>rfl
  | 9,_=>rfl
  | 10,_=>rfl
  | 11,_=>rfl
  | 12,_=>rfl
  | 13,_=>rfl
  | 14,_=>rfl
  | 15,_=>rfl
  | 16,_=>rfl
  | 17,_=>rfl
  | 18,_=>rfl
  | 19,_=>rfl
  | 20,_=>rfl
  | k+21,hk=>exact absurd hk (by omega)
 exact this k hk
theorem Bag.frozen {W:World} {B:Nat} {lsv:Value} (h:Bag W B lsv) (k:Nat):W.frozen? ⟨B,k,none⟩=false:=by
 simp[World.frozen?,show W.heap[B]?=_ from h]
theorem Bag.set {W:World} {B:Nat} {lsv:Value} (h:Bag W B lsv) (x:Value):Bag (W.setCell ⟨B,2,none⟩ x) B x:=by
 obtain⟨hlt,hh⟩:=Array.getElem?_eq_some_iff.1 h
 show (W.heap.modify B _)[B]?=_
 rw[Array.getElem?_eq_getElem (by rw[Array.size_modify];exact hlt),Array.getElem_modify_self,hh]
 rfl
theorem Bag.kept {W W':World} {B:Nat} {lsv:Value} {row:Option Nat} (h:Bag W B lsv) (hg:W.grownBy W' row) (hr:row≠some B):Bag W' B lsv:=(hg.block B h.lt (fun e=>hr e.symm)).trans h
theorem Bag.below {W W':World} {B:Nat} {lsv:Value} (h:Bag W B lsv) (hb:Below W.heap.size W W'):Bag W' B lsv:=(hb.block B h.lt).trans h
theorem Bag.ne {W:World} {B:Nat} {lsv:Value} (h:Bag W B lsv) {base:Nat} {e:TypeId} {s:Nat} {v:Value} {n:Nat} {xs:List Value} (ho:W.ownsRow base e s v n xs) (hne:e≠83):v.ownBlock≠some B:=by
 intro hb;obtain⟨_,_,cur,hc⟩:=zA0 ho hb;rw[show W.heap[B]?=_ from h]at hc
 cases hc
 exact hne rfl
theorem zKe (B b0 k:Nat) (lsv l:Value) (xs:List Value) (w:World) (hk:k≤1000) (hbag:Bag w B lsv) (hown:w.ownsRow b0 27 1 lsv k xs) (hb0:b0≤B) (hl:∃ p n c,l=.slice p n c) :
  Calls Tryz.prog 26 #[.pointer (some ⟨B,0,none⟩),l] w fun e w'=>e=.returned (.tuple #[])∧∃ lsv',Bag w' B lsv'∧w'.ownsRow b0 27 1 lsv' (k+1) (xs++[l])∧Below b0 w w':=by
 obtain⟨i3,hi3,hy0,hy1,hy2⟩:=info_parts zJJ;obtain⟨pl,nl,cl,rfl⟩:=hl;obtain⟨pv,cv,rfl⟩:=zCE hown;have hlt:=hbag.lt;have HB:=Lib.hid hbag;clear hbag;have HO:=Lib.hid hown;clear hown
 go_enter Tryz.func26,Tryz.ntmps26
 go_upto_region 0 with fail
 refine zCM 7 [fun v _=>v=pt B 0,fun v _=>v=pt B 0,fun v _=>v=pt B 0,fun v _=>v=pt B 2,fun v _=>v=.slice pv k cv,fun v _=>v=.slice pl nl cl,OneV 27 (.slice pl nl cl)] (fun _=>false) (by kernel_rfl) (by kernel_rfl) (by repeat (first|exact trivial|refine⟨zAF _,?_⟩|refine⟨zG9 _ _,?_⟩)) (fun _ _ h=>by cases h) ?ob ?en
 case ob =>
  refine⟨?_,?_,?_,?_,?_,?_,?_,trivial⟩<;>intro A W h
  ·exact zAB rfl rfl (h.f 0)
  ·exact zAB rfl rfl (h.f 0)
  ·(have e5:A.eval (.tmp 5)=.pointer (some ⟨B,0,none⟩):=h.d 1 5;refine zAA rfl ?_;simp only[execOp,e5];simp[go_sem])
  ·(have e6:A.eval (.tmp 6)=.pointer (some ⟨B,0,none⟩):=h.d 2 6;refine zAA rfl ?_;simp only[execOp,e6];simp[go_sem])
  ·(have e7:A.eval (.tmp 7)=.pointer (some ⟨B,2,none⟩):=h.d 3 7;refine zAA rfl ?_;simp only[execOp,e7];(have q:=(HB.out.below h.below).cell (k:=2) (by omega);simp[bagV]at q;simp[go_sem,q]))
  ·exact zAB rfl rfl (h.f 1)
  ·exact zHu rfl rfl (h.d 5 9) (fun W=>by simp[go_sem]) (by decide)
 case en =>
  intro vals W hbw hv _;have x6:=hv 6 (by omega);simp only[zAh]at x6
  simp only[fa,Nat.reduceAdd];rw[e_ hv 0,e_ hv 1,e_ hv 2,e_ hv 3,e_ hv 4,e_ hv 5];clear hv
  try simp only[pl]
  obtain⟨gb,e6,s6⟩:=x6;rw[e6];have o1:=zBv HO.out hbw;have b1:=HB.out.below hbw;have hs:=hbw.size;refine zCh W rfl _ _ 34 rfl b0 27 i3 _ 1 24 Tryz.underlying34 hi3 hy0 hy1 hy2 rfl (by decide) (.slice pv k cv) k _ rfl o1 ⟨gb,0,none⟩ 1 1 [.slice pl nl cl] rfl rfl (OneV.news s6) (by simp[Value.oneCell']) (by unfold maxLen;omega) (by omega) (by omega) (by decide) ?_
  intro v5 w5 own5 grow5;have hany:=grow5.any;have b5:=b1.kept hany (b1.ne o1 (by decide))
  have bel5:Below b0 w w5:=(hbw.mono (by omega)).grown hany (by omega) (fun g e=>(zA0 o1 e).2.1)
  have hne5:=b5.ne own5 (by decide)
  obtain⟨p5,c5,rfl⟩:=zCE own5;have hcell:=b5.cell (k:=2) (by omega)
  have hf:=b5.frozen 2;have B6:=Lib.hid (b5.set (.slice p5 (k+1) c5));have O6:=Lib.hid (zBn own5 (zBm w5 B 2 (.slice p5 (k+1) c5)) (fun g e=>by cases e;exact hne5))
  have BL6:=Lib.hid (bel5.setCell (p:=⟨B,2,none⟩) (by omega) (.slice p5 (k+1) c5))
  clear o1 b1 own5 grow5 hany b5 bel5 hne5 hbw s6
  go_wp2
  go_end0
  exact⟨rfl,_,B6.out,O6.out,BL6.out⟩
theorem zIO (G cap K base:Nat) (V:Nat→Value) (N:Nat→Nat) (X:Nat→List Value) (w:World) (hK:K≤1000) (hK0:0<K) (hN:∀ j,j<K→N j≤4194304) (hG:G<w.heap.size) (hcell:∀ k,k<K→w.cell? ⟨G,k,none⟩=some (V k))
  (hbase:base≤w.heap.size) (hfam:Fam 3 1 base w K V V N N X X) :
  Calls Tryz.prog 12 #[.slice (some ⟨G,0,none⟩) K cap] w fun e w'=>e=.returned (.bool true)∧KeepBut (Mine K V) w.heap.size w w'∧∃ X',Fam 3 1 base w' K V V N N X' X':=by
 have HC:=Lib.hid hcell;clear hcell;have HF:=Lib.hid hfam;clear hfam;have HN:=Lib.hid hN;clear hN
 go_enter Tryz.func12,Tryz.ntmps12
 go_wp2_with fail
 have hb1:Bag (w.alloc (.cells (bagC (.slice none 0 0)) 83)) w.heap.size (.slice none 0 0):=World.alloc_heap_new w _;have bel1:Below w.heap.size w (w.alloc (.cells (bagC (.slice none 0 0)) 83)):=(Below.refl _ w).alloc (Nat.le_refl _) _;have HB1:=Lib.hid hb1;clear hb1;have BL1:=Lib.hid bel1;clear bel1
 go_loopw [4] (fun n wr=>∃ k:Nat,k≤K∧n=.int .i64 k∧Hid (∃ lsv,Bag wr w.heap.size lsv∧wr.ownsRow w.heap.size 27 1 lsv k (rowV V k)∧Below w.heap.size w wr)) (fun n _=>K - (intOf n).toNat)
 case atStart=>exact⟨0,by omega,rfl,_,HB1.out,⟨rfl,.inl ⟨rfl,rfl⟩⟩,BL1.out⟩
 case round =>
  clear HB1 BL1;obtain⟨k,hk,rfl,S⟩:=hrel;obtain⟨lsv,S⟩:∃ lsv,Hid (Bag wr w.heap.size lsv∧wr.ownsRow w.heap.size 27 1 lsv k (rowV V k)∧Below w.heap.size w wr):=by obtain⟨l,h⟩:=S.out;exact⟨l,h⟩
  by_cases hlt:k<K
  ·have ck:=Lib.hid (HC.out k hlt);obtain⟨pk,ck2,hV⟩:∃ p c,V k=.slice p (N k) c:=zCE (HF.out.v k hlt);have HR:Hid (rowV V (k+1)=rowV V k++[V k]):=by show _=_;simp[rowV,List.range_succ]
   rw[hV]at ck HR;clear hV
   go_upto_region 5 with fail
   refine ws_ 5 [fun v _=>v=pt w.heap.size 0,fun v _=>v=.slice (some ⟨G,0,none⟩) K cap,fun v _=>v=.int .i64 (k:Int),fun v _=>v=.pointer (some ⟨G,k,none⟩),fun v _=>v=.slice pk (N k) ck2] ?ob ?en
   case ob =>
    refine⟨?_,?_,?_,?_,?_,trivial⟩<;>intro A W h
    ·exact zAB rfl rfl (h.f 3)
    ·exact zAB rfl rfl (h.f 0)
    ·exact zAB rfl rfl (h.f 4)
    ·exact zAo (sz:=1) Tryz.underlying34 (fun w=>by kernel_rfl) rfl rfl (h.d 1 14) (h.d 2 15) (by omega) (by omega)
    ·(have e16:A.eval (.tmp 16)=.pointer (some ⟨G,k,none⟩):=h.d 3 16;refine zAA rfl ?_;simp only[execOp,e16];(have q:=((S.out.2.2.trans (h.below.mono S.out.2.2.size)).cell (p:=⟨G,k,none⟩) hG).trans ck.out;simp[go_sem,q]))
   case en =>
    intro vals W1 hbw hv _;simp only[fa,Nat.reduceAdd];rw[e_ hv 0,e_ hv 1,e_ hv 2,e_ hv 3,e_ hv 4];clear hv
    try simp only[pl]
    have S1:=Lib.hid (And.intro (S.out.1.below hbw) (And.intro (zBv S.out.2.1 hbw) (S.out.2.2.trans (hbw.mono S.out.2.2.size))));clear hbw S
    go_wp2_with fail
    refine(zKe w.heap.size w.heap.size k lsv _ _ W1 (by omega) S1.out.1 S1.out.2.1 (Nat.le_refl _) ⟨_,_,_,rfl⟩).mono ?_
    rintro e w2 ⟨rfl,lsv2,s1,s2,s3⟩;have S2:Hid (Bag w2 w.heap.size lsv2∧w2.ownsRow w.heap.size 27 1 lsv2 (k+1) (rowV V (k+1))∧Below w.heap.size w w2):=⟨s1,by rw[HR.out];exact s2,S1.out.2.2.trans s3⟩
    clear s1 s2 s3 S1
    go_wp2_with fail
    go_roundw
    case rel=>exact⟨k+1,by omega,by go_num,lsv2,S2.out⟩
    case measure=>simp[intOf];omega
  ·obtain rfl:K=k:=by omega
   have hsz:=S.out.2.2.size;have hnm:¬ Mine K V w.heap.size:=by
    rintro⟨j,hj,hb⟩;have:=(zA0 (HF.out.v j hj) hb).1;omega
   have hrows:zHe base lsv K V N wr:=⟨X,zP4 S.out.2.1 hbase,HF.out.below S.out.2.2⟩;have hform:=zCE S.out.2.1;have HRW:=Lib.hid hrows;clear hrows;have HNM:=Lib.hid hnm;clear hnm;have HFM:=Lib.hid hform;clear hform
   go_wp2_with fail
   refine(zNd lsv K base w.heap.size V N wr hK HN.out HRW.out (by omega) S.out.1.lt HNM.out (fun k hk=>S.out.1.cell hk) (by obtain⟨p,c,h⟩:=HFM.out;exact⟨p,_,c,h⟩)).mono ?_
   rintro e w' ⟨rfl,hrel2⟩;have R:=Lib.hid hrel2;clear hrel2
   go_wp2
   go_ret;obtain⟨X',_,hfam'⟩:=R.out.2 HRW.out;exact⟨rfl,(KeepBut.of_below S.out.2.2).trans (R.out.1.mono hsz (fun _ _ h=>h)),X',hfam'⟩
theorem InstsR.pre {G:Nat→Prop} {q:Option Addr} {c:Nat} {ps ys:List InstD} {V:World} (h:InstsR G q c (ps++ys) V):InstsR G q c ps V:=by
 obtain⟨p,cap,e,h1,h2,h0,h3⟩:=h;simp only[Value.slice.injEq]at e;obtain⟨rfl,_,rfl⟩:=e;refine⟨q,c,by simp,by simp at h1 ⊢;omega,h2,h0,fun j r hr=>h3 j r ?_⟩
 rw[List.map_append,List.getElem?_append_left (List.getElem?_eq_some_iff.1 hr).1];exact hr
def zEJ (L:Str):List Int:=L.map (fun b=>(b.toNat:Int))
theorem zNk (L:Str):(zEJ L).length=L.length:=by simp[zEJ]
theorem zLf (L:Str):u8s (zEJ L)=L.map (fun b=>Value.int .u8 b.toNat):=by simp[u8s,zEJ]
theorem Rd.grown {w0 w:World} {v:Value} {cs:List Value} (h:Rd w0 w0.heap.size v cs) (hb:Below w0.heap.size w0 w):Rd w w.heap.size v cs:=(h.below hb).up hb.size
def LentS (g:Nat) (L:Str) (V:World):Prop:=∀ j,j<L.length+12→V.cell? ⟨g,j,none⟩=(u8s (zEJ L)++zBE 12)[j]?
theorem LentS.bytes {g cap:Nat} {L:Str} {V:World} (h:LentS g L V) (h1:L.length+12≤cap) (h2:cap≤maxLen):BytesR (·=g) (some ⟨g,0,none⟩) cap L V:=by
 refine⟨_,cap,by rw[List.length_map],by simp;omega,h2,(fun h=>by cases h),fun j r hr=>⟨g,0,rfl,rfl,?_,fun k hk=>?_⟩⟩
 ·rw[List.getElem?_map]at hr;obtain⟨x,_,rfl⟩:=Option.map_eq_some_iff.1 hr;rfl
 ·rw[List.getElem?_map]at hr;obtain⟨x,hx,rfl⟩:=Option.map_eq_some_iff.1 hr;obtain rfl:k=0:=by omega
  obtain⟨hlt,rfl⟩:=List.getElem?_eq_some_iff.1 hx;have:=h j (by omega)
  rw[show (0+j * 1+0)=j by omega,this,List.getElem?_append_left (by simp[u8s,zEJ];exact hlt),zLf,List.getElem?_map,List.getElem?_eq_getElem hlt]
  rfl
theorem LentS.lent {g cap b0:Nat} {L:Str} {V:World} (h:LentS g L V) (h1:L.length+12≤cap) (h2:cap≤maxLen) (hb:b0≤g) (hg:g<V.heap.size):Lent b0 V (.slice (some ⟨g,0,none⟩) L.length cap) (u8s (zEJ L)) (zBE 12):=by
 have hl:(u8s (zEJ L)).length=L.length:=by simp[u8s,zEJ]
 exact⟨g,cap,by rw[hl],hb,hg,by rw[hl];exact h1,h2,fun j hj=>h j (by rw[hl]at hj;exact hj)⟩
section
variable {M:Nat→Prop} {P:Program} {f:FuncId} {args:Array Value} {w w0:World} {l:List Res} {R:Ending→World→Prop}
theorem chLI {ps:List InstD} (c:Calls P f args w fun e w'=>∃ g cap,e=.returned (.slice (some ⟨g,0,none⟩) ps.length cap)∧w'.ownsRow w.heap.size 43 9 (.slice (some ⟨g,0,none⟩) (ps.length+12) cap) (ps.length+12) (zAP ((ps++zBs 12).map zAY))∧Below w.heap.size w w') (H:HoldG M w0 w l)
  (k:∀ g cap w',HoldG M w0 w' (l++[.kn (·=g) (InstsR (·=g) (some ⟨g,0,none⟩) cap (ps++zBs 12))])→R (.returned (.slice (some ⟨g,0,none⟩) ps.length cap)) w'):Calls P f args w R:=c.mono fun _ w' h=>by
 obtain⟨g,cap,rfl,ho,hb⟩:=h;have hlen:((ps++zBs 12).map zAY).length=ps.length+12:=by simp[zGV]
 refine k g cap w' (H.learn hb Still.none (fun b hb'=>by subst hb';exact⟨(World.ownsRow.lt ho b rfl).2,.inl (World.ownsRow.lt ho b rfl).1⟩) (fun V hV=>?_))
 have:=RdN.of_own (V:=V) ho (zBX _) hlen (fun b hb'=>by
  have e:some g=some b:=hb'
  cases e;exact hV g rfl)
 have h2:=this.mono (G:=(·=g)) (fun b hb'=>by have e:some g=some b:=hb';cases e;rfl)
 unfold InstsR;rw[List.length_append,zGV];exact h2
theorem chLB {L:Str} (c:Calls P f args w fun e w'=>∃ r,e=.returned r∧Lent w.heap.size w' r (u8s (zEJ L)) (zBE 12)∧Below w.heap.size w w') (H:HoldG M w0 w l)
  (k:∀ g cap w',Hid (w0.heap.size≤g∧L.length+12≤cap∧cap≤maxLen)→HoldG M w0 w' (l++[.kn (·=g) (LentS g L)])→R (.returned (.slice (some ⟨g,0,none⟩) L.length cap)) w'):Calls P f args w R:=c.mono fun _ w' h=>by
 obtain⟨r,rfl,⟨g,cap,rfl,hg0,hg1,hc,hm,hcell⟩,hb⟩:=h;have hl:(u8s (zEJ L)).length=L.length:=by simp[u8s,zEJ]
 rw[hl]at hc hcell ⊢;refine k g cap w' (Lib.hid ⟨Nat.le_trans H.keep.size hg0,hc,hm⟩) (H.learn hb Still.none (fun b hb'=>by subst hb';exact⟨hg1,.inl hg0⟩) (fun V hV j hj=>?_))
 rw[← hcell j hj];simp[World.cell?,hV g rfl]
theorem chRO {sl:zA2} (c:Calls P f args w fun e w'=>RunOwn w (some sl) e w'∧Below w.heap.size w w') (H:HoldG M w0 w l)
  (k:∀ q n w',HoldG M w0 w' (l++[.row (.slice q sl.length n) 3 1 sl.length (sl.map (.int .i64))])→R (.returned (.tuple #[.slice q sl.length n,.bool true])) w'):Calls P f args w R:=c.mono fun _ w' h=>by
 obtain⟨⟨q,n,rfl,ho⟩,hb⟩:=h;exact k q n w' (H.gainRowX hb ho)
theorem zSb (c:Calls P f args w fun e w'=>RunOwn w none e w'∧Below w.heap.size w w') (H:HoldG M w0 w l)
  (k:∀ w',HoldG M w0 w' (l++[.row (.slice none 0 0) 3 1 0 []])→R (.returned (.tuple #[.slice none 0 0,.bool false])) w'):Calls P f args w R:=c.mono fun _ w' h=>by
 obtain⟨rfl,hb⟩:=h;exact k w' ((H.call hb).addNil 3 1)
end
theorem Hold.afterMine {w0 w w':World} {l:List Res} (H:Hold w0 w l) {N:Nat→Prop} (hk:KeepBut N w.heap.size w w') (hN:∀ b,N b→w0.heap.size≤b) {i j:Nat} {F G:Nat→Prop} {S T:World→Prop} (hi:At l i (.kn F S)) (hj:At l j (.kn G T)) (hF:∀ b,F b→b<w0.heap.size) (hG:∀ b,G b→b<w0.heap.size):Hold w0 w' [.kn F S,.kn G T]:=by
 have hs:=H.keep.size;have hold:∀ b,b<w0.heap.size→w'.heap[b]?=w.heap[b]?:=fun b hb=>hk.old b (by omega) (fun h=>by have:=hN b h;omega)
 have h1:=H.all i _ hi.get;have h2:=H.all j _ hj.get;have hkeep:KeepBut (fun _=>False) w0.heap.size w0 w':=H.keep.trans ⟨hk.os,hk.tape,hk.output,hk.size,fun b hb _=>hold b hb⟩
 refine⟨hkeep,fun k r hr=>?_,fun a b r s hab hr hs'=>?_⟩
 ·match k,hr with
  | 0,hr=>simp at hr;subst hr;exact⟨fun b hb=>Nat.lt_of_lt_of_le (h1.1 b hb) hk.size,fun V hV=>h1.2 V (fun b hb=>(hV b hb).trans (hold b (hF b hb)))⟩
  | 1,hr=>simp at hr;subst hr;exact⟨fun b hb=>Nat.lt_of_lt_of_le (h2.1 b hb) hk.size,fun V hV=>h2.2 V (fun b hb=>(hV b hb).trans (hold b (hG b hb)))⟩
  | k+2,hr=>simp at hr
 ·match a,hr with
  | 0,hr=>simp at hr;subst hr;intro b hb;cases hb
  | 1,hr=>simp at hr;subst hr;intro b hb;cases hb
  | a+2,hr=>simp at hr
theorem zQB {w0 w:World} {l:List Res} (H:Hold w0 w l) {i j k g n c1 c2:Nat} {q1 q2:Option Addr} {xs:List Value} (hij:i≠j) (hi:At l i (.row (.slice q1 n c1) 3 1 n xs)) (hj:At l j (.row (.slice q2 n c2) 3 1 n xs)) (hk:At l k (.blk g #[.slice q1 n c1,.slice q2 n c2] 27)) (hn:n≤4194304) :
  Calls Tryz.prog 12 #[.slice (some ⟨g,0,none⟩) 2 2] w fun e w'=>e=.returned (.bool true)∧KeepBut (Mine 2 (fun j=>if j=0 then .slice q1 n c1 else .slice q2 n c2)) w.heap.size w w':=by
 have h1:=H.all i _ hi.get;have h2:=H.all j _ hj.get;refine(zIO g 2 2 w0.heap.size (fun j=>if j=0 then .slice q1 n c1 else .slice q2 n c2) (fun _=>n) (fun _=>xs) w (by omega) (by omega) (fun _ _=>hn) (Array.getElem?_eq_some_iff.1 (H.blk hk).2).1 (fun m hm=>?_) H.keep.size ⟨fun m hm=>?_,fun m hm=>?_,fun m hm g' n' c' m' d' e1 e2=>by rw[e1]at e2;cases e2;exact⟨Nat.le_refl _,rfl⟩,fun a b ha hb hab g' e1 e2=>?_⟩).mono fun e w' ⟨he,h1,_⟩=>⟨he,h1⟩
 ·rw[H.cell hk]
  match m,hm with
  | 0,_=>rfl
  | 1,_=>rfl
 ·match m,hm with
  | 0,_=>exact h1
  | 1,_=>exact h2
 ·match m,hm with
  | 0,_=>exact h1
  | 1,_=>exact h2
 ·have f1:=e1.elim id id;have f2:=e2.elim id id
  match a,b,ha,hb,hab,f1,f2 with
  | 0,1,_,_,_,f1,f2=>exact H.apart i j _ _ hij hi.get hj.get g' f1 f2
  | 1,0,_,_,_,f1,f2=>exact H.apart j i _ _ (Ne.symm hij) hj.get hi.get g' f1 f2
  | 0,0,_,_,hab,_,_=>exact hab rfl
  | 1,1,_,_,hab,_,_=>exact hab rfl
theorem zN2 {w0 w:World} {l:List Res} (H:Hold w0 w l) {i j n c1 c2:Nat} {q1 q2:Option Addr} {xs:List Value} (hi:At l i (.row (.slice q1 n c1) 3 1 n xs)) (hj:At l j (.row (.slice q2 n c2) 3 1 n xs)):∀ b,Mine 2 (fun j=>if j=0 then .slice q1 n c1 else .slice q2 n c2) b→w0.heap.size≤b:=by
 rintro b ⟨m,hm,hb⟩
 match m,hm,hb with
 | 0,_,hb=>exact((H.all i _ hi.get).lt b hb).1.elim id False.elim
 | 1,_,hb=>exact((H.all j _ hj.get).lt b hb).1.elim id False.elim
theorem zPh {p:List InstD} {s:Str} {a:Int} {l:zA2} (h:runP p s a=some l):l.length=zCe p:=by
 have h0:¬ (a<0∨(s.length:Int)<a∨zA3 p=false):=fun hh=>by unfold runP at h;rw[if_pos hh]at h;cases h
 have hr:zA3 p=true:=by
  cases hq:zA3 p with
  | true=>rfl
  | false=>exact absurd (.inr (.inr hq)) h0
 have d:=zK4 (p:=p) (s:=s) (a:=a) (by omega) (by omega) hr
 rw[h]at d
 obtain⟨k,i,hq,_⟩:=d.keeps (Q:=fun e=>e.2.2.length=zCe p) (fun k i sl hq _ e he=>by
  unfold sucE at he;simp only at he hq;split at he
  ·split at he
   ·simp only[List.mem_singleton]at he;subst he;exact hq
   ·cases he
  split at he
  ·simp only[List.mem_cons,List.not_mem_nil,or_false]at he;rcases he with rfl|rfl<;>exact hq
  split at he
  ·simp only[List.mem_singleton]at he;subst he;simpa using hq
  split at he
  ·split at he
   ·simp only[List.mem_singleton]at he;subst he;exact hq
   ·cases he
  ·cases he) (fun e he=>by rw[(zLz he).2.1,List.length_replicate]) rfl
 exact hq
theorem zKY {p:List InstD} {s:Str} {a:Int} {l:zA2} (h:runP p s a=some l):l.length≤42:=by
 have h0:¬ (a<0∨(s.length:Int)<a∨zA3 p=false):=fun hh=>by unfold runP at h;rw[if_pos hh]at h;cases h
 have hr:zA3 p=true:=by
  cases hq:zA3 p with
  | true=>rfl
  | false=>exact absurd (.inr (.inr hq)) h0
 rw[zPh h];exact(zFP hr).2.2
theorem zQ3 (q1 q2:Option Addr) (n1 n2 c1 c2:Nat) (W:World):(Instr.buildSlice 34 2 #[(0,.slice q1 n1 c1),(1,.slice q2 n2 c2)]).run Tryz.prog W=.ok (.slice (some ⟨W.heap.size,0,none⟩) 2 2) (W.alloc (.cells #[.slice q1 n1 c1,.slice q2 n2 c2] 27)):=by kernel_rfl
theorem zOD {M:Nat→Prop} {ops:Array Oper} {rest:List Oper} {o:Oper} {a:Act} {w w0:World} {l:List Res} {Q:Exit→Act→World→Prop} (hg:Region.wanted o (yielded ops a.tmps)=true) {x0 x1:Operand} (ho:o.op=.buildSlice 34 2 #[(0,x0),(1,x1)]) (H:HoldG M w0 w l) {q1 q2:Option Addr} {n1 n2 c1 c2:Nat} (h0:a.eval x0=.slice q1 n1 c1) (h1:a.eval x1=.slice q2 n2 c2)
  (h:∀ b w',HoldG M w0 w' (l++[.blk b #[.slice q1 n1 c1,.slice q2 n2 c2] 27])→wpList Tryz.prog ops Q rest (a.put o.dst (.slice (some ⟨b,0,none⟩) 2 2)) w'):wpList Tryz.prog ops Q (o::rest) a w :=
 zAL hg _ _ _ ho H _ _ (fun W=>by simp only[List.map_toArray,List.map_cons,List.map_nil,h0,h1];exact zQ3 _ _ _ _ _ _ W) h
theorem zKT (pp:Option Addr) (cp:Nat) (ps:List InstD) (psl:Option Addr) (csl:Nat) (S:Str) (at_:Int) (Fp Fs:Nat→Prop) (w0:World) (hset:∀ x ∈ ps,zAW x.set) (hFp:∀ b,Fp b→b<w0.heap.size) (hFs:∀ b,Fs b→b<w0.heap.size) (hp:InstsR Fp pp cp ps w0) (hs:BytesR Fs psl csl S w0) (hrd:Rd w0 w0.heap.size (.slice psl S.length csl) (u8s (zEJ S))) :
  Calls Tryz.prog 3 #[.slice pp ps.length cp,.slice psl S.length csl,.int .i64 at_] w0 (Rt (.bool true) w0):=by
 have hb1:=hp.bound;have hb2:=hs.bound;have H:=Hold.insts2 hFp hFs hp hs;clear hp hs
 by_cases hn:300<ps.length
 ·have d3:decide ((300:Int)<(ps.length:Int))=true:=decide_eq_true (by omega)
  have d4:decide (300<ps.length)=true:=decide_eq_true hn;clear hn hset
  go_enter Tryz.func3,Tryz.ntmps3
  go_wp2_with (first|((with_reducible refine ch (zEl _) H ?_);clear H;intro w H)|fail)
  go_ret;exact⟨rfl,H.below⟩
 have d3:decide ((300:Int)<(ps.length:Int))=false:=decide_eq_false (by omega)
 have d4:decide (300<ps.length)=false:=decide_eq_false hn
 by_cases hm:200<S.length
 ·have d5:decide ((200:Int)<(S.length:Int))=true:=decide_eq_true (by omega)
  have d6:decide (200<S.length)=true:=decide_eq_true hm;clear hm hset hn
  go_enter Tryz.func3,Tryz.ntmps3
  go_wp2_with (first|((with_reducible refine ch (zEl _) H ?_);clear H;intro w H)|fail)
  go_ret;exact⟨rfl,H.below⟩
 have d5:decide ((200:Int)<(S.length:Int))=false:=decide_eq_false (by omega)
 have d6:decide (200<S.length)=false:=decide_eq_false hm;have hn2:ps.length≤1000:=by omega
 have hm2:S.length≤1000:=by omega
 have hm3:(zEJ S).length≤4194304:=by rw[zNk];omega
 have ht:=fun q c F w Q C G h1 h2 h3 h4=>zEc q c ps Q C S at_ F G w hset hm2 h1 h2 h3 h4
 have hv:=fun q c F w Q C G h1 h2 h3 h4=>zNo q c ps Q C S at_ F G w hset hm2 h1 h2 h3 h4
 have hli:=fun w h1 h2=>zIJ pp cp ps Fp w hn2 h1 h2
 have hki:=fun g cap w h1 h2 h3 h4=>zIV pp cp ps g cap Fp (·=g) w hn2 h1 h2 h3 h4
 clear hn hm;have hsl:=fun l=>@zKY ps S at_ l
 cases hres:runP ps S at_ with
 | none =>
  rw[hres]at hv;clear hres hsl
  go_enter Tryz.func3,Tryz.ntmps3
  go_wp2_with (first|(go_at_call 6;refine chLI (hli _ (H.knlt (i:=0) .zero) (H.kn (i:=0) .zero)) H ?_;clear H;intro g1 n1 w H;simp only[ca]at H)|(go_at_call 7;refine chLB (zFp _ (zEJ S) _ hm3 (hrd.grown H.below)) H ?_;clear H;intro g2 n2 w HQ H;simp only[ca]at H)|(go_at_call 8;refine zSb (hv _ _ _ _ _ _ _ (H.knlt (i:=2) i_2) (H.knlt (i:=3) i_3) (InstsR.pre (H.kn (i:=2) i_2)) (LentS.bytes (H.kn (i:=3) i_3) HQ.out.2.1 HQ.out.2.2)) H ?_;clear H;intro w H;simp only[ca]at H)|(go_at_call 9;refine ch (ht _ _ _ _ _ _ _ (H.knlt (i:=2) i_2) (H.knlt (i:=3) i_3) (InstsR.pre (H.kn (i:=2) i_2)) (LentS.bytes (H.kn (i:=3) i_3) HQ.out.2.1 HQ.out.2.2)) H ?_;clear H;intro w H)|(go_at_call 10;refine ch (hki _ _ _ (H.knlt (i:=0) .zero) (H.knlt (i:=2) i_2) (H.kn (i:=0) .zero) (H.kn (i:=2) i_2)) H ?_;clear H;intro w H)|(go_at_call 11;refine ch (zFZ _ _ (zEJ S) w0.heap.size _ hm3 (LentS.lent (H.kn (i:=3) i_3) HQ.out.2.1 HQ.out.2.2 HQ.out.1 ((H.knlt (i:=3) i_3) _ rfl)) (hrd.grown H.below)) H ?_;clear H;intro w H)|(go_at_call 12;refine(zQB H (i:=4) (j:=5) (k:=6) (by decide) i_4 i_5 i_6 (by decide)).mono ?_;intro e w' h;obtain⟨rfl,h⟩:=h;replace H:=Hold.afterMine H h (zN2 H i_4 i_5) (i:=0) (j:=1) .zero i_1 hFp hFs;clear h)|(go_at_call 9;refine ch (ht _ _ _ _ _ _ _ (H.knlt (i:=0) .zero) (H.knlt (i:=1) i_1) (H.kn (i:=0) .zero) (H.kn (i:=1) i_1)) H ?_;clear H;intro w H)|((with_reducible refine ch (zEl _) H ?_);clear H;intro w H)|((with_reducible show @wpList _ _ _ ({dst:=_,op:=Op.buildSlice _ 2 _,type:=_,pos:=_,after:=_,guard:=_}::_) _ _);refine zOD wtd_ rfl H evd_ evd_ ?_;clear H;intro bt w H;simp only[ca]at H)|fail)
  go_ret;exact⟨rfl,H.below⟩
 | some sl =>
  have HN:=Lib.hid (show sl.length≤4194304 from Nat.le_trans (hsl sl hres) (by decide))
  rw[hres]at hv;clear hres hsl
  go_enter Tryz.func3,Tryz.ntmps3
  go_wp2_with (first|(go_at_call 6;refine chLI (hli _ (H.knlt (i:=0) .zero) (H.kn (i:=0) .zero)) H ?_;clear H;intro g1 n1 w H;simp only[ca]at H)|(go_at_call 7;refine chLB (zFp _ (zEJ S) _ hm3 (hrd.grown H.below)) H ?_;clear H;intro g2 n2 w HQ H;simp only[ca]at H)|(go_at_call 8;refine chRO (hv _ _ _ _ _ _ _ (H.knlt (i:=2) i_2) (H.knlt (i:=3) i_3) (InstsR.pre (H.kn (i:=2) i_2)) (LentS.bytes (H.kn (i:=3) i_3) HQ.out.2.1 HQ.out.2.2)) H ?_;clear H;intro q3 n3 w H;simp only[ca]at H)|(go_at_call 9;refine ch (ht _ _ _ _ _ _ _ (H.knlt (i:=2) i_2) (H.knlt (i:=3) i_3) (InstsR.pre (H.kn (i:=2) i_2)) (LentS.bytes (H.kn (i:=3) i_3) HQ.out.2.1 HQ.out.2.2)) H ?_;clear H;intro w H)|(go_at_call 10;refine ch (hki _ _ _ (H.knlt (i:=0) .zero) (H.knlt (i:=2) i_2) (H.kn (i:=0) .zero) (H.kn (i:=2) i_2)) H ?_;clear H;intro w H)|(go_at_call 11;refine ch (zFZ _ _ (zEJ S) w0.heap.size _ hm3 (LentS.lent (H.kn (i:=3) i_3) HQ.out.2.1 HQ.out.2.2 HQ.out.1 ((H.knlt (i:=3) i_3) _ rfl)) (hrd.grown H.below)) H ?_;clear H;intro w H)|(go_at_call 12;refine(zQB H (i:=4) (j:=5) (k:=6) (by decide) i_4 i_5 i_6 HN.out).mono ?_;intro e w' h;obtain⟨rfl,h⟩:=h;replace H:=Hold.afterMine H h (zN2 H i_4 i_5) (i:=0) (j:=1) .zero i_1 hFp hFs;clear h)|(go_at_call 9;refine ch (ht _ _ _ _ _ _ _ (H.knlt (i:=0) .zero) (H.knlt (i:=1) i_1) (H.kn (i:=0) .zero) (H.kn (i:=1) i_1)) H ?_;clear H;intro w H)|((with_reducible refine ch (zEl _) H ?_);clear H;intro w H)|((with_reducible show @wpList _ _ _ ({dst:=_,op:=Op.buildSlice _ 2 _,type:=_,pos:=_,after:=_,guard:=_}::_) _ _);refine zOD wtd_ rfl H evd_ evd_ ?_;clear H;intro bt w H;simp only[ca]at H)|fail)
  go_ret;exact⟨rfl,H.below⟩
def IW (v:Value) (_:World):Prop:=∃ d:InstD,v=zAu d∧zAW d.set
def SW (base:Nat) (v:Value) (W:World):Prop:=∃ (q:Option Addr) (c:Nat) (ps:List InstD),v=.slice q ps.length c∧ps.length≤5∧(∀ x ∈ ps,zAW x.set)∧InstsR (fun b=>base≤b∧b<W.heap.size) q c ps W
def GW (base:Nat) (v:Value) (W:World):Prop:=∃ (g:Nat) (cs:Array Value),v=.slice (some ⟨g,0,none⟩) 13 13∧base≤g∧W.heap[g]?=some (.cells cs 22 (0,0))∧∀ k,k<13→∃ u,cs[k]?=some u∧SW base u W
theorem zNM:zDJ IW:=fun _ _ _ h _=>h
theorem SW.below {base:Nat} {v:Value} {w w':World} (h:SW base v w) (hb:Below w.heap.size w w'):SW base v w':=by
 obtain⟨q,c,ps,rfl,h5,hs,hi⟩:=h;exact⟨q,c,ps,rfl,h5,hs,RdN.mono (hi.kept fun b hF=>hb.block b hF.2) fun b hF=>⟨hF.1,Nat.lt_of_lt_of_le hF.2 hb.size⟩⟩
theorem zM6 (base:Nat):zDJ (SW base):=fun _ _ _ h hb=>h.below hb
theorem zNm (base:Nat):zDJ (GW base):=fun _ _ _ ⟨g,cs,e,h1,h2,h3⟩ hb=>⟨g,cs,e,h1,(hb.block g (Array.getElem?_eq_some_iff.1 h2).1).trans h2,fun k hk=>by
 obtain⟨u,hu,hs⟩:=h3 k hk
 exact⟨u,hu,hs.below hb⟩⟩
theorem zEO {V:World} {b:Nat} {cs:Array Value} {T:TypeId} {f:Nat × Nat} (h:V.heap[b]?=some (.cells cs T f)):∀ j,j<9→V.cell? ⟨b,0+j,none⟩=cs[j]?:=fun j _=>by
 rw[Nat.zero_add,cell_of_row V b _ cs T f h]
theorem zJK {V:World} {g:Nat} {cs:Array Value} {T:TypeId} {f:Nat × Nat} {ds:List InstD} (h:V.heap[g]?=some (.cells cs T f)) (hc:cs=(zAP (ds.map zAY)).toArray) (hn:ds.length≤1000):InstsR (·=g) (some ⟨g,0,none⟩) ds.length ds V:=by
 refine⟨_,ds.length,by rw[List.length_map],by simp,?_,(fun h=>by cases h),fun j r hr=>⟨g,0,rfl,rfl,zBX ds r (List.mem_of_getElem? hr),fun k hk=>?_⟩⟩
 ·unfold maxLen;omega
 ·rw[Nat.zero_add,cell_of_row V g _ cs T f h,hc,List.getElem?_toArray];exact zDI (zBX ds) hr hk
section
variable {ops:Array Oper} {o:Oper} {a:Act} {w:World} {base:Nat} {D:Prop}
theorem zCD {f:FuncId} {t:Tmp} {xs:Array Operand} {ts:Array TypeId} {vs:Array Value} {d:InstD} (hg:Region.wanted o (yielded ops a.tmps)=true)
  (hop:o.op=Op.call {callee:=Callee.value (Operand.tmp t),args:=xs,argTypes:=ts}) (hf:∀ args w,(callFunc f args).run Tryz.prog w=.ok (.enter f args) w) (ht:a.eval (.tmp t)=.func (.func f) #[] #[]) (hx:xs.map a.eval=vs)
  (hc:Calls Tryz.prog f vs w (Rt (zAu d) w)) (hs:zAW d.set) (hD:¬ D:=by decide):zA7 Tryz.prog ops o a w (fun v w'=>IW v w'∧(D→w.heap.size≤blk v)):=by
 refine zKs hg (f:=f) (args:=vs) ?_ (hc.mono fun _ _ ⟨he,hb⟩=>⟨_,he,hb,⟨d,rfl,hs⟩,fun h=>(hD h).elim⟩)
 simp only[execOp,hop];simp[resolve,ht,hx,Deferred.ofValue,invoke,hf]
theorem zCC {x:Operand} {b:Nat} {d:InstD} (hg:Region.wanted o (yielded ops a.tmps)=true) (hop:o.op=.load 43 x) (hx:a.eval x=.pointer (some ⟨b,0,none⟩)) (hv:∀ j,j<9→w.cell? ⟨b,0+j,none⟩=(zAY d)[j]?) (hs:zAW d.set) (hD:¬ D:=by decide) :
  zA7 Tryz.prog ops o a w (fun v w'=>IW v w'∧(D→w.heap.size≤blk v)) :=
 zBr hg (v:=zAu d) (w':=w) (zAb hop hx zAk rfl hv) (Below.refl _ w) ⟨⟨d,rfl,hs⟩,fun h=>(hD h).elim⟩
theorem zNc (hg:Region.wanted o (yielded ops a.tmps)=true) (hop:o.op=.build 43 #[]) (hD:¬ D:=by decide):zA7 Tryz.prog ops o a w (fun v w'=>IW v w'∧(D→w.heap.size≤blk v)):=by
 refine zBr hg (v:=zAu {kind:=0}) (w':=w) ?_ (Below.refl _ w) ⟨⟨_,rfl,zAa⟩,fun h=>(hD h).elim⟩
 simp only[execOp,hop,List.map_toArray,List.map_nil,Sem.run_bind,zQh];rfl
theorem zDx {n:Nat} {parts:Array (Nat × Operand)} {ds:List InstD} (hg:Region.wanted o (yielded ops a.tmps)=true) (hop:o.op=.buildSlice 22 n parts)
  (hr:∀ W:World,(Instr.buildSlice 22 n (parts.map fun (i,x)=>(i,a.eval x))).run Tryz.prog W=.ok (.slice (some ⟨W.heap.size,0,none⟩) ds.length ds.length) (W.alloc (.cells (zAP (ds.map zAY)).toArray 43))) (h5:ds.length≤5) (hs:∀ d ∈ ds,zAW d.set) (hb:base≤w.heap.size) (hD:¬ D) :
  zA7 Tryz.prog ops o a w (fun v w'=>SW base v w'∧(D→w.heap.size≤blk v)):=by
 refine zBr hg (v:=.slice (some ⟨w.heap.size,0,none⟩) ds.length ds.length) (w':=w.alloc (.cells (zAP (ds.map zAY)).toArray 43)) ?_ ((Below.refl _ w).alloc (Nat.le_refl _) _) ⟨⟨_,_,ds,rfl,h5,hs,RdN.mono (zJK (World.alloc_heap_new w _) rfl (by omega)) fun b e=>?_⟩,fun h=>(hD h).elim⟩
 ·unfold execOp;simp only[hop,Sem.run_bind,hr,Result.andThen_ok];rfl
 ·subst e;exact⟨hb,(Array.getElem?_eq_some_iff.1 (World.alloc_heap_new w _)).1⟩
theorem zL6 (W:World):(Instr.buildSlice 22 0 #[]).run Tryz.prog W=.ok (.slice (some ⟨W.heap.size,0,none⟩) 0 0) (W.alloc (.cells (zAP (([]:List InstD).map zAY)).toArray 43)):=by kernel_rfl
theorem zMm (hg:Region.wanted o (yielded ops a.tmps)=true) (hop:o.op=.buildSlice 22 0 #[]) (hb:base≤w.heap.size)  (hD:¬ D:=by decide):zA7 Tryz.prog ops o a w (fun v w'=>SW base v w'∧(D→w.heap.size≤blk v)):=by
 refine zDx (ds:=[]) hg hop (fun W=>by simp only[ml];exact zL6  W) (by simp) ?_ hb hD
 intro d hd;cases hd
theorem zMX (d0:InstD) (W:World):(Instr.buildSlice 22 1 #[(0,zAu d0)]).run Tryz.prog W=.ok (.slice (some ⟨W.heap.size,0,none⟩) 1 1) (W.alloc (.cells (zAP ([d0].map zAY)).toArray 43)):=by kernel_rfl
theorem zEq {x0:Operand} (hg:Region.wanted o (yielded ops a.tmps)=true) (hop:o.op=.buildSlice 22 1 #[(0,x0)]) (hb:base≤w.heap.size) (h0:IW (a.eval x0) w) (hD:¬ D:=by decide):zA7 Tryz.prog ops o a w (fun v w'=>SW base v w'∧(D→w.heap.size≤blk v)):=by
 obtain⟨d0,e0,s0⟩:=h0;refine zDx (ds:=[d0]) hg hop (fun W=>by simp only[List.map_toArray,List.map_cons,List.map_nil,e0];exact zMX d0 W) (by simp) ?_ hb hD
 intro d hd;simp only[List.mem_cons,List.not_mem_nil,or_false]at hd;subst hd;exact s0
theorem zMT (d0 d1:InstD) (W:World):(Instr.buildSlice 22 2 #[(0,zAu d0),(1,zAu d1)]).run Tryz.prog W=.ok (.slice (some ⟨W.heap.size,0,none⟩) 2 2) (W.alloc (.cells (zAP ([d0,d1].map zAY)).toArray 43)):=by kernel_rfl
theorem zFl {x0 x1:Operand} (hg:Region.wanted o (yielded ops a.tmps)=true) (hop:o.op=.buildSlice 22 2 #[(0,x0),(1,x1)]) (hb:base≤w.heap.size) (h0:IW (a.eval x0) w) (h1:IW (a.eval x1) w) (hD:¬ D:=by decide):zA7 Tryz.prog ops o a w (fun v w'=>SW base v w'∧(D→w.heap.size≤blk v)):=by
 obtain⟨d0,e0,s0⟩:=h0;obtain⟨d1,e1,s1⟩:=h1;refine zDx (ds:=[d0,d1]) hg hop (fun W=>by simp only[List.map_toArray,List.map_cons,List.map_nil,e0,e1];exact zMT d0 d1 W) (by simp) ?_ hb hD
 intro d hd;simp only[List.mem_cons,List.not_mem_nil,or_false]at hd;rcases hd with rfl|rfl<;>assumption
theorem zMV (d0 d1 d2:InstD) (W:World):(Instr.buildSlice 22 3 #[(0,zAu d0),(1,zAu d1),(2,zAu d2)]).run Tryz.prog W=.ok (.slice (some ⟨W.heap.size,0,none⟩) 3 3) (W.alloc (.cells (zAP ([d0,d1,d2].map zAY)).toArray 43)):=by kernel_rfl
theorem zNN {x0 x1 x2:Operand} (hg:Region.wanted o (yielded ops a.tmps)=true) (hop:o.op=.buildSlice 22 3 #[(0,x0),(1,x1),(2,x2)]) (hb:base≤w.heap.size) (h0:IW (a.eval x0) w) (h1:IW (a.eval x1) w) (h2:IW (a.eval x2) w) (hD:¬ D:=by decide):zA7 Tryz.prog ops o a w (fun v w'=>SW base v w'∧(D→w.heap.size≤blk v)):=by
 obtain⟨d0,e0,s0⟩:=h0;obtain⟨d1,e1,s1⟩:=h1;obtain⟨d2,e2,s2⟩:=h2;refine zDx (ds:=[d0,d1,d2]) hg hop (fun W=>by simp only[List.map_toArray,List.map_cons,List.map_nil,e0,e1,e2];exact zMV d0 d1 d2 W) (by simp) ?_ hb hD
 intro d hd;simp only[List.mem_cons,List.not_mem_nil,or_false]at hd;rcases hd with rfl|rfl|rfl<;>assumption
theorem zME (d0 d1 d2 d3:InstD) (W:World):(Instr.buildSlice 22 4 #[(0,zAu d0),(1,zAu d1),(2,zAu d2),(3,zAu d3)]).run Tryz.prog W=.ok (.slice (some ⟨W.heap.size,0,none⟩) 4 4) (W.alloc (.cells (zAP ([d0,d1,d2,d3].map zAY)).toArray 43)):=by kernel_rfl
theorem zNa {x0 x1 x2 x3:Operand} (hg:Region.wanted o (yielded ops a.tmps)=true) (hop:o.op=.buildSlice 22 4 #[(0,x0),(1,x1),(2,x2),(3,x3)]) (hb:base≤w.heap.size) (h0:IW (a.eval x0) w) (h1:IW (a.eval x1) w) (h2:IW (a.eval x2) w) (h3:IW (a.eval x3) w) (hD:¬ D:=by decide):zA7 Tryz.prog ops o a w (fun v w'=>SW base v w'∧(D→w.heap.size≤blk v)):=by
 obtain⟨d0,e0,s0⟩:=h0;obtain⟨d1,e1,s1⟩:=h1;obtain⟨d2,e2,s2⟩:=h2;obtain⟨d3,e3,s3⟩:=h3;refine zDx (ds:=[d0,d1,d2,d3]) hg hop (fun W=>by simp only[List.map_toArray,List.map_cons,List.map_nil,e0,e1,e2,e3];exact zME d0 d1 d2 d3 W) (by simp) ?_ hb hD
 intro d hd;simp only[List.mem_cons,List.not_mem_nil,or_false]at hd;rcases hd with rfl|rfl|rfl|rfl<;>assumption
theorem zLr (d0 d1 d2 d3 d4:InstD) (W:World):(Instr.buildSlice 22 5 #[(0,zAu d0),(1,zAu d1),(2,zAu d2),(3,zAu d3),(4,zAu d4)]).run Tryz.prog W=.ok (.slice (some ⟨W.heap.size,0,none⟩) 5 5) (W.alloc (.cells (zAP ([d0,d1,d2,d3,d4].map zAY)).toArray 43)):=by kernel_rfl
theorem zON {x0 x1 x2 x3 x4:Operand} (hg:Region.wanted o (yielded ops a.tmps)=true) (hop:o.op=.buildSlice 22 5 #[(0,x0),(1,x1),(2,x2),(3,x3),(4,x4)]) (hb:base≤w.heap.size) (h0:IW (a.eval x0) w) (h1:IW (a.eval x1) w) (h2:IW (a.eval x2) w) (h3:IW (a.eval x3) w) (h4:IW (a.eval x4) w) (hD:¬ D:=by decide):zA7 Tryz.prog ops o a w (fun v w'=>SW base v w'∧(D→w.heap.size≤blk v)):=by
 obtain⟨d0,e0,s0⟩:=h0;obtain⟨d1,e1,s1⟩:=h1;obtain⟨d2,e2,s2⟩:=h2;obtain⟨d3,e3,s3⟩:=h3;obtain⟨d4,e4,s4⟩:=h4;refine zDx (ds:=[d0,d1,d2,d3,d4]) hg hop (fun W=>by simp only[List.map_toArray,List.map_cons,List.map_nil,e0,e1,e2,e3,e4];exact zLr d0 d1 d2 d3 d4 W) (by simp) ?_ hb hD
 intro d hd;simp only[List.mem_cons,List.not_mem_nil,or_false]at hd;rcases hd with rfl|rfl|rfl|rfl|rfl<;>assumption
theorem zJI (u0 u1 u2 u3 u4 u5 u6 u7 u8 u9 u10 u11 u12:Value) (W:World) (h:∀ u ∈ [u0,u1,u2,u3,u4,u5,u6,u7,u8,u9,u10,u11,u12],∃ q n c,u=.slice q n c):(Instr.buildSlice 45 13 #[(0,u0),(1,u1),(2,u2),(3,u3),(4,u4),(5,u5),(6,u6),(7,u7),(8,u8),(9,u9),(10,u10),(11,u11),(12,u12)]).run Tryz.prog W=.ok (.slice (some ⟨W.heap.size,0,none⟩) 13 13) (W.alloc (.cells #[u0,u1,u2,u3,u4,u5,u6,u7,u8,u9,u10,u11,u12] 22)):=by
 obtain⟨q0,n0,c0,rfl⟩:=h u0 (by simp)
 obtain⟨q1,n1,c1,rfl⟩:=h u1 (by simp)
 obtain⟨q2,n2,c2,rfl⟩:=h u2 (by simp)
 obtain⟨q3,n3,c3,rfl⟩:=h u3 (by simp)
 obtain⟨q4,n4,c4,rfl⟩:=h u4 (by simp)
 obtain⟨q5,n5,c5,rfl⟩:=h u5 (by simp)
 obtain⟨q6,n6,c6,rfl⟩:=h u6 (by simp)
 obtain⟨q7,n7,c7,rfl⟩:=h u7 (by simp)
 obtain⟨q8,n8,c8,rfl⟩:=h u8 (by simp)
 obtain⟨q9,n9,c9,rfl⟩:=h u9 (by simp)
 obtain⟨q10,n10,c10,rfl⟩:=h u10 (by simp)
 obtain⟨q11,n11,c11,rfl⟩:=h u11 (by simp)
 obtain⟨q12,n12,c12,rfl⟩:=h u12 (by simp)
 kernel_rfl
theorem zPi {x0 x1 x2 x3 x4 x5 x6 x7 x8 x9 x10 x11 x12:Operand} (hg:Region.wanted o (yielded ops a.tmps)=true) (hop:o.op=.buildSlice 45 13 #[(0,x0),(1,x1),(2,x2),(3,x3),(4,x4),(5,x5),(6,x6),(7,x7),(8,x8),(9,x9),(10,x10),(11,x11),(12,x12)]) (hb:base≤w.heap.size) (h0:SW base (a.eval x0) w) (h1:SW base (a.eval x1) w) (h2:SW base (a.eval x2) w) (h3:SW base (a.eval x3) w) (h4:SW base (a.eval x4) w) (h5:SW base (a.eval x5) w) (h6:SW base (a.eval x6) w) (h7:SW base (a.eval x7) w) (h8:SW base (a.eval x8) w) (h9:SW base (a.eval x9) w) (h10:SW base (a.eval x10) w) (h11:SW base (a.eval x11) w) (h12:SW base (a.eval x12) w) (hD:¬ D:=by decide):zA7 Tryz.prog ops o a w (fun v w'=>GW base v w'∧(D→w.heap.size≤blk v)):=by
 have hw:Below w.heap.size w (w.alloc (.cells #[a.eval x0,a.eval x1,a.eval x2,a.eval x3,a.eval x4,a.eval x5,a.eval x6,a.eval x7,a.eval x8,a.eval x9,a.eval x10,a.eval x11,a.eval x12] 22)):=(Below.refl _ w).alloc (Nat.le_refl _) _;refine zBr hg (v:=.slice (some ⟨w.heap.size,0,none⟩) 13 13) (w':=w.alloc (.cells #[a.eval x0,a.eval x1,a.eval x2,a.eval x3,a.eval x4,a.eval x5,a.eval x6,a.eval x7,a.eval x8,a.eval x9,a.eval x10,a.eval x11,a.eval x12] 22)) ?_ hw ⟨⟨_,_,rfl,hb,World.alloc_heap_new w _,fun k hk=>?_⟩,fun h=>(hD h).elim⟩
 ·unfold execOp;simp only[hop,List.map_toArray,List.map_cons,List.map_nil,Sem.run_bind];rw[zJI _ _ _ _ _ _ _ _ _ _ _ _ _ w (fun u hu=>?_)]
  ·rfl
  ·simp only[List.mem_cons,List.not_mem_nil,or_false]at hu;have key:SW base u w:=by rcases hu with rfl|rfl|rfl|rfl|rfl|rfl|rfl|rfl|rfl|rfl|rfl|rfl|rfl<;>assumption
   obtain⟨q,c,ps,e,_⟩:=key;exact⟨q,_,c,e⟩
 ·match k,hk with
  | 0,_=>exact⟨_,rfl,h0.below hw⟩
  | 1,_=>exact⟨_,rfl,h1.below hw⟩
  | 2,_=>exact⟨_,rfl,h2.below hw⟩
  | 3,_=>exact⟨_,rfl,h3.below hw⟩
  | 4,_=>exact⟨_,rfl,h4.below hw⟩
  | 5,_=>exact⟨_,rfl,h5.below hw⟩
  | 6,_=>exact⟨_,rfl,h6.below hw⟩
  | 7,_=>exact⟨_,rfl,h7.below hw⟩
  | 8,_=>exact⟨_,rfl,h8.below hw⟩
  | 9,_=>exact⟨_,rfl,h9.below hw⟩
  | 10,_=>exact⟨_,rfl,h10.below hw⟩
  | 11,_=>exact⟨_,rfl,h11.below hw⟩
  | 12,_=>exact⟨_,rfl,h12.below hw⟩
end
theorem zIX {P:Program} {o:Oper} {a:Act} {w:World} {x y:Operand} {T e:TypeId} {g n c i:Nat} {k:IntKind} (hu:P.underlying T=some (.slice e)) (hs:∀ w,(sizeOf e).run P w=.ok 1 w)
  (hop:o.op=Op.indexAddr T x y) (hx:a.eval x=.slice (some ⟨g,0,none⟩) n c) (hy:a.eval y=.int k (i:Int)) (hi:i<n):(execOp a.eval o).run P w=.ok (.value (.pointer (some ⟨g,i,none⟩))) w:=by
 simp only[execOp,hop,hx,hy];simp[Instr.indexAt,asIntOf,go_sem,run_underlying hu,hs];intro hc;omega
theorem HoldG.rowBytes {M:Nat→Prop} {w0 w:World} {l:List Res} (H:HoldG M w0 w l) {i cap:Nat} {q:Option Addr} {L:Str} (hi:At l i (.row (.slice q L.length cap) 5 1 L.length (L.map fun b=>.int .u8 b.toNat))) :
  ∃ F:Nat→Prop,(∀ b,F b→b<w.heap.size)∧BytesR F q cap L w:=by
 have ho:=H.all i _ hi.get;have e:(L.map fun b=>Value.int .u8 b.toNat)=zAP (L.map fun b=>#[Value.int .u8 b.toNat]):=by
  rw[show (L.map fun b=>#[Value.int .u8 b.toNat])=(L.map fun b=>Value.int .u8 b.toNat).map (fun v=>#[v]) by rw[List.map_map];rfl,zDc]
 refine⟨fun b=>(Value.slice q L.length cap).ownBlock=some b,fun b hb=>(ho.lt b hb).2,?_⟩
 unfold Res.Holds at ho;rw[e]at ho;exact RdN.of_own ho (fun r hr=>by obtain⟨v,_,rfl⟩:=List.mem_map.1 hr;rfl) (by rw[List.length_map]) (fun _ _=>rfl)
def vmTexts:List Str:=[[],[97],[97,124,97,98],[97,98,124,97],[40,97,124,97,98,41,40,99,124,98,99,100,41,42],[40,97,42,41,42],[40,97,42,41,43,63],[40,97,124,98,41,42,63,98],[40,63,58,40,97,41,124,98,41,42],[40,97,63,41,42,63,98],[40,40,97,41,124,40,98,41,41,42,99],[40,124,97,41,42],[40,124,97,41,43,98],[40,97,42,41,40,97,42,41],[40,97,42,63,41,40,97,42,41],[40,97,43,41,40,98,43,41,63,99],[94,97],[97,36],[40,63,109,41,94,98],[40,63,109,41,97,36],[92,98],[40,92,66,41,97],[40,63,58,40,97,41,124,40,98,41,124,40,10,41,41,43],[40,97,123,48,44,50,125,41,123,50,125],[40,63,58,97,124,97,98,124,97,98,99,41,123,50,125],[91,94,92,120,48,48,45,92,120,102,102,93,124,40,97,41],[40,63,58,40,63,58,41,42,41,42,97]]
def texC:Array Value:=(vmTexts.map fun s=>Value.string ⟨s.toArray⟩).toArray
theorem zSD {i:Nat} (h:i<27):∃ L:Str,texC[i]?=some (.string ⟨L.toArray⟩):=by
 refine⟨vmTexts[i]'h,?_⟩
 unfold texC;rw[List.getElem?_toArray,List.getElem?_map,List.getElem?_eq_getElem h];rfl
def zLe (g:Nat) (F:Nat→Prop) (V:World):Prop:=∀ k,k<13→∃ (q:Option Addr) (c:Nat) (ps:List InstD),V.cell? ⟨g,k,none⟩=some (.slice q ps.length c)∧ps.length≤5∧(∀ x ∈ ps,zAW x.set)∧InstsR F q c ps V
theorem GW.progs {base:Nat} {v:Value} {W:World} (h:GW base v W):∃ g,v=.slice (some ⟨g,0,none⟩) 13 13∧∀ V:World,(∀ b,base≤b∧b<W.heap.size→V.heap[b]?=W.heap[b]?)→zLe g (fun b=>base≤b∧b<W.heap.size) V:=by
 obtain⟨g,cs,rfl,hb,hc,hk⟩:=h;refine⟨g,rfl,fun V hV k hk'=>?_⟩
 obtain⟨u,hu,q,c,ps,rfl,h5,hs,hi⟩:=hk k hk';refine⟨q,c,ps,?_,h5,hs,hi.kept hV⟩;rw[cell_of_row V g k cs _ _ ((hV g ⟨hb,(Array.getElem?_eq_some_iff.1 hc).1⟩).trans hc)];exact hu
theorem BytesR.rdN {F:Nat→Prop} {q:Option Addr} {c:Nat} {L:Str} {V:World} (h:BytesR F q c L V) (hF:∀ b,F b→b<V.heap.size) (h0:0<L.length):Rd V V.heap.size (.slice q L.length c) (u8s (zEJ L)):=by
 rw[zLf];obtain⟨p,cap,e,h1,h2,_,h3⟩:=h;simp only[Value.slice.injEq]at e;obtain⟨rfl,_,rfl⟩:=e;obtain⟨b,off,rfl,hb,_⟩:=h3 0 #[.int .u8 L[0].toNat] (by rw[List.getElem?_map,List.getElem?_eq_getElem h0];rfl)
 refine .inr ⟨b,off,c,by simp,hF b hb,by simpa using h1,h2,fun j hj=>?_⟩
 simp only[List.length_map]at hj;obtain⟨b',off',e',_,_,h4⟩:=h3 j #[.int .u8 L[j].toNat] (by rw[List.getElem?_map,List.getElem?_eq_getElem hj];rfl)
 simp only[Option.some.injEq,Addr.mk.injEq]at e';obtain⟨rfl,rfl,_⟩:=e';have:=h4 0 (by decide)
 rw[Nat.mul_one,Nat.add_zero]at this;rw[this];simp
end
end Go.Proofs.YtdoflhjhaciepaaGreat
