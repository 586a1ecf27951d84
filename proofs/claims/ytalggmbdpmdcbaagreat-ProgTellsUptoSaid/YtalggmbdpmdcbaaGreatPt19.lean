/-
  Laws of walks, and walks.
-/
import Derived.Test.YtalggmbdpmdcbaaGreatPt16
import Derived.Test.YtalggmbdpmdcbaaGreatPt18
import Derived.Test.YtalggmbdpmdcbaaGreatPt8
set_option linter.unusedVariables false
set_option linter.unusedSimpArgs false
set_option maxRecDepth 100000
set_option maxHeartbeats 16000000
namespace Go.Proofs.YtalggmbdpmdcbaaGreat
section
open Go.RowKit Go.Shelf
attribute [local go_sem] Oper.semAt_some
abbrev zBs (f:FuncId):Prop:=∀ w,Calls Tryz.prog f #[.slice none 0 0] w fun e w'=>e=.returned (.bool true)/\Below w.heap.size w w'
abbrev zBl (T E:TypeId):Prop:=∀ w,(Instr.makeSlice T (.int .i64 0) (.int .i64 0)).run Tryz.prog w=.ok (.slice (some ⟨w.heap.size,0,none⟩) 0 0) (w.alloc (.cells #[] E))
theorem zMU {T E:TypeId} (_:Hid (zBl T E)) {w wr:World} (B:Hid (Below w.heap.size w wr)):Hid (Below w.heap.size w (wr.alloc (.cells #[] E))):=Lib.hid (B.out.alloc B.out.size _)
theorem zBC:zBs 66/\zBs 67/\zBs 69/\zBs 70/\zBs 71/\zBs 72/\zBs 73/\zBs 68/\zBs 75/\zBs 76/\zBs 77/\zBs 78/\zBs 79/\zBs 80/\zBs 81/\zBs 82/\zBs 83/\zBs 84/\zBs 85/\zBs 86:=by
 refine⟨?fLimbs,?fWords,?fLongs,?fTexts,?fBytes,?fTruths,?fNodes,?fInts,?fQueries,?fFiles,?fDocs,?fPlaces,?fPostings,?fShardRefs,?fManifests,?fAsks,?fHits,?fAnswers,?fParts,?fChanges⟩<;>intro w
 case' fLimbs=>(have E:zBl 66 192:=fun _=>by kernel_rfl);have HMK:=Lib.hid E;clear E;go_enter Tryz.func66,Tryz.ntmps66
 case' fWords=>(have E:zBl 67 193:=fun _=>by kernel_rfl);have HMK:=Lib.hid E;clear E;go_enter Tryz.func67,Tryz.ntmps67
 case' fLongs=>(have E:zBl 69 194:=fun _=>by kernel_rfl);have HMK:=Lib.hid E;clear E;go_enter Tryz.func69,Tryz.ntmps69
 case' fTexts=>(have E:zBl 70 49:=fun _=>by kernel_rfl);have HMK:=Lib.hid E;clear E;go_enter Tryz.func70,Tryz.ntmps70
 case' fBytes=>(have E:zBl 71 110:=fun _=>by kernel_rfl);have HMK:=Lib.hid E;clear E;go_enter Tryz.func71,Tryz.ntmps71
 case' fTruths=>(have E:zBl 72 197:=fun _=>by kernel_rfl);have HMK:=Lib.hid E;clear E;go_enter Tryz.func72,Tryz.ntmps72
 case' fNodes=>(have E:zBl 73 26:=fun _=>by kernel_rfl);have HMK:=Lib.hid E;clear E;go_enter Tryz.func73,Tryz.ntmps73
 case' fInts=>(have E:zBl 68 44:=fun _=>by kernel_rfl);have HMK:=Lib.hid E;clear E;go_enter Tryz.func68,Tryz.ntmps68
 case' fQueries=>(have E:zBl 74 199:=fun _=>by kernel_rfl);have HMK:=Lib.hid E;clear E;go_enter Tryz.func75,Tryz.ntmps75
 case' fFiles=>(have E:zBl 75 205:=fun _=>by kernel_rfl);have HMK:=Lib.hid E;clear E;go_enter Tryz.func76,Tryz.ntmps76
 case' fDocs=>(have E:zBl 76 210:=fun _=>by kernel_rfl);have HMK:=Lib.hid E;clear E;go_enter Tryz.func77,Tryz.ntmps77
 case' fPlaces=>(have E:zBl 77 214:=fun _=>by kernel_rfl);have HMK:=Lib.hid E;clear E;go_enter Tryz.func78,Tryz.ntmps78
 case' fPostings=>(have E:zBl 78 218:=fun _=>by kernel_rfl);have HMK:=Lib.hid E;clear E;go_enter Tryz.func79,Tryz.ntmps79
 case' fShardRefs=>(have E:zBl 79 223:=fun _=>by kernel_rfl);have HMK:=Lib.hid E;clear E;go_enter Tryz.func80,Tryz.ntmps80
 case' fManifests=>(have E:zBl 80 228:=fun _=>by kernel_rfl);have HMK:=Lib.hid E;clear E;go_enter Tryz.func81,Tryz.ntmps81
 case' fAsks=>(have E:zBl 81 233:=fun _=>by kernel_rfl);have HMK:=Lib.hid E;clear E;go_enter Tryz.func82,Tryz.ntmps82
 case' fHits=>(have E:zBl 82 238:=fun _=>by kernel_rfl);have HMK:=Lib.hid E;clear E;go_enter Tryz.func83,Tryz.ntmps83
 case' fAnswers=>(have E:zBl 83 242:=fun _=>by kernel_rfl);have HMK:=Lib.hid E;clear E;go_enter Tryz.func84,Tryz.ntmps84
 case' fParts=>(have E:zBl 84 247:=fun _=>by kernel_rfl);have HMK:=Lib.hid E;clear E;go_enter Tryz.func85,Tryz.ntmps85
 case' fChanges=>(have E:zBl 85 252:=fun _=>by kernel_rfl);have HMK:=Lib.hid E;clear E;go_enter Tryz.func86,Tryz.ntmps86
 all_goals
  go_wp2_with fail
  go_loopw [3] (fun i wr=>i=.int .i64 0/\Hid (Below w.heap.size w wr)) (fun _ _=>0)
  case atStart=>exact⟨rfl,Below.refl _ _⟩
  case round =>
   obtain⟨rfl,B⟩:=hrel;have hmk:=HMK.out
   go_wp2_with fail
   have B1:=zMU HMK B;clear B hmk
   go_loopw [6] (fun i wr=>i=.int .i64 0/\Hid (Below w.heap.size w wr)) (fun _ _=>0)
   case atStart=>exact⟨rfl,B1.out⟩
   case round =>
    clear B1;obtain⟨rfl,B⟩:=hrel
    go_wp2_with fail
    have B2:=B;clear B
    go_loopw [9] (fun i wr=>i=.int .i64 0/\Hid (Below w.heap.size w wr)) (fun _ _=>0)
    case atStart=>exact⟨rfl,B2.out⟩
    case round =>
     clear B2;obtain⟨rfl,B⟩:=hrel
     go_wp2_with fail
     have B3:=B;clear B
     go_loopw [11] (fun i wr=>i=.int .i64 0/\Hid (Below w.heap.size w wr)) (fun _ _=>0)
     case atStart=>exact⟨rfl,B3.out⟩
     case round =>
      clear B3;obtain⟨rfl,B⟩:=hrel
      go_wp2_with fail
      have B4:=B;clear B
      go_loopw [14] (fun i wr=>i=.int .i64 0/\Hid (Below w.heap.size w wr)) (fun _ _=>0)
      case atStart=>exact⟨rfl,B4.out⟩
      case round =>
       clear B4;obtain⟨rfl,B⟩:=hrel
       go_wp2
       go_ret;exact⟨rfl,B.out⟩
theorem zF3:zBs 66:=zBC.1
theorem zFv:zBs 67:=zBC.2.1
theorem zFr:zBs 69:=zBC.2.2.1
theorem zF0:zBs 70:=zBC.2.2.2.1
theorem zFs:zBs 71:=zBC.2.2.2.2.1
theorem zFi:zBs 72:=zBC.2.2.2.2.2.1
theorem zF4:zBs 73:=zBC.2.2.2.2.2.2.1
theorem zGe:zBs 68:=zBC.2.2.2.2.2.2.2.1
theorem zFG:zBs 75:=zBC.2.2.2.2.2.2.2.2.1
theorem zF6:zBs 76:=zBC.2.2.2.2.2.2.2.2.2.1
theorem zGf:zBs 77:=zBC.2.2.2.2.2.2.2.2.2.2.1
theorem zFg:zBs 78:=zBC.2.2.2.2.2.2.2.2.2.2.2.1
theorem zEt:zBs 79:=zBC.2.2.2.2.2.2.2.2.2.2.2.2.1
theorem zEc:zBs 80:=zBC.2.2.2.2.2.2.2.2.2.2.2.2.2.1
theorem zEU:zBs 81:=zBC.2.2.2.2.2.2.2.2.2.2.2.2.2.2.1
theorem zGa:zBs 82:=zBC.2.2.2.2.2.2.2.2.2.2.2.2.2.2.2.1
theorem zGX:zBs 83:=zBC.2.2.2.2.2.2.2.2.2.2.2.2.2.2.2.2.1
theorem zFH:zBs 84:=zBC.2.2.2.2.2.2.2.2.2.2.2.2.2.2.2.2.2.1
theorem zFm:zBs 85:=zBC.2.2.2.2.2.2.2.2.2.2.2.2.2.2.2.2.2.2.1
theorem zFC:zBs 86:=zBC.2.2.2.2.2.2.2.2.2.2.2.2.2.2.2.2.2.2.2
def zHd (base:Nat) (lsv:Value) (K:Nat) (V:Nat->Value) (N:Nat->Nat) (w:World):Prop:=∃ X,w.ownsRow base 32 1 lsv K (rowV V K)/\Fam 47 9 base w K V V N N X X
def RelA (base:Nat) (lsv:Value) (K:Nat) (V:Nat->Value) (N:Nat->Nat) (B0:Nat) (u v:World):Prop:=KeepBut (Mine K V) B0 u v/\(zHd base lsv K V N u->zHd base lsv K V N v)
section
variable {base:Nat} {lsv:Value} {K:Nat} {V:Nat->Value} {N:Nat->Nat} {B0:Nat}
theorem RelA.refl (w:World):RelA base lsv K V N B0 w w:=⟨KeepBut.refl _ _ _,id⟩
theorem RelA.trans (u v w:World) (h1:RelA base lsv K V N B0 u v) (h2:RelA base lsv K V N B0 v w):RelA base lsv K V N B0 u w:=⟨h1.1.trans h2.1,fun h=>h2.2 (h1.2 h)⟩
theorem RelA.size {w W:World} (h:RelA base lsv K V N w.heap.size w W):w.heap.size<=W.heap.size:=h.1.size
theorem RelA.rows {w W:World} (h:RelA base lsv K V N B0 w W) (h2:zHd base lsv K V N w):zHd base lsv K V N W:=h.2 h2
theorem KeepBut.cellOf {M:Nat->Prop} {B b o:Nat} {u v:World} (h:KeepBut M B u v) (hb:b<B) (hM:¬ M b):v.cell? ⟨b,o,none⟩=u.cell? ⟨b,o,none⟩:=World.cell?_of_block (h.old b hb hM)
theorem RelA.nil {f:FuncId} {args:Array Value} {W:World} (hs:B0<=W.heap.size) (h:Calls Tryz.prog f args W fun e w'=>e=.returned (.bool true)/\Below W.heap.size W w') :
  Calls Tryz.prog f args W fun e w'=>e=.returned (.bool true)/\RelA base lsv K V N B0 W w' :=
 h.mono fun _ _ ⟨he,hb⟩=>⟨he,KeepBut.of_below (hb.mono hs),fun ⟨X,h1,h2⟩=>⟨X,zCD h1 hb,h2.below hb⟩⟩
theorem RelA.insts {W:World} (hK:K<=1000) (hN:∀ j,j<K->N j<=4194304) (hr:zHd base lsv K V N W) (hs:B0<=W.heap.size) (hbase:base<=B0) :
  Calls Tryz.prog 74 #[lsv] W fun e w'=>e=.returned (.bool true)/\RelA base lsv K V N B0 W w':=by
 obtain⟨X,h1,h2⟩:=hr;refine(zIs lsv K base V N X W hK hN ⟨h1,h2,KeepBut.refl _ _ _,Nat.le_trans hbase hs⟩).mono fun e w' ⟨he,X',hf⟩=>⟨he,hf.below.mono hs (fun _ _ h=>h),fun _=>⟨X',hf.ls,hf.fam⟩⟩
end
def bagV (lsv:Value) (k:Nat):Value:=if k=8 then lsv else .slice none 0 0
theorem zON (lsv:Value) (K base B:Nat) (V:Nat->Value) (N:Nat->Nat) (w:World) (hK:K<=1000) (hN:∀ j,j<K->N j<=4194304) (hrows:zHd base lsv K V N w) (hbase:base<=w.heap.size)
  (hB:B<w.heap.size) (hBM:¬ Mine K V B) (hbag:∀ k,k<21->w.cell? ⟨B,k,none⟩=some (bagV lsv k)) (hlsv:∃ p n c,lsv=.slice p n c) :
  Calls Tryz.prog 33 #[.pointer (some ⟨B,0,none⟩)] w fun e w'=>e=.returned (.bool true)/\RelA base lsv K V N w.heap.size w w':=by
 obtain⟨pl,nl,cl,rfl⟩:=hlsv;have HBAG:=Lib.hid hbag
 go_enter Tryz.func33,Tryz.ntmps33
 go_upto_region 1 with fail
 have hrefl:∀ W,(RelA base (.slice pl nl cl) K V N w.heap.size) W W:=(RelA.refl);refine zHl (RelA base (.slice pl nl cl) K V N w.heap.size) (RelA.refl) (RelA.trans) 145 [fun v _=>v=pt B 0,fun v _=>v=pt B 0,fun v _=>v=pt B 0,fun v _=>v=.slice none 0 0,fun v _=>v=.bool true,fun v _=>v=.bool true,fun v _=>v=pt B 0,fun v _=>v=pt B 0,fun v _=>v=pt B 1,fun v _=>v=.slice none 0 0,fun v _=>v=.bool true,fun v _=>v=.bool true,fun v _=>v=.bool true,fun v _=>v=pt B 0,fun v _=>v=pt B 0,fun v _=>v=pt B 2,fun v _=>v=.slice none 0 0,fun v _=>v=.bool true,fun v _=>v=.bool true,fun v _=>v=.bool true,fun v _=>v=pt B 0,fun v _=>v=pt B 0,fun v _=>v=pt B 3,fun v _=>v=.slice none 0 0,fun v _=>v=.bool true,fun v _=>v=.bool true,fun v _=>v=.bool true,fun v _=>v=pt B 0,fun v _=>v=pt B 0,fun v _=>v=pt B 4,fun v _=>v=.slice none 0 0,fun v _=>v=.bool true,fun v _=>v=.bool true,fun v _=>v=.bool true,fun v _=>v=pt B 0,fun v _=>v=pt B 0,fun v _=>v=pt B 5,fun v _=>v=.slice none 0 0,fun v _=>v=.bool true,fun v _=>v=.bool true,fun v _=>v=.bool true,fun v _=>v=pt B 0,fun v _=>v=pt B 0,fun v _=>v=pt B 6,fun v _=>v=.slice none 0 0,fun v _=>v=.bool true,fun v _=>v=.bool true,fun v _=>v=.bool true,fun v _=>v=pt B 0,fun v _=>v=pt B 0,fun v _=>v=pt B 7,fun v _=>v=.slice none 0 0,fun v _=>v=.bool true,fun v _=>v=.bool true,fun v _=>v=.bool true,fun v _=>v=pt B 0,fun v _=>v=pt B 0,fun v _=>v=pt B 8,fun v _=>v=(.slice pl nl cl),fun v _=>v=.bool true,fun v _=>v=.bool true,fun v _=>v=.bool true,fun v _=>v=pt B 0,fun v _=>v=pt B 0,fun v _=>v=pt B 9,fun v _=>v=.slice none 0 0,fun v _=>v=.bool true,fun v _=>v=.bool true,fun v _=>v=.bool true,fun v _=>v=pt B 0,fun v _=>v=pt B 0,fun v _=>v=pt B 10,fun v _=>v=.slice none 0 0,fun v _=>v=.bool true,fun v _=>v=.bool true,fun v _=>v=.bool true,fun v _=>v=pt B 0,fun v _=>v=pt B 0,fun v _=>v=pt B 11,fun v _=>v=.slice none 0 0,fun v _=>v=.bool true,fun v _=>v=.bool true,fun v _=>v=.bool true,fun v _=>v=pt B 0,fun v _=>v=pt B 0,fun v _=>v=pt B 12,fun v _=>v=.slice none 0 0,fun v _=>v=.bool true,fun v _=>v=.bool true,fun v _=>v=.bool true,fun v _=>v=pt B 0,fun v _=>v=pt B 0,fun v _=>v=pt B 13,fun v _=>v=.slice none 0 0,fun v _=>v=.bool true,fun v _=>v=.bool true,fun v _=>v=.bool true,fun v _=>v=pt B 0,fun v _=>v=pt B 0,fun v _=>v=pt B 14,fun v _=>v=.slice none 0 0,fun v _=>v=.bool true,fun v _=>v=.bool true,fun v _=>v=.bool true,fun v _=>v=pt B 0,fun v _=>v=pt B 0,fun v _=>v=pt B 15,fun v _=>v=.slice none 0 0,fun v _=>v=.bool true,fun v _=>v=.bool true,fun v _=>v=.bool true,fun v _=>v=pt B 0,fun v _=>v=pt B 0,fun v _=>v=pt B 16,fun v _=>v=.slice none 0 0,fun v _=>v=.bool true,fun v _=>v=.bool true,fun v _=>v=.bool true,fun v _=>v=pt B 0,fun v _=>v=pt B 0,fun v _=>v=pt B 17,fun v _=>v=.slice none 0 0,fun v _=>v=.bool true,fun v _=>v=.bool true,fun v _=>v=.bool true,fun v _=>v=pt B 0,fun v _=>v=pt B 0,fun v _=>v=pt B 18,fun v _=>v=.slice none 0 0,fun v _=>v=.bool true,fun v _=>v=.bool true,fun v _=>v=.bool true,fun v _=>v=pt B 0,fun v _=>v=pt B 0,fun v _=>v=pt B 19,fun v _=>v=.slice none 0 0,fun v _=>v=.bool true,fun v _=>v=.bool true,fun v _=>v=.bool true,fun v _=>v=pt B 0,fun v _=>v=pt B 0,fun v _=>v=pt B 20,fun v _=>v=.slice none 0 0,fun v _=>v=.bool true,fun v _=>v=.bool true] (by repeat (first|exact trivial|refine⟨zAe _,?_⟩)) (by kernel_rfl) (by kernel_rfl) ?ob ?en
 case ob =>
  refine⟨?_,?_,?_,?_,?_,?_,?_,?_,?_,?_,?_,?_,?_,?_,?_,?_,?_,?_,?_,?_,?_,?_,?_,?_,?_,?_,?_,?_,?_,?_,?_,?_,?_,?_,?_,?_,?_,?_,?_,?_,?_,?_,?_,?_,?_,?_,?_,?_,?_,?_,?_,?_,?_,?_,?_,?_,?_,?_,?_,?_,?_,?_,?_,?_,?_,?_,?_,?_,?_,?_,?_,?_,?_,?_,?_,?_,?_,?_,?_,?_,?_,?_,?_,?_,?_,?_,?_,?_,?_,?_,?_,?_,?_,?_,?_,?_,?_,?_,?_,?_,?_,?_,?_,?_,?_,?_,?_,?_,?_,?_,?_,?_,?_,?_,?_,?_,?_,?_,?_,?_,?_,?_,?_,?_,?_,?_,?_,?_,?_,?_,?_,?_,?_,?_,?_,?_,?_,?_,?_,?_,?_,?_,?_,?_,?_,trivial⟩<;>intro A W h
  ·exact zAa hrefl rfl rfl (h.f 0)
  ·(have e3:A.eval (.tmp 3)=.pointer (some ⟨B,0,none⟩):=h.d 0 3;refine zAF hrefl rfl ?_;simp only[execOp,e3];simp[go_sem])
  ·(have e4:A.eval (.tmp 4)=.pointer (some ⟨B,0,none⟩):=h.d 1 4;refine zAF hrefl rfl ?_;simp only[execOp,e4];simp[go_sem])
  ·(have e5:A.eval (.tmp 5)=.pointer (some ⟨B,0,none⟩):=h.d 2 5;refine zAF hrefl rfl ?_;simp only[execOp,e5];(have q:=(h.rel.1.cellOf hB hBM).trans (hbag 0 (by omega));simp[bagV]at q;simp[go_sem,q]))
  ·exact zBF rfl rfl (enters_of Tryz.func66 (by kernel_rfl) rfl) (zDH (h.d 3 6)) (RelA.nil (RelA.size h.rel) (zF3 W))
  ·exact zAa hrefl rfl rfl (h.d 4 7)
  ·exact zAa hrefl (wg (h.d 5 8)) rfl (h.f 0)
  ·(have e9:A.eval (.tmp 9)=.pointer (some ⟨B,0,none⟩):=h.d 6 9;refine zAF hrefl (wg (h.d 5 8)) ?_;simp only[execOp,e9];simp[go_sem])
  ·(have e10:A.eval (.tmp 10)=.pointer (some ⟨B,0,none⟩):=h.d 7 10;refine zAF hrefl (wg (h.d 5 8)) ?_;simp only[execOp,e10];simp[go_sem])
  ·(have e11:A.eval (.tmp 11)=.pointer (some ⟨B,1,none⟩):=h.d 8 11;refine zAF hrefl (wg (h.d 5 8)) ?_;simp only[execOp,e11];(have q:=(h.rel.1.cellOf hB hBM).trans (hbag 1 (by omega));simp[bagV]at q;simp[go_sem,q]))
  ·exact zBF (wg (h.d 5 8)) rfl (enters_of Tryz.func67 (by kernel_rfl) rfl) (zDH (h.d 9 12)) (RelA.nil (RelA.size h.rel) (zFv W))
  ·exact zBf hrefl rfl rfl (h.d 5 8) (h.d 10 13)
  ·exact zAa hrefl rfl rfl (h.d 11 14)
  ·exact zAa hrefl (wg (h.d 12 15)) rfl (h.f 0)
  ·(have e16:A.eval (.tmp 16)=.pointer (some ⟨B,0,none⟩):=h.d 13 16;refine zAF hrefl (wg (h.d 12 15)) ?_;simp only[execOp,e16];simp[go_sem])
  ·(have e17:A.eval (.tmp 17)=.pointer (some ⟨B,0,none⟩):=h.d 14 17;refine zAF hrefl (wg (h.d 12 15)) ?_;simp only[execOp,e17];simp[go_sem])
  ·(have e18:A.eval (.tmp 18)=.pointer (some ⟨B,2,none⟩):=h.d 15 18;refine zAF hrefl (wg (h.d 12 15)) ?_;simp only[execOp,e18];(have q:=(h.rel.1.cellOf hB hBM).trans (hbag 2 (by omega));simp[bagV]at q;simp[go_sem,q]))
  ·exact zBF (wg (h.d 12 15)) rfl (enters_of Tryz.func68 (by kernel_rfl) rfl) (zDH (h.d 16 19)) (RelA.nil (RelA.size h.rel) (zGe W))
  ·exact zBf hrefl rfl rfl (h.d 12 15) (h.d 17 20)
  ·exact zAa hrefl rfl rfl (h.d 18 21)
  ·exact zAa hrefl (wg (h.d 19 22)) rfl (h.f 0)
  ·(have e23:A.eval (.tmp 23)=.pointer (some ⟨B,0,none⟩):=h.d 20 23;refine zAF hrefl (wg (h.d 19 22)) ?_;simp only[execOp,e23];simp[go_sem])
  ·(have e24:A.eval (.tmp 24)=.pointer (some ⟨B,0,none⟩):=h.d 21 24;refine zAF hrefl (wg (h.d 19 22)) ?_;simp only[execOp,e24];simp[go_sem])
  ·(have e25:A.eval (.tmp 25)=.pointer (some ⟨B,3,none⟩):=h.d 22 25;refine zAF hrefl (wg (h.d 19 22)) ?_;simp only[execOp,e25];(have q:=(h.rel.1.cellOf hB hBM).trans (hbag 3 (by omega));simp[bagV]at q;simp[go_sem,q]))
  ·exact zBF (wg (h.d 19 22)) rfl (enters_of Tryz.func69 (by kernel_rfl) rfl) (zDH (h.d 23 26)) (RelA.nil (RelA.size h.rel) (zFr W))
  ·exact zBf hrefl rfl rfl (h.d 19 22) (h.d 24 27)
  ·exact zAa hrefl rfl rfl (h.d 25 28)
  ·exact zAa hrefl (wg (h.d 26 29)) rfl (h.f 0)
  ·(have e30:A.eval (.tmp 30)=.pointer (some ⟨B,0,none⟩):=h.d 27 30;refine zAF hrefl (wg (h.d 26 29)) ?_;simp only[execOp,e30];simp[go_sem])
  ·(have e31:A.eval (.tmp 31)=.pointer (some ⟨B,0,none⟩):=h.d 28 31;refine zAF hrefl (wg (h.d 26 29)) ?_;simp only[execOp,e31];simp[go_sem])
  ·(have e32:A.eval (.tmp 32)=.pointer (some ⟨B,4,none⟩):=h.d 29 32;refine zAF hrefl (wg (h.d 26 29)) ?_;simp only[execOp,e32];(have q:=(h.rel.1.cellOf hB hBM).trans (hbag 4 (by omega));simp[bagV]at q;simp[go_sem,q]))
  ·exact zBF (wg (h.d 26 29)) rfl (enters_of Tryz.func70 (by kernel_rfl) rfl) (zDH (h.d 30 33)) (RelA.nil (RelA.size h.rel) (zF0 W))
  ·exact zBf hrefl rfl rfl (h.d 26 29) (h.d 31 34)
  ·exact zAa hrefl rfl rfl (h.d 32 35)
  ·exact zAa hrefl (wg (h.d 33 36)) rfl (h.f 0)
  ·(have e37:A.eval (.tmp 37)=.pointer (some ⟨B,0,none⟩):=h.d 34 37;refine zAF hrefl (wg (h.d 33 36)) ?_;simp only[execOp,e37];simp[go_sem])
  ·(have e38:A.eval (.tmp 38)=.pointer (some ⟨B,0,none⟩):=h.d 35 38;refine zAF hrefl (wg (h.d 33 36)) ?_;simp only[execOp,e38];simp[go_sem])
  ·(have e39:A.eval (.tmp 39)=.pointer (some ⟨B,5,none⟩):=h.d 36 39;refine zAF hrefl (wg (h.d 33 36)) ?_;simp only[execOp,e39];(have q:=(h.rel.1.cellOf hB hBM).trans (hbag 5 (by omega));simp[bagV]at q;simp[go_sem,q]))
  ·exact zBF (wg (h.d 33 36)) rfl (enters_of Tryz.func71 (by kernel_rfl) rfl) (zDH (h.d 37 40)) (RelA.nil (RelA.size h.rel) (zFs W))
  ·exact zBf hrefl rfl rfl (h.d 33 36) (h.d 38 41)
  ·exact zAa hrefl rfl rfl (h.d 39 42)
  ·exact zAa hrefl (wg (h.d 40 43)) rfl (h.f 0)
  ·(have e44:A.eval (.tmp 44)=.pointer (some ⟨B,0,none⟩):=h.d 41 44;refine zAF hrefl (wg (h.d 40 43)) ?_;simp only[execOp,e44];simp[go_sem])
  ·(have e45:A.eval (.tmp 45)=.pointer (some ⟨B,0,none⟩):=h.d 42 45;refine zAF hrefl (wg (h.d 40 43)) ?_;simp only[execOp,e45];simp[go_sem])
  ·(have e46:A.eval (.tmp 46)=.pointer (some ⟨B,6,none⟩):=h.d 43 46;refine zAF hrefl (wg (h.d 40 43)) ?_;simp only[execOp,e46];(have q:=(h.rel.1.cellOf hB hBM).trans (hbag 6 (by omega));simp[bagV]at q;simp[go_sem,q]))
  ·exact zBF (wg (h.d 40 43)) rfl (enters_of Tryz.func72 (by kernel_rfl) rfl) (zDH (h.d 44 47)) (RelA.nil (RelA.size h.rel) (zFi W))
  ·exact zBf hrefl rfl rfl (h.d 40 43) (h.d 45 48)
  ·exact zAa hrefl rfl rfl (h.d 46 49)
  ·exact zAa hrefl (wg (h.d 47 50)) rfl (h.f 0)
  ·(have e51:A.eval (.tmp 51)=.pointer (some ⟨B,0,none⟩):=h.d 48 51;refine zAF hrefl (wg (h.d 47 50)) ?_;simp only[execOp,e51];simp[go_sem])
  ·(have e52:A.eval (.tmp 52)=.pointer (some ⟨B,0,none⟩):=h.d 49 52;refine zAF hrefl (wg (h.d 47 50)) ?_;simp only[execOp,e52];simp[go_sem])
  ·(have e53:A.eval (.tmp 53)=.pointer (some ⟨B,7,none⟩):=h.d 50 53;refine zAF hrefl (wg (h.d 47 50)) ?_;simp only[execOp,e53];(have q:=(h.rel.1.cellOf hB hBM).trans (hbag 7 (by omega));simp[bagV]at q;simp[go_sem,q]))
  ·exact zBF (wg (h.d 47 50)) rfl (enters_of Tryz.func73 (by kernel_rfl) rfl) (zDH (h.d 51 54)) (RelA.nil (RelA.size h.rel) (zF4 W))
  ·exact zBf hrefl rfl rfl (h.d 47 50) (h.d 52 55)
  ·exact zAa hrefl rfl rfl (h.d 53 56)
  ·exact zAa hrefl (wg (h.d 54 57)) rfl (h.f 0)
  ·(have e58:A.eval (.tmp 58)=.pointer (some ⟨B,0,none⟩):=h.d 55 58;refine zAF hrefl (wg (h.d 54 57)) ?_;simp only[execOp,e58];simp[go_sem])
  ·(have e59:A.eval (.tmp 59)=.pointer (some ⟨B,0,none⟩):=h.d 56 59;refine zAF hrefl (wg (h.d 54 57)) ?_;simp only[execOp,e59];simp[go_sem])
  ·(have e60:A.eval (.tmp 60)=.pointer (some ⟨B,8,none⟩):=h.d 57 60;refine zAF hrefl (wg (h.d 54 57)) ?_;simp only[execOp,e60];(have q:=(h.rel.1.cellOf hB hBM).trans (hbag 8 (by omega));simp[bagV]at q;simp[go_sem,q]))
  ·exact zBF (wg (h.d 54 57)) rfl (enters_of Tryz.func74 (by kernel_rfl) rfl) (zDH (h.d 58 61)) (RelA.insts hK hN (RelA.rows h.rel hrows) (RelA.size h.rel) hbase)
  ·exact zBf hrefl rfl rfl (h.d 54 57) (h.d 59 62)
  ·exact zAa hrefl rfl rfl (h.d 60 63)
  ·exact zAa hrefl (wg (h.d 61 64)) rfl (h.f 0)
  ·(have e65:A.eval (.tmp 65)=.pointer (some ⟨B,0,none⟩):=h.d 62 65;refine zAF hrefl (wg (h.d 61 64)) ?_;simp only[execOp,e65];simp[go_sem])
  ·(have e66:A.eval (.tmp 66)=.pointer (some ⟨B,0,none⟩):=h.d 63 66;refine zAF hrefl (wg (h.d 61 64)) ?_;simp only[execOp,e66];simp[go_sem])
  ·(have e67:A.eval (.tmp 67)=.pointer (some ⟨B,9,none⟩):=h.d 64 67;refine zAF hrefl (wg (h.d 61 64)) ?_;simp only[execOp,e67];(have q:=(h.rel.1.cellOf hB hBM).trans (hbag 9 (by omega));simp[bagV]at q;simp[go_sem,q]))
  ·exact zBF (wg (h.d 61 64)) rfl (enters_of Tryz.func75 (by kernel_rfl) rfl) (zDH (h.d 65 68)) (RelA.nil (RelA.size h.rel) (zFG W))
  ·exact zBf hrefl rfl rfl (h.d 61 64) (h.d 66 69)
  ·exact zAa hrefl rfl rfl (h.d 67 70)
  ·exact zAa hrefl (wg (h.d 68 71)) rfl (h.f 0)
  ·(have e72:A.eval (.tmp 72)=.pointer (some ⟨B,0,none⟩):=h.d 69 72;refine zAF hrefl (wg (h.d 68 71)) ?_;simp only[execOp,e72];simp[go_sem])
  ·(have e73:A.eval (.tmp 73)=.pointer (some ⟨B,0,none⟩):=h.d 70 73;refine zAF hrefl (wg (h.d 68 71)) ?_;simp only[execOp,e73];simp[go_sem])
  ·(have e74:A.eval (.tmp 74)=.pointer (some ⟨B,10,none⟩):=h.d 71 74;refine zAF hrefl (wg (h.d 68 71)) ?_;simp only[execOp,e74];(have q:=(h.rel.1.cellOf hB hBM).trans (hbag 10 (by omega));simp[bagV]at q;simp[go_sem,q]))
  ·exact zBF (wg (h.d 68 71)) rfl (enters_of Tryz.func76 (by kernel_rfl) rfl) (zDH (h.d 72 75)) (RelA.nil (RelA.size h.rel) (zF6 W))
  ·exact zBf hrefl rfl rfl (h.d 68 71) (h.d 73 76)
  ·exact zAa hrefl rfl rfl (h.d 74 77)
  ·exact zAa hrefl (wg (h.d 75 78)) rfl (h.f 0)
  ·(have e79:A.eval (.tmp 79)=.pointer (some ⟨B,0,none⟩):=h.d 76 79;refine zAF hrefl (wg (h.d 75 78)) ?_;simp only[execOp,e79];simp[go_sem])
  ·(have e80:A.eval (.tmp 80)=.pointer (some ⟨B,0,none⟩):=h.d 77 80;refine zAF hrefl (wg (h.d 75 78)) ?_;simp only[execOp,e80];simp[go_sem])
  ·(have e81:A.eval (.tmp 81)=.pointer (some ⟨B,11,none⟩):=h.d 78 81;refine zAF hrefl (wg (h.d 75 78)) ?_;simp only[execOp,e81];(have q:=(h.rel.1.cellOf hB hBM).trans (hbag 11 (by omega));simp[bagV]at q;simp[go_sem,q]))
  ·exact zBF (wg (h.d 75 78)) rfl (enters_of Tryz.func77 (by kernel_rfl) rfl) (zDH (h.d 79 82)) (RelA.nil (RelA.size h.rel) (zGf W))
  ·exact zBf hrefl rfl rfl (h.d 75 78) (h.d 80 83)
  ·exact zAa hrefl rfl rfl (h.d 81 84)
  ·exact zAa hrefl (wg (h.d 82 85)) rfl (h.f 0)
  ·(have e86:A.eval (.tmp 86)=.pointer (some ⟨B,0,none⟩):=h.d 83 86;refine zAF hrefl (wg (h.d 82 85)) ?_;simp only[execOp,e86];simp[go_sem])
  ·(have e87:A.eval (.tmp 87)=.pointer (some ⟨B,0,none⟩):=h.d 84 87;refine zAF hrefl (wg (h.d 82 85)) ?_;simp only[execOp,e87];simp[go_sem])
  ·(have e88:A.eval (.tmp 88)=.pointer (some ⟨B,12,none⟩):=h.d 85 88;refine zAF hrefl (wg (h.d 82 85)) ?_;simp only[execOp,e88];(have q:=(h.rel.1.cellOf hB hBM).trans (hbag 12 (by omega));simp[bagV]at q;simp[go_sem,q]))
  ·exact zBF (wg (h.d 82 85)) rfl (enters_of Tryz.func78 (by kernel_rfl) rfl) (zDH (h.d 86 89)) (RelA.nil (RelA.size h.rel) (zFg W))
  ·exact zBf hrefl rfl rfl (h.d 82 85) (h.d 87 90)
  ·exact zAa hrefl rfl rfl (h.d 88 91)
  ·exact zAa hrefl (wg (h.d 89 92)) rfl (h.f 0)
  ·(have e93:A.eval (.tmp 93)=.pointer (some ⟨B,0,none⟩):=h.d 90 93;refine zAF hrefl (wg (h.d 89 92)) ?_;simp only[execOp,e93];simp[go_sem])
  ·(have e94:A.eval (.tmp 94)=.pointer (some ⟨B,0,none⟩):=h.d 91 94;refine zAF hrefl (wg (h.d 89 92)) ?_;simp only[execOp,e94];simp[go_sem])
  ·(have e95:A.eval (.tmp 95)=.pointer (some ⟨B,13,none⟩):=h.d 92 95;refine zAF hrefl (wg (h.d 89 92)) ?_;simp only[execOp,e95];(have q:=(h.rel.1.cellOf hB hBM).trans (hbag 13 (by omega));simp[bagV]at q;simp[go_sem,q]))
  ·exact zBF (wg (h.d 89 92)) rfl (enters_of Tryz.func79 (by kernel_rfl) rfl) (zDH (h.d 93 96)) (RelA.nil (RelA.size h.rel) (zEt W))
  ·exact zBf hrefl rfl rfl (h.d 89 92) (h.d 94 97)
  ·exact zAa hrefl rfl rfl (h.d 95 98)
  ·exact zAa hrefl (wg (h.d 96 99)) rfl (h.f 0)
  ·(have e100:A.eval (.tmp 100)=.pointer (some ⟨B,0,none⟩):=h.d 97 100;refine zAF hrefl (wg (h.d 96 99)) ?_;simp only[execOp,e100];simp[go_sem])
  ·(have e101:A.eval (.tmp 101)=.pointer (some ⟨B,0,none⟩):=h.d 98 101;refine zAF hrefl (wg (h.d 96 99)) ?_;simp only[execOp,e101];simp[go_sem])
  ·(have e102:A.eval (.tmp 102)=.pointer (some ⟨B,14,none⟩):=h.d 99 102;refine zAF hrefl (wg (h.d 96 99)) ?_;simp only[execOp,e102];(have q:=(h.rel.1.cellOf hB hBM).trans (hbag 14 (by omega));simp[bagV]at q;simp[go_sem,q]))
  ·exact zBF (wg (h.d 96 99)) rfl (enters_of Tryz.func80 (by kernel_rfl) rfl) (zDH (h.d 100 103)) (RelA.nil (RelA.size h.rel) (zEc W))
  ·exact zBf hrefl rfl rfl (h.d 96 99) (h.d 101 104)
  ·exact zAa hrefl rfl rfl (h.d 102 105)
  ·exact zAa hrefl (wg (h.d 103 106)) rfl (h.f 0)
  ·(have e107:A.eval (.tmp 107)=.pointer (some ⟨B,0,none⟩):=h.d 104 107;refine zAF hrefl (wg (h.d 103 106)) ?_;simp only[execOp,e107];simp[go_sem])
  ·(have e108:A.eval (.tmp 108)=.pointer (some ⟨B,0,none⟩):=h.d 105 108;refine zAF hrefl (wg (h.d 103 106)) ?_;simp only[execOp,e108];simp[go_sem])
  ·(have e109:A.eval (.tmp 109)=.pointer (some ⟨B,15,none⟩):=h.d 106 109;refine zAF hrefl (wg (h.d 103 106)) ?_;simp only[execOp,e109];(have q:=(h.rel.1.cellOf hB hBM).trans (hbag 15 (by omega));simp[bagV]at q;simp[go_sem,q]))
  ·exact zBF (wg (h.d 103 106)) rfl (enters_of Tryz.func81 (by kernel_rfl) rfl) (zDH (h.d 107 110)) (RelA.nil (RelA.size h.rel) (zEU W))
  ·exact zBf hrefl rfl rfl (h.d 103 106) (h.d 108 111)
  ·exact zAa hrefl rfl rfl (h.d 109 112)
  ·exact zAa hrefl (wg (h.d 110 113)) rfl (h.f 0)
  ·(have e114:A.eval (.tmp 114)=.pointer (some ⟨B,0,none⟩):=h.d 111 114;refine zAF hrefl (wg (h.d 110 113)) ?_;simp only[execOp,e114];simp[go_sem])
  ·(have e115:A.eval (.tmp 115)=.pointer (some ⟨B,0,none⟩):=h.d 112 115;refine zAF hrefl (wg (h.d 110 113)) ?_;simp only[execOp,e115];simp[go_sem])
  ·(have e116:A.eval (.tmp 116)=.pointer (some ⟨B,16,none⟩):=h.d 113 116;refine zAF hrefl (wg (h.d 110 113)) ?_;simp only[execOp,e116];(have q:=(h.rel.1.cellOf hB hBM).trans (hbag 16 (by omega));simp[bagV]at q;simp[go_sem,q]))
  ·exact zBF (wg (h.d 110 113)) rfl (enters_of Tryz.func82 (by kernel_rfl) rfl) (zDH (h.d 114 117)) (RelA.nil (RelA.size h.rel) (zGa W))
  ·exact zBf hrefl rfl rfl (h.d 110 113) (h.d 115 118)
  ·exact zAa hrefl rfl rfl (h.d 116 119)
  ·exact zAa hrefl (wg (h.d 117 120)) rfl (h.f 0)
  ·(have e121:A.eval (.tmp 121)=.pointer (some ⟨B,0,none⟩):=h.d 118 121;refine zAF hrefl (wg (h.d 117 120)) ?_;simp only[execOp,e121];simp[go_sem])
  ·(have e122:A.eval (.tmp 122)=.pointer (some ⟨B,0,none⟩):=h.d 119 122;refine zAF hrefl (wg (h.d 117 120)) ?_;simp only[execOp,e122];simp[go_sem])
  ·(have e123:A.eval (.tmp 123)=.pointer (some ⟨B,17,none⟩):=h.d 120 123;refine zAF hrefl (wg (h.d 117 120)) ?_;simp only[execOp,e123];(have q:=(h.rel.1.cellOf hB hBM).trans (hbag 17 (by omega));simp[bagV]at q;simp[go_sem,q]))
  ·exact zBF (wg (h.d 117 120)) rfl (enters_of Tryz.func83 (by kernel_rfl) rfl) (zDH (h.d 121 124)) (RelA.nil (RelA.size h.rel) (zGX W))
  ·exact zBf hrefl rfl rfl (h.d 117 120) (h.d 122 125)
  ·exact zAa hrefl rfl rfl (h.d 123 126)
  ·exact zAa hrefl (wg (h.d 124 127)) rfl (h.f 0)
  ·(have e128:A.eval (.tmp 128)=.pointer (some ⟨B,0,none⟩):=h.d 125 128;refine zAF hrefl (wg (h.d 124 127)) ?_;simp only[execOp,e128];simp[go_sem])
  ·(have e129:A.eval (.tmp 129)=.pointer (some ⟨B,0,none⟩):=h.d 126 129;refine zAF hrefl (wg (h.d 124 127)) ?_;simp only[execOp,e129];simp[go_sem])
  ·(have e130:A.eval (.tmp 130)=.pointer (some ⟨B,18,none⟩):=h.d 127 130;refine zAF hrefl (wg (h.d 124 127)) ?_;simp only[execOp,e130];(have q:=(h.rel.1.cellOf hB hBM).trans (hbag 18 (by omega));simp[bagV]at q;simp[go_sem,q]))
  ·exact zBF (wg (h.d 124 127)) rfl (enters_of Tryz.func84 (by kernel_rfl) rfl) (zDH (h.d 128 131)) (RelA.nil (RelA.size h.rel) (zFH W))
  ·exact zBf hrefl rfl rfl (h.d 124 127) (h.d 129 132)
  ·exact zAa hrefl rfl rfl (h.d 130 133)
  ·exact zAa hrefl (wg (h.d 131 134)) rfl (h.f 0)
  ·(have e135:A.eval (.tmp 135)=.pointer (some ⟨B,0,none⟩):=h.d 132 135;refine zAF hrefl (wg (h.d 131 134)) ?_;simp only[execOp,e135];simp[go_sem])
  ·(have e136:A.eval (.tmp 136)=.pointer (some ⟨B,0,none⟩):=h.d 133 136;refine zAF hrefl (wg (h.d 131 134)) ?_;simp only[execOp,e136];simp[go_sem])
  ·(have e137:A.eval (.tmp 137)=.pointer (some ⟨B,19,none⟩):=h.d 134 137;refine zAF hrefl (wg (h.d 131 134)) ?_;simp only[execOp,e137];(have q:=(h.rel.1.cellOf hB hBM).trans (hbag 19 (by omega));simp[bagV]at q;simp[go_sem,q]))
  ·exact zBF (wg (h.d 131 134)) rfl (enters_of Tryz.func85 (by kernel_rfl) rfl) (zDH (h.d 135 138)) (RelA.nil (RelA.size h.rel) (zFm W))
  ·exact zBf hrefl rfl rfl (h.d 131 134) (h.d 136 139)
  ·exact zAa hrefl rfl rfl (h.d 137 140)
  ·exact zAa hrefl (wg (h.d 138 141)) rfl (h.f 0)
  ·(have e142:A.eval (.tmp 142)=.pointer (some ⟨B,0,none⟩):=h.d 139 142;refine zAF hrefl (wg (h.d 138 141)) ?_;simp only[execOp,e142];simp[go_sem])
  ·(have e143:A.eval (.tmp 143)=.pointer (some ⟨B,0,none⟩):=h.d 140 143;refine zAF hrefl (wg (h.d 138 141)) ?_;simp only[execOp,e143];simp[go_sem])
  ·(have e144:A.eval (.tmp 144)=.pointer (some ⟨B,20,none⟩):=h.d 141 144;refine zAF hrefl (wg (h.d 138 141)) ?_;simp only[execOp,e144];(have q:=(h.rel.1.cellOf hB hBM).trans (hbag 20 (by omega));simp[bagV]at q;simp[go_sem,q]))
  ·exact zBF (wg (h.d 138 141)) rfl (enters_of Tryz.func86 (by kernel_rfl) rfl) (zDH (h.d 142 145)) (RelA.nil (RelA.size h.rel) (zFC W))
  ·exact zBf hrefl rfl rfl (h.d 138 141) (h.d 143 146)
 case en =>
  intro vals W hbw hv;simp only[List.append,fa,Nat.reduceAdd];rw[e_ hv 0,e_ hv 1,e_ hv 2,e_ hv 3,e_ hv 4,e_ hv 5,e_ hv 6,e_ hv 7,e_ hv 8,e_ hv 9,e_ hv 10,e_ hv 11,e_ hv 12,e_ hv 13,e_ hv 14,e_ hv 15,e_ hv 16,e_ hv 17,e_ hv 18,e_ hv 19,e_ hv 20,e_ hv 21,e_ hv 22,e_ hv 23,e_ hv 24,e_ hv 25,e_ hv 26,e_ hv 27,e_ hv 28,e_ hv 29,e_ hv 30,e_ hv 31,e_ hv 32,e_ hv 33,e_ hv 34,e_ hv 35,e_ hv 36,e_ hv 37,e_ hv 38,e_ hv 39,e_ hv 40,e_ hv 41,e_ hv 42,e_ hv 43,e_ hv 44,e_ hv 45,e_ hv 46,e_ hv 47,e_ hv 48,e_ hv 49,e_ hv 50,e_ hv 51,e_ hv 52,e_ hv 53,e_ hv 54,e_ hv 55,e_ hv 56,e_ hv 57,e_ hv 58,e_ hv 59,e_ hv 60,e_ hv 61,e_ hv 62,e_ hv 63,e_ hv 64,e_ hv 65,e_ hv 66,e_ hv 67,e_ hv 68,e_ hv 69,e_ hv 70,e_ hv 71,e_ hv 72,e_ hv 73,e_ hv 74,e_ hv 75,e_ hv 76,e_ hv 77,e_ hv 78,e_ hv 79,e_ hv 80,e_ hv 81,e_ hv 82,e_ hv 83,e_ hv 84,e_ hv 85,e_ hv 86,e_ hv 87,e_ hv 88,e_ hv 89,e_ hv 90,e_ hv 91,e_ hv 92,e_ hv 93,e_ hv 94,e_ hv 95,e_ hv 96,e_ hv 97,e_ hv 98,e_ hv 99,e_ hv 100,e_ hv 101,e_ hv 102,e_ hv 103,e_ hv 104,e_ hv 105,e_ hv 106,e_ hv 107,e_ hv 108,e_ hv 109,e_ hv 110,e_ hv 111,e_ hv 112,e_ hv 113,e_ hv 114,e_ hv 115,e_ hv 116,e_ hv 117,e_ hv 118,e_ hv 119,e_ hv 120,e_ hv 121,e_ hv 122,e_ hv 123,e_ hv 124,e_ hv 125,e_ hv 126,e_ hv 127,e_ hv 128,e_ hv 129,e_ hv 130,e_ hv 131,e_ hv 132,e_ hv 133,e_ hv 134,e_ hv 135,e_ hv 136,e_ hv 137,e_ hv 138,e_ hv 139,e_ hv 140,e_ hv 141,e_ hv 142,e_ hv 143,e_ hv 144]
  clear hv
  try simp only[pl]
  have R:=Lib.hid hbw;clear hbw
  go_wp2
  go_ret;exact⟨rfl,R.out⟩
def bagC (lsv:Value):Array Value:=#[.slice none 0 0,.slice none 0 0,.slice none 0 0,.slice none 0 0,.slice none 0 0,.slice none 0 0,.slice none 0 0,.slice none 0 0,lsv,.slice none 0 0,.slice none 0 0,.slice none 0 0,.slice none 0 0,.slice none 0 0,.slice none 0 0,.slice none 0 0,.slice none 0 0,.slice none 0 0,.slice none 0 0,.slice none 0 0,.slice none 0 0]
def Bag (W:World) (B:Nat) (lsv:Value):Prop:=W.heap[B]?=some (.cells (bagC lsv) 87 (0,0))
theorem Bag.lt {W:World} {B:Nat} {lsv:Value} (h:Bag W B lsv):B<W.heap.size:=(Array.getElem?_eq_some_iff.1 h).1
theorem Bag.cell {W:World} {B:Nat} {lsv:Value} (h:Bag W B lsv) {k:Nat} (hk:k<21):W.cell? ⟨B,k,none⟩=some (bagV lsv k):=by
 rw[cell_of_row W B k _ _ _ h];have:∀ k,k<21->(bagC lsv)[k]?=some (bagV lsv k):=by
  intro k hk
  match k,hk with
  | 0,_=>rfl
  | 1,_=>rfl
  | 2,_=>rfl
  | 3,_=>rfl
  | 4,_=>rfl
  | 5,_=>rfl
  | 6,_=>rfl
  | 7,_=>rfl
  | 8,_=>rfl
  | 9,_=>rfl
  | 10,_=>rfl
  | 11,_=>rfl
  | 12,_=>rfl
  | 13,_=>rfl
  | 14,_=>rfl
  | 15,_=>rfl
  | 16,_=>rfl
  | 17,_=>rfl
  | 18,_=>rfl
  | 19,_=>rfl
  | 20,_=>rfl
  | k+21,hk=>exact absurd hk (by omega)
 exact this k hk
theorem Bag.frozen {W:World} {B:Nat} {lsv:Value} (h:Bag W B lsv) (k:Nat):W.frozen? ⟨B,k,none⟩=false:=by
 simp[World.frozen?,show W.heap[B]?=_ from h]
theorem Bag.set {W:World} {B:Nat} {lsv:Value} (h:Bag W B lsv) (x:Value):Bag (W.setCell ⟨B,8,none⟩ x) B x:=by
 obtain⟨hlt,hh⟩:=Array.getElem?_eq_some_iff.1 h
 show (W.heap.modify B _)[B]?=_
 rw[Array.getElem?_eq_getElem (by rw[Array.size_modify];exact hlt),Array.getElem_modify_self,hh]
 rfl
theorem Bag.kept {W W':World} {B:Nat} {lsv:Value} {row:Option Nat} (h:Bag W B lsv) (hg:W.grownBy W' row) (hr:row≠some B):Bag W' B lsv:=(hg.block B h.lt (fun e=>hr e.symm)).trans h
theorem Bag.below {W W':World} {B:Nat} {lsv:Value} (h:Bag W B lsv) (hb:Below W.heap.size W W'):Bag W' B lsv:=(hb.block B h.lt).trans h
theorem Bag.ne {W:World} {B:Nat} {lsv:Value} (h:Bag W B lsv) {base:Nat} {e:TypeId} {s:Nat} {v:Value} {n:Nat} {xs:List Value} (ho:W.ownsRow base e s v n xs) (hne:e≠87):v.ownBlock≠some B:=by
 intro hb;obtain⟨_,_,cur,hc⟩:=zA8 ho hb;rw[show W.heap[B]?=_ from h]at hc
 cases hc
 exact hne rfl
theorem zJA (B b0 k:Nat) (lsv l:Value) (xs:List Value) (w:World) (hk:k<=1000) (hbag:Bag w B lsv) (hown:w.ownsRow b0 32 1 lsv k xs) (hb0:b0<=B) (hl:∃ p n c,l=.slice p n c) :
  Calls Tryz.prog 32 #[.pointer (some ⟨B,0,none⟩),l] w fun e w'=>e=.returned (.tuple #[])/\∃ lsv',Bag w' B lsv'/\w'.ownsRow b0 32 1 lsv' (k+1) (xs++[l])/\Below b0 w w':=by
 obtain⟨i3,hi3,hy0,hy1,hy2⟩:=info_parts zGp;obtain⟨pl,nl,cl,rfl⟩:=hl;obtain⟨pv,cv,rfl⟩:=zCY hown;have hlt:=hbag.lt;have HB:=Lib.hid hbag;clear hbag;have HO:=Lib.hid hown;clear hown
 go_enter Tryz.func32,Tryz.ntmps32
 go_upto_region 0 with fail
 refine zBw 7 [fun v _=>v=pt B 0,fun v _=>v=pt B 0,fun v _=>v=pt B 0,fun v _=>v=pt B 8,fun v _=>v=.slice pv k cv,fun v _=>v=.slice pl nl cl,OneV 32 (.slice pl nl cl)] (fun _=>false) (by kernel_rfl) (by kernel_rfl) (by repeat (first|exact trivial|refine⟨zAJ _,?_⟩|refine⟨zKu _ _,?_⟩)) (fun _ _ h=>by cases h) ?ob ?en
 case ob =>
  refine⟨?_,?_,?_,?_,?_,?_,?_,trivial⟩<;>intro A W h
  ·exact zAB rfl rfl (h.f 0)
  ·exact zAB rfl rfl (h.f 0)
  ·(have e5:A.eval (.tmp 5)=.pointer (some ⟨B,0,none⟩):=h.d 1 5;refine zAA rfl ?_;simp only[execOp,e5];simp[go_sem])
  ·(have e6:A.eval (.tmp 6)=.pointer (some ⟨B,0,none⟩):=h.d 2 6;refine zAA rfl ?_;simp only[execOp,e6];simp[go_sem])
  ·(have e7:A.eval (.tmp 7)=.pointer (some ⟨B,8,none⟩):=h.d 3 7;refine zAA rfl ?_;simp only[execOp,e7];(have q:=(HB.out.below h.below).cell (k:=8) (by omega);simp[bagV]at q;simp[go_sem,q]))
  ·exact zAB rfl rfl (h.f 1)
  ·exact zLx rfl rfl (h.d 5 9) (fun W=>by simp[go_sem]) (by decide)
 case en =>
  intro vals W hbw hv _;have x6:=hv 6 (by omega);simp only[zAn]at x6
  simp only[fa,Nat.reduceAdd];rw[e_ hv 0,e_ hv 1,e_ hv 2,e_ hv 3,e_ hv 4,e_ hv 5];clear hv
  try simp only[pl]
  obtain⟨gb,e6,s6⟩:=x6;rw[e6];have o1:=zCD HO.out hbw;have b1:=HB.out.below hbw;have hs:=hbw.size;refine zCx W rfl _ _ 39 rfl b0 32 i3 _ 1 24 Tryz.underlying39 hi3 hy0 hy1 hy2 rfl (by decide) (.slice pv k cv) k _ rfl o1 ⟨gb,0,none⟩ 1 1 [.slice pl nl cl] rfl rfl (OneV.news s6) (by simp[Value.oneCell']) (by unfold maxLen;omega) (by omega) (by omega) (by decide) ?_
  intro v5 w5 own5 grow5;have hany:=grow5.any;have b5:=b1.kept hany (b1.ne o1 (by decide))
  have bel5:Below b0 w w5:=(hbw.mono (by omega)).grown hany (by omega) (fun g e=>(zA8 o1 e).2.1)
  have hne5:=b5.ne own5 (by decide)
  obtain⟨p5,c5,rfl⟩:=zCY own5;have hcell:=b5.cell (k:=8) (by omega)
  have hf:=b5.frozen 8;have B6:=Lib.hid (b5.set (.slice p5 (k+1) c5));have O6:=Lib.hid (zB4 own5 (zEK w5 B 8 (.slice p5 (k+1) c5)) (fun g e=>by cases e;exact hne5))
  have BL6:=Lib.hid (bel5.setCell (p:=⟨B,8,none⟩) (by omega) (.slice p5 (k+1) c5))
  clear o1 b1 own5 grow5 hany b5 bel5 hne5 hbw s6
  go_wp2
  go_end0
  exact⟨rfl,_,B6.out,O6.out,BL6.out⟩
theorem zHk (G cap K base:Nat) (V:Nat->Value) (N:Nat->Nat) (X:Nat->List Value) (w:World) (hK:K<=1000) (hK0:0<K) (hN:∀ j,j<K->N j<=4194304) (hG:G<w.heap.size) (hcell:∀ k,k<K->w.cell? ⟨G,k,none⟩=some (V k))
  (hbase:base<=w.heap.size) (hfam:Fam 47 9 base w K V V N N X X) :
  Calls Tryz.prog 12 #[.slice (some ⟨G,0,none⟩) K cap] w fun e w'=>e=.returned (.bool true)/\KeepBut (Mine K V) w.heap.size w w'/\∃ X',Fam 47 9 base w' K V V N N X' X':=by
 have HC:=Lib.hid hcell;clear hcell;have HF:=Lib.hid hfam;clear hfam;have HN:=Lib.hid hN;clear hN
 go_enter Tryz.func12,Tryz.ntmps12
 go_wp2_with fail
 have hb1:Bag (w.alloc (.cells (bagC (.slice none 0 0)) 87)) w.heap.size (.slice none 0 0):=World.alloc_heap_new w _;have bel1:Below w.heap.size w (w.alloc (.cells (bagC (.slice none 0 0)) 87)):=(Below.refl _ w).alloc (Nat.le_refl _) _;have HB1:=Lib.hid hb1;clear hb1;have BL1:=Lib.hid bel1;clear bel1
 go_loopw [4] (fun n wr=>∃ k:Nat,k<=K/\n=.int .i64 k/\Hid (∃ lsv,Bag wr w.heap.size lsv/\wr.ownsRow w.heap.size 32 1 lsv k (rowV V k)/\Below w.heap.size w wr)) (fun n _=>K - (intOf n).toNat)
 case atStart=>exact⟨0,by omega,rfl,_,HB1.out,⟨rfl,.inl ⟨rfl,rfl⟩⟩,BL1.out⟩
 case round =>
  clear HB1 BL1;obtain⟨k,hk,rfl,S⟩:=hrel;obtain⟨lsv,S⟩:∃ lsv,Hid (Bag wr w.heap.size lsv/\wr.ownsRow w.heap.size 32 1 lsv k (rowV V k)/\Below w.heap.size w wr):=by obtain⟨l,h⟩:=S.out;exact⟨l,h⟩
  by_cases hlt:k<K
  ·have ck:=Lib.hid (HC.out k hlt);obtain⟨pk,ck2,hV⟩:∃ p c,V k=.slice p (N k) c:=zCY (HF.out.v k hlt);have HR:Hid (rowV V (k+1)=rowV V k++[V k]):=by show _=_;simp[rowV,List.range_succ]
   rw[hV]at ck HR;clear hV
   go_upto_region 5 with fail
   refine ws_ 5 [fun v _=>v=pt w.heap.size 0,fun v _=>v=.slice (some ⟨G,0,none⟩) K cap,fun v _=>v=.int .i64 (k:Int),fun v _=>v=.pointer (some ⟨G,k,none⟩),fun v _=>v=.slice pk (N k) ck2] ?ob ?en
   case ob =>
    refine⟨?_,?_,?_,?_,?_,trivial⟩<;>intro A W h
    ·exact zAB rfl rfl (h.f 3)
    ·exact zAB rfl rfl (h.f 0)
    ·exact zAB rfl rfl (h.f 4)
    ·exact zA2 (sz:=1) Tryz.underlying39 (fun w=>by kernel_rfl) rfl rfl (h.d 1 14) (h.d 2 15) (by omega) (by omega)
    ·(have e16:A.eval (.tmp 16)=.pointer (some ⟨G,k,none⟩):=h.d 3 16;refine zAA rfl ?_;simp only[execOp,e16];(have q:=((S.out.2.2.trans (h.below.mono S.out.2.2.size)).cell (p:=⟨G,k,none⟩) hG).trans ck.out;simp[go_sem,q]))
   case en =>
    intro vals W1 hbw hv _;simp only[fa,Nat.reduceAdd];rw[e_ hv 0,e_ hv 1,e_ hv 2,e_ hv 3,e_ hv 4];clear hv
    try simp only[pl]
    have S1:=Lib.hid (And.intro (S.out.1.below hbw) (And.intro (zCD S.out.2.1 hbw) (S.out.2.2.trans (hbw.mono S.out.2.2.size))));clear hbw S
    go_wp2_with fail
    refine(zJA w.heap.size w.heap.size k lsv _ _ W1 (by omega) S1.out.1 S1.out.2.1 (Nat.le_refl _) ⟨_,_,_,rfl⟩).mono ?_
    rintro e w2 ⟨rfl,lsv2,s1,s2,s3⟩;have S2:Hid (Bag w2 w.heap.size lsv2/\w2.ownsRow w.heap.size 32 1 lsv2 (k+1) (rowV V (k+1))/\Below w.heap.size w w2):=⟨s1,by rw[HR.out];exact s2,S1.out.2.2.trans s3⟩
    clear s1 s2 s3 S1
    go_wp2_with fail
    go_roundw
    case rel=>exact⟨k+1,by omega,by go_num,lsv2,S2.out⟩
    case measure=>simp[intOf];omega
  ·obtain rfl:K=k:=by omega
   have hsz:=S.out.2.2.size;have hnm:¬ Mine K V w.heap.size:=by
    rintro⟨j,hj,hb⟩;have:=(zA8 (HF.out.v j hj) hb).1;omega
   have hrows:zHd base lsv K V N wr:=⟨X,zOx S.out.2.1 hbase,HF.out.below S.out.2.2⟩;have hform:=zCY S.out.2.1;have HRW:=Lib.hid hrows;clear hrows;have HNM:=Lib.hid hnm;clear hnm;have HFM:=Lib.hid hform;clear hform
   go_wp2_with fail
   refine(zON lsv K base w.heap.size V N wr hK HN.out HRW.out (by omega) S.out.1.lt HNM.out (fun k hk=>S.out.1.cell hk) (by obtain⟨p,c,h⟩:=HFM.out;exact⟨p,_,c,h⟩)).mono ?_
   rintro e w' ⟨rfl,hrel2⟩;have R:=Lib.hid hrel2;clear hrel2
   go_wp2
   go_ret;obtain⟨X',_,hfam'⟩:=R.out.2 HRW.out;exact⟨rfl,(KeepBut.of_below S.out.2.2).trans (R.out.1.mono hsz (fun _ _ h=>h)),X',hfam'⟩
end
end Go.Proofs.YtalggmbdpmdcbaaGreat
