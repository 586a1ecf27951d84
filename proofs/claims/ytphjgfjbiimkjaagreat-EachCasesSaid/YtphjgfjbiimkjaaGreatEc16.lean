/-
  Laws of walks, and walks.
-/
import Derived.Test.YtphjgfjbiimkjaaGreatEc13
import Derived.Test.YtphjgfjbiimkjaaGreatEc15
import Derived.Test.YtphjgfjbiimkjaaGreatEc7
import Derived.Test.YtphjgfjbiimkjaaGreatEc3
import Derived.Test.YtphjgfjbiimkjaaGreatEc14
set_option linter.unusedVariables false
set_option linter.unusedSimpArgs false
set_option maxRecDepth 100000
set_option maxHeartbeats 16000000
namespace Go.Proofs.YtphjgfjbiimkjaaGreat
section
open Go.RowKit Go.Shelf
attribute [local go_sem] Oper.semAt_some
abbrev zBK (f:FuncId):Prop:=∀ w,Calls Tryz.prog f #[.slice none 0 0] w fun e w'=>e=.returned (.bool true)/\Below w.heap.size w w'
abbrev zBF (T E:TypeId):Prop:=∀ w,(Instr.makeSlice T (.int .i64 0) (.int .i64 0)).run Tryz.prog w=.ok (.slice (some ⟨w.heap.size,0,none⟩) 0 0) (w.alloc (.cells #[] E))
theorem zKi {T E:TypeId} (_:Hid (zBF T E)) {w wr:World} (B:Hid (Below w.heap.size w wr)):Hid (Below w.heap.size w (wr.alloc (.cells #[] E))):=Lib.hid (B.out.alloc B.out.size _)
theorem zAr:zBK 78/\zBK 79/\zBK 81/\zBK 82/\zBK 83/\zBK 84/\zBK 85/\zBK 86/\zBK 87/\zBK 88/\zBK 89/\zBK 90/\zBK 91/\zBK 92/\zBK 93/\zBK 94/\zBK 95/\zBK 96/\zBK 97/\zBK 98:=by
 refine⟨?fLimbs,?fWords,?fLongs,?fTexts,?fBytes,?fTruths,?fNodes,?fInsts,?fQueries,?fFiles,?fDocs,?fPlaces,?fPostings,?fShardRefs,?fManifests,?fAsks,?fHits,?fAnswers,?fParts,?fChanges⟩<;>intro w
 case' fLimbs=>(have E:zBF 108 201:=fun _=>by kernel_rfl);have HMK:=Lib.hid E;clear E;go_enter Tryz.func78,Tryz.ntmps78
 case' fWords=>(have E:zBF 109 203:=fun _=>by kernel_rfl);have HMK:=Lib.hid E;clear E;go_enter Tryz.func79,Tryz.ntmps79
 case' fLongs=>(have E:zBF 110 204:=fun _=>by kernel_rfl);have HMK:=Lib.hid E;clear E;go_enter Tryz.func81,Tryz.ntmps81
 case' fTexts=>(have E:zBF 111 22:=fun _=>by kernel_rfl);have HMK:=Lib.hid E;clear E;go_enter Tryz.func82,Tryz.ntmps82
 case' fBytes=>(have E:zBF 112 25:=fun _=>by kernel_rfl);have HMK:=Lib.hid E;clear E;go_enter Tryz.func83,Tryz.ntmps83
 case' fTruths=>(have E:zBF 113 148:=fun _=>by kernel_rfl);have HMK:=Lib.hid E;clear E;go_enter Tryz.func84,Tryz.ntmps84
 case' fNodes=>(have E:zBF 114 37:=fun _=>by kernel_rfl);have HMK:=Lib.hid E;clear E;go_enter Tryz.func85,Tryz.ntmps85
 case' fInsts=>(have E:zBF 35 23:=fun _=>by kernel_rfl);have HMK:=Lib.hid E;clear E;go_enter Tryz.func86,Tryz.ntmps86
 case' fQueries=>(have E:zBF 115 208:=fun _=>by kernel_rfl);have HMK:=Lib.hid E;clear E;go_enter Tryz.func87,Tryz.ntmps87
 case' fFiles=>(have E:zBF 116 214:=fun _=>by kernel_rfl);have HMK:=Lib.hid E;clear E;go_enter Tryz.func88,Tryz.ntmps88
 case' fDocs=>(have E:zBF 117 219:=fun _=>by kernel_rfl);have HMK:=Lib.hid E;clear E;go_enter Tryz.func89,Tryz.ntmps89
 case' fPlaces=>(have E:zBF 118 223:=fun _=>by kernel_rfl);have HMK:=Lib.hid E;clear E;go_enter Tryz.func90,Tryz.ntmps90
 case' fPostings=>(have E:zBF 119 227:=fun _=>by kernel_rfl);have HMK:=Lib.hid E;clear E;go_enter Tryz.func91,Tryz.ntmps91
 case' fShardRefs=>(have E:zBF 120 232:=fun _=>by kernel_rfl);have HMK:=Lib.hid E;clear E;go_enter Tryz.func92,Tryz.ntmps92
 case' fManifests=>(have E:zBF 121 237:=fun _=>by kernel_rfl);have HMK:=Lib.hid E;clear E;go_enter Tryz.func93,Tryz.ntmps93
 case' fAsks=>(have E:zBF 122 242:=fun _=>by kernel_rfl);have HMK:=Lib.hid E;clear E;go_enter Tryz.func94,Tryz.ntmps94
 case' fHits=>(have E:zBF 123 247:=fun _=>by kernel_rfl);have HMK:=Lib.hid E;clear E;go_enter Tryz.func95,Tryz.ntmps95
 case' fAnswers=>(have E:zBF 124 251:=fun _=>by kernel_rfl);have HMK:=Lib.hid E;clear E;go_enter Tryz.func96,Tryz.ntmps96
 case' fParts=>(have E:zBF 125 256:=fun _=>by kernel_rfl);have HMK:=Lib.hid E;clear E;go_enter Tryz.func97,Tryz.ntmps97
 case' fChanges=>(have E:zBF 126 261:=fun _=>by kernel_rfl);have HMK:=Lib.hid E;clear E;go_enter Tryz.func98,Tryz.ntmps98
 all_goals
  go_wp2_with fail
  go_loopw [3] (fun i wr=>i=.int .i64 0/\Hid (Below w.heap.size w wr)) (fun _ _=>0)
  case atStart=>exact⟨rfl,Below.refl _ _⟩
  case round =>
   obtain⟨rfl,B⟩:=hrel;have hmk:=HMK.out
   go_wp2_with fail
   have B1:=zKi HMK B;clear B hmk
   go_loopw [6] (fun i wr=>i=.int .i64 0/\Hid (Below w.heap.size w wr)) (fun _ _=>0)
   case atStart=>exact⟨rfl,B1.out⟩
   case round =>
    clear B1;obtain⟨rfl,B⟩:=hrel
    go_wp2_with fail
    have B2:=B;clear B
    go_loopw [9] (fun i wr=>i=.int .i64 0/\Hid (Below w.heap.size w wr)) (fun _ _=>0)
    case atStart=>exact⟨rfl,B2.out⟩
    case round =>
     clear B2;obtain⟨rfl,B⟩:=hrel
     go_wp2_with fail
     have B3:=B;clear B
     go_loopw [11] (fun i wr=>i=.int .i64 0/\Hid (Below w.heap.size w wr)) (fun _ _=>0)
     case atStart=>exact⟨rfl,B3.out⟩
     case round =>
      clear B3;obtain⟨rfl,B⟩:=hrel
      go_wp2_with fail
      have B4:=B;clear B
      go_loopw [14] (fun i wr=>i=.int .i64 0/\Hid (Below w.heap.size w wr)) (fun _ _=>0)
      case atStart=>exact⟨rfl,B4.out⟩
      case round =>
       clear B4;obtain⟨rfl,B⟩:=hrel
       go_wp2
       go_ret;exact⟨rfl,B.out⟩
theorem zEu:zBK 78:=zAr.1
theorem zEx:zBK 79:=zAr.2.1
theorem zE9:zBK 81:=zAr.2.2.1
theorem zEt:zBK 82:=zAr.2.2.2.1
theorem zE1:zBK 83:=zAr.2.2.2.2.1
theorem zEJ:zBK 84:=zAr.2.2.2.2.2.1
theorem zEv:zBK 85:=zAr.2.2.2.2.2.2.1
theorem zEz:zBK 86:=zAr.2.2.2.2.2.2.2.1
theorem zD9:zBK 87:=zAr.2.2.2.2.2.2.2.2.1
theorem zE4:zBK 88:=zAr.2.2.2.2.2.2.2.2.2.1
theorem zFQ:zBK 89:=zAr.2.2.2.2.2.2.2.2.2.2.1
theorem zEQ:zBK 90:=zAr.2.2.2.2.2.2.2.2.2.2.2.1
theorem zDu:zBK 91:=zAr.2.2.2.2.2.2.2.2.2.2.2.2.1
theorem zDe:zBK 92:=zAr.2.2.2.2.2.2.2.2.2.2.2.2.2.1
theorem zDg:zBK 93:=zAr.2.2.2.2.2.2.2.2.2.2.2.2.2.2.1
theorem zFU:zBK 94:=zAr.2.2.2.2.2.2.2.2.2.2.2.2.2.2.2.1
theorem zFP:zBK 95:=zAr.2.2.2.2.2.2.2.2.2.2.2.2.2.2.2.2.1
theorem zD8:zBK 96:=zAr.2.2.2.2.2.2.2.2.2.2.2.2.2.2.2.2.2.1
theorem zE2:zBK 97:=zAr.2.2.2.2.2.2.2.2.2.2.2.2.2.2.2.2.2.2.1
theorem zEA:zBK 98:=zAr.2.2.2.2.2.2.2.2.2.2.2.2.2.2.2.2.2.2.2
def zFF (base:Nat) (lsv:Value) (K:Nat) (V:Nat->Value) (N:Nat->Nat) (w:World):Prop:=∃ X,w.ownsRow base 55 1 lsv K (rowV V K)/\Fam 3 1 base w K V V N N X X
def RelA (base:Nat) (lsv:Value) (K:Nat) (V:Nat->Value) (N:Nat->Nat) (B0:Nat) (u v:World):Prop:=KeepBut (Mine K V) B0 u v/\(zFF base lsv K V N u->zFF base lsv K V N v)
section
variable {base:Nat} {lsv:Value} {K:Nat} {V:Nat->Value} {N:Nat->Nat} {B0:Nat}
theorem RelA.refl (w:World):RelA base lsv K V N B0 w w:=⟨KeepBut.refl _ _ _,id⟩
theorem RelA.trans (u v w:World) (h1:RelA base lsv K V N B0 u v) (h2:RelA base lsv K V N B0 v w):RelA base lsv K V N B0 u w:=⟨h1.1.trans h2.1,fun h=>h2.2 (h1.2 h)⟩
theorem RelA.size {w W:World} (h:RelA base lsv K V N w.heap.size w W):w.heap.size<=W.heap.size:=h.1.size
theorem RelA.rows {w W:World} (h:RelA base lsv K V N B0 w W) (h2:zFF base lsv K V N w):zFF base lsv K V N W:=h.2 h2
theorem KeepBut.cellOf {M:Nat->Prop} {B b o:Nat} {u v:World} (h:KeepBut M B u v) (hb:b<B) (hM:¬ M b):v.cell? ⟨b,o,none⟩=u.cell? ⟨b,o,none⟩:=World.cell?_of_block (h.old b hb hM)
theorem RelA.nil {f:FuncId} {args:Array Value} {W:World} (hs:B0<=W.heap.size) (h:Calls Tryz.prog f args W fun e w'=>e=.returned (.bool true)/\Below W.heap.size W w') :
  Calls Tryz.prog f args W fun e w'=>e=.returned (.bool true)/\RelA base lsv K V N B0 W w' :=
 h.mono fun _ _ ⟨he,hb⟩=>⟨he,KeepBut.of_below (hb.mono hs),fun ⟨X,h1,h2⟩=>⟨X,zBT h1 hb,h2.below hb⟩⟩
theorem RelA.ints {W:World} (hK:K<=1000) (hN:∀ j,j<K->N j<=4194304) (hr:zFF base lsv K V N W) (hs:B0<=W.heap.size) (hbase:base<=B0) :
  Calls Tryz.prog 80 #[lsv] W fun e w'=>e=.returned (.bool true)/\RelA base lsv K V N B0 W w':=by
 obtain⟨X,h1,h2⟩:=hr;refine(zIb lsv K base V N X W hK hN ⟨h1,h2,KeepBut.refl _ _ _,Nat.le_trans hbase hs⟩).mono fun e w' ⟨he,X',hf⟩=>⟨he,hf.below.mono hs (fun _ _ h=>h),fun _=>⟨X',hf.ls,hf.fam⟩⟩
end
def bagV (lsv:Value) (k:Nat):Value:=if k=2 then lsv else .slice none 0 0
theorem zHz (lsv:Value) (K base B:Nat) (V:Nat->Value) (N:Nat->Nat) (w:World) (hK:K<=1000) (hN:∀ j,j<K->N j<=4194304) (hrows:zFF base lsv K V N w) (hbase:base<=w.heap.size)
  (hB:B<w.heap.size) (hBM:¬ Mine K V B) (hbag:∀ k,k<21->w.cell? ⟨B,k,none⟩=some (bagV lsv k)) (hlsv:∃ p n c,lsv=.slice p n c) :
  Calls Tryz.prog 52 #[.pointer (some ⟨B,0,none⟩)] w fun e w'=>e=.returned (.bool true)/\RelA base lsv K V N w.heap.size w w':=by
 obtain⟨pl,nl,cl,rfl⟩:=hlsv;have HBAG:=Lib.hid hbag
 go_enter Tryz.func52,Tryz.ntmps52
 go_upto_region 1 with fail
 have hrefl:∀ W,(RelA base (.slice pl nl cl) K V N w.heap.size) W W:=(RelA.refl);refine zGX (RelA base (.slice pl nl cl) K V N w.heap.size) (RelA.refl) (RelA.trans) 145 [fun v _=>v=pt B 0,fun v _=>v=pt B 0,fun v _=>v=pt B 0,fun v _=>v=.slice none 0 0,fun v _=>v=.bool true,fun v _=>v=.bool true,fun v _=>v=pt B 0,fun v _=>v=pt B 0,fun v _=>v=pt B 1,fun v _=>v=.slice none 0 0,fun v _=>v=.bool true,fun v _=>v=.bool true,fun v _=>v=.bool true,fun v _=>v=pt B 0,fun v _=>v=pt B 0,fun v _=>v=pt B 2,fun v _=>v=(.slice pl nl cl),fun v _=>v=.bool true,fun v _=>v=.bool true,fun v _=>v=.bool true,fun v _=>v=pt B 0,fun v _=>v=pt B 0,fun v _=>v=pt B 3,fun v _=>v=.slice none 0 0,fun v _=>v=.bool true,fun v _=>v=.bool true,fun v _=>v=.bool true,fun v _=>v=pt B 0,fun v _=>v=pt B 0,fun v _=>v=pt B 4,fun v _=>v=.slice none 0 0,fun v _=>v=.bool true,fun v _=>v=.bool true,fun v _=>v=.bool true,fun v _=>v=pt B 0,fun v _=>v=pt B 0,fun v _=>v=pt B 5,fun v _=>v=.slice none 0 0,fun v _=>v=.bool true,fun v _=>v=.bool true,fun v _=>v=.bool true,fun v _=>v=pt B 0,fun v _=>v=pt B 0,fun v _=>v=pt B 6,fun v _=>v=.slice none 0 0,fun v _=>v=.bool true,fun v _=>v=.bool true,fun v _=>v=.bool true,fun v _=>v=pt B 0,fun v _=>v=pt B 0,fun v _=>v=pt B 7,fun v _=>v=.slice none 0 0,fun v _=>v=.bool true,fun v _=>v=.bool true,fun v _=>v=.bool true,fun v _=>v=pt B 0,fun v _=>v=pt B 0,fun v _=>v=pt B 8,fun v _=>v=.slice none 0 0,fun v _=>v=.bool true,fun v _=>v=.bool true,fun v _=>v=.bool true,fun v _=>v=pt B 0,fun v _=>v=pt B 0,fun v _=>v=pt B 9,fun v _=>v=.slice none 0 0,fun v _=>v=.bool true,fun v _=>v=.bool true,fun v _=>v=.bool true,fun v _=>v=pt B 0,fun v _=>v=pt B 0,fun v _=>v=pt B 10,fun v _=>v=.slice none 0 0,fun v _=>v=.bool true,fun v _=>v=.bool true,fun v _=>v=.bool true,fun v _=>v=pt B 0,fun v _=>v=pt B 0,fun v _=>v=pt B 11,fun v _=>v=.slice none 0 0,fun v _=>v=.bool true,fun v _=>v=.bool true,fun v _=>v=.bool true,fun v _=>v=pt B 0,fun v _=>v=pt B 0,fun v _=>v=pt B 12,fun v _=>v=.slice none 0 0,fun v _=>v=.bool true,fun v _=>v=.bool true,fun v _=>v=.bool true,fun v _=>v=pt B 0,fun v _=>v=pt B 0,fun v _=>v=pt B 13,fun v _=>v=.slice none 0 0,fun v _=>v=.bool true,fun v _=>v=.bool true,fun v _=>v=.bool true,fun v _=>v=pt B 0,fun v _=>v=pt B 0,fun v _=>v=pt B 14,fun v _=>v=.slice none 0 0,fun v _=>v=.bool true,fun v _=>v=.bool true,fun v _=>v=.bool true,fun v _=>v=pt B 0,fun v _=>v=pt B 0,fun v _=>v=pt B 15,fun v _=>v=.slice none 0 0,fun v _=>v=.bool true,fun v _=>v=.bool true,fun v _=>v=.bool true,fun v _=>v=pt B 0,fun v _=>v=pt B 0,fun v _=>v=pt B 16,fun v _=>v=.slice none 0 0,fun v _=>v=.bool true,fun v _=>v=.bool true,fun v _=>v=.bool true,fun v _=>v=pt B 0,fun v _=>v=pt B 0,fun v _=>v=pt B 17,fun v _=>v=.slice none 0 0,fun v _=>v=.bool true,fun v _=>v=.bool true,fun v _=>v=.bool true,fun v _=>v=pt B 0,fun v _=>v=pt B 0,fun v _=>v=pt B 18,fun v _=>v=.slice none 0 0,fun v _=>v=.bool true,fun v _=>v=.bool true,fun v _=>v=.bool true,fun v _=>v=pt B 0,fun v _=>v=pt B 0,fun v _=>v=pt B 19,fun v _=>v=.slice none 0 0,fun v _=>v=.bool true,fun v _=>v=.bool true,fun v _=>v=.bool true,fun v _=>v=pt B 0,fun v _=>v=pt B 0,fun v _=>v=pt B 20,fun v _=>v=.slice none 0 0,fun v _=>v=.bool true,fun v _=>v=.bool true] (by repeat (first|exact trivial|refine⟨zBr _,?_⟩)) (by kernel_rfl) (by kernel_rfl) ?ob ?en
 case ob =>
  refine⟨?_,?_,?_,?_,?_,?_,?_,?_,?_,?_,?_,?_,?_,?_,?_,?_,?_,?_,?_,?_,?_,?_,?_,?_,?_,?_,?_,?_,?_,?_,?_,?_,?_,?_,?_,?_,?_,?_,?_,?_,?_,?_,?_,?_,?_,?_,?_,?_,?_,?_,?_,?_,?_,?_,?_,?_,?_,?_,?_,?_,?_,?_,?_,?_,?_,?_,?_,?_,?_,?_,?_,?_,?_,?_,?_,?_,?_,?_,?_,?_,?_,?_,?_,?_,?_,?_,?_,?_,?_,?_,?_,?_,?_,?_,?_,?_,?_,?_,?_,?_,?_,?_,?_,?_,?_,?_,?_,?_,?_,?_,?_,?_,?_,?_,?_,?_,?_,?_,?_,?_,?_,?_,?_,?_,?_,?_,?_,?_,?_,?_,?_,?_,?_,?_,?_,?_,?_,?_,?_,?_,?_,?_,?_,?_,?_,trivial⟩<;>intro A W h
  ·exact zAR hrefl rfl rfl (h.f 0)
  ·(have e3:A.eval (.tmp 3)=.pointer (some ⟨B,0,none⟩):=h.d 0 3;refine zAH hrefl rfl ?_;simp only[execOp,e3];simp[go_sem])
  ·(have e4:A.eval (.tmp 4)=.pointer (some ⟨B,0,none⟩):=h.d 1 4;refine zAH hrefl rfl ?_;simp only[execOp,e4];simp[go_sem])
  ·(have e5:A.eval (.tmp 5)=.pointer (some ⟨B,0,none⟩):=h.d 2 5;refine zAH hrefl rfl ?_;simp only[execOp,e5];(have q:=(h.rel.1.cellOf hB hBM).trans (hbag 0 (by omega));simp[bagV]at q;simp[go_sem,q]))
  ·exact zAw rfl rfl (enters_of Tryz.func78 (by kernel_rfl) rfl) (zCN (h.d 3 6)) (RelA.nil (RelA.size h.rel) (zEu W))
  ·exact zAR hrefl rfl rfl (h.d 4 7)
  ·exact zAR hrefl (wg (h.d 5 8)) rfl (h.f 0)
  ·(have e9:A.eval (.tmp 9)=.pointer (some ⟨B,0,none⟩):=h.d 6 9;refine zAH hrefl (wg (h.d 5 8)) ?_;simp only[execOp,e9];simp[go_sem])
  ·(have e10:A.eval (.tmp 10)=.pointer (some ⟨B,0,none⟩):=h.d 7 10;refine zAH hrefl (wg (h.d 5 8)) ?_;simp only[execOp,e10];simp[go_sem])
  ·(have e11:A.eval (.tmp 11)=.pointer (some ⟨B,1,none⟩):=h.d 8 11;refine zAH hrefl (wg (h.d 5 8)) ?_;simp only[execOp,e11];(have q:=(h.rel.1.cellOf hB hBM).trans (hbag 1 (by omega));simp[bagV]at q;simp[go_sem,q]))
  ·exact zAw (wg (h.d 5 8)) rfl (enters_of Tryz.func79 (by kernel_rfl) rfl) (zCN (h.d 9 12)) (RelA.nil (RelA.size h.rel) (zEx W))
  ·exact zBJ hrefl rfl rfl (h.d 5 8) (h.d 10 13)
  ·exact zAR hrefl rfl rfl (h.d 11 14)
  ·exact zAR hrefl (wg (h.d 12 15)) rfl (h.f 0)
  ·(have e16:A.eval (.tmp 16)=.pointer (some ⟨B,0,none⟩):=h.d 13 16;refine zAH hrefl (wg (h.d 12 15)) ?_;simp only[execOp,e16];simp[go_sem])
  ·(have e17:A.eval (.tmp 17)=.pointer (some ⟨B,0,none⟩):=h.d 14 17;refine zAH hrefl (wg (h.d 12 15)) ?_;simp only[execOp,e17];simp[go_sem])
  ·(have e18:A.eval (.tmp 18)=.pointer (some ⟨B,2,none⟩):=h.d 15 18;refine zAH hrefl (wg (h.d 12 15)) ?_;simp only[execOp,e18];(have q:=(h.rel.1.cellOf hB hBM).trans (hbag 2 (by omega));simp[bagV]at q;simp[go_sem,q]))
  ·exact zAw (wg (h.d 12 15)) rfl (enters_of Tryz.func80 (by kernel_rfl) rfl) (zCN (h.d 16 19)) (RelA.ints hK hN (RelA.rows h.rel hrows) (RelA.size h.rel) hbase)
  ·exact zBJ hrefl rfl rfl (h.d 12 15) (h.d 17 20)
  ·exact zAR hrefl rfl rfl (h.d 18 21)
  ·exact zAR hrefl (wg (h.d 19 22)) rfl (h.f 0)
  ·(have e23:A.eval (.tmp 23)=.pointer (some ⟨B,0,none⟩):=h.d 20 23;refine zAH hrefl (wg (h.d 19 22)) ?_;simp only[execOp,e23];simp[go_sem])
  ·(have e24:A.eval (.tmp 24)=.pointer (some ⟨B,0,none⟩):=h.d 21 24;refine zAH hrefl (wg (h.d 19 22)) ?_;simp only[execOp,e24];simp[go_sem])
  ·(have e25:A.eval (.tmp 25)=.pointer (some ⟨B,3,none⟩):=h.d 22 25;refine zAH hrefl (wg (h.d 19 22)) ?_;simp only[execOp,e25];(have q:=(h.rel.1.cellOf hB hBM).trans (hbag 3 (by omega));simp[bagV]at q;simp[go_sem,q]))
  ·exact zAw (wg (h.d 19 22)) rfl (enters_of Tryz.func81 (by kernel_rfl) rfl) (zCN (h.d 23 26)) (RelA.nil (RelA.size h.rel) (zE9 W))
  ·exact zBJ hrefl rfl rfl (h.d 19 22) (h.d 24 27)
  ·exact zAR hrefl rfl rfl (h.d 25 28)
  ·exact zAR hrefl (wg (h.d 26 29)) rfl (h.f 0)
  ·(have e30:A.eval (.tmp 30)=.pointer (some ⟨B,0,none⟩):=h.d 27 30;refine zAH hrefl (wg (h.d 26 29)) ?_;simp only[execOp,e30];simp[go_sem])
  ·(have e31:A.eval (.tmp 31)=.pointer (some ⟨B,0,none⟩):=h.d 28 31;refine zAH hrefl (wg (h.d 26 29)) ?_;simp only[execOp,e31];simp[go_sem])
  ·(have e32:A.eval (.tmp 32)=.pointer (some ⟨B,4,none⟩):=h.d 29 32;refine zAH hrefl (wg (h.d 26 29)) ?_;simp only[execOp,e32];(have q:=(h.rel.1.cellOf hB hBM).trans (hbag 4 (by omega));simp[bagV]at q;simp[go_sem,q]))
  ·exact zAw (wg (h.d 26 29)) rfl (enters_of Tryz.func82 (by kernel_rfl) rfl) (zCN (h.d 30 33)) (RelA.nil (RelA.size h.rel) (zEt W))
  ·exact zBJ hrefl rfl rfl (h.d 26 29) (h.d 31 34)
  ·exact zAR hrefl rfl rfl (h.d 32 35)
  ·exact zAR hrefl (wg (h.d 33 36)) rfl (h.f 0)
  ·(have e37:A.eval (.tmp 37)=.pointer (some ⟨B,0,none⟩):=h.d 34 37;refine zAH hrefl (wg (h.d 33 36)) ?_;simp only[execOp,e37];simp[go_sem])
  ·(have e38:A.eval (.tmp 38)=.pointer (some ⟨B,0,none⟩):=h.d 35 38;refine zAH hrefl (wg (h.d 33 36)) ?_;simp only[execOp,e38];simp[go_sem])
  ·(have e39:A.eval (.tmp 39)=.pointer (some ⟨B,5,none⟩):=h.d 36 39;refine zAH hrefl (wg (h.d 33 36)) ?_;simp only[execOp,e39];(have q:=(h.rel.1.cellOf hB hBM).trans (hbag 5 (by omega));simp[bagV]at q;simp[go_sem,q]))
  ·exact zAw (wg (h.d 33 36)) rfl (enters_of Tryz.func83 (by kernel_rfl) rfl) (zCN (h.d 37 40)) (RelA.nil (RelA.size h.rel) (zE1 W))
  ·exact zBJ hrefl rfl rfl (h.d 33 36) (h.d 38 41)
  ·exact zAR hrefl rfl rfl (h.d 39 42)
  ·exact zAR hrefl (wg (h.d 40 43)) rfl (h.f 0)
  ·(have e44:A.eval (.tmp 44)=.pointer (some ⟨B,0,none⟩):=h.d 41 44;refine zAH hrefl (wg (h.d 40 43)) ?_;simp only[execOp,e44];simp[go_sem])
  ·(have e45:A.eval (.tmp 45)=.pointer (some ⟨B,0,none⟩):=h.d 42 45;refine zAH hrefl (wg (h.d 40 43)) ?_;simp only[execOp,e45];simp[go_sem])
  ·(have e46:A.eval (.tmp 46)=.pointer (some ⟨B,6,none⟩):=h.d 43 46;refine zAH hrefl (wg (h.d 40 43)) ?_;simp only[execOp,e46];(have q:=(h.rel.1.cellOf hB hBM).trans (hbag 6 (by omega));simp[bagV]at q;simp[go_sem,q]))
  ·exact zAw (wg (h.d 40 43)) rfl (enters_of Tryz.func84 (by kernel_rfl) rfl) (zCN (h.d 44 47)) (RelA.nil (RelA.size h.rel) (zEJ W))
  ·exact zBJ hrefl rfl rfl (h.d 40 43) (h.d 45 48)
  ·exact zAR hrefl rfl rfl (h.d 46 49)
  ·exact zAR hrefl (wg (h.d 47 50)) rfl (h.f 0)
  ·(have e51:A.eval (.tmp 51)=.pointer (some ⟨B,0,none⟩):=h.d 48 51;refine zAH hrefl (wg (h.d 47 50)) ?_;simp only[execOp,e51];simp[go_sem])
  ·(have e52:A.eval (.tmp 52)=.pointer (some ⟨B,0,none⟩):=h.d 49 52;refine zAH hrefl (wg (h.d 47 50)) ?_;simp only[execOp,e52];simp[go_sem])
  ·(have e53:A.eval (.tmp 53)=.pointer (some ⟨B,7,none⟩):=h.d 50 53;refine zAH hrefl (wg (h.d 47 50)) ?_;simp only[execOp,e53];(have q:=(h.rel.1.cellOf hB hBM).trans (hbag 7 (by omega));simp[bagV]at q;simp[go_sem,q]))
  ·exact zAw (wg (h.d 47 50)) rfl (enters_of Tryz.func85 (by kernel_rfl) rfl) (zCN (h.d 51 54)) (RelA.nil (RelA.size h.rel) (zEv W))
  ·exact zBJ hrefl rfl rfl (h.d 47 50) (h.d 52 55)
  ·exact zAR hrefl rfl rfl (h.d 53 56)
  ·exact zAR hrefl (wg (h.d 54 57)) rfl (h.f 0)
  ·(have e58:A.eval (.tmp 58)=.pointer (some ⟨B,0,none⟩):=h.d 55 58;refine zAH hrefl (wg (h.d 54 57)) ?_;simp only[execOp,e58];simp[go_sem])
  ·(have e59:A.eval (.tmp 59)=.pointer (some ⟨B,0,none⟩):=h.d 56 59;refine zAH hrefl (wg (h.d 54 57)) ?_;simp only[execOp,e59];simp[go_sem])
  ·(have e60:A.eval (.tmp 60)=.pointer (some ⟨B,8,none⟩):=h.d 57 60;refine zAH hrefl (wg (h.d 54 57)) ?_;simp only[execOp,e60];(have q:=(h.rel.1.cellOf hB hBM).trans (hbag 8 (by omega));simp[bagV]at q;simp[go_sem,q]))
  ·exact zAw (wg (h.d 54 57)) rfl (enters_of Tryz.func86 (by kernel_rfl) rfl) (zCN (h.d 58 61)) (RelA.nil (RelA.size h.rel) (zEz W))
  ·exact zBJ hrefl rfl rfl (h.d 54 57) (h.d 59 62)
  ·exact zAR hrefl rfl rfl (h.d 60 63)
  ·exact zAR hrefl (wg (h.d 61 64)) rfl (h.f 0)
  ·(have e65:A.eval (.tmp 65)=.pointer (some ⟨B,0,none⟩):=h.d 62 65;refine zAH hrefl (wg (h.d 61 64)) ?_;simp only[execOp,e65];simp[go_sem])
  ·(have e66:A.eval (.tmp 66)=.pointer (some ⟨B,0,none⟩):=h.d 63 66;refine zAH hrefl (wg (h.d 61 64)) ?_;simp only[execOp,e66];simp[go_sem])
  ·(have e67:A.eval (.tmp 67)=.pointer (some ⟨B,9,none⟩):=h.d 64 67;refine zAH hrefl (wg (h.d 61 64)) ?_;simp only[execOp,e67];(have q:=(h.rel.1.cellOf hB hBM).trans (hbag 9 (by omega));simp[bagV]at q;simp[go_sem,q]))
  ·exact zAw (wg (h.d 61 64)) rfl (enters_of Tryz.func87 (by kernel_rfl) rfl) (zCN (h.d 65 68)) (RelA.nil (RelA.size h.rel) (zD9 W))
  ·exact zBJ hrefl rfl rfl (h.d 61 64) (h.d 66 69)
  ·exact zAR hrefl rfl rfl (h.d 67 70)
  ·exact zAR hrefl (wg (h.d 68 71)) rfl (h.f 0)
  ·(have e72:A.eval (.tmp 72)=.pointer (some ⟨B,0,none⟩):=h.d 69 72;refine zAH hrefl (wg (h.d 68 71)) ?_;simp only[execOp,e72];simp[go_sem])
  ·(have e73:A.eval (.tmp 73)=.pointer (some ⟨B,0,none⟩):=h.d 70 73;refine zAH hrefl (wg (h.d 68 71)) ?_;simp only[execOp,e73];simp[go_sem])
  ·(have e74:A.eval (.tmp 74)=.pointer (some ⟨B,10,none⟩):=h.d 71 74;refine zAH hrefl (wg (h.d 68 71)) ?_;simp only[execOp,e74];(have q:=(h.rel.1.cellOf hB hBM).trans (hbag 10 (by omega));simp[bagV]at q;simp[go_sem,q]))
  ·exact zAw (wg (h.d 68 71)) rfl (enters_of Tryz.func88 (by kernel_rfl) rfl) (zCN (h.d 72 75)) (RelA.nil (RelA.size h.rel) (zE4 W))
  ·exact zBJ hrefl rfl rfl (h.d 68 71) (h.d 73 76)
  ·exact zAR hrefl rfl rfl (h.d 74 77)
  ·exact zAR hrefl (wg (h.d 75 78)) rfl (h.f 0)
  ·(have e79:A.eval (.tmp 79)=.pointer (some ⟨B,0,none⟩):=h.d 76 79;refine zAH hrefl (wg (h.d 75 78)) ?_;simp only[execOp,e79];simp[go_sem])
  ·(have e80:A.eval (.tmp 80)=.pointer (some ⟨B,0,none⟩):=h.d 77 80;refine zAH hrefl (wg (h.d 75 78)) ?_;simp only[execOp,e80];simp[go_sem])
  ·(have e81:A.eval (.tmp 81)=.pointer (some ⟨B,11,none⟩):=h.d 78 81;refine zAH hrefl (wg (h.d 75 78)) ?_;simp only[execOp,e81];(have q:=(h.rel.1.cellOf hB hBM).trans (hbag 11 (by omega));simp[bagV]at q;simp[go_sem,q]))
  ·exact zAw (wg (h.d 75 78)) rfl (enters_of Tryz.func89 (by kernel_rfl) rfl) (zCN (h.d 79 82)) (RelA.nil (RelA.size h.rel) (zFQ W))
  ·exact zBJ hrefl rfl rfl (h.d 75 78) (h.d 80 83)
  ·exact zAR hrefl rfl rfl (h.d 81 84)
  ·exact zAR hrefl (wg (h.d 82 85)) rfl (h.f 0)
  ·(have e86:A.eval (.tmp 86)=.pointer (some ⟨B,0,none⟩):=h.d 83 86;refine zAH hrefl (wg (h.d 82 85)) ?_;simp only[execOp,e86];simp[go_sem])
  ·(have e87:A.eval (.tmp 87)=.pointer (some ⟨B,0,none⟩):=h.d 84 87;refine zAH hrefl (wg (h.d 82 85)) ?_;simp only[execOp,e87];simp[go_sem])
  ·(have e88:A.eval (.tmp 88)=.pointer (some ⟨B,12,none⟩):=h.d 85 88;refine zAH hrefl (wg (h.d 82 85)) ?_;simp only[execOp,e88];(have q:=(h.rel.1.cellOf hB hBM).trans (hbag 12 (by omega));simp[bagV]at q;simp[go_sem,q]))
  ·exact zAw (wg (h.d 82 85)) rfl (enters_of Tryz.func90 (by kernel_rfl) rfl) (zCN (h.d 86 89)) (RelA.nil (RelA.size h.rel) (zEQ W))
  ·exact zBJ hrefl rfl rfl (h.d 82 85) (h.d 87 90)
  ·exact zAR hrefl rfl rfl (h.d 88 91)
  ·exact zAR hrefl (wg (h.d 89 92)) rfl (h.f 0)
  ·(have e93:A.eval (.tmp 93)=.pointer (some ⟨B,0,none⟩):=h.d 90 93;refine zAH hrefl (wg (h.d 89 92)) ?_;simp only[execOp,e93];simp[go_sem])
  ·(have e94:A.eval (.tmp 94)=.pointer (some ⟨B,0,none⟩):=h.d 91 94;refine zAH hrefl (wg (h.d 89 92)) ?_;simp only[execOp,e94];simp[go_sem])
  ·(have e95:A.eval (.tmp 95)=.pointer (some ⟨B,13,none⟩):=h.d 92 95;refine zAH hrefl (wg (h.d 89 92)) ?_;simp only[execOp,e95];(have q:=(h.rel.1.cellOf hB hBM).trans (hbag 13 (by omega));simp[bagV]at q;simp[go_sem,q]))
  ·exact zAw (wg (h.d 89 92)) rfl (enters_of Tryz.func91 (by kernel_rfl) rfl) (zCN (h.d 93 96)) (RelA.nil (RelA.size h.rel) (zDu W))
  ·exact zBJ hrefl rfl rfl (h.d 89 92) (h.d 94 97)
  ·exact zAR hrefl rfl rfl (h.d 95 98)
  ·exact zAR hrefl (wg (h.d 96 99)) rfl (h.f 0)
  ·(have e100:A.eval (.tmp 100)=.pointer (some ⟨B,0,none⟩):=h.d 97 100;refine zAH hrefl (wg (h.d 96 99)) ?_;simp only[execOp,e100];simp[go_sem])
  ·(have e101:A.eval (.tmp 101)=.pointer (some ⟨B,0,none⟩):=h.d 98 101;refine zAH hrefl (wg (h.d 96 99)) ?_;simp only[execOp,e101];simp[go_sem])
  ·(have e102:A.eval (.tmp 102)=.pointer (some ⟨B,14,none⟩):=h.d 99 102;refine zAH hrefl (wg (h.d 96 99)) ?_;simp only[execOp,e102];(have q:=(h.rel.1.cellOf hB hBM).trans (hbag 14 (by omega));simp[bagV]at q;simp[go_sem,q]))
  ·exact zAw (wg (h.d 96 99)) rfl (enters_of Tryz.func92 (by kernel_rfl) rfl) (zCN (h.d 100 103)) (RelA.nil (RelA.size h.rel) (zDe W))
  ·exact zBJ hrefl rfl rfl (h.d 96 99) (h.d 101 104)
  ·exact zAR hrefl rfl rfl (h.d 102 105)
  ·exact zAR hrefl (wg (h.d 103 106)) rfl (h.f 0)
  ·(have e107:A.eval (.tmp 107)=.pointer (some ⟨B,0,none⟩):=h.d 104 107;refine zAH hrefl (wg (h.d 103 106)) ?_;simp only[execOp,e107];simp[go_sem])
  ·(have e108:A.eval (.tmp 108)=.pointer (some ⟨B,0,none⟩):=h.d 105 108;refine zAH hrefl (wg (h.d 103 106)) ?_;simp only[execOp,e108];simp[go_sem])
  ·(have e109:A.eval (.tmp 109)=.pointer (some ⟨B,15,none⟩):=h.d 106 109;refine zAH hrefl (wg (h.d 103 106)) ?_;simp only[execOp,e109];(have q:=(h.rel.1.cellOf hB hBM).trans (hbag 15 (by omega));simp[bagV]at q;simp[go_sem,q]))
  ·exact zAw (wg (h.d 103 106)) rfl (enters_of Tryz.func93 (by kernel_rfl) rfl) (zCN (h.d 107 110)) (RelA.nil (RelA.size h.rel) (zDg W))
  ·exact zBJ hrefl rfl rfl (h.d 103 106) (h.d 108 111)
  ·exact zAR hrefl rfl rfl (h.d 109 112)
  ·exact zAR hrefl (wg (h.d 110 113)) rfl (h.f 0)
  ·(have e114:A.eval (.tmp 114)=.pointer (some ⟨B,0,none⟩):=h.d 111 114;refine zAH hrefl (wg (h.d 110 113)) ?_;simp only[execOp,e114];simp[go_sem])
  ·(have e115:A.eval (.tmp 115)=.pointer (some ⟨B,0,none⟩):=h.d 112 115;refine zAH hrefl (wg (h.d 110 113)) ?_;simp only[execOp,e115];simp[go_sem])
  ·(have e116:A.eval (.tmp 116)=.pointer (some ⟨B,16,none⟩):=h.d 113 116;refine zAH hrefl (wg (h.d 110 113)) ?_;simp only[execOp,e116];(have q:=(h.rel.1.cellOf hB hBM).trans (hbag 16 (by omega));simp[bagV]at q;simp[go_sem,q]))
  ·exact zAw (wg (h.d 110 113)) rfl (enters_of Tryz.func94 (by kernel_rfl) rfl) (zCN (h.d 114 117)) (RelA.nil (RelA.size h.rel) (zFU W))
  ·exact zBJ hrefl rfl rfl (h.d 110 113) (h.d 115 118)
  ·exact zAR hrefl rfl rfl (h.d 116 119)
  ·exact zAR hrefl (wg (h.d 117 120)) rfl (h.f 0)
  ·(have e121:A.eval (.tmp 121)=.pointer (some ⟨B,0,none⟩):=h.d 118 121;refine zAH hrefl (wg (h.d 117 120)) ?_;simp only[execOp,e121];simp[go_sem])
  ·(have e122:A.eval (.tmp 122)=.pointer (some ⟨B,0,none⟩):=h.d 119 122;refine zAH hrefl (wg (h.d 117 120)) ?_;simp only[execOp,e122];simp[go_sem])
  ·(have e123:A.eval (.tmp 123)=.pointer (some ⟨B,17,none⟩):=h.d 120 123;refine zAH hrefl (wg (h.d 117 120)) ?_;simp only[execOp,e123];(have q:=(h.rel.1.cellOf hB hBM).trans (hbag 17 (by omega));simp[bagV]at q;simp[go_sem,q]))
  ·exact zAw (wg (h.d 117 120)) rfl (enters_of Tryz.func95 (by kernel_rfl) rfl) (zCN (h.d 121 124)) (RelA.nil (RelA.size h.rel) (zFP W))
  ·exact zBJ hrefl rfl rfl (h.d 117 120) (h.d 122 125)
  ·exact zAR hrefl rfl rfl (h.d 123 126)
  ·exact zAR hrefl (wg (h.d 124 127)) rfl (h.f 0)
  ·(have e128:A.eval (.tmp 128)=.pointer (some ⟨B,0,none⟩):=h.d 125 128;refine zAH hrefl (wg (h.d 124 127)) ?_;simp only[execOp,e128];simp[go_sem])
  ·(have e129:A.eval (.tmp 129)=.pointer (some ⟨B,0,none⟩):=h.d 126 129;refine zAH hrefl (wg (h.d 124 127)) ?_;simp only[execOp,e129];simp[go_sem])
  ·(have e130:A.eval (.tmp 130)=.pointer (some ⟨B,18,none⟩):=h.d 127 130;refine zAH hrefl (wg (h.d 124 127)) ?_;simp only[execOp,e130];(have q:=(h.rel.1.cellOf hB hBM).trans (hbag 18 (by omega));simp[bagV]at q;simp[go_sem,q]))
  ·exact zAw (wg (h.d 124 127)) rfl (enters_of Tryz.func96 (by kernel_rfl) rfl) (zCN (h.d 128 131)) (RelA.nil (RelA.size h.rel) (zD8 W))
  ·exact zBJ hrefl rfl rfl (h.d 124 127) (h.d 129 132)
  ·exact zAR hrefl rfl rfl (h.d 130 133)
  ·exact zAR hrefl (wg (h.d 131 134)) rfl (h.f 0)
  ·(have e135:A.eval (.tmp 135)=.pointer (some ⟨B,0,none⟩):=h.d 132 135;refine zAH hrefl (wg (h.d 131 134)) ?_;simp only[execOp,e135];simp[go_sem])
  ·(have e136:A.eval (.tmp 136)=.pointer (some ⟨B,0,none⟩):=h.d 133 136;refine zAH hrefl (wg (h.d 131 134)) ?_;simp only[execOp,e136];simp[go_sem])
  ·(have e137:A.eval (.tmp 137)=.pointer (some ⟨B,19,none⟩):=h.d 134 137;refine zAH hrefl (wg (h.d 131 134)) ?_;simp only[execOp,e137];(have q:=(h.rel.1.cellOf hB hBM).trans (hbag 19 (by omega));simp[bagV]at q;simp[go_sem,q]))
  ·exact zAw (wg (h.d 131 134)) rfl (enters_of Tryz.func97 (by kernel_rfl) rfl) (zCN (h.d 135 138)) (RelA.nil (RelA.size h.rel) (zE2 W))
  ·exact zBJ hrefl rfl rfl (h.d 131 134) (h.d 136 139)
  ·exact zAR hrefl rfl rfl (h.d 137 140)
  ·exact zAR hrefl (wg (h.d 138 141)) rfl (h.f 0)
  ·(have e142:A.eval (.tmp 142)=.pointer (some ⟨B,0,none⟩):=h.d 139 142;refine zAH hrefl (wg (h.d 138 141)) ?_;simp only[execOp,e142];simp[go_sem])
  ·(have e143:A.eval (.tmp 143)=.pointer (some ⟨B,0,none⟩):=h.d 140 143;refine zAH hrefl (wg (h.d 138 141)) ?_;simp only[execOp,e143];simp[go_sem])
  ·(have e144:A.eval (.tmp 144)=.pointer (some ⟨B,20,none⟩):=h.d 141 144;refine zAH hrefl (wg (h.d 138 141)) ?_;simp only[execOp,e144];(have q:=(h.rel.1.cellOf hB hBM).trans (hbag 20 (by omega));simp[bagV]at q;simp[go_sem,q]))
  ·exact zAw (wg (h.d 138 141)) rfl (enters_of Tryz.func98 (by kernel_rfl) rfl) (zCN (h.d 142 145)) (RelA.nil (RelA.size h.rel) (zEA W))
  ·exact zBJ hrefl rfl rfl (h.d 138 141) (h.d 143 146)
 case en =>
  intro vals W hbw hv;simp only[List.append,fa,Nat.reduceAdd];rw[e_ hv 0,e_ hv 1,e_ hv 2,e_ hv 3,e_ hv 4,e_ hv 5,e_ hv 6,e_ hv 7,e_ hv 8,e_ hv 9,e_ hv 10,e_ hv 11,e_ hv 12,e_ hv 13,e_ hv 14,e_ hv 15,e_ hv 16,e_ hv 17,e_ hv 18,e_ hv 19,e_ hv 20,e_ hv 21,e_ hv 22,e_ hv 23,e_ hv 24,e_ hv 25,e_ hv 26,e_ hv 27,e_ hv 28,e_ hv 29,e_ hv 30,e_ hv 31,e_ hv 32,e_ hv 33,e_ hv 34,e_ hv 35,e_ hv 36,e_ hv 37,e_ hv 38,e_ hv 39,e_ hv 40,e_ hv 41,e_ hv 42,e_ hv 43,e_ hv 44,e_ hv 45,e_ hv 46,e_ hv 47,e_ hv 48,e_ hv 49,e_ hv 50,e_ hv 51,e_ hv 52,e_ hv 53,e_ hv 54,e_ hv 55,e_ hv 56,e_ hv 57,e_ hv 58,e_ hv 59,e_ hv 60,e_ hv 61,e_ hv 62,e_ hv 63,e_ hv 64,e_ hv 65,e_ hv 66,e_ hv 67,e_ hv 68,e_ hv 69,e_ hv 70,e_ hv 71,e_ hv 72,e_ hv 73,e_ hv 74,e_ hv 75,e_ hv 76,e_ hv 77,e_ hv 78,e_ hv 79,e_ hv 80,e_ hv 81,e_ hv 82,e_ hv 83,e_ hv 84,e_ hv 85,e_ hv 86,e_ hv 87,e_ hv 88,e_ hv 89,e_ hv 90,e_ hv 91,e_ hv 92,e_ hv 93,e_ hv 94,e_ hv 95,e_ hv 96,e_ hv 97,e_ hv 98,e_ hv 99,e_ hv 100,e_ hv 101,e_ hv 102,e_ hv 103,e_ hv 104,e_ hv 105,e_ hv 106,e_ hv 107,e_ hv 108,e_ hv 109,e_ hv 110,e_ hv 111,e_ hv 112,e_ hv 113,e_ hv 114,e_ hv 115,e_ hv 116,e_ hv 117,e_ hv 118,e_ hv 119,e_ hv 120,e_ hv 121,e_ hv 122,e_ hv 123,e_ hv 124,e_ hv 125,e_ hv 126,e_ hv 127,e_ hv 128,e_ hv 129,e_ hv 130,e_ hv 131,e_ hv 132,e_ hv 133,e_ hv 134,e_ hv 135,e_ hv 136,e_ hv 137,e_ hv 138,e_ hv 139,e_ hv 140,e_ hv 141,e_ hv 142,e_ hv 143,e_ hv 144]
  clear hv
  try simp only[pl]
  have R:=Lib.hid hbw;clear hbw
  go_wp2
  go_ret;exact⟨rfl,R.out⟩
def bagC (lsv:Value):Array Value:=#[.slice none 0 0,.slice none 0 0,lsv,.slice none 0 0,.slice none 0 0,.slice none 0 0,.slice none 0 0,.slice none 0 0,.slice none 0 0,.slice none 0 0,.slice none 0 0,.slice none 0 0,.slice none 0 0,.slice none 0 0,.slice none 0 0,.slice none 0 0,.slice none 0 0,.slice none 0 0,.slice none 0 0,.slice none 0 0,.slice none 0 0]
def Bag (W:World) (B:Nat) (lsv:Value):Prop:=W.heap[B]?=some (.cells (bagC lsv) 128 (0,0))
theorem Bag.lt {W:World} {B:Nat} {lsv:Value} (h:Bag W B lsv):B<W.heap.size:=(Array.getElem?_eq_some_iff.1 h).1
theorem Bag.cell {W:World} {B:Nat} {lsv:Value} (h:Bag W B lsv) {k:Nat} (hk:k<21):W.cell? ⟨B,k,none⟩=some (bagV lsv k):=by
 rw[cell_of_row W B k _ _ _ h];have:∀ k,k<21->(bagC lsv)[k]?=some (bagV lsv k):=by
  intro k hk
  match k,hk with
  | 0,_=>rfl
  | 1,_=>rfl
  | 2,_=>rfl
  | 3,_=>rfl
  | 4,_=>rfl
  | 5,_=>rfl
  | 6,_=>rfl
  | 7,_=>rfl
  | 8,_=>rfl
  | 9,_=>rfl
  | 10,_=>rfl
  | 11,_=>rfl
  | 12,_=>rfl
  | 13,_=>rfl
  | 14,_=>rfl
  | 15,_=>rfl
  | 16,_=>rfl
  | 17,_=>rfl
  | 18,_=>rfl
  | 19,_=>rfl
  | 20,_=>rfl
  | k+21,hk=>exact absurd hk (by omega)
 exact this k hk
theorem Bag.frozen {W:World} {B:Nat} {lsv:Value} (h:Bag W B lsv) (k:Nat):W.frozen? ⟨B,k,none⟩=false:=by
 simp[World.frozen?,show W.heap[B]?=_ from h]
theorem Bag.set {W:World} {B:Nat} {lsv:Value} (h:Bag W B lsv) (x:Value):Bag (W.setCell ⟨B,2,none⟩ x) B x:=by
 obtain⟨hlt,hh⟩:=Array.getElem?_eq_some_iff.1 h
 show (W.heap.modify B _)[B]?=_
 rw[Array.getElem?_eq_getElem (by rw[Array.size_modify];exact hlt),Array.getElem_modify_self,hh]
 rfl
theorem Bag.kept {W W':World} {B:Nat} {lsv:Value} {row:Option Nat} (h:Bag W B lsv) (hg:W.grownBy W' row) (hr:row≠some B):Bag W' B lsv:=(hg.block B h.lt (fun e=>hr e.symm)).trans h
theorem Bag.below {W W':World} {B:Nat} {lsv:Value} (h:Bag W B lsv) (hb:Below W.heap.size W W'):Bag W' B lsv:=(hb.block B h.lt).trans h
theorem Bag.ne {W:World} {B:Nat} {lsv:Value} (h:Bag W B lsv) {base:Nat} {e:TypeId} {s:Nat} {v:Value} {n:Nat} {xs:List Value} (ho:W.ownsRow base e s v n xs) (hne:e≠128):v.ownBlock≠some B:=by
 intro hb;obtain⟨_,_,cur,hc⟩:=zAm ho hb;rw[show W.heap[B]?=_ from h]at hc
 cases hc
 exact hne rfl
theorem zIr (B b0 k:Nat) (lsv l:Value) (xs:List Value) (w:World) (hk:k<=1000) (hbag:Bag w B lsv) (hown:w.ownsRow b0 55 1 lsv k xs) (hb0:b0<=B) (hl:∃ p n c,l=.slice p n c) :
  Calls Tryz.prog 51 #[.pointer (some ⟨B,0,none⟩),l] w fun e w'=>e=.returned (.tuple #[])/\∃ lsv',Bag w' B lsv'/\w'.ownsRow b0 55 1 lsv' (k+1) (xs++[l])/\Below b0 w w':=by
 obtain⟨i3,hi3,hy0,hy1,hy2⟩:=info_parts zIf;obtain⟨pl,nl,cl,rfl⟩:=hl;obtain⟨pv,cv,rfl⟩:=zBf hown;have hlt:=hbag.lt;have HB:=Lib.hid hbag;clear hbag;have HO:=Lib.hid hown;clear hown
 go_enter Tryz.func51,Tryz.ntmps51
 go_upto_region 0 with fail
 refine zB1 7 [fun v _=>v=pt B 0,fun v _=>v=pt B 0,fun v _=>v=pt B 0,fun v _=>v=pt B 2,fun v _=>v=.slice pv k cv,fun v _=>v=.slice pl nl cl,OneV 55 (.slice pl nl cl)] (fun _=>false) (by kernel_rfl) (by kernel_rfl) (by repeat (first|exact trivial|refine⟨zAI _,?_⟩|refine⟨zF9 _ _,?_⟩)) (fun _ _ h=>by cases h) ?ob ?en
 case ob =>
  refine⟨?_,?_,?_,?_,?_,?_,?_,trivial⟩<;>intro A W h
  ·exact zAB rfl rfl (h.f 0)
  ·exact zAB rfl rfl (h.f 0)
  ·(have e5:A.eval (.tmp 5)=.pointer (some ⟨B,0,none⟩):=h.d 1 5;refine zAA rfl ?_;simp only[execOp,e5];simp[go_sem])
  ·(have e6:A.eval (.tmp 6)=.pointer (some ⟨B,0,none⟩):=h.d 2 6;refine zAA rfl ?_;simp only[execOp,e6];simp[go_sem])
  ·(have e7:A.eval (.tmp 7)=.pointer (some ⟨B,2,none⟩):=h.d 3 7;refine zAA rfl ?_;simp only[execOp,e7];(have q:=(HB.out.below h.below).cell (k:=2) (by omega);simp[bagV]at q;simp[go_sem,q]))
  ·exact zAB rfl rfl (h.f 1)
  ·exact zGm rfl rfl (h.d 5 9) (fun W=>by simp[go_sem]) (by decide)
 case en =>
  intro vals W hbw hv _;have x6:=hv 6 (by omega);simp only[zAO]at x6
  simp only[fa,Nat.reduceAdd];rw[e_ hv 0,e_ hv 1,e_ hv 2,e_ hv 3,e_ hv 4,e_ hv 5];clear hv
  try simp only[pl]
  obtain⟨gb,e6,s6⟩:=x6;rw[e6];have o1:=zBT HO.out hbw;have b1:=HB.out.below hbw;have hs:=hbw.size;refine zB8 W rfl _ _ 47 rfl b0 55 i3 _ 1 24 Tryz.underlying47 hi3 hy0 hy1 hy2 rfl (by decide) (.slice pv k cv) k _ rfl o1 ⟨gb,0,none⟩ 1 1 [.slice pl nl cl] rfl rfl (OneV.news s6) (by simp[Value.oneCell']) (by unfold maxLen;omega) (by omega) (by omega) (by decide) ?_
  intro v5 w5 own5 grow5;have hany:=grow5.any;have b5:=b1.kept hany (b1.ne o1 (by decide))
  have bel5:Below b0 w w5:=(hbw.mono (by omega)).grown hany (by omega) (fun g e=>(zAm o1 e).2.1)
  have hne5:=b5.ne own5 (by decide)
  obtain⟨p5,c5,rfl⟩:=zBf own5;have hcell:=b5.cell (k:=2) (by omega)
  have hf:=b5.frozen 2;have B6:=Lib.hid (b5.set (.slice p5 (k+1) c5));have O6:=Lib.hid (zBO own5 (zBN w5 B 2 (.slice p5 (k+1) c5)) (fun g e=>by cases e;exact hne5))
  have BL6:=Lib.hid (bel5.setCell (p:=⟨B,2,none⟩) (by omega) (.slice p5 (k+1) c5))
  clear o1 b1 own5 grow5 hany b5 bel5 hne5 hbw s6
  go_wp2
  go_end0
  exact⟨rfl,_,B6.out,O6.out,BL6.out⟩
theorem zHG (G cap K base:Nat) (V:Nat->Value) (N:Nat->Nat) (X:Nat->List Value) (w:World) (hK:K<=1000) (hK0:0<K) (hN:∀ j,j<K->N j<=4194304) (hG:G<w.heap.size) (hcell:∀ k,k<K->w.cell? ⟨G,k,none⟩=some (V k))
  (hbase:base<=w.heap.size) (hfam:Fam 3 1 base w K V V N N X X) :
  Calls Tryz.prog 36 #[.slice (some ⟨G,0,none⟩) K cap] w fun e w'=>e=.returned (.bool true)/\KeepBut (Mine K V) w.heap.size w w'/\∃ X',Fam 3 1 base w' K V V N N X' X':=by
 have HC:=Lib.hid hcell;clear hcell;have HF:=Lib.hid hfam;clear hfam;have HN:=Lib.hid hN;clear hN
 go_enter Tryz.func36,Tryz.ntmps36
 go_wp2_with fail
 have hb1:Bag (w.alloc (.cells (bagC (.slice none 0 0)) 128)) w.heap.size (.slice none 0 0):=World.alloc_heap_new w _;have bel1:Below w.heap.size w (w.alloc (.cells (bagC (.slice none 0 0)) 128)):=(Below.refl _ w).alloc (Nat.le_refl _) _;have HB1:=Lib.hid hb1;clear hb1;have BL1:=Lib.hid bel1;clear bel1
 go_loopw [4] (fun n wr=>∃ k:Nat,k<=K/\n=.int .i64 k/\Hid (∃ lsv,Bag wr w.heap.size lsv/\wr.ownsRow w.heap.size 55 1 lsv k (rowV V k)/\Below w.heap.size w wr)) (fun n _=>K - (intOf n).toNat)
 case atStart=>exact⟨0,by omega,rfl,_,HB1.out,⟨rfl,.inl ⟨rfl,rfl⟩⟩,BL1.out⟩
 case round =>
  clear HB1 BL1;obtain⟨k,hk,rfl,S⟩:=hrel;obtain⟨lsv,S⟩:∃ lsv,Hid (Bag wr w.heap.size lsv/\wr.ownsRow w.heap.size 55 1 lsv k (rowV V k)/\Below w.heap.size w wr):=by obtain⟨l,h⟩:=S.out;exact⟨l,h⟩
  by_cases hlt:k<K
  ·have ck:=Lib.hid (HC.out k hlt);obtain⟨pk,ck2,hV⟩:∃ p c,V k=.slice p (N k) c:=zBf (HF.out.v k hlt);have HR:Hid (rowV V (k+1)=rowV V k++[V k]):=by show _=_;simp[rowV,List.range_succ]
   rw[hV]at ck HR;clear hV
   go_upto_region 5 with fail
   refine ws_ 5 [fun v _=>v=pt w.heap.size 0,fun v _=>v=.slice (some ⟨G,0,none⟩) K cap,fun v _=>v=.int .i64 (k:Int),fun v _=>v=.pointer (some ⟨G,k,none⟩),fun v _=>v=.slice pk (N k) ck2] ?ob ?en
   case ob =>
    refine⟨?_,?_,?_,?_,?_,trivial⟩<;>intro A W h
    ·exact zAB rfl rfl (h.f 3)
    ·exact zAB rfl rfl (h.f 0)
    ·exact zAB rfl rfl (h.f 4)
    ·exact zAU (sz:=1) Tryz.underlying47 (fun w=>by kernel_rfl) rfl rfl (h.d 1 14) (h.d 2 15) (by omega) (by omega)
    ·(have e16:A.eval (.tmp 16)=.pointer (some ⟨G,k,none⟩):=h.d 3 16;refine zAA rfl ?_;simp only[execOp,e16];(have q:=((S.out.2.2.trans (h.below.mono S.out.2.2.size)).cell (p:=⟨G,k,none⟩) hG).trans ck.out;simp[go_sem,q]))
   case en =>
    intro vals W1 hbw hv _;simp only[fa,Nat.reduceAdd];rw[e_ hv 0,e_ hv 1,e_ hv 2,e_ hv 3,e_ hv 4];clear hv
    try simp only[pl]
    have S1:=Lib.hid (And.intro (S.out.1.below hbw) (And.intro (zBT S.out.2.1 hbw) (S.out.2.2.trans (hbw.mono S.out.2.2.size))));clear hbw S
    go_wp2_with fail
    refine(zIr w.heap.size w.heap.size k lsv _ _ W1 (by omega) S1.out.1 S1.out.2.1 (Nat.le_refl _) ⟨_,_,_,rfl⟩).mono ?_
    rintro e w2 ⟨rfl,lsv2,s1,s2,s3⟩;have S2:Hid (Bag w2 w.heap.size lsv2/\w2.ownsRow w.heap.size 55 1 lsv2 (k+1) (rowV V (k+1))/\Below w.heap.size w w2):=⟨s1,by rw[HR.out];exact s2,S1.out.2.2.trans s3⟩
    clear s1 s2 s3 S1
    go_wp2_with fail
    go_roundw
    case rel=>exact⟨k+1,by omega,by go_num,lsv2,S2.out⟩
    case measure=>simp[intOf];omega
  ·obtain rfl:K=k:=by omega
   have hsz:=S.out.2.2.size;have hnm:¬ Mine K V w.heap.size:=by
    rintro⟨j,hj,hb⟩;have:=(zAm (HF.out.v j hj) hb).1;omega
   have hrows:zFF base lsv K V N wr:=⟨X,zJ7 S.out.2.1 hbase,HF.out.below S.out.2.2⟩;have hform:=zBf S.out.2.1;have HRW:=Lib.hid hrows;clear hrows;have HNM:=Lib.hid hnm;clear hnm;have HFM:=Lib.hid hform;clear hform
   go_wp2_with fail
   refine(zHz lsv K base w.heap.size V N wr hK HN.out HRW.out (by omega) S.out.1.lt HNM.out (fun k hk=>S.out.1.cell hk) (by obtain⟨p,c,h⟩:=HFM.out;exact⟨p,_,c,h⟩)).mono ?_
   rintro e w' ⟨rfl,hrel2⟩;have R:=Lib.hid hrel2;clear hrel2
   go_wp2
   go_ret;obtain⟨X',_,hfam'⟩:=R.out.2 HRW.out;exact⟨rfl,(KeepBut.of_below S.out.2.2).trans (R.out.1.mono hsz (fun _ _ h=>h)),X',hfam'⟩
end
section
open Go.RowKit
section
variable {p:List InstD} {s:Str}
def InvS (p:List InstD) (s:Str) (st:List Ent) (S:Nat->Nat->Bool):Prop:=∀ k i,S k i=true->(atI p k).kind≠5/\∀ sl,∀ e ∈ sucE p s k i sl,S e.1 e.2.1=true\/∃ x ∈ st,x.1=e.1/\x.2.1=e.2.1
theorem zLy (k i:Nat) (sl tl:zAP) {e:Ent} (h:e ∈ sucE p s k i sl):∃ x ∈ sucE p s k i tl,x.1=e.1/\x.2.1=e.2.1:=by
 unfold sucE at h ⊢;simp only at h ⊢;split at h
 ·rename_i h1;rw[if_pos h1];split at h
  ·rename_i h2;rw[if_pos h2];simp only[List.mem_singleton]at h;subst h;exact⟨_,List.mem_singleton.2 rfl,rfl,rfl⟩
  ·cases h
 rename_i h1;rw[if_neg h1];split at h
 ·rename_i h2;rw[if_pos h2];simp only[List.mem_cons,List.not_mem_nil,or_false]at h;rcases h with rfl|rfl
  ·exact⟨_,List.mem_cons_self ..,rfl,rfl⟩
  ·exact⟨_,List.mem_cons_of_mem _ (List.mem_cons_self ..),rfl,rfl⟩
 rename_i h2;rw[if_neg h2];split at h
 ·rename_i h3;rw[if_pos h3];simp only[List.mem_singleton]at h;subst h;exact⟨_,List.mem_singleton.2 rfl,rfl,rfl⟩
 rename_i h3;rw[if_neg h3];split at h
 ·rename_i h4;rw[if_pos h4];split at h
  ·rename_i h5;rw[if_pos h5];simp only[List.mem_singleton]at h;subst h;exact⟨_,List.mem_singleton.2 rfl,rfl,rfl⟩
  ·cases h
 ·cases h
theorem InvS.seen {k i:Nat} {sl:zAP} {r:List Ent} {S:Nat->Nat->Bool} (h:InvS p s ((k,i,sl)::r) S) (hs:S k i=true):InvS p s r S:=by
 intro a j ha;obtain⟨h1,h2⟩:=h a j ha;refine⟨h1,fun tl e he=>?_⟩
 rcases h2 tl e he with h3|⟨x,hx,e1,e2⟩
 ·exact .inl h3
 ·rcases List.mem_cons.1 hx with rfl|hx
  ·left;rw[← e1,← e2];exact hs
  ·exact .inr ⟨x,hx,e1,e2⟩
theorem InvS.go {k i:Nat} {sl:zAP} {r:List Ent} {S:Nat->Nat->Bool} (h:InvS p s ((k,i,sl)::r) S) (hk:(atI p k).kind≠5):InvS p s (sucE p s k i sl++r) (upS S k i):=by
 intro a j ha
 by_cases e:a=k/\j=i
 ·obtain⟨rfl,rfl⟩:=e;refine⟨hk,fun tl e he=>?_⟩
  obtain⟨x,hx,e1,e2⟩:=zLy _ _ tl sl he;exact .inr ⟨x,List.mem_append_left _ hx,e1,e2⟩
 ·have ha':S a j=true:=by unfold upS at ha;rwa [if_neg e]at ha
  obtain⟨h1,h2⟩:=h a j ha';refine⟨h1,fun tl e he=>?_⟩
  rcases h2 tl e he with h3|⟨x,hx,e1,e2⟩
  ·left;unfold upS;split
   ·rfl
   ·exact h3
  ·rcases List.mem_cons.1 hx with rfl|hx
   ·left;unfold upS;rw[if_pos ⟨e1.symm,e2.symm⟩]
   ·exact .inr ⟨x,List.mem_append_right _ hx,e1,e2⟩
inductive DfsD (p:List InstD) (s:Str) (D:Nat->Nat->Bool):List Ent->(Nat->Nat->Bool)->Option zAP->Prop
 | nil (S):DfsD p s D [] S none
 | seen (k i sl r S res) (h:S k i=true) (hr:DfsD p s D r S res):DfsD p s D ((k,i,sl)::r) S res
 | hit (k i sl r S) (h:S k i=false) (hk:(atI p k).kind=5):DfsD p s D ((k,i,sl)::r) S (some sl)
 | go (k i sl r S res) (h:S k i=false) (hk:(atI p k).kind≠5) (hr:DfsD p s D ((sucE p s k i sl).filter (fun e=>!D e.1 e.2.1)++r) (upS S k i) res):DfsD p s D ((k,i,sl)::r) S res
theorem DfsD.one {D:Nat->Nat->Bool} {st:List Ent} {S:Nat->Nat->Bool} {a b:Option zAP} (h:DfsD p s D st S a) (k:DfsD p s D st S b):a=b:=by
 induction h generalizing b with
 | nil S=>cases k;rfl
 | seen k i sl r S res hs hr ih =>
  cases k with
  | seen _ _ _ _ _ _ _ h=>exact ih h
  | hit _ _ _ _ _ h=>rw[hs]at h;cases h
  | go _ _ _ _ _ _ h=>rw[hs]at h;cases h
 | hit k i sl r S hs hk =>
  cases k with
  | seen _ _ _ _ _ _ h=>rw[hs]at h;cases h
  | hit=>rfl
  | go _ _ _ _ _ _ _ h=>exact absurd hk h
 | go k i sl r S res hs hk hr ih =>
  cases k with
  | seen _ _ _ _ _ _ h=>rw[hs]at h;cases h
  | hit _ _ _ _ _ _ h=>exact absurd h hk
  | go _ _ _ _ _ _ _ _ h=>exact ih h
theorem Dfs.keeps {Q:Ent->Prop} (hQ:∀ k i sl,Q (k,i,sl)->(atI p k).kind≠5->∀ e ∈ sucE p s k i sl,Q e) {st:List Ent} {S:Nat->Nat->Bool} {res:Option zAP} (h:Dfs p s none st S res) (hst:∀ e ∈ st,Q e) {sl:zAP} (hr:res=some sl):∃ k i,Q (k,i,sl)/\(atI p k).kind=5:=by
 induction h with
 | nil S=>cases hr
 | seen k i sl' r S res hs hr' ih=>exact ih (fun e he=>hst e (List.mem_cons_of_mem _ he)) hr
 | hit k i sl' r S hs hk=>cases hr;exact⟨k,i,hst _ (List.mem_cons_self ..),hk⟩
 | go k i sl' r S res hs hk hr' ih =>
  exact ih (fun e he=>(List.mem_append.1 he).elim (hQ k i sl' (hst _ (List.mem_cons_self ..)) hk e) (fun he=>hst e (List.mem_cons_of_mem _ he))) hr
end
section
variable {p:List InstD} {s:Str}
theorem zKf {sl:zAP} {a n:Nat} {e:Ent} (h:e ∈ zBw sl none a n):e.1=0/\e.2.2=sl/\a<=e.2.1/\e.2.1<a+n:=by
 unfold zBw at h;obtain⟨j,hj,rfl⟩:=List.mem_map.1 h;rw[List.mem_range'_1]at hj;exact⟨rfl,rfl,hj.1,hj.2⟩
end
section
variable (p:List InstD) (s:Str)
def zBQ (a:Int):Option zAP:=match runP p s a with
 | none=>none
 | some l=>if l.getD 0 0<a\/l.getD 1 0<l.getD 0 0 then none else some l
def zBu (a:Int) (e:Bool):Option zAP:=match zBQ p s a with
 | none=>none
 | some l=>if e=true/\l.getD 0 0=l.getD 1 0/\l.getD 0 0=a then zBQ p s (a+1) else some l
def atN (l:zAP):Int:=if l.getD 0 0=l.getD 1 0 then l.getD 1 0+1 else l.getD 1 0
def endN (l:zAP):Bool:=!decide (l.getD 0 0=l.getD 1 0)
def zC4:Nat->Int->Bool->List zAP
 | 0,_,_=>[]
 | n+1,a,e=>match zBu p s a e with
  | none=>[]
  | some l=>l::zC4 n (atN l) (endN l)
def zAX:List zAP:=zC4 p s (s.length+2) 0 false
end
variable {p:List InstD} {s:Str}
theorem zHO {a:Int} {l:zAP} (h:runP p s a=some l):l.length=zBY p/\0<=a/\a<=s.length/\zAq p=true/\∀ v ∈ l,v<=s.length:=by
 have h0:¬ (a<0\/(s.length:Int)<a\/zAq p=false):=fun hh=>by unfold runP at h;rw[if_pos hh]at h;cases h
 have hr:zAq p=true:=by
  cases hq:zAq p with
  | true=>rfl
  | false=>exact absurd (.inr (.inr hq)) h0
 have d:=zJx (p:=p) (s:=s) (a:=a) (by omega) (by omega) hr
 rw[h]at d
 obtain⟨k,i,hq,_⟩:=d.keeps (Q:=fun e=>e.2.2.length=zBY p/\e.2.1<=s.length/\∀ v ∈ e.2.2,v<=s.length) (fun k i sl hq _ e he=>by
  obtain⟨q1,q2,q3⟩:=hq;simp only at q1 q2 q3;unfold sucE at he;simp only at he;split at he
  ·split at he
   ·rename_i hc;simp only[List.mem_singleton]at he;subst he;exact⟨q1,by simp only;omega,q3⟩
   ·cases he
  split at he
  ·simp only[List.mem_cons,List.not_mem_nil,or_false]at he;rcases he with rfl|rfl<;>exact⟨q1,q2,q3⟩
  split at he
  ·simp only[List.mem_singleton]at he;subst he;refine⟨by simpa using q1,q2,fun v hv=>?_⟩
   rcases List.mem_or_eq_of_mem_set hv with h|rfl
   ·exact q3 v h
   ·exact Int.ofNat_le.2 q2
  split at he
  ·split at he
   ·simp only[List.mem_singleton]at he;subst he;exact⟨q1,q2,q3⟩
   ·cases he
  ·cases he) (fun e he=>by
   obtain⟨h1,h2,h3,h4⟩:=zKf he;refine⟨by rw[h2,List.length_replicate],by omega,fun v hv=>?_⟩
   rw[h2]at hv
   rw[(List.mem_replicate.1 hv).2];omega) rfl
 exact⟨hq.1,by omega,by omega,hr,hq.2.2⟩
theorem zHR:2<=zBY p:=by unfold zBY;omega
theorem zBh {a:Int} {l:zAP} (h:zBQ p s a=some l):runP p s a=some l/\2<=l.length/\0<=a/\a<=s.length/\a<=l.getD 0 0/\l.getD 0 0<=l.getD 1 0/\l.getD 1 0<=s.length/\l.length=zBY p/\zAq p=true:=by
 unfold zBQ at h;split at h
 ·cases h
 ·rename_i l' hr;split at h
  ·cases h
  ·rename_i hc
   cases h
   obtain⟨h1,h2,h3,hr',h4⟩:=zHO hr;have h5:2<=l.length:=by rw[h1];exact zHR
   refine⟨hr,h5,h2,h3,by omega,by omega,?_,h1,hr'⟩
   rw[List.getD_eq_getElem?_getD,List.getElem?_eq_getElem (by omega)]
   exact h4 _ (List.getElem_mem _)
theorem zBU {a:Int} {e:Bool} {l:zAP} (h:zBu p s a e=some l):2<=l.length/\0<=a/\a<=s.length/\a<atN l/\l.getD 0 0<=l.getD 1 0/\l.getD 1 0<=s.length/\a<=l.getD 0 0/\l.length=zBY p/\zAq p=true:=by
 unfold zBu at h;split at h
 ·cases h
 ·rename_i l' hm;obtain⟨_,m1,m2,m3,m4,m5,m6,m7,m8⟩:=zBh hm;split at h
  ·obtain⟨_,k1,k2,k3,k4,k5,k6,k7,k8⟩:=zBh h;refine⟨k1,m2,m3,?_,k5,k6,by omega,k7,k8⟩
   unfold atN;split<;>omega
  ·cases h
   refine⟨m1,m2,m3,?_,m5,m6,m4,m7,m8⟩;unfold atN;split<;>omega
theorem zGk {a:Int} {e:Bool}:∀ {n m:Nat},(s.length:Int)+1 - a<n->n<=m->zC4 p s n a e=zC4 p s m a e
 | 0,0,_,_=>rfl
 | 0,m+1,h,_=>by
  unfold zC4
  cases hn:zBu p s a e with
  | none=>rfl
  | some l=>have:=zBU hn;omega
 | n+1,0,_,h=>absurd h (by omega)
 | n+1,m+1,h,hm=>by
  unfold zC4
  cases hn:zBu p s a e with
  | none=>rfl
  | some l =>
   have:=zBU hn;simp only;rw[zGk (a:=atN l) (n:=n) (m:=m) (by omega) (by omega)]
theorem zGn {a:Int} {e:Bool} {n:Nat} (h:(s.length:Int)+1 - a<n):zC4 p s n a e=match zBu p s a e with|none=>[]|some l=>l::zC4 p s n (atN l) (endN l):=by
 cases n with
 | zero =>
  unfold zC4
  cases hn:zBu p s a e with
  | none=>rfl
  | some l=>have:=zBU hn;omega
 | succ n =>
  rw[zC4]
  cases hn:zBu p s a e with
  | none=>rfl
  | some l =>
   have:=zBU hn;simp only;rw[zGk (a:=atN l) (n:=n) (m:=n+1) (by omega) (by omega)]
theorem zCY:∀ {n:Nat} {a:Int} {e:Bool},(zC4 p s n a e).length<=n
 | 0,_,_=>Nat.le_refl _
 | n+1,a,e=>by
  unfold zC4
  cases zBu p s a e with
  | none=>exact Nat.zero_le _
  | some l=>exact Nat.succ_le_succ zCY
theorem zLE {a:Int} {e:Bool} {sp:Int} (ha:0<=a) (h:sp=if e then a else -1):(match zBQ p s a with|none=>none|some l=>if l.getD 0 0=sp/\l.getD 1 0=sp then zBQ p s (a+1) else some l)=zBu p s a e:=by
 unfold zBu
 cases hm:zBQ p s a with
 | none=>rfl
 | some l =>
  have:=zBh hm;simp only
  cases e with
  | true =>
   simp only[if_true]at h;rw[h]
   by_cases hc:l.getD 0 0=a/\l.getD 1 0=a
   ·rw[if_pos hc,if_pos ⟨rfl,hc.1.trans hc.2.symm,hc.1⟩]
   ·rw[if_neg hc,if_neg (fun (k:true=true/\l.getD 0 0=l.getD 1 0/\l.getD 0 0=a)=>hc ⟨k.2.2,k.2.1 ▸ k.2.2⟩)]
  | false =>
   simp only[Bool.false_eq_true,if_false]at h;rw[h];rw[if_neg (by omega),if_neg (by simp)]
end
section
open Go.RowKit Go.Shelf
attribute [local go_sem] Oper.semAt_some
def zDV (L:Str):List Int:=L.map (fun b=>(b.toNat:Int))
theorem zLx (L:Str):(zDV L).length=L.length:=by simp[zDV]
theorem zKU (L:Str):u8s (zDV L)=L.map (fun b=>Value.int .u8 b.toNat):=by simp[u8s,zDV]
theorem Rd.grown {w0 w:World} {v:Value} {cs:List Value} (h:Rd w0 w0.heap.size v cs) (hb:Below w0.heap.size w0 w):Rd w w.heap.size v cs:=(h.below hb).up hb.size
def LentS (g:Nat) (L:Str) (V:World):Prop:=∀ j,j<L.length+12->V.cell? ⟨g,j,none⟩=(u8s (zDV L)++zA1 12)[j]?
theorem LentS.bytes {g cap:Nat} {L:Str} {V:World} (h:LentS g L V) (h1:L.length+12<=cap) (h2:cap<=maxLen):BytesR (·=g) (some ⟨g,0,none⟩) cap L V:=by
 refine⟨_,cap,by rw[List.length_map],by simp;omega,h2,(fun h=>by cases h),fun j r hr=>⟨g,0,rfl,rfl,?_,fun k hk=>?_⟩⟩
 ·rw[List.getElem?_map]at hr;obtain⟨x,_,rfl⟩:=Option.map_eq_some_iff.1 hr;rfl
 ·rw[List.getElem?_map]at hr;obtain⟨x,hx,rfl⟩:=Option.map_eq_some_iff.1 hr;obtain rfl:k=0:=by omega
  obtain⟨hlt,rfl⟩:=List.getElem?_eq_some_iff.1 hx;have:=h j (by omega)
  rw[show (0+j * 1+0)=j by omega,this,List.getElem?_append_left (by simp[u8s,zDV];exact hlt),zKU,List.getElem?_map,List.getElem?_eq_getElem hlt]
  rfl
theorem LentS.lent {g cap b0:Nat} {L:Str} {V:World} (h:LentS g L V) (h1:L.length+12<=cap) (h2:cap<=maxLen) (hb:b0<=g) (hg:g<V.heap.size):Lent b0 V (.slice (some ⟨g,0,none⟩) L.length cap) (u8s (zDV L)) (zA1 12):=by
 have hl:(u8s (zDV L)).length=L.length:=by simp[u8s,zDV]
 exact⟨g,cap,by rw[hl],hb,hg,by rw[hl];exact h1,h2,fun j hj=>h j (by rw[hl]at hj;exact hj)⟩
section
variable {M:Nat->Prop} {P:Program} {f:FuncId} {args:Array Value} {w w0:World} {l:List Res} {R:Ending->World->Prop}
theorem chLB {L:Str} (c:Calls P f args w fun e w'=>∃ r,e=.returned r/\Lent w.heap.size w' r (u8s (zDV L)) (zA1 12)/\Below w.heap.size w w') (H:HoldG M w0 w l)
  (k:∀ g cap w',Hid (w0.heap.size<=g/\L.length+12<=cap/\cap<=maxLen)->HoldG M w0 w' (l++[.kn (·=g) (LentS g L)])->R (.returned (.slice (some ⟨g,0,none⟩) L.length cap)) w'):Calls P f args w R:=c.mono fun _ w' h=>by
 obtain⟨r,rfl,⟨g,cap,rfl,hg0,hg1,hc,hm,hcell⟩,hb⟩:=h;have hl:(u8s (zDV L)).length=L.length:=by simp[u8s,zDV]
 rw[hl]at hc hcell ⊢;refine k g cap w' (Lib.hid ⟨Nat.le_trans H.keep.size hg0,hc,hm⟩) (H.learn hb Still.none (fun b hb'=>by subst hb';exact⟨hg1,.inl hg0⟩) (fun V hV j hj=>?_))
 rw[← hcell j hj];simp[World.cell?,hV g rfl]
theorem chRO {sl:zAP} (c:Calls P f args w fun e w'=>RunOwn w (some sl) e w'/\Below w.heap.size w w') (H:HoldG M w0 w l)
  (k:∀ q n w',HoldG M w0 w' (l++[.row (.slice q sl.length n) 3 1 sl.length (sl.map (.int .i64))])->R (.returned (.tuple #[.slice q sl.length n,.bool true])) w'):Calls P f args w R:=c.mono fun _ w' h=>by
 obtain⟨⟨q,n,rfl,ho⟩,hb⟩:=h;exact k q n w' (H.gainRowX hb ho)
theorem zQl (c:Calls P f args w fun e w'=>RunOwn w none e w'/\Below w.heap.size w w') (H:HoldG M w0 w l)
  (k:∀ w',HoldG M w0 w' (l++[.row (.slice none 0 0) 3 1 0 []])->R (.returned (.tuple #[.slice none 0 0,.bool false])) w'):Calls P f args w R:=c.mono fun _ w' h=>by
 obtain⟨rfl,hb⟩:=h;exact k w' ((H.call hb).addNil 3 1)
end
theorem zJw:rowB Tryz.prog 85 2=true:=by kernel_rfl
def RunE (w:World) (r:Option zAP) (e:Ending) (w':World):Prop:=match r with
 | some sl=>∃ q c,e=.returned (.slice q sl.length c)/\w'.ownsRow w.heap.size 3 1 (.slice q sl.length c) sl.length (sl.map (.int .i64))
 | none=>e=.returned (.slice none 0 0)
theorem HoldG.rowAt1 {M:Nat->Prop} {w0 w:World} {l:List Res} (H:HoldG M w0 w l) {i cap b n:Nat} {sl:zAP} (hi:At l i (.row (.slice (some ⟨b,0,none⟩) n cap) 3 1 n (sl.map (.int .i64)))) {k:Nat} (hk:k<sl.length):w.cell? ⟨b,k,none⟩=some (.int .i64 (sl.getD k 0)):=by
 have h0:=H.all i _ hi.get;have hn:n=sl.length:=by have:=h0.1;simpa using this.symm
 subst hn;rw[← zOh sl]at hi;have h1:=H.rowCell hi (fun r hr=>by obtain⟨x,_,rfl⟩:=List.mem_map.1 hr;rfl) (List.length_map ..) (j:=k) (r:=#[.int .i64 (sl.getD k 0)]) (by rw[List.getElem?_map,List.getElem?_eq_getElem hk,List.getD_eq_getElem?_getD,List.getElem?_eq_getElem hk];rfl) (q:=k) (by omega) 0 (by omega)
 rw[Nat.add_zero]at h1;exact h1
theorem zP6 (pp:Option Addr) (cp:Nat) (ps:List InstD) (psl:Option Addr) (csl:Nat) (L:Str) (at_:Int) (Fp Fs:Nat->Prop) (w0:World) (hset:∀ x ∈ ps,zAb x.set) (hL:L.length<=1000) (hFp:∀ b,Fp b->b<w0.heap.size) (hFs:∀ b,Fs b->b<w0.heap.size) (hp:InstsR Fp pp cp ps w0) (hs:BytesR Fs psl csl L w0) :
  Calls Tryz.prog 49 #[.agg #[.slice pp ps.length cp,.slice psl L.length csl],.int .i64 at_] w0 fun e w'=>RunE w0 (zBQ ps L at_) e w'/\Below w0.heap.size w0 w':=by
 have H:=Hold.insts2 hFp hFs hp hs;clear hp hs;have hv:=fun w h1 h2 h3 h4=>zPA pp cp ps psl csl L at_ Fp Fs w hset hL h1 h2 h3 h4
 cases hres:runP ps L at_ with
 | none =>
  rw[hres]at hv;have E:=Lib.hid (show zBQ ps L at_=none by unfold zBQ;rw[hres])
  clear hres
  go_enter Tryz.func49,Tryz.ntmps49
  go_upto_region 2 with (first|(first|((with_reducible refine gL ?_);refine aG H ?_)|((with_reducible refine gX ?_);(refine bB H ?_;clear H;intro b w H;try simp only[nr]at H)))|(go_at_call 77;refine zQl (hv _ (H.knlt (i:=0) .zero) (H.knlt (i:=1) i_1) (H.kn (i:=0) .zero) (H.kn (i:=1) i_1)) H ?_;clear H;intro w H))
  obtain⟨T,hT,fw,hf,h0⟩:=fam w;refine zAZ fw (by kernel_rfl) (by kernel_rfl) h0 ?_
  repeat (go_big_quiet_step (fail))
  refine wpQuiet_nil ?_
  rintro _ ⟨x,rfl⟩;replace H:=H.call (hf x)
  go_wp2_with fail
  go_ret;exact⟨by rw[E.out];rfl,H.below⟩
 | some sl =>
  rw[hres]at hv;obtain⟨f1,f2,f3,f4,f5⟩:=zHO hres;have f6:=zHR (p:=ps);have f7:2<=sl.length:=by omega
  have z0:(0:Int)<(sl.length:Int):=by omega
  have z1:(1:Int)<(sl.length:Int):=by omega
  have E:Hid (zBQ ps L at_=if sl.getD 0 0<at_\/sl.getD 1 0<sl.getD 0 0 then none else some sl):=Lib.hid (by unfold zBQ;rw[hres])
  obtain⟨x0,hx0⟩:∃ x0,sl.getD 0 0=x0:=⟨_,rfl⟩;obtain⟨x1,hx1⟩:∃ x1,sl.getD 1 0=x1:=⟨_,rfl⟩;rw[hx0,hx1]at E;have X0:=Lib.hid hx0;have X1:=Lib.hid hx1;clear hres f1 f2 f3 f4 f5 f6 hx0 hx1
  go_enter Tryz.func49,Tryz.ntmps49
  go_upto_region 2 with (first|(first|((with_reducible refine gL ?_);refine aG H ?_)|((with_reducible refine gX ?_);(refine bB H ?_;clear H;intro b w H;try simp only[nr]at H)))|(go_at_call 77;refine chRO (hv _ (H.knlt (i:=0) .zero) (H.knlt (i:=1) i_1) (H.kn (i:=0) .zero) (H.kn (i:=1) i_1)) H ?_;clear H;intro q n w H;simp only[ca]at H))
  obtain⟨q2,c2,e2,_,_,hq⟩:=H.rowShape (i:=3) i_3;simp only[Value.slice.injEq,true_and]at e2;obtain⟨rfl,rfl⟩:=e2;obtain⟨g,rfl⟩:=hq (by omega)
  clear hq;have c0:=fun W hb=>(H.call (W':=W) hb).rowAt1 (i:=3) i_3 (k:=0) (by omega)
  have c1:=fun W hb=>(H.call (W':=W) hb).rowAt1 (i:=3) i_3 (k:=1) (by omega)
  rw[X0.out]at c0;rw[X1.out]at c1;obtain⟨T,hT,fw,hf,h0⟩:=fam w;have e0:=fun x=>c0 _ (hf x)
  have e1:=fun x=>c1 _ (hf x)
  clear c0 c1
  by_cases h1:x0<at_
  ·have d1:decide (x0<at_)=true:=decide_eq_true h1;rw[if_pos (.inl h1)]at E;clear h1;refine zAZ fw (by kernel_rfl) (by kernel_rfl) h0 ?_
   repeat (go_big_quiet_step (fail))
   refine wpQuiet_nil ?_
   rintro _ ⟨x,rfl⟩;replace H:=H.call (hf x);clear e0 e1
   go_wp2_with fail
   go_ret;exact⟨by rw[E.out];rfl,H.below⟩
  have d1:decide (x0<at_)=false:=decide_eq_false h1
  by_cases h2:x1<x0
  ·have d2:decide (x1<x0)=true:=decide_eq_true h2;rw[if_pos (.inr h2)]at E;clear h1 h2;refine zAZ fw (by kernel_rfl) (by kernel_rfl) h0 ?_
   repeat (go_big_quiet_step (fail))
   refine wpQuiet_nil ?_
   rintro _ ⟨x,rfl⟩;replace H:=H.call (hf x);clear e0 e1
   go_wp2_with fail
   go_ret;exact⟨by rw[E.out];rfl,H.below⟩
  have d2:decide (x1<x0)=false:=decide_eq_false h2;rw[if_neg (fun h=>h.elim h1 h2)]at E
  clear h1 h2;refine zAZ fw (by kernel_rfl) (by kernel_rfl) h0 ?_
  repeat (go_big_quiet_step (fail))
  refine wpQuiet_nil ?_
  rintro _ ⟨x,rfl⟩;replace H:=H.call (hf x);clear e0 e1
  go_wp2_with fail
  go_ret;exact⟨by rw[E.out];exact⟨_,_,rfl,H.all 3 _ rfl⟩,H.below⟩
theorem IntsR.cell0 {F:Nat->Prop} {b o c:Nat} {sl:zAP} {W:World} (h:IntsR F (some ⟨b,o,none⟩) c sl W) {k:Nat} (hk:k<sl.length):W.cell? ⟨b,o+k,none⟩=some (.int .i64 (sl.getD k 0)):=by
 rw[h.cell hk,List.getD_eq_getElem?_getD,List.getElem?_eq_getElem hk];rfl
theorem zJG (pp:Option Addr) (cp:Nat) (ps:List InstD) (psl:Option Addr) (csl:Nat) (L:Str) (at_:Int) (Fp Fs:Nat->Prop) (w0:World) (hset:∀ x ∈ ps,zAb x.set) (hL:L.length<=1000) (hFp:∀ b,Fp b->b<w0.heap.size) (hFs:∀ b,Fs b->b<w0.heap.size) (hp:InstsR Fp pp cp ps w0) (hs:BytesR Fs psl csl L w0) :
  Calls Tryz.prog 31 #[.slice pp ps.length cp,.slice psl L.length csl,.int .i64 at_] w0 fun e w'=>zIW w0 (zBQ ps L at_) e w'/\Below w0.heap.size w0 w':=by
 have H:=Hold.insts2 hFp hFs hp hs;clear hp hs;have hv:=fun w h1 h2 h3 h4=>zM0 pp cp ps psl csl L at_ Fp Fs w hset hL h1 h2 h3 h4
 cases hres:runP ps L at_ with
 | none =>
  rw[hres]at hv;have E:=Lib.hid (show zBQ ps L at_=none by unfold zBQ;rw[hres])
  clear hres
  go_enter Tryz.func31,Tryz.ntmps31
  go_upto_region 2 with (first|fail|(go_at_call 47;refine chRn (hv _ (H.knlt (i:=0) .zero) (H.knlt (i:=1) i_1) (H.kn (i:=0) .zero) (H.kn (i:=1) i_1)) H ?_;clear H;intro w H))
  obtain⟨T,hT,fw,hf,h0⟩:=fam w;refine zAZ fw (by kernel_rfl) (by kernel_rfl) h0 ?_
  repeat (go_big_quiet_step (fail))
  refine wpQuiet_nil ?_
  rintro _ ⟨x,rfl⟩;replace H:=H.call (hf x)
  go_wp2_with fail
  go_ret2
  exact⟨by rw[E.out];rfl,H.below⟩
 | some sl =>
  rw[hres]at hv;obtain⟨f1,f2,f3,f4,f5⟩:=zHO hres;have f6:=zHR (p:=ps);have f7:2<=sl.length:=by omega
  have z0:(0:Int)<(sl.length:Int):=by omega
  have z1:(1:Int)<(sl.length:Int):=by omega
  have E:Hid (zBQ ps L at_=if sl.getD 0 0<at_\/sl.getD 1 0<sl.getD 0 0 then none else some sl):=Lib.hid (by unfold zBQ;rw[hres])
  obtain⟨x0,hx0⟩:∃ x0,sl.getD 0 0=x0:=⟨_,rfl⟩;obtain⟨x1,hx1⟩:∃ x1,sl.getD 1 0=x1:=⟨_,rfl⟩;rw[hx0,hx1]at E;have X0:=Lib.hid hx0;have X1:=Lib.hid hx1;clear hres f1 f2 f3 f4 f5 f6 hx0 hx1
  go_enter Tryz.func31,Tryz.ntmps31
  go_upto_region 2 with (first|fail|(go_at_call 47;(have HB:=H.keep.size);refine chRs (hv _ (H.knlt (i:=0) .zero) (H.knlt (i:=1) i_1) (H.kn (i:=0) .zero) (H.kn (i:=1) i_1)) H ?_;clear H;intro q n F w hF H;simp only[ca]at H))
  have hk:=H.kn (i:=2) i_2;obtain⟨g,o,rfl⟩:=hk.at (by omega)
  clear hk;have hFl:=fun b hb=>Nat.le_trans HB (hF b hb)
  have c0:=fun W hb=>((H.call (W':=W) hb).kn (i:=2) i_2).cell0 (k:=0) (by omega)
  have c1:=fun W hb=>((H.call (W':=W) hb).kn (i:=2) i_2).cell0 (k:=1) (by omega)
  rw[X0.out]at c0;rw[X1.out]at c1;obtain⟨T,hT,fw,hf,h0⟩:=fam w;have e0:=fun x=>c0 _ (hf x)
  have e1:=fun x=>c1 _ (hf x)
  clear c0 c1;simp only[Nat.add_zero]at e0
  by_cases h1:x0<at_
  ·have d1:decide (x0<at_)=true:=decide_eq_true h1;rw[if_pos (.inl h1)]at E;clear h1;refine zAZ fw (by kernel_rfl) (by kernel_rfl) h0 ?_
   repeat (go_big_quiet_step (fail))
   refine wpQuiet_nil ?_
   rintro _ ⟨x,rfl⟩;replace H:=H.call (hf x);clear e0 e1
   go_wp2_with fail
   go_ret2
   exact⟨by rw[E.out];rfl,H.below⟩
  have d1:decide (x0<at_)=false:=decide_eq_false h1
  by_cases h2:x1<x0
  ·have d2:decide (x1<x0)=true:=decide_eq_true h2;rw[if_pos (.inr h2)]at E;clear h1 h2;refine zAZ fw (by kernel_rfl) (by kernel_rfl) h0 ?_
   repeat (go_big_quiet_step (fail))
   refine wpQuiet_nil ?_
   rintro _ ⟨x,rfl⟩;replace H:=H.call (hf x);clear e0 e1
   go_wp2_with fail
   go_ret2
   exact⟨by rw[E.out];rfl,H.below⟩
  have d2:decide (x1<x0)=false:=decide_eq_false h2;rw[if_neg (fun h=>h.elim h1 h2)]at E
  clear h1 h2;refine zAZ fw (by kernel_rfl) (by kernel_rfl) h0 ?_
  repeat (go_big_quiet_step (fail))
  refine wpQuiet_nil ?_
  rintro _ ⟨x,rfl⟩;replace H:=H.call (hf x);clear e0 e1
  go_wp2_with fail
  go_ret2
  exact⟨by rw[E.out];exact⟨_,_,F,rfl,H.kn (i:=2) i_2,fun b hb=>⟨H.knlt (i:=2) i_2 b hb,hFl b hb⟩⟩,H.below⟩
end
end Go.Proofs.YtphjgfjbiimkjaaGreat
