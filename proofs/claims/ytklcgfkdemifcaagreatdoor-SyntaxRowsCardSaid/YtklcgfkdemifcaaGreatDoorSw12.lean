/-
  Laws of walks, and walks.
-/
import Derived.Test.YtklcgfkdemifcaaGreatDoorSw10
import Derived.Test.YtklcgfkdemifcaaGreatDoorSw3
set_option linter.unusedVariables false
set_option linter.unusedSimpArgs false
set_option maxRecDepth 100000
set_option maxHeartbeats 16000000
namespace Go.Proofs.YtklcgfkdemifcaaGreatDoor
section
open Go.RowKit
structure RelS (b0:Nat) (C:Array Value) (T:TypeId) (w w':World):Prop where
 os:w'.os=w.os
 tape:w'.tape=w.tape
 output:w'.output=w.output
 size:w.heap.size≤w'.heap.size
 old:∀ k,k<w.heap.size→k≠b0→w'.heap[k]?=w.heap[k]?
 at0:w'.heap[b0]?=w.heap[b0]?∨w'.heap[b0]?=some (.cells C T (0,0))∨w.heap.size≤b0
section
variable {b0:Nat} {C:Array Value} {T:TypeId}
theorem RelS.refl (w:World):RelS b0 C T w w:=⟨rfl,rfl,rfl,Nat.le_refl _,fun _ _ _=>rfl,.inl rfl⟩
theorem RelS.trans (u v w:World) (h:RelS b0 C T u v) (k:RelS b0 C T v w):RelS b0 C T u w:=by
 refine⟨k.os.trans h.os,k.tape.trans h.tape,k.output.trans h.output,Nat.le_trans h.size k.size,fun i h1 h2=>(k.old i (Nat.lt_of_lt_of_le h1 h.size) h2).trans (h.old i h1 h2),?_⟩
 have:=h.size;rcases k.at0 with e|e|e
 ·rcases h.at0 with f|f|f
  ·exact .inl (e.trans f)
  ·exact .inr (.inl (e.trans f))
  ·exact .inr (.inr f)
 ·exact .inr (.inl e)
 ·exact .inr (.inr (by omega))
theorem RelS.drew (w:World):RelS b0 C T w {w with drawn:=w.drawn+1}:=⟨rfl,rfl,rfl,Nat.le_refl _,fun _ _ _=>rfl,.inl rfl⟩
def zOf (b0:Nat) (C:Array Value) (T:TypeId) (v:Value) (w:World):Prop:=v=pt b0 0∧w.heap[b0]?=some (.cells C T (0,0))
theorem zI0:zEG (RelS b0 C T) (zOf b0 C T):=fun v w w' ⟨e,h⟩ hr=>⟨e,by
 have hlt:=(Array.getElem?_eq_some_iff.1 h).1;rcases hr.at0 with f|f|f
 ·exact f.trans h
 ·exact f
 ·omega⟩
theorem HoldG.relS {M:Nat→Prop} {w0 w W:World} {l:List Res} (H:HoldG M w0 w l) {i:Nat} {cs:Array Value} (hi:At l i (.blk b0 cs T)) (hr:RelS b0 C T w W):∃ ds,(ds=cs∨ds=C)∧HoldG M w0 W (l.set i (.blk b0 ds T)):=by
 have hb:=H.blk hi;have hlt:=(Array.getElem?_eq_some_iff.1 hb.2).1;have hg:w.grownBy W (some b0):=⟨hr.os,hr.tape,hr.output,hr.size,fun k h1 h2=>hr.old k h1 (fun e=>h2 (by rw[e]))⟩
 rcases hr.at0 with f|f|f
 ·exact⟨cs,.inl rfl,H.upd hi.get hg ⟨hb.1,f.trans hb.2⟩ (fun _ e=>.inl e)⟩
 ·exact⟨C,.inr rfl,H.upd hi.get hg ⟨hb.1,f⟩ (fun _ e=>.inl e)⟩
 ·omega
theorem HoldG.laidS {M:Nat→Prop} {w0 w W:World} {l:List Res} (H:HoldG M w0 w l) {i:Nat} {cs:Array Value} (hi:At l i (.blk b0 cs T)) (hr:RelS b0 C T w W) {v:Value} (h:zOf b0 C T v W):HoldG M w0 W (l.set i (.blk b0 C T)) :=
 H.upd hi.get ⟨hr.os,hr.tape,hr.output,hr.size,fun k h1 h2=>hr.old k h1 (fun e=>h2 (by rw[e];rfl))⟩ ⟨(H.blk hi).1,h.2⟩ (fun _ e=>.inl e)
theorem zPV {P:Program} {ops:Array Oper} {o:Oper} {a:Act} {w:World} {S:TypeId} {m:Tmp} {y:Operand} (hg:Region.wanted o (yielded ops a.tmps)=true) (hop:o.op=.store S (.tmp m) y) (hdst:o.dst=none) (hm:a.eval (.tmp m)=.pointer (some ⟨b0,0,none⟩)) {cs:Array Value} (hb:w.heap[b0]?=some (.cells cs T (0,0))) (hs:cs.size=C.size) (hy:a.eval y=.agg C) (hT:zDA P S C.size=true) (h1:C.toList.all (·.oneCell')=true) :
  zCE P ops (RelS b0 C T) o a w (fun v w'=>zOf b0 C T v w'∧(o.dst=none→v=zFo o a)):=by
 have hth:w.there b0 0 C.size:=fun j hj=>by
  rw[cell_of_row w b0 (0+j) cs T (0,0) hb];simp[World.frozen?,hb];omega
 unfold zCE;rw[if_pos hg];unfold Oper.wp;have hr':(execOp a.eval o).run P w=.ok .skip (w.setCells b0 0 C.toList):=by
  unfold execOp;simp only[hop,hm,hy,Instr.storeAt,Instr.sureAddr,Sem.run_bind,Sem.run_pure,Result.andThen_ok,run_storeVar_mid (P:=P) w b0 0 S C hth (by simpa [zDA] using hT) (by rw[Array.all_toList]at h1;exact h1)]
 rw[hr'];simp only[Oper.upon];have hg2:=zCY C.toList 0 w b0;have hh:=zCn C.toList 0 w b0 cs T _ hb;rw[zEe (by omega)]at hh
 refine⟨.pointer (some ⟨b0,0,none⟩),(by rw[hdst];rfl),⟨hg2.os,hg2.tape,hg2.output,hg2.size,fun j hj hne=>hg2.block j hj (fun e=>by cases e;exact hne rfl),.inr (.inl hh)⟩,⟨rfl,hh⟩,fun _=>?_⟩
 unfold zFo ownT;rw[hop];exact hm.symm
end
end
end Go.Proofs.YtklcgfkdemifcaaGreatDoor
