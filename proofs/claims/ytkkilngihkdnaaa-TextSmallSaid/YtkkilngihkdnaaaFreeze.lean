/-
  A block that is marked as a string's: its cells stay.
-/
import Derived.Test.YtkkilngihkdnaaaRegion4
namespace Go.Proofs.Ytkkilngihkdnaaa
open Go.RowKit

/-- below B0 as it was; each block of cells keeps its cells (its mark may turn) -/
structure RelF (B0 : Nat) (u v : World) : Prop where
  below : Below B0 u v
  size : u.heap.size ≤ v.heap.size
  cells : ∀ (g : Nat) C e f, u.heap[g]? = some (.cells C e f) → ∃ f', v.heap[g]? = some (.cells C e f')
theorem RelF.refl {B0 : Nat} (w : World) : RelF B0 w w := ⟨Below.refl _ _, Nat.le_refl _, fun _ _ _ f h => ⟨f, h⟩⟩
theorem RelF.trans {B0 : Nat} (u v w : World) (h1 : RelF B0 u v) (h2 : RelF B0 v w) : RelF B0 u w :=
  ⟨h1.below.trans h2.below, Nat.le_trans h1.size h2.size, fun g C e f h => by obtain ⟨f', h'⟩ := h1.cells g C e f h; exact h2.cells g C e f' h'⟩
theorem RelF.drew {B0 : Nat} (w : World) : RelF B0 w { w with drawn := w.drawn + 1 } := ⟨⟨rfl, rfl, rfl, Nat.le_refl _, fun _ _ => rfl⟩, Nat.le_refl _, fun _ _ _ f h => ⟨f, h⟩⟩
theorem RelF.of_below {B0 : Nat} {u v : World} (hb : Below u.heap.size u v) (h : B0 ≤ u.heap.size) : RelF B0 u v :=
  ⟨hb.mono h, hb.size, fun g _ _ f hg => ⟨f, (hb.block g (Array.getElem?_eq_some_iff.1 hg).1).trans hg⟩⟩

/-- a literal that was just laid -/
def BlkW (B0 : Nat) (cs : List Value) (T : TypeId) (v : Value) (w : World) : Prop := ∃ g f, v = .slice (some ⟨g, 0, none⟩) cs.length cs.length ∧ B0 ≤ g ∧ w.heap[g]? = some (.cells cs.toArray T f)
theorem stable_blkW {B0 : Nat} (cs : List Value) (T : TypeId) : StableR (RelF B0) (BlkW B0 cs T) := fun _ _ _ ⟨g, f, e, h1, h2⟩ hr => by
  obtain ⟨f', h'⟩ := hr.cells g _ _ f h2
  exact ⟨g, f', e, h1, h'⟩
theorem BlkW.rd {B0 : Nat} {cs : List Value} {T : TypeId} {v : Value} {w : World} (h : BlkW B0 cs T v w) (hl : cs.length ≤ maxLen) : Rd w w.heap.size v cs := by
  obtain ⟨g, f, e, _, h2⟩ := h
  refine .inr ⟨g, 0, cs.length, e, (Array.getElem?_eq_some_iff.1 h2).1, Nat.le_refl _, hl, fun j hj => ?_⟩
  rw [cell_of_row w g (0 + j) cs.toArray T f h2]
  simp [hj]

theorem freeze_rel {B0 g k : Nat} {w : World} (h : B0 ≤ g) : RelF B0 w (w.freeze ⟨g, k, none⟩ 1) := by
  unfold World.freeze
  rw [if_neg (by decide)]
  refine ⟨⟨rfl, rfl, rfl, by simp, fun j hj => ?_⟩, by simp, fun j C e f hj => ?_⟩
  · show (w.heap.modify g _)[j]? = _
    rw [Array.getElem?_modify, if_neg (by omega)]
  · show ∃ f', (w.heap.modify g _)[j]? = _
    rw [Array.getElem?_modify]
    by_cases e : g = j
    · subst e
      rw [if_pos rfl, hj]
      obtain ⟨lo, hi⟩ := f
      exact ⟨_, rfl⟩
    · rw [if_neg e]
      exact ⟨f, hj⟩

section
variable {P : Program} {ops : Array Oper} {o : Oper} {a : Act} {w : World} {B0 : Nat}
theorem rq_buildblk {TS T : TypeId} {n : Nat} {parts : Array (Nat × Operand)} {cs : List Value} (hg : Region.wanted o (yielded ops a.tmps) = true) (hop : o.op = Op.buildSlice TS n parts)
    (hr : ∀ W, (Instr.buildSlice TS n (parts.map fun (i, x) => (i, a.eval x))).run P W = .ok (.slice (some ⟨W.heap.size, 0, none⟩) cs.length cs.length) (W.alloc (.cells cs.toArray T))) (hB : B0 ≤ w.heap.size) :
    QStep P ops (RelF B0) o a w (BlkW B0 cs T) := by
  refine rq_below (fun w' hb => RelF.of_below hb hB) ?_
  refine rs_val hg (v := .slice (some ⟨w.heap.size, 0, none⟩) cs.length cs.length) (w' := w.alloc (.cells cs.toArray T)) ?_ ((Below.refl _ w).alloc (Nat.le_refl _) _) ⟨w.heap.size, (0, 0), rfl, hB, World.alloc_heap_new w _⟩
  simp only [execOp, hop]
  simp [hr]
theorem rq_convblk {TS T : TypeId} {x : Operand} {cs : List Value} (ht : P.underlying TS = some (.slice T)) (he : P.underlying T = some (.int .u8)) (hg : Region.wanted o (yielded ops a.tmps) = true) (hop : o.op = Op.convert TS TS x) (hx : BlkW B0 cs T (a.eval x) w) :
    QStep P ops (RelF B0) o a w (BlkW B0 cs T) := by
  obtain ⟨g, f, e, h1, h2⟩ := hx
  have hsh : w.shape? g = some (T, cs.length) := by unfold World.shape?; rw [h2]; simp
  have hr : (convert TS TS (.slice (some ⟨g, 0, none⟩) cs.length cs.length)).run P w = .ok (.slice (some ⟨g, 0, none⟩) cs.length cs.length) (w.freeze ⟨g, cs.length, none⟩ 1) := by
    simp [convert, run_underlying ht, run_underlying he, markStringish, hsh]
  have hrel := freeze_rel (B0 := B0) (g := g) (k := cs.length) (w := w) h1
  unfold QStep
  rw [if_pos hg]
  unfold Oper.wp
  have : (execOp a.eval o).run P w = .ok (.value (.slice (some ⟨g, 0, none⟩) cs.length cs.length)) (w.freeze ⟨g, cs.length, none⟩ 1) := by
    simp only [execOp, hop, e]
    simp [hr]
  rw [this]
  obtain ⟨f', hf'⟩ := hrel.cells g _ _ f h2
  exact ⟨_, rfl, hrel, g, f', rfl, h1, hf'⟩
theorem rq_idx {R : World → World → Prop} {x y : Operand} {T e : TypeId} {sz g off n c i q : Nat} {k : IntKind} (hrefl : ∀ w, R w w) (hu : P.underlying T = some (.slice e)) (hs : ∀ w, (sizeOf e).run P w = .ok sz w) (hg : Region.wanted o (yielded ops a.tmps) = true)
    (hop : o.op = Op.indexAddr T x y) (hx : a.eval x = .slice (some ⟨g, off, none⟩) n c) (hy : a.eval y = .int k (i : Int)) (hi : i < n) (hq : off + i * sz = q) : QStep P ops R o a w (fun v' _ => v' = .pointer (some ⟨g, q, none⟩)) := by
  subst hq
  refine rq_pure hrefl hg ?_
  simp only [execOp, hop, hx, hy]
  simp [Instr.indexAt, asIntOf, go_sem, run_underlying hu, hs]
  intro hc
  omega
end

end Go.Proofs.Ytkkilngihkdnaaa
