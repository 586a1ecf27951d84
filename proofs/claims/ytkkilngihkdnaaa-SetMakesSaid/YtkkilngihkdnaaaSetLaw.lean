/-
  The laws of the package set: awake, SetAlgebra.
-/
import Derived.Test.YtkkilngihkdnaaaSet4
import Derived.Test.YtkkilngihkdnaaaRegion
namespace Go.Proofs.Ytkkilngihkdnaaa
open Go.RowKit Go.Shelf
attribute [local go_sem] Oper.semAt_some

theorem awake_ranges : rangesF (bytesS (foldF (rangeS 97 3) (bytesS (rangeS 97 3)))) = [(65, 67), (97, 99)] := by decide +kernel
theorem awake_count : countS (notS (ofS [])) = 256 := by decide +kernel

set_option maxRecDepth 100000 in
set_option maxHeartbeats 2000000 in
theorem law08_awake (w : World) : Calls Try.prog 23 #[] w fun e w' => e = .returned (.bool true) ∧ Below w.heap.size w w' := by
  have q1 : ∀ W, (Op.equalIn 10000 52 (.agg #[.int .u8 65, .int .u8 67]) (.agg #[.int .u8 65, .int .u8 67])).run Try.prog W = .ok true W := fun W => by kernel_rfl
  have q2 : ∀ W, (Op.equalIn 10000 52 (.agg #[.int .u8 97, .int .u8 99]) (.agg #[.int .u8 97, .int .u8 99])).run Try.prog W = .ok true W := fun W => by kernel_rfl
  go_enter Try.func23, Try.ntmps23
  go_wp2_with fail
  refine (set_Range 97 99 (by omega) (by omega) _).mono ?_
  rintro e w1 ⟨rfl, bel1⟩
  have hs1 : SetOk (rangeS 97 (99 + 1 - 97)) := ofS_ok _
  go_wp2_with fail
  refine (set_Fold _ hs1 _).mono ?_
  rintro e w2 ⟨rfl, bel2⟩
  go_wp2_with fail
  refine (set_Ranges _ (foldF_ok _ hs1) _).mono ?_
  rintro e w3 ⟨r, rfl, hown, bel3⟩
  rw [show 99 + 1 - 97 = 3 from rfl, awake_ranges] at hown
  obtain ⟨g, cap, rfl⟩ : ∃ g cap, r = .slice (some ⟨g, 0, none⟩) 2 cap := by
    rcases hown.2 with ⟨_, h⟩ | ⟨g, cap, cur, h, _⟩
    · simp at h
    · exact ⟨g, cap, h⟩
  have k0 := own_cell hown (k := 0) (by simp)
  have k1 := own_cell hown (k := 1) (by simp)
  have k2 := own_cell hown (k := 2) (by simp)
  have k3 := own_cell hown (k := 3) (by simp)
  simp [pairC] at k0 k1 k2 k3
  clear hown
  have bel4 := bel1.trans ((bel2.mono bel1.size).trans (bel3.mono (Nat.le_trans bel1.size bel2.size)))
  go_wp2_with fail
  refine (set_Of _ [] (by simp) _ (.inl ⟨⟨_, rfl⟩, rfl⟩)).mono ?_
  rintro e w4 ⟨rfl, bel5⟩
  go_wp2_with fail
  refine (set_Not _ (ofS_ok _) _).mono ?_
  rintro e w5 ⟨rfl, bel6⟩
  go_wp2_with fail
  refine (set_Count _ (notS_ok _) _).mono ?_
  rintro e w6 ⟨rfl, bel7⟩
  rw [awake_count]
  go_wp2
  go_ret
  exact ⟨rfl, bel4.trans ((bel5.mono bel4.size).trans ((bel6.mono (Nat.le_trans bel4.size bel5.size)).trans (bel7.mono (Nat.le_trans bel4.size (Nat.le_trans bel5.size bel6.size)))))⟩

/-! ### the words on sets, for regions that draw their order -/
theorem stable_rds (L : List (Nat → Nat)) : Stable (fun v w => RdS w w.heap.size v L) := fun _ _ _ h hb => (h.below hb).up hb.size
def IsBox (n0 : Nat) (s : Nat → Nat) (v : Value) (w : World) : Prop := ∃ g, v = .pointer (some ⟨g, 0, none⟩) ∧ n0 ≤ g ∧ SBox w g 39 s
theorem stable_box (n0 : Nat) (s : Nat → Nat) : Stable (IsBox n0 s) := fun _ _ _ ⟨g, e, h1, h2⟩ hb => ⟨g, e, h1, h2.below hb h2.lt⟩
theorem IsBox.lt {n0 : Nat} {s : Nat → Nat} {v : Value} {w : World} (h : IsBox n0 s v w) : blk v < w.heap.size := by
  obtain ⟨g, rfl, _, h2⟩ := h; exact h2.lt

theorem rs_loadset {ops : Array Oper} {o : Oper} {a : Act} {w : World} {x : Operand} {B : Nat} {s : Nat → Nat} {D : Prop} (hg : Region.wanted o (yielded ops a.tmps) = true) (hop : o.op = Op.load 39 x)
    (hx : a.eval x = .pointer (some ⟨B, 0, none⟩)) (hB : SBox w B 39 s) (hD : ¬ D) : RStep Try.prog ops o a w (fun v _ => v = setV s ∧ (D → w.heap.size ≤ blk v)) := by
  have k0 := hB.cell (k := 0) (by omega); have k1 := hB.cell (k := 1) (by omega); have k2 := hB.cell (k := 2) (by omega); have k3 := hB.cell (k := 3) (by omega)
  refine rs_val hg (v := setV s) (w' := w) ?_ (Below.refl _ w) ⟨rfl, fun h => (hD h).elim⟩
  unfold setV
  simp only [execOp, hop, hx]
  simp [go_sem, k0, k1, k2, k3]

theorem rs_callset {ops : Array Oper} {o : Oper} {a : Act} {w : World} {f : FuncId} {x : Operand} {ts : Array TypeId} {v : Value} {D : Prop} (hg : Region.wanted o (yielded ops a.tmps) = true)
    (hop : o.op = Op.call { callee := Callee.value (Operand.func f), args := #[x], argTypes := ts }) (hf : ∀ args w, (callFunc f args).run Try.prog w = .ok (.enter f args) w) (u : Value) (hx : a.eval x = u)
    (hc : Calls Try.prog f #[u] w fun e w' => e = .returned v ∧ Below w.heap.size w w') (hD : ¬ D) : RStep Try.prog ops o a w (fun v' _ => v' = v ∧ (D → w.heap.size ≤ blk v')) := by
  refine rs_call hg (f := f) (args := #[u]) ?_ (hc.mono fun e w' ⟨he, hb⟩ => ⟨v, he, hb, rfl, fun h => (hD h).elim⟩)
  simp only [execOp, hop]
  simp [resolve, hx]
  rw [show a.eval (Operand.func f) = .func (.func f) #[] #[] from rfl]
  simp [Deferred.ofValue, invoke, hf]

theorem rs_alloc {ops : Array Oper} {o : Oper} {a : Act} {w : World} {n0 : Nat} {D : Prop} (hg : Region.wanted o (yielded ops a.tmps) = true) (hop : o.op = Op.alloc 39) (hn : n0 ≤ w.heap.size) :
    RStep Try.prog ops o a w (fun v w' => IsBox n0 emptyS v w' ∧ (D → w.heap.size ≤ blk v)) := by
  refine rs_val hg (v := .pointer (some ⟨w.heap.size, 0, none⟩)) (w' := w.alloc (.cells (setC emptyS) 39)) ?_ ((Below.refl _ w).alloc (Nat.le_refl _) _) ⟨⟨w.heap.size, rfl, hn, SBox.new w _ _⟩, fun _ => Nat.le_refl _⟩
  simp [execOp, hop, go_sem]
  rfl

theorem rs_build3 {ops : Array Oper} {o : Oper} {a : Act} {w : World} {x y z : Operand} {s t u : Nat → Nat} {D : Prop} (hg : Region.wanted o (yielded ops a.tmps) = true)
    (hop : o.op = Op.buildSlice 36 3 #[(0, x), (1, y), (2, z)]) (hx : a.eval x = setV s) (hy : a.eval y = setV t) (hz : a.eval z = setV u) (hD : ¬ D) :
    RStep Try.prog ops o a w (fun v w' => RdS w' w'.heap.size v [s, t, u] ∧ (D → w.heap.size ≤ blk v)) := by
  refine rs_val hg (v := .slice (some ⟨w.heap.size, 0, none⟩) 3 3) (w' := w.alloc (.cells (rowC [s, t, u]).toArray 39)) ?_ ((Below.refl _ w).alloc (Nat.le_refl _) _)
    ⟨(RdS.lit w [s, t, u] 39 (by simp [maxLen])).up (by rw [World.size_alloc]; exact Nat.le_refl _), fun h => (hD h).elim⟩
  simp only [execOp, hop]
  simp only [List.map_toArray, List.map_cons, List.map_nil, hx, hy, hz]
  unfold setV
  simp [go_sem]
  rfl
theorem rs_build2 {ops : Array Oper} {o : Oper} {a : Act} {w : World} {x y : Operand} {s t : Nat → Nat} {D : Prop} (hg : Region.wanted o (yielded ops a.tmps) = true)
    (hop : o.op = Op.buildSlice 36 2 #[(0, x), (1, y)]) (hx : a.eval x = setV s) (hy : a.eval y = setV t) (hD : ¬ D) :
    RStep Try.prog ops o a w (fun v w' => RdS w' w'.heap.size v [s, t] ∧ (D → w.heap.size ≤ blk v)) := by
  refine rs_val hg (v := .slice (some ⟨w.heap.size, 0, none⟩) 2 2) (w' := w.alloc (.cells (rowC [s, t]).toArray 39)) ?_ ((Below.refl _ w).alloc (Nat.le_refl _) _)
    ⟨(RdS.lit w [s, t] 39 (by simp [maxLen])).up (by rw [World.size_alloc]; exact Nat.le_refl _), fun h => (hD h).elim⟩
  simp only [execOp, hop]
  simp only [List.map_toArray, List.map_cons, List.map_nil, hx, hy]
  unfold setV
  simp [go_sem]
  rfl

theorem eqS_refl (s : Nat → Nat) : eqS s s = true := by simp [eqS]
theorem rs_neqset {ops : Array Oper} {o : Oper} {a : Act} {w : World} {x y : Operand} {t : TypeId} {s u : Nat → Nat} {D : Prop} (hg : Region.wanted o (yielded ops a.tmps) = true) (hop : o.op = Op.binOp .neq 39 x y t)
    (hx : a.eval x = setV s) (hy : a.eval y = setV u) (h : setV s = setV u) (hD : ¬ D) : RStep Try.prog ops o a w (fun v' _ => v' = .bool false ∧ (D → w.heap.size ≤ blk v')) := by
  rw [← h] at hy
  refine rs_val hg (v := .bool false) (w' := w) ?_ (Below.refl _ w) ⟨rfl, fun h => (hD h).elim⟩
  have he := run_eqSet s s w
  rw [eqS_refl] at he
  simp only [execOp, hop, hx, hy]
  unfold setV
  simp [go_sem, he]
theorem rs_eqlset {ops : Array Oper} {o : Oper} {a : Act} {w : World} {x y : Operand} {t : TypeId} {s u : Nat → Nat} {D : Prop} (hg : Region.wanted o (yielded ops a.tmps) = true) (hop : o.op = Op.binOp .eql 39 x y t)
    (hx : a.eval x = setV s) (hy : a.eval y = setV u) (h : setV s = setV u) (hD : ¬ D) : RStep Try.prog ops o a w (fun v' _ => v' = .bool true ∧ (D → w.heap.size ≤ blk v')) := by
  rw [← h] at hy
  refine rs_val hg (v := .bool true) (w' := w) ?_ (Below.refl _ w) ⟨rfl, fun h => (hD h).elim⟩
  have he := run_eqSet s s w
  rw [eqS_refl] at he
  simp only [execOp, hop, hx, hy]
  unfold setV
  simp [go_sem, he]
theorem rs_addint {ops : Array Oper} {o : Oper} {a : Act} {w : World} {x y : Operand} {m n k : Nat} {D : Prop} (hg : Region.wanted o (yielded ops a.tmps) = true) (hop : o.op = Op.binOp .add 3 x y 3)
    (hx : a.eval x = .int .i64 m) (hy : a.eval y = .int .i64 n) (h : m + n = k) (hk : k < 9223372036854775807) (hD : ¬ D) : RStep Try.prog ops o a w (fun v' _ => v' = .int .i64 k ∧ (D → w.heap.size ≤ blk v')) := by
  refine rs_val hg (v := .int .i64 k) (w' := w) ?_ (Below.refl _ w) ⟨rfl, fun h => (hD h).elim⟩
  simp only [execOp, hop, hx, hy]
  have e : IntKind.i64.wrap ((m : Int) + (n : Int)) = (k : Int) := by rw [show (m : Int) + (n : Int) = (k : Int) from by omega]; rw [IntKind.wrap_i64]; omega
  simp [go_sem, e]
theorem rs_eqlint {ops : Array Oper} {o : Oper} {a : Act} {w : World} {x y : Operand} {m : Int} {D : Prop} (hg : Region.wanted o (yielded ops a.tmps) = true) (hop : o.op = Op.binOp .eql 3 x y 3)
    (hx : a.eval x = .int .i64 m) (hy : a.eval y = .int .i64 m) (hD : ¬ D) : RStep Try.prog ops o a w (fun v' _ => v' = .bool true ∧ (D → w.heap.size ≤ blk v')) := by
  refine rs_val hg (v := .bool true) (w' := w) ?_ (Below.refl _ w) ⟨rfl, fun h => (hD h).elim⟩
  simp only [execOp, hop, hx, hy]
  simp [go_sem]

end Go.Proofs.Ytkkilngihkdnaaa
