/-
  Regions, further: a region that draws no order, by a word on each operation's value; what single operations give.
-/
import Derived.Test.YtkkilngihkdnaaaRegion
namespace Go.Proofs.Ytkkilngihkdnaaa
open Go.RowKit

/-! ### the same of a region that draws no order -/
theorem headListed_get (n g i : Nat) (d : Bool) (h : i < n + g) : (headListed n g).getD i d = decide (i < n) := by
  have hs : i < (headListed n g).size := by simp [headListed]; omega
  rw [Array.getD_eq_getD_getElem?, Array.getElem?_eq_getElem hs]
  simp only [headListed, Option.getD_some, List.getElem_toArray]
  by_cases hi : i < n
  · rw [List.getElem_append_left (by simpa using hi)]; simp [hi]
  · rw [List.getElem_append_right (by simpa using hi)]; simp [hi]
theorem headListed_out (n g i : Nat) (d : Bool) (h : n + g ≤ i) : (headListed n g).getD i d = d := by
  rw [Array.getD_eq_getD_getElem?, Array.getElem?_eq_none (by simp [headListed]; omega)]; rfl

def seqB (l : List Oper) (n : Nat) : Bool := decide (n ≤ l.length) && dstsB (l.take n) && ((l.take n).zipIdx.all fun (o, i) => o.after.all fun e => !Region.binds .any e || decide (e.on < i))

theorem wp_region_seqD {P : Program} {id : Nat} {Q : Exit → Act → World → Prop} {a0 : Act} {w0 : World} {l : List Oper} (n : Nat) (Ss : Nat → Value → World → Prop) (D : Nat → Bool)
    (hB : seqB l n = true) (hsz : (l.take n).all (fun o => match o.dst with | some d => decide (d < a0.tmps.size) | none => true) = true)
    (hst : ∀ i, i < n → ∀ v w w', Ss i v w → Below w.heap.size w w' → Ss i v w')
    (hlt : ∀ i, i < n → D i = true → ∀ v w, Ss i v w → blk v < w.heap.size)
    (hstep : ∀ i o, i < n → l[i]? = some o → ∀ a w, RCtx (l.take n) Ss a0 w0 o a w → RStep P l.toArray o a w (fun v w' => Ss i v w' ∧ (D i = true → w.heap.size ≤ blk v)))
    (hend : ∀ vals w, Below w0.heap.size w0 w → (∀ i, i < n → Ss i (vals i) w) → (∀ i j, i < n → j < n → i ≠ j → D i = true → D j = true → blk (vals i) ≠ blk (vals j)) → wpList P l.toArray Q (l.drop n) (fillAll (l.take n) 0 vals a0) w) :
    (Code.region id l.toArray false).wp P Q a0 w0 := by
  simp only [seqB, Bool.and_eq_true, decide_eq_true_eq] at hB
  obtain ⟨⟨hn, hd'⟩, haf⟩ := hB
  have htl : (l.take n).length = n := by simp; omega
  have hdst : ∀ (i : Nat) (o : Oper), (l.take n)[i]? = some o → ∃ d, o.dst = some d := by
    intro i o h
    have : ∀ (r : List Oper) (j : Nat), dstsB r = true → r[j]? = some o → ∃ d, o.dst = some d := by
      intro r
      induction r with
      | nil => intro j _ h; simp at h
      | cons x r ihr =>
        intro j hdd h
        simp only [dstsB, Bool.and_eq_true] at hdd
        cases j with
        | zero => simp at h; subst h; exact Option.isSome_iff_exists.1 hdd.1.1
        | succ j => exact ihr j hdd.2 (by simpa using h)
    exact this _ i hd' h
  have hbd : ∀ (j : Nat) (oj : Oper) (dj : Tmp), (l.take n)[j]? = some oj → oj.dst = some dj → dj < a0.tmps.size := by
    intro j oj dj hj hdj
    have := List.all_eq_true.1 hsz oj (List.mem_of_getElem? hj)
    simpa [hdj] using this
  have key : ∀ (f i : Nat), i + f = n → ∀ (vals : Nat → Value) (a : Act) (w : World), a = fill (l.take n) 0 (headListed i (n - i)) vals a0 → (∀ j, j < i → Ss j (vals j) w) →
      (∀ j k, j < i → k < i → j ≠ k → D j = true → D k = true → blk (vals j) ≠ blk (vals k)) → Below w0.heap.size w0 w → wpList P l.toArray Q (l.drop i) a w := by
    intro f
    induction f with
    | zero =>
      intro i hi vals a w ha hv hp hb
      have hi' : i = n := by omega
      subst hi'
      rw [ha, fill_all (l.take i) 0 _ vals a0 (fun j hj => by rw [Nat.zero_add, headListed_get _ _ _ _ (by omega)]; simp; omega)]
      exact hend vals w hb hv hp
    | succ f ih =>
      intro i hi vals a w ha hv hp hb
      have hin : i < n := by omega
      have hil : i < l.length := by omega
      have hot : (l.take n)[i]? = some l[i] := by rw [List.getElem?_take_of_lt hin]; simp [hil]
      obtain ⟨d, hod⟩ := hdst i _ hot
      rw [List.drop_eq_getElem_cons hil]
      have hctx : RCtx (l.take n) Ss a0 w0 l[i] a w := by
        refine ⟨hb, fun t ht => by rw [ha]; exact fill_frame _ _ _ _ _ t ht, fun j dj hj hdj => ?_, by rw [ha, fill_size]⟩
        obtain ⟨e, he, hbe⟩ := List.any_eq_true.1 hj
        simp only [Bool.and_eq_true, beq_iff_eq] at hbe
        have h1 := List.all_eq_true.1 haf (l[i], i) (by rw [List.mem_zipIdx_iff_getElem?]; simp [hin, hil])
        have h2 := Array.all_eq_true'.1 h1 e (Array.mem_toList_iff.1 he)
        simp only [hbe.1, Bool.not_true, Bool.false_or, decide_eq_true_eq, hbe.2] at h2
        obtain ⟨oj, hoj, hdj'⟩ := Option.bind_eq_some_iff.1 hdj
        rw [ha, fill_at _ 0 _ vals a0 j oj dj hd' hoj hdj' (hbd j oj dj hoj hdj') (by rw [Nat.zero_add, headListed_get _ _ _ _ (by omega)]; simpa using h2), Nat.zero_add]
        exact hv j h2
      have hstep' := hstep i l[i] hin (by simp [hil]) a w hctx
      have hnext : ∀ v w', Below w.heap.size w w' → (Ss i v w' ∧ (D i = true → w.heap.size ≤ blk v)) → wpList P l.toArray Q (l.drop (i + 1)) (a.put l[i].dst v) w' := by
        intro v w' hbw ⟨hsv, hfr⟩
        refine ih (i + 1) (by omega) (fun j => if j = i then v else vals j) _ w' ?_ (fun j hj => ?_) (fun j k hj hk hjk hDj hDk => ?_) (hb.trans (hbw.mono hb.size))
        · have h1 := fill_set (l.take n) 0 i (headListed i (n - i)) vals a0 l[i] d v hd' hot hod (by rw [Nat.zero_add, headListed_get _ _ _ _ (by omega)]; simp)
          rw [Nat.zero_add] at h1
          rw [ha, hod, ← h1]
          refine fill_congr _ _ _ _ _ _ _ (fun j hj => ⟨?_, rfl⟩)
          rw [Nat.zero_add, headListed_get _ _ _ _ (by omega)]
          by_cases hji : j = i
          · subst hji
            have : j < (headListed j (n - j)).size := by simp [headListed]; omega
            simp [Array.getD_eq_getD_getElem?, this]
          · rw [getD_set_ne false (fun e => hji e.symm), headListed_get _ _ _ _ (by omega)]
            simp; omega
        · by_cases hji : j = i
          · subst hji; simpa using hsv
          · show Ss j (if j = i then v else vals j) w'
            rw [if_neg hji]
            exact hst j (by omega) _ _ _ (hv j (by omega)) hbw
        · show blk (if j = i then v else vals j) ≠ blk (if k = i then v else vals k)
          by_cases hji : j = i
          · have hki : k ≠ i := fun e => hjk (hji.trans e.symm)
            rw [if_pos hji, if_neg hki]
            have h1 := hfr (hji ▸ hDj)
            have h2 := hlt k (by omega) hDk _ _ (hv k (by omega))
            omega
          · rw [if_neg hji]
            by_cases hki : k = i
            · rw [if_pos hki]
              have h1 := hfr (hki ▸ hDk)
              have h2 := hlt j (by omega) hDj _ _ (hv j (by omega))
              omega
            · rw [if_neg hki]
              exact hp j k (by omega) (by omega) hjk hDj hDk
      unfold RStep at hstep'
      show wpList P l.toArray Q (l[i] :: l.drop (i + 1)) a w
      unfold wpList
      split
      · rename_i hw
        rw [if_pos hw] at hstep'
        refine .inl (wpQ_mono (Oper.wp_mono (fun a' w' ⟨v, e, hbw, hsv⟩ => ?_) hstep'))
        subst e
        exact hnext v w' hbw hsv
      · rename_i hw
        rw [if_neg hw] at hstep'
        exact hnext undef w (Below.refl _ w) hstep'
  refine wp_region_lit ?_
  have := key n 0 (by omega) (fun _ => undef) a0 w0 (fill_none _ _ _ _ _ (fun j => by
    rcases Nat.lt_or_ge j n with h | h
    · rw [headListed_get _ _ _ _ (by omega)]; simp
    · rw [headListed_out _ _ _ _ (by omega)])).symm (fun j h => by omega) (fun j k h => by omega) (Below.refl _ _)
  simpa using this

theorem wp_region_seq {P : Program} {id : Nat} {Q : Exit → Act → World → Prop} {a0 : Act} {w0 : World} {l : List Oper} (n : Nat) (L : List (Value → World → Prop)) (D : Nat → Bool)
    (hB : seqB l n = true) (hsz : (l.take n).all (fun o => match o.dst with | some d => decide (d < a0.tmps.size) | none => true) = true)
    (hst : AllStable L) (hlt : ∀ i, i < n → D i = true → ∀ v w, lookS L i v w → blk v < w.heap.size)
    (hstep : Obl P l (l.take n) L D a0 w0 (l.take n) 0)
    (hend : ∀ vals w, Below w0.heap.size w0 w → (∀ i, i < n → lookS L i (vals i) w) → (∀ i j, i < n → j < n → i ≠ j → D i = true → D j = true → blk (vals i) ≠ blk (vals j)) →
      wpList P l.toArray Q (l.drop n) (fillAll (l.take n) 0 vals a0) w) :
    (Code.region id l.toArray false).wp P Q a0 w0 :=
  wp_region_seqD n (lookS L) D hB hsz (fun i _ v w w' h hb => lookS_stable L i hst v w w' h hb) hlt
    (fun i o hi ho a w hc => by
      have := Obl.get (l.take n) 0 hstep i o (by rw [List.getElem?_take_of_lt hi]; exact ho) a w hc
      rwa [Nat.zero_add] at this) hend

/-! ### single operations -/
section
variable {P : Program} {ops : Array Oper} {o : Oper} {a : Act} {w : World} {D : Prop}
theorem rs_pure {v : Value} (hg : Region.wanted o (yielded ops a.tmps) = true) (hr : (execOp a.eval o).run P w = .ok (.value v) w) (hD : ¬ D) :
    RStep P ops o a w (fun v' _ => v' = v ∧ (D → w.heap.size ≤ blk v')) :=
  rs_val hg hr (Below.refl _ w) ⟨rfl, fun h => (hD h).elim⟩
theorem rs_bin {op : BinOp} {T T2 : TypeId} {x y : Operand} {vx vy v : Value} (hg : Region.wanted o (yielded ops a.tmps) = true) (hop : o.op = Op.binOp op T x y T2) (hx : a.eval x = vx) (hy : a.eval y = vy)
    (hr : ∀ W, (execOp a.eval o).run P W = (do eqGuard op T x y vx vy; let u ← binOp op T vx vy; pure (Next.value u) : Sem Next).run P W → (do eqGuard op T x y vx vy; let u ← binOp op T vx vy; pure (Next.value u) : Sem Next).run P W = .ok (.value v) W) (hD : ¬ D) :
    RStep P ops o a w (fun v' _ => v' = v ∧ (D → w.heap.size ≤ blk v')) := by
  have e : (execOp a.eval o).run P w = (do eqGuard op T x y vx vy; let u ← binOp op T vx vy; pure (Next.value u) : Sem Next).run P w := by
    simp only [execOp, hop, hx, hy, bind_assoc]
  exact rs_pure hg (e.trans (hr w e)) hD
theorem args0 : (#[] : Array Operand).map a.eval = #[] := by simp
theorem args1 {x : Operand} {u : Value} (h : a.eval x = u) : (#[x] : Array Operand).map a.eval = #[u] := by simp [h]
theorem args2 {x y : Operand} {u v : Value} (h : a.eval x = u ∧ a.eval y = v) : (#[x, y] : Array Operand).map a.eval = #[u, v] := by simp [h.1, h.2]
theorem args3 {x y z : Operand} {u v t : Value} (h : a.eval x = u ∧ a.eval y = v ∧ a.eval z = t) : (#[x, y, z] : Array Operand).map a.eval = #[u, v, t] := by simp [h.1, h.2.1, h.2.2]
theorem args4 {x y z q : Operand} {u v t s : Value} (h : a.eval x = u ∧ a.eval y = v ∧ a.eval z = t ∧ a.eval q = s) : (#[x, y, z, q] : Array Operand).map a.eval = #[u, v, t, s] := by simp [h.1, h.2.1, h.2.2.1, h.2.2.2]
theorem rs_calln' {s : Value → World → Prop} {f : FuncId} {xs : Array Operand} {ts : Array TypeId} {vs : Array Value} (hg : Region.wanted o (yielded ops a.tmps) = true)
    (hop : o.op = Op.call { callee := Callee.value (Operand.func f), args := xs, argTypes := ts }) (hf : ∀ args w, (callFunc f args).run P w = .ok (.enter f args) w) (hx : xs.map a.eval = vs)
    (hc : Calls P f vs w fun e w' => ∃ v, e = .returned v ∧ Below w.heap.size w w' ∧ s v w') : RStep P ops o a w s := by
  refine rs_call hg (f := f) (args := vs) ?_ hc
  simp only [execOp, hop]
  simp [resolve, hx]
  rw [show a.eval (Operand.func f) = .func (.func f) #[] #[] from rfl]
  simp [Deferred.ofValue, invoke, hf]
theorem rs_calln {f : FuncId} {xs : Array Operand} {ts : Array TypeId} {vs : Array Value} {v : Value} (hg : Region.wanted o (yielded ops a.tmps) = true)
    (hop : o.op = Op.call { callee := Callee.value (Operand.func f), args := xs, argTypes := ts }) (hf : ∀ args w, (callFunc f args).run P w = .ok (.enter f args) w) (hx : xs.map a.eval = vs)
    (hc : Calls P f vs w fun e w' => e = .returned v ∧ Below w.heap.size w w') (hD : ¬ D) : RStep P ops o a w (fun v' _ => v' = v ∧ (D → w.heap.size ≤ blk v')) :=
  rs_calln' hg hop hf hx (hc.mono fun _ _ ⟨he, hb⟩ => ⟨v, he, hb, rfl, fun h => (hD h).elim⟩)
theorem rs_len {x : Operand} {t e : TypeId} (hu : P.underlying t = some (.slice e)) {p : Option Addr} {n c : Nat} (hg : Region.wanted o (yielded ops a.tmps) = true) (hop : o.op = Op.call { callee := Callee.builtin Builtin.len, args := #[x], argTypes := #[t] })
    (hx : a.eval x = .slice p n c) (hD : ¬ D) : RStep P ops o a w (fun v' _ => v' = .int .i64 n ∧ (D → w.heap.size ≤ blk v')) := by
  refine rs_pure hg ?_ hD
  simp only [execOp, hop, resolve, invoke, builtin, List.map_toArray, List.map_cons, List.map_nil, hx]
  simp [go_sem, Builtin.len_, run_underlying hu]
theorem rs_idx {x y : Operand} {T e : TypeId} {sz g off n c i q : Nat} {k : IntKind} (hu : P.underlying T = some (.slice e)) (hs : ∀ w, (sizeOf e).run P w = .ok sz w) (hg : Region.wanted o (yielded ops a.tmps) = true)
    (hop : o.op = Op.indexAddr T x y) (hx : a.eval x = .slice (some ⟨g, off, none⟩) n c) (hy : a.eval y = .int k (i : Int)) (hi : i < n) (hq : off + i * sz = q) (hD : ¬ D) :
    RStep P ops o a w (fun v' _ => v' = .pointer (some ⟨g, q, none⟩) ∧ (D → w.heap.size ≤ blk v')) := by
  subst hq
  refine rs_pure hg ?_ hD
  simp only [execOp, hop, hx, hy]
  simp [Instr.indexAt, asIntOf, go_sem, run_underlying hu, hs]
  intro hc
  omega
end
/-- a slice of one cell that was just laid -/
def OneV (T : TypeId) (x : Value) (v : Value) (w : World) : Prop := ∃ g, v = .slice (some ⟨g, 0, none⟩) 1 1 ∧ Boxed w g T x
theorem stable_oneV (T : TypeId) (x : Value) : Stable (OneV T x) := fun _ _ _ ⟨g, e, h⟩ hb => ⟨g, e, box_below h hb⟩
theorem OneV.news {w : World} {g : Nat} {T : TypeId} {x : Value} (h : Boxed w g T x) : ∀ (j : Nat) u, [x][j]? = some u → w.cell? ((⟨g, 0, none⟩ : Addr).add j) = some u := by
  intro j u hj
  match j, hj with
  | 0, hj => simp at hj; subst hj; exact h.cell
  | k + 1, hj => simp at hj
section
variable {P : Program} {ops : Array Oper} {o : Oper} {a : Act} {w : World} {D : Prop}
theorem rs_build1v {x : Operand} {TS T : TypeId} {u : Value} (hg : Region.wanted o (yielded ops a.tmps) = true) (hop : o.op = Op.buildSlice TS 1 #[(0, x)]) (hx : a.eval x = u)
    (hr : ∀ W, (Instr.buildSlice TS 1 #[(0, u)]).run P W = .ok (.slice (some ⟨W.heap.size, 0, none⟩) 1 1) (W.alloc (.cells #[u] T))) (hD : ¬ D) :
    RStep P ops o a w (fun v w' => OneV T u v w' ∧ (D → w.heap.size ≤ blk v)) := by
  refine rs_val hg (v := .slice (some ⟨w.heap.size, 0, none⟩) 1 1) (w' := w.alloc (.cells #[u] T)) ?_ ((Below.refl _ w).alloc (Nat.le_refl _) _)
    ⟨⟨w.heap.size, rfl, Boxed.new w T u⟩, fun h => (hD h).elim⟩
  simp only [execOp, hop]
  simp only [List.map_toArray, List.map_cons, List.map_nil, hx]
  simp [hr]
theorem yielded_undef {j : Nat} {d : Tmp} (h1 : (ops[j]?).bind (·.dst) = some d) (h2 : a.eval (.tmp d) = undef) : yielded ops a.tmps j = none := by
  unfold yielded
  rw [h1]
  simp only [Option.bind_some]
  simp only [Act.eval, Array.getD_eq_getD_getElem?] at h2
  cases h3 : a.tmps[d]? with
  | none => rfl
  | some x => rw [h3] at h2; simp at h2; subst h2; rfl
theorem not_wanted_u {j : Nat} {b : Bool} (hg : o.guard = some (j, b)) (hy : yielded ops a.tmps j = none) : Region.wanted o (yielded ops a.tmps) = false := by
  simp [Region.wanted, hg, hy]
end

end Go.Proofs.Ytkkilngihkdnaaa
