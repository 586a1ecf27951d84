/-
  A region that draws no order, whose operations turn the world by any relation that goes on (memory that is the call's own may be written): by a word on each value.
-/
import Derived.Test.YtkkilngihkdnaaaRegion2
namespace Go.Proofs.Ytkkilngihkdnaaa
open Go.RowKit

structure QCtx (l : List Oper) (Ss : Nat → Value → World → Prop) (R : World → World → Prop) (a0 : Act) (w0 : World) (i : Nat) (a : Act) (w : World) : Prop where
  rel : R w0 w
  frame : ∀ t, l.any (fun o => o.dst == some t) = false → a.eval (.tmp t) = a0.eval (.tmp t)
  dep : ∀ j d, decide (j < i) = true → (l[j]?).bind (·.dst) = some d → Ss j (a.eval (.tmp d)) w
def QStep (P : Program) (ops : Array Oper) (R : World → World → Prop) (o : Oper) (a : Act) (w : World) (s : Value → World → Prop) : Prop :=
  if Region.wanted o (yielded ops a.tmps) then o.wp P a w (fun a' w' => ∃ v, a' = a.put o.dst v ∧ R w w' ∧ s v w') (fun _ _ _ => False) else s undef w

theorem wp_region_seqRD {P : Program} {id : Nat} {Q : Exit → Act → World → Prop} {a0 : Act} {w0 : World} {l : List Oper} (R : World → World → Prop) (hrefl : ∀ w, R w w) (htrans : ∀ u v w, R u v → R v w → R u w) (n : Nat) (Ss : Nat → Value → World → Prop)
    (hst : ∀ i, i < n → ∀ v w w', Ss i v w → R w w' → Ss i v w')
    (hB : seqB l n = true) (hsz : (l.take n).all (fun o => match o.dst with | some d => decide (d < a0.tmps.size) | none => true) = true)
    (hstep : ∀ i o, i < n → l[i]? = some o → ∀ a w, QCtx (l.take n) Ss R a0 w0 i a w → QStep P l.toArray R o a w (Ss i))
    (hend : ∀ vals w, R w0 w → (∀ i, i < n → Ss i (vals i) w) → wpList P l.toArray Q (l.drop n) (fillAll (l.take n) 0 vals a0) w) :
    (Code.region id l.toArray false).wp P Q a0 w0 := by
  simp only [seqB, Bool.and_eq_true, decide_eq_true_eq] at hB
  obtain ⟨⟨hn, hd'⟩, _⟩ := hB
  have hdst : ∀ (i : Nat) (o : Oper), (l.take n)[i]? = some o → ∃ d, o.dst = some d := by
    intro i o h
    have : ∀ (r : List Oper) (j : Nat), dstsB r = true → r[j]? = some o → ∃ d, o.dst = some d := by
      intro r
      induction r with
      | nil => intro j _ h; simp at h
      | cons x r ihr =>
        intro j hdd h
        simp only [dstsB, Bool.and_eq_true] at hdd
        cases j with
        | zero => simp at h; subst h; exact Option.isSome_iff_exists.1 hdd.1.1
        | succ j => exact ihr j hdd.2 (by simpa using h)
    exact this _ i hd' h
  have hbd : ∀ (j : Nat) (oj : Oper) (dj : Tmp), (l.take n)[j]? = some oj → oj.dst = some dj → dj < a0.tmps.size := by
    intro j oj dj hj hdj
    have := List.all_eq_true.1 hsz oj (List.mem_of_getElem? hj)
    simpa [hdj] using this
  have key : ∀ (f i : Nat), i + f = n → ∀ (vals : Nat → Value) (a : Act) (w : World), a = fill (l.take n) 0 (headListed i (n - i)) vals a0 → (∀ j, j < i → Ss j (vals j) w) → R w0 w → wpList P l.toArray Q (l.drop i) a w := by
    intro f
    induction f with
    | zero =>
      intro i hi vals a w ha hv hb
      have hi' : i = n := by omega
      subst hi'
      rw [ha, fill_all (l.take i) 0 _ vals a0 (fun j hj => by rw [Nat.zero_add, headListed_get _ _ _ _ (by simp at hj; omega)]; simp at hj ⊢; omega)]
      exact hend vals w hb hv
    | succ f ih =>
      intro i hi vals a w ha hv hb
      have hin : i < n := by omega
      have hil : i < l.length := by omega
      have hot : (l.take n)[i]? = some l[i] := by rw [List.getElem?_take_of_lt hin]; simp [hil]
      obtain ⟨d, hod⟩ := hdst i _ hot
      rw [List.drop_eq_getElem_cons hil]
      have hctx : QCtx (l.take n) Ss R a0 w0 i a w := by
        refine ⟨hb, fun t ht => by rw [ha]; exact fill_frame _ _ _ _ _ t ht, fun j dj hj hdj => ?_⟩
        have h2 : j < i := by simpa using hj
        obtain ⟨oj, hoj, hdj'⟩ := Option.bind_eq_some_iff.1 hdj
        rw [ha, fill_at _ 0 _ vals a0 j oj dj hd' hoj hdj' (hbd j oj dj hoj hdj') (by rw [Nat.zero_add, headListed_get _ _ _ _ (by omega)]; simpa using h2), Nat.zero_add]
        exact hv j h2
      have hstep' := hstep i l[i] hin (by simp [hil]) a w hctx
      have hnext : ∀ v w', R w w' → Ss i v w' → wpList P l.toArray Q (l.drop (i + 1)) (a.put l[i].dst v) w' := by
        intro v w' hbw hsv
        refine ih (i + 1) (by omega) (fun j => if j = i then v else vals j) _ w' ?_ (fun j hj => ?_) (htrans _ _ _ hb hbw)
        · have h1 := fill_set (l.take n) 0 i (headListed i (n - i)) vals a0 l[i] d v hd' hot hod (by rw [Nat.zero_add, headListed_get _ _ _ _ (by omega)]; simp)
          rw [Nat.zero_add] at h1
          rw [ha, hod, ← h1]
          refine fill_congr _ _ _ _ _ _ _ (fun j hj => ⟨?_, rfl⟩)
          simp at hj
          rw [Nat.zero_add, headListed_get _ _ _ _ (by omega)]
          by_cases hji : j = i
          · subst hji
            have : j < (headListed j (n - j)).size := by simp [headListed]; omega
            simp [Array.getD_eq_getD_getElem?, this]
          · rw [getD_set_ne false (fun e => hji e.symm), headListed_get _ _ _ _ (by omega)]
            simp; omega
        · by_cases hji : j = i
          · subst hji; simpa using hsv
          · show Ss j (if j = i then v else vals j) w'
            rw [if_neg hji]
            exact hst j (by omega) _ _ _ (hv j (by omega)) hbw
      unfold QStep at hstep'
      show wpList P l.toArray Q (l[i] :: l.drop (i + 1)) a w
      unfold wpList
      split
      · rename_i hw
        rw [if_pos hw] at hstep'
        refine .inl (wpQ_mono (Oper.wp_mono (fun a' w' ⟨v, e, hbw, hsv⟩ => ?_) hstep'))
        subst e
        exact hnext v w' hbw hsv
      · rename_i hw
        rw [if_neg hw] at hstep'
        exact hnext undef w (hrefl w) hstep'
  refine wp_region_lit ?_
  have := key n 0 (by omega) (fun _ => undef) a0 w0 (fill_none _ _ _ _ _ (fun j => by
    rcases Nat.lt_or_ge j n with h | h
    · rw [headListed_get _ _ _ _ (by omega)]; simp
    · rw [headListed_out _ _ _ _ (by omega)])).symm (fun j h => by omega) (hrefl _)
  simpa using this

def StableR (R : World → World → Prop) (s : Value → World → Prop) : Prop := ∀ v w w', s v w → R w w' → s v w'
theorem stableR_eq {R : World → World → Prop} (x : Value) : StableR R (fun v _ => v = x) := fun _ _ _ h _ => h
def AllStableR (R : World → World → Prop) : List (Value → World → Prop) → Prop
  | [] => True
  | s :: r => StableR R s ∧ AllStableR R r
theorem lookS_stableR {R : World → World → Prop} : ∀ (L : List (Value → World → Prop)) (i : Nat), AllStableR R L → StableR R (lookS L i)
  | [], _, _ => fun _ _ _ h _ => h
  | _ :: _, 0, h => h.1
  | _ :: r, i + 1, h => lookS_stableR r i h.2
def OblQ (P : Program) (l hd : List Oper) (R : World → World → Prop) (L : List (Value → World → Prop)) (a0 : Act) (w0 : World) : List Oper → Nat → Prop
  | [], _ => True
  | o :: r, i => (∀ a w, QCtx hd (lookS L) R a0 w0 i a w → QStep P l.toArray R o a w (lookS L i)) ∧ OblQ P l hd R L a0 w0 r (i + 1)
theorem OblQ.get {P : Program} {l hd : List Oper} {R : World → World → Prop} {L : List (Value → World → Prop)} {a0 : Act} {w0 : World} : ∀ (r : List Oper) (k : Nat), OblQ P l hd R L a0 w0 r k → ∀ i o, r[i]? = some o →
    ∀ a w, QCtx hd (lookS L) R a0 w0 (k + i) a w → QStep P l.toArray R o a w (lookS L (k + i))
  | [], _, _, _, _, h => by simp at h
  | o :: r, k, h, 0, o', h' => by simp at h'; subst h'; exact h.1
  | o :: r, k, h, i + 1, o', h' => by
    have := OblQ.get r (k + 1) h.2 i o' (by simpa using h')
    rwa [show k + 1 + i = k + (i + 1) from by omega] at this
theorem wp_region_seqR {P : Program} {id : Nat} {Q : Exit → Act → World → Prop} {a0 : Act} {w0 : World} {l : List Oper} (R : World → World → Prop) (hrefl : ∀ w, R w w) (htrans : ∀ u v w, R u v → R v w → R u w) (n : Nat) (L : List (Value → World → Prop)) (hst : AllStableR R L)
    (hB : seqB l n = true) (hsz : (l.take n).all (fun o => match o.dst with | some d => decide (d < a0.tmps.size) | none => true) = true)
    (hstep : OblQ P l (l.take n) R L a0 w0 (l.take n) 0)
    (hend : ∀ vals w, R w0 w → (∀ i, i < n → lookS L i (vals i) w) → wpList P l.toArray Q (l.drop n) (fillAll (l.take n) 0 vals a0) w) :
    (Code.region id l.toArray false).wp P Q a0 w0 :=
  wp_region_seqRD R hrefl htrans n (lookS L) (fun i _ v w w' h hb => lookS_stableR L i hst v w w' h hb) hB hsz (fun i o hi ho a w hc => by
      have := OblQ.get (l.take n) 0 hstep i o (by rw [List.getElem?_take_of_lt hi]; exact ho) a w (by rwa [Nat.zero_add])
      rwa [Nat.zero_add] at this) hend

section
variable {P : Program} {ops : Array Oper} {o : Oper} {a : Act} {w : World} {R : World → World → Prop}
/-- what leaves the world alone: as the elder words say it -/
theorem rq_of {v : Value} (hrefl : ∀ w, R w w) (h : RStep P ops o a w (fun v' w' => v' = v ∧ w' = w)) : QStep P ops R o a w (fun v' _ => v' = v) := by
  unfold RStep StepOk at h
  unfold QStep
  split
  · rename_i hw
    rw [if_pos hw] at h
    exact Oper.wp_mono (fun a' w' ⟨u, e, _, h1, h2⟩ => ⟨u, e, h2 ▸ hrefl w, h1⟩) h
  · rename_i hw
    rw [if_neg hw] at h
    exact h.1
theorem rq_skip {v : Value} (hg : Region.wanted o (yielded ops a.tmps) = false) (hv : v = undef) : QStep P ops R o a w (fun v' _ => v' = v) := by
  unfold QStep; rw [if_neg (by rw [hg]; decide)]; exact hv.symm
theorem rq_pure {v : Value} (hrefl : ∀ w, R w w) (hg : Region.wanted o (yielded ops a.tmps) = true) (hr : (execOp a.eval o).run P w = .ok (.value v) w) : QStep P ops R o a w (fun v' _ => v' = v) :=
  rq_of hrefl (rs_val hg hr (Below.refl _ w) ⟨rfl, rfl⟩)
theorem rq_move {x : Operand} {v : Value} (hrefl : ∀ w, R w w) (hg : Region.wanted o (yielded ops a.tmps) = true) (hop : o.op = Op.move x) (hx : a.eval x = v) : QStep P ops R o a w (fun v' _ => v' = v) := by
  refine rq_pure hrefl hg ?_
  simp only [execOp, hop, hx]; rfl
theorem rq_assign {x : Operand} {v : Value} (hrefl : ∀ w, R w w) (hg : Region.wanted o (yielded ops a.tmps) = true) (hop : o.op = Op.assign x) (hx : a.eval x = v) : QStep P ops R o a w (fun v' _ => v' = v) := by
  refine rq_pure hrefl hg ?_
  simp only [execOp, hop, hx]; rfl
theorem rq_pick {x y z : Operand} {b : Bool} {v : Value} (hrefl : ∀ w, R w w) (hg : Region.wanted o (yielded ops a.tmps) = true) (hop : o.op = Op.pick x y z) (hx : a.eval x = .bool b) (hv : (if b then a.eval y else a.eval z) = v) : QStep P ops R o a w (fun v' _ => v' = v) := by
  refine rq_pure hrefl hg ?_
  simp only [execOp, hop, hx]
  subst hv
  cases b <;> rfl
theorem rq_calln {f : FuncId} {xs : Array Operand} {ts : Array TypeId} {vs : Array Value} {v : Value} (hg : Region.wanted o (yielded ops a.tmps) = true)
    (hop : o.op = Op.call { callee := Callee.value (Operand.func f), args := xs, argTypes := ts }) (hf : ∀ args w, (callFunc f args).run P w = .ok (.enter f args) w) (hx : xs.map a.eval = vs)
    (hc : Calls P f vs w fun e w' => e = .returned v ∧ R w w') : QStep P ops R o a w (fun v' _ => v' = v) := by
  unfold QStep; rw [if_pos hg]
  unfold Oper.wp
  have hr : (execOp a.eval o).run P w = .ok (.enter f vs) w := by
    simp only [execOp, hop]
    simp [resolve, hx]
    rw [show a.eval (Operand.func f) = .func (.func f) #[] #[] from rfl]
    simp [Deferred.ofValue, invoke, hf]
  rw [hr]
  exact hc.mono fun e w' ⟨he, hb⟩ => by subst he; exact ⟨v, rfl, hb, rfl⟩
/-- any elder word, where what it leaves is in the relation -/
theorem rq_below {s : Value → World → Prop} (hR : ∀ w', Below w.heap.size w w' → R w w') (h : RStep P ops o a w s) : QStep P ops R o a w s := by
  unfold RStep StepOk at h
  unfold QStep
  split
  · rename_i hw
    rw [if_pos hw] at h
    exact Oper.wp_mono (fun a' w' ⟨u, e, hb, h2⟩ => ⟨u, e, hR w' hb, h2⟩) h
  · rename_i hw
    rwa [if_neg hw] at h
end

end Go.Proofs.Ytkkilngihkdnaaa
