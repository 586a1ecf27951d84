/-
  Words on memory that the texts of this claim share: a slice value that reads as a row of cells, a range over a function by one law.
  No condition: these are lemmas.
-/
import Derived.RangeFuncBox
import Derived.RangeFuncNested
import Derived.RangeFuncBound
import Derived.RangeFuncCalls
import Derived.RangeFuncLeaves
import Derived.Shelf.Abstract
import Derived.WalkKit
import Derived.OwnWalkIn
import Derived.TacticsInMore
import Derived.LoopNIn
import Derived.LoopIn
import Derived.Maps.AppendAt
import Derived.Lib.Hide
import Derived.Deep.QuietTactic
import Derived.BigQuiet
import Derived.Laws.AppendOwnNone
import Derived.StillTailTactics
import Derived.Deep.RegionWith
import Derived.Stop.RegionWithIn
import Derived.Test.YtkkilngihkdnaaaProg
namespace Go.Proofs.Ytkkilngihkdnaaa
open Go.RowKit Go.Shelf

/-- The slice value v reads as the cells cs, one cell an element, in a block below b0. -/
def Rd (w : World) (b0 : Nat) (v : Value) (cs : List Value) : Prop :=
  ((∃ q, v = .slice q 0 0) ∧ cs = []) ∨ ∃ b off cap, v = .slice (some ⟨b, off, none⟩) cs.length cap ∧ b < b0 ∧ cs.length ≤ cap ∧ cap ≤ maxLen ∧
    ∀ j, (h : j < cs.length) → w.cell? ⟨b, off + j, none⟩ = some cs[j]

theorem Rd.below {w w' : World} {b0 : Nat} {v : Value} {cs : List Value} (h : Rd w b0 v cs) (hb : Below b0 w w') : Rd w' b0 v cs := by
  rcases h with h | ⟨b, off, cap, e, h1, h2, h3, h4⟩
  · exact .inl h
  · exact .inr ⟨b, off, cap, e, h1, h2, h3, fun j hj => (hb.cell (p := ⟨b, off + j, none⟩) h1).trans (h4 j hj)⟩

theorem Rd.up {w : World} {b0 b1 : Nat} {v : Value} {cs : List Value} (h : Rd w b0 v cs) (hb : b0 ≤ b1) : Rd w b1 v cs := by
  rcases h with h | ⟨b, off, cap, e, h1, h2, h3, h4⟩
  · exact .inl h
  · exact .inr ⟨b, off, cap, e, by omega, h2, h3, h4⟩

theorem Rd.len {w : World} {b0 : Nat} {v : Value} {cs : List Value} (h : Rd w b0 v cs) : cs.length ≤ 9223372036854775807 := by
  rcases h with ⟨_, h⟩ | ⟨b, off, cap, e, h1, h2, h3, h4⟩
  · simp [h]
  · unfold maxLen at h3; omega

/-- What a call owns reads so. -/
theorem Rd.of_own {w : World} {base : Nat} {e : TypeId} {v : Value} {n : Nat} {cs : List Value} (h : w.ownsRow base e 1 v n cs) : Rd w w.heap.size v cs := by
  obtain ⟨hl, h | ⟨g, cap, cur, rfl, hb, hg, hn, hc, hs, ht⟩⟩ := h
  · obtain ⟨rfl, rfl⟩ := h
    exact .inl ⟨⟨_, rfl⟩, List.eq_nil_of_length_eq_zero (by simpa using hl)⟩
  · have hl' : cs.length = n := by simpa using hl
    refine .inr ⟨g, 0, cap, by rw [hl'], (Array.getElem?_eq_some_iff.1 hg).1, by omega, hc, fun j hj => ?_⟩
    rw [cell_of_row w g (0 + j) cur e (0, 0) hg]
    have h2 : (cur.toList.take (n * 1))[j]? = some cs[j] := by rw [ht]; exact List.getElem?_eq_getElem hj
    rw [List.getElem?_take] at h2
    simp only [Nat.zero_add]
    split at h2
    · simpa using h2
    · cases h2

/-- What lay below B lies as it lay, but for the blocks M. -/
structure KeepBut (M : Nat → Prop) (B : Nat) (W W' : World) : Prop where
  os : W'.os = W.os
  tape : W'.tape = W.tape
  output : W'.output = W.output
  size : W.heap.size ≤ W'.heap.size
  old : ∀ k, k < B → ¬ M k → W'.heap[k]? = W.heap[k]?

theorem KeepBut.refl (M : Nat → Prop) (B : Nat) (W : World) : KeepBut M B W W := ⟨rfl, rfl, rfl, Nat.le_refl _, fun _ _ _ => rfl⟩
theorem KeepBut.trans {M : Nat → Prop} {B : Nat} {X Y Z : World} (h : KeepBut M B X Y) (k : KeepBut M B Y Z) : KeepBut M B X Z :=
  ⟨k.os.trans h.os, k.tape.trans h.tape, k.output.trans h.output, Nat.le_trans h.size k.size, fun i h1 h2 => (k.old i h1 h2).trans (h.old i h1 h2)⟩
theorem KeepBut.below {M : Nat → Prop} {B n : Nat} {W W' : World} (h : KeepBut M B W W') (hn : n ≤ B) (hM : ∀ k, k < n → ¬ M k) : Below n W W' :=
  ⟨h.os, h.tape, h.output, h.size, fun k hk => h.old k (by omega) (hM k hk)⟩
theorem KeepBut.of_below {M : Nat → Prop} {B : Nat} {W W' : World} (h : Below B W W') : KeepBut M B W W' :=
  ⟨h.os, h.tape, h.output, h.size, fun k hk _ => h.block k hk⟩
theorem KeepBut.mono {M M' : Nat → Prop} {B B' : Nat} {W W' : World} (h : KeepBut M B W W') (hB : B' ≤ B) (hM : ∀ k, k < B' → M k → M' k) : KeepBut M' B' W W' :=
  ⟨h.os, h.tape, h.output, h.size, fun k hk hn => h.old k (by omega) (fun hm => hn (hM k hk hm))⟩

/-- What a round of a loop over an iterator may do: as above, and the loop's own records lie as they lay. -/
structure Upd (M : Nat → Prop) (B : Nat) (W W' : World) : Prop where
  keep : KeepBut M B W W'
  others : KeepsFrom B W W'

theorem Upd.refl (M : Nat → Prop) (B : Nat) (W : World) : Upd M B W W := ⟨KeepBut.refl _ _ _, KeepsFrom.refl _ _⟩
theorem Upd.trans {M : Nat → Prop} {B : Nat} {X Y Z : World} (h : Upd M B X Y) (k : Upd M B Y Z) : Upd M B X Z := ⟨h.keep.trans k.keep, h.others.trans k.others⟩
/-- One step: of the blocks that there are, one alone is turned: one of M, or one of cells. -/
theorem Upd.grown {M : Nat → Prop} {B : Nat} {X W W' : World} {row : Option Nat} (h : Upd M B X W) (hg : W.grownBy W' row)
    (hr : ∀ k, row = some k → (k < B ∧ M k) ∨ (B ≤ k ∧ ∃ c e f, W.heap[k]? = some (.cells c e f))) (hB : B ≤ W.heap.size) : Upd M B X W' := by
  refine h.trans ⟨⟨hg.os, hg.tape, hg.output, hg.size, fun k h1 h2 => hg.block k (by omega) (fun e => ?_)⟩, ⟨hg.size, fun k o h1 h2 h3 => ?_⟩⟩
  · rcases hr k e.symm with ⟨_, h⟩ | ⟨h, _⟩
    · exact h2 h
    · omega
  · refine (hg.block k (Array.getElem?_eq_some_iff.1 h2).1 (fun e => ?_)).trans h2
    rcases hr k e.symm with ⟨h, _⟩ | ⟨_, c, e', f, h⟩
    · omega
    · rw [h] at h2; cases h2; cases h3
theorem Upd.alloc {M : Nat → Prop} {B : Nat} {X W : World} (h : Upd M B X W) (hB : B ≤ W.heap.size) (o : Obj) : Upd M B X (W.alloc o) :=
  h.grown (World.grownBy_alloc W o none) (fun k e => by cases e) hB
theorem Upd.setOld {M : Nat → Prop} {B : Nat} {X W : World} (h : Upd M B X W) (hB : B ≤ W.heap.size) {b : Nat} (hb : b < B) (hM : M b) (v : Value) : Upd M B X (W.setCell ⟨b, 0, none⟩ v) :=
  h.grown (grownBy_setCell' W b v) (fun k e => by cases e; exact .inl ⟨hb, hM⟩) hB
theorem Upd.call {M : Nat → Prop} {B : Nat} {X W W' : World} (h : Upd M B X W) (hb : Below W.heap.size W W') (hB : B ≤ W.heap.size) : Upd M B X W' :=
  h.trans ⟨KeepBut.of_below (hb.mono hB), ⟨hb.size, fun k _ _ h2 _ => (hb.block k (Array.getElem?_eq_some_iff.1 h2).1).trans h2⟩⟩

/-- Between two rounds of a loop over an iterator: what the loop itself may turn. -/
structure Idle (B : Nat) (W W' : World) : Prop where
  below : Below B W W'
  cells : ∀ (k : Nat) c e f, W.heap[k]? = some (.cells c e f) → W'.heap[k]? = some (.cells c e f)

theorem Idle.boxed {B : Nat} {W W' : World} (h : Idle B W W') {b : Nat} {t : TypeId} {v : Value} (hb : Boxed W b t v) : Boxed W' b t v := h.cells _ _ _ _ hb
theorem Idle.own {B : Nat} {W W' : World} (h : Idle B W W') {base : Nat} {e : TypeId} {s : Nat} {v : Value} {n : Nat} {xs : List Value} (ho : W.ownsRow base e s v n xs) : W'.ownsRow base e s v n xs := by
  obtain ⟨hl, h' | ⟨g, cap, cur, rfl, hb, hg, r⟩⟩ := ho
  · exact ⟨hl, .inl h'⟩
  · exact ⟨hl, .inr ⟨g, cap, cur, rfl, hb, h.cells _ _ _ _ hg, r⟩⟩
theorem Idle.of_putObj {B : Nat} {W : World} {l : Nat} {o : Obj} (o' : Obj) (hl : W.heap[l]? = some o) (ho : o.isCells = false) (hB : B ≤ l) : Idle B W (W.putObj l o') := by
  have hg := grownBy_putObj' W l o'
  have hlt := (Array.getElem?_eq_some_iff.1 hl).1
  refine ⟨(Below.refl B W).grown hg (by omega) (fun k e => by cases e; exact hB), fun k c e f hk => ?_⟩
  refine (hg.block k (Array.getElem?_eq_some_iff.1 hk).1 (fun er => ?_)).trans hk
  cases er
  rw [hk] at hl; cases hl; cases ho

theorem ownFrom_idle {β : Type} {B : Nat} {I : β → World → Prop} (h : ∀ s W W', Idle B W W' → I s W → I s W') (hs : ∀ s W, I s W → B ≤ W.heap.size) : OwnFrom B I := by
  intro s W W' row hI hg hr
  refine h s W W' ⟨?_, ?_⟩ hI
  · exact (Below.refl B W).grown hg (hs s W hI) (fun k e => (hr k e).1)
  · intro k c e f hk
    refine (hg.block k (Array.getElem?_eq_some_iff.1 hk).1 (fun er => ?_)).trans hk
    obtain ⟨_, o, ho, hc⟩ := hr k er.symm
    rw [hk] at ho; cases ho; cases hc

/-- An iterator value that gives xs, and reads the blocks S alone. -/
def Iter (P : Program) (g : Nat) (lb : Array Value) {α : Type} (encs : α → Array Value) (xs : List α) (S : Nat → Prop) (w : World) : Prop :=
  ∀ (M : Nat → Prop), (∀ k, S k → k < w.heap.size ∧ ¬ M k) →
    SeqStopsK Fence.wide 8 P g lb (fun x : {x // x ∈ xs} => encs x.1) (KeepBut M w.heap.size) (fun ys => ys.map (·.1) = xs) (fun ys => ys.map (·.1) <+: xs) xs.length w

/-- How a round may end. -/
def roundEnd {α : Type} (M : Nat → Prop) (B : Nat) (I : List α → World → Prop) (Ix : Code → List α → World → Prop) (xs : List α) (W : World) : Exit → Act → World → Prop
  | .normal, _, W' => Upd M B W W' ∧ I xs W'
  | .ret, _, W' => Upd M B W W' ∧ Ix .ret xs W'
  | .exit id, _, W' => Upd M B W W' ∧ Ix (.exit id) xs W'
  | .goto t, _, W' => Upd M B W W' ∧ Ix (.goto t) xs W'
  | .panic _, _, _ => False
  | .outgrown, _, _ => False

/-- A RANGE OVER A FUNCTION, its variables not boxed. -/
theorem wp_range {P : Program} {α : Type} {encs : α → Array Value} {xs : List α} {S : Nat → Prop} {g : Operand} {ps : Array Tmp} {assign body : Code} {Q : Exit → Act → World → Prop} {a : Act} {w : World}
    {gf : Nat} {lb : Array Value} (hit : Iter P gf lb encs xs S w) (hg : a.eval g = .func (.func gf) #[] lb) (eg : ∀ args w, (callFunc gf args).run P w = .ok (.enter gf args) w)
    (hps : ∀ x, (encs x).size = ps.size) (M : Nat → Prop) (hM : ∀ k, S k → k < w.heap.size ∧ ¬ M k)
    (I : List α → World → Prop) (Ix : Code → List α → World → Prop) (hI : ∀ s W W', Idle w.heap.size W W' → I s W → I s W') (hIx : ∀ c s W W', Idle w.heap.size W W' → Ix c s W → Ix c s W') (h0 : I [] w) (a₁ : α → Act)
    (hassign : ∀ (l : Nat) (x : α) (W : World) (K : Act → World → Prop), K (a₁ x) W →
      assign.wpIn (Fence.wide.inRound l) 7 P (Exit.then K (fun _ _ _ => False)) { tmps := (ps.zip (encs x)).foldl (fun t (p, v) => t.setIfInBounds p v) a.tmps, defers := [] } W)
    (hbody : ∀ (l : Nat) (pre : List α) (x : α) (W : World), KeepBut M w.heap.size w W → I pre W → x ∈ xs → pre.length < xs.length → body.wpIn (Fence.wide.inRound l) 7 P (roundEnd M w.heap.size I Ix (pre ++ [x]) W) (a₁ x) W)
    (hdone : ∀ (D : Nat) (W : World), w.heap.size ≤ D → KeepBut M w.heap.size w W → I xs W → W.heap[D]? = some (.deferred (some [])) → Q .normal { a with defers := { target := .collected D, args := #[] } :: a.defers } W)
    (hstop : ∀ (D : Nat) (c : Code) (pre : List α) (W : World), w.heap.size ≤ D → KeepBut M w.heap.size w W → pre <+: xs → Ix c pre W → W.heap[D]? = some (.deferred (some [])) → c.wpIn Fence.wide 9 P Q { a with defers := { target := .collected D, args := #[] } :: a.defers } W) :
    (Code.rangeFunc g ps assign body).wpIn Fence.wide 9 P Q a w := by
  refine wpIn_rangeFunc_ownG (F := Fence.wide) (n := 9) (N := xs.length) (w0 := w) rfl (by omega) (lb := lb) hg trivial eg (hit M hM) KeepBut.trans ?_ (Below.refl _ _) (fun x => hps x.1)
    (fun pre W => KeepBut M w.heap.size w W ∧ I (pre.map (·.1)) W) (fun c pre W => KeepBut M w.heap.size w W ∧ Ix c (pre.map (·.1)) W) ?_ ?_ ⟨KeepBut.refl _ _ _, h0⟩ (fun x => a₁ x.1) ?_ ?_ ?_ ?_
  · intro W l o o' h1 h2 _ _
    have hg := grownBy_putObj' W l o'
    exact ⟨hg.os, hg.tape, hg.output, hg.size, fun k h3 _ => hg.block k (by have := (Array.getElem?_eq_some_iff.1 h2).1; omega) (fun e => by cases e; omega)⟩
  · refine ownFrom_idle (fun s W W' h hI' => ⟨hI'.1.trans (KeepBut.of_below h.below), hI _ _ _ h hI'.2⟩) (fun s W h => h.1.size)
  · intro c
    refine ownFrom_idle (fun s W W' h hI' => ⟨hI'.1.trans (KeepBut.of_below h.below), hIx _ _ _ _ h hI'.2⟩) (fun s W h => h.1.size)
  · intro l x W K hK
    exact hassign l x.1 W K hK
  · intro l pre x W hI' hlen
    refine wpIn_mono (hbody l (pre.map (·.1)) x.1 W hI'.1 hI'.2 x.2 (by simpa using hlen)) ?_
    intro e a W' h
    cases e with
    | normal => exact ⟨h.1.others, h.1.keep, hI'.1.trans h.1.keep, by simpa using h.2⟩
    | ret => exact ⟨h.1.others, hI'.1.trans h.1.keep, by simpa using h.2⟩
    | exit id => exact ⟨h.1.others, hI'.1.trans h.1.keep, by simpa using h.2⟩
    | goto t => exact ⟨h.1.others, hI'.1.trans h.1.keep, by simpa using h.2⟩
    | panic ch => exact h
    | outgrown => exact h
  · intro D ys W hD hS hI' hK
    exact hdone D W hD hI'.1 (hS ▸ hI'.2) hK
  · intro D c pre W hD hS hI' hK
    exact hstop D c _ W hD hI'.1 hS hI'.2 hK

/-- The end of a function that held such a loop. -/
theorem leave_range {P : Program} {fn : Func} {R : Ending → World → Prop} {tmps : Array Value} {D : Nat} {W : World} {v : Value}
    (hK : W.heap[D]? = some (.deferred (some []))) (hr : ∀ W', (results fn tmps).run P W' = .ok v W') (h : R (.returned v) (W.putObj D (.deferred none))) :
    bodyPostM Fence.wide 9 P fn R .ret { tmps := tmps, defers := [{ target := .collected D, args := #[] }] } W :=
  ⟨by simp, .inl ⟨_, _, rfl, run_takeDeferred hK, _, hr _, h⟩⟩

theorem calls_of_wide {P : Program} {f : FuncId} {args : Array Value} {w : World} {R : Ending → World → Prop} (h : CallsIn Fence.wide 9 P f args w R) : Calls P f args w R := callsIn_wide.1 h

/-! ### a body that holds a label, inside a fence -/
theorem stepR_scope {P : Program} {b : Frame} {a : Act} {k : List Item} {cs : List Frame} {w : World} {c : Code} : step P (lone (b.atR a (.code (.scope c) :: k)) cs w) = .next (lone (b.atR a (.code c :: .inScope c :: k)) cs w) :=
  step_lone_go (by simp [stepG, stepG.exec, Frame.atR])
theorem stepR_inScope {P : Program} {b : Frame} {a : Act} {k : List Item} {cs : List Frame} {w : World} {c : Code} : step P (lone (b.atR a (.inScope c :: k)) cs w) = .next (lone (b.atR a k) cs w) :=
  step_lone_go (by simp [stepG, stepG.exec, Frame.atR])

theorem wpIn_scope {F : Fence} {n : Nat} {P : Program} {c : Code} {Q : Exit → Act → World → Prop} {a : Act} {w : World} (h : c.wpIn F n P (Exit.noGoto Q) a w) : (Code.scope c).wpIn F n P Q a w := by
  intro b k cs hro hb hr
  have h0 : (lone (b.atR a (.code (.scope c) :: k)) cs w).fenced P F := fenced_calm hb hr rfl
  obtain ⟨e, a₁, w₁, hq, harr⟩ := h b (.inScope c :: k) cs hro hb hr
  have hx : ∀ id, exitTo id (.inScope c :: k) = exitTo id k := fun id => by simp [exitTo]
  cases e with
  | normal => exact ⟨.normal, a₁, w₁, hq, .head h0 stepR_scope (StepsIn.trans harr (.one (fenced_calm hb hr rfl) stepR_inScope))⟩
  | exit id =>
    exact ⟨.exit id, a₁, w₁, hq, fun k' hk => .head h0 stepR_scope (harr.1 k' (by rw [hx]; exact hk)),
      fun hr' hk => let ⟨k₁, h1, h2⟩ := harr.2 hr' (by rw [hx]; exact hk); ⟨k₁, h1, .head h0 stepR_scope h2⟩⟩
  | goto l => exact hq.elim
  | ret => exact ⟨_, a₁, w₁, hq, .of_steps (.one h0 stepR_scope) harr⟩
  | panic ch => exact ⟨_, a₁, w₁, hq, .of_steps (.one h0 stepR_scope) harr⟩
  | outgrown => exact ⟨_, a₁, w₁, hq, .of_steps (.one h0 stepR_scope) harr⟩

/-! ### small words -/
theorem own_below {w w' : World} {base : Nat} {e : TypeId} {s : Nat} {v : Value} {n : Nat} {xs : List Value} (h : w.ownsRow base e s v n xs) (hb : Below w.heap.size w w') : w'.ownsRow base e s v n xs := by
  obtain ⟨hl, h' | ⟨g, cap, cur, rfl, hg1, hg, r⟩⟩ := h
  · exact ⟨hl, .inl h'⟩
  · exact ⟨hl, .inr ⟨g, cap, cur, rfl, hg1, (hb.block g (Array.getElem?_eq_some_iff.1 hg).1).trans hg, r⟩⟩
theorem own_base {w : World} {base base' : Nat} {e : TypeId} {s : Nat} {v : Value} {n : Nat} {xs : List Value} (h : w.ownsRow base e s v n xs) (hb : base' ≤ base) : w.ownsRow base' e s v n xs := by
  obtain ⟨hl, h' | ⟨g, cap, cur, rfl, hg1, r⟩⟩ := h
  · exact ⟨hl, .inl h'⟩
  · exact ⟨hl, .inr ⟨g, cap, cur, rfl, by omega, r⟩⟩
theorem box_below {w w' : World} {b : Nat} {t : TypeId} {v : Value} (h : Boxed w b t v) (hb : Below w.heap.size w w') : Boxed w' b t v := (hb.block b h.lt).trans h
theorem own_lit (w : World) (base : Nat) (e : TypeId) (xs : List Value) (hb : base ≤ w.heap.size) (hl : xs.length ≤ maxLen) :
    (w.alloc (.cells xs.toArray e)).ownsRow base e 1 (.slice (some ⟨w.heap.size, 0, none⟩) xs.length xs.length) xs.length xs :=
  ⟨by simp, .inr ⟨w.heap.size, _, _, rfl, hb, World.alloc_heap_new w _, Nat.le_refl _, hl, by simp, by simp⟩⟩

/-- append of a fresh row to a slice of the call's own, inside a fence: where the new slice lies is told too. -/
theorem wpListIn_append_at {F : Fence} {n : Nat} {P : Program} (w : World) {ops : Array Oper} {rest : List Oper} {o : Oper} {a : Act} {Q : Exit → Act → World → Prop}
    (hg : o.guard = none) (s x : Operand) (t : TypeId) (hop : o.op = Op.call { callee := Callee.builtin Builtin.append, args := #[s, x], argTypes := #[t, t] })
    (base : Nat) (e : TypeId) (i : TypeInfo) (z : Value) (size bytes : Nat) (h1 : P.underlying t = some (.slice e)) (h2 : P.info? e = some i) (h3 : i.zero = some z) (h4 : i.size = size) (h5 : i.bytes = bytes) (h6 : z.cells.size = size) (h7 : 0 < size)
    (v : Value) (k : Nat) (xs : List Value) (hs : a.eval s = v) (hown : w.ownsRow base e size v k xs) (ad : Addr) (m c : Nat) (news : List Value) (hx : a.eval x = .slice (some ad) m c) (hn : news.length = m * size)
    (hc : ∀ j u, news[j]? = some u → w.cell? (ad.add j) = some u) (h1c : ∀ u ∈ news, u.oneCell' = true) (b1 : k + m ≤ maxLen) (b2 : (k + m) * bytes ≤ 140737488355328) (b3 : base ≤ w.heap.size) (hm : 0 < m)
    (hK : ∀ g cap w', w'.ownsRow base e size (.slice (some ⟨g, 0, none⟩) (k + m) cap) (k + m) (xs ++ news) → w.grownBy w' v.ownBlock → (v.ownBlock = some g ∨ g = w.heap.size) → wpListIn F n P ops Q rest (a.put o.dst (.slice (some ⟨g, 0, none⟩) (k + m) cap)) w') :
    wpListIn F n P ops Q (o :: rest) a w := by
  refine wpListIn_plain hg fun K hK' => ?_
  obtain ⟨v', w', hrun, r1, r2, r3, r4⟩ := run_append_own_at (P := P) w base t o.type e i z size bytes h1 h2 h3 h4 h5 h6 h7 v k xs hown ad m c news hn hc h1c b1 b2 b3
  have hv' : ∃ g cap, v' = .slice (some ⟨g, 0, none⟩) (k + m) cap := by
    rcases r1.2 with ⟨_, h0⟩ | ⟨g, cap, _, rfl, _⟩
    · omega
    · exact ⟨g, cap, rfl⟩
  obtain ⟨g, cap, rfl⟩ := hv'
  unfold Oper.wpIn
  refine ⟨?_, ?_⟩
  · simp [Oper.about, hop, resolve, Target.leads, Sem.run_pure]
  · rw [Oper.semAt_plain F _ _ (by rw [hop]; intro c hc'; cases hc')]
    simp [execOp, hop, resolve, invoke, builtin, hs, hx, hrun, Result.andThen]
    refine hK' _ _ (hK g cap w' r1 r2 ?_)
    rcases r4 with r4 | r4
    · exact .inl r4.symm
    · exact .inr (by simpa [Value.ownBlock] using r4)

/-- The same in a plain walk. -/
theorem wpList_append_at {P : Program} (w : World) {ops : Array Oper} {rest : List Oper} {o : Oper} {a : Act} {Q : Exit → Act → World → Prop}
    (hg : o.guard = none) (s x : Operand) (t : TypeId) (hop : o.op = Op.call { callee := Callee.builtin Builtin.append, args := #[s, x], argTypes := #[t, t] })
    (base : Nat) (e : TypeId) (i : TypeInfo) (z : Value) (size bytes : Nat) (h1 : P.underlying t = some (.slice e)) (h2 : P.info? e = some i) (h3 : i.zero = some z) (h4 : i.size = size) (h5 : i.bytes = bytes) (h6 : z.cells.size = size) (h7 : 0 < size)
    (v : Value) (k : Nat) (xs : List Value) (hs : a.eval s = v) (hown : w.ownsRow base e size v k xs) (ad : Addr) (m c : Nat) (news : List Value) (hx : a.eval x = .slice (some ad) m c) (hn : news.length = m * size)
    (hc : ∀ j u, news[j]? = some u → w.cell? (ad.add j) = some u) (h1c : ∀ u ∈ news, u.oneCell' = true) (b1 : k + m ≤ maxLen) (b2 : (k + m) * bytes ≤ 140737488355328) (b3 : base ≤ w.heap.size) (hm : 0 < m)
    (hK : ∀ g cap w', w'.ownsRow base e size (.slice (some ⟨g, 0, none⟩) (k + m) cap) (k + m) (xs ++ news) → w.grownBy w' v.ownBlock → (v.ownBlock = some g ∨ g = w.heap.size) → wpList P ops Q rest (a.put o.dst (.slice (some ⟨g, 0, none⟩) (k + m) cap)) w') :
    wpList P ops Q (o :: rest) a w := by
  refine wpList_append_own_at w hg s x t hop base e i z size bytes h1 h2 h3 h4 h5 h6 h7 v k xs hs hown ad m c news hx hn hc h1c b1 b2 b3 ?_
  intro v' w' r1 r2 r3 r4
  have hv' : ∃ g cap, v' = .slice (some ⟨g, 0, none⟩) (k + m) cap := by
    rcases r1.2 with ⟨_, h0⟩ | ⟨g, cap, _, rfl, _⟩
    · omega
    · exact ⟨g, cap, rfl⟩
  obtain ⟨g, cap, rfl⟩ := hv'
  refine hK g cap w' r1 r2 ?_
  rcases r4 with r4 | r4
  · exact .inl r4.symm
  · exact .inr (by simpa [Value.ownBlock] using r4)

/-! ### a slice of a slice; the text of a row of bytes -/
/-- where a slice that is cut at l begins -/
def offA (p : Option Addr) (c l : Nat) : Option Addr := if c = l then p else p.map (·.add l)

theorem run_slice_off {P : Program} (t e : TypeId) (ht : P.underlying t = some (.slice e)) (hz : ∀ w, (sizeOf e).run P w = .ok 1 w) (p : Option Addr) (n c l h : Nat) (h1 : l ≤ h) (h2 : h ≤ c) (w : World) :
    (Instr.slice t (.slice p n c) (some (.int .i64 l)) (some (.int .i64 h)) none).run P w = .ok (.slice (offA p c l) (h - l) (c - l)) w := by
  have he : P.elem t = e := by simp [Program.elem, ht]
  rw [run_slice_lh w t p n c (by rw [he]; exact ht) .i64 .i64 l h (by omega) (by omega) (by omega), he, hz]
  simp [Result.andThen, sliced, offA]

theorem Rd.sub {w : World} {b0 : Nat} {p : Option Addr} {n c : Nat} {cs : List Value} (hr : Rd w b0 (.slice p n c) cs) {l h : Nat} (h1 : l ≤ h) (h2 : h ≤ n) : Rd w b0 (.slice (offA p c l) (h - l) (c - l)) ((cs.drop l).take (h - l)) := by
  rcases hr with ⟨⟨q, e⟩, rfl⟩ | ⟨b, off, cap, e, hb, hc, hm, hcell⟩
  · cases e
    have : h = 0 := by omega
    subst this
    have : l = 0 := by omega
    subst this
    exact .inl ⟨⟨p, by simp [offA]⟩, by simp⟩
  · cases e
    have hlen : ((cs.drop l).take (h - l)).length = h - l := by simp; omega
    by_cases hcl : c = l
    · have : l = h := by omega
      subst this
      refine .inr ⟨b, off, c - l, by rw [hlen]; simp [offA, hcl], hb, by rw [hlen]; omega, by omega, fun j hj => ?_⟩
      rw [hlen] at hj; omega
    · have ha : (⟨b, off, none⟩ : Addr).add l = ⟨b, off + l, none⟩ := by unfold Addr.add; split <;> simp_all
      refine .inr ⟨b, off + l, c - l, by rw [hlen]; simp [offA, hcl, ha], hb, by rw [hlen]; omega, by omega, fun j hj => ?_⟩
      rw [hlen] at hj
      rw [show off + l + j = off + (l + j) from by omega, hcell (l + j) (by omega)]
      simp

theorem run_convert_rd {P : Program} (w : World) (src e dst : TypeId) (hs : P.underlying src = some (.slice e)) (he : P.underlying e = some (.int .u8)) (hd : P.underlying dst = some .string) {b0 : Nat} {v : Value} {xs : List Int} (h : Rd w b0 v (xs.map (.int .u8))) :
    (convert src dst v).run P w = .ok (.string (strOfNums xs)) w := by
  rcases h with ⟨⟨q, rfl⟩, hx⟩ | ⟨b, off, cap, rfl, hb, hc, hm, hcell⟩
  · have : xs = [] := by simpa using hx
    subst this
    cases q with
    | none => exact run_convert_bytes_nil w src e hs he 0 0 dst hd
    | some a =>
      rw [run_convert_bytes_string w src dst e _ 0 0 hs he hd, run_bytesToString w a 0 0 [] (run_loadCells_list (P := P) w a [] (fun j v hj => by simp at hj))]
      rfl
  · refine run_convert_bytes_arg w src e hs he b off _ cap xs (by simp) (fun i hi => ?_) dst hd
    rw [hcell i hi]
    simp at hi
    simp [hi]

theorem Rd.lit (w : World) (xs : List Value) (e : TypeId) (f : Nat × Nat) (hl : xs.length ≤ maxLen) : Rd (w.alloc (.cells xs.toArray e f)) (w.heap.size + 1) (.slice (some ⟨w.heap.size, 0, none⟩) xs.length xs.length) xs := by
  refine .inr ⟨w.heap.size, 0, xs.length, rfl, by omega, Nat.le_refl _, hl, fun j hj => ?_⟩
  rw [cell_of_row _ w.heap.size (0 + j) xs.toArray e f (World.alloc_heap_new w _)]
  simp [hj]

/-- what a call owns, of one element at least, written out, with its cells -/
theorem own_open {w : World} {base : Nat} {e : TypeId} {v : Value} {n : Nat} {cs : List Value} (h : w.ownsRow base e 1 v n cs) (hn : 0 < n) :
    ∃ g cap, v = .slice (some ⟨g, 0, none⟩) n cap ∧ base ≤ g ∧ g < w.heap.size ∧ n ≤ cap ∧ cap ≤ maxLen ∧ ∀ j, (hj : j < cs.length) → w.cell? ⟨g, j, none⟩ = some cs[j] := by
  have hr := Rd.of_own h
  obtain ⟨hl, h | ⟨g, cap, cur, rfl, hb, hg, hc, hm, hs, ht⟩⟩ := h
  · omega
  · refine ⟨g, cap, rfl, hb, (Array.getElem?_eq_some_iff.1 hg).1, hc, hm, fun j hj => ?_⟩
    rcases hr with ⟨_, h⟩ | ⟨b, off, cap', h, _, _, _, hcell⟩
    · subst h; simp at hj
    · injection h with h1 h2 h3
      injection h1 with h1
      injection h1 with h1 h4
      subst h1 h4
      simpa using hcell j hj

/-! ### a region that draws its order, whose calls make memory of their own alone -/
theorem fam (w : World) : ∃ (T : Type) (_ : Nonempty T) (f : T → World), (∀ x, Below w.heap.size w (f x)) ∧ (∀ w', Below w.heap.size w w' → ∃ x, w' = f x) :=
  ⟨{w' // Below w.heap.size w w'}, ⟨w, Below.refl _ _⟩, fun x => x.1, fun x => x.2, fun w' h => ⟨⟨w', h⟩, rfl⟩⟩

theorem wp_region_fam {P : Program} {T : Type} (f : T → World) {id : Nat} {Q : Exit → Act → World → Prop} {a : Act} {w : World} {l : List Oper} (hm : P.follows .mixedOrders = true) (hB : Region.lexB .any l.toArray = true)
    (h0 : ∀ w', Below w.heap.size w w' → ∃ x, w' = f x)
    (h : wpQuiet P l.toArray (fun w' => ∃ x, w' = f x) (fun a' => ∀ w', (∃ x, w' = f x) → Q .normal a' w') l a) : (Code.region id l.toArray true).wp P Q a w :=
  wp_region_quiet (C := fun w' => ∃ x, w' = f x) hm hB (h0 _ ((Below.refl _ w).drew)) (by simpa using h)

/-- a call in such a region: one that makes memory of its own alone -/
theorem fam_call {P : Program} {T : Type} {f : T → World} {w : World} (hf : ∀ x, Below w.heap.size w (f x)) (h0 : ∀ w', Below w.heap.size w w' → ∃ x, w' = f x) {g : FuncId} {args : Array Value} {v : Value} (x : T)
    (h : Calls P g args (f x) fun e w' => e = .returned v ∧ Below (f x).heap.size (f x) w') : Calls P g args (f x) fun e w' => e = .returned v ∧ ∃ y, w' = f y :=
  h.mono fun _ w' ⟨he, hb⟩ => ⟨he, h0 w' ((hf x).trans (hb.mono (hf x).size))⟩
theorem fam_same {P : Program} {T : Type} {f : T → World} {g : FuncId} {args : Array Value} {v : Value} (x : T)
    (h : Calls P g args (f x) fun e w' => e = .returned v ∧ f x = w') : Calls P g args (f x) fun e w' => e = .returned v ∧ ∃ y, w' = f y :=
  h.mono fun _ _ ⟨he, hb⟩ => ⟨he, x, hb.symm⟩

/-- 'append(own, src...)' whatever the source, in a plain walk. -/
theorem wpList_append_rd {P : Program} (w : World) {ops : Array Oper} {rest : List Oper} {o : Oper} {a : Act} {Q : Exit → Act → World → Prop}
    (hg : o.guard = none) (s x : Operand) (t : TypeId) (hop : o.op = Op.call { callee := Callee.builtin Builtin.append, args := #[s, x], argTypes := #[t, t] })
    (base : Nat) (e : TypeId) (i : TypeInfo) (z : Value) (bytes : Nat) (h1 : P.underlying t = some (.slice e)) (h2 : P.info? e = some i) (h3 : i.zero = some z) (h4 : i.size = 1) (h5 : i.bytes = bytes) (h6 : z.cells.size = 1)
    (v : Value) (k : Nat) (xs : List Value) (hs : a.eval s = v) (hown : w.ownsRow base e 1 v k xs) (u : Value) (cs : List Value) {b0 : Nat} (hx : a.eval x = u) (hrd : Rd w b0 u cs)
    (h1c : ∀ c ∈ cs, c.oneCell' = true) (b1 : k + cs.length ≤ maxLen) (b2 : (k + cs.length) * bytes ≤ 140737488355328) (b3 : base ≤ w.heap.size)
    (hK : ∀ v' w', w'.ownsRow base e 1 v' (k + cs.length) (xs ++ cs) → w.grownBy w' v.ownBlock → (v'.ownBlock = v.ownBlock ∨ v'.ownBlock = some w.heap.size) → wpList P ops Q rest (a.put o.dst v') w') :
    wpList P ops Q (o :: rest) a w := by
  rcases hrd with ⟨⟨q, rfl⟩, rfl⟩ | ⟨b, off, cap, rfl, hb, hc, hm, hcell⟩
  · cases q with
    | none =>
      refine wpList_append_own_none hg s x t hop base e i 1 h1 h2 v k xs hs hown hx ?_
      have := hK v w (by simpa using hown) ⟨rfl, rfl, rfl, Nat.le_refl _, fun _ _ _ => rfl⟩ (.inl rfl)
      subst hs
      exact this
    | some ad => exact wpList_append_own_at w hg s x t hop base e i z 1 bytes h1 h2 h3 h4 h5 h6 (by decide) v k xs hs hown ad 0 0 [] hx (by simp) (fun j u' hj => by simp at hj) h1c (by simpa using b1) (by simpa using b2) b3 (fun v' w' r1 r2 _ r4 => hK v' w' (by simpa using r1) r2 r4)
  · have had : ∀ j, (⟨b, off, none⟩ : Addr).add j = ⟨b, off + j, none⟩ := fun j => by unfold Addr.add; split <;> simp_all
    refine wpList_append_own_at w hg s x t hop base e i z 1 bytes h1 h2 h3 h4 h5 h6 (by decide) v k xs hs hown ⟨b, off, none⟩ cs.length cap cs hx (by simp) (fun j u' hj => ?_) h1c b1 b2 b3 (fun v' w' r1 r2 _ r4 => hK v' w' r1 r2 r4)
    rw [had]
    obtain ⟨hj', rfl⟩ := List.getElem?_eq_some_iff.1 hj
    exact hcell j hj'

theorem own_empty (w : World) (base : Nat) (e : TypeId) (hb : base ≤ w.heap.size) : (w.alloc (.cells #[] e)).ownsRow base e 1 (.slice (some ⟨w.heap.size, 0, none⟩) 0 0) 0 [] :=
  own_lit w base e [] hb (by simp)

/-- a region that draws its order: n operations that leave the world alone, then those that are forced behind them -/
theorem wp_region_tail {P : Program} {id : Nat} {Q : Exit → Act → World → Prop} {a : Act} {w : World} {l : List Oper} (n : Nat) (hm : P.follows .mixedOrders = true) (hB : Region.lexTailB .any l.toArray n = true)
    (h : ∀ w2 : World, w2 = w.drew → wpStill P l.toArray w2 (fun a' => wpList P l.toArray Q (l.drop n) a' w2) (l.take n) a) : (Code.region id l.toArray true).wp P Q a w :=
  wp_region_still_tail n hm hB (h _ rfl)

end Go.Proofs.Ytkkilngihkdnaaa
