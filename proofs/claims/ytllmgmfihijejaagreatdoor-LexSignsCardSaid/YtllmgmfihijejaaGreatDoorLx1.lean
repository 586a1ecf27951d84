/-
  Laws of walks, and walks: Base SetPlain Set Set2 Set3 Region RegionSet Region2 Pure Own Region3 Region4 Region5.
-/
import Derived.RangeFuncBox
import Derived.RangeFuncNested
import Derived.RangeFuncBound
import Derived.RangeFuncCalls
import Derived.RangeFuncLeaves
import Derived.Shelf.Abstract
import Derived.WalkKit
import Derived.OwnWalkIn
import Derived.TacticsInMore
import Derived.LoopNIn
import Derived.LoopIn
import Derived.Maps.AppendAt
import Derived.Lib.Hide
import Derived.Deep.QuietTactic
import Derived.BigQuiet
import Derived.Laws.AppendOwnNone
import Derived.StillTailTactics
import Derived.Deep.RegionWith
import Derived.Stop.RegionWithIn
import Derived.Test.YtllmgmfihijejaaGreatDoorProg
import Derived.ChangeKeysEq
import Derived.StillTail
import Derived.Deep.MidRow
import Derived.Deep.CutRange
import Derived.Laws.Slices
import Derived.Laws.Strings2
import Derived.Lib.Strings
set_option linter.unusedVariables false
set_option linter.unusedSimpArgs false
/-
  Words on memory that the texts of this claim share: a slice value that reads as a row of cells, a range over a function by one law.
  No condition: these are lemmas.
-/
namespace Go.Proofs.YtllmgmfihijejaaGreatDoor
open Go.RowKit Go.Shelf

/-- The slice value v reads as the cells cs, one cell an element, in a block below b0. -/
def Rd (w : World) (b0 : Nat) (v : Value) (cs : List Value) : Prop :=
  ((∃ q, v = .slice q 0 0) ∧ cs = []) ∨ ∃ b off cap, v = .slice (some ⟨b, off, none⟩) cs.length cap ∧ b < b0 ∧ cs.length ≤ cap ∧ cap ≤ maxLen ∧
    ∀ j, (h : j < cs.length) → w.cell? ⟨b, off + j, none⟩ = some cs[j]

theorem Rd.below {w w' : World} {b0 : Nat} {v : Value} {cs : List Value} (h : Rd w b0 v cs) (hb : Below b0 w w') : Rd w' b0 v cs := by
  rcases h with h | ⟨b, off, cap, e, h1, h2, h3, h4⟩
  · exact .inl h
  · exact .inr ⟨b, off, cap, e, h1, h2, h3, fun j hj => (hb.cell (p := ⟨b, off + j, none⟩) h1).trans (h4 j hj)⟩

theorem Rd.up {w : World} {b0 b1 : Nat} {v : Value} {cs : List Value} (h : Rd w b0 v cs) (hb : b0 ≤ b1) : Rd w b1 v cs := by
  rcases h with h | ⟨b, off, cap, e, h1, h2, h3, h4⟩
  · exact .inl h
  · exact .inr ⟨b, off, cap, e, by omega, h2, h3, h4⟩

theorem Rd.len {w : World} {b0 : Nat} {v : Value} {cs : List Value} (h : Rd w b0 v cs) : cs.length ≤ 9223372036854775807 := by
  rcases h with ⟨_, h⟩ | ⟨b, off, cap, e, h1, h2, h3, h4⟩
  · simp [h]
  · unfold maxLen at h3; omega

/-- What a call owns reads so. -/
theorem Rd.of_own {w : World} {base : Nat} {e : TypeId} {v : Value} {n : Nat} {cs : List Value} (h : w.ownsRow base e 1 v n cs) : Rd w w.heap.size v cs := by
  obtain ⟨hl, h | ⟨g, cap, cur, rfl, hb, hg, hn, hc, hs, ht⟩⟩ := h
  · obtain ⟨rfl, rfl⟩ := h
    exact .inl ⟨⟨_, rfl⟩, List.eq_nil_of_length_eq_zero (by simpa using hl)⟩
  · have hl' : cs.length = n := by simpa using hl
    refine .inr ⟨g, 0, cap, by rw [hl'], (Array.getElem?_eq_some_iff.1 hg).1, by omega, hc, fun j hj => ?_⟩
    rw [cell_of_row w g (0 + j) cur e (0, 0) hg]
    have h2 : (cur.toList.take (n * 1))[j]? = some cs[j] := by rw [ht]; exact List.getElem?_eq_getElem hj
    rw [List.getElem?_take] at h2
    simp only [Nat.zero_add]
    split at h2
    · simpa using h2
    · cases h2

/-- What lay below B lies as it lay, but for the blocks M. -/
structure KeepBut (M : Nat → Prop) (B : Nat) (W W' : World) : Prop where
  os : W'.os = W.os
  tape : W'.tape = W.tape
  output : W'.output = W.output
  size : W.heap.size ≤ W'.heap.size
  old : ∀ k, k < B → ¬ M k → W'.heap[k]? = W.heap[k]?

theorem KeepBut.refl (M : Nat → Prop) (B : Nat) (W : World) : KeepBut M B W W := ⟨rfl, rfl, rfl, Nat.le_refl _, fun _ _ _ => rfl⟩
theorem KeepBut.trans {M : Nat → Prop} {B : Nat} {X Y Z : World} (h : KeepBut M B X Y) (k : KeepBut M B Y Z) : KeepBut M B X Z :=
  ⟨k.os.trans h.os, k.tape.trans h.tape, k.output.trans h.output, Nat.le_trans h.size k.size, fun i h1 h2 => (k.old i h1 h2).trans (h.old i h1 h2)⟩
theorem KeepBut.below {M : Nat → Prop} {B n : Nat} {W W' : World} (h : KeepBut M B W W') (hn : n ≤ B) (hM : ∀ k, k < n → ¬ M k) : Below n W W' :=
  ⟨h.os, h.tape, h.output, h.size, fun k hk => h.old k (by omega) (hM k hk)⟩
theorem KeepBut.of_below {M : Nat → Prop} {B : Nat} {W W' : World} (h : Below B W W') : KeepBut M B W W' :=
  ⟨h.os, h.tape, h.output, h.size, fun k hk _ => h.block k hk⟩
theorem KeepBut.mono {M M' : Nat → Prop} {B B' : Nat} {W W' : World} (h : KeepBut M B W W') (hB : B' ≤ B) (hM : ∀ k, k < B' → M k → M' k) : KeepBut M' B' W W' :=
  ⟨h.os, h.tape, h.output, h.size, fun k hk hn => h.old k (by omega) (fun hm => hn (hM k hk hm))⟩

/-- What a round of a loop over an iterator may do: as above, and the loop's own records lie as they lay. -/
structure Upd (M : Nat → Prop) (B : Nat) (W W' : World) : Prop where
  keep : KeepBut M B W W'
  others : KeepsFrom B W W'

theorem Upd.refl (M : Nat → Prop) (B : Nat) (W : World) : Upd M B W W := ⟨KeepBut.refl _ _ _, KeepsFrom.refl _ _⟩
theorem Upd.trans {M : Nat → Prop} {B : Nat} {X Y Z : World} (h : Upd M B X Y) (k : Upd M B Y Z) : Upd M B X Z := ⟨h.keep.trans k.keep, h.others.trans k.others⟩
/-- One step: of the blocks that there are, one alone is turned: one of M, or one of cells. -/
theorem Upd.grown {M : Nat → Prop} {B : Nat} {X W W' : World} {row : Option Nat} (h : Upd M B X W) (hg : W.grownBy W' row)
    (hr : ∀ k, row = some k → (k < B ∧ M k) ∨ (B ≤ k ∧ ∃ c e f, W.heap[k]? = some (.cells c e f))) (hB : B ≤ W.heap.size) : Upd M B X W' := by
  refine h.trans ⟨⟨hg.os, hg.tape, hg.output, hg.size, fun k h1 h2 => hg.block k (by omega) (fun e => ?_)⟩, ⟨hg.size, fun k o h1 h2 h3 => ?_⟩⟩
  · rcases hr k e.symm with ⟨_, h⟩ | ⟨h, _⟩
    · exact h2 h
    · omega
  · refine (hg.block k (Array.getElem?_eq_some_iff.1 h2).1 (fun e => ?_)).trans h2
    rcases hr k e.symm with ⟨h, _⟩ | ⟨_, c, e', f, h⟩
    · omega
    · rw [h] at h2; cases h2; cases h3
theorem Upd.alloc {M : Nat → Prop} {B : Nat} {X W : World} (h : Upd M B X W) (hB : B ≤ W.heap.size) (o : Obj) : Upd M B X (W.alloc o) :=
  h.grown (World.grownBy_alloc W o none) (fun k e => by cases e) hB
theorem Upd.setOld {M : Nat → Prop} {B : Nat} {X W : World} (h : Upd M B X W) (hB : B ≤ W.heap.size) {b : Nat} (hb : b < B) (hM : M b) (v : Value) : Upd M B X (W.setCell ⟨b, 0, none⟩ v) :=
  h.grown (grownBy_setCell' W b v) (fun k e => by cases e; exact .inl ⟨hb, hM⟩) hB
theorem Upd.call {M : Nat → Prop} {B : Nat} {X W W' : World} (h : Upd M B X W) (hb : Below W.heap.size W W') (hB : B ≤ W.heap.size) : Upd M B X W' :=
  h.trans ⟨KeepBut.of_below (hb.mono hB), ⟨hb.size, fun k _ _ h2 _ => (hb.block k (Array.getElem?_eq_some_iff.1 h2).1).trans h2⟩⟩

/-- Between two rounds of a loop over an iterator: what the loop itself may turn. -/
structure Idle (B : Nat) (W W' : World) : Prop where
  below : Below B W W'
  cells : ∀ (k : Nat) c e f, W.heap[k]? = some (.cells c e f) → W'.heap[k]? = some (.cells c e f)

theorem Idle.boxed {B : Nat} {W W' : World} (h : Idle B W W') {b : Nat} {t : TypeId} {v : Value} (hb : Boxed W b t v) : Boxed W' b t v := h.cells _ _ _ _ hb
theorem Idle.own {B : Nat} {W W' : World} (h : Idle B W W') {base : Nat} {e : TypeId} {s : Nat} {v : Value} {n : Nat} {xs : List Value} (ho : W.ownsRow base e s v n xs) : W'.ownsRow base e s v n xs := by
  obtain ⟨hl, h' | ⟨g, cap, cur, rfl, hb, hg, r⟩⟩ := ho
  · exact ⟨hl, .inl h'⟩
  · exact ⟨hl, .inr ⟨g, cap, cur, rfl, hb, h.cells _ _ _ _ hg, r⟩⟩
theorem Idle.of_putObj {B : Nat} {W : World} {l : Nat} {o : Obj} (o' : Obj) (hl : W.heap[l]? = some o) (ho : o.isCells = false) (hB : B ≤ l) : Idle B W (W.putObj l o') := by
  have hg := grownBy_putObj' W l o'
  have hlt := (Array.getElem?_eq_some_iff.1 hl).1
  refine ⟨(Below.refl B W).grown hg (by omega) (fun k e => by cases e; exact hB), fun k c e f hk => ?_⟩
  refine (hg.block k (Array.getElem?_eq_some_iff.1 hk).1 (fun er => ?_)).trans hk
  cases er
  rw [hk] at hl; cases hl; cases ho

theorem ownFrom_idle {β : Type} {B : Nat} {I : β → World → Prop} (h : ∀ s W W', Idle B W W' → I s W → I s W') (hs : ∀ s W, I s W → B ≤ W.heap.size) : OwnFrom B I := by
  intro s W W' row hI hg hr
  refine h s W W' ⟨?_, ?_⟩ hI
  · exact (Below.refl B W).grown hg (hs s W hI) (fun k e => (hr k e).1)
  · intro k c e f hk
    refine (hg.block k (Array.getElem?_eq_some_iff.1 hk).1 (fun er => ?_)).trans hk
    obtain ⟨_, o, ho, hc⟩ := hr k er.symm
    rw [hk] at ho; cases ho; cases hc

/-- An iterator value that gives xs, and reads the blocks S alone. -/
def Iter (P : Program) (g : Nat) (lb : Array Value) {α : Type} (encs : α → Array Value) (xs : List α) (S : Nat → Prop) (w : World) : Prop :=
  ∀ (M : Nat → Prop), (∀ k, S k → k < w.heap.size ∧ ¬ M k) →
    SeqStopsK Fence.wide 8 P g lb (fun x : {x // x ∈ xs} => encs x.1) (KeepBut M w.heap.size) (fun ys => ys.map (·.1) = xs) (fun ys => ys.map (·.1) <+: xs) xs.length w

/-- How a round may end. -/
def roundEnd {α : Type} (M : Nat → Prop) (B : Nat) (I : List α → World → Prop) (Ix : Code → List α → World → Prop) (xs : List α) (W : World) : Exit → Act → World → Prop
  | .normal, _, W' => Upd M B W W' ∧ I xs W'
  | .ret, _, W' => Upd M B W W' ∧ Ix .ret xs W'
  | .exit id, _, W' => Upd M B W W' ∧ Ix (.exit id) xs W'
  | .goto t, _, W' => Upd M B W W' ∧ Ix (.goto t) xs W'
  | .panic _, _, _ => False
  | .outgrown, _, _ => False

/-- A RANGE OVER A FUNCTION, its variables not boxed. -/
theorem wp_range {P : Program} {α : Type} {encs : α → Array Value} {xs : List α} {S : Nat → Prop} {g : Operand} {ps : Array Tmp} {assign body : Code} {Q : Exit → Act → World → Prop} {a : Act} {w : World}
    {gf : Nat} {lb : Array Value} (hit : Iter P gf lb encs xs S w) (hg : a.eval g = .func (.func gf) #[] lb) (eg : ∀ args w, (callFunc gf args).run P w = .ok (.enter gf args) w)
    (hps : ∀ x, (encs x).size = ps.size) (M : Nat → Prop) (hM : ∀ k, S k → k < w.heap.size ∧ ¬ M k)
    (I : List α → World → Prop) (Ix : Code → List α → World → Prop) (hI : ∀ s W W', Idle w.heap.size W W' → I s W → I s W') (hIx : ∀ c s W W', Idle w.heap.size W W' → Ix c s W → Ix c s W') (h0 : I [] w) (a₁ : α → Act)
    (hassign : ∀ (l : Nat) (x : α) (W : World) (K : Act → World → Prop), K (a₁ x) W →
      assign.wpIn (Fence.wide.inRound l) 7 P (Exit.then K (fun _ _ _ => False)) { tmps := (ps.zip (encs x)).foldl (fun t (p, v) => t.setIfInBounds p v) a.tmps, defers := [] } W)
    (hbody : ∀ (l : Nat) (pre : List α) (x : α) (W : World), KeepBut M w.heap.size w W → I pre W → x ∈ xs → pre.length < xs.length → body.wpIn (Fence.wide.inRound l) 7 P (roundEnd M w.heap.size I Ix (pre ++ [x]) W) (a₁ x) W)
    (hdone : ∀ (D : Nat) (W : World), w.heap.size ≤ D → KeepBut M w.heap.size w W → I xs W → W.heap[D]? = some (.deferred (some [])) → Q .normal { a with defers := { target := .collected D, args := #[] } :: a.defers } W)
    (hstop : ∀ (D : Nat) (c : Code) (pre : List α) (W : World), w.heap.size ≤ D → KeepBut M w.heap.size w W → pre <+: xs → Ix c pre W → W.heap[D]? = some (.deferred (some [])) → c.wpIn Fence.wide 9 P Q { a with defers := { target := .collected D, args := #[] } :: a.defers } W) :
    (Code.rangeFunc g ps assign body).wpIn Fence.wide 9 P Q a w := by
  refine wpIn_rangeFunc_ownG (F := Fence.wide) (n := 9) (N := xs.length) (w0 := w) rfl (by omega) (lb := lb) hg trivial eg (hit M hM) KeepBut.trans ?_ (Below.refl _ _) (fun x => hps x.1)
    (fun pre W => KeepBut M w.heap.size w W ∧ I (pre.map (·.1)) W) (fun c pre W => KeepBut M w.heap.size w W ∧ Ix c (pre.map (·.1)) W) ?_ ?_ ⟨KeepBut.refl _ _ _, h0⟩ (fun x => a₁ x.1) ?_ ?_ ?_ ?_
  · intro W l o o' h1 h2 _ _
    have hg := grownBy_putObj' W l o'
    exact ⟨hg.os, hg.tape, hg.output, hg.size, fun k h3 _ => hg.block k (by have := (Array.getElem?_eq_some_iff.1 h2).1; omega) (fun e => by cases e; omega)⟩
  · refine ownFrom_idle (fun s W W' h hI' => ⟨hI'.1.trans (KeepBut.of_below h.below), hI _ _ _ h hI'.2⟩) (fun s W h => h.1.size)
  · intro c
    refine ownFrom_idle (fun s W W' h hI' => ⟨hI'.1.trans (KeepBut.of_below h.below), hIx _ _ _ _ h hI'.2⟩) (fun s W h => h.1.size)
  · intro l x W K hK
    exact hassign l x.1 W K hK
  · intro l pre x W hI' hlen
    refine wpIn_mono (hbody l (pre.map (·.1)) x.1 W hI'.1 hI'.2 x.2 (by simpa using hlen)) ?_
    intro e a W' h
    cases e with
    | normal => exact ⟨h.1.others, h.1.keep, hI'.1.trans h.1.keep, by simpa using h.2⟩
    | ret => exact ⟨h.1.others, hI'.1.trans h.1.keep, by simpa using h.2⟩
    | exit id => exact ⟨h.1.others, hI'.1.trans h.1.keep, by simpa using h.2⟩
    | goto t => exact ⟨h.1.others, hI'.1.trans h.1.keep, by simpa using h.2⟩
    | panic ch => exact h
    | outgrown => exact h
  · intro D ys W hD hS hI' hK
    exact hdone D W hD hI'.1 (hS ▸ hI'.2) hK
  · intro D c pre W hD hS hI' hK
    exact hstop D c _ W hD hI'.1 hS hI'.2 hK

/-- The end of a function that held such a loop. -/
theorem leave_range {P : Program} {fn : Func} {R : Ending → World → Prop} {tmps : Array Value} {D : Nat} {W : World} {v : Value}
    (hK : W.heap[D]? = some (.deferred (some []))) (hr : ∀ W', (results fn tmps).run P W' = .ok v W') (h : R (.returned v) (W.putObj D (.deferred none))) :
    bodyPostM Fence.wide 9 P fn R .ret { tmps := tmps, defers := [{ target := .collected D, args := #[] }] } W :=
  ⟨by simp, .inl ⟨_, _, rfl, run_takeDeferred hK, _, hr _, h⟩⟩

theorem calls_of_wide {P : Program} {f : FuncId} {args : Array Value} {w : World} {R : Ending → World → Prop} (h : CallsIn Fence.wide 9 P f args w R) : Calls P f args w R := callsIn_wide.1 h

/-! ### a body that holds a label, inside a fence -/
theorem stepR_scope {P : Program} {b : Frame} {a : Act} {k : List Item} {cs : List Frame} {w : World} {c : Code} : step P (lone (b.atR a (.code (.scope c) :: k)) cs w) = .next (lone (b.atR a (.code c :: .inScope c :: k)) cs w) :=
  step_lone_go (by simp [stepG, stepG.exec, Frame.atR])
theorem stepR_inScope {P : Program} {b : Frame} {a : Act} {k : List Item} {cs : List Frame} {w : World} {c : Code} : step P (lone (b.atR a (.inScope c :: k)) cs w) = .next (lone (b.atR a k) cs w) :=
  step_lone_go (by simp [stepG, stepG.exec, Frame.atR])

theorem wpIn_scope {F : Fence} {n : Nat} {P : Program} {c : Code} {Q : Exit → Act → World → Prop} {a : Act} {w : World} (h : c.wpIn F n P (Exit.noGoto Q) a w) : (Code.scope c).wpIn F n P Q a w := by
  intro b k cs hro hb hr
  have h0 : (lone (b.atR a (.code (.scope c) :: k)) cs w).fenced P F := fenced_calm hb hr rfl
  obtain ⟨e, a₁, w₁, hq, harr⟩ := h b (.inScope c :: k) cs hro hb hr
  have hx : ∀ id, exitTo id (.inScope c :: k) = exitTo id k := fun id => by simp [exitTo]
  cases e with
  | normal => exact ⟨.normal, a₁, w₁, hq, .head h0 stepR_scope (StepsIn.trans harr (.one (fenced_calm hb hr rfl) stepR_inScope))⟩
  | exit id =>
    exact ⟨.exit id, a₁, w₁, hq, fun k' hk => .head h0 stepR_scope (harr.1 k' (by rw [hx]; exact hk)),
      fun hr' hk => let ⟨k₁, h1, h2⟩ := harr.2 hr' (by rw [hx]; exact hk); ⟨k₁, h1, .head h0 stepR_scope h2⟩⟩
  | goto l => exact hq.elim
  | ret => exact ⟨_, a₁, w₁, hq, .of_steps (.one h0 stepR_scope) harr⟩
  | panic ch => exact ⟨_, a₁, w₁, hq, .of_steps (.one h0 stepR_scope) harr⟩
  | outgrown => exact ⟨_, a₁, w₁, hq, .of_steps (.one h0 stepR_scope) harr⟩

/-! ### small words -/
theorem own_below {w w' : World} {base : Nat} {e : TypeId} {s : Nat} {v : Value} {n : Nat} {xs : List Value} (h : w.ownsRow base e s v n xs) (hb : Below w.heap.size w w') : w'.ownsRow base e s v n xs := by
  obtain ⟨hl, h' | ⟨g, cap, cur, rfl, hg1, hg, r⟩⟩ := h
  · exact ⟨hl, .inl h'⟩
  · exact ⟨hl, .inr ⟨g, cap, cur, rfl, hg1, (hb.block g (Array.getElem?_eq_some_iff.1 hg).1).trans hg, r⟩⟩
theorem own_base {w : World} {base base' : Nat} {e : TypeId} {s : Nat} {v : Value} {n : Nat} {xs : List Value} (h : w.ownsRow base e s v n xs) (hb : base' ≤ base) : w.ownsRow base' e s v n xs := by
  obtain ⟨hl, h' | ⟨g, cap, cur, rfl, hg1, r⟩⟩ := h
  · exact ⟨hl, .inl h'⟩
  · exact ⟨hl, .inr ⟨g, cap, cur, rfl, by omega, r⟩⟩
theorem box_below {w w' : World} {b : Nat} {t : TypeId} {v : Value} (h : Boxed w b t v) (hb : Below w.heap.size w w') : Boxed w' b t v := (hb.block b h.lt).trans h
theorem own_lit (w : World) (base : Nat) (e : TypeId) (xs : List Value) (hb : base ≤ w.heap.size) (hl : xs.length ≤ maxLen) :
    (w.alloc (.cells xs.toArray e)).ownsRow base e 1 (.slice (some ⟨w.heap.size, 0, none⟩) xs.length xs.length) xs.length xs :=
  ⟨by simp, .inr ⟨w.heap.size, _, _, rfl, hb, World.alloc_heap_new w _, Nat.le_refl _, hl, by simp, by simp⟩⟩

/-- append of a fresh row to a slice of the call's own, inside a fence: where the new slice lies is told too. -/
theorem wpListIn_append_at {F : Fence} {n : Nat} {P : Program} (w : World) {ops : Array Oper} {rest : List Oper} {o : Oper} {a : Act} {Q : Exit → Act → World → Prop}
    (hg : o.guard = none) (s x : Operand) (t : TypeId) (hop : o.op = Op.call { callee := Callee.builtin Builtin.append, args := #[s, x], argTypes := #[t, t] })
    (base : Nat) (e : TypeId) (i : TypeInfo) (z : Value) (size bytes : Nat) (h1 : P.underlying t = some (.slice e)) (h2 : P.info? e = some i) (h3 : i.zero = some z) (h4 : i.size = size) (h5 : i.bytes = bytes) (h6 : z.cells.size = size) (h7 : 0 < size)
    (v : Value) (k : Nat) (xs : List Value) (hs : a.eval s = v) (hown : w.ownsRow base e size v k xs) (ad : Addr) (m c : Nat) (news : List Value) (hx : a.eval x = .slice (some ad) m c) (hn : news.length = m * size)
    (hc : ∀ j u, news[j]? = some u → w.cell? (ad.add j) = some u) (h1c : ∀ u ∈ news, u.oneCell' = true) (b1 : k + m ≤ maxLen) (b2 : (k + m) * bytes ≤ 140737488355328) (b3 : base ≤ w.heap.size) (hm : 0 < m)
    (hK : ∀ g cap w', w'.ownsRow base e size (.slice (some ⟨g, 0, none⟩) (k + m) cap) (k + m) (xs ++ news) → w.grownBy w' v.ownBlock → (v.ownBlock = some g ∨ g = w.heap.size) → wpListIn F n P ops Q rest (a.put o.dst (.slice (some ⟨g, 0, none⟩) (k + m) cap)) w') :
    wpListIn F n P ops Q (o :: rest) a w := by
  refine wpListIn_plain hg fun K hK' => ?_
  obtain ⟨v', w', hrun, r1, r2, r3, r4⟩ := run_append_own_at (P := P) w base t o.type e i z size bytes h1 h2 h3 h4 h5 h6 h7 v k xs hown ad m c news hn hc h1c b1 b2 b3
  have hv' : ∃ g cap, v' = .slice (some ⟨g, 0, none⟩) (k + m) cap := by
    rcases r1.2 with ⟨_, h0⟩ | ⟨g, cap, _, rfl, _⟩
    · omega
    · exact ⟨g, cap, rfl⟩
  obtain ⟨g, cap, rfl⟩ := hv'
  unfold Oper.wpIn
  refine ⟨?_, ?_⟩
  · simp [Oper.about, hop, resolve, Target.leads, Sem.run_pure]
  · rw [Oper.semAt_plain F _ _ (by rw [hop]; intro c hc'; cases hc')]
    simp [execOp, hop, resolve, invoke, builtin, hs, hx, hrun, Result.andThen]
    refine hK' _ _ (hK g cap w' r1 r2 ?_)
    rcases r4 with r4 | r4
    · exact .inl r4.symm
    · exact .inr (by simpa [Value.ownBlock] using r4)

/-- The same in a plain walk. -/
theorem wpList_append_at {P : Program} (w : World) {ops : Array Oper} {rest : List Oper} {o : Oper} {a : Act} {Q : Exit → Act → World → Prop}
    (hg : o.guard = none) (s x : Operand) (t : TypeId) (hop : o.op = Op.call { callee := Callee.builtin Builtin.append, args := #[s, x], argTypes := #[t, t] })
    (base : Nat) (e : TypeId) (i : TypeInfo) (z : Value) (size bytes : Nat) (h1 : P.underlying t = some (.slice e)) (h2 : P.info? e = some i) (h3 : i.zero = some z) (h4 : i.size = size) (h5 : i.bytes = bytes) (h6 : z.cells.size = size) (h7 : 0 < size)
    (v : Value) (k : Nat) (xs : List Value) (hs : a.eval s = v) (hown : w.ownsRow base e size v k xs) (ad : Addr) (m c : Nat) (news : List Value) (hx : a.eval x = .slice (some ad) m c) (hn : news.length = m * size)
    (hc : ∀ j u, news[j]? = some u → w.cell? (ad.add j) = some u) (h1c : ∀ u ∈ news, u.oneCell' = true) (b1 : k + m ≤ maxLen) (b2 : (k + m) * bytes ≤ 140737488355328) (b3 : base ≤ w.heap.size) (hm : 0 < m)
    (hK : ∀ g cap w', w'.ownsRow base e size (.slice (some ⟨g, 0, none⟩) (k + m) cap) (k + m) (xs ++ news) → w.grownBy w' v.ownBlock → (v.ownBlock = some g ∨ g = w.heap.size) → wpList P ops Q rest (a.put o.dst (.slice (some ⟨g, 0, none⟩) (k + m) cap)) w') :
    wpList P ops Q (o :: rest) a w := by
  refine wpList_append_own_at w hg s x t hop base e i z size bytes h1 h2 h3 h4 h5 h6 h7 v k xs hs hown ad m c news hx hn hc h1c b1 b2 b3 ?_
  intro v' w' r1 r2 r3 r4
  have hv' : ∃ g cap, v' = .slice (some ⟨g, 0, none⟩) (k + m) cap := by
    rcases r1.2 with ⟨_, h0⟩ | ⟨g, cap, _, rfl, _⟩
    · omega
    · exact ⟨g, cap, rfl⟩
  obtain ⟨g, cap, rfl⟩ := hv'
  refine hK g cap w' r1 r2 ?_
  rcases r4 with r4 | r4
  · exact .inl r4.symm
  · exact .inr (by simpa [Value.ownBlock] using r4)

/-! ### a slice of a slice; the text of a row of bytes -/
/-- where a slice that is cut at l begins -/
def offA (p : Option Addr) (c l : Nat) : Option Addr := if c = l then p else p.map (·.add l)

theorem run_slice_off {P : Program} (t e : TypeId) (ht : P.underlying t = some (.slice e)) (hz : ∀ w, (sizeOf e).run P w = .ok 1 w) (p : Option Addr) (n c l h : Nat) (h1 : l ≤ h) (h2 : h ≤ c) (w : World) :
    (Instr.slice t (.slice p n c) (some (.int .i64 l)) (some (.int .i64 h)) none).run P w = .ok (.slice (offA p c l) (h - l) (c - l)) w := by
  have he : P.elem t = e := by simp [Program.elem, ht]
  rw [run_slice_lh w t p n c (by rw [he]; exact ht) .i64 .i64 l h (by omega) (by omega) (by omega), he, hz]
  simp [Result.andThen, sliced, offA]

theorem Rd.sub {w : World} {b0 : Nat} {p : Option Addr} {n c : Nat} {cs : List Value} (hr : Rd w b0 (.slice p n c) cs) {l h : Nat} (h1 : l ≤ h) (h2 : h ≤ n) : Rd w b0 (.slice (offA p c l) (h - l) (c - l)) ((cs.drop l).take (h - l)) := by
  rcases hr with ⟨⟨q, e⟩, rfl⟩ | ⟨b, off, cap, e, hb, hc, hm, hcell⟩
  · cases e
    have : h = 0 := by omega
    subst this
    have : l = 0 := by omega
    subst this
    exact .inl ⟨⟨p, by simp [offA]⟩, by simp⟩
  · cases e
    have hlen : ((cs.drop l).take (h - l)).length = h - l := by simp; omega
    by_cases hcl : c = l
    · have : l = h := by omega
      subst this
      refine .inr ⟨b, off, c - l, by rw [hlen]; simp [offA, hcl], hb, by rw [hlen]; omega, by omega, fun j hj => ?_⟩
      rw [hlen] at hj; omega
    · have ha : (⟨b, off, none⟩ : Addr).add l = ⟨b, off + l, none⟩ := by unfold Addr.add; split <;> simp_all
      refine .inr ⟨b, off + l, c - l, by rw [hlen]; simp [offA, hcl, ha], hb, by rw [hlen]; omega, by omega, fun j hj => ?_⟩
      rw [hlen] at hj
      rw [show off + l + j = off + (l + j) from by omega, hcell (l + j) (by omega)]
      simp

theorem run_convert_rd {P : Program} (w : World) (src e dst : TypeId) (hs : P.underlying src = some (.slice e)) (he : P.underlying e = some (.int .u8)) (hd : P.underlying dst = some .string) {b0 : Nat} {v : Value} {xs : List Int} (h : Rd w b0 v (xs.map (.int .u8))) :
    (convert src dst v).run P w = .ok (.string (strOfNums xs)) w := by
  rcases h with ⟨⟨q, rfl⟩, hx⟩ | ⟨b, off, cap, rfl, hb, hc, hm, hcell⟩
  · have : xs = [] := by simpa using hx
    subst this
    cases q with
    | none => exact run_convert_bytes_nil w src e hs he 0 0 dst hd
    | some a =>
      rw [run_convert_bytes_string w src dst e _ 0 0 hs he hd, run_bytesToString w a 0 0 [] (run_loadCells_list (P := P) w a [] (fun j v hj => by simp at hj))]
      rfl
  · refine run_convert_bytes_arg w src e hs he b off _ cap xs (by simp) (fun i hi => ?_) dst hd
    rw [hcell i hi]
    simp at hi
    simp [hi]

theorem Rd.lit (w : World) (xs : List Value) (e : TypeId) (f : Nat × Nat) (hl : xs.length ≤ maxLen) : Rd (w.alloc (.cells xs.toArray e f)) (w.heap.size + 1) (.slice (some ⟨w.heap.size, 0, none⟩) xs.length xs.length) xs := by
  refine .inr ⟨w.heap.size, 0, xs.length, rfl, by omega, Nat.le_refl _, hl, fun j hj => ?_⟩
  rw [cell_of_row _ w.heap.size (0 + j) xs.toArray e f (World.alloc_heap_new w _)]
  simp [hj]

/-- what a call owns, of one element at least, written out, with its cells -/
theorem own_open {w : World} {base : Nat} {e : TypeId} {v : Value} {n : Nat} {cs : List Value} (h : w.ownsRow base e 1 v n cs) (hn : 0 < n) :
    ∃ g cap, v = .slice (some ⟨g, 0, none⟩) n cap ∧ base ≤ g ∧ g < w.heap.size ∧ n ≤ cap ∧ cap ≤ maxLen ∧ ∀ j, (hj : j < cs.length) → w.cell? ⟨g, j, none⟩ = some cs[j] := by
  have hr := Rd.of_own h
  obtain ⟨hl, h | ⟨g, cap, cur, rfl, hb, hg, hc, hm, hs, ht⟩⟩ := h
  · omega
  · refine ⟨g, cap, rfl, hb, (Array.getElem?_eq_some_iff.1 hg).1, hc, hm, fun j hj => ?_⟩
    rcases hr with ⟨_, h⟩ | ⟨b, off, cap', h, _, _, _, hcell⟩
    · subst h; simp at hj
    · injection h with h1 h2 h3
      injection h1 with h1
      injection h1 with h1 h4
      subst h1 h4
      simpa using hcell j hj

/-! ### a region that draws its order, whose calls make memory of their own alone -/
theorem fam (w : World) : ∃ (T : Type) (_ : Nonempty T) (f : T → World), (∀ x, Below w.heap.size w (f x)) ∧ (∀ w', Below w.heap.size w w' → ∃ x, w' = f x) :=
  ⟨{w' // Below w.heap.size w w'}, ⟨w, Below.refl _ _⟩, fun x => x.1, fun x => x.2, fun w' h => ⟨⟨w', h⟩, rfl⟩⟩

theorem wp_region_fam {P : Program} {T : Type} (f : T → World) {id : Nat} {Q : Exit → Act → World → Prop} {a : Act} {w : World} {l : List Oper} (hm : P.follows .mixedOrders = true) (hB : Region.lexB .any l.toArray = true)
    (h0 : ∀ w', Below w.heap.size w w' → ∃ x, w' = f x)
    (h : wpQuiet P l.toArray (fun w' => ∃ x, w' = f x) (fun a' => ∀ w', (∃ x, w' = f x) → Q .normal a' w') l a) : (Code.region id l.toArray true).wp P Q a w :=
  wp_region_quiet (C := fun w' => ∃ x, w' = f x) hm hB (h0 _ ((Below.refl _ w).drew)) (by simpa using h)

/-- a call in such a region: one that makes memory of its own alone -/
theorem fam_call {P : Program} {T : Type} {f : T → World} {w : World} (hf : ∀ x, Below w.heap.size w (f x)) (h0 : ∀ w', Below w.heap.size w w' → ∃ x, w' = f x) {g : FuncId} {args : Array Value} {v : Value} (x : T)
    (h : Calls P g args (f x) fun e w' => e = .returned v ∧ Below (f x).heap.size (f x) w') : Calls P g args (f x) fun e w' => e = .returned v ∧ ∃ y, w' = f y :=
  h.mono fun _ w' ⟨he, hb⟩ => ⟨he, h0 w' ((hf x).trans (hb.mono (hf x).size))⟩
theorem fam_same {P : Program} {T : Type} {f : T → World} {g : FuncId} {args : Array Value} {v : Value} (x : T)
    (h : Calls P g args (f x) fun e w' => e = .returned v ∧ f x = w') : Calls P g args (f x) fun e w' => e = .returned v ∧ ∃ y, w' = f y :=
  h.mono fun _ _ ⟨he, hb⟩ => ⟨he, x, hb.symm⟩

/-- 'append(own, src...)' whatever the source, in a plain walk. -/
theorem wpList_append_rd {P : Program} (w : World) {ops : Array Oper} {rest : List Oper} {o : Oper} {a : Act} {Q : Exit → Act → World → Prop}
    (hg : o.guard = none) (s x : Operand) (t : TypeId) (hop : o.op = Op.call { callee := Callee.builtin Builtin.append, args := #[s, x], argTypes := #[t, t] })
    (base : Nat) (e : TypeId) (i : TypeInfo) (z : Value) (bytes : Nat) (h1 : P.underlying t = some (.slice e)) (h2 : P.info? e = some i) (h3 : i.zero = some z) (h4 : i.size = 1) (h5 : i.bytes = bytes) (h6 : z.cells.size = 1)
    (v : Value) (k : Nat) (xs : List Value) (hs : a.eval s = v) (hown : w.ownsRow base e 1 v k xs) (u : Value) (cs : List Value) {b0 : Nat} (hx : a.eval x = u) (hrd : Rd w b0 u cs)
    (h1c : ∀ c ∈ cs, c.oneCell' = true) (b1 : k + cs.length ≤ maxLen) (b2 : (k + cs.length) * bytes ≤ 140737488355328) (b3 : base ≤ w.heap.size)
    (hK : ∀ v' w', w'.ownsRow base e 1 v' (k + cs.length) (xs ++ cs) → w.grownBy w' v.ownBlock → (v'.ownBlock = v.ownBlock ∨ v'.ownBlock = some w.heap.size) → wpList P ops Q rest (a.put o.dst v') w') :
    wpList P ops Q (o :: rest) a w := by
  rcases hrd with ⟨⟨q, rfl⟩, rfl⟩ | ⟨b, off, cap, rfl, hb, hc, hm, hcell⟩
  · cases q with
    | none =>
      refine wpList_append_own_none hg s x t hop base e i 1 h1 h2 v k xs hs hown hx ?_
      have := hK v w (by simpa using hown) ⟨rfl, rfl, rfl, Nat.le_refl _, fun _ _ _ => rfl⟩ (.inl rfl)
      subst hs
      exact this
    | some ad => exact wpList_append_own_at w hg s x t hop base e i z 1 bytes h1 h2 h3 h4 h5 h6 (by decide) v k xs hs hown ad 0 0 [] hx (by simp) (fun j u' hj => by simp at hj) h1c (by simpa using b1) (by simpa using b2) b3 (fun v' w' r1 r2 _ r4 => hK v' w' (by simpa using r1) r2 r4)
  · have had : ∀ j, (⟨b, off, none⟩ : Addr).add j = ⟨b, off + j, none⟩ := fun j => by unfold Addr.add; split <;> simp_all
    refine wpList_append_own_at w hg s x t hop base e i z 1 bytes h1 h2 h3 h4 h5 h6 (by decide) v k xs hs hown ⟨b, off, none⟩ cs.length cap cs hx (by simp) (fun j u' hj => ?_) h1c b1 b2 b3 (fun v' w' r1 r2 _ r4 => hK v' w' r1 r2 r4)
    rw [had]
    obtain ⟨hj', rfl⟩ := List.getElem?_eq_some_iff.1 hj
    exact hcell j hj'

theorem own_empty (w : World) (base : Nat) (e : TypeId) (hb : base ≤ w.heap.size) : (w.alloc (.cells #[] e)).ownsRow base e 1 (.slice (some ⟨w.heap.size, 0, none⟩) 0 0) 0 [] :=
  own_lit w base e [] hb (by simp)

/-- a region that draws its order: n operations that leave the world alone, then those that are forced behind them -/
theorem wp_region_tail {P : Program} {id : Nat} {Q : Exit → Act → World → Prop} {a : Act} {w : World} {l : List Oper} (n : Nat) (hm : P.follows .mixedOrders = true) (hB : Region.lexTailB .any l.toArray n = true)
    (h : ∀ w2 : World, w2 = w.drew → wpStill P l.toArray w2 (fun a' => wpList P l.toArray Q (l.drop n) a' w2) (l.take n) a) : (Code.region id l.toArray true).wp P Q a w :=
  wp_region_still_tail n hm hB (h _ rfl)

end Go.Proofs.YtllmgmfihijejaaGreatDoor
/-
  Plain laws on sets of bytes, as four numbers of 64 bits: no program in sight.
-/
namespace Go.Proofs.YtllmgmfihijejaaGreatDoor
open Go.RowKit

/-- a set: its four numbers -/
def setV (s : Nat → Nat) : Value := .agg #[.int .u64 (s 0), .int .u64 (s 1), .int .u64 (s 2), .int .u64 (s 3)]
def setC (s : Nat → Nat) : Array Value := #[.int .u64 (s 0), .int .u64 (s 1), .int .u64 (s 2), .int .u64 (s 3)]
def SetOk (s : Nat → Nat) : Prop := ∀ k, k < 4 → s k < 2 ^ 64
def hasB (s : Nat → Nat) (b : Nat) : Bool := (s (b / 64)).testBit (b % 64)

theorem setV_ext {s t : Nat → Nat} (hs : SetOk s) (ht : SetOk t) (h : ∀ b, b < 256 → hasB s b = hasB t b) : setV s = setV t := by
  have e : ∀ k, k < 4 → s k = t k := by
    intro k hk
    apply Nat.eq_of_testBit_eq
    intro i
    by_cases hi : i < 64
    · have := h (64 * k + i) (by omega)
      unfold hasB at this
      rw [show (64 * k + i) / 64 = k from by omega, show (64 * k + i) % 64 = i from by omega] at this
      exact this
    · rw [Nat.testBit_lt_two_pow (Nat.lt_of_lt_of_le (hs k hk) (Nat.pow_le_pow_right (by omega) (by omega))), Nat.testBit_lt_two_pow (Nat.lt_of_lt_of_le (ht k hk) (Nat.pow_le_pow_right (by omega) (by omega)))]
  unfold setV
  rw [e 0 (by omega), e 1 (by omega), e 2 (by omega), e 3 (by omega)]

theorem setV_words {s t : Nat → Nat} (h : setV s = setV t) : ∀ k, k < 4 → s k = t k := by
  unfold setV at h
  simp only [Value.agg.injEq] at h
  have h' := congrArg Array.toList h
  simp at h'
  intro k hk
  match k, hk with
  | 0, _ => omega
  | 1, _ => omega
  | 2, _ => omega
  | 3, _ => omega

theorem setV_has {s t : Nat → Nat} (h : setV s = setV t) {b : Nat} (hb : b < 256) : hasB s b = hasB t b := by
  unfold hasB; rw [setV_words h _ (by omega)]

def emptyS : Nat → Nat := fun _ => 0
def fullS : Nat → Nat := fun _ => 2 ^ 64 - 1
def orS (s t : Nat → Nat) : Nat → Nat := fun k => s k ||| t k
def andS (s t : Nat → Nat) : Nat → Nat := fun k => s k &&& t k
def notS (s : Nat → Nat) : Nat → Nat := fun k => 2 ^ 64 - 1 - s k
def addS (s : Nat → Nat) (b : Nat) : Nat → Nat := fun k => if k = b / 64 then s k ||| 2 ^ (b % 64) else s k

theorem emptyS_ok : SetOk emptyS := fun k _ => by simp [emptyS]
theorem fullS_ok : SetOk fullS := fun k _ => by simp [fullS]
theorem orS_ok {s t : Nat → Nat} (hs : SetOk s) (ht : SetOk t) : SetOk (orS s t) := fun k hk => Nat.or_lt_two_pow (hs k hk) (ht k hk)
theorem andS_ok {s t : Nat → Nat} (hs : SetOk s) : SetOk (andS s t) := fun k hk => Nat.lt_of_le_of_lt Nat.and_le_left (hs k hk)
theorem notS_ok (s : Nat → Nat) : SetOk (notS s) := fun k _ => by unfold notS; omega
theorem addS_ok {s : Nat → Nat} (hs : SetOk s) (b : Nat) : SetOk (addS s b) := fun k hk => by
  unfold addS
  split
  · exact Nat.or_lt_two_pow (hs k hk) (Nat.pow_lt_pow_right (by omega) (by omega))
  · exact hs k hk

theorem has_empty (b : Nat) : hasB emptyS b = false := by simp [hasB, emptyS]
theorem has_or (s t : Nat → Nat) (b : Nat) : hasB (orS s t) b = (hasB s b || hasB t b) := by simp [hasB, orS, Nat.testBit_or]
theorem has_and (s t : Nat → Nat) (b : Nat) : hasB (andS s t) b = (hasB s b && hasB t b) := by simp [hasB, andS, Nat.testBit_and]
theorem has_full (b : Nat) : hasB fullS b = true := by
  unfold hasB fullS
  rw [Nat.testBit_two_pow_sub_one]; simp; omega
theorem has_not {s : Nat → Nat} (hs : SetOk s) {b : Nat} (hb : b < 256) : hasB (notS s) b = !hasB s b := by
  unfold hasB notS
  have h := Nat.testBit_two_pow_sub_succ (hs (b / 64) (by omega)) (b % 64)
  rw [show 2 ^ 64 - (s (b / 64) + 1) = 2 ^ 64 - 1 - s (b / 64) from by omega] at h
  rw [h]; simp; omega
theorem has_add {s : Nat → Nat} (b c : Nat) : hasB (addS s b) c = (hasB s c || decide (c = b)) := by
  unfold hasB addS
  split
  · rename_i h
    rw [Nat.testBit_or, Nat.testBit_two_pow]
    congr 1
    rw [decide_eq_decide]
    omega
  · rename_i h
    have : ¬ c = b := fun e => h (by rw [e])
    simp [this]

theorem bit_nat (x r : Nat) : (x / 2 ^ r % 2 = 1) ↔ x.testBit r = true := by
  rw [Nat.testBit_eq_decide_div_mod_eq]; simp

/-- the walk's form of a bit that is asked for -/
theorem bit_walk (x r : Nat) (hx : x < 2 ^ 64) : (bits .and .u64 ((x : Int) / 2 ^ r) 1 == 1) = x.testBit r := by
  have e : ((x : Int) / 2 ^ r) = ((x / 2 ^ r : Nat) : Int) := by simp
  rw [e]
  have hlt : x / 2 ^ r < 18446744073709551616 := Nat.lt_of_le_of_lt (Nat.div_le_self _ _) hx
  have h := u64_and_nat (x / 2 ^ r) 1 hlt (by omega)
  rw [show ((1 : Nat) : Int) = 1 from rfl] at h
  rw [h, nat_mask1, Bool.eq_iff_iff, ← bit_nat]
  simp
  omega

/-- a block that holds a set -/
def SBox (W : World) (B : Nat) (T : TypeId) (s : Nat → Nat) : Prop := W.heap[B]? = some (.cells (setC s) T (0, 0))

theorem SBox.lt {W : World} {B : Nat} {T : TypeId} {s : Nat → Nat} (h : SBox W B T s) : B < W.heap.size := (Array.getElem?_eq_some_iff.1 h).1
theorem SBox.cell {W : World} {B : Nat} {T : TypeId} {s : Nat → Nat} (h : SBox W B T s) {k : Nat} (hk : k < 4) : W.cell? ⟨B, k, none⟩ = some (.int .u64 (s k)) := by
  rw [cell_of_row W B k _ _ _ h]
  unfold setC
  match k, hk with
  | 0, _ => rfl
  | 1, _ => rfl
  | 2, _ => rfl
  | 3, _ => rfl
theorem SBox.frozen {W : World} {B : Nat} {T : TypeId} {s : Nat → Nat} (h : SBox W B T s) (k : Nat) : W.frozen? ⟨B, k, none⟩ = false := by
  simp [World.frozen?, show W.heap[B]? = _ from h]
theorem SBox.new (W : World) (T : TypeId) (s : Nat → Nat) : SBox (W.alloc (.cells (setC s) T)) W.heap.size T s := World.alloc_heap_new W _
theorem SBox.below {W W' : World} {n B : Nat} {T : TypeId} {s : Nat → Nat} (h : SBox W B T s) (hb : Below n W W') (hB : B < n) : SBox W' B T s := (hb.block B hB).trans h
theorem SBox.alloc {W : World} {B : Nat} {T : TypeId} {s : Nat → Nat} (h : SBox W B T s) (o : Obj) : SBox (W.alloc o) B T s := (Below.heap_alloc W o B h.lt).trans h
theorem SBox.other {W : World} {B B' : Nat} {T : TypeId} {s : Nat → Nat} (h : SBox W B T s) (hne : B ≠ B') (k : Nat) (v : Value) : SBox (W.setCell ⟨B', k, none⟩ v) B T s := (Below.heap_setCell W _ _ B hne).trans h
theorem SBox.set {W : World} {B : Nat} {T : TypeId} {s : Nat → Nat} (h : SBox W B T s) {k : Nat} (hk : k < 4) (x : Nat) : SBox (W.setCell ⟨B, k, none⟩ (.int .u64 x)) B T (fun j => if j = k then x else s j) := by
  obtain ⟨hlt, hh⟩ := Array.getElem?_eq_some_iff.1 h
  show (W.heap.modify B _)[B]? = _
  rw [Array.getElem?_eq_getElem (by rw [Array.size_modify]; exact hlt), Array.getElem_modify_self, hh]
  unfold setC
  match k, hk with
  | 0, _ => rfl
  | 1, _ => rfl
  | 2, _ => rfl
  | 3, _ => rfl
theorem SBox.ext {W : World} {B : Nat} {T : TypeId} {s t : Nat → Nat} (h : SBox W B T s) (e : ∀ k, k < 4 → s k = t k) : SBox W B T t := by
  unfold SBox setC at *
  rw [h, e 0 (by omega), e 1 (by omega), e 2 (by omega), e 3 (by omega)]
theorem setV_congr {s t : Nat → Nat} (e : ∀ k, k < 4 → s k = t k) : setV s = setV t := by
  unfold setV; rw [e 0 (by omega), e 1 (by omega), e 2 (by omega), e 3 (by omega)]

/-- a slice value that reads as a row of sets, in a block below b0 -/
def RdS (w : World) (b0 : Nat) (v : Value) (L : List (Nat → Nat)) : Prop :=
  ((∃ q, v = .slice q 0 0) ∧ L = []) ∨ ∃ b off cap, v = .slice (some ⟨b, off, none⟩) L.length cap ∧ b < b0 ∧ L.length ≤ cap ∧ cap ≤ maxLen ∧
    ∀ j, (hj : j < L.length) → ∀ k, k < 4 → w.cell? ⟨b, off + j * 4 + k, none⟩ = some (.int .u64 (L[j] k))

theorem RdS.below {w w' : World} {b0 : Nat} {v : Value} {L : List (Nat → Nat)} (h : RdS w b0 v L) (hb : Below b0 w w') : RdS w' b0 v L := by
  rcases h with h | ⟨b, off, cap, e, h1, h2, h3, h4⟩
  · exact .inl h
  · exact .inr ⟨b, off, cap, e, h1, h2, h3, fun j hj k hk => (hb.cell (p := ⟨b, off + j * 4 + k, none⟩) h1).trans (h4 j hj k hk)⟩
theorem RdS.up {w : World} {b0 b1 : Nat} {v : Value} {L : List (Nat → Nat)} (h : RdS w b0 v L) (hb : b0 ≤ b1) : RdS w b1 v L := by
  rcases h with h | ⟨b, off, cap, e, h1, h2, h3, h4⟩
  · exact .inl h
  · exact .inr ⟨b, off, cap, e, by omega, h2, h3, h4⟩

/-- 'each' : a row of sets, one behind the other -/
def foldS (op : Nat → Nat → Nat) (s : Nat → Nat) (L : List (Nat → Nat)) : Nat → Nat := L.foldl (fun a t k => op (a k) (t k)) s
theorem foldS_snoc (op : Nat → Nat → Nat) (s : Nat → Nat) (L : List (Nat → Nat)) (t : Nat → Nat) : foldS op s (L ++ [t]) = fun k => op (foldS op s L k) (t k) := by simp [foldS]
theorem foldS_ok {op : Nat → Nat → Nat} (hop : ∀ x y, x < 2 ^ 64 → y < 2 ^ 64 → op x y < 2 ^ 64) {L : List (Nat → Nat)} : ∀ {s : Nat → Nat}, SetOk s → (∀ t ∈ L, SetOk t) → SetOk (foldS op s L) := by
  induction L with
  | nil => intro s hs _; exact hs
  | cons t L ih =>
    intro s hs hL
    exact ih (s := fun k => op (s k) (t k)) (fun k hk => hop _ _ (hs k hk) (hL t (by simp) k hk)) (fun u hu => hL u (by simp [hu]))

/-- a whole set stored -/
theorem SBox.set4 {W : World} {B : Nat} {T : TypeId} {t : Nat → Nat} (h : SBox W B T t) (s : Nat → Nat) :
    SBox ((((W.setCell ⟨B, 0, none⟩ (.int .u64 (s 0))).setCell ⟨B, 1, none⟩ (.int .u64 (s 1))).setCell ⟨B, 2, none⟩ (.int .u64 (s 2))).setCell ⟨B, 3, none⟩ (.int .u64 (s 3))) B T s :=
  ((((h.set (k := 0) (by omega) (s 0)).set (k := 1) (by omega) (s 1)).set (k := 2) (by omega) (s 2)).set (k := 3) (by omega) (s 3)).ext (fun k hk => by
    match k, hk with
    | 0, _ => rfl
    | 1, _ => rfl
    | 2, _ => rfl
    | 3, _ => rfl)
theorem below_set4 {W X : World} {B n : Nat} (h : Below n X W) (hB : n ≤ B) (v0 v1 v2 v3 : Value) :
    Below n X ((((W.setCell ⟨B, 0, none⟩ v0).setCell ⟨B, 1, none⟩ v1).setCell ⟨B, 2, none⟩ v2).setCell ⟨B, 3, none⟩ v3) :=
  (((h.setCell (p := ⟨B, 0, none⟩) hB v0).setCell (p := ⟨B, 1, none⟩) hB v1).setCell (p := ⟨B, 2, none⟩) hB v2).setCell (p := ⟨B, 3, none⟩) hB v3

def unionS (L : List (Nat → Nat)) : Nat → Nat := foldS (fun x y => x ||| y) emptyS L
def meetS (L : List (Nat → Nat)) : Nat → Nat := foldS (fun x y => x &&& y) fullS L

theorem or_bound (x y : Nat) (hx : x < 2 ^ 64) (hy : y < 2 ^ 64) : x ||| y < 2 ^ 64 := Nat.or_lt_two_pow hx hy
theorem and_bound (x y : Nat) (hx : x < 2 ^ 64) (_ : y < 2 ^ 64) : x &&& y < 2 ^ 64 := Nat.lt_of_le_of_lt Nat.and_le_left hx
def notop (x _ : Nat) : Nat := 2 ^ 64 - 1 - x
theorem not_bound (x y : Nat) (_ : x < 2 ^ 64) (_ : y < 2 ^ 64) : notop x y < 2 ^ 64 := by unfold notop; omega
theorem foldS_not (s : Nat → Nat) : foldS notop s [emptyS] = notS s := rfl
theorem notS_empty : notS emptyS = fullS := rfl
theorem unionS_ok {L : List (Nat → Nat)} (h : ∀ t ∈ L, SetOk t) : SetOk (unionS L) := foldS_ok or_bound emptyS_ok h
theorem meetS_ok {L : List (Nat → Nat)} (h : ∀ t ∈ L, SetOk t) : SetOk (meetS L) := foldS_ok and_bound fullS_ok h
theorem has_fold_or (L : List (Nat → Nat)) (s : Nat → Nat) (b : Nat) : hasB (foldS (fun x y => x ||| y) s L) b = (hasB s b || L.any (fun t => hasB t b)) := by
  induction L generalizing s with
  | nil => simp [foldS]
  | cons t L ih =>
    have := ih (orS s t)
    rw [show foldS (fun x y => x ||| y) s (t :: L) = foldS (fun x y => x ||| y) (orS s t) L from rfl, this, has_or]
    simp [Bool.or_assoc]
theorem has_union (L : List (Nat → Nat)) (b : Nat) : hasB (unionS L) b = L.any (fun t => hasB t b) := by
  unfold unionS; rw [has_fold_or, has_empty]; simp
theorem has_fold_and (L : List (Nat → Nat)) (s : Nat → Nat) (b : Nat) : hasB (foldS (fun x y => x &&& y) s L) b = (hasB s b && L.all (fun t => hasB t b)) := by
  induction L generalizing s with
  | nil => simp [foldS]
  | cons t L ih =>
    have := ih (andS s t)
    rw [show foldS (fun x y => x &&& y) s (t :: L) = foldS (fun x y => x &&& y) (andS s t) L from rfl, this, has_and]
    simp [Bool.and_assoc]
theorem has_meet (L : List (Nat → Nat)) (b : Nat) : hasB (meetS L) b = L.all (fun t => hasB t b) := by
  unfold meetS; rw [has_fold_and, has_full]; simp

/-- a row of sets laid as one block -/
def rowC (L : List (Nat → Nat)) : List Value := L.flatMap (fun s => (setC s).toList)
theorem rowC_length (L : List (Nat → Nat)) : (rowC L).length = L.length * 4 := by
  induction L with
  | nil => rfl
  | cons s L ih => simp [rowC, setC] at ih ⊢; omega
theorem rowC_get {L : List (Nat → Nat)} {j k : Nat} (hj : j < L.length) (hk : k < 4) : (rowC L)[j * 4 + k]? = some (.int .u64 (L[j] k)) := by
  induction L generalizing j with
  | nil => simp at hj
  | cons s L ih =>
    rw [show rowC (s :: L) = (setC s).toList ++ rowC L from rfl]
    cases j with
    | zero =>
      rw [List.getElem?_append_left (by simp [setC]; omega)]
      match k, hk with
      | 0, _ => rfl
      | 1, _ => rfl
      | 2, _ => rfl
      | 3, _ => rfl
    | succ j =>
      rw [List.getElem?_append_right (by simp [setC]; omega)]
      have := ih (j := j) (by simpa using hj)
      rw [show (j + 1) * 4 + k - (setC s).toList.length = j * 4 + k from by simp [setC]; omega, this]
      simp
theorem RdS.lit (w : World) (L : List (Nat → Nat)) (e : TypeId) (hl : L.length ≤ maxLen) : RdS (w.alloc (.cells (rowC L).toArray e)) (w.heap.size + 1) (.slice (some ⟨w.heap.size, 0, none⟩) L.length L.length) L := by
  refine .inr ⟨w.heap.size, 0, L.length, rfl, by omega, Nat.le_refl _, hl, fun j hj k hk => ?_⟩
  rw [cell_of_row _ w.heap.size (0 + j * 4 + k) (rowC L).toArray e (0, 0) (World.alloc_heap_new w _)]
  simp only [Nat.zero_add, List.getElem?_toArray]
  exact rowC_get hj hk

def ofS (xs : List Int) : Nat → Nat := xs.foldl (fun s b => addS s b.toNat) emptyS
theorem ofS_snoc (xs : List Int) (b : Int) : ofS (xs ++ [b]) = addS (ofS xs) b.toNat := by simp [ofS]
theorem ofS_fold_ok (xs : List Int) : ∀ s, SetOk s → SetOk (xs.foldl (fun s b => addS s b.toNat) s) := by
  induction xs with
  | nil => exact fun s hs => hs
  | cons b xs ih => exact fun s hs => ih _ (addS_ok hs _)
theorem ofS_ok (xs : List Int) : SetOk (ofS xs) := ofS_fold_ok xs _ emptyS_ok
theorem has_of_fold (xs : List Int) (c : Nat) : ∀ s, hasB (xs.foldl (fun s b => addS s b.toNat) s) c = (hasB s c || xs.any (fun b => decide (c = b.toNat))) := by
  induction xs with
  | nil => simp
  | cons b xs ih =>
    intro s
    rw [List.foldl_cons, ih, has_add, List.any_cons, Bool.or_assoc]
theorem has_of (xs : List Int) (c : Nat) : hasB (ofS xs) c = xs.any (fun b => decide (c = b.toNat)) := by
  unfold ofS; rw [has_of_fold, has_empty, Bool.false_or]

/-- what the walk makes of 's[b/64] |= 1 << (b%64)' -/
theorem or_walk (x r : Nat) (hx : x < 2 ^ 64) (hr : r < 64) : bits .or .u64 (x : Int) (IntKind.u64.wrap (2 ^ r)) = ((x ||| 2 ^ r : Nat) : Int) := by
  have h : (2 ^ r : Nat) < 18446744073709551616 := Nat.pow_lt_pow_right (show 1 < 2 by omega) hr
  have e : IntKind.u64.wrap (2 ^ r) = ((2 ^ r : Nat) : Int) := by
    have : ((2 : Int) ^ r) = ((2 ^ r : Nat) : Int) := by simp
    rw [this]
    generalize (2 ^ r : Nat) = m at *
    simp only [IntKind.wrap, IntKind.bits, IntKind.signed]
    simp
    omega
  rw [e]
  exact u64_or_nat x (2 ^ r) hx h

theorem addS_at {S : Nat → Nat} {n q r : Nat} (hq : n / 64 = q) (hr : n % 64 = r) : (fun j => if j = q then S q ||| 2 ^ r else S j) = addS S n := by
  funext j; unfold addS; rw [hq, hr]; split
  · rename_i h; rw [h]
  · rfl

/-- a letter's other case; of other bytes the byte -/
def otherB (b : Nat) : Nat := if 97 ≤ b ||| 32 ∧ b ||| 32 ≤ 122 then b ^^^ 32 else b
theorem otherB_lt {b : Nat} (h : b < 256) : otherB b < 256 := by
  unfold otherB; split
  · exact Nat.xor_lt_two_pow (n := 8) h (by omega)
  · exact h

/-- a set, and its letters' other cases: byte by byte -/
def foldF (s : Nat → Nat) (bs : List Int) : Nat → Nat := bs.foldl (fun o b => unionS [o, ofS [(otherB b.toNat : Int)]]) s
theorem foldF_snoc (s : Nat → Nat) (bs : List Int) (b : Int) : foldF s (bs ++ [b]) = unionS [foldF s bs, ofS [(otherB b.toNat : Int)]] := by simp [foldF]
theorem foldF_ok (bs : List Int) : ∀ {s : Nat → Nat}, SetOk s → SetOk (foldF s bs) := by
  induction bs with
  | nil => exact fun hs => hs
  | cons b bs ih =>
    intro s hs
    exact ih (s := unionS [s, ofS [(otherB b.toNat : Int)]]) (unionS_ok (fun t ht => by
      simp at ht
      rcases ht with rfl | rfl
      · exact hs
      · exact ofS_ok _))
theorem has_foldF (bs : List Int) (c : Nat) : ∀ s, hasB (foldF s bs) c = (hasB s c || bs.any (fun b => decide (c = otherB b.toNat))) := by
  induction bs with
  | nil => intro s; simp [foldF]
  | cons b bs ih =>
    intro s
    rw [show foldF s (b :: bs) = foldF (unionS [s, ofS [(otherB b.toNat : Int)]]) bs from rfl, ih, has_union]
    simp [has_of, Bool.or_assoc]

end Go.Proofs.YtllmgmfihijejaaGreatDoor
/-
  The walks of the package set: each function returns what the plain law says, and turns nothing that lay there.
-/
namespace Go.Proofs.YtllmgmfihijejaaGreatDoor
open Go.RowKit Go.Shelf
attribute [local go_sem] Oper.semAt_some

theorem bdiv_cases {b : Nat} (hb : b < 256) : ∃ r, r < 64 ∧ b % 64 = r ∧ ((b : Int) % 64 = (r : Int)) ∧ ((b / 64 = 0 ∧ (b : Int) / 64 = 0) ∨ (b / 64 = 1 ∧ (b : Int) / 64 = 1) ∨ (b / 64 = 2 ∧ (b : Int) / 64 = 2) ∨ (b / 64 = 3 ∧ (b : Int) / 64 = 3)) :=
  ⟨b % 64, by omega, rfl, by omega, by omega⟩

/-! ### Has -/
theorem set_Has (s : Nat → Nat) (hs : SetOk s) (b : Nat) (hb : b < 256) (w : World) :
    Calls Tryz.prog 85 #[setV s, .int .u8 b] w fun e w' => e = .returned (.bool (hasB s b)) ∧ Below w.heap.size w w' := by
  obtain ⟨r, hr, hr1, hr2, h⟩ := bdiv_cases hb
  unfold setV
  rcases h with ⟨h1, hq⟩ | ⟨h1, hq⟩ | ⟨h1, hq⟩ | ⟨h1, hq⟩
  all_goals
    have H1 := Lib.hid h1; clear h1
    have HR := Lib.hid hr1; clear hr1
    go_enter Tryz.func85, Tryz.ntmps85
    go_wp2
    go_ret
    refine ⟨?_, (Below.refl _ _).alloc (Nat.le_refl _) _⟩
    have := bit_walk (s (b / 64)) r (hs _ (by omega))
    rw [H1.out] at this
    unfold hasB
    rw [H1.out, HR.out]
    exact congrArg (fun x => Ending.returned (Value.bool x)) this

/-! ### the three closures -/
theorem set_or (x y : Nat) (hx : x < 2 ^ 64) (hy : y < 2 ^ 64) (w : World) : Calls Tryz.prog 36 #[.int .u64 x, .int .u64 y] w fun e w' => e = .returned (.int .u64 ((x ||| y : Nat) : Int)) ∧ w = w' := by
  go_enter Tryz.func36, Tryz.ntmps36
  go_wp2
  go_ret
  exact ⟨congrArg (fun z => Ending.returned (Value.int .u64 z)) (u64_or_nat x y hx hy), rfl⟩
theorem set_and (x y : Nat) (hx : x < 2 ^ 64) (hy : y < 2 ^ 64) (w : World) : Calls Tryz.prog 110 #[.int .u64 x, .int .u64 y] w fun e w' => e = .returned (.int .u64 ((x &&& y : Nat) : Int)) ∧ w = w' := by
  go_enter Tryz.func110, Tryz.ntmps110
  go_wp2
  go_ret
  exact ⟨congrArg (fun z => Ending.returned (Value.int .u64 z)) (u64_and_nat x y hx hy), rfl⟩
theorem set_not1 (x y : Nat) (hx : x < 2 ^ 64) (w : World) : Calls Tryz.prog 109 #[.int .u64 x, .int .u64 y] w fun e w' => e = .returned (.int .u64 (notop x y : Nat)) ∧ w = w' := by
  unfold notop
  have hsg : IntKind.u64.signed = false := rfl
  go_enter Tryz.func109, Tryz.ntmps109
  go_wp2
  go_ret
  refine ⟨congrArg (fun z => Ending.returned (Value.int .u64 z)) ?_, rfl⟩
  have e : IntKind.u64.max = ((2 ^ 64 - 1 : Nat) : Int) := by decide
  rw [e, u64_xor_nat (2 ^ 64 - 1) x (by omega) hx]
  congr 1
  apply Nat.eq_of_testBit_eq
  intro i
  have h := Nat.testBit_two_pow_sub_succ hx i
  rw [show 2 ^ 64 - (x + 1) = 2 ^ 64 - 1 - x from by omega] at h
  rw [h, Nat.testBit_xor, Nat.testBit_two_pow_sub_one]
  by_cases hi : i < 64
  · simp [hi]
  · rw [Nat.testBit_lt_two_pow (Nat.lt_of_lt_of_le hx (Nat.pow_le_pow_right (by omega) (by omega)))]; simp [hi]

/-! ### each -/
set_option maxRecDepth 100000 in
set_option maxHeartbeats 2000000 in
theorem set_each (g : Nat) (op : Nat → Nat → Nat) (hop : ∀ x y, x < 2 ^ 64 → y < 2 ^ 64 → op x y < 2 ^ 64) (eg : ∀ args w, (callFunc g args).run Tryz.prog w = .ok (.enter g args) w)
    (hg : ∀ (x y : Nat) (w : World), x < 2 ^ 64 → y < 2 ^ 64 → Calls Tryz.prog g #[.int .u64 x, .int .u64 y] w fun e w' => e = .returned (.int .u64 (op x y : Nat)) ∧ w = w')
    (s : Nat → Nat) (hs : SetOk s) (v : Value) (L : List (Nat → Nat)) (hL : ∀ t ∈ L, SetOk t) (w : World) (h : RdS w w.heap.size v L) :
    Calls Tryz.prog 35 #[setV s, v, .func (.func g) #[] #[]] w fun e w' => e = .returned (setV (foldS op s L)) ∧ Below w.heap.size w w' := by
  rw [show setV s = .agg #[.int .u64 (s 0), .int .u64 (s 1), .int .u64 (s 2), .int .u64 (s 3)] from rfl]
  rcases h with ⟨⟨q, rfl⟩, rfl⟩ | ⟨b, off, cap, rfl, hb, hcl, hcm, hc⟩
  · go_enter Tryz.func35, Tryz.ntmps35
    go_wp2
    have h1 : SBox ((w.alloc (.cells (setC s) 37)).alloc (.cells (setC emptyS) 37)) w.heap.size 37 s := (SBox.new w _ s).alloc _
    have h2 := SBox.new (w.alloc (.cells (setC s) 37)) 37 emptyS
    rw [World.size_alloc] at h2
    have h3 : Below w.heap.size w ((w.alloc (.cells (setC s) 37)).alloc (.cells (setC emptyS) 37)) := ((Below.refl _ w).alloc (Nat.le_refl _) _).alloc (by simp) _
    go_loopw [12] (fun i wr => i = .int .i64 0 ∧ Hid (SBox wr w.heap.size 37 s ∧ SBox wr (w.heap.size + 1) 37 emptyS ∧ Below w.heap.size w wr)) (fun _ _ => 0)
    case atStart => exact ⟨rfl, h1, h2, h3⟩
    case round =>
      clear h1 h2 h3
      obtain ⟨rfl, H⟩ := hrel
      have ⟨b1, b2, bel⟩ := H.out
      have c0 := b1.cell (k := 0) (by omega); have c1 := b1.cell (k := 1) (by omega); have c2 := b1.cell (k := 2) (by omega); have c3 := b1.cell (k := 3) (by omega)
      have d0 := b2.cell (k := 0) (by omega); have d1 := b2.cell (k := 1) (by omega); have d2 := b2.cell (k := 2) (by omega); have d3 := b2.cell (k := 3) (by omega)
      have f0 := b2.frozen 0; have f1 := b2.frozen 1; have f2 := b2.frozen 2; have f3 := b2.frozen 3
      go_wp2
      have b3 := b2.set4 s
      have e0 := b3.cell (k := 0) (by omega); have e1 := b3.cell (k := 1) (by omega); have e2 := b3.cell (k := 2) (by omega); have e3 := b3.cell (k := 3) (by omega)
      exact bodyPost_ret (v := setV s) (by unfold setV; simp [results, Tryz.results35, go_sem, e0, e1, e2, e3]) rfl ⟨rfl, below_set4 bel (by omega) _ _ _ _⟩
  · have Hc := Lib.hid hc; clear hc
    have hlen : L.length ≤ 9223372036854775807 := by unfold maxLen at hcm; omega
    go_enter Tryz.func35, Tryz.ntmps35
    go_wp2
    have h1 : SBox ((w.alloc (.cells (setC s) 37)).alloc (.cells (setC emptyS) 37)) w.heap.size 37 s := (SBox.new w _ s).alloc _
    have h2 := SBox.new (w.alloc (.cells (setC s) 37)) 37 emptyS
    rw [World.size_alloc] at h2
    have h3 : Below w.heap.size w ((w.alloc (.cells (setC s) 37)).alloc (.cells (setC emptyS) 37)) := ((Below.refl _ w).alloc (Nat.le_refl _) _).alloc (by simp) _
    have HL := Lib.hid hL; clear hL
    have HG := Lib.hid hg; clear hg
    have HOP := Lib.hid hop; clear hop
    go_loopw [8, 9, 12, 16] (fun _ _ i _ wr => ∃ j : Nat, j ≤ L.length ∧ i = .int .i64 j ∧ Hid (SBox wr w.heap.size 37 (foldS op s (L.take j)) ∧ SBox wr (w.heap.size + 1) 37 emptyS ∧ Below w.heap.size w wr)) (fun _ _ i _ _ => L.length - (intOf i).toNat)
    case atStart => exact ⟨0, Nat.zero_le _, rfl, h1, h2, h3⟩
    case round =>
      clear h1 h2 h3
      obtain ⟨j, hj, rfl, H⟩ := hrel
      have ⟨b1, b2, bel⟩ := H.out
      by_cases hlt : j < L.length
      · have k0 := (bel.cell (p := ⟨b, off + j * 4 + 0, none⟩) hb).trans (Hc.out j hlt 0 (by omega))
        have k1 := (bel.cell (p := ⟨b, off + j * 4 + 1, none⟩) hb).trans (Hc.out j hlt 1 (by omega))
        have k2 := (bel.cell (p := ⟨b, off + j * 4 + 2, none⟩) hb).trans (Hc.out j hlt 2 (by omega))
        have k3 := (bel.cell (p := ⟨b, off + j * 4 + 3, none⟩) hb).trans (Hc.out j hlt 3 (by omega))
        simp only [Nat.add_zero] at k0
        have hS := foldS_ok HOP.out hs (L := L.take j) (fun t ht => HL.out t (List.mem_of_mem_take ht))
        have ht := HL.out L[j] (List.getElem_mem hlt)
        have hnext : foldS op s (L.take (j + 1)) = fun k => op (foldS op s (L.take j) k) (L[j] k) := by
          rw [List.take_succ_eq_append_getElem hlt, foldS_snoc]
        have Hnext := Lib.hid hnext; clear hnext
        generalize foldS op s (L.take j) = S at b1 hS Hnext
        generalize L[j] = t at k0 k1 k2 k3 ht Hnext
        go_wp2
        have g1 : SBox (wr.alloc (.cells (setC t) 37)) wr.heap.size 37 t := SBox.new wr _ t
        have g2 := b1.alloc (.cells (setC t) 37)
        have g3 := b2.alloc (.cells (setC t) 37)
        have g4 := bel.alloc bel.size (.cells (setC t) 37)
        have hsz := b2.lt
        clear k0 k1 k2 k3 b1 b2
        clear H
        have BEL := Lib.hid bel; clear bel
        obtain ⟨wo, rfl⟩ : ∃ wo : World, wo = wr := ⟨_, rfl⟩
        go_loopw [9, 16] (fun _ i wr => ∃ k : Nat, k ≤ 4 ∧ i = .int .i64 k ∧ Hid (SBox wr w.heap.size 37 (fun m => if m < k then op (S m) (t m) else S m) ∧ SBox wr wo.heap.size 37 t ∧ SBox wr (w.heap.size + 1) 37 emptyS ∧ Below w.heap.size w wr)) (fun _ i _ => 4 - (intOf i).toNat)
        case atStart => exact ⟨0, Nat.zero_le _, rfl, g2.ext (fun k _ => by simp), g1, g3, g4⟩
        case round =>
          clear g1 g2 g3 g4
          obtain ⟨k, hk, rfl, H⟩ := hrel
          have ⟨b1, b2, b3, bel⟩ := H.out
          by_cases hk4 : k < 4
          · have c1 := b1.cell hk4
            have c2 := b2.cell hk4
            have fz := b1.frozen k
            simp only [Nat.lt_irrefl, if_false] at c1
            have hx := hS k hk4
            have hy := ht k hk4
            have hcall := fun w => (HG.out (S k) (t k) w hx hy).mono (R' := fun e w' => e = .returned (.int .u64 (op (S k) (t k) : Nat)) ∧ w' = w) (fun e w' h => ⟨h.1, h.2.symm⟩)
            have HC := Lib.hid hcall; clear hcall
            go_wp2_with fail
            refine wp_region_tail 10 (by kernel_rfl) (by kernel_rfl) ?_
            intro w2 hw2
            have c1' : w2.cell? ⟨w.heap.size, k, none⟩ = some (.int .u64 (S k)) := by rw [hw2]; exact c1
            have c2' : w2.cell? ⟨wo.heap.size, k, none⟩ = some (.int .u64 (t k)) := by rw [hw2]; exact c2
            have fz' : w2.frozen? ⟨w.heap.size, k, none⟩ = false := by rw [hw2]; exact fz
            have HW2 := Lib.hid hw2; clear hw2
            clear c1 c2 fz
            simp only [List.take_succ_cons, List.take_zero, List.drop_succ_cons, List.drop_zero]
            repeat (first | still_step | still_call (HC.out _))
            refine wpStill_nil ?_
            go_wp2
            go_roundw
            case rel =>
              have e1 : SBox w2 w.heap.size 37 (fun m => if m < k then op (S m) (t m) else S m) := by rw [HW2.out]; exact b1
              have e2 : SBox w2 wo.heap.size 37 t := by rw [HW2.out]; exact b2
              have e3 : SBox w2 (w.heap.size + 1) 37 emptyS := by rw [HW2.out]; exact b3
              have e4 : Below w.heap.size w w2 := by rw [HW2.out]; exact bel.drew
              refine ⟨k + 1, by omega, by go_num, (e1.set hk4 (op (S k) (t k))).ext (fun m _ => ?_), e2.other (by omega) _ _, e3.other (by omega) _ _, e4.setCell (p := ⟨w.heap.size, k, none⟩) (Nat.le_refl _) _⟩
              by_cases h1 : m = k
              · subst h1; simp
              · by_cases h2 : m < k
                · rw [if_neg h1, if_pos h2, if_pos (by omega)]
                · rw [if_neg h1, if_neg h2, if_neg (by omega)]
            case measure => simp [intOf]; omega
          · obtain rfl : k = 4 := by omega
            go_wp2
            go_roundw
            case rel => exact ⟨j + 1, by omega, by go_num, by rw [Hnext.out]; exact b1.ext (fun m hm => by rw [if_pos hm]), b3, bel⟩
            case measure => simp [intOf]; omega
      · obtain rfl : j = L.length := by omega
        rw [List.take_length] at b1
        obtain ⟨u, hu⟩ : ∃ u, foldS op s L = u := ⟨_, rfl⟩
        rw [hu] at b1
        have HU := Lib.hid hu; clear hu
        have c0 := b1.cell (k := 0) (by omega); have c1 := b1.cell (k := 1) (by omega); have c2 := b1.cell (k := 2) (by omega); have c3 := b1.cell (k := 3) (by omega)
        have d0 := b2.cell (k := 0) (by omega); have d1 := b2.cell (k := 1) (by omega); have d2 := b2.cell (k := 2) (by omega); have d3 := b2.cell (k := 3) (by omega)
        have f0 := b2.frozen 0; have f1 := b2.frozen 1; have f2 := b2.frozen 2; have f3 := b2.frozen 3
        go_wp2
        have b3 := b2.set4 u
        have e0 := b3.cell (k := 0) (by omega); have e1 := b3.cell (k := 1) (by omega); have e2 := b3.cell (k := 2) (by omega); have e3 := b3.cell (k := 3) (by omega)
        exact bodyPost_ret (v := setV u) (by unfold setV; simp [results, Tryz.results35, go_sem, e0, e1, e2, e3]) rfl ⟨by rw [HU.out], below_set4 bel (by omega) _ _ _ _⟩

/-! ### Union, Meet, Not -/
set_option maxHeartbeats 1000000 in
theorem set_Not (s : Nat → Nat) (hs : SetOk s) (w : World) : Calls Tryz.prog 98 #[setV s] w fun e w' => e = .returned (setV (notS s)) ∧ Below w.heap.size w w' := by
  rw [show setV s = .agg #[.int .u64 (s 0), .int .u64 (s 1), .int .u64 (s 2), .int .u64 (s 3)] from rfl]
  go_enter Tryz.func98, Tryz.ntmps98
  go_wp2_with fail
  have b1 : SBox (((w.alloc (.cells (setC s) 37)).alloc (.cells (setC emptyS) 37)).alloc (.cells (setC emptyS) 37)) (w.heap.size + 1) 37 emptyS := by
    have := (SBox.new (w.alloc (.cells (setC s) 37)) 37 emptyS).alloc (.cells (setC emptyS) 37)
    rwa [World.size_alloc] at this
  have bel : Below w.heap.size w (((w.alloc (.cells (setC s) 37)).alloc (.cells (setC emptyS) 37)).alloc (.cells (setC emptyS) 37)) := (((Below.refl _ w).alloc (Nat.le_refl _) _).alloc (by simp) _).alloc (by simp; omega) _
  have rd := RdS.lit ((w.alloc (.cells (setC s) 37)).alloc (.cells (setC emptyS) 37)) [emptyS] 37 (by simp [maxLen])
  rw [World.size_alloc, World.size_alloc] at rd
  have rd' : RdS (((w.alloc (.cells (setC s) 37)).alloc (.cells (setC emptyS) 37)).alloc (.cells (setC emptyS) 37)) (((w.alloc (.cells (setC s) 37)).alloc (.cells (setC emptyS) 37)).alloc (.cells (setC emptyS) 37)).heap.size (.slice (some ⟨w.heap.size + 1 + 1, 0, none⟩) 1 1) [emptyS] := by
    rw [World.size_alloc, World.size_alloc, World.size_alloc]; exact rd
  refine (set_each 109 notop not_bound (enters_of Tryz.func109 (by kernel_rfl) rfl) (fun x y w hx _ => set_not1 x y hx w) s hs _ [emptyS] (fun t ht => by simp at ht; subst ht; exact emptyS_ok) _ rd').mono ?_
  rintro e w1 ⟨rfl, bel1⟩
  have b2 := b1.below bel1 (by simp)
  have bel2 := bel.trans (bel1.mono bel.size)
  rw [foldS_not]
  clear b1 bel bel1 rd rd'
  obtain ⟨u, hu⟩ : ∃ u, notS s = u := ⟨_, rfl⟩
  rw [hu]
  have HU := Lib.hid hu; clear hu
  unfold setV
  have d0 := b2.cell (k := 0) (by omega); have d1 := b2.cell (k := 1) (by omega); have d2 := b2.cell (k := 2) (by omega); have d3 := b2.cell (k := 3) (by omega)
  have f0 := b2.frozen 0; have f1 := b2.frozen 1; have f2 := b2.frozen 2; have f3 := b2.frozen 3
  go_wp2
  have b3 := b2.set4 u
  have e0 := b3.cell (k := 0) (by omega); have e1 := b3.cell (k := 1) (by omega); have e2 := b3.cell (k := 2) (by omega); have e3 := b3.cell (k := 3) (by omega)
  exact bodyPost_ret (v := setV u) (by unfold setV; simp [results, Tryz.results98, go_sem, e0, e1, e2, e3]) rfl ⟨by rw [HU.out], below_set4 bel2 (by omega) _ _ _ _⟩

set_option maxHeartbeats 1000000 in
theorem set_Union (v : Value) (L : List (Nat → Nat)) (hL : ∀ t ∈ L, SetOk t) (w : World) (h : RdS w w.heap.size v L) : Calls Tryz.prog 16 #[v] w fun e w' => e = .returned (setV (unionS L)) ∧ Below w.heap.size w w' := by
  go_enter Tryz.func16, Tryz.ntmps16
  go_wp2_with fail
  have b1 : SBox (w.alloc (.cells (setC emptyS) 37)) w.heap.size 37 emptyS := SBox.new w _ _
  have bel : Below w.heap.size w (w.alloc (.cells (setC emptyS) 37)) := (Below.refl _ w).alloc (Nat.le_refl _) _
  refine (set_each 36 (fun x y => x ||| y) or_bound (enters_of Tryz.func36 (by kernel_rfl) rfl) (fun x y w hx hy => set_or x y hx hy w) emptyS emptyS_ok _ L hL _ ((h.below bel).up (by simp))).mono ?_
  rintro e w1 ⟨rfl, bel1⟩
  have b2 := b1.below bel1 (by simp)
  have bel2 := bel.trans (bel1.mono bel.size)
  rw [show foldS (fun x y => x ||| y) emptyS L = unionS L from rfl]
  clear b1 bel bel1 h
  obtain ⟨u, hu⟩ : ∃ u, unionS L = u := ⟨_, rfl⟩
  rw [hu]
  have HU := Lib.hid hu; clear hu
  unfold setV
  have d0 := b2.cell (k := 0) (by omega); have d1 := b2.cell (k := 1) (by omega); have d2 := b2.cell (k := 2) (by omega); have d3 := b2.cell (k := 3) (by omega)
  have f0 := b2.frozen 0; have f1 := b2.frozen 1; have f2 := b2.frozen 2; have f3 := b2.frozen 3
  go_wp2
  have b3 := b2.set4 u
  have e0 := b3.cell (k := 0) (by omega); have e1 := b3.cell (k := 1) (by omega); have e2 := b3.cell (k := 2) (by omega); have e3 := b3.cell (k := 3) (by omega)
  exact bodyPost_ret (v := setV u) (by unfold setV; simp [results, Tryz.results16, go_sem, e0, e1, e2, e3]) rfl ⟨by rw [HU.out], below_set4 bel2 (Nat.le_refl _) _ _ _ _⟩

set_option maxHeartbeats 1000000 in
theorem set_Meet (v : Value) (L : List (Nat → Nat)) (hL : ∀ t ∈ L, SetOk t) (w : World) (h : RdS w w.heap.size v L) : Calls Tryz.prog 100 #[v] w fun e w' => e = .returned (setV (meetS L)) ∧ Below w.heap.size w w' := by
  go_enter Tryz.func100, Tryz.ntmps100
  go_wp2_with fail
  have b1 : SBox (w.alloc (.cells (setC emptyS) 37)) w.heap.size 37 emptyS := SBox.new w _ _
  have bel : Below w.heap.size w (w.alloc (.cells (setC emptyS) 37)) := (Below.refl _ w).alloc (Nat.le_refl _) _
  refine (set_Not emptyS emptyS_ok _).mono ?_
  rintro e w0 ⟨rfl, bel0⟩
  rw [notS_empty]
  have b1' := b1.below bel0 (by simp)
  have bel' := bel.trans (bel0.mono bel.size)
  clear b1 bel bel0
  go_wp2_with fail
  refine (set_each 110 (fun x y => x &&& y) and_bound (enters_of Tryz.func110 (by kernel_rfl) rfl) (fun x y w hx hy => set_and x y hx hy w) fullS fullS_ok _ L hL _ ((h.below bel').up bel'.size)).mono ?_
  rintro e w1 ⟨rfl, bel1⟩
  have b2 := b1'.below bel1 b1'.lt
  have bel2 := bel'.trans (bel1.mono bel'.size)
  rw [show foldS (fun x y => x &&& y) fullS L = meetS L from rfl]
  clear b1' bel' bel1 h
  obtain ⟨u, hu⟩ : ∃ u, meetS L = u := ⟨_, rfl⟩
  rw [hu]
  have HU := Lib.hid hu; clear hu
  unfold setV
  have d0 := b2.cell (k := 0) (by omega); have d1 := b2.cell (k := 1) (by omega); have d2 := b2.cell (k := 2) (by omega); have d3 := b2.cell (k := 3) (by omega)
  have f0 := b2.frozen 0; have f1 := b2.frozen 1; have f2 := b2.frozen 2; have f3 := b2.frozen 3
  go_wp2
  have b3 := b2.set4 u
  have e0 := b3.cell (k := 0) (by omega); have e1 := b3.cell (k := 1) (by omega); have e2 := b3.cell (k := 2) (by omega); have e3 := b3.cell (k := 3) (by omega)
  exact bodyPost_ret (v := setV u) (by unfold setV; simp [results, Tryz.results100, go_sem, e0, e1, e2, e3]) rfl ⟨by rw [HU.out], below_set4 bel2 (Nat.le_refl _) _ _ _ _⟩

end Go.Proofs.YtllmgmfihijejaaGreatDoor
/-
  The walks of the package set, continued: Of, Range, the bytes of a set, Fold, Ranges, Count.
-/
namespace Go.Proofs.YtllmgmfihijejaaGreatDoor
open Go.RowKit Go.Shelf
attribute [local go_sem] Oper.semAt_some

/-! ### Of, Range -/
theorem Rd.u8' {w : World} {b0 : Nat} {v : Value} {xs : List Int} (h : Rd w b0 v (xs.map (.int .u8))) :
    ((∃ q, v = .slice q 0 0) ∧ xs = []) ∨ ∃ b off cap, v = .slice (some ⟨b, off, none⟩) xs.length cap ∧ b < b0 ∧ xs.length ≤ cap ∧ cap ≤ maxLen ∧
    ∀ j, (h : j < xs.length) → w.cell? ⟨b, off + j, none⟩ = some (.int .u8 xs[j]) := by
  rcases h with ⟨h1, h2⟩ | ⟨b, off, cap, e, h1, h2, h3, h4⟩
  · exact .inl ⟨h1, by simpa using h2⟩
  · refine .inr ⟨b, off, cap, by simpa using e, h1, by simpa using h2, h3, fun j hj => ?_⟩
    rw [h4 j (by simpa using hj)]; simp

set_option maxHeartbeats 1000000 in
theorem set_Of (v : Value) (xs : List Int) (hx : ∀ x ∈ xs, 0 ≤ x ∧ x ≤ 255) (w : World) (h : Rd w w.heap.size v (xs.map (.int .u8))) :
    Calls Tryz.prog 45 #[v] w fun e w' => e = .returned (setV (ofS xs)) ∧ Below w.heap.size w w' := by
  have b0 : SBox (w.alloc (.cells (setC emptyS) 37)) w.heap.size 37 emptyS := SBox.new w _ _
  have bel0 : Below w.heap.size w (w.alloc (.cells (setC emptyS) 37)) := (Below.refl _ w).alloc (Nat.le_refl _) _
  have HX := Lib.hid hx; clear hx
  rcases h.u8' with ⟨⟨q, rfl⟩, rfl⟩ | ⟨b, off, cap, rfl, hb, hcl, hcm, hc⟩
  · go_enter Tryz.func45, Tryz.ntmps45
    go_wp2
    go_loopw [7] (fun i wr => i = .int .i64 0 ∧ Hid (SBox wr w.heap.size 37 emptyS ∧ Below w.heap.size w wr)) (fun _ _ => 0)
    case atStart => exact ⟨rfl, b0, bel0⟩
    case round =>
      clear b0 bel0
      obtain ⟨rfl, H⟩ := hrel
      have ⟨b2, bel2⟩ := H.out
      clear H h
      have HU := Lib.hid (show ofS [] = emptyS from rfl)
      generalize emptyS = u at b2 HU
      have c0 := b2.cell (k := 0) (by omega); have c1 := b2.cell (k := 1) (by omega); have c2 := b2.cell (k := 2) (by omega); have c3 := b2.cell (k := 3) (by omega)
      have f0 := b2.frozen 0; have f1 := b2.frozen 1; have f2 := b2.frozen 2; have f3 := b2.frozen 3
      go_wp2
      have b3 := b2.set4 u
      have e0 := b3.cell (k := 0) (by omega); have e1 := b3.cell (k := 1) (by omega); have e2 := b3.cell (k := 2) (by omega); have e3 := b3.cell (k := 3) (by omega)
      exact bodyPost_ret (v := setV u) (by unfold setV; simp [results, Tryz.results45, go_sem, e0, e1, e2, e3]) rfl ⟨by rw [HU.out], below_set4 bel2 (Nat.le_refl _) _ _ _ _⟩
  · have hlen : xs.length ≤ 9223372036854775807 := by unfold maxLen at hcm; omega
    have Hc := Lib.hid hc; clear hc h
    go_enter Tryz.func45, Tryz.ntmps45
    go_wp2
    go_loopw [4, 7] (fun _ i wr => ∃ j : Nat, j ≤ xs.length ∧ i = .int .i64 j ∧ Hid (SBox wr w.heap.size 37 (ofS (xs.take j)) ∧ Below w.heap.size w wr)) (fun _ i _ => xs.length - (intOf i).toNat)
    case atStart => exact ⟨0, Nat.zero_le _, rfl, b0, bel0⟩
    case round =>
      clear b0 bel0
      obtain ⟨j, hj, rfl, H⟩ := hrel
      have ⟨b2, bel2⟩ := H.out
      clear H
      by_cases hlt : j < xs.length
      · have hcell := (bel2.cell (p := ⟨b, off + j, none⟩) hb).trans (Hc.out j hlt)
        obtain ⟨hx0, hx1⟩ := HX.out xs[j] (List.getElem_mem hlt)
        have hn : ofS (xs.take (j + 1)) = addS (ofS (xs.take j)) (xs[j]).toNat := by rw [List.take_succ_eq_append_getElem hlt, ofS_snoc]
        have HN := Lib.hid hn; clear hn
        have hS := ofS_ok (xs.take j)
        generalize ofS (xs.take j) = S at b2 HN hS
        generalize xs[j] = x at hcell hx0 hx1 HN
        obtain ⟨n, rfl⟩ : ∃ n : Nat, x = n := ⟨x.toNat, by omega⟩
        obtain ⟨q, hq⟩ : ∃ q : Nat, n / 64 = q := ⟨_, rfl⟩
        obtain ⟨r, hr⟩ : ∃ r : Nat, n % 64 = r := ⟨_, rfl⟩
        have hq4 : q < 4 := by omega
        have hr64 : r < 64 := by omega
        have hqi : (n : Int) / 64 = (q : Int) := by omega
        have hri : (n : Int) % 64 = (r : Int) := by omega
        have HQ := Lib.hid hq; clear hq
        have HR := Lib.hid hr; clear hr
        have hc1 := b2.cell hq4
        have hf1 := b2.frozen q
        go_wp2
        go_roundw
        case rel =>
          refine ⟨j + 1, by omega, by go_num, ?_, bel2.setCell (p := ⟨w.heap.size, q, none⟩) (Nat.le_refl _) _⟩
          rw [or_walk _ _ (hS q hq4) hr64, HN.out, Int.toNat_natCast, ← addS_at HQ.out HR.out]
          exact b2.set hq4 _
        case measure => simp [intOf]; omega
      · obtain rfl : j = xs.length := by omega
        rw [List.take_length] at b2
        obtain ⟨u, hu⟩ : ∃ u, ofS xs = u := ⟨_, rfl⟩
        rw [hu] at b2
        have HU := Lib.hid hu; clear hu
        have c0 := b2.cell (k := 0) (by omega); have c1 := b2.cell (k := 1) (by omega); have c2 := b2.cell (k := 2) (by omega); have c3 := b2.cell (k := 3) (by omega)
        have f0 := b2.frozen 0; have f1 := b2.frozen 1; have f2 := b2.frozen 2; have f3 := b2.frozen 3
        go_wp2
        have b3 := b2.set4 u
        have e0 := b3.cell (k := 0) (by omega); have e1 := b3.cell (k := 1) (by omega); have e2 := b3.cell (k := 2) (by omega); have e3 := b3.cell (k := 3) (by omega)
        exact bodyPost_ret (v := setV u) (by unfold setV; simp [results, Tryz.results45, go_sem, e0, e1, e2, e3]) rfl ⟨by rw [HU.out], below_set4 bel2 (Nat.le_refl _) _ _ _ _⟩

/-- the bytes from lo on, so many -/
def rangeS (lo n : Nat) : Nat → Nat := ofS ((List.range' lo n).map (fun k : Nat => (k : Int)))
theorem rangeS_succ (lo n : Nat) : rangeS lo (n + 1) = addS (rangeS lo n) (lo + n) := by
  unfold rangeS
  rw [List.range'_concat, List.map_append, List.map_cons, List.map_nil, ofS_snoc]
  simp only [Int.toNat_natCast, Nat.one_mul]

set_option maxHeartbeats 1000000 in
theorem set_Range (lo hi : Nat) (hlo : lo ≤ 255) (hhi : hi ≤ 255) (w : World) :
    Calls Tryz.prog 17 #[.int .u8 lo, .int .u8 hi] w fun e w' => e = .returned (setV (rangeS lo (hi + 1 - lo))) ∧ Below w.heap.size w w' := by
  have b0 : SBox (w.alloc (.cells (setC emptyS) 37)) w.heap.size 37 emptyS := SBox.new w _ _
  have bel0 : Below w.heap.size w (w.alloc (.cells (setC emptyS) 37)) := (Below.refl _ w).alloc (Nat.le_refl _) _
  go_enter Tryz.func17, Tryz.ntmps17
  go_wp2
  go_loopw [5] (fun i wr => ∃ m : Nat, m ≤ hi + 1 - lo ∧ i = .int .i64 ((lo + m : Nat) : Int) ∧ Hid (SBox wr w.heap.size 37 (rangeS lo m) ∧ Below w.heap.size w wr)) (fun i _ => 256 - (intOf i).toNat)
  case atStart => exact ⟨0, Nat.zero_le _, rfl, b0, bel0⟩
  case round =>
    clear b0 bel0
    obtain ⟨m, hm, rfl, H⟩ := hrel
    have ⟨b2, bel2⟩ := H.out
    clear H
    obtain ⟨n, hn⟩ : ∃ n, lo + m = n := ⟨_, rfl⟩
    rw [hn]
    have HN := Lib.hid hn; clear hn
    have hn2 : n ≤ hi + 1 ∨ n = lo := by have := HN.out; omega
    by_cases hlt : n ≤ hi
    · have hnext := rangeS_succ lo m
      rw [HN.out] at hnext
      have hS : SetOk (rangeS lo m) := ofS_ok _
      have Hnext := Lib.hid hnext; clear hnext
      generalize rangeS lo m = S at b2 Hnext hS
      obtain ⟨q, hq⟩ : ∃ q : Nat, n / 64 = q := ⟨_, rfl⟩
      obtain ⟨r, hr⟩ : ∃ r : Nat, n % 64 = r := ⟨_, rfl⟩
      have hq4 : q < 4 := by omega
      have hr64 : r < 64 := by omega
      have hqi : (n : Int) / 64 = (q : Int) := by omega
      have hri : (n : Int) % 64 = (r : Int) := by omega
      have HQ := Lib.hid hq; clear hq
      have HR := Lib.hid hr; clear hr
      have hc1 := b2.cell hq4
      have hf1 := b2.frozen q
      go_wp2_with fail
      have B2 := Lib.hid b2; clear b2
      have BEL2 := Lib.hid bel2; clear bel2
      go_region
      go_wp2
      go_roundw
      case rel =>
        refine ⟨m + 1, by have := HN.out; omega, by have := HN.out; go_num, ?_, (BEL2.out.setCell (p := ⟨w.heap.size, q, none⟩) (Nat.le_refl _) _).drew⟩
        rw [or_walk _ _ (hS q hq4) hr64, Hnext.out, ← addS_at HQ.out HR.out]
        exact (B2.out.set hq4 _).below (n := w.heap.size + 1) ⟨rfl, rfl, rfl, Nat.le_refl _, fun _ _ => rfl⟩ (by omega)
      case measure => simp [intOf]; omega
    · have hm2 : m = hi + 1 - lo := by have := HN.out; omega
      subst hm2
      obtain ⟨u, hu⟩ : ∃ u, rangeS lo (hi + 1 - lo) = u := ⟨_, rfl⟩
      rw [hu] at b2
      have HU := Lib.hid hu; clear hu
      have c0 := b2.cell (k := 0) (by omega); have c1 := b2.cell (k := 1) (by omega); have c2 := b2.cell (k := 2) (by omega); have c3 := b2.cell (k := 3) (by omega)
      have f0 := b2.frozen 0; have f1 := b2.frozen 1; have f2 := b2.frozen 2; have f3 := b2.frozen 3
      go_wp2
      have b3 := b2.set4 u
      have e0 := b3.cell (k := 0) (by omega); have e1 := b3.cell (k := 1) (by omega); have e2 := b3.cell (k := 2) (by omega); have e3 := b3.cell (k := 3) (by omega)
      exact bodyPost_ret (v := setV u) (by unfold setV; simp [results, Tryz.results17, go_sem, e0, e1, e2, e3]) rfl ⟨by rw [HU.out], below_set4 bel2 (Nat.le_refl _) _ _ _ _⟩

/-! ### the bytes of a set, one by one -/
/-- a set's bytes from 0 on, up to k -/
def bytesTo (s : Nat → Nat) (k : Nat) : List Int := ((List.range k).filter (hasB s)).map (fun n : Nat => (n : Int))
def bytesS (s : Nat → Nat) : List Int := bytesTo s 256
theorem bytesTo_hit {s : Nat → Nat} {k : Nat} (h : hasB s k = true) : bytesTo s (k + 1) = bytesTo s k ++ [(k : Int)] := by
  unfold bytesTo; rw [List.range_succ, List.filter_append, List.map_append]; simp [h]
theorem bytesTo_miss {s : Nat → Nat} {k : Nat} (h : hasB s k = false) : bytesTo s (k + 1) = bytesTo s k := by
  unfold bytesTo; rw [List.range_succ, List.filter_append, List.map_append]; simp [h]
theorem bytesTo_prefix (s : Nat → Nat) {j k : Nat} (h : j ≤ k) : bytesTo s j <+: bytesTo s k := by
  induction k with
  | zero => have : j = 0 := by omega
            subst this; exact List.prefix_rfl
  | succ k ih =>
    by_cases e : j = k + 1
    · subst e; exact List.prefix_rfl
    · refine (ih (by omega)).trans ?_
      cases hb : hasB s k with
      | true => rw [bytesTo_hit hb]; exact List.prefix_append _ _
      | false => rw [bytesTo_miss hb]; exact List.prefix_rfl
theorem bytesS_mem {s : Nat → Nat} {x : Int} (h : x ∈ bytesS s) : ∃ n : Nat, n < 256 ∧ x = n ∧ hasB s n = true := by
  obtain ⟨n, hn, rfl⟩ := List.mem_map.1 h
  have := List.mem_filter.1 hn
  exact ⟨n, by simpa using this.1, rfl, this.2⟩

end Go.Proofs.YtllmgmfihijejaaGreatDoor
/-
  The walks of the package set, continued: Fold, Bytes, Ranges, Count.
-/
namespace Go.Proofs.YtllmgmfihijejaaGreatDoor
open Go.RowKit Go.Shelf
attribute [local go_sem] Oper.semAt_some

def eqS (u s : Nat → Nat) : Bool := (u 0 == s 0) && (u 1 == s 1) && (u 2 == s 2) && (u 3 == s 3)
theorem eqS_setV {u s : Nat → Nat} (h : eqS u s = true) : setV u = setV s := by
  unfold eqS at h
  simp at h
  obtain ⟨⟨⟨h0, h1⟩, h2⟩, h3⟩ := h
  unfold setV; rw [h0, h1, h2, h3]
theorem run_eqSet (u s : Nat → Nat) (W : World) : (Op.equalIn 10000 37 (.agg #[.int .u64 (u 0), .int .u64 (u 1), .int .u64 (u 2), .int .u64 (u 3)]) (.agg #[.int .u64 (s 0), .int .u64 (s 1), .int .u64 (s 2), .int .u64 (s 3)])).run Tryz.prog W = .ok (eqS u s) W := by
  have hi : (Tryz.prog.info? 35).isSome = true := by kernel_rfl
  obtain ⟨i, hi⟩ := Option.isSome_iff_exists.1 hi
  have hu : Tryz.prog.underlying 35 = some (.int .u64) := by kernel_rfl
  have hc : Tryz.prog.cellsOf 35 = 1 := by kernel_rfl
  have hst : ∀ (x : Nat → Nat) (k : Nat), k < 4 → ∀ W, (part 35 #[.int .u64 (x 0), .int .u64 (x 1), .int .u64 (x 2), .int .u64 (x 3)] (k * 1)).run Tryz.prog W = .ok (.int .u64 (x k)) W := by
    intro x k hk W
    rw [Nat.mul_one]
    match k, hk with
    | 0, _ => simp [go_sem]
    | 1, _ => simp [go_sem]
    | 2, _ => simp [go_sem]
    | 3, _ => simp [go_sem]
  rw [run_equalIn_array W 9999 (n := 4) _ _ (by kernel_rfl) hi, hc]
  have hl : List.range 4 = [0, 1, 2, 3] := by decide
  have he : ∀ (a b : Nat), ((a : Int) == (b : Int)) = (a == b) := by intro a b; rw [Bool.eq_iff_iff]; simp; omega
  rw [hl]
  unfold eqS
  simp only [Op.eqItems, Sem.run_bind]
  simp only [hst u 0 (by decide), hst s 0 (by decide), Result.andThen_ok, run_equalIn_int _ _ _ _ _ _ _ hu, he]
  cases u 0 == s 0
  · simp
  simp only [Bool.not_true, Bool.false_eq_true, if_false, Bool.true_and, Sem.run_bind]
  simp only [hst u 1 (by decide), hst s 1 (by decide), Result.andThen_ok, run_equalIn_int _ _ _ _ _ _ _ hu, he]
  cases u 1 == s 1
  · simp
  simp only [Bool.not_true, Bool.false_eq_true, if_false, Bool.true_and, Sem.run_bind]
  simp only [hst u 2 (by decide), hst s 2 (by decide), Result.andThen_ok, run_equalIn_int _ _ _ _ _ _ _ hu, he]
  cases u 2 == s 2
  · simp
  simp only [Bool.not_true, Bool.false_eq_true, if_false, Bool.true_and, Sem.run_bind]
  simp only [hst u 3 (by decide), hst s 3 (by decide), Result.andThen_ok, run_equalIn_int _ _ _ _ _ _ _ hu, he]
  cases u 3 == s 3
  · simp
  simp

theorem Upd.setOld' {M : Nat → Prop} {B : Nat} {X W : World} (h : Upd M B X W) (hB : B ≤ W.heap.size) {b k : Nat} (hb : b < B) (hM : M b) (v : Value) : Upd M B X (W.setCell ⟨b, k, none⟩ v) :=
  h.grown (row := some b) ⟨rfl, rfl, rfl, by simp [World.setCell], fun j _ hj => Below.heap_setCell _ _ _ j (fun e => hj (by rw [e]))⟩ (fun j e => by cases e; exact .inl ⟨hb, hM⟩) hB

/-- a function that holds a range over a function is left with its set from the cell -/
theorem leave_set {fn : Func} {R : Ending → World → Prop} {tmps : Array Value} {D B : Nat} {W : World} {T : TypeId} {u : Nat → Nat}
    (hK : W.heap[D]? = some (.deferred (some []))) (hB : SBox W B T u)
    (hr : ∀ W', SBox W' B T u → (results fn tmps).run Tryz.prog W' = .ok (setV u) W') (h : R (.returned (setV u)) (W.putObj D (.deferred none))) :
    bodyPostM Fence.wide 9 Tryz.prog fn R .ret { tmps := tmps, defers := [{ target := .collected D, args := #[] }] } W :=
  ⟨by simp, .inl ⟨_, _, rfl, run_takeDeferred hK, _, hr _ ((Idle.of_putObj (B := 0) _ hK rfl (Nat.zero_le _)).cells _ _ _ _ hB), h⟩⟩
theorem keeps_set4 {W : World} {B D : Nat} {o : Obj} (hK : W.heap[D]? = some o) (hne : D ≠ B) (v0 v1 v2 v3 : Value) :
    ((((W.setCell ⟨B, 0, none⟩ v0).setCell ⟨B, 1, none⟩ v1).setCell ⟨B, 2, none⟩ v2).setCell ⟨B, 3, none⟩ v3).heap[D]? = some o := by
  rw [Below.heap_setCell _ _ _ _ hne, Below.heap_setCell _ _ _ _ hne, Below.heap_setCell _ _ _ _ hne, Below.heap_setCell _ _ _ _ hne]; exact hK

end Go.Proofs.YtllmgmfihijejaaGreatDoor
/-
  A region that draws its order, whose operations make memory of their own alone: BY A WORD ON EACH OPERATION's VALUE.
  Each operation i has a word 'Ss i v w' (of its value v, in the world w), which stays true while memory is made.
  Each is shown once, of any state in which the words on those that it waits for hold; no order is gone through.
-/
namespace Go.Proofs.YtllmgmfihijejaaGreatDoor
open Go.RowKit

/-- the first state, with the values of those that are listed -/
def fill : List Oper → Nat → Array Bool → (Nat → Value) → Act → Act
  | [], _, _, _, a => a
  | o :: r, k, listed, vals, a => fill r (k + 1) listed vals (if listed.getD k false then a.put o.dst (vals k) else a)
/-- all of them -/
def fillAll : List Oper → Nat → (Nat → Value) → Act → Act
  | [], _, _, a => a
  | o :: r, k, vals, a => fillAll r (k + 1) vals (a.put o.dst (vals k))

theorem fill_all : ∀ (l : List Oper) (k : Nat) (listed : Array Bool) (vals : Nat → Value) (a : Act), (∀ i, i < l.length → listed.getD (k + i) false = true) → fill l k listed vals a = fillAll l k vals a
  | [], _, _, _, _, _ => rfl
  | o :: r, k, listed, vals, a, h => by
    have h0 : listed.getD k false = true := by simpa using h 0 (by simp)
    simp only [fill, fillAll, h0, if_true]
    exact fill_all r (k + 1) listed vals _ (fun i hi => by have := h (i + 1) (by simp; omega); rwa [show k + (i + 1) = k + 1 + i from by omega] at this)
theorem fill_none : ∀ (l : List Oper) (k : Nat) (listed : Array Bool) (vals : Nat → Value) (a : Act), (∀ i, listed.getD i false = false) → fill l k listed vals a = a
  | [], _, _, _, _, _ => rfl
  | o :: r, k, listed, vals, a, h => by
    simp only [fill, h k, Bool.false_eq_true, if_false]
    exact fill_none r (k + 1) listed vals a h
theorem fill_put : ∀ (l : List Oper) (k : Nat) (listed : Array Bool) (vals : Nat → Value) (a : Act) (d : Tmp) (v : Value), (∀ o ∈ l, o.dst ≠ some d) →
    fill l k listed vals (a.put (some d) v) = (fill l k listed vals a).put (some d) v
  | [], _, _, _, _, _, _, _ => rfl
  | o :: r, k, listed, vals, a, d, v, h => by
    simp only [fill]
    rw [← fill_put r (k + 1) listed vals _ d v (fun o' ho' => h o' (List.mem_cons_of_mem _ ho'))]
    congr 1
    split
    · exact Act.put_comm a v (vals k) (fun d' e => by cases e; exact h o (List.mem_cons_self ..))
    · rfl
theorem fill_congr : ∀ (l : List Oper) (k : Nat) (listed listed' : Array Bool) (vals vals' : Nat → Value) (a : Act),
    (∀ i, i < l.length → listed.getD (k + i) false = listed'.getD (k + i) false ∧ vals (k + i) = vals' (k + i)) → fill l k listed vals a = fill l k listed' vals' a
  | [], _, _, _, _, _, _, _ => rfl
  | o :: r, k, listed, listed', vals, vals', a, h => by
    have h0 := h 0 (by simp)
    simp only [Nat.add_zero] at h0
    simp only [fill, h0.1, h0.2]
    exact fill_congr r (k + 1) listed listed' vals vals' _ (fun i hi => by have := h (i + 1) (by simp; omega); rwa [show k + (i + 1) = k + 1 + i from by omega] at this)

/-- the destinations are each another -/
def dstsB : List Oper → Bool
  | [] => true
  | o :: r => o.dst.isSome && r.all (fun o' => o'.dst != o.dst) && dstsB r

theorem fill_set : ∀ (l : List Oper) (k i : Nat) (listed : Array Bool) (vals : Nat → Value) (a : Act) (o : Oper) (d : Tmp) (v : Value), dstsB l = true → l[i]? = some o → o.dst = some d →
    listed.getD (k + i) true = false →
    fill l k (listed.setIfInBounds (k + i) true) (fun j => if j = k + i then v else vals j) a = (fill l k listed vals a).put (some d) v
  | [], _, _, _, _, _, _, _, _, _, h, _, _ => by simp at h
  | o :: r, k, 0, listed, vals, a, o', d, v, hd, h, hod, hl => by
    simp at h; subst h
    simp only [dstsB, Bool.and_eq_true] at hd
    obtain ⟨⟨_, hall⟩, hr⟩ := hd
    have hne : ∀ o' ∈ r, o'.dst ≠ some d := by
      intro o' ho' e
      have := List.all_eq_true.1 hall o' ho'
      rw [e, hod] at this; simp at this
    have h1 : (listed.setIfInBounds k true).getD k false = true := by
      have hk : k < listed.size := by
        rcases Nat.lt_or_ge k listed.size with h' | h'
        · exact h'
        · simp [Array.getElem?_eq_none h'] at hl
      simp [hk]
    have h2 : listed.getD k false = false := getD_both (by simpa using hl)
    simp only [Nat.add_zero, fill, h1, h2, if_true, Bool.false_eq_true, if_false, hod]
    rw [fill_put r (k + 1) _ _ a d v hne]
    congr 1
    refine fill_congr r (k + 1) _ _ _ _ a (fun i hi => ⟨?_, by rw [if_neg (by omega)]⟩)
    exact getD_set_ne false (by omega)
  | o :: r, k, i + 1, listed, vals, a, o', d, v, hd, h, hod, hl => by
    simp only [dstsB, Bool.and_eq_true] at hd
    obtain ⟨⟨_, hall⟩, hr⟩ := hd
    simp only [List.getElem?_cons_succ] at h
    have ih := fill_set r (k + 1) i listed vals (if listed.getD k false then a.put o.dst (vals k) else a) o' d v hr h hod (by rwa [show k + 1 + i = k + (i + 1) from by omega])
    simp only [fill]
    rw [show k + (i + 1) = k + 1 + i from by omega, getD_set_ne false (by omega), if_neg (by omega : ¬ k = k + 1 + i)]
    exact ih

theorem put_tmps (a : Act) (d t : Nat) (v : Value) (h : t ≠ d) : (a.put (some d) v).eval (.tmp t) = a.eval (.tmp t) := by
  simp only [Act.put, Act.eval]
  simp [Array.getElem?_setIfInBounds_ne (show d ≠ t from fun e => h e.symm)]
theorem put_tmps_same (a : Act) (d : Nat) (v : Value) (h : d < a.tmps.size) : (a.put (some d) v).eval (.tmp d) = v := by
  simp only [Act.put, Act.eval]
  simp [h]
theorem put_size (a : Act) (d : Option Tmp) (v : Value) : (a.put d v).tmps.size = a.tmps.size := by
  cases d <;> simp [Act.put]

theorem fill_size : ∀ (l : List Oper) (k : Nat) (listed : Array Bool) (vals : Nat → Value) (a : Act), (fill l k listed vals a).tmps.size = a.tmps.size
  | [], _, _, _, _ => rfl
  | o :: r, k, listed, vals, a => by
    simp only [fill]
    rw [fill_size]
    split
    · exact put_size ..
    · rfl
theorem fill_frame : ∀ (l : List Oper) (k : Nat) (listed : Array Bool) (vals : Nat → Value) (a : Act) (t : Tmp), l.any (fun o => o.dst == some t) = false → (fill l k listed vals a).eval (.tmp t) = a.eval (.tmp t)
  | [], _, _, _, _, _, _ => rfl
  | o :: r, k, listed, vals, a, t, h => by
    simp only [List.any_cons, Bool.or_eq_false_iff] at h
    simp only [fill]
    rw [fill_frame r (k + 1) listed vals _ t h.2]
    split
    · cases hd : o.dst with
      | none => rfl
      | some d => exact put_tmps a d t _ (fun e => by subst e; rw [hd] at h; simp at h)
    · rfl
theorem fill_at : ∀ (l : List Oper) (k : Nat) (listed : Array Bool) (vals : Nat → Value) (a : Act) (j : Nat) (o : Oper) (d : Tmp), dstsB l = true → l[j]? = some o → o.dst = some d → d < a.tmps.size →
    listed.getD (k + j) false = true → (fill l k listed vals a).eval (.tmp d) = vals (k + j)
  | [], _, _, _, _, _, _, _, _, h, _, _, _ => by simp at h
  | o :: r, k, listed, vals, a, 0, o', d, hd, h, hod, hsz, hl => by
    simp at h; subst h
    simp only [dstsB, Bool.and_eq_true] at hd
    obtain ⟨⟨_, hall⟩, hr⟩ := hd
    simp only [Nat.add_zero] at hl ⊢
    simp only [fill, hl, if_true, hod]
    rw [fill_frame r (k + 1) listed vals _ d (by
      rw [Bool.eq_false_iff]
      intro hc
      obtain ⟨o', ho', e⟩ := List.any_eq_true.1 hc
      have := List.all_eq_true.1 hall o' ho'
      rw [hod] at this
      simp at e this; exact this e), put_tmps_same a d _ hsz]
  | o :: r, k, listed, vals, a, j + 1, o', d, hd, h, hod, hsz, hl => by
    simp only [dstsB, Bool.and_eq_true] at hd
    simp only [fill]
    rw [show k + (j + 1) = k + 1 + j from by omega] at hl ⊢
    exact fill_at r (k + 1) listed vals _ j o' d hd.2 (by simpa using h) hod (by split <;> simp [put_size, hsz]) hl

/-- what holds where an operation is carried out -/
structure RCtx (l : List Oper) (Ss : Nat → Value → World → Prop) (a0 : Act) (w0 : World) (o : Oper) (a : Act) (w : World) : Prop where
  below : Below w0.heap.size w0 w
  frame : ∀ t, l.any (fun o => o.dst == some t) = false → a.eval (.tmp t) = a0.eval (.tmp t)
  dep : ∀ j d, o.after.toList.any (fun e => Region.binds .any e && e.on == j) = true → (l[j]?).bind (·.dst) = some d → Ss j (a.eval (.tmp d)) w
  bound : a.tmps.size = a0.tmps.size

/-- what an operation owes -/
def StepOk (P : Program) (o : Oper) (a : Act) (w : World) (s : Value → World → Prop) : Prop :=
  o.wp P a w (fun a' w' => ∃ v, a' = a.put o.dst v ∧ Below w.heap.size w w' ∧ s v w') (fun _ _ _ => False)
def RStep (P : Program) (ops : Array Oper) (o : Oper) (a : Act) (w : World) (s : Value → World → Prop) : Prop :=
  if Region.wanted o (yielded ops a.tmps) then StepOk P o a w s else s undef w

theorem wpQ_mono {P : Program} {o : Oper} {a : Act} {w : World} {K : Act → World → Prop} {Q : Exit → Act → World → Prop} (h : o.wp P a w K (fun _ _ _ => False)) : o.wp P a w K Q := by
  unfold Oper.wp at *
  generalize (execOp a.eval o).run P w = r at *
  cases r with
  | ok n w' =>
    cases n <;> simp only [Oper.upon] at h ⊢ <;>
      first
        | exact h
        | exact Calls.mono h (fun e w'' he => by
            cases e with
            | returned v => exact he
            | panicked c => exact he.elim
            | outgrown => obtain ⟨_, _, h⟩ := he; exact h.elim)
  | halt x w' => cases x <;> simp only [Oper.upon] at h ⊢ <;> exact h.elim

def headListed (n g : Nat) : Array Bool := (List.replicate n true ++ List.replicate g false).toArray
def specB (ops : Array Oper) (n : Nat) : Bool :=
  decide (n ≤ ops.size) && dstsB (ops.toList.take n) &&
  ((ops.toList.take n).zipIdx.all fun (o, i) => o.after.all fun e => !Region.binds .any e || decide (e.on < i)) &&
  (decide (n = ops.size) || (Region.sinkB .any ops n && Region.chainB .any ops n)) &&
  Region.seqB .any ops (ops.size - n) n (headListed n (ops.size - n))

theorem listed_head {ops : Array Oper} {n : Nat} {listed : Array Bool} (hn : n ≤ ops.size) (inv : HeadInv .any ops n listed) (h : ∀ i, i < n → listed.getD i false = true) : listed = headListed n (ops.size - n) := by
  have hs := inv.size
  apply Array.ext
  · simp [headListed, hs]; omega
  · intro i h1 h2
    by_cases hi : i < n
    · have := h i hi
      rw [Array.getD_eq_getD_getElem?, Array.getElem?_eq_getElem h1] at this
      simp at this
      rw [this]
      simp [headListed, hi]
    · have := inv.tail i (by omega) (by omega)
      rw [Array.getD_eq_getD_getElem?, Array.getElem?_eq_getElem h1] at this
      simp at this
      rw [this]
      simp [headListed, List.getElem_append, hi]

theorem put_lit (t : Array Value) (d : List Deferred) (i : Nat) (v : Value) : ({ tmps := t, defers := d } : Act).put (some i) v = { tmps := t.setIfInBounds i v, defers := d } := rfl

/-- the block to which a value leads -/
def blk : Value → Nat
  | .pointer (some a) => a.block
  | .slice (some a) _ _ => a.block
  | _ => 0

theorem wp_region_specD {P : Program} {id : Nat} {Q : Exit → Act → World → Prop} {a0 : Act} {w0 : World} {l : List Oper} (n : Nat) (Ss : Nat → Value → World → Prop) (D : Nat → Bool)
    (hm : P.follows .mixedOrders = true) (hB : specB l.toArray n = true) (hsz : (l.take n).all (fun o => match o.dst with | some d => decide (d < a0.tmps.size) | none => true) = true)
    (hst : ∀ i, i < n → ∀ v w w', Ss i v w → Below w.heap.size w w' → Ss i v w')
    (hlt : ∀ i, i < n → D i = true → ∀ v w, Ss i v w → blk v < w.heap.size)
    (hstep : ∀ i o, i < n → l[i]? = some o → ∀ a w, RCtx (l.take n) Ss a0 w0 o a w → RStep P l.toArray o a w (fun v w' => Ss i v w' ∧ (D i = true → w.heap.size ≤ blk v)))
    (hend : ∀ vals w, Below w0.heap.size w0 w → (∀ i, i < n → Ss i (vals i) w) → (∀ i j, i < n → j < n → i ≠ j → D i = true → D j = true → blk (vals i) ≠ blk (vals j)) → wpList P l.toArray Q (l.drop n) (fillAll (l.take n) 0 vals a0) w) :
    (Code.region id l.toArray true).wp P Q a0 w0 := by
  simp only [specB, Bool.and_eq_true, decide_eq_true_eq] at hB
  obtain ⟨⟨⟨⟨hn, hd⟩, haf⟩, hsink⟩, hseq⟩ := hB
  have hn' : n ≤ l.length := by simpa using hn
  have hd' : dstsB (l.take n) = true := hd
  have htl : (l.take n).length = n := by simp; omega
  have key : ∀ (rem : List Nat) (f : Nat), rem.length = f → rem.Nodup → ∀ (listed : Array Bool) (a : Act) (w : World), HeadInv .any l.toArray n listed →
      (∀ i, i ∈ rem ↔ (i < n ∧ listed.getD i true = false)) → (∃ vals, a = fill (l.take n) 0 listed vals a0 ∧ (∀ i, i < n → listed.getD i false = true → Ss i (vals i) w) ∧ ∀ i j, i < n → j < n → i ≠ j → listed.getD i false = true → listed.getD j false = true → D i = true → D j = true → blk (vals i) ≠ blk (vals j)) → Below w0.heap.size w0 w →
      wpAny P .any l.toArray Q (f + (l.toArray.size - n)) listed a w := by
    intro rem f
    induction f generalizing rem with
    | zero =>
      intro hl _ listed a w inv hrem ⟨vals, ha, hv, hp⟩ hb
      have hr : rem = [] := List.length_eq_zero_iff.1 hl
      subst hr
      have hall : ∀ i, i < n → listed.getD i false = true := by
        intro i hi
        have h1 : ¬ listed.getD i true = false := fun h => by have := (hrem i).2 ⟨hi, h⟩; simp at this
        have h2 : i < listed.size := by rw [inv.size]; omega
        rw [Array.getD_eq_getD_getElem?, Array.getElem?_eq_getElem h2] at h1 ⊢
        simpa using h1
      have hlist := listed_head hn inv hall
      have hw := hend vals w hb (fun i hi => hv i hi (hall i hi)) (fun i j hi hj hij => hp i j hi hj hij (hall i hi) (hall j hj))
      rw [← fill_all (l.take n) 0 listed vals a0 (fun i hi => by rw [Nat.zero_add]; exact hall i (by omega)), ← ha] at hw
      rw [Nat.zero_add]
      have hdl : (l.drop n).length = l.toArray.size - n := by simp
      rw [← hdl]
      refine wpAny_of_seq (l.drop n) n listed a w (fun j => by simp) ?_ hw
      rw [hdl, hlist]; exact hseq
    | succ f ih =>
      intro hl hnd listed a w inv hrem ⟨vals, ha, hv, hp⟩ hb
      -- the least that is not listed is ready
      have hex : ∃ i, i ∈ rem ∧ ∀ j, j ∈ rem → i ≤ j := by
        have : ∀ (r : List Nat), r ≠ [] → ∃ i, i ∈ r ∧ ∀ j, j ∈ r → i ≤ j := by
          intro r
          induction r with
          | nil => intro h; exact (h rfl).elim
          | cons x r ihr =>
            intro _
            by_cases hr : r = []
            · subst hr; exact ⟨x, by simp, by simp⟩
            · obtain ⟨i, hi, hmin⟩ := ihr hr
              by_cases hx : x ≤ i
              · exact ⟨x, by simp, fun j hj => by rcases List.mem_cons.1 hj with rfl | hj; exact Nat.le_refl _; exact Nat.le_trans hx (hmin j hj)⟩
              · exact ⟨i, by simp [hi], fun j hj => by rcases List.mem_cons.1 hj with rfl | hj; omega; exact hmin j hj⟩
        exact this rem (by intro h; subst h; simp at hl)
      have hready : Region.ready .any l.toArray listed ≠ [] := by
        obtain ⟨i, hi, hmin⟩ := hex
        obtain ⟨hin, hil⟩ := (hrem i).1 hi
        have hlt : i < l.length := by omega
        have hmem : i ∈ Region.ready .any l.toArray listed := by
          refine mem_ready.2 ⟨hil, l[i], by simp [hlt], fun e he hbd => ?_⟩
          have h1 := List.all_eq_true.1 haf (l[i], i) (by
            rw [List.mem_zipIdx_iff_getElem?]; simp [hin, hlt])
          have h2 := Array.all_eq_true'.1 h1 e he
          simp [hbd] at h2
          have hj : ¬ e.on ∈ rem := fun h => by have := hmin _ h; omega
          have h3 : ¬ listed.getD e.on true = false := fun h => hj ((hrem _).2 ⟨by omega, h⟩)
          have h4 : e.on < listed.size := by rw [inv.size]; simp; omega
          rw [Array.getD_eq_getD_getElem?, Array.getElem?_eq_getElem h4] at h3 ⊢
          simpa using h3
        intro h; rw [h] at hmem; simp at hmem
      rw [show f + 1 + (l.toArray.size - n) = (f + (l.toArray.size - n)) + 1 from by omega]
      refine ⟨fun h => (hready h).elim, fun i hi => ?_⟩
      obtain ⟨hil, o, ho, haft⟩ := mem_ready.1 hi
      have hin : i < n := by
        rcases Nat.lt_or_ge i n with h | h
        · exact h
        · exfalso
          obtain ⟨i', hi', _⟩ := hex
          obtain ⟨hin', hil'⟩ := (hrem i').1 hi'
          have hisz : i < l.toArray.size := (Array.getElem?_eq_some_iff.1 ho).1
          simp only [Bool.or_eq_true, decide_eq_true_eq, Bool.and_eq_true] at hsink
          rcases hsink with h0 | ⟨hs, hc⟩
          · omega
          · exact tail_waits hs hc (by omega) inv (n - i') i' rfl hin' hil' i h hi
      have ho' : l[i]? = some o := by simpa using ho
      have hot : (l.take n)[i]? = some o := by rw [List.getElem?_take_of_lt hin]; exact ho'
      obtain ⟨d, hod⟩ : ∃ d, o.dst = some d := by
        have : ∀ (r : List Oper) (j : Nat), dstsB r = true → r[j]? = some o → ∃ d, o.dst = some d := by
          intro r
          induction r with
          | nil => intro j _ h; simp at h
          | cons x r ihr =>
            intro j hdd h
            simp only [dstsB, Bool.and_eq_true] at hdd
            cases j with
            | zero => simp at h; subst h; exact Option.isSome_iff_exists.1 hdd.1.1
            | succ j => exact ihr j hdd.2 (by simpa using h)
        exact this _ i hd' hot
      have hbd : ∀ (j : Nat) (oj : Oper) (dj : Tmp), (l.take n)[j]? = some oj → oj.dst = some dj → dj < a0.tmps.size := by
        intro j oj dj hj hdj
        have := List.all_eq_true.1 hsz oj (List.mem_of_getElem? hj)
        simpa [hdj] using this
      have hctx : RCtx (l.take n) Ss a0 w0 o a w := by
        refine ⟨hb, fun t ht => by rw [ha]; exact fill_frame _ _ _ _ _ t ht, fun j dj hj hdj => ?_, by rw [ha, fill_size]⟩
        obtain ⟨e, he, hbe⟩ := List.any_eq_true.1 hj
        simp only [Bool.and_eq_true, beq_iff_eq] at hbe
        have hlj := haft e (Array.mem_toList_iff.1 he) hbe.1
        rw [hbe.2] at hlj
        obtain ⟨oj, hoj, hdj'⟩ := Option.bind_eq_some_iff.1 hdj
        have hjn : j < n := by have := (List.getElem?_eq_some_iff.1 hoj).1; omega
        rw [ha, fill_at _ 0 listed vals a0 j oj dj hd' hoj hdj' (hbd j oj dj hoj hdj') (by rw [Nat.zero_add]; exact hlj), Nat.zero_add]
        exact hv j hjn hlj
      have hstep' := hstep i o hin ho' a w hctx
      have hnext : ∀ v w', Below w.heap.size w w' → (Ss i v w' ∧ (D i = true → w.heap.size ≤ blk v)) → wpAny P .any l.toArray Q (f + (l.toArray.size - n)) (listed.setIfInBounds i true) (a.put o.dst v) w' := by
        intro v w' hbw ⟨hsv, hfr⟩
        have hmemi : i ∈ rem := (hrem i).2 ⟨hin, hil⟩
        refine ih (rem.erase i) (by rw [List.length_erase_of_mem hmemi, hl]; rfl) (hnd.erase i) _ _ w' (inv.set hi hin) (fun j => ?_) ⟨fun j => if j = i then v else vals j, ?_, fun j hj hlj => ?_, fun j k hj hk hjk hlj hlk hDj hDk => ?_⟩ (hb.trans (hbw.mono hb.size))
        · rw [hnd.mem_erase_iff, hrem j]
          by_cases hji : j = i
          · subst hji
            have hjs : j < listed.size := by rw [inv.size]; simp; omega
            simp [hjs]
          · rw [getD_set_ne true (fun e => hji e.symm)]
            simp [hji]
        · have := fill_set (l.take n) 0 i listed vals a0 o d v hd' hot hod (by rw [Nat.zero_add]; exact hil)
          rw [Nat.zero_add] at this
          rw [this, ← ha, hod]
        · by_cases hji : j = i
          · subst hji; simpa using hsv
          · show Ss j (if j = i then v else vals j) w'
            rw [if_neg hji]
            rw [getD_set_ne false (fun e => hji e.symm)] at hlj
            exact hst j hj _ _ _ (hv j hj hlj) hbw
        · show blk (if j = i then v else vals j) ≠ blk (if k = i then v else vals k)
          by_cases hji : j = i
          · subst hji
            rw [if_pos rfl, if_neg (fun e => hjk e.symm)]
            rw [getD_set_ne false hjk] at hlk
            have h1 := hlt k hk hDk _ _ (hv k hk hlk)
            have h2 := hfr hDj
            omega
          · rw [if_neg hji]
            rw [getD_set_ne false (fun e => hji e.symm)] at hlj
            by_cases hki : k = i
            · subst hki
              rw [if_pos rfl]
              have h1 := hlt j hj hDj _ _ (hv j hj hlj)
              have h2 := hfr hDk
              omega
            · rw [if_neg hki]
              rw [getD_set_ne false (fun e => hki e.symm)] at hlk
              exact hp j k hj hk hjk hlj hlk hDj hDk
      unfold wpOp
      simp only [ho]
      unfold RStep at hstep'
      split
      · rename_i hw
        rw [if_pos hw] at hstep'
        refine .inl (wpQ_mono (Oper.wp_mono (fun a' w' ⟨v, e, hbw, hsv⟩ => ?_) hstep'))
        subst e
        exact hnext v w' hbw hsv
      · rename_i hw
        rw [if_neg hw] at hstep'
        exact hnext undef w (Below.refl _ w) hstep'
  refine wp_region_any hm ?_
  have h0 := key (List.range n) n (by simp) List.nodup_range (Array.replicate l.toArray.size false) a0 { w0 with drawn := w0.drawn + 1 }
    ⟨by simp, fun j oj _ hl => (by rw [getD_replicate_false] at hl; cases hl), fun t _ ht => getD_in (by simpa using ht) (getD_replicate_false _ _)⟩
    (fun i => by
      rw [List.mem_range]
      constructor
      · intro h; exact ⟨h, getD_in (by simp; omega) (getD_replicate_false _ _)⟩
      · intro h; exact h.1)
    ⟨fun _ => undef, (fill_none _ _ _ _ _ (fun i => getD_replicate_false _ _)).symm, fun i _ h => (by rw [getD_replicate_false] at h; cases h), fun i j _ _ _ h => (by rw [getD_replicate_false] at h; cases h)⟩
    ((Below.refl _ w0).drew)
  rw [show n + (l.toArray.size - n) = l.toArray.size from by omega] at h0
  exact h0

/-! ### in use: the words as a list, the obligations one by one -/
def Stable (s : Value → World → Prop) : Prop := ∀ v w w', s v w → Below w.heap.size w w' → s v w'
theorem stable_eq (x : Value) : Stable (fun v _ => v = x) := fun _ _ _ h _ => h
theorem stable_true : Stable (fun _ _ => True) := fun _ _ _ _ _ => trivial
theorem stable_rd (xs : List Value) : Stable (fun v w => Rd w w.heap.size v xs) := fun _ _ _ h hb => (h.below hb).up hb.size
theorem stable_own (base : Nat) (e : TypeId) (s n : Nat) (xs : List Value) : Stable (fun v w => w.ownsRow base e s v n xs) := fun _ _ _ h hb => own_below h hb

def lookS : List (Value → World → Prop) → Nat → Value → World → Prop
  | [], _ => fun _ _ => True
  | s :: _, 0 => s
  | _ :: r, i + 1 => lookS r i
def AllStable : List (Value → World → Prop) → Prop
  | [] => True
  | s :: r => Stable s ∧ AllStable r
theorem lookS_stable : ∀ (L : List (Value → World → Prop)) (i : Nat), AllStable L → Stable (lookS L i)
  | [], _, _ => fun _ _ _ h _ => h
  | _ :: _, 0, h => h.1
  | _ :: r, i + 1, h => lookS_stable r i h.2

def Obl (P : Program) (l hd : List Oper) (L : List (Value → World → Prop)) (D : Nat → Bool) (a0 : Act) (w0 : World) : List Oper → Nat → Prop
  | [], _ => True
  | o :: r, i => (∀ a w, RCtx hd (lookS L) a0 w0 o a w → RStep P l.toArray o a w (fun v w' => lookS L i v w' ∧ (D i = true → w.heap.size ≤ blk v))) ∧ Obl P l hd L D a0 w0 r (i + 1)
theorem Obl.get {P : Program} {l hd : List Oper} {L : List (Value → World → Prop)} {D : Nat → Bool} {a0 : Act} {w0 : World} : ∀ (r : List Oper) (k : Nat), Obl P l hd L D a0 w0 r k → ∀ i o, r[i]? = some o →
    ∀ a w, RCtx hd (lookS L) a0 w0 o a w → RStep P l.toArray o a w (fun v w' => lookS L (k + i) v w' ∧ (D (k + i) = true → w.heap.size ≤ blk v))
  | [], _, _, _, _, h => by simp at h
  | o :: r, k, h, 0, o', h' => by simp at h'; subst h'; exact h.1
  | o :: r, k, h, i + 1, o', h' => by
    have := Obl.get r (k + 1) h.2 i o' (by simpa using h')
    rwa [show k + 1 + i = k + (i + 1) from by omega] at this

theorem wp_region_spec {P : Program} {id : Nat} {Q : Exit → Act → World → Prop} {a0 : Act} {w0 : World} {l : List Oper} (n : Nat) (L : List (Value → World → Prop)) (D : Nat → Bool)
    (hm : P.follows .mixedOrders = true) (hB : specB l.toArray n = true) (hsz : (l.take n).all (fun o => match o.dst with | some d => decide (d < a0.tmps.size) | none => true) = true)
    (hst : AllStable L) (hlt : ∀ i, i < n → D i = true → ∀ v w, lookS L i v w → blk v < w.heap.size)
    (hstep : Obl P l (l.take n) L D a0 w0 (l.take n) 0)
    (hend : ∀ vals w, Below w0.heap.size w0 w → (∀ i, i < n → lookS L i (vals i) w) → (∀ i j, i < n → j < n → i ≠ j → D i = true → D j = true → blk (vals i) ≠ blk (vals j)) →
      wpList P l.toArray Q (l.drop n) (fillAll (l.take n) 0 vals a0) w) :
    (Code.region id l.toArray true).wp P Q a0 w0 :=
  wp_region_specD n (lookS L) D hm hB hsz (fun i _ v w w' h hb => lookS_stable L i hst v w w' h hb) hlt
    (fun i o hi ho a w hc => by
      have := Obl.get (l.take n) 0 hstep i o (by rw [List.getElem?_take_of_lt hi]; exact ho) a w hc
      rwa [Nat.zero_add] at this) hend

/-- an operation that gives a value -/
theorem rs_val {P : Program} {ops : Array Oper} {o : Oper} {a : Act} {w w' : World} {s : Value → World → Prop} {v : Value} (hg : Region.wanted o (yielded ops a.tmps) = true)
    (hr : (execOp a.eval o).run P w = .ok (.value v) w') (hb : Below w.heap.size w w') (hs : s v w') : RStep P ops o a w s := by
  unfold RStep; rw [if_pos hg]
  unfold StepOk Oper.wp
  rw [hr]
  exact ⟨v, rfl, hb, hs⟩
/-- a call -/
theorem rs_call {P : Program} {ops : Array Oper} {o : Oper} {a : Act} {w : World} {s : Value → World → Prop} {f : FuncId} {args : Array Value} (hg : Region.wanted o (yielded ops a.tmps) = true)
    (hr : (execOp a.eval o).run P w = .ok (.enter f args) w) (hc : Calls P f args w fun e w' => ∃ v, e = .returned v ∧ Below w.heap.size w w' ∧ s v w') : RStep P ops o a w s := by
  unfold RStep; rw [if_pos hg]
  unfold StepOk Oper.wp
  rw [hr]
  exact hc.mono fun e w' ⟨v, he, hb, hs⟩ => by subst he; exact ⟨v, rfl, hb, hs⟩
/-- one whose guard shuts it out -/
theorem rs_skip {P : Program} {ops : Array Oper} {o : Oper} {a : Act} {w : World} {s : Value → World → Prop} (hg : Region.wanted o (yielded ops a.tmps) = false) (hs : s undef w) : RStep P ops o a w s := by
  unfold RStep; rw [if_neg (by rw [hg]; decide)]; exact hs

theorem yielded_of {ops : Array Oper} {a : Act} {j : Nat} {d : Tmp} {b : Bool} (h1 : (ops[j]?).bind (·.dst) = some d) (h2 : a.eval (.tmp d) = .bool b) : yielded ops a.tmps j = some b := by
  unfold yielded
  rw [h1]
  simp only [Option.bind_some]
  simp only [Act.eval, Array.getD_eq_getD_getElem?] at h2
  cases h3 : a.tmps[d]? with
  | none => rw [h3] at h2; simp [undef] at h2
  | some x => rw [h3] at h2; simp at h2; subst h2; rfl

theorem wanted_g {ops : Array Oper} {o : Oper} {a : Act} {j : Nat} {b : Bool} (hg : o.guard = some (j, b)) (hy : yielded ops a.tmps j = some b) : Region.wanted o (yielded ops a.tmps) = true := by
  simp [Region.wanted, hg, hy]
theorem not_wanted_g {ops : Array Oper} {o : Oper} {a : Act} {j : Nat} {b c : Bool} (hg : o.guard = some (j, b)) (hy : yielded ops a.tmps j = some c) (hbc : c ≠ b) : Region.wanted o (yielded ops a.tmps) = false := by
  simp [Region.wanted, hg, hy, hbc]

theorem rs_move {P : Program} {ops : Array Oper} {o : Oper} {a : Act} {w : World} {x : Operand} {v : Value} {D : Prop} (hg : Region.wanted o (yielded ops a.tmps) = true) (hop : o.op = Op.move x) (hx : a.eval x = v) (hD : ¬ D) :
    RStep P ops o a w (fun v' _ => v' = v ∧ (D → w.heap.size ≤ blk v')) := by
  refine rs_val hg (v := v) (w' := w) ?_ (Below.refl _ w) ⟨rfl, fun h => (hD h).elim⟩
  simp only [execOp, hop, hx]
  rfl
theorem rs_pick {P : Program} {ops : Array Oper} {o : Oper} {a : Act} {w : World} {x y z : Operand} {b : Bool} {v : Value} {D : Prop} (hg : Region.wanted o (yielded ops a.tmps) = true) (hop : o.op = Op.pick x y z) (hx : a.eval x = .bool b)
    (hv : (if b then a.eval y else a.eval z) = v) (hD : ¬ D) : RStep P ops o a w (fun v' _ => v' = v ∧ (D → w.heap.size ≤ blk v')) := by
  refine rs_val hg (v := v) (w' := w) ?_ (Below.refl _ w) ⟨rfl, fun h => (hD h).elim⟩
  simp only [execOp, hop, hx]
  subst hv
  cases b <;> rfl

theorem rs_assign {P : Program} {ops : Array Oper} {o : Oper} {a : Act} {w : World} {x : Operand} {v : Value} {D : Prop} (hg : Region.wanted o (yielded ops a.tmps) = true) (hop : o.op = Op.assign x) (hx : a.eval x = v) (hD : ¬ D) :
    RStep P ops o a w (fun v' _ => v' = v ∧ (D → w.heap.size ≤ blk v')) := by
  refine rs_val hg (v := v) (w' := w) ?_ (Below.refl _ w) ⟨rfl, fun h => (hD h).elim⟩
  simp only [execOp, hop, hx]
  rfl

end Go.Proofs.YtllmgmfihijejaaGreatDoor
/-
  Words on sets for regions that draw their order.
-/
namespace Go.Proofs.YtllmgmfihijejaaGreatDoor
open Go.RowKit Go.Shelf
attribute [local go_sem] Oper.semAt_some

theorem stable_rds (L : List (Nat → Nat)) : Stable (fun v w => RdS w w.heap.size v L) := fun _ _ _ h hb => (h.below hb).up hb.size
def IsBox (n0 : Nat) (s : Nat → Nat) (v : Value) (w : World) : Prop := ∃ g, v = .pointer (some ⟨g, 0, none⟩) ∧ n0 ≤ g ∧ SBox w g 37 s
theorem stable_box (n0 : Nat) (s : Nat → Nat) : Stable (IsBox n0 s) := fun _ _ _ ⟨g, e, h1, h2⟩ hb => ⟨g, e, h1, h2.below hb h2.lt⟩
theorem IsBox.lt {n0 : Nat} {s : Nat → Nat} {v : Value} {w : World} (h : IsBox n0 s v w) : blk v < w.heap.size := by
  obtain ⟨g, rfl, _, h2⟩ := h; exact h2.lt

theorem rs_loadset {ops : Array Oper} {o : Oper} {a : Act} {w : World} {x : Operand} {B : Nat} {s : Nat → Nat} {D : Prop} (hg : Region.wanted o (yielded ops a.tmps) = true) (hop : o.op = Op.load 37 x)
    (hx : a.eval x = .pointer (some ⟨B, 0, none⟩)) (hB : SBox w B 37 s) (hD : ¬ D) : RStep Tryz.prog ops o a w (fun v _ => v = setV s ∧ (D → w.heap.size ≤ blk v)) := by
  have k0 := hB.cell (k := 0) (by omega); have k1 := hB.cell (k := 1) (by omega); have k2 := hB.cell (k := 2) (by omega); have k3 := hB.cell (k := 3) (by omega)
  refine rs_val hg (v := setV s) (w' := w) ?_ (Below.refl _ w) ⟨rfl, fun h => (hD h).elim⟩
  unfold setV
  simp only [execOp, hop, hx]
  simp [go_sem, k0, k1, k2, k3]

theorem rs_callset {ops : Array Oper} {o : Oper} {a : Act} {w : World} {f : FuncId} {x : Operand} {ts : Array TypeId} {v : Value} {D : Prop} (hg : Region.wanted o (yielded ops a.tmps) = true)
    (hop : o.op = Op.call { callee := Callee.value (Operand.func f), args := #[x], argTypes := ts }) (hf : ∀ args w, (callFunc f args).run Tryz.prog w = .ok (.enter f args) w) (u : Value) (hx : a.eval x = u)
    (hc : Calls Tryz.prog f #[u] w fun e w' => e = .returned v ∧ Below w.heap.size w w') (hD : ¬ D) : RStep Tryz.prog ops o a w (fun v' _ => v' = v ∧ (D → w.heap.size ≤ blk v')) := by
  refine rs_call hg (f := f) (args := #[u]) ?_ (hc.mono fun e w' ⟨he, hb⟩ => ⟨v, he, hb, rfl, fun h => (hD h).elim⟩)
  simp only [execOp, hop]
  simp [resolve, hx]
  rw [show a.eval (Operand.func f) = .func (.func f) #[] #[] from rfl]
  simp [Deferred.ofValue, invoke, hf]

theorem rs_alloc {ops : Array Oper} {o : Oper} {a : Act} {w : World} {n0 : Nat} {D : Prop} (hg : Region.wanted o (yielded ops a.tmps) = true) (hop : o.op = Op.alloc 37) (hn : n0 ≤ w.heap.size) :
    RStep Tryz.prog ops o a w (fun v w' => IsBox n0 emptyS v w' ∧ (D → w.heap.size ≤ blk v)) := by
  refine rs_val hg (v := .pointer (some ⟨w.heap.size, 0, none⟩)) (w' := w.alloc (.cells (setC emptyS) 37)) ?_ ((Below.refl _ w).alloc (Nat.le_refl _) _) ⟨⟨w.heap.size, rfl, hn, SBox.new w _ _⟩, fun _ => Nat.le_refl _⟩
  simp [execOp, hop, go_sem]
  rfl

theorem rs_build3 {ops : Array Oper} {o : Oper} {a : Act} {w : World} {x y z : Operand} {s t u : Nat → Nat} {D : Prop} (hg : Region.wanted o (yielded ops a.tmps) = true)
    (hop : o.op = Op.buildSlice 83 3 #[(0, x), (1, y), (2, z)]) (hx : a.eval x = setV s) (hy : a.eval y = setV t) (hz : a.eval z = setV u) (hD : ¬ D) :
    RStep Tryz.prog ops o a w (fun v w' => RdS w' w'.heap.size v [s, t, u] ∧ (D → w.heap.size ≤ blk v)) := by
  refine rs_val hg (v := .slice (some ⟨w.heap.size, 0, none⟩) 3 3) (w' := w.alloc (.cells (rowC [s, t, u]).toArray 37)) ?_ ((Below.refl _ w).alloc (Nat.le_refl _) _)
    ⟨(RdS.lit w [s, t, u] 37 (by simp [maxLen])).up (by rw [World.size_alloc]; exact Nat.le_refl _), fun h => (hD h).elim⟩
  simp only [execOp, hop]
  simp only [List.map_toArray, List.map_cons, List.map_nil, hx, hy, hz]
  unfold setV
  simp [go_sem]
  rfl
theorem rs_build2 {ops : Array Oper} {o : Oper} {a : Act} {w : World} {x y : Operand} {s t : Nat → Nat} {D : Prop} (hg : Region.wanted o (yielded ops a.tmps) = true)
    (hop : o.op = Op.buildSlice 83 2 #[(0, x), (1, y)]) (hx : a.eval x = setV s) (hy : a.eval y = setV t) (hD : ¬ D) :
    RStep Tryz.prog ops o a w (fun v w' => RdS w' w'.heap.size v [s, t] ∧ (D → w.heap.size ≤ blk v)) := by
  refine rs_val hg (v := .slice (some ⟨w.heap.size, 0, none⟩) 2 2) (w' := w.alloc (.cells (rowC [s, t]).toArray 37)) ?_ ((Below.refl _ w).alloc (Nat.le_refl _) _)
    ⟨(RdS.lit w [s, t] 37 (by simp [maxLen])).up (by rw [World.size_alloc]; exact Nat.le_refl _), fun h => (hD h).elim⟩
  simp only [execOp, hop]
  simp only [List.map_toArray, List.map_cons, List.map_nil, hx, hy]
  unfold setV
  simp [go_sem]
  rfl

theorem eqS_refl (s : Nat → Nat) : eqS s s = true := by simp [eqS]
theorem rs_neqset {ops : Array Oper} {o : Oper} {a : Act} {w : World} {x y : Operand} {t : TypeId} {s u : Nat → Nat} {D : Prop} (hg : Region.wanted o (yielded ops a.tmps) = true) (hop : o.op = Op.binOp .neq 37 x y t)
    (hx : a.eval x = setV s) (hy : a.eval y = setV u) (h : setV s = setV u) (hD : ¬ D) : RStep Tryz.prog ops o a w (fun v' _ => v' = .bool false ∧ (D → w.heap.size ≤ blk v')) := by
  rw [← h] at hy
  refine rs_val hg (v := .bool false) (w' := w) ?_ (Below.refl _ w) ⟨rfl, fun h => (hD h).elim⟩
  have he := run_eqSet s s w
  rw [eqS_refl] at he
  simp only [execOp, hop, hx, hy]
  unfold setV
  simp [go_sem, he]
theorem rs_eqlset {ops : Array Oper} {o : Oper} {a : Act} {w : World} {x y : Operand} {t : TypeId} {s u : Nat → Nat} {D : Prop} (hg : Region.wanted o (yielded ops a.tmps) = true) (hop : o.op = Op.binOp .eql 37 x y t)
    (hx : a.eval x = setV s) (hy : a.eval y = setV u) (h : setV s = setV u) (hD : ¬ D) : RStep Tryz.prog ops o a w (fun v' _ => v' = .bool true ∧ (D → w.heap.size ≤ blk v')) := by
  rw [← h] at hy
  refine rs_val hg (v := .bool true) (w' := w) ?_ (Below.refl _ w) ⟨rfl, fun h => (hD h).elim⟩
  have he := run_eqSet s s w
  rw [eqS_refl] at he
  simp only [execOp, hop, hx, hy]
  unfold setV
  simp [go_sem, he]
theorem rs_addint {ops : Array Oper} {o : Oper} {a : Act} {w : World} {x y : Operand} {m n k : Nat} {D : Prop} (hg : Region.wanted o (yielded ops a.tmps) = true) (hop : o.op = Op.binOp .add 3 x y 3)
    (hx : a.eval x = .int .i64 m) (hy : a.eval y = .int .i64 n) (h : m + n = k) (hk : k < 9223372036854775807) (hD : ¬ D) : RStep Tryz.prog ops o a w (fun v' _ => v' = .int .i64 k ∧ (D → w.heap.size ≤ blk v')) := by
  refine rs_val hg (v := .int .i64 k) (w' := w) ?_ (Below.refl _ w) ⟨rfl, fun h => (hD h).elim⟩
  simp only [execOp, hop, hx, hy]
  have e : IntKind.i64.wrap ((m : Int) + (n : Int)) = (k : Int) := by rw [show (m : Int) + (n : Int) = (k : Int) from by omega]; rw [IntKind.wrap_i64]; omega
  simp [go_sem, e]
theorem rs_eqlint {ops : Array Oper} {o : Oper} {a : Act} {w : World} {x y : Operand} {m : Int} {D : Prop} (hg : Region.wanted o (yielded ops a.tmps) = true) (hop : o.op = Op.binOp .eql 3 x y 3)
    (hx : a.eval x = .int .i64 m) (hy : a.eval y = .int .i64 m) (hD : ¬ D) : RStep Tryz.prog ops o a w (fun v' _ => v' = .bool true ∧ (D → w.heap.size ≤ blk v')) := by
  refine rs_val hg (v := .bool true) (w' := w) ?_ (Below.refl _ w) ⟨rfl, fun h => (hD h).elim⟩
  simp only [execOp, hop, hx, hy]
  simp [go_sem]

end Go.Proofs.YtllmgmfihijejaaGreatDoor
/-
  Regions, further: a region that draws no order, by a word on each operation's value; what single operations give.
-/
namespace Go.Proofs.YtllmgmfihijejaaGreatDoor
open Go.RowKit

/-! ### the same of a region that draws no order -/
theorem headListed_get (n g i : Nat) (d : Bool) (h : i < n + g) : (headListed n g).getD i d = decide (i < n) := by
  have hs : i < (headListed n g).size := by simp [headListed]; omega
  rw [Array.getD_eq_getD_getElem?, Array.getElem?_eq_getElem hs]
  simp only [headListed, Option.getD_some, List.getElem_toArray]
  by_cases hi : i < n
  · rw [List.getElem_append_left (by simpa using hi)]; simp [hi]
  · rw [List.getElem_append_right (by simpa using hi)]; simp [hi]
theorem headListed_out (n g i : Nat) (d : Bool) (h : n + g ≤ i) : (headListed n g).getD i d = d := by
  rw [Array.getD_eq_getD_getElem?, Array.getElem?_eq_none (by simp [headListed]; omega)]; rfl

def seqB (l : List Oper) (n : Nat) : Bool := decide (n ≤ l.length) && dstsB (l.take n) && ((l.take n).zipIdx.all fun (o, i) => o.after.all fun e => !Region.binds .any e || decide (e.on < i))

theorem wp_region_seqD {P : Program} {id : Nat} {Q : Exit → Act → World → Prop} {a0 : Act} {w0 : World} {l : List Oper} (n : Nat) (Ss : Nat → Value → World → Prop) (D : Nat → Bool)
    (hB : seqB l n = true) (hsz : (l.take n).all (fun o => match o.dst with | some d => decide (d < a0.tmps.size) | none => true) = true)
    (hst : ∀ i, i < n → ∀ v w w', Ss i v w → Below w.heap.size w w' → Ss i v w')
    (hlt : ∀ i, i < n → D i = true → ∀ v w, Ss i v w → blk v < w.heap.size)
    (hstep : ∀ i o, i < n → l[i]? = some o → ∀ a w, RCtx (l.take n) Ss a0 w0 o a w → RStep P l.toArray o a w (fun v w' => Ss i v w' ∧ (D i = true → w.heap.size ≤ blk v)))
    (hend : ∀ vals w, Below w0.heap.size w0 w → (∀ i, i < n → Ss i (vals i) w) → (∀ i j, i < n → j < n → i ≠ j → D i = true → D j = true → blk (vals i) ≠ blk (vals j)) → wpList P l.toArray Q (l.drop n) (fillAll (l.take n) 0 vals a0) w) :
    (Code.region id l.toArray false).wp P Q a0 w0 := by
  simp only [seqB, Bool.and_eq_true, decide_eq_true_eq] at hB
  obtain ⟨⟨hn, hd'⟩, haf⟩ := hB
  have htl : (l.take n).length = n := by simp; omega
  have hdst : ∀ (i : Nat) (o : Oper), (l.take n)[i]? = some o → ∃ d, o.dst = some d := by
    intro i o h
    have : ∀ (r : List Oper) (j : Nat), dstsB r = true → r[j]? = some o → ∃ d, o.dst = some d := by
      intro r
      induction r with
      | nil => intro j _ h; simp at h
      | cons x r ihr =>
        intro j hdd h
        simp only [dstsB, Bool.and_eq_true] at hdd
        cases j with
        | zero => simp at h; subst h; exact Option.isSome_iff_exists.1 hdd.1.1
        | succ j => exact ihr j hdd.2 (by simpa using h)
    exact this _ i hd' h
  have hbd : ∀ (j : Nat) (oj : Oper) (dj : Tmp), (l.take n)[j]? = some oj → oj.dst = some dj → dj < a0.tmps.size := by
    intro j oj dj hj hdj
    have := List.all_eq_true.1 hsz oj (List.mem_of_getElem? hj)
    simpa [hdj] using this
  have key : ∀ (f i : Nat), i + f = n → ∀ (vals : Nat → Value) (a : Act) (w : World), a = fill (l.take n) 0 (headListed i (n - i)) vals a0 → (∀ j, j < i → Ss j (vals j) w) →
      (∀ j k, j < i → k < i → j ≠ k → D j = true → D k = true → blk (vals j) ≠ blk (vals k)) → Below w0.heap.size w0 w → wpList P l.toArray Q (l.drop i) a w := by
    intro f
    induction f with
    | zero =>
      intro i hi vals a w ha hv hp hb
      have hi' : i = n := by omega
      subst hi'
      rw [ha, fill_all (l.take i) 0 _ vals a0 (fun j hj => by rw [Nat.zero_add, headListed_get _ _ _ _ (by omega)]; simp; omega)]
      exact hend vals w hb hv hp
    | succ f ih =>
      intro i hi vals a w ha hv hp hb
      have hin : i < n := by omega
      have hil : i < l.length := by omega
      have hot : (l.take n)[i]? = some l[i] := by rw [List.getElem?_take_of_lt hin]; simp [hil]
      obtain ⟨d, hod⟩ := hdst i _ hot
      rw [List.drop_eq_getElem_cons hil]
      have hctx : RCtx (l.take n) Ss a0 w0 l[i] a w := by
        refine ⟨hb, fun t ht => by rw [ha]; exact fill_frame _ _ _ _ _ t ht, fun j dj hj hdj => ?_, by rw [ha, fill_size]⟩
        obtain ⟨e, he, hbe⟩ := List.any_eq_true.1 hj
        simp only [Bool.and_eq_true, beq_iff_eq] at hbe
        have h1 := List.all_eq_true.1 haf (l[i], i) (by rw [List.mem_zipIdx_iff_getElem?]; simp [hin, hil])
        have h2 := Array.all_eq_true'.1 h1 e (Array.mem_toList_iff.1 he)
        simp only [hbe.1, Bool.not_true, Bool.false_or, decide_eq_true_eq, hbe.2] at h2
        obtain ⟨oj, hoj, hdj'⟩ := Option.bind_eq_some_iff.1 hdj
        rw [ha, fill_at _ 0 _ vals a0 j oj dj hd' hoj hdj' (hbd j oj dj hoj hdj') (by rw [Nat.zero_add, headListed_get _ _ _ _ (by omega)]; simpa using h2), Nat.zero_add]
        exact hv j h2
      have hstep' := hstep i l[i] hin (by simp [hil]) a w hctx
      have hnext : ∀ v w', Below w.heap.size w w' → (Ss i v w' ∧ (D i = true → w.heap.size ≤ blk v)) → wpList P l.toArray Q (l.drop (i + 1)) (a.put l[i].dst v) w' := by
        intro v w' hbw ⟨hsv, hfr⟩
        refine ih (i + 1) (by omega) (fun j => if j = i then v else vals j) _ w' ?_ (fun j hj => ?_) (fun j k hj hk hjk hDj hDk => ?_) (hb.trans (hbw.mono hb.size))
        · have h1 := fill_set (l.take n) 0 i (headListed i (n - i)) vals a0 l[i] d v hd' hot hod (by rw [Nat.zero_add, headListed_get _ _ _ _ (by omega)]; simp)
          rw [Nat.zero_add] at h1
          rw [ha, hod, ← h1]
          refine fill_congr _ _ _ _ _ _ _ (fun j hj => ⟨?_, rfl⟩)
          rw [Nat.zero_add, headListed_get _ _ _ _ (by omega)]
          by_cases hji : j = i
          · subst hji
            have : j < (headListed j (n - j)).size := by simp [headListed]; omega
            simp [Array.getD_eq_getD_getElem?, this]
          · rw [getD_set_ne false (fun e => hji e.symm), headListed_get _ _ _ _ (by omega)]
            simp; omega
        · by_cases hji : j = i
          · subst hji; simpa using hsv
          · show Ss j (if j = i then v else vals j) w'
            rw [if_neg hji]
            exact hst j (by omega) _ _ _ (hv j (by omega)) hbw
        · show blk (if j = i then v else vals j) ≠ blk (if k = i then v else vals k)
          by_cases hji : j = i
          · have hki : k ≠ i := fun e => hjk (hji.trans e.symm)
            rw [if_pos hji, if_neg hki]
            have h1 := hfr (hji ▸ hDj)
            have h2 := hlt k (by omega) hDk _ _ (hv k (by omega))
            omega
          · rw [if_neg hji]
            by_cases hki : k = i
            · rw [if_pos hki]
              have h1 := hfr (hki ▸ hDk)
              have h2 := hlt j (by omega) hDj _ _ (hv j (by omega))
              omega
            · rw [if_neg hki]
              exact hp j k (by omega) (by omega) hjk hDj hDk
      unfold RStep at hstep'
      show wpList P l.toArray Q (l[i] :: l.drop (i + 1)) a w
      unfold wpList
      split
      · rename_i hw
        rw [if_pos hw] at hstep'
        refine .inl (wpQ_mono (Oper.wp_mono (fun a' w' ⟨v, e, hbw, hsv⟩ => ?_) hstep'))
        subst e
        exact hnext v w' hbw hsv
      · rename_i hw
        rw [if_neg hw] at hstep'
        exact hnext undef w (Below.refl _ w) hstep'
  refine wp_region_lit ?_
  have := key n 0 (by omega) (fun _ => undef) a0 w0 (fill_none _ _ _ _ _ (fun j => by
    rcases Nat.lt_or_ge j n with h | h
    · rw [headListed_get _ _ _ _ (by omega)]; simp
    · rw [headListed_out _ _ _ _ (by omega)])).symm (fun j h => by omega) (fun j k h => by omega) (Below.refl _ _)
  simpa using this

theorem wp_region_seq {P : Program} {id : Nat} {Q : Exit → Act → World → Prop} {a0 : Act} {w0 : World} {l : List Oper} (n : Nat) (L : List (Value → World → Prop)) (D : Nat → Bool)
    (hB : seqB l n = true) (hsz : (l.take n).all (fun o => match o.dst with | some d => decide (d < a0.tmps.size) | none => true) = true)
    (hst : AllStable L) (hlt : ∀ i, i < n → D i = true → ∀ v w, lookS L i v w → blk v < w.heap.size)
    (hstep : Obl P l (l.take n) L D a0 w0 (l.take n) 0)
    (hend : ∀ vals w, Below w0.heap.size w0 w → (∀ i, i < n → lookS L i (vals i) w) → (∀ i j, i < n → j < n → i ≠ j → D i = true → D j = true → blk (vals i) ≠ blk (vals j)) →
      wpList P l.toArray Q (l.drop n) (fillAll (l.take n) 0 vals a0) w) :
    (Code.region id l.toArray false).wp P Q a0 w0 :=
  wp_region_seqD n (lookS L) D hB hsz (fun i _ v w w' h hb => lookS_stable L i hst v w w' h hb) hlt
    (fun i o hi ho a w hc => by
      have := Obl.get (l.take n) 0 hstep i o (by rw [List.getElem?_take_of_lt hi]; exact ho) a w hc
      rwa [Nat.zero_add] at this) hend

/-! ### single operations -/
section
variable {P : Program} {ops : Array Oper} {o : Oper} {a : Act} {w : World} {D : Prop}
theorem rs_pure {v : Value} (hg : Region.wanted o (yielded ops a.tmps) = true) (hr : (execOp a.eval o).run P w = .ok (.value v) w) (hD : ¬ D) :
    RStep P ops o a w (fun v' _ => v' = v ∧ (D → w.heap.size ≤ blk v')) :=
  rs_val hg hr (Below.refl _ w) ⟨rfl, fun h => (hD h).elim⟩
theorem rs_bin {op : BinOp} {T T2 : TypeId} {x y : Operand} {vx vy v : Value} (hg : Region.wanted o (yielded ops a.tmps) = true) (hop : o.op = Op.binOp op T x y T2) (hx : a.eval x = vx) (hy : a.eval y = vy)
    (hr : ∀ W, (execOp a.eval o).run P W = (do eqGuard op T x y vx vy; let u ← binOp op T vx vy; pure (Next.value u) : Sem Next).run P W → (do eqGuard op T x y vx vy; let u ← binOp op T vx vy; pure (Next.value u) : Sem Next).run P W = .ok (.value v) W) (hD : ¬ D) :
    RStep P ops o a w (fun v' _ => v' = v ∧ (D → w.heap.size ≤ blk v')) := by
  have e : (execOp a.eval o).run P w = (do eqGuard op T x y vx vy; let u ← binOp op T vx vy; pure (Next.value u) : Sem Next).run P w := by
    simp only [execOp, hop, hx, hy, bind_assoc]
  exact rs_pure hg (e.trans (hr w e)) hD
theorem args0 : (#[] : Array Operand).map a.eval = #[] := by simp
theorem args1 {x : Operand} {u : Value} (h : a.eval x = u) : (#[x] : Array Operand).map a.eval = #[u] := by simp [h]
theorem args2 {x y : Operand} {u v : Value} (h : a.eval x = u ∧ a.eval y = v) : (#[x, y] : Array Operand).map a.eval = #[u, v] := by simp [h.1, h.2]
theorem args3 {x y z : Operand} {u v t : Value} (h : a.eval x = u ∧ a.eval y = v ∧ a.eval z = t) : (#[x, y, z] : Array Operand).map a.eval = #[u, v, t] := by simp [h.1, h.2.1, h.2.2]
theorem args4 {x y z q : Operand} {u v t s : Value} (h : a.eval x = u ∧ a.eval y = v ∧ a.eval z = t ∧ a.eval q = s) : (#[x, y, z, q] : Array Operand).map a.eval = #[u, v, t, s] := by simp [h.1, h.2.1, h.2.2.1, h.2.2.2]
theorem rs_calln' {s : Value → World → Prop} {f : FuncId} {xs : Array Operand} {ts : Array TypeId} {vs : Array Value} (hg : Region.wanted o (yielded ops a.tmps) = true)
    (hop : o.op = Op.call { callee := Callee.value (Operand.func f), args := xs, argTypes := ts }) (hf : ∀ args w, (callFunc f args).run P w = .ok (.enter f args) w) (hx : xs.map a.eval = vs)
    (hc : Calls P f vs w fun e w' => ∃ v, e = .returned v ∧ Below w.heap.size w w' ∧ s v w') : RStep P ops o a w s := by
  refine rs_call hg (f := f) (args := vs) ?_ hc
  simp only [execOp, hop]
  simp [resolve, hx]
  rw [show a.eval (Operand.func f) = .func (.func f) #[] #[] from rfl]
  simp [Deferred.ofValue, invoke, hf]
theorem rs_calln {f : FuncId} {xs : Array Operand} {ts : Array TypeId} {vs : Array Value} {v : Value} (hg : Region.wanted o (yielded ops a.tmps) = true)
    (hop : o.op = Op.call { callee := Callee.value (Operand.func f), args := xs, argTypes := ts }) (hf : ∀ args w, (callFunc f args).run P w = .ok (.enter f args) w) (hx : xs.map a.eval = vs)
    (hc : Calls P f vs w fun e w' => e = .returned v ∧ Below w.heap.size w w') (hD : ¬ D) : RStep P ops o a w (fun v' _ => v' = v ∧ (D → w.heap.size ≤ blk v')) :=
  rs_calln' hg hop hf hx (hc.mono fun _ _ ⟨he, hb⟩ => ⟨v, he, hb, rfl, fun h => (hD h).elim⟩)
theorem rs_len {x : Operand} {t e : TypeId} (hu : P.underlying t = some (.slice e)) {p : Option Addr} {n c : Nat} (hg : Region.wanted o (yielded ops a.tmps) = true) (hop : o.op = Op.call { callee := Callee.builtin Builtin.len, args := #[x], argTypes := #[t] })
    (hx : a.eval x = .slice p n c) (hD : ¬ D) : RStep P ops o a w (fun v' _ => v' = .int .i64 n ∧ (D → w.heap.size ≤ blk v')) := by
  refine rs_pure hg ?_ hD
  simp only [execOp, hop, resolve, invoke, builtin, List.map_toArray, List.map_cons, List.map_nil, hx]
  simp [go_sem, Builtin.len_, run_underlying hu]
theorem rs_idx {x y : Operand} {T e : TypeId} {sz g off n c i q : Nat} {k : IntKind} (hu : P.underlying T = some (.slice e)) (hs : ∀ w, (sizeOf e).run P w = .ok sz w) (hg : Region.wanted o (yielded ops a.tmps) = true)
    (hop : o.op = Op.indexAddr T x y) (hx : a.eval x = .slice (some ⟨g, off, none⟩) n c) (hy : a.eval y = .int k (i : Int)) (hi : i < n) (hq : off + i * sz = q) (hD : ¬ D) :
    RStep P ops o a w (fun v' _ => v' = .pointer (some ⟨g, q, none⟩) ∧ (D → w.heap.size ≤ blk v')) := by
  subst hq
  refine rs_pure hg ?_ hD
  simp only [execOp, hop, hx, hy]
  simp [Instr.indexAt, asIntOf, go_sem, run_underlying hu, hs]
  intro hc
  omega
end
/-- a slice of one cell that was just laid -/
def OneV (T : TypeId) (x : Value) (v : Value) (w : World) : Prop := ∃ g, v = .slice (some ⟨g, 0, none⟩) 1 1 ∧ Boxed w g T x
theorem stable_oneV (T : TypeId) (x : Value) : Stable (OneV T x) := fun _ _ _ ⟨g, e, h⟩ hb => ⟨g, e, box_below h hb⟩
theorem OneV.news {w : World} {g : Nat} {T : TypeId} {x : Value} (h : Boxed w g T x) : ∀ (j : Nat) u, [x][j]? = some u → w.cell? ((⟨g, 0, none⟩ : Addr).add j) = some u := by
  intro j u hj
  match j, hj with
  | 0, hj => simp at hj; subst hj; exact h.cell
  | k + 1, hj => simp at hj
section
variable {P : Program} {ops : Array Oper} {o : Oper} {a : Act} {w : World} {D : Prop}
theorem rs_build1v {x : Operand} {TS T : TypeId} {u : Value} (hg : Region.wanted o (yielded ops a.tmps) = true) (hop : o.op = Op.buildSlice TS 1 #[(0, x)]) (hx : a.eval x = u)
    (hr : ∀ W, (Instr.buildSlice TS 1 #[(0, u)]).run P W = .ok (.slice (some ⟨W.heap.size, 0, none⟩) 1 1) (W.alloc (.cells #[u] T))) (hD : ¬ D) :
    RStep P ops o a w (fun v w' => OneV T u v w' ∧ (D → w.heap.size ≤ blk v)) := by
  refine rs_val hg (v := .slice (some ⟨w.heap.size, 0, none⟩) 1 1) (w' := w.alloc (.cells #[u] T)) ?_ ((Below.refl _ w).alloc (Nat.le_refl _) _)
    ⟨⟨w.heap.size, rfl, Boxed.new w T u⟩, fun h => (hD h).elim⟩
  simp only [execOp, hop]
  simp only [List.map_toArray, List.map_cons, List.map_nil, hx]
  simp [hr]
theorem yielded_undef {j : Nat} {d : Tmp} (h1 : (ops[j]?).bind (·.dst) = some d) (h2 : a.eval (.tmp d) = undef) : yielded ops a.tmps j = none := by
  unfold yielded
  rw [h1]
  simp only [Option.bind_some]
  simp only [Act.eval, Array.getD_eq_getD_getElem?] at h2
  cases h3 : a.tmps[d]? with
  | none => rfl
  | some x => rw [h3] at h2; simp at h2; subst h2; rfl
theorem not_wanted_u {j : Nat} {b : Bool} (hg : o.guard = some (j, b)) (hy : yielded ops a.tmps j = none) : Region.wanted o (yielded ops a.tmps) = false := by
  simp [Region.wanted, hg, hy]
end

end Go.Proofs.YtllmgmfihijejaaGreatDoor
/-
  Contracts of functions that make memory of their own alone; and the laws on what lies below, with no side goal.
-/
namespace Go.Proofs.YtllmgmfihijejaaGreatDoor
open Go.RowKit

/-- f returns v at args, in any world, and makes memory of its own alone -/
def Pure (f : Nat) (args : Array Value) (v : Value) : Prop := ∀ w : World, Calls Tryz.prog f args w fun e w' => e = .returned v ∧ Below w.heap.size w w'

theorem be_al {w W : World} {o : Obj} (h : Below w.heap.size w W) : Below w.heap.size w (W.alloc o) := h.alloc h.size _
theorem be_dr {w W : World} (h : Below w.heap.size w W) : Below w.heap.size w W.drew := h.drew
theorem be_ca {w W W' : World} (h : Below w.heap.size w W) (h' : Below W.heap.size W W') : Below w.heap.size w W' := h.trans (h'.mono h.size)
theorem be_se {w W : World} {b k : Nat} {v : Value} (h : Below w.heap.size w W) (hb : w.heap.size ≤ b) : Below w.heap.size w (W.setCell ⟨b, k, none⟩ v) := h.setCell (p := ⟨b, k, none⟩) hb _
theorem grownBy_setRow (W : World) (b : Nat) (cs : Array Value) : W.grownBy (W.setRow b cs) (some b) := by
  refine ⟨rfl, rfl, rfl, ?_, ?_⟩
  · simp [World.setRow]
  · intro k hk hne
    simp [World.setRow, Array.getElem?_modify, show b ≠ k from fun e => hne (by rw [e])]
theorem be_sr {w W : World} {b : Nat} {cs : Array Value} (h : Below w.heap.size w W) (hb : w.heap.size ≤ b) : Below w.heap.size w (W.setRow b cs) :=
  h.grown (grownBy_setRow W b cs) h.size (fun k e => by cases e; exact hb)

theorem bcell {W w1 : World} (hb : Below W.heap.size W w1) : (∀ b o, b < W.heap.size → w1.cell? ⟨b, o, none⟩ = W.cell? ⟨b, o, none⟩) ∧ (∀ b o, b < W.heap.size → w1.frozen? ⟨b, o, none⟩ = W.frozen? ⟨b, o, none⟩) :=
  ⟨fun b o h => hb.cell (p := ⟨b, o, none⟩) h, fun b o h => hb.frozen (p := ⟨b, o, none⟩) h⟩
end Go.Proofs.YtllmgmfihijejaaGreatDoor
/-
  What a call owns, as ONE list: blocks of cells, rows that are appended to, maps. A walk's worlds stay variables; each operation on memory turns one member of the list.
-/
namespace Go.Proofs.YtllmgmfihijejaaGreatDoor
open Go.RowKit
set_option linter.unusedSimpArgs false

inductive Res where
  | blk (b : Nat) (cs : Array Value) (T : TypeId)
  | row (v : Value) (e : TypeId) (sz n : Nat) (xs : List Value)
  | mp (b : Nat) (es : Array MapEntry) (clock : Nat)

def Res.place : Res → Option Nat
  | .blk b _ _ => some b
  | .row v _ _ _ _ => v.ownBlock
  | .mp b _ _ => some b
def Res.Holds (M : Nat → Prop) (base : Nat) (W : World) : Res → Prop
  | .blk b cs T => (base ≤ b ∨ M b) ∧ W.heap[b]? = some (.cells cs T (0, 0))
  | .row v e sz n xs => W.ownsRow base e sz v n xs
  | .mp b es c => base ≤ b ∧ W.heap[b]? = some (.map es c)

theorem Res.Holds.lt {M : Nat → Prop} {base : Nat} {W : World} {r : Res} (h : r.Holds M base W) : ∀ b, r.place = some b → (base ≤ b ∨ M b) ∧ b < W.heap.size := by
  intro b hb
  cases r with
  | blk b' cs T => cases hb; exact ⟨h.1, (Array.getElem?_eq_some_iff.1 h.2).1⟩
  | row v e sz n xs => exact ⟨.inl (World.ownsRow.lt h b hb).1, (World.ownsRow.lt h b hb).2⟩
  | mp b' es c => cases hb; exact ⟨.inl h.1, (Array.getElem?_eq_some_iff.1 h.2).1⟩
theorem Res.Holds.kept {M : Nat → Prop} {base : Nat} {W W' : World} {r : Res} (h : r.Holds M base W) (hk : ∀ b, r.place = some b → W'.heap[b]? = W.heap[b]?) : r.Holds M base W' := by
  cases r with
  | blk b' cs T => exact ⟨h.1, (hk b' rfl).trans h.2⟩
  | row v e sz n xs =>
    obtain ⟨hl, h' | ⟨g, cap, cur, rfl, hb, hg, r⟩⟩ := h
    · exact ⟨hl, .inl h'⟩
    · exact ⟨hl, .inr ⟨g, cap, cur, rfl, hb, (hk g rfl).trans hg, r⟩⟩
  | mp b' es c => exact ⟨h.1, (hk b' rfl).trans h.2⟩

def Apart (r s : Res) : Prop := ∀ b, r.place = some b → s.place ≠ some b

structure HoldG (M : Nat → Prop) (w0 W : World) (l : List Res) : Prop where
  keep : KeepBut M w0.heap.size w0 W
  all : ∀ (i : Nat) (r : Res), l[i]? = some r → r.Holds M w0.heap.size W
  apart : ∀ (i j : Nat) (r s : Res), i ≠ j → l[i]? = some r → l[j]? = some s → Apart r s

/-- nothing of the caller's is turned -/
abbrev Hold (w0 W : World) (l : List Res) : Prop := HoldG (fun _ => False) w0 W l
theorem Hold.start (w0 : World) : Hold w0 w0 [] := ⟨KeepBut.refl _ _ _, fun i r h => by simp at h, fun i j r s _ h => by simp at h⟩
theorem HoldG.below {w0 W : World} {l : List Res} (H : Hold w0 W l) : Below w0.heap.size w0 W := H.keep.below (Nat.le_refl _) (fun _ _ h => h)
/-- a block of the caller's may be turned -/
theorem HoldG.startB {w0 : World} {b : Nat} {cs : Array Value} {T : TypeId} (h : w0.heap[b]? = some (.cells cs T (0, 0))) : HoldG (· = b) w0 w0 [.blk b cs T] :=
  ⟨KeepBut.refl _ _ _, fun i r hr => by
    match i, hr with
    | 0, hr => cases hr; exact ⟨.inr rfl, h⟩
    | i + 1, hr => simp at hr, fun i j r s hij h1 h2 => by
    match i, j, h1, h2 with
    | 0, 0, _, _ => exact absurd rfl hij
    | 0, j + 1, _, h2 => simp at h2
    | i + 1, _, h1, _ => simp at h1⟩

section
variable {M : Nat → Prop}
theorem HoldG.call {w0 W W' : World} {l : List Res} (H : HoldG M w0 W l) (h : Below W.heap.size W W') : HoldG M w0 W' l :=
  ⟨H.keep.trans ((KeepBut.of_below h).mono H.keep.size (fun _ _ m => m)), fun i r hi => (H.all i r hi).kept (fun b hb => h.block b ((H.all i r hi).lt b hb).2), H.apart⟩
theorem HoldG.take {w0 W : World} {l : List Res} (H : HoldG M w0 W l) (n : Nat) : HoldG M w0 W (l.take n) :=
  ⟨H.keep, fun i r h => H.all i r (by rw [List.getElem?_take] at h; split at h; exact h; cases h), fun i j r s hij h1 h2 => H.apart i j r s hij (by rw [List.getElem?_take] at h1; split at h1; exact h1; cases h1) (by rw [List.getElem?_take] at h2; split at h2; exact h2; cases h2)⟩
theorem HoldG.drew {w0 W : World} {l : List Res} (H : HoldG M w0 W l) : HoldG M w0 W.drew l := H.call (Below.refl _ W).drew

/-- one member is turned -/
theorem HoldG.upd {w0 W W' : World} {l : List Res} (H : HoldG M w0 W l) {i : Nat} {r r' : Res} (hi : l[i]? = some r) (hg : W.grownBy W' r.place) (hr : r'.Holds M w0.heap.size W')
    (hp : ∀ b, r'.place = some b → r.place = some b ∨ W.heap.size ≤ b) : HoldG M w0 W' (l.set i r') := by
  have hil : i < l.length := (List.getElem?_eq_some_iff.1 hi).1
  refine ⟨H.keep.trans ⟨hg.os, hg.tape, hg.output, hg.size, fun k h1 h2 => hg.block k (Nat.lt_of_lt_of_le h1 H.keep.size) (fun e => by
    rcases ((H.all i r hi).lt k e.symm).1 with h | h
    · omega
    · exact h2 h)⟩, ?_, ?_⟩
  · intro j s hs
    rw [List.getElem?_set] at hs
    split at hs
    · rename_i e; subst e; cases hs; exact hr
    · rename_i hne
      refine (H.all j s hs).kept (fun b hb => hg.block b ((H.all j s hs).lt b hb).2 (fun e => ?_))
      exact H.apart i j r s hne hi hs b e.symm hb
  · intro j k s t hjk hs ht
    rw [List.getElem?_set] at hs ht
    split at hs
    · rename_i e; subst e; cases hs
      rw [if_neg hjk] at ht
      intro b hb hb'
      rcases hp b hb with h | h
      · exact H.apart i k r t hjk hi ht b h hb'
      · have := ((H.all k t ht).lt b hb').2; omega
    · split at ht
      · rename_i _ e; subst e; cases ht
        intro b hb hb'
        rcases hp b hb' with h | h
        · exact H.apart i j r s (Ne.symm hjk) hi hs b h hb
        · have := ((H.all j s hs).lt b hb).2; omega
      · exact H.apart j k s t hjk hs ht

/-- a member more, in memory that is new -/
theorem HoldG.add {w0 W W' : World} {l : List Res} (H : HoldG M w0 W l) {r : Res} (hg : W.grownBy W' none) (hr : r.Holds M w0.heap.size W') (hp : ∀ b, r.place = some b → W.heap.size ≤ b) : HoldG M w0 W' (l ++ [r]) := by
  have hb : Below W.heap.size W W' := (Below.refl _ W).grown hg (Nat.le_refl _) (fun k e => by cases e)
  have H' := H.call hb
  refine ⟨H'.keep, ?_, ?_⟩
  · intro j s hs
    rw [List.getElem?_append] at hs
    split at hs
    · exact H'.all j s hs
    · rcases List.getElem?_eq_some_iff.1 hs with ⟨h1, h2⟩
      simp at h1
      simp [h1] at h2; subst h2; exact hr
  · intro j k s t hjk hs ht
    rw [List.getElem?_append] at hs ht
    split at hs
    · split at ht
      · exact H.apart j k s t hjk hs ht
      · rcases List.getElem?_eq_some_iff.1 ht with ⟨h1, h2⟩
        simp at h1
        simp [h1] at h2; subst h2
        intro b hb1 hb2
        have h3 := ((H.all j s hs).lt b hb1).2
        have := hp b hb2; omega
    · rcases List.getElem?_eq_some_iff.1 hs with ⟨h1, h2⟩
      simp at h1
      simp [h1] at h2; subst h2
      split at ht
      · intro b hb1 hb2
        have h3 := ((H.all k t ht).lt b hb2).2
        have := hp b hb1; omega
      · rcases List.getElem?_eq_some_iff.1 ht with ⟨h4, h5⟩
        simp at h4
        omega

/-- where a member stands -/
inductive At {α : Type} : List α → Nat → α → Prop where
  | zero {r : α} {l : List α} : At (r :: l) 0 r
  | succ {r s : α} {l : List α} {i : Nat} (h : At l i r) : At (s :: l) (i + 1) r
theorem At.get {α : Type} {l : List α} {i : Nat} {r : α} (h : At l i r) : l[i]? = some r := by
  induction h with
  | zero => rfl
  | succ _ ih => simpa using ih

theorem HoldG.blk {w0 W : World} {l : List Res} (H : HoldG M w0 W l) {i b : Nat} {cs : Array Value} {T : TypeId} (hi : At l i (.blk b cs T)) : (w0.heap.size ≤ b ∨ M b) ∧ W.heap[b]? = some (.cells cs T (0, 0)) := H.all i _ hi.get
theorem HoldG.cell {w0 W : World} {l : List Res} (H : HoldG M w0 W l) {i b : Nat} {cs : Array Value} {T : TypeId} (hi : At l i (.blk b cs T)) (k : Nat) : W.cell? ⟨b, k, none⟩ = cs[k]? := cell_of_row W b k cs T (0, 0) (H.blk hi).2
theorem HoldG.frozen {w0 W : World} {l : List Res} (H : HoldG M w0 W l) {i b : Nat} {cs : Array Value} {T : TypeId} (hi : At l i (.blk b cs T)) (k : Nat) : W.frozen? ⟨b, k, none⟩ = false := by
  simp [World.frozen?, (H.blk hi).2]

theorem HoldG.alloc {w0 W : World} {l : List Res} (H : HoldG M w0 W l) (cs : Array Value) (T : TypeId) : HoldG M w0 (W.alloc (.cells cs T)) (l ++ [.blk W.heap.size cs T]) :=
  H.add (World.grownBy_alloc W _ none) ⟨.inl H.keep.size, World.alloc_heap_new W _⟩ (fun b e => by cases e; exact Nat.le_refl _)

/-- a call that turns one block -/
theorem HoldG.callBut {w0 W W' : World} {l : List Res} (H : HoldG M w0 W l) {i b : Nat} {cs cs' : Array Value} {T : TypeId} (hi : At l i (.blk b cs T)) (hk : KeepBut (· = b) W.heap.size W W') (hb : W'.heap[b]? = some (.cells cs' T (0, 0))) : HoldG M w0 W' (l.set i (.blk b cs' T)) :=
  H.upd hi.get ⟨hk.os, hk.tape, hk.output, hk.size, fun k h1 h2 => hk.old k h1 (fun e => h2 (by rw [e]; rfl))⟩ ⟨(H.blk hi).1, hb⟩ (fun _ e => .inl e)

/-! ### one cell is stored -/
theorem heap_setCell {W : World} {b k : Nat} {cs : Array Value} {T : TypeId} {f : Nat × Nat} (h : W.heap[b]? = some (.cells cs T f)) (v : Value) : (W.setCell ⟨b, k, none⟩ v).heap[b]? = some (.cells (cs.setIfInBounds k v) T f) := by
  have hlt := (Array.getElem?_eq_some_iff.1 h).1
  simp only [World.setCell]
  simp [Array.getElem?_modify, h]
theorem grownBy_setCellK (W : World) (b k : Nat) (v : Value) : W.grownBy (W.setCell ⟨b, k, none⟩ v) (some b) := by
  refine ⟨rfl, rfl, rfl, ?_, ?_⟩
  · simp [World.setCell]
  · intro j hj hne
    simp [World.setCell, Array.getElem?_modify, show b ≠ j from fun e => hne (by rw [e])]

theorem HoldG.setCell {w0 W : World} {l : List Res} (H : HoldG M w0 W l) {i b k : Nat} {cs : Array Value} {T : TypeId} (hi : At l i (.blk b cs T)) (v : Value) :
    HoldG M w0 (W.setCell ⟨b, k, none⟩ v) (l.set i (.blk b (cs.setIfInBounds k v) T)) :=
  H.upd hi.get (grownBy_setCellK W b k v) ⟨(H.blk hi).1, heap_setCell (H.blk hi).2 v⟩ (fun _ e => .inl e)

/-! ### many cells are stored -/
def setSeg (cs : Array Value) : Nat → List Value → Array Value
  | _, [] => cs
  | k, v :: r => setSeg (cs.setIfInBounds k v) (k + 1) r
theorem grownBy_trans_same {A B C : World} {b : Nat} (h : A.grownBy B (some b)) (k : B.grownBy C (some b)) : A.grownBy C (some b) :=
  ⟨k.os.trans h.os, k.tape.trans h.tape, k.output.trans h.output, Nat.le_trans h.size k.size, fun j hj hne => (k.block j (Nat.lt_of_lt_of_le hj h.size) hne).trans (h.block j hj hne)⟩
theorem setCells_grown : ∀ (vs : List Value) (k : Nat) (W : World) (b : Nat), W.grownBy (W.setCells b k vs) (some b)
  | [], _, _, _ => ⟨rfl, rfl, rfl, Nat.le_refl _, fun _ _ _ => rfl⟩
  | v :: r, k, W, b => grownBy_trans_same (grownBy_setCellK W b k v) (setCells_grown r (k + 1) _ b)
theorem heap_setCells : ∀ (vs : List Value) (k : Nat) (W : World) (b : Nat) (cs : Array Value) (T : TypeId) (f : Nat × Nat), W.heap[b]? = some (.cells cs T f) → (W.setCells b k vs).heap[b]? = some (.cells (setSeg cs k vs) T f)
  | [], _, _, _, _, _, _, h => h
  | v :: r, k, W, b, cs, T, f, h => heap_setCells r (k + 1) _ b _ T f (heap_setCell h v)

theorem HoldG.setCells {w0 W : World} {l : List Res} (H : HoldG M w0 W l) {i b k : Nat} {cs : Array Value} {T : TypeId} (hi : At l i (.blk b cs T)) (vs : List Value) :
    HoldG M w0 (W.setCells b k vs) (l.set i (.blk b (setSeg cs k vs) T)) :=
  H.upd hi.get (setCells_grown vs k W b) ⟨(H.blk hi).1, heap_setCells vs k W b cs T _ (H.blk hi).2⟩ (fun _ e => .inl e)
theorem HoldG.there {w0 W : World} {l : List Res} (H : HoldG M w0 W l) {i b k n : Nat} {cs : Array Value} {T : TypeId} (hi : At l i (.blk b cs T)) (hn : k + n ≤ cs.size) : W.there b k n := fun j hj => by
  rw [H.cell hi, H.frozen hi]
  simp; omega

/-! ### the frame, written out -/
theorem ev_tmp (l : List Value) (d : List Deferred) (t : Nat) : ({ tmps := l.toArray, defers := d } : Act).eval (.tmp t) = l.getD t undef := by simp [Act.eval]
theorem ev_const (a : Act) (v : Value) : a.eval (.const v) = v := rfl
theorem ev_glob (a : Act) (g : Nat) : a.eval (.global g) = .pointer (some ⟨g, 0, none⟩) := rfl
theorem ev_func (a : Act) (f : Nat) : a.eval (.func f) = .func (.func f) #[] #[] := rfl
theorem put_no (a : Act) (v : Value) : a.put none v = a := rfl

theorem HoldG.rd {w0 W : World} {l : List Res} (H : HoldG M w0 W l) {i b : Nat} {cs : List Value} {T : TypeId} (hi : At l i (.blk b cs.toArray T)) (hn : cs.length ≤ maxLen) : Rd W W.heap.size (.slice (some ⟨b, 0, none⟩) cs.length cs.length) cs :=
  .inr ⟨b, 0, cs.length, rfl, ((H.all i _ hi.get).lt b rfl).2, Nat.le_refl _, hn, fun j hj => by rw [H.cell hi]; simp [hj]⟩
theorem HoldG.rds {w0 W : World} {l : List Res} (H : HoldG M w0 W l) {i b : Nat} {L : List (Nat → Nat)} {T : TypeId} (hi : At l i (.blk b (rowC L).toArray T)) (hn : L.length ≤ maxLen) : RdS W W.heap.size (.slice (some ⟨b, 0, none⟩) L.length L.length) L :=
  .inr ⟨b, 0, L.length, rfl, ((H.all i _ hi.get).lt b rfl).2, Nat.le_refl _, hn, fun j hj k hk => by
    rw [H.cell hi]
    simp only [Nat.zero_add, List.getElem?_toArray]
    exact rowC_get hj hk⟩

theorem HoldG.rdn {w0 W : World} {l : List Res} (H : HoldG M w0 W l) {i b n : Nat} {cs : List Value} {T : TypeId} (hi : At l i (.blk b cs.toArray T)) (hc : cs.length = n) (hn : n ≤ maxLen) : Rd W W.heap.size (.slice (some ⟨b, 0, none⟩) n n) cs := by
  subst hc; exact H.rd hi hn
theorem HoldG.rdsn {w0 W : World} {l : List Res} (H : HoldG M w0 W l) {i b n : Nat} {L : List (Nat → Nat)} {T : TypeId} (hi : At l i (.blk b (rowC L).toArray T)) (hc : L.length = n) (hn : n ≤ maxLen) : RdS W W.heap.size (.slice (some ⟨b, 0, none⟩) n n) L := by
  subst hc; exact H.rds hi hn

end

/-! ### the operations -/
section
variable {P : Program} {ops : Array Oper} {rest : List Oper} {o : Oper} {a : Act} {w w0 : World} {Q : Exit → Act → World → Prop} {l : List Res} {M : Nat → Prop}

def zeroC (P : Program) (T : TypeId) : Array Value := (((P.info? T).bind (·.zero)).map (·.cells)).getD #[]
def sizeB (P : Program) (T : TypeId) (n : Nat) : Bool := (P.info? T).map (·.size) == some n
def rowB (P : Program) (T : TypeId) (n : Nat) : Bool := sizeB P T n && ((P.underlying T).map (·.isRow) == some true)
def oneB (P : Program) (T : TypeId) : Bool := sizeB P T 1 && ((P.underlying T).map (·.isRow) == some false)

theorem rowB_parts {T n} (h : rowB P T n = true) : ∃ d, P.underlying T = some d ∧ d.isRow = true ∧ (P.info? T).map (·.size) = some n := by
  simp only [rowB, sizeB, Bool.and_eq_true, beq_iff_eq] at h
  obtain ⟨h1, h2⟩ := h
  cases hu : P.underlying T with
  | none => simp [hu] at h2
  | some d => exact ⟨d, rfl, by simpa [hu] using h2, h1⟩

theorem one_size {T} (h : oneB P T = true) : sizeB P T 1 = true := by simp only [oneB, Bool.and_eq_true] at h; exact h.1
theorem row_size {T n} (h : rowB P T n = true) : sizeB P T n = true := by simp only [rowB, Bool.and_eq_true] at h; exact h.1
theorem run_loadVar_one {T : TypeId} (h : oneB P T = true) {ad : Addr} {v : Value} (hc : w.cell? ad = some v) : (loadVar T ad).run P w = .ok v w := by
  simp only [oneB, sizeB, Bool.and_eq_true, beq_iff_eq] at h
  obtain ⟨h1, h2⟩ := h
  cases hu : P.underlying T with
  | none => simp [hu] at h2
  | some d =>
    have hd : d.isRow = false := by simpa [hu] using h2
    have hagg : (isAgg T).run P w = .ok false w := by
      unfold isAgg
      rw [Sem.run_bind, run_underlying hu w]
      cases d <;> simp_all
    simp [loadVar, Sem.run_bind, hagg, load, Sem.run, hc]
theorem run_storeVar_one1 {T : TypeId} (h : sizeB P T 1 = true) {ad : Addr} {v : Value} (hv : v.oneCell' = true) (hc : (w.cell? ad).isSome = true) (hf : w.frozen? ad = false) (hs : ad.add 0 = ad) : (storeVar T ad v).run P w = .ok () (w.setCell ad v) := by
  have hcs : v.cells = #[v] := by cases v <;> first | rfl | cases hv
  simp only [sizeB, beq_iff_eq] at h
  cases hq : P.info? T with
  | none => simp [hq] at h
  | some i =>
    have hs1 : i.size = 1 := by simpa [hq] using h
    obtain ⟨u, hu⟩ := Option.isSome_iff_exists.1 hc
    have hst : (store ad v).run P w = .ok () (w.setCell ad v) := by rw [run_store P w _ v _ hv]; simp [hu, hf]
    simp [storeVar, sizeOf, typeInfo, hq, hcs, hs1, storeCells, hs, hst]

theorem wpList_wanted (hw : Region.wanted o (yielded ops a.tmps) = true) (h : ∀ K : Act → World → Prop, (∀ a w, wpList P ops Q rest a w → K a w) → o.wp P a w K Q) : wpList P ops Q (o :: rest) a w :=
  wpList_step fun K hK => by rw [if_pos hw]; exact h K hK

/-- a load of one cell -/
theorem own_load1 (hg : Region.wanted o (yielded ops a.tmps) = true) (T : TypeId) (x : Operand) (ho : o.op = .load T x) {b k : Nat} (hx : a.eval x = .pointer (some ⟨b, k, none⟩)) (H : HoldG M w0 w l) {i : Nat} {cs : Array Value} {U : TypeId} (hi : At l i (.blk b cs U))
    (hT : oneB P T = true) {v : Value} (hv : cs[k]? = some v) (h : wpList P ops Q rest (a.put o.dst v) w) : wpList P ops Q (o :: rest) a w :=
  wpList_wanted hg fun _ hK => by
    unfold Oper.wp execOp
    simp only [ho, hx, Instr.loadAt, Instr.sureAddr, Sem.run_bind, Sem.run_pure, Result.andThen_ok, run_loadVar_one hT (v := v) (by rw [H.cell hi]; exact hv)]
    exact hK _ _ h
theorem HoldG.run_row {n : Nat} (H : HoldG M w0 w l) {i b k : Nat} {cs vs : Array Value} {U T : TypeId} (hi : At l i (.blk b cs U)) (hT : rowB P T n = true) (hn : vs.size = n) (hv : ∀ j, j < n → cs[k + j]? = vs[j]?) :
    (loadVar T ⟨b, k, none⟩).run P w = .ok (.agg vs) w := by
  obtain ⟨d, hu, hd, hs⟩ := rowB_parts hT
  have := run_loadVar_mid (P := P) w b k T vs.toList d (fun j v hj => by
    have hlt : j < n := by have := (List.getElem?_eq_some_iff.1 hj).1; simp at this; omega
    rw [H.cell hi, hv j hlt]; simpa using hj) hu hd (by rw [hs]; simp [hn])
  simpa using this
/-- a load of a struct, an array, wherever it lies in the block -/
theorem own_loadN (hg : Region.wanted o (yielded ops a.tmps) = true) (T : TypeId) (x : Operand) (ho : o.op = .load T x) {b k : Nat} (hx : a.eval x = .pointer (some ⟨b, k, none⟩)) (H : HoldG M w0 w l) {i : Nat} {cs : Array Value} {U : TypeId} (hi : At l i (.blk b cs U))
    (vs : Array Value) (hT : rowB P T vs.size = true) (hv : cs.extract k (k + vs.size) = vs) (h : wpList P ops Q rest (a.put o.dst (.agg vs)) w) : wpList P ops Q (o :: rest) a w :=
  wpList_wanted hg fun _ hK => by
    unfold Oper.wp execOp
    have hj : ∀ j, j < vs.size → cs[k + j]? = vs[j]? := fun j hj => by
      have : vs[j]? = (cs.extract k (k + vs.size))[j]? := by rw [hv]
      rw [this, Array.getElem?_extract, if_pos (by
        have hsz : (cs.extract k (k + vs.size)).size = vs.size := by rw [hv]
        simp at hsz; omega)]
    simp only [ho, hx, Instr.loadAt, Instr.sureAddr, Sem.run_bind, Sem.run_pure, Result.andThen_ok, H.run_row (T := T) hi hT rfl hj]
    exact hK _ _ h
/-- a load of the whole block -/
theorem own_load (hg : Region.wanted o (yielded ops a.tmps) = true) (T : TypeId) (x : Operand) (ho : o.op = .load T x) {b : Nat} (hx : a.eval x = .pointer (some ⟨b, 0, none⟩)) (H : HoldG M w0 w l) {i : Nat} {cs : Array Value} {U : TypeId} (hi : At l i (.blk b cs U))
    {n : Nat} (hT : rowB P T n = true) (hn : cs.size = n) (h : wpList P ops Q rest (a.put o.dst (.agg cs)) w) : wpList P ops Q (o :: rest) a w :=
  wpList_wanted hg fun _ hK => by
    unfold Oper.wp execOp
    simp only [ho, hx, Instr.loadAt, Instr.sureAddr, Sem.run_bind, Sem.run_pure, Result.andThen_ok, H.run_row (T := T) hi hT hn (fun j _ => by rw [Nat.zero_add])]
    exact hK _ _ h
/-- a store of one cell -/
theorem own_store1 (hg : Region.wanted o (yielded ops a.tmps) = true) (T : TypeId) (x y : Operand) (ho : o.op = .store T x y) {b k : Nat} (hx : a.eval x = .pointer (some ⟨b, k, none⟩)) {v : Value} (hy : a.eval y = v) (H : HoldG M w0 w l) {i : Nat} {cs : Array Value} {U : TypeId} (hi : At l i (.blk b cs U))
    (h1 : v.oneCell' = true) (hk : k < cs.size) (hT : sizeB P T 1 = true) (h : ∀ w', HoldG M w0 w' (l.set i (.blk b (cs.setIfInBounds k v) U)) → wpList P ops Q rest (a.put o.dst undef) w') : wpList P ops Q (o :: rest) a w :=
  wpList_wanted hg fun _ hK => by
    unfold Oper.wp execOp
    have hs : (⟨b, k, none⟩ : Addr).add 0 = ⟨b, k, none⟩ := by rw [Addr.add_mid]; rfl
    simp only [ho, hx, hy, Instr.storeAt, Instr.sureAddr, Sem.run_bind, Sem.run_pure, Result.andThen_ok, run_storeVar_one1 (P := P) (w := w) hT h1 (by rw [H.cell hi]; simp [hk]) (H.frozen hi k) hs]
    exact hK _ _ (h _ (H.setCell hi v))
/-- a store of a struct, an array, wherever it lies in the block -/
theorem own_storeN (hg : Region.wanted o (yielded ops a.tmps) = true) (T : TypeId) (x y : Operand) (ho : o.op = .store T x y) {b k : Nat} (hx : a.eval x = .pointer (some ⟨b, k, none⟩)) {vs : Array Value} (hy : a.eval y = .agg vs) (H : HoldG M w0 w l) {i : Nat} {cs : Array Value} {U : TypeId} (hi : At l i (.blk b cs U))
    {n : Nat} (hT : sizeB P T n = true) (hv : vs.size = n) (h1 : vs.toList.all (·.oneCell') = true) (hk : k + n ≤ cs.size) (h : ∀ w', HoldG M w0 w' (l.set i (.blk b (setSeg cs k vs.toList) U)) → wpList P ops Q rest (a.put o.dst undef) w') : wpList P ops Q (o :: rest) a w :=
  wpList_wanted hg fun _ hK => by
    unfold Oper.wp execOp
    simp only [ho, hx, hy, Instr.storeAt, Instr.sureAddr, Sem.run_bind, Sem.run_pure, Result.andThen_ok, run_storeVar_mid (P := P) w b k T vs (H.there hi (by omega)) (by subst hv; simpa [sizeB] using hT) (by rw [Array.all_toList] at h1; exact h1)]
    exact hK _ _ (h _ (H.setCells hi _))
theorem setSeg_get : ∀ (vs : List Value) (cs : Array Value) (k j : Nat), (setSeg cs k vs)[j]? = if k ≤ j ∧ j < k + vs.length ∧ j < cs.size then vs[j - k]? else cs[j]?
  | [], cs, k, j => by simp [setSeg]; omega
  | v :: r, cs, k, j => by
    rw [setSeg, setSeg_get r]
    simp only [Array.getElem?_setIfInBounds, List.length_cons, Array.size_setIfInBounds]
    by_cases e : k = j
    · subst e
      rw [if_neg (by omega)]
      by_cases h : k < cs.size
      · simp [h]
      · simp [h, Array.getElem?_eq_none (Nat.le_of_not_lt h)]
    · by_cases h : k ≤ j ∧ j < k + (r.length + 1) ∧ j < cs.size
      · rw [if_pos ⟨by omega, by omega, h.2.2⟩, if_pos h]
        rw [show j - k = (j - (k + 1)) + 1 from by omega]; simp
      · rw [if_neg (by omega), if_neg e, if_neg h]
theorem setSeg_whole {cs vs : Array Value} (h : vs.size = cs.size) : setSeg cs 0 vs.toList = vs := by
  apply Array.ext_getElem?
  intro j
  rw [setSeg_get]
  simp only [Nat.zero_le, true_and, Nat.zero_add, Array.length_toList, Nat.sub_zero]
  by_cases e : j < vs.size
  · rw [if_pos ⟨e, by omega⟩]; simp
  · rw [if_neg (fun h => e h.1), Array.getElem?_eq_none (by omega), Array.getElem?_eq_none (by omega)]
/-- a store over the whole block -/
theorem own_store (hg : Region.wanted o (yielded ops a.tmps) = true) (T : TypeId) (x y : Operand) (ho : o.op = .store T x y) {b : Nat} (hx : a.eval x = .pointer (some ⟨b, 0, none⟩)) {vs : Array Value} (hy : a.eval y = .agg vs) (H : HoldG M w0 w l) {i : Nat} {cs : Array Value} {U : TypeId} (hi : At l i (.blk b cs U))
    {n : Nat} (hT : sizeB P T n = true) (hv : vs.size = n) (hn : cs.size = n) (h1 : vs.toList.all (·.oneCell') = true) (h : ∀ w', HoldG M w0 w' (l.set i (.blk b vs U)) → wpList P ops Q rest (a.put o.dst undef) w') : wpList P ops Q (o :: rest) a w :=
  own_storeN hg T x y ho hx hy H hi hT hv h1 (by omega) (fun w' H' => h w' (by rwa [setSeg_whole (by omega)] at H'))
/-- new memory -/
theorem own_alloc (hg : Region.wanted o (yielded ops a.tmps) = true) (T : TypeId) (ho : o.op = .alloc T) (H : HoldG M w0 w l) (hi : ((P.info? T).bind (·.zero)).isSome = true)
    (h : ∀ b w', HoldG M w0 w' (l ++ [.blk b (zeroC P T) T]) → wpList P ops Q rest (a.put o.dst (.pointer (some ⟨b, 0, none⟩))) w') : wpList P ops Q (o :: rest) a w :=
  wpList_wanted hg fun _ hK => by
    cases hi1 : P.info? T with
    | none => simp [hi1] at hi
    | some i0 =>
      cases hz : i0.zero with
      | none => simp [hi1, hz] at hi
      | some z =>
        have hzc : zeroC P T = z.cells := by simp [zeroC, hi1, hz]
        unfold Oper.wp execOp
        simp [ho, Instr.alloc, zeroValue, typeInfo, hi1, hz, newVar, newRow]
        rw [hzc] at h
        exact hK _ _ (h _ _ (H.alloc _ T))
theorem own_box (hg : Region.wanted o (yielded ops a.tmps) = true) (T : TypeId) (x : Operand) (ho : o.op = .box T x) {v : Value} (hx : a.eval x = v) (H : HoldG M w0 w l)
    (h : ∀ b w', HoldG M w0 w' (l ++ [.blk b v.cells T]) → wpList P ops Q rest (a.put o.dst (.pointer (some ⟨b, 0, none⟩))) w') : wpList P ops Q (o :: rest) a w :=
  wpList_wanted hg fun _ hK => by
    unfold Oper.wp execOp
    simp [ho, hx, Instr.box, newVar, newRow]
    exact hK _ _ (h _ _ (H.alloc _ T))
/-- a slice literal -/
theorem own_build (hg : Region.wanted o (yielded ops a.tmps) = true) (TS : TypeId) (n : Nat) (parts : Array (Nat × Operand)) (ho : o.op = .buildSlice TS n parts) (H : HoldG M w0 w l) (cs : Array Value) (T : TypeId)
    (hr : ∀ W : World, (Instr.buildSlice TS n (parts.map fun (i, x) => (i, a.eval x))).run P W = .ok (.slice (some ⟨W.heap.size, 0, none⟩) n n) (W.alloc (.cells cs T)))
    (h : ∀ b w', HoldG M w0 w' (l ++ [.blk b cs T]) → wpList P ops Q rest (a.put o.dst (.slice (some ⟨b, 0, none⟩) n n)) w') : wpList P ops Q (o :: rest) a w :=
  wpList_wanted hg fun _ hK => by
    unfold Oper.wp execOp
    simp only [ho, Sem.run_bind, hr, Result.andThen_ok]
    exact hK _ _ (h _ _ (H.alloc cs T))

/-- append of a fresh row to a row of the call's own -/
theorem own_append (hg : o.guard = none) (s x : Operand) (T : TypeId) (ho : o.op = .call { callee := .builtin .append, args := #[s, x], argTypes := #[T, T] }) (H : HoldG M w0 w l) {i j b : Nat} {v : Value} {e : TypeId} {sz n m c : Nat} {xs : List Value} {cs : Array Value} {U : TypeId}
    (hs : a.eval s = v) (hx : a.eval x = .slice (some ⟨b, 0, none⟩) m c) (hi : At l i (.row v e sz n xs)) (hj : At l j (.blk b cs U)) {it : TypeInfo} {z : Value} {bytes : Nat}
    (h1 : P.underlying T = some (.slice e)) (h2 : P.info? e = some it) (h3 : it.zero = some z) (h4 : it.size = sz) (h5 : it.bytes = bytes) (h6 : z.cells.size = sz) (h7 : 0 < sz) (hcs : cs.size = m * sz) (h1c : cs.toList.all (·.oneCell') = true)
    (b1 : n + m ≤ maxLen) (b2 : (n + m) * bytes ≤ 140737488355328)
    (h : ∀ v' w', HoldG M w0 w' (l.set i (.row v' e sz (n + m) (xs ++ cs.toList))) → wpList P ops Q rest (a.put o.dst v') w') : wpList P ops Q (o :: rest) a w := by
  refine wpList_append_own_at w hg s x T ho w0.heap.size e it z sz bytes h1 h2 h3 h4 h5 h6 h7 v n xs hs (H.all i _ hi.get) ⟨b, 0, none⟩ m c cs.toList hx (by simpa using hcs) (fun q u hq => ?_) (fun u hu => List.all_eq_true.1 h1c u hu) b1 b2 H.keep.size (fun v' w' r1 r2 _ r4 => h v' w' ?_)
  · rw [Addr.add_mid, H.cell hj]
    simpa using hq
  · refine H.upd hi.get (by exact r2) r1 (fun b' hb' => ?_)
    rcases r4 with r4 | r4
    · left; show v.ownBlock = some b'; rw [← r4]; exact hb'
    · right
      have : v'.ownBlock = some b' := hb'
      rw [r4] at this
      cases this; exact Nat.le_refl _
theorem HoldG.addNil {w0 W : World} {l : List Res} (H : HoldG M w0 W l) (e : TypeId) (sz : Nat) : HoldG M w0 W (l ++ [.row (.slice none 0 0) e sz 0 []]) :=
  H.add ⟨rfl, rfl, rfl, Nat.le_refl _, fun _ _ _ => rfl⟩ (World.ownsRow_nil _ _ _ _) (fun b e => by cases e)

/-- a value that leaves the world alone -/
theorem own_pure (hg : Region.wanted o (yielded ops a.tmps) = true) {v : Value} (hr : (execOp a.eval o).run P w = .ok (.value v) w) (h : wpList P ops Q rest (a.put o.dst v) w) : wpList P ops Q (o :: rest) a w :=
  wpList_wanted hg fun _ hK => by
    unfold Oper.wp
    rw [hr]
    exact hK _ _ h

/-! ### sets -/
theorem setV_agg (s : Nat → Nat) : setV s = .agg (setC s) := rfl
theorem own_storeS (hg : Region.wanted o (yielded ops a.tmps) = true) (T : TypeId) (x y : Operand) (ho : o.op = .store T x y) {b : Nat} (hx : a.eval x = .pointer (some ⟨b, 0, none⟩)) {s : Nat → Nat} (hy : a.eval y = setV s) (H : HoldG M w0 w l) {i : Nat} {cs : Array Value} {U : TypeId} (hi : At l i (.blk b cs U))
    (hT : sizeB P T 4 = true) (hn : cs.size = 4) (h : ∀ w', HoldG M w0 w' (l.set i (.blk b (setC s) U)) → wpList P ops Q rest (a.put o.dst undef) w') : wpList P ops Q (o :: rest) a w :=
  own_store hg T x y ho hx (vs := setC s) hy H hi hT rfl hn rfl h
theorem own_loadS (hg : Region.wanted o (yielded ops a.tmps) = true) (T : TypeId) (x : Operand) (ho : o.op = .load T x) {b : Nat} (hx : a.eval x = .pointer (some ⟨b, 0, none⟩)) (H : HoldG M w0 w l) {i : Nat} {s : Nat → Nat} {U : TypeId} (hi : At l i (.blk b (setC s) U))
    (hT : rowB P T 4 = true) (h : wpList P ops Q rest (a.put o.dst (setV s)) w) : wpList P ops Q (o :: rest) a w :=
  own_load hg T x ho hx H hi hT rfl h
theorem own_boxS (hg : Region.wanted o (yielded ops a.tmps) = true) (T : TypeId) (x : Operand) (ho : o.op = .box T x) {s : Nat → Nat} (hx : a.eval x = setV s) (H : HoldG M w0 w l)
    (h : ∀ b w', HoldG M w0 w' (l ++ [.blk b (setC s) T]) → wpList P ops Q rest (a.put o.dst (.pointer (some ⟨b, 0, none⟩))) w') : wpList P ops Q (o :: rest) a w :=
  own_box hg T x ho hx H h

/-! ### texts, as lists of bytes -/
abbrev Str := List UInt8
/-- the byte at a place -/
def byt (L : Str) (k : Nat) : Nat := (L.getD k 0).toNat
theorem byt_lt (L : Str) (k : Nat) : byt L k < 256 := UInt8.toNat_lt _

theorem nc0 (i : Nat) : (i : Int) = ((i : Nat) : Int) := rfl
theorem nc1 (i : Nat) : (i : Int) + 1 = ((i + 1 : Nat) : Int) := by omega
theorem nc2 (i : Nat) : (i : Int) + 2 = ((i + 2 : Nat) : Int) := by omega
theorem nc3 (i : Nat) : (i : Int) + 3 = ((i + 3 : Nat) : Int) := by omega
theorem nca (i n : Nat) : (i : Int) + (n : Int) = ((i + n : Nat) : Int) := by omega
theorem ncl0 : (0 : Int) = ((0 : Nat) : Int) := rfl
theorem ncl1 : (1 : Int) = ((1 : Nat) : Int) := rfl
theorem str_index_run {o : Oper} {a : Act} {w : World} {T : TypeId} {x ix : Operand} (ho : o.op = .index T x ix) (hT : P.underlying T = some .string) {L : Str} {z : Int} {k : Nat} (hx : a.eval x = .string ⟨L.toArray⟩) (hix : a.eval ix = .int .i64 z) (hz : z = (k : Int))
    (h1 : k < L.length) : (execOp a.eval o).run P w = .ok (.value (.int .u8 (byt L k))) w := by
  subst hz
  have hs : (⟨L.toArray⟩ : ByteArray).size = L.length := by simp [ByteArray.size]
  simp only [execOp, ho, hx, hix, Sem.run_bind, run_index_string w T _ .i64 _ hT]
  rw [dif_pos ⟨by omega, by rw [hs]; omega⟩]
  have : ((⟨L.toArray⟩ : ByteArray)[k]'(by rw [hs]; exact h1)).toNat = byt L k := by
    unfold byt
    rw [List.getD_eq_getElem?_getD, List.getElem?_eq_getElem h1]
    rfl
  simp [Result.andThen, this]
theorem str_index (hg : Region.wanted o (yielded ops a.tmps) = true) (T : TypeId) (x ix : Operand) (ho : o.op = .index T x ix) (hT : P.underlying T = some .string) {L : Str} {z : Int} {k : Nat} (hx : a.eval x = .string ⟨L.toArray⟩) (hix : a.eval ix = .int .i64 z) (hz : z = (k : Int))
    (h1 : k < L.length) (h : wpList P ops Q rest (a.put o.dst (.int .u8 (byt L k))) w) : wpList P ops Q (o :: rest) a w :=
  own_pure hg (str_index_run ho hT hx hix hz h1) h

theorem sub_str (L : Str) (i j : Nat) : (⟨L.toArray⟩ : ByteArray).extract i j = ⟨((L.take j).drop i).toArray⟩ := by
  apply ByteArray.ext
  apply Array.ext'
  simp [ByteArray.data_extract, List.extract_eq_drop_take']
theorem str_slice (hg : Region.wanted o (yielded ops a.tmps) = true) (T : TypeId) (x lo hi : Operand) (ho : o.op = .slice T x (some lo) (some hi) none) (hT : P.underlying T = some .string) {L : Str} {y z : Int} {i j : Nat} (hx : a.eval x = .string ⟨L.toArray⟩) (hlo : a.eval lo = .int .i64 y) (hy : y = (i : Int)) (hhi : a.eval hi = .int .i64 z) (hz : z = (j : Int))
    (h1 : i ≤ j) (h2 : j ≤ L.length) (h : wpList P ops Q rest (a.put o.dst (.string ⟨((L.take j).drop i).toArray⟩)) w) : wpList P ops Q (o :: rest) a w := by
  subst hy hz
  refine own_pure hg ?_ h
  have hs : (⟨L.toArray⟩ : ByteArray).size = L.length := by simp [ByteArray.size]
  simp only [execOp, ho, hx, hlo, hhi, Option.map_some, Option.map_none, Sem.run_bind]
  rw [run_sliceAt_string _ T _ _ _ _ hT, run_slice_string w T _ .i64 .i64 _ _ hT (by omega) (by omega) (by rw [hs]; omega), sub_str]
  rfl
theorem str_from (hg : Region.wanted o (yielded ops a.tmps) = true) (T : TypeId) (x lo : Operand) (ho : o.op = .slice T x (some lo) none none) (hT : P.underlying T = some .string) {L : Str} {y : Int} {i : Nat} (hx : a.eval x = .string ⟨L.toArray⟩) (hlo : a.eval lo = .int .i64 y) (hy : y = (i : Int))
    (h1 : i ≤ L.length) (h : wpList P ops Q rest (a.put o.dst (.string ⟨(L.drop i).toArray⟩)) w) : wpList P ops Q (o :: rest) a w := by
  subst hy
  refine own_pure hg ?_ h
  have hs : (⟨L.toArray⟩ : ByteArray).size = L.length := by simp [ByteArray.size]
  simp only [execOp, ho, hx, hlo, Option.map_some, Option.map_none, Sem.run_bind]
  rw [run_sliceAt_string _ T _ _ _ _ hT, run_slice_string_l w T ⟨L.toArray⟩ hT .i64 _ (by omega) (by rw [hs]; omega), sub_str, hs, List.take_length]
  rfl
theorem str_to (hg : Region.wanted o (yielded ops a.tmps) = true) (T : TypeId) (x hi : Operand) (ho : o.op = .slice T x none (some hi) none) (hT : P.underlying T = some .string) {L : Str} {y : Int} {i : Nat} (hx : a.eval x = .string ⟨L.toArray⟩) (hlo : a.eval hi = .int .i64 y) (hy : y = (i : Int))
    (h1 : i ≤ L.length) (h : wpList P ops Q rest (a.put o.dst (.string ⟨(L.take i).toArray⟩)) w) : wpList P ops Q (o :: rest) a w := by
  subst hy
  refine own_pure hg ?_ h
  have hs : (⟨L.toArray⟩ : ByteArray).size = L.length := by simp [ByteArray.size]
  simp only [execOp, ho, hx, hlo, Option.map_some, Option.map_none, Sem.run_bind]
  rw [run_sliceAt_string _ T _ _ _ _ hT, run_slice_string_h w T ⟨L.toArray⟩ hT .i64 _ (by omega) (by rw [hs]; omega), sub_str, List.drop_zero]
  rfl
theorem str_eql (hg : Region.wanted o (yielded ops a.tmps) = true) (T : TypeId) (x y : Operand) (U : TypeId) (ho : o.op = .binOp .eql T x y U) {L M : Str} (hx : a.eval x = .string ⟨L.toArray⟩) (hy : a.eval y = .string ⟨M.toArray⟩)
    (hq : ∀ w : World, (eqGuard .eql T x y (.string ⟨L.toArray⟩) (.string ⟨M.toArray⟩)).run P w = .ok () w) (h : wpList P ops Q rest (a.put o.dst (.bool (L == M))) w) : wpList P ops Q (o :: rest) a w := by
  refine own_pure hg ?_ h
  simp only [execOp, ho, hx, hy, Sem.run_bind, hq, Result.andThen, binOp_string_eql]
  simp [Lib.toList_data]
theorem str_neq (hg : Region.wanted o (yielded ops a.tmps) = true) (T : TypeId) (x y : Operand) (U : TypeId) (ho : o.op = .binOp .neq T x y U) {L M : Str} (hx : a.eval x = .string ⟨L.toArray⟩) (hy : a.eval y = .string ⟨M.toArray⟩)
    (hq : ∀ w : World, (eqGuard .neq T x y (.string ⟨L.toArray⟩) (.string ⟨M.toArray⟩)).run P w = .ok () w) (h : wpList P ops Q rest (a.put o.dst (.bool (!(L == M)))) w) : wpList P ops Q (o :: rest) a w := by
  refine own_pure hg ?_ h
  simp only [execOp, ho, hx, hy, Sem.run_bind, hq, Result.andThen, binOp_string_neq]
  simp [Lib.toList_data]

/-! ### the end of a function whose first result is a variable in memory -/
theorem ret_c {fn : Func} {R : Ending → World → Prop} {p : Tmp} {T : TypeId} (hres : fn.results = #[.cell p T]) {b : Nat} (hp : a.tmps.getD p undef = .pointer (some ⟨b, 0, none⟩)) (H : HoldG M w0 w l) {i : Nat} {cs : Array Value} {U : TypeId} (hi : At l i (.blk b cs U))
    {n : Nat} (hT : rowB P T n = true) (hn : cs.size = n) (hd : a.defers = []) (h : R (.returned (.agg cs)) w) : bodyPost P fn R .ret a w := by
  refine bodyPost_ret (v := .agg cs) ?_ hd h
  have := H.run_row (T := T) (P := P) hi hT hn (k := 0) (fun j _ => by rw [Nat.zero_add])
  have hp' : a.tmps[p]?.getD undef = .pointer (some ⟨b, 0, none⟩) := by simpa using hp
  simp [results, hres, hp', asAddr, this]
theorem ret_ct {fn : Func} {R : Ending → World → Prop} {p q : Tmp} {T : TypeId} (hres : fn.results = #[.cell p T, .tmp q]) {b : Nat} (hp : a.tmps.getD p undef = .pointer (some ⟨b, 0, none⟩)) {v : Value} (hq : a.tmps.getD q undef = v) (H : HoldG M w0 w l) {i : Nat} {cs : Array Value} {U : TypeId} (hi : At l i (.blk b cs U))
    {n : Nat} (hT : rowB P T n = true) (hn : cs.size = n) (hd : a.defers = []) (h : R (.returned (.tuple #[.agg cs, v])) w) : bodyPost P fn R .ret a w := by
  refine bodyPost_ret (v := .tuple #[.agg cs, v]) ?_ hd h
  have := H.run_row (T := T) (P := P) hi hT hn (k := 0) (fun j _ => by rw [Nat.zero_add])
  have hp' : a.tmps[p]?.getD undef = .pointer (some ⟨b, 0, none⟩) := by simpa using hp
  have hq' : a.tmps[q]?.getD undef = v := by simpa using hq
  simp [results, hres, hp', hq', asAddr, this]
theorem ret_ctt {fn : Func} {R : Ending → World → Prop} {p q r : Tmp} {T : TypeId} (hres : fn.results = #[.cell p T, .tmp q, .tmp r]) {b : Nat} (hp : a.tmps.getD p undef = .pointer (some ⟨b, 0, none⟩)) {v u : Value} (hq : a.tmps.getD q undef = v) (hr : a.tmps.getD r undef = u) (H : HoldG M w0 w l) {i : Nat} {cs : Array Value} {U : TypeId} (hi : At l i (.blk b cs U))
    {n : Nat} (hT : rowB P T n = true) (hn : cs.size = n) (hd : a.defers = []) (h : R (.returned (.tuple #[.agg cs, v, u])) w) : bodyPost P fn R .ret a w := by
  refine bodyPost_ret (v := .tuple #[.agg cs, v, u]) ?_ hd h
  have := H.run_row (T := T) (P := P) hi hT hn (k := 0) (fun j _ => by rw [Nat.zero_add])
  have hp' : a.tmps[p]?.getD undef = .pointer (some ⟨b, 0, none⟩) := by simpa using hp
  have hq' : a.tmps[q]?.getD undef = v := by simpa using hq
  have hr' : a.tmps[r]?.getD undef = u := by simpa using hr
  simp [results, hres, hp', hq', hr', asAddr, this]

theorem ret_cS {fn : Func} {R : Ending → World → Prop} {p : Tmp} {T : TypeId} (hres : fn.results = #[.cell p T]) {b : Nat} (hp : a.tmps.getD p undef = .pointer (some ⟨b, 0, none⟩)) (H : HoldG M w0 w l) {i : Nat} {s : Nat → Nat} {U : TypeId} (hi : At l i (.blk b (setC s) U))
    (hT : rowB P T 4 = true) (hd : a.defers = []) (h : R (.returned (setV s)) w) : bodyPost P fn R .ret a w := ret_c hres hp H hi hT rfl hd h
theorem ret_ctS {fn : Func} {R : Ending → World → Prop} {p q : Tmp} {T : TypeId} (hres : fn.results = #[.cell p T, .tmp q]) {b : Nat} (hp : a.tmps.getD p undef = .pointer (some ⟨b, 0, none⟩)) {v : Value} (hq : a.tmps.getD q undef = v) (H : HoldG M w0 w l) {i : Nat} {s : Nat → Nat} {U : TypeId} (hi : At l i (.blk b (setC s) U))
    (hT : rowB P T 4 = true) (hd : a.defers = []) (h : R (.returned (.tuple #[setV s, v])) w) : bodyPost P fn R .ret a w := ret_ct hres hp hq H hi hT rfl hd h
theorem reti {k : IntKind} {x y : Int} (h : x = y) : Ending.returned (.int k x) = .returned (.int k y) := by rw [h]
theorem retb {x y : Bool} (h : x = y) : Ending.returned (.bool x) = .returned (.bool y) := by rw [h]
theorem tn (i n : Nat) : ((i : Int) + (n : Int)).toNat = i + n := by omega
theorem tn1 (i : Nat) : ((i : Int) + 1).toNat = i + 1 := by omega
theorem tn2 (i : Nat) : ((i : Int) + 2).toNat = i + 2 := by omega
theorem tn3 (i : Nat) : ((i : Int) + 3).toNat = i + 3 := by omega
end
theorem run_sets1 (s : Nat → Nat) (W : World) : (Instr.buildSlice 83 1 #[(0, setV s)]).run Tryz.prog W = .ok (.slice (some ⟨W.heap.size, 0, none⟩) 1 1) (W.alloc (.cells (rowC [s]).toArray 37)) := by
  unfold setV; simp [go_sem]; rfl
theorem run_sets2 (s t : Nat → Nat) (W : World) : (Instr.buildSlice 83 2 #[(0, setV s), (1, setV t)]).run Tryz.prog W = .ok (.slice (some ⟨W.heap.size, 0, none⟩) 2 2) (W.alloc (.cells (rowC [s, t]).toArray 37)) := by
  unfold setV; simp [go_sem]; rfl
theorem run_sets3 (s t u : Nat → Nat) (W : World) : (Instr.buildSlice 83 3 #[(0, setV s), (1, setV t), (2, setV u)]).run Tryz.prog W = .ok (.slice (some ⟨W.heap.size, 0, none⟩) 3 3) (W.alloc (.cells (rowC [s, t, u]).toArray 37)) := by
  unfold setV; simp [go_sem]; rfl
theorem run_set0 (W : World) : (Instr.build 37 #[]).run Tryz.prog W = .ok (setV emptyS) W := by kernel_rfl
theorem own_set0 {ops : Array Oper} {rest : List Oper} {o : Oper} {a : Act} {w : World} {Q : Exit → Act → World → Prop} (hg : Region.wanted o (yielded ops a.tmps) = true) (ho : o.op = .build 37 #[])
    (h : wpList Tryz.prog ops Q rest (a.put o.dst (setV emptyS)) w) : wpList Tryz.prog ops Q (o :: rest) a w :=
  own_pure hg (by simp only [execOp, ho, List.map_toArray, List.map_nil, Sem.run_bind, run_set0]; rfl) h
end Go.Proofs.YtllmgmfihijejaaGreatDoor
/-
  A region that draws no order, whose operations turn the world by any relation that goes on (memory that is the call's own may be written): by a word on each value.
-/
namespace Go.Proofs.YtllmgmfihijejaaGreatDoor
open Go.RowKit

structure QCtx (l : List Oper) (Ss : Nat → Value → World → Prop) (R : World → World → Prop) (a0 : Act) (w0 : World) (i : Nat) (a : Act) (w : World) : Prop where
  rel : R w0 w
  frame : ∀ t, l.any (fun o => o.dst == some t) = false → a.eval (.tmp t) = a0.eval (.tmp t)
  dep : ∀ j d, decide (j < i) = true → (l[j]?).bind (·.dst) = some d → Ss j (a.eval (.tmp d)) w
def QStep (P : Program) (ops : Array Oper) (R : World → World → Prop) (o : Oper) (a : Act) (w : World) (s : Value → World → Prop) : Prop :=
  if Region.wanted o (yielded ops a.tmps) then o.wp P a w (fun a' w' => ∃ v, a' = a.put o.dst v ∧ R w w' ∧ s v w') (fun _ _ _ => False) else s undef w

theorem wp_region_seqRD {P : Program} {id : Nat} {Q : Exit → Act → World → Prop} {a0 : Act} {w0 : World} {l : List Oper} (R : World → World → Prop) (hrefl : ∀ w, R w w) (htrans : ∀ u v w, R u v → R v w → R u w) (n : Nat) (Ss : Nat → Value → World → Prop)
    (hst : ∀ i, i < n → ∀ v w w', Ss i v w → R w w' → Ss i v w')
    (hB : seqB l n = true) (hsz : (l.take n).all (fun o => match o.dst with | some d => decide (d < a0.tmps.size) | none => true) = true)
    (hstep : ∀ i o, i < n → l[i]? = some o → ∀ a w, QCtx (l.take n) Ss R a0 w0 i a w → QStep P l.toArray R o a w (Ss i))
    (hend : ∀ vals w, R w0 w → (∀ i, i < n → Ss i (vals i) w) → wpList P l.toArray Q (l.drop n) (fillAll (l.take n) 0 vals a0) w) :
    (Code.region id l.toArray false).wp P Q a0 w0 := by
  simp only [seqB, Bool.and_eq_true, decide_eq_true_eq] at hB
  obtain ⟨⟨hn, hd'⟩, _⟩ := hB
  have hdst : ∀ (i : Nat) (o : Oper), (l.take n)[i]? = some o → ∃ d, o.dst = some d := by
    intro i o h
    have : ∀ (r : List Oper) (j : Nat), dstsB r = true → r[j]? = some o → ∃ d, o.dst = some d := by
      intro r
      induction r with
      | nil => intro j _ h; simp at h
      | cons x r ihr =>
        intro j hdd h
        simp only [dstsB, Bool.and_eq_true] at hdd
        cases j with
        | zero => simp at h; subst h; exact Option.isSome_iff_exists.1 hdd.1.1
        | succ j => exact ihr j hdd.2 (by simpa using h)
    exact this _ i hd' h
  have hbd : ∀ (j : Nat) (oj : Oper) (dj : Tmp), (l.take n)[j]? = some oj → oj.dst = some dj → dj < a0.tmps.size := by
    intro j oj dj hj hdj
    have := List.all_eq_true.1 hsz oj (List.mem_of_getElem? hj)
    simpa [hdj] using this
  have key : ∀ (f i : Nat), i + f = n → ∀ (vals : Nat → Value) (a : Act) (w : World), a = fill (l.take n) 0 (headListed i (n - i)) vals a0 → (∀ j, j < i → Ss j (vals j) w) → R w0 w → wpList P l.toArray Q (l.drop i) a w := by
    intro f
    induction f with
    | zero =>
      intro i hi vals a w ha hv hb
      have hi' : i = n := by omega
      subst hi'
      rw [ha, fill_all (l.take i) 0 _ vals a0 (fun j hj => by rw [Nat.zero_add, headListed_get _ _ _ _ (by simp at hj; omega)]; simp at hj ⊢; omega)]
      exact hend vals w hb hv
    | succ f ih =>
      intro i hi vals a w ha hv hb
      have hin : i < n := by omega
      have hil : i < l.length := by omega
      have hot : (l.take n)[i]? = some l[i] := by rw [List.getElem?_take_of_lt hin]; simp [hil]
      obtain ⟨d, hod⟩ := hdst i _ hot
      rw [List.drop_eq_getElem_cons hil]
      have hctx : QCtx (l.take n) Ss R a0 w0 i a w := by
        refine ⟨hb, fun t ht => by rw [ha]; exact fill_frame _ _ _ _ _ t ht, fun j dj hj hdj => ?_⟩
        have h2 : j < i := by simpa using hj
        obtain ⟨oj, hoj, hdj'⟩ := Option.bind_eq_some_iff.1 hdj
        rw [ha, fill_at _ 0 _ vals a0 j oj dj hd' hoj hdj' (hbd j oj dj hoj hdj') (by rw [Nat.zero_add, headListed_get _ _ _ _ (by omega)]; simpa using h2), Nat.zero_add]
        exact hv j h2
      have hstep' := hstep i l[i] hin (by simp [hil]) a w hctx
      have hnext : ∀ v w', R w w' → Ss i v w' → wpList P l.toArray Q (l.drop (i + 1)) (a.put l[i].dst v) w' := by
        intro v w' hbw hsv
        refine ih (i + 1) (by omega) (fun j => if j = i then v else vals j) _ w' ?_ (fun j hj => ?_) (htrans _ _ _ hb hbw)
        · have h1 := fill_set (l.take n) 0 i (headListed i (n - i)) vals a0 l[i] d v hd' hot hod (by rw [Nat.zero_add, headListed_get _ _ _ _ (by omega)]; simp)
          rw [Nat.zero_add] at h1
          rw [ha, hod, ← h1]
          refine fill_congr _ _ _ _ _ _ _ (fun j hj => ⟨?_, rfl⟩)
          simp at hj
          rw [Nat.zero_add, headListed_get _ _ _ _ (by omega)]
          by_cases hji : j = i
          · subst hji
            have : j < (headListed j (n - j)).size := by simp [headListed]; omega
            simp [Array.getD_eq_getD_getElem?, this]
          · rw [getD_set_ne false (fun e => hji e.symm), headListed_get _ _ _ _ (by omega)]
            simp; omega
        · by_cases hji : j = i
          · subst hji; simpa using hsv
          · show Ss j (if j = i then v else vals j) w'
            rw [if_neg hji]
            exact hst j (by omega) _ _ _ (hv j (by omega)) hbw
      unfold QStep at hstep'
      show wpList P l.toArray Q (l[i] :: l.drop (i + 1)) a w
      unfold wpList
      split
      · rename_i hw
        rw [if_pos hw] at hstep'
        refine .inl (wpQ_mono (Oper.wp_mono (fun a' w' ⟨v, e, hbw, hsv⟩ => ?_) hstep'))
        subst e
        exact hnext v w' hbw hsv
      · rename_i hw
        rw [if_neg hw] at hstep'
        exact hnext undef w (hrefl w) hstep'
  refine wp_region_lit ?_
  have := key n 0 (by omega) (fun _ => undef) a0 w0 (fill_none _ _ _ _ _ (fun j => by
    rcases Nat.lt_or_ge j n with h | h
    · rw [headListed_get _ _ _ _ (by omega)]; simp
    · rw [headListed_out _ _ _ _ (by omega)])).symm (fun j h => by omega) (hrefl _)
  simpa using this

def StableR (R : World → World → Prop) (s : Value → World → Prop) : Prop := ∀ v w w', s v w → R w w' → s v w'
theorem stableR_eq {R : World → World → Prop} (x : Value) : StableR R (fun v _ => v = x) := fun _ _ _ h _ => h
def AllStableR (R : World → World → Prop) : List (Value → World → Prop) → Prop
  | [] => True
  | s :: r => StableR R s ∧ AllStableR R r
theorem lookS_stableR {R : World → World → Prop} : ∀ (L : List (Value → World → Prop)) (i : Nat), AllStableR R L → StableR R (lookS L i)
  | [], _, _ => fun _ _ _ h _ => h
  | _ :: _, 0, h => h.1
  | _ :: r, i + 1, h => lookS_stableR r i h.2
def OblQ (P : Program) (l hd : List Oper) (R : World → World → Prop) (L : List (Value → World → Prop)) (a0 : Act) (w0 : World) : List Oper → Nat → Prop
  | [], _ => True
  | o :: r, i => (∀ a w, QCtx hd (lookS L) R a0 w0 i a w → QStep P l.toArray R o a w (lookS L i)) ∧ OblQ P l hd R L a0 w0 r (i + 1)
theorem OblQ.get {P : Program} {l hd : List Oper} {R : World → World → Prop} {L : List (Value → World → Prop)} {a0 : Act} {w0 : World} : ∀ (r : List Oper) (k : Nat), OblQ P l hd R L a0 w0 r k → ∀ i o, r[i]? = some o →
    ∀ a w, QCtx hd (lookS L) R a0 w0 (k + i) a w → QStep P l.toArray R o a w (lookS L (k + i))
  | [], _, _, _, _, h => by simp at h
  | o :: r, k, h, 0, o', h' => by simp at h'; subst h'; exact h.1
  | o :: r, k, h, i + 1, o', h' => by
    have := OblQ.get r (k + 1) h.2 i o' (by simpa using h')
    rwa [show k + 1 + i = k + (i + 1) from by omega] at this
theorem wp_region_seqR {P : Program} {id : Nat} {Q : Exit → Act → World → Prop} {a0 : Act} {w0 : World} {l : List Oper} (R : World → World → Prop) (hrefl : ∀ w, R w w) (htrans : ∀ u v w, R u v → R v w → R u w) (n : Nat) (L : List (Value → World → Prop)) (hst : AllStableR R L)
    (hB : seqB l n = true) (hsz : (l.take n).all (fun o => match o.dst with | some d => decide (d < a0.tmps.size) | none => true) = true)
    (hstep : OblQ P l (l.take n) R L a0 w0 (l.take n) 0)
    (hend : ∀ vals w, R w0 w → (∀ i, i < n → lookS L i (vals i) w) → wpList P l.toArray Q (l.drop n) (fillAll (l.take n) 0 vals a0) w) :
    (Code.region id l.toArray false).wp P Q a0 w0 :=
  wp_region_seqRD R hrefl htrans n (lookS L) (fun i _ v w w' h hb => lookS_stableR L i hst v w w' h hb) hB hsz (fun i o hi ho a w hc => by
      have := OblQ.get (l.take n) 0 hstep i o (by rw [List.getElem?_take_of_lt hi]; exact ho) a w (by rwa [Nat.zero_add])
      rwa [Nat.zero_add] at this) hend

section
variable {P : Program} {ops : Array Oper} {o : Oper} {a : Act} {w : World} {R : World → World → Prop}
/-- what leaves the world alone: as the elder words say it -/
theorem rq_of {v : Value} (hrefl : ∀ w, R w w) (h : RStep P ops o a w (fun v' w' => v' = v ∧ w' = w)) : QStep P ops R o a w (fun v' _ => v' = v) := by
  unfold RStep StepOk at h
  unfold QStep
  split
  · rename_i hw
    rw [if_pos hw] at h
    exact Oper.wp_mono (fun a' w' ⟨u, e, _, h1, h2⟩ => ⟨u, e, h2 ▸ hrefl w, h1⟩) h
  · rename_i hw
    rw [if_neg hw] at h
    exact h.1
theorem rq_skip {v : Value} (hg : Region.wanted o (yielded ops a.tmps) = false) (hv : v = undef) : QStep P ops R o a w (fun v' _ => v' = v) := by
  unfold QStep; rw [if_neg (by rw [hg]; decide)]; exact hv.symm
theorem rq_pure {v : Value} (hrefl : ∀ w, R w w) (hg : Region.wanted o (yielded ops a.tmps) = true) (hr : (execOp a.eval o).run P w = .ok (.value v) w) : QStep P ops R o a w (fun v' _ => v' = v) :=
  rq_of hrefl (rs_val hg hr (Below.refl _ w) ⟨rfl, rfl⟩)
theorem rq_move {x : Operand} {v : Value} (hrefl : ∀ w, R w w) (hg : Region.wanted o (yielded ops a.tmps) = true) (hop : o.op = Op.move x) (hx : a.eval x = v) : QStep P ops R o a w (fun v' _ => v' = v) := by
  refine rq_pure hrefl hg ?_
  simp only [execOp, hop, hx]; rfl
theorem rq_assign {x : Operand} {v : Value} (hrefl : ∀ w, R w w) (hg : Region.wanted o (yielded ops a.tmps) = true) (hop : o.op = Op.assign x) (hx : a.eval x = v) : QStep P ops R o a w (fun v' _ => v' = v) := by
  refine rq_pure hrefl hg ?_
  simp only [execOp, hop, hx]; rfl
theorem rq_pick {x y z : Operand} {b : Bool} {v : Value} (hrefl : ∀ w, R w w) (hg : Region.wanted o (yielded ops a.tmps) = true) (hop : o.op = Op.pick x y z) (hx : a.eval x = .bool b) (hv : (if b then a.eval y else a.eval z) = v) : QStep P ops R o a w (fun v' _ => v' = v) := by
  refine rq_pure hrefl hg ?_
  simp only [execOp, hop, hx]
  subst hv
  cases b <;> rfl
theorem rq_calln {f : FuncId} {xs : Array Operand} {ts : Array TypeId} {vs : Array Value} {v : Value} (hg : Region.wanted o (yielded ops a.tmps) = true)
    (hop : o.op = Op.call { callee := Callee.value (Operand.func f), args := xs, argTypes := ts }) (hf : ∀ args w, (callFunc f args).run P w = .ok (.enter f args) w) (hx : xs.map a.eval = vs)
    (hc : Calls P f vs w fun e w' => e = .returned v ∧ R w w') : QStep P ops R o a w (fun v' _ => v' = v) := by
  unfold QStep; rw [if_pos hg]
  unfold Oper.wp
  have hr : (execOp a.eval o).run P w = .ok (.enter f vs) w := by
    simp only [execOp, hop]
    simp [resolve, hx]
    rw [show a.eval (Operand.func f) = .func (.func f) #[] #[] from rfl]
    simp [Deferred.ofValue, invoke, hf]
  rw [hr]
  exact hc.mono fun e w' ⟨he, hb⟩ => by subst he; exact ⟨v, rfl, hb, rfl⟩
/-- any elder word, where what it leaves is in the relation -/
theorem rq_below {s : Value → World → Prop} (hR : ∀ w', Below w.heap.size w w' → R w w') (h : RStep P ops o a w s) : QStep P ops R o a w s := by
  unfold RStep StepOk at h
  unfold QStep
  split
  · rename_i hw
    rw [if_pos hw] at h
    exact Oper.wp_mono (fun a' w' ⟨u, e, hb, h2⟩ => ⟨u, e, hR w' hb, h2⟩) h
  · rename_i hw
    rwa [if_neg hw] at h
end

end Go.Proofs.YtllmgmfihijejaaGreatDoor
/-
  A region that DRAWS ITS ORDER, by a word on each value, with any relation on worlds that goes on.
-/
namespace Go.Proofs.YtllmgmfihijejaaGreatDoor
open Go.RowKit

structure RCtxR (l : List Oper) (Ss : Nat → Value → World → Prop) (R : World → World → Prop) (a0 : Act) (w0 : World) (o : Oper) (a : Act) (w : World) : Prop where
  rel : R w0 w
  frame : ∀ t, l.any (fun o => o.dst == some t) = false → a.eval (.tmp t) = a0.eval (.tmp t)
  dep : ∀ j d, o.after.toList.any (fun e => Region.binds .any e && e.on == j) = true → (l[j]?).bind (·.dst) = some d → Ss j (a.eval (.tmp d)) w

theorem wp_region_specRD {P : Program} {id : Nat} {Q : Exit → Act → World → Prop} {a0 : Act} {w0 : World} {l : List Oper} (R : World → World → Prop) (htrans : ∀ u v w, R u v → R v w → R u w) (hrefl : ∀ w, R w w) (hdrew : ∀ w : World, R w { w with drawn := w.drawn + 1 }) (n : Nat) (Ss : Nat → Value → World → Prop)
    (hm : P.follows .mixedOrders = true) (hB : specB l.toArray n = true) (hsz : (l.take n).all (fun o => match o.dst with | some d => decide (d < a0.tmps.size) | none => true) = true)
    (hst : ∀ i, i < n → ∀ v w w', Ss i v w → R w w' → Ss i v w')
    (hstep : ∀ i o, i < n → l[i]? = some o → ∀ a w, RCtxR (l.take n) Ss R a0 w0 o a w → QStep P l.toArray R o a w (Ss i))
    (hend : ∀ vals w, R w0 w → (∀ i, i < n → Ss i (vals i) w) → wpList P l.toArray Q (l.drop n) (fillAll (l.take n) 0 vals a0) w) :
    (Code.region id l.toArray true).wp P Q a0 w0 := by
  simp only [specB, Bool.and_eq_true, decide_eq_true_eq] at hB
  obtain ⟨⟨⟨⟨hn, hd⟩, haf⟩, hsink⟩, hseq⟩ := hB
  have hn' : n ≤ l.length := by simpa using hn
  have hd' : dstsB (l.take n) = true := hd
  have htl : (l.take n).length = n := by simp; omega
  have key : ∀ (rem : List Nat) (f : Nat), rem.length = f → rem.Nodup → ∀ (listed : Array Bool) (a : Act) (w : World), HeadInv .any l.toArray n listed →
      (∀ i, i ∈ rem ↔ (i < n ∧ listed.getD i true = false)) → (∃ vals, a = fill (l.take n) 0 listed vals a0 ∧ (∀ i, i < n → listed.getD i false = true → Ss i (vals i) w)) → R w0 w →
      wpAny P .any l.toArray Q (f + (l.toArray.size - n)) listed a w := by
    intro rem f
    induction f generalizing rem with
    | zero =>
      intro hl _ listed a w inv hrem ⟨vals, ha, hv⟩ hb
      have hr : rem = [] := List.length_eq_zero_iff.1 hl
      subst hr
      have hall : ∀ i, i < n → listed.getD i false = true := by
        intro i hi
        have h1 : ¬ listed.getD i true = false := fun h => by have := (hrem i).2 ⟨hi, h⟩; simp at this
        have h2 : i < listed.size := by rw [inv.size]; omega
        rw [Array.getD_eq_getD_getElem?, Array.getElem?_eq_getElem h2] at h1 ⊢
        simpa using h1
      have hlist := listed_head hn inv hall
      have hw := hend vals w hb (fun i hi => hv i hi (hall i hi))
      rw [← fill_all (l.take n) 0 listed vals a0 (fun i hi => by rw [Nat.zero_add]; exact hall i (by omega)), ← ha] at hw
      rw [Nat.zero_add]
      have hdl : (l.drop n).length = l.toArray.size - n := by simp
      rw [← hdl]
      refine wpAny_of_seq (l.drop n) n listed a w (fun j => by simp) ?_ hw
      rw [hdl, hlist]; exact hseq
    | succ f ih =>
      intro hl hnd listed a w inv hrem ⟨vals, ha, hv⟩ hb
      -- the least that is not listed is ready
      have hex : ∃ i, i ∈ rem ∧ ∀ j, j ∈ rem → i ≤ j := by
        have : ∀ (r : List Nat), r ≠ [] → ∃ i, i ∈ r ∧ ∀ j, j ∈ r → i ≤ j := by
          intro r
          induction r with
          | nil => intro h; exact (h rfl).elim
          | cons x r ihr =>
            intro _
            by_cases hr : r = []
            · subst hr; exact ⟨x, by simp, by simp⟩
            · obtain ⟨i, hi, hmin⟩ := ihr hr
              by_cases hx : x ≤ i
              · exact ⟨x, by simp, fun j hj => by rcases List.mem_cons.1 hj with rfl | hj; exact Nat.le_refl _; exact Nat.le_trans hx (hmin j hj)⟩
              · exact ⟨i, by simp [hi], fun j hj => by rcases List.mem_cons.1 hj with rfl | hj; omega; exact hmin j hj⟩
        exact this rem (by intro h; subst h; simp at hl)
      have hready : Region.ready .any l.toArray listed ≠ [] := by
        obtain ⟨i, hi, hmin⟩ := hex
        obtain ⟨hin, hil⟩ := (hrem i).1 hi
        have hlt : i < l.length := by omega
        have hmem : i ∈ Region.ready .any l.toArray listed := by
          refine mem_ready.2 ⟨hil, l[i], by simp [hlt], fun e he hbd => ?_⟩
          have h1 := List.all_eq_true.1 haf (l[i], i) (by
            rw [List.mem_zipIdx_iff_getElem?]; simp [hin, hlt])
          have h2 := Array.all_eq_true'.1 h1 e he
          simp [hbd] at h2
          have hj : ¬ e.on ∈ rem := fun h => by have := hmin _ h; omega
          have h3 : ¬ listed.getD e.on true = false := fun h => hj ((hrem _).2 ⟨by omega, h⟩)
          have h4 : e.on < listed.size := by rw [inv.size]; simp; omega
          rw [Array.getD_eq_getD_getElem?, Array.getElem?_eq_getElem h4] at h3 ⊢
          simpa using h3
        intro h; rw [h] at hmem; simp at hmem
      rw [show f + 1 + (l.toArray.size - n) = (f + (l.toArray.size - n)) + 1 from by omega]
      refine ⟨fun h => (hready h).elim, fun i hi => ?_⟩
      obtain ⟨hil, o, ho, haft⟩ := mem_ready.1 hi
      have hin : i < n := by
        rcases Nat.lt_or_ge i n with h | h
        · exact h
        · exfalso
          obtain ⟨i', hi', _⟩ := hex
          obtain ⟨hin', hil'⟩ := (hrem i').1 hi'
          have hisz : i < l.toArray.size := (Array.getElem?_eq_some_iff.1 ho).1
          simp only [Bool.or_eq_true, decide_eq_true_eq, Bool.and_eq_true] at hsink
          rcases hsink with h0 | ⟨hs, hc⟩
          · omega
          · exact tail_waits hs hc (by omega) inv (n - i') i' rfl hin' hil' i h hi
      have ho' : l[i]? = some o := by simpa using ho
      have hot : (l.take n)[i]? = some o := by rw [List.getElem?_take_of_lt hin]; exact ho'
      obtain ⟨d, hod⟩ : ∃ d, o.dst = some d := by
        have : ∀ (r : List Oper) (j : Nat), dstsB r = true → r[j]? = some o → ∃ d, o.dst = some d := by
          intro r
          induction r with
          | nil => intro j _ h; simp at h
          | cons x r ihr =>
            intro j hdd h
            simp only [dstsB, Bool.and_eq_true] at hdd
            cases j with
            | zero => simp at h; subst h; exact Option.isSome_iff_exists.1 hdd.1.1
            | succ j => exact ihr j hdd.2 (by simpa using h)
        exact this _ i hd' hot
      have hbd : ∀ (j : Nat) (oj : Oper) (dj : Tmp), (l.take n)[j]? = some oj → oj.dst = some dj → dj < a0.tmps.size := by
        intro j oj dj hj hdj
        have := List.all_eq_true.1 hsz oj (List.mem_of_getElem? hj)
        simpa [hdj] using this
      have hctx : RCtxR (l.take n) Ss R a0 w0 o a w := by
        refine ⟨hb, fun t ht => by rw [ha]; exact fill_frame _ _ _ _ _ t ht, fun j dj hj hdj => ?_⟩
        obtain ⟨e, he, hbe⟩ := List.any_eq_true.1 hj
        simp only [Bool.and_eq_true, beq_iff_eq] at hbe
        have hlj := haft e (Array.mem_toList_iff.1 he) hbe.1
        rw [hbe.2] at hlj
        obtain ⟨oj, hoj, hdj'⟩ := Option.bind_eq_some_iff.1 hdj
        have hjn : j < n := by have := (List.getElem?_eq_some_iff.1 hoj).1; omega
        rw [ha, fill_at _ 0 listed vals a0 j oj dj hd' hoj hdj' (hbd j oj dj hoj hdj') (by rw [Nat.zero_add]; exact hlj), Nat.zero_add]
        exact hv j hjn hlj
      have hstep' := hstep i o hin ho' a w hctx
      have hnext : ∀ v w', R w w' → Ss i v w' → wpAny P .any l.toArray Q (f + (l.toArray.size - n)) (listed.setIfInBounds i true) (a.put o.dst v) w' := by
        intro v w' hbw hsv
        have hmemi : i ∈ rem := (hrem i).2 ⟨hin, hil⟩
        refine ih (rem.erase i) (by rw [List.length_erase_of_mem hmemi, hl]; rfl) (hnd.erase i) _ _ w' (inv.set hi hin) (fun j => ?_) ⟨fun j => if j = i then v else vals j, ?_, fun j hj hlj => ?_⟩ (htrans _ _ _ hb hbw)
        · rw [hnd.mem_erase_iff, hrem j]
          by_cases hji : j = i
          · subst hji
            have hjs : j < listed.size := by rw [inv.size]; simp; omega
            simp [hjs]
          · rw [getD_set_ne true (fun e => hji e.symm)]
            simp [hji]
        · have := fill_set (l.take n) 0 i listed vals a0 o d v hd' hot hod (by rw [Nat.zero_add]; exact hil)
          rw [Nat.zero_add] at this
          rw [this, ← ha, hod]
        · by_cases hji : j = i
          · subst hji; simpa using hsv
          · show Ss j (if j = i then v else vals j) w'
            rw [if_neg hji]
            rw [getD_set_ne false (fun e => hji e.symm)] at hlj
            exact hst j hj _ _ _ (hv j hj hlj) hbw
      unfold wpOp
      simp only [ho]
      unfold QStep at hstep'
      split
      · rename_i hw
        rw [if_pos hw] at hstep'
        refine .inl (wpQ_mono (Oper.wp_mono (fun a' w' ⟨v, e, hbw, hsv⟩ => ?_) hstep'))
        subst e
        exact hnext v w' hbw hsv
      · rename_i hw
        rw [if_neg hw] at hstep'
        exact hnext undef w (hrefl w) hstep'
  refine wp_region_any hm ?_
  have h0 := key (List.range n) n (by simp) List.nodup_range (Array.replicate l.toArray.size false) a0 { w0 with drawn := w0.drawn + 1 }
    ⟨by simp, fun j oj _ hl => (by rw [getD_replicate_false] at hl; cases hl), fun t _ ht => getD_in (by simpa using ht) (getD_replicate_false _ _)⟩
    (fun i => by
      rw [List.mem_range]
      constructor
      · intro h; exact ⟨h, getD_in (by simp; omega) (getD_replicate_false _ _)⟩
      · intro h; exact h.1)
    ⟨fun _ => undef, (fill_none _ _ _ _ _ (fun i => getD_replicate_false _ _)).symm, fun i _ h => (by rw [getD_replicate_false] at h; cases h)⟩
    (hdrew w0)
  rw [show n + (l.toArray.size - n) = l.toArray.size from by omega] at h0
  exact h0


def OblR (P : Program) (l hd : List Oper) (R : World → World → Prop) (L : List (Value → World → Prop)) (a0 : Act) (w0 : World) : List Oper → Nat → Prop
  | [], _ => True
  | o :: r, i => (∀ a w, RCtxR hd (lookS L) R a0 w0 o a w → QStep P l.toArray R o a w (lookS L i)) ∧ OblR P l hd R L a0 w0 r (i + 1)
theorem OblR.get {P : Program} {l hd : List Oper} {R : World → World → Prop} {L : List (Value → World → Prop)} {a0 : Act} {w0 : World} : ∀ (r : List Oper) (k : Nat), OblR P l hd R L a0 w0 r k → ∀ i o, r[i]? = some o →
    ∀ a w, RCtxR hd (lookS L) R a0 w0 o a w → QStep P l.toArray R o a w (lookS L (k + i))
  | [], _, _, _, _, h => by simp at h
  | o :: r, k, h, 0, o', h' => by simp at h'; subst h'; exact h.1
  | o :: r, k, h, i + 1, o', h' => by
    have := OblR.get r (k + 1) h.2 i o' (by simpa using h')
    rwa [show k + 1 + i = k + (i + 1) from by omega] at this
theorem wp_region_specR {P : Program} {id : Nat} {Q : Exit → Act → World → Prop} {a0 : Act} {w0 : World} {l : List Oper} (R : World → World → Prop) (hrefl : ∀ w, R w w) (htrans : ∀ u v w, R u v → R v w → R u w) (hdrew : ∀ w : World, R w { w with drawn := w.drawn + 1 }) (n : Nat) (L : List (Value → World → Prop)) (hst : AllStableR R L)
    (hm : P.follows .mixedOrders = true) (hB : specB l.toArray n = true) (hsz : (l.take n).all (fun o => match o.dst with | some d => decide (d < a0.tmps.size) | none => true) = true)
    (hstep : OblR P l (l.take n) R L a0 w0 (l.take n) 0)
    (hend : ∀ vals w, R w0 w → (∀ i, i < n → lookS L i (vals i) w) → wpList P l.toArray Q (l.drop n) (fillAll (l.take n) 0 vals a0) w) :
    (Code.region id l.toArray true).wp P Q a0 w0 :=
  wp_region_specRD R htrans hrefl hdrew n (lookS L) hm hB hsz (fun i _ v w w' h hb => lookS_stableR L i hst v w w' h hb) (fun i o hi ho a w hc => by
      have := OblR.get (l.take n) 0 hstep i o (by rw [List.getElem?_take_of_lt hi]; exact ho) a w hc
      rwa [Nat.zero_add] at this) hend

end Go.Proofs.YtllmgmfihijejaaGreatDoor
/-
  A region that DRAWS ITS ORDER and fills maps: some of its operations have no value of their own; the word on such a one is on the map that it fills.
-/
namespace Go.Proofs.YtllmgmfihijejaaGreatDoor
open Go.RowKit

/-- the destinations, where there are any, are each another -/
def dstsN : List Oper → Bool
  | [] => true
  | o :: r => (o.dst.isNone || r.all (fun o' => o'.dst != o.dst)) && dstsN r
def specN (ops : Array Oper) (n : Nat) : Bool :=
  decide (n ≤ ops.size) && dstsN (ops.toList.take n) &&
  ((ops.toList.take n).zipIdx.all fun (o, i) => o.after.all fun e => !Region.binds .any e || decide (e.on < i)) &&
  (decide (n = ops.size) || (Region.sinkB .any ops n && Region.chainB .any ops n)) &&
  Region.seqB .any ops (ops.size - n) n (headListed n (ops.size - n))
def ownT (o : Oper) : Option Tmp := match o.op with | .insert _ (.tmp d) _ _ => some d | .store _ (.tmp d) _ => some d | _ => none
/-- what stands in for the value of an operation that has none -/
def ghost (o : Oper) (a : Act) : Value := match ownT o with | some d => a.eval (.tmp d) | none => undef
def Linked (l : List Oper) (listed : Nat → Bool) (vals : Nat → Value) : Prop :=
  ∀ i o d j oj, l[i]? = some o → o.dst = none → ownT o = some d → l[j]? = some oj → oj.dst = some d → o.after.toList.any (fun e => Region.binds .any e && e.on == j) = true → listed i = true → vals i = vals j

theorem fillN_set : ∀ (l : List Oper) (k i : Nat) (listed : Array Bool) (vals : Nat → Value) (a : Act) (o : Oper) (d : Tmp) (v : Value), dstsN l = true → l[i]? = some o → o.dst = some d →
    listed.getD (k + i) true = false →
    fill l k (listed.setIfInBounds (k + i) true) (fun j => if j = k + i then v else vals j) a = (fill l k listed vals a).put (some d) v
  | [], _, _, _, _, _, _, _, _, _, h, _, _ => by simp at h
  | o :: r, k, 0, listed, vals, a, o', d, v, hd, h, hod, hl => by
    simp at h; subst h
    simp only [dstsN, Bool.and_eq_true, Bool.or_eq_true] at hd
    obtain ⟨hall, hr⟩ := hd
    have hne : ∀ o' ∈ r, o'.dst ≠ some d := by
      intro o' ho' e
      rcases hall with h0 | hall
      · rw [hod] at h0; simp at h0
      · have := List.all_eq_true.1 hall o' ho'
        rw [e, hod] at this; simp at this
    have h1 : (listed.setIfInBounds k true).getD k false = true := by
      have hk : k < listed.size := by
        rcases Nat.lt_or_ge k listed.size with h' | h'
        · exact h'
        · simp [Array.getElem?_eq_none h'] at hl
      simp [hk]
    have h2 : listed.getD k false = false := getD_both (by simpa using hl)
    simp only [Nat.add_zero, fill, h1, h2, if_true, Bool.false_eq_true, if_false, hod]
    rw [fill_put r (k + 1) _ _ a d v hne]
    congr 1
    refine fill_congr r (k + 1) _ _ _ _ a (fun i hi => ⟨?_, by rw [if_neg (by omega)]⟩)
    exact getD_set_ne false (by omega)
  | o :: r, k, i + 1, listed, vals, a, o', d, v, hd, h, hod, hl => by
    simp only [dstsN, Bool.and_eq_true] at hd
    simp only [List.getElem?_cons_succ] at h
    have ih := fillN_set r (k + 1) i listed vals (if listed.getD k false then a.put o.dst (vals k) else a) o' d v hd.2 h hod (by rwa [show k + 1 + i = k + (i + 1) from by omega])
    simp only [fill]
    rw [show k + (i + 1) = k + 1 + i from by omega, getD_set_ne false (by omega), if_neg (by omega : ¬ k = k + 1 + i)]
    exact ih
theorem fillN_none : ∀ (l : List Oper) (k i : Nat) (listed : Array Bool) (vals : Nat → Value) (a : Act) (o : Oper) (v : Value), l[i]? = some o → o.dst = none →
    listed.getD (k + i) true = false →
    fill l k (listed.setIfInBounds (k + i) true) (fun j => if j = k + i then v else vals j) a = fill l k listed vals a
  | [], _, _, _, _, _, _, _, h, _, _ => by simp at h
  | o :: r, k, 0, listed, vals, a, o', v, h, hod, hl => by
    simp at h; subst h
    have h2 : listed.getD k false = false := getD_both (by simpa using hl)
    simp only [Nat.add_zero, fill, h2, hod, Bool.false_eq_true, if_false]
    have hp : ∀ (b : Bool) (u : Value), (if b = true then a.put none u else a) = a := by intro b u; cases b <;> rfl
    rw [hp]
    refine fill_congr r (k + 1) _ _ _ _ a (fun i hi => ⟨?_, by rw [if_neg (by omega)]⟩)
    exact getD_set_ne false (by omega)
  | o :: r, k, i + 1, listed, vals, a, o', v, h, hod, hl => by
    simp only [List.getElem?_cons_succ] at h
    have ih := fillN_none r (k + 1) i listed vals (if listed.getD k false then a.put o.dst (vals k) else a) o' v h hod (by rwa [show k + 1 + i = k + (i + 1) from by omega])
    simp only [fill]
    rw [show k + (i + 1) = k + 1 + i from by omega, getD_set_ne false (by omega), if_neg (by omega : ¬ k = k + 1 + i)]
    exact ih
theorem fillN_at : ∀ (l : List Oper) (k : Nat) (listed : Array Bool) (vals : Nat → Value) (a : Act) (j : Nat) (o : Oper) (d : Tmp), dstsN l = true → l[j]? = some o → o.dst = some d → d < a.tmps.size →
    listed.getD (k + j) false = true → (fill l k listed vals a).eval (.tmp d) = vals (k + j)
  | [], _, _, _, _, _, _, _, _, h, _, _, _ => by simp at h
  | o :: r, k, listed, vals, a, 0, o', d, hd, h, hod, hsz, hl => by
    simp at h; subst h
    simp only [dstsN, Bool.and_eq_true, Bool.or_eq_true] at hd
    obtain ⟨hall, hr⟩ := hd
    simp only [Nat.add_zero] at hl ⊢
    simp only [fill, hl, if_true, hod]
    rw [fill_frame r (k + 1) listed vals _ d (by
      rw [Bool.eq_false_iff]
      intro hc
      obtain ⟨o', ho', e⟩ := List.any_eq_true.1 hc
      rcases hall with h0 | hall
      · rw [hod] at h0; simp at h0
      · have := List.all_eq_true.1 hall o' ho'
        rw [hod] at this
        simp at e this; exact this e), put_tmps_same a d _ hsz]
  | o :: r, k, listed, vals, a, j + 1, o', d, hd, h, hod, hsz, hl => by
    simp only [dstsN, Bool.and_eq_true] at hd
    simp only [fill]
    rw [show k + (j + 1) = k + 1 + j from by omega] at hl ⊢
    exact fillN_at r (k + 1) listed vals _ j o' d hd.2 (by simpa using h) hod (by split <;> simp [put_size, hsz]) hl

theorem wp_region_specMD {P : Program} {id : Nat} {Q : Exit → Act → World → Prop} {a0 : Act} {w0 : World} {l : List Oper} (R : World → World → Prop) (htrans : ∀ u v w, R u v → R v w → R u w) (hrefl : ∀ w, R w w) (hdrew : ∀ w : World, R w { w with drawn := w.drawn + 1 }) (n : Nat) (Ss : Nat → Value → World → Prop)
    (hm : P.follows .mixedOrders = true) (hB : specN l.toArray n = true) (hsz : (l.take n).all (fun o => match o.dst with | some d => decide (d < a0.tmps.size) | none => true) = true)
    (hst : ∀ i, i < n → ∀ v w w', Ss i v w → R w w' → Ss i v w')
    (hstep : ∀ i o, i < n → l[i]? = some o → ∀ a w, RCtxR (l.take n) Ss R a0 w0 o a w → QStep P l.toArray R o a w (fun v w' => Ss i v w' ∧ (o.dst = none → v = ghost o a)))
    (hend : ∀ vals w, R w0 w → (∀ i, i < n → Ss i (vals i) w) → Linked (l.take n) (fun _ => true) vals → wpList P l.toArray Q (l.drop n) (fillAll (l.take n) 0 vals a0) w) :
    (Code.region id l.toArray true).wp P Q a0 w0 := by
  simp only [specN, Bool.and_eq_true, decide_eq_true_eq] at hB
  obtain ⟨⟨⟨⟨hn, hd⟩, haf⟩, hsink⟩, hseq⟩ := hB
  have hn' : n ≤ l.length := by simpa using hn
  have hd' : dstsN (l.take n) = true := hd
  have htl : (l.take n).length = n := by simp; omega
  have key : ∀ (rem : List Nat) (f : Nat), rem.length = f → rem.Nodup → ∀ (listed : Array Bool) (a : Act) (w : World), HeadInv .any l.toArray n listed →
      (∀ i, i ∈ rem ↔ (i < n ∧ listed.getD i true = false)) → (∃ vals, a = fill (l.take n) 0 listed vals a0 ∧ (∀ i, i < n → listed.getD i false = true → Ss i (vals i) w) ∧ Linked (l.take n) (fun i => listed.getD i false) vals) → R w0 w →
      wpAny P .any l.toArray Q (f + (l.toArray.size - n)) listed a w := by
    intro rem f
    induction f generalizing rem with
    | zero =>
      intro hl _ listed a w inv hrem ⟨vals, ha, hv, hlk⟩ hb
      have hr : rem = [] := List.length_eq_zero_iff.1 hl
      subst hr
      have hall : ∀ i, i < n → listed.getD i false = true := by
        intro i hi
        have h1 : ¬ listed.getD i true = false := fun h => by have := (hrem i).2 ⟨hi, h⟩; simp at this
        have h2 : i < listed.size := by rw [inv.size]; omega
        rw [Array.getD_eq_getD_getElem?, Array.getElem?_eq_getElem h2] at h1 ⊢
        simpa using h1
      have hlist := listed_head hn inv hall
      have hw := hend vals w hb (fun i hi => hv i hi (hall i hi)) (fun i oi d j oj h1 h2 h3 h4 h5 h6 _ => hlk i oi d j oj h1 h2 h3 h4 h5 h6 (hall i (by have := (List.getElem?_eq_some_iff.1 h1).1; omega)))
      rw [← fill_all (l.take n) 0 listed vals a0 (fun i hi => by rw [Nat.zero_add]; exact hall i (by omega)), ← ha] at hw
      rw [Nat.zero_add]
      have hdl : (l.drop n).length = l.toArray.size - n := by simp
      rw [← hdl]
      refine wpAny_of_seq (l.drop n) n listed a w (fun j => by simp) ?_ hw
      rw [hdl, hlist]; exact hseq
    | succ f ih =>
      intro hl hnd listed a w inv hrem ⟨vals, ha, hv, hlk⟩ hb
      -- the least that is not listed is ready
      have hex : ∃ i, i ∈ rem ∧ ∀ j, j ∈ rem → i ≤ j := by
        have : ∀ (r : List Nat), r ≠ [] → ∃ i, i ∈ r ∧ ∀ j, j ∈ r → i ≤ j := by
          intro r
          induction r with
          | nil => intro h; exact (h rfl).elim
          | cons x r ihr =>
            intro _
            by_cases hr : r = []
            · subst hr; exact ⟨x, by simp, by simp⟩
            · obtain ⟨i, hi, hmin⟩ := ihr hr
              by_cases hx : x ≤ i
              · exact ⟨x, by simp, fun j hj => by rcases List.mem_cons.1 hj with rfl | hj; exact Nat.le_refl _; exact Nat.le_trans hx (hmin j hj)⟩
              · exact ⟨i, by simp [hi], fun j hj => by rcases List.mem_cons.1 hj with rfl | hj; omega; exact hmin j hj⟩
        exact this rem (by intro h; subst h; simp at hl)
      have hready : Region.ready .any l.toArray listed ≠ [] := by
        obtain ⟨i, hi, hmin⟩ := hex
        obtain ⟨hin, hil⟩ := (hrem i).1 hi
        have hlt : i < l.length := by omega
        have hmem : i ∈ Region.ready .any l.toArray listed := by
          refine mem_ready.2 ⟨hil, l[i], by simp [hlt], fun e he hbd => ?_⟩
          have h1 := List.all_eq_true.1 haf (l[i], i) (by
            rw [List.mem_zipIdx_iff_getElem?]; simp [hin, hlt])
          have h2 := Array.all_eq_true'.1 h1 e he
          simp [hbd] at h2
          have hj : ¬ e.on ∈ rem := fun h => by have := hmin _ h; omega
          have h3 : ¬ listed.getD e.on true = false := fun h => hj ((hrem _).2 ⟨by omega, h⟩)
          have h4 : e.on < listed.size := by rw [inv.size]; simp; omega
          rw [Array.getD_eq_getD_getElem?, Array.getElem?_eq_getElem h4] at h3 ⊢
          simpa using h3
        intro h; rw [h] at hmem; simp at hmem
      rw [show f + 1 + (l.toArray.size - n) = (f + (l.toArray.size - n)) + 1 from by omega]
      refine ⟨fun h => (hready h).elim, fun i hi => ?_⟩
      obtain ⟨hil, o, ho, haft⟩ := mem_ready.1 hi
      have hin : i < n := by
        rcases Nat.lt_or_ge i n with h | h
        · exact h
        · exfalso
          obtain ⟨i', hi', _⟩ := hex
          obtain ⟨hin', hil'⟩ := (hrem i').1 hi'
          have hisz : i < l.toArray.size := (Array.getElem?_eq_some_iff.1 ho).1
          simp only [Bool.or_eq_true, decide_eq_true_eq, Bool.and_eq_true] at hsink
          rcases hsink with h0 | ⟨hs, hc⟩
          · omega
          · exact tail_waits hs hc (by omega) inv (n - i') i' rfl hin' hil' i h hi
      have ho' : l[i]? = some o := by simpa using ho
      have hot : (l.take n)[i]? = some o := by rw [List.getElem?_take_of_lt hin]; exact ho'
      have hbd : ∀ (j : Nat) (oj : Oper) (dj : Tmp), (l.take n)[j]? = some oj → oj.dst = some dj → dj < a0.tmps.size := by
        intro j oj dj hj hdj
        have := List.all_eq_true.1 hsz oj (List.mem_of_getElem? hj)
        simpa [hdj] using this
      have hctx : RCtxR (l.take n) Ss R a0 w0 o a w := by
        refine ⟨hb, fun t ht => by rw [ha]; exact fill_frame _ _ _ _ _ t ht, fun j dj hj hdj => ?_⟩
        obtain ⟨e, he, hbe⟩ := List.any_eq_true.1 hj
        simp only [Bool.and_eq_true, beq_iff_eq] at hbe
        have hlj := haft e (Array.mem_toList_iff.1 he) hbe.1
        rw [hbe.2] at hlj
        obtain ⟨oj, hoj, hdj'⟩ := Option.bind_eq_some_iff.1 hdj
        have hjn : j < n := by have := (List.getElem?_eq_some_iff.1 hoj).1; omega
        rw [ha, fillN_at _ 0 listed vals a0 j oj dj hd' hoj hdj' (hbd j oj dj hoj hdj') (by rw [Nat.zero_add]; exact hlj), Nat.zero_add]
        exact hv j hjn hlj
      have hstep' := hstep i o hin ho' a w hctx
      have hclosed : ∀ k ok, l[k]? = some ok → listed.getD k false = true → ∀ j, ok.after.toList.any (fun e => Region.binds .any e && e.on == j) = true → listed.getD j false = true := by
        intro k ok hk hlk' j hj
        obtain ⟨e, he, hbe⟩ := List.any_eq_true.1 hj
        simp only [Bool.and_eq_true, beq_iff_eq] at hbe
        have := inv.closed k ok (by simpa using hk) hlk' e (Array.mem_toList_iff.1 he) hbe.1
        rwa [hbe.2] at this
      have hownd : ∀ j, o.after.toList.any (fun e => Region.binds .any e && e.on == j) = true → listed.getD j false = true := by
        intro j hj
        obtain ⟨e, he, hbe⟩ := List.any_eq_true.1 hj
        simp only [Bool.and_eq_true, beq_iff_eq] at hbe
        have := haft e (Array.mem_toList_iff.1 he) hbe.1
        rwa [hbe.2] at this
      have hnl : ∀ j, listed.getD j false = true → j ≠ i := by
        intro j hj e; subst e; rw [getD_both hil] at hj; cases hj
      have hnext : ∀ v w', R w w' → Ss i v w' → (o.dst = none → v = ghost o a) → wpAny P .any l.toArray Q (f + (l.toArray.size - n)) (listed.setIfInBounds i true) (a.put o.dst v) w' := by
        intro v w' hbw hsv hgh
        have hmemi : i ∈ rem := (hrem i).2 ⟨hin, hil⟩
        refine ih (rem.erase i) (by rw [List.length_erase_of_mem hmemi, hl]; rfl) (hnd.erase i) _ _ w' (inv.set hi hin) (fun j => ?_) ⟨fun j => if j = i then v else vals j, ?_, fun j hj hlj => ?_, ?_⟩ (htrans _ _ _ hb hbw)
        · rw [hnd.mem_erase_iff, hrem j]
          by_cases hji : j = i
          · subst hji
            have hjs : j < listed.size := by rw [inv.size]; simp; omega
            simp [hjs]
          · rw [getD_set_ne true (fun e => hji e.symm)]
            simp [hji]
        · cases hod : o.dst with
          | some d =>
            have := fillN_set (l.take n) 0 i listed vals a0 o d v hd' hot hod (by rw [Nat.zero_add]; exact hil)
            rw [Nat.zero_add] at this
            rw [this, ← ha]
          | none =>
            have := fillN_none (l.take n) 0 i listed vals a0 o v hot hod (by rw [Nat.zero_add]; exact hil)
            rw [Nat.zero_add] at this
            rw [this, ← ha]; rfl
        · by_cases hji : j = i
          · subst hji; simpa using hsv
          · show Ss j (if j = i then v else vals j) w'
            rw [if_neg hji]
            rw [getD_set_ne false (fun e => hji e.symm)] at hlj
            exact hst j hj _ _ _ (hv j hj hlj) hbw
        · intro k ok d j oj h1 h2 h3 h4 h5 h6 h7
          show (if k = i then v else vals k) = (if j = i then v else vals j)
          by_cases hki : k = i
          · subst hki
            rw [hot] at h1; cases h1
            have hjl := hownd j h6
            rw [if_pos rfl, if_neg (hnl j hjl), hgh h2]
            unfold ghost; rw [h3]
            show a.eval (.tmp d) = vals j
            rw [ha, fillN_at _ 0 listed vals a0 j oj d hd' h4 h5 (hbd j oj d h4 h5) (by rw [Nat.zero_add]; exact hjl), Nat.zero_add]
          · replace h7 : (listed.setIfInBounds i true).getD k false = true := h7
            rw [getD_set_ne false (fun e => hki e.symm)] at h7
            have hkn : k < n := by have := (List.getElem?_eq_some_iff.1 h1).1; omega
            have hjl := hclosed k ok (by rw [← h1, List.getElem?_take_of_lt hkn]) h7 j h6
            rw [if_neg hki, if_neg (hnl j hjl)]
            exact hlk k ok d j oj h1 h2 h3 h4 h5 h6 h7
      unfold wpOp
      simp only [ho]
      unfold QStep at hstep'
      split
      · rename_i hw
        rw [if_pos hw] at hstep'
        refine .inl (wpQ_mono (Oper.wp_mono (fun a' w' ⟨v, e, hbw, hsv, hgh⟩ => ?_) hstep'))
        subst e
        exact hnext v w' hbw hsv hgh
      · rename_i hw
        rw [if_neg hw] at hstep'
        exact hnext undef w (hrefl w) hstep'.1 hstep'.2
  refine wp_region_any hm ?_
  have h0 := key (List.range n) n (by simp) List.nodup_range (Array.replicate l.toArray.size false) a0 { w0 with drawn := w0.drawn + 1 }
    ⟨by simp, fun j oj _ hl => (by rw [getD_replicate_false] at hl; cases hl), fun t _ ht => getD_in (by simpa using ht) (getD_replicate_false _ _)⟩
    (fun i => by
      rw [List.mem_range]
      constructor
      · intro h; exact ⟨h, getD_in (by simp; omega) (getD_replicate_false _ _)⟩
      · intro h; exact h.1)
    ⟨fun _ => undef, (fill_none _ _ _ _ _ (fun i => getD_replicate_false _ _)).symm, fun i _ h => (by rw [getD_replicate_false] at h; cases h), fun _ _ _ _ _ _ _ _ _ _ _ _ => rfl⟩
    (hdrew w0)
  rw [show n + (l.toArray.size - n) = l.toArray.size from by omega] at h0
  exact h0


def OblM (P : Program) (l hd : List Oper) (R : World → World → Prop) (L : List (Value → World → Prop)) (a0 : Act) (w0 : World) : List Oper → Nat → Prop
  | [], _ => True
  | o :: r, i => (∀ a w, RCtxR hd (lookS L) R a0 w0 o a w → QStep P l.toArray R o a w (fun v w' => lookS L i v w' ∧ (o.dst = none → v = ghost o a))) ∧ OblM P l hd R L a0 w0 r (i + 1)
theorem OblM.get {P : Program} {l hd : List Oper} {R : World → World → Prop} {L : List (Value → World → Prop)} {a0 : Act} {w0 : World} : ∀ (r : List Oper) (k : Nat), OblM P l hd R L a0 w0 r k → ∀ i o, r[i]? = some o →
    ∀ a w, RCtxR hd (lookS L) R a0 w0 o a w → QStep P l.toArray R o a w (fun v w' => lookS L (k + i) v w' ∧ (o.dst = none → v = ghost o a))
  | [], _, _, _, _, h => by simp at h
  | o :: r, k, h, 0, o', h' => by simp at h'; subst h'; exact h.1
  | o :: r, k, h, i + 1, o', h' => by
    have := OblM.get r (k + 1) h.2 i o' (by simpa using h')
    rwa [show k + 1 + i = k + (i + 1) from by omega] at this
theorem wp_region_specM {P : Program} {id : Nat} {Q : Exit → Act → World → Prop} {a0 : Act} {w0 : World} {l : List Oper} (R : World → World → Prop) (hrefl : ∀ w, R w w) (htrans : ∀ u v w, R u v → R v w → R u w) (hdrew : ∀ w : World, R w { w with drawn := w.drawn + 1 }) (n : Nat) (L : List (Value → World → Prop)) (hst : AllStableR R L)
    (hm : P.follows .mixedOrders = true) (hB : specN l.toArray n = true) (hsz : (l.take n).all (fun o => match o.dst with | some d => decide (d < a0.tmps.size) | none => true) = true)
    (hstep : OblM P l (l.take n) R L a0 w0 (l.take n) 0)
    (hend : ∀ vals w, R w0 w → (∀ i, i < n → lookS L i (vals i) w) → Linked (l.take n) (fun _ => true) vals → wpList P l.toArray Q (l.drop n) (fillAll (l.take n) 0 vals a0) w) :
    (Code.region id l.toArray true).wp P Q a0 w0 :=
  wp_region_specMD R htrans hrefl hdrew n (lookS L) hm hB hsz (fun i _ v w w' h hb => lookS_stableR L i hst v w w' h hb) (fun i o hi ho a w hc => by
      have := OblM.get (l.take n) 0 hstep i o (by rw [List.getElem?_take_of_lt hi]; exact ho) a w hc
      rwa [Nat.zero_add] at this) hend

end Go.Proofs.YtllmgmfihijejaaGreatDoor
