/-
  Plain laws on sets of bytes, as four numbers of 64 bits: no program in sight.
-/
import Derived.Test.YtkkilngihkdnaaaBase
namespace Go.Proofs.Ytkkilngihkdnaaa
open Go.RowKit

/-- a set: its four numbers -/
def setV (s : Nat → Nat) : Value := .agg #[.int .u64 (s 0), .int .u64 (s 1), .int .u64 (s 2), .int .u64 (s 3)]
def setC (s : Nat → Nat) : Array Value := #[.int .u64 (s 0), .int .u64 (s 1), .int .u64 (s 2), .int .u64 (s 3)]
def SetOk (s : Nat → Nat) : Prop := ∀ k, k < 4 → s k < 2 ^ 64
def hasB (s : Nat → Nat) (b : Nat) : Bool := (s (b / 64)).testBit (b % 64)

theorem setV_ext {s t : Nat → Nat} (hs : SetOk s) (ht : SetOk t) (h : ∀ b, b < 256 → hasB s b = hasB t b) : setV s = setV t := by
  have e : ∀ k, k < 4 → s k = t k := by
    intro k hk
    apply Nat.eq_of_testBit_eq
    intro i
    by_cases hi : i < 64
    · have := h (64 * k + i) (by omega)
      unfold hasB at this
      rw [show (64 * k + i) / 64 = k from by omega, show (64 * k + i) % 64 = i from by omega] at this
      exact this
    · rw [Nat.testBit_lt_two_pow (Nat.lt_of_lt_of_le (hs k hk) (Nat.pow_le_pow_right (by omega) (by omega))), Nat.testBit_lt_two_pow (Nat.lt_of_lt_of_le (ht k hk) (Nat.pow_le_pow_right (by omega) (by omega)))]
  unfold setV
  rw [e 0 (by omega), e 1 (by omega), e 2 (by omega), e 3 (by omega)]

theorem setV_words {s t : Nat → Nat} (h : setV s = setV t) : ∀ k, k < 4 → s k = t k := by
  unfold setV at h
  simp only [Value.agg.injEq] at h
  have h' := congrArg Array.toList h
  simp at h'
  intro k hk
  match k, hk with
  | 0, _ => omega
  | 1, _ => omega
  | 2, _ => omega
  | 3, _ => omega

theorem setV_has {s t : Nat → Nat} (h : setV s = setV t) {b : Nat} (hb : b < 256) : hasB s b = hasB t b := by
  unfold hasB; rw [setV_words h _ (by omega)]

def emptyS : Nat → Nat := fun _ => 0
def fullS : Nat → Nat := fun _ => 2 ^ 64 - 1
def orS (s t : Nat → Nat) : Nat → Nat := fun k => s k ||| t k
def andS (s t : Nat → Nat) : Nat → Nat := fun k => s k &&& t k
def notS (s : Nat → Nat) : Nat → Nat := fun k => 2 ^ 64 - 1 - s k
def addS (s : Nat → Nat) (b : Nat) : Nat → Nat := fun k => if k = b / 64 then s k ||| 2 ^ (b % 64) else s k

theorem emptyS_ok : SetOk emptyS := fun k _ => by simp [emptyS]
theorem fullS_ok : SetOk fullS := fun k _ => by simp [fullS]
theorem orS_ok {s t : Nat → Nat} (hs : SetOk s) (ht : SetOk t) : SetOk (orS s t) := fun k hk => Nat.or_lt_two_pow (hs k hk) (ht k hk)
theorem andS_ok {s t : Nat → Nat} (hs : SetOk s) : SetOk (andS s t) := fun k hk => Nat.lt_of_le_of_lt Nat.and_le_left (hs k hk)
theorem notS_ok (s : Nat → Nat) : SetOk (notS s) := fun k _ => by unfold notS; omega
theorem addS_ok {s : Nat → Nat} (hs : SetOk s) (b : Nat) : SetOk (addS s b) := fun k hk => by
  unfold addS
  split
  · exact Nat.or_lt_two_pow (hs k hk) (Nat.pow_lt_pow_right (by omega) (by omega))
  · exact hs k hk

theorem has_empty (b : Nat) : hasB emptyS b = false := by simp [hasB, emptyS]
theorem has_or (s t : Nat → Nat) (b : Nat) : hasB (orS s t) b = (hasB s b || hasB t b) := by simp [hasB, orS, Nat.testBit_or]
theorem has_and (s t : Nat → Nat) (b : Nat) : hasB (andS s t) b = (hasB s b && hasB t b) := by simp [hasB, andS, Nat.testBit_and]
theorem has_full (b : Nat) : hasB fullS b = true := by
  unfold hasB fullS
  rw [Nat.testBit_two_pow_sub_one]; simp; omega
theorem has_not {s : Nat → Nat} (hs : SetOk s) {b : Nat} (hb : b < 256) : hasB (notS s) b = !hasB s b := by
  unfold hasB notS
  have h := Nat.testBit_two_pow_sub_succ (hs (b / 64) (by omega)) (b % 64)
  rw [show 2 ^ 64 - (s (b / 64) + 1) = 2 ^ 64 - 1 - s (b / 64) from by omega] at h
  rw [h]; simp; omega
theorem has_add {s : Nat → Nat} (b c : Nat) : hasB (addS s b) c = (hasB s c || decide (c = b)) := by
  unfold hasB addS
  split
  · rename_i h
    rw [Nat.testBit_or, Nat.testBit_two_pow]
    congr 1
    rw [decide_eq_decide]
    omega
  · rename_i h
    have : ¬ c = b := fun e => h (by rw [e])
    simp [this]

theorem bit_nat (x r : Nat) : (x / 2 ^ r % 2 = 1) ↔ x.testBit r = true := by
  rw [Nat.testBit_eq_decide_div_mod_eq]; simp

/-- the walk's form of a bit that is asked for -/
theorem bit_walk (x r : Nat) (hx : x < 2 ^ 64) : (bits .and .u64 ((x : Int) / 2 ^ r) 1 == 1) = x.testBit r := by
  have e : ((x : Int) / 2 ^ r) = ((x / 2 ^ r : Nat) : Int) := by simp
  rw [e]
  have hlt : x / 2 ^ r < 18446744073709551616 := Nat.lt_of_le_of_lt (Nat.div_le_self _ _) hx
  have h := u64_and_nat (x / 2 ^ r) 1 hlt (by omega)
  rw [show ((1 : Nat) : Int) = 1 from rfl] at h
  rw [h, nat_mask1, Bool.eq_iff_iff, ← bit_nat]
  simp
  omega

/-- a block that holds a set -/
def SBox (W : World) (B : Nat) (T : TypeId) (s : Nat → Nat) : Prop := W.heap[B]? = some (.cells (setC s) T (0, 0))

theorem SBox.lt {W : World} {B : Nat} {T : TypeId} {s : Nat → Nat} (h : SBox W B T s) : B < W.heap.size := (Array.getElem?_eq_some_iff.1 h).1
theorem SBox.cell {W : World} {B : Nat} {T : TypeId} {s : Nat → Nat} (h : SBox W B T s) {k : Nat} (hk : k < 4) : W.cell? ⟨B, k, none⟩ = some (.int .u64 (s k)) := by
  rw [cell_of_row W B k _ _ _ h]
  unfold setC
  match k, hk with
  | 0, _ => rfl
  | 1, _ => rfl
  | 2, _ => rfl
  | 3, _ => rfl
theorem SBox.frozen {W : World} {B : Nat} {T : TypeId} {s : Nat → Nat} (h : SBox W B T s) (k : Nat) : W.frozen? ⟨B, k, none⟩ = false := by
  simp [World.frozen?, show W.heap[B]? = _ from h]
theorem SBox.new (W : World) (T : TypeId) (s : Nat → Nat) : SBox (W.alloc (.cells (setC s) T)) W.heap.size T s := World.alloc_heap_new W _
theorem SBox.below {W W' : World} {n B : Nat} {T : TypeId} {s : Nat → Nat} (h : SBox W B T s) (hb : Below n W W') (hB : B < n) : SBox W' B T s := (hb.block B hB).trans h
theorem SBox.alloc {W : World} {B : Nat} {T : TypeId} {s : Nat → Nat} (h : SBox W B T s) (o : Obj) : SBox (W.alloc o) B T s := (Below.heap_alloc W o B h.lt).trans h
theorem SBox.other {W : World} {B B' : Nat} {T : TypeId} {s : Nat → Nat} (h : SBox W B T s) (hne : B ≠ B') (k : Nat) (v : Value) : SBox (W.setCell ⟨B', k, none⟩ v) B T s := (Below.heap_setCell W _ _ B hne).trans h
theorem SBox.set {W : World} {B : Nat} {T : TypeId} {s : Nat → Nat} (h : SBox W B T s) {k : Nat} (hk : k < 4) (x : Nat) : SBox (W.setCell ⟨B, k, none⟩ (.int .u64 x)) B T (fun j => if j = k then x else s j) := by
  obtain ⟨hlt, hh⟩ := Array.getElem?_eq_some_iff.1 h
  show (W.heap.modify B _)[B]? = _
  rw [Array.getElem?_eq_getElem (by rw [Array.size_modify]; exact hlt), Array.getElem_modify_self, hh]
  unfold setC
  match k, hk with
  | 0, _ => rfl
  | 1, _ => rfl
  | 2, _ => rfl
  | 3, _ => rfl
theorem SBox.ext {W : World} {B : Nat} {T : TypeId} {s t : Nat → Nat} (h : SBox W B T s) (e : ∀ k, k < 4 → s k = t k) : SBox W B T t := by
  unfold SBox setC at *
  rw [h, e 0 (by omega), e 1 (by omega), e 2 (by omega), e 3 (by omega)]
theorem setV_congr {s t : Nat → Nat} (e : ∀ k, k < 4 → s k = t k) : setV s = setV t := by
  unfold setV; rw [e 0 (by omega), e 1 (by omega), e 2 (by omega), e 3 (by omega)]

/-- a slice value that reads as a row of sets, in a block below b0 -/
def RdS (w : World) (b0 : Nat) (v : Value) (L : List (Nat → Nat)) : Prop :=
  ((∃ q, v = .slice q 0 0) ∧ L = []) ∨ ∃ b off cap, v = .slice (some ⟨b, off, none⟩) L.length cap ∧ b < b0 ∧ L.length ≤ cap ∧ cap ≤ maxLen ∧
    ∀ j, (hj : j < L.length) → ∀ k, k < 4 → w.cell? ⟨b, off + j * 4 + k, none⟩ = some (.int .u64 (L[j] k))

theorem RdS.below {w w' : World} {b0 : Nat} {v : Value} {L : List (Nat → Nat)} (h : RdS w b0 v L) (hb : Below b0 w w') : RdS w' b0 v L := by
  rcases h with h | ⟨b, off, cap, e, h1, h2, h3, h4⟩
  · exact .inl h
  · exact .inr ⟨b, off, cap, e, h1, h2, h3, fun j hj k hk => (hb.cell (p := ⟨b, off + j * 4 + k, none⟩) h1).trans (h4 j hj k hk)⟩
theorem RdS.up {w : World} {b0 b1 : Nat} {v : Value} {L : List (Nat → Nat)} (h : RdS w b0 v L) (hb : b0 ≤ b1) : RdS w b1 v L := by
  rcases h with h | ⟨b, off, cap, e, h1, h2, h3, h4⟩
  · exact .inl h
  · exact .inr ⟨b, off, cap, e, by omega, h2, h3, h4⟩

/-- 'each' : a row of sets, one behind the other -/
def foldS (op : Nat → Nat → Nat) (s : Nat → Nat) (L : List (Nat → Nat)) : Nat → Nat := L.foldl (fun a t k => op (a k) (t k)) s
theorem foldS_snoc (op : Nat → Nat → Nat) (s : Nat → Nat) (L : List (Nat → Nat)) (t : Nat → Nat) : foldS op s (L ++ [t]) = fun k => op (foldS op s L k) (t k) := by simp [foldS]
theorem foldS_ok {op : Nat → Nat → Nat} (hop : ∀ x y, x < 2 ^ 64 → y < 2 ^ 64 → op x y < 2 ^ 64) {L : List (Nat → Nat)} : ∀ {s : Nat → Nat}, SetOk s → (∀ t ∈ L, SetOk t) → SetOk (foldS op s L) := by
  induction L with
  | nil => intro s hs _; exact hs
  | cons t L ih =>
    intro s hs hL
    exact ih (s := fun k => op (s k) (t k)) (fun k hk => hop _ _ (hs k hk) (hL t (by simp) k hk)) (fun u hu => hL u (by simp [hu]))

/-- a whole set stored -/
theorem SBox.set4 {W : World} {B : Nat} {T : TypeId} {t : Nat → Nat} (h : SBox W B T t) (s : Nat → Nat) :
    SBox ((((W.setCell ⟨B, 0, none⟩ (.int .u64 (s 0))).setCell ⟨B, 1, none⟩ (.int .u64 (s 1))).setCell ⟨B, 2, none⟩ (.int .u64 (s 2))).setCell ⟨B, 3, none⟩ (.int .u64 (s 3))) B T s :=
  ((((h.set (k := 0) (by omega) (s 0)).set (k := 1) (by omega) (s 1)).set (k := 2) (by omega) (s 2)).set (k := 3) (by omega) (s 3)).ext (fun k hk => by
    match k, hk with
    | 0, _ => rfl
    | 1, _ => rfl
    | 2, _ => rfl
    | 3, _ => rfl)
theorem below_set4 {W X : World} {B n : Nat} (h : Below n X W) (hB : n ≤ B) (v0 v1 v2 v3 : Value) :
    Below n X ((((W.setCell ⟨B, 0, none⟩ v0).setCell ⟨B, 1, none⟩ v1).setCell ⟨B, 2, none⟩ v2).setCell ⟨B, 3, none⟩ v3) :=
  (((h.setCell (p := ⟨B, 0, none⟩) hB v0).setCell (p := ⟨B, 1, none⟩) hB v1).setCell (p := ⟨B, 2, none⟩) hB v2).setCell (p := ⟨B, 3, none⟩) hB v3

def unionS (L : List (Nat → Nat)) : Nat → Nat := foldS (fun x y => x ||| y) emptyS L
def meetS (L : List (Nat → Nat)) : Nat → Nat := foldS (fun x y => x &&& y) fullS L

theorem or_bound (x y : Nat) (hx : x < 2 ^ 64) (hy : y < 2 ^ 64) : x ||| y < 2 ^ 64 := Nat.or_lt_two_pow hx hy
theorem and_bound (x y : Nat) (hx : x < 2 ^ 64) (_ : y < 2 ^ 64) : x &&& y < 2 ^ 64 := Nat.lt_of_le_of_lt Nat.and_le_left hx
def notop (x _ : Nat) : Nat := 2 ^ 64 - 1 - x
theorem not_bound (x y : Nat) (_ : x < 2 ^ 64) (_ : y < 2 ^ 64) : notop x y < 2 ^ 64 := by unfold notop; omega
theorem foldS_not (s : Nat → Nat) : foldS notop s [emptyS] = notS s := rfl
theorem notS_empty : notS emptyS = fullS := rfl
theorem unionS_ok {L : List (Nat → Nat)} (h : ∀ t ∈ L, SetOk t) : SetOk (unionS L) := foldS_ok or_bound emptyS_ok h
theorem meetS_ok {L : List (Nat → Nat)} (h : ∀ t ∈ L, SetOk t) : SetOk (meetS L) := foldS_ok and_bound fullS_ok h
theorem has_fold_or (L : List (Nat → Nat)) (s : Nat → Nat) (b : Nat) : hasB (foldS (fun x y => x ||| y) s L) b = (hasB s b || L.any (fun t => hasB t b)) := by
  induction L generalizing s with
  | nil => simp [foldS]
  | cons t L ih =>
    have := ih (orS s t)
    rw [show foldS (fun x y => x ||| y) s (t :: L) = foldS (fun x y => x ||| y) (orS s t) L from rfl, this, has_or]
    simp [Bool.or_assoc]
theorem has_union (L : List (Nat → Nat)) (b : Nat) : hasB (unionS L) b = L.any (fun t => hasB t b) := by
  unfold unionS; rw [has_fold_or, has_empty]; simp
theorem has_fold_and (L : List (Nat → Nat)) (s : Nat → Nat) (b : Nat) : hasB (foldS (fun x y => x &&& y) s L) b = (hasB s b && L.all (fun t => hasB t b)) := by
  induction L generalizing s with
  | nil => simp [foldS]
  | cons t L ih =>
    have := ih (andS s t)
    rw [show foldS (fun x y => x &&& y) s (t :: L) = foldS (fun x y => x &&& y) (andS s t) L from rfl, this, has_and]
    simp [Bool.and_assoc]
theorem has_meet (L : List (Nat → Nat)) (b : Nat) : hasB (meetS L) b = L.all (fun t => hasB t b) := by
  unfold meetS; rw [has_fold_and, has_full]; simp

/-- a row of sets laid as one block -/
def rowC (L : List (Nat → Nat)) : List Value := L.flatMap (fun s => (setC s).toList)
theorem rowC_length (L : List (Nat → Nat)) : (rowC L).length = L.length * 4 := by
  induction L with
  | nil => rfl
  | cons s L ih => simp [rowC, setC] at ih ⊢; omega
theorem rowC_get {L : List (Nat → Nat)} {j k : Nat} (hj : j < L.length) (hk : k < 4) : (rowC L)[j * 4 + k]? = some (.int .u64 (L[j] k)) := by
  induction L generalizing j with
  | nil => simp at hj
  | cons s L ih =>
    rw [show rowC (s :: L) = (setC s).toList ++ rowC L from rfl]
    cases j with
    | zero =>
      rw [List.getElem?_append_left (by simp [setC]; omega)]
      match k, hk with
      | 0, _ => rfl
      | 1, _ => rfl
      | 2, _ => rfl
      | 3, _ => rfl
    | succ j =>
      rw [List.getElem?_append_right (by simp [setC]; omega)]
      have := ih (j := j) (by simpa using hj)
      rw [show (j + 1) * 4 + k - (setC s).toList.length = j * 4 + k from by simp [setC]; omega, this]
      simp
theorem RdS.lit (w : World) (L : List (Nat → Nat)) (e : TypeId) (hl : L.length ≤ maxLen) : RdS (w.alloc (.cells (rowC L).toArray e)) (w.heap.size + 1) (.slice (some ⟨w.heap.size, 0, none⟩) L.length L.length) L := by
  refine .inr ⟨w.heap.size, 0, L.length, rfl, by omega, Nat.le_refl _, hl, fun j hj k hk => ?_⟩
  rw [cell_of_row _ w.heap.size (0 + j * 4 + k) (rowC L).toArray e (0, 0) (World.alloc_heap_new w _)]
  simp only [Nat.zero_add, List.getElem?_toArray]
  exact rowC_get hj hk

def ofS (xs : List Int) : Nat → Nat := xs.foldl (fun s b => addS s b.toNat) emptyS
theorem ofS_snoc (xs : List Int) (b : Int) : ofS (xs ++ [b]) = addS (ofS xs) b.toNat := by simp [ofS]
theorem ofS_fold_ok (xs : List Int) : ∀ s, SetOk s → SetOk (xs.foldl (fun s b => addS s b.toNat) s) := by
  induction xs with
  | nil => exact fun s hs => hs
  | cons b xs ih => exact fun s hs => ih _ (addS_ok hs _)
theorem ofS_ok (xs : List Int) : SetOk (ofS xs) := ofS_fold_ok xs _ emptyS_ok
theorem has_of_fold (xs : List Int) (c : Nat) : ∀ s, hasB (xs.foldl (fun s b => addS s b.toNat) s) c = (hasB s c || xs.any (fun b => decide (c = b.toNat))) := by
  induction xs with
  | nil => simp
  | cons b xs ih =>
    intro s
    rw [List.foldl_cons, ih, has_add, List.any_cons, Bool.or_assoc]
theorem has_of (xs : List Int) (c : Nat) : hasB (ofS xs) c = xs.any (fun b => decide (c = b.toNat)) := by
  unfold ofS; rw [has_of_fold, has_empty, Bool.false_or]

/-- what the walk makes of 's[b/64] |= 1 << (b%64)' -/
theorem or_walk (x r : Nat) (hx : x < 2 ^ 64) (hr : r < 64) : bits .or .u64 (x : Int) (IntKind.u64.wrap (2 ^ r)) = ((x ||| 2 ^ r : Nat) : Int) := by
  have h : (2 ^ r : Nat) < 18446744073709551616 := Nat.pow_lt_pow_right (show 1 < 2 by omega) hr
  have e : IntKind.u64.wrap (2 ^ r) = ((2 ^ r : Nat) : Int) := by
    have : ((2 : Int) ^ r) = ((2 ^ r : Nat) : Int) := by simp
    rw [this]
    generalize (2 ^ r : Nat) = m at *
    simp only [IntKind.wrap, IntKind.bits, IntKind.signed]
    simp
    omega
  rw [e]
  exact u64_or_nat x (2 ^ r) hx h

theorem addS_at {S : Nat → Nat} {n q r : Nat} (hq : n / 64 = q) (hr : n % 64 = r) : (fun j => if j = q then S q ||| 2 ^ r else S j) = addS S n := by
  funext j; unfold addS; rw [hq, hr]; split
  · rename_i h; rw [h]
  · rfl

/-- a letter's other case; of other bytes the byte -/
def otherB (b : Nat) : Nat := if 97 ≤ b ||| 32 ∧ b ||| 32 ≤ 122 then b ^^^ 32 else b
theorem otherB_lt {b : Nat} (h : b < 256) : otherB b < 256 := by
  unfold otherB; split
  · exact Nat.xor_lt_two_pow (n := 8) h (by omega)
  · exact h

/-- a set, and its letters' other cases: byte by byte -/
def foldF (s : Nat → Nat) (bs : List Int) : Nat → Nat := bs.foldl (fun o b => unionS [o, ofS [(otherB b.toNat : Int)]]) s
theorem foldF_snoc (s : Nat → Nat) (bs : List Int) (b : Int) : foldF s (bs ++ [b]) = unionS [foldF s bs, ofS [(otherB b.toNat : Int)]] := by simp [foldF]
theorem foldF_ok (bs : List Int) : ∀ {s : Nat → Nat}, SetOk s → SetOk (foldF s bs) := by
  induction bs with
  | nil => exact fun hs => hs
  | cons b bs ih =>
    intro s hs
    exact ih (s := unionS [s, ofS [(otherB b.toNat : Int)]]) (unionS_ok (fun t ht => by
      simp at ht
      rcases ht with rfl | rfl
      · exact hs
      · exact ofS_ok _))
theorem has_foldF (bs : List Int) (c : Nat) : ∀ s, hasB (foldF s bs) c = (hasB s c || bs.any (fun b => decide (c = otherB b.toNat))) := by
  induction bs with
  | nil => intro s; simp [foldF]
  | cons b bs ih =>
    intro s
    rw [show foldF s (b :: bs) = foldF (unionS [s, ofS [(otherB b.toNat : Int)]]) bs from rfl, ih, has_union]
    simp [has_of, Bool.or_assoc]

end Go.Proofs.Ytkkilngihkdnaaa
