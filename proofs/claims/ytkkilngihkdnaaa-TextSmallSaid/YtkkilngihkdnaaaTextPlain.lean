/-
  Plain laws on lines of a row of bytes: no program in sight.
-/
import Derived.Below
namespace Go.Proofs.Ytkkilngihkdnaaa

/-- how many of the starts are ahead of the first one above a place -/
def lineN (xs : List Int) (p : Int) : Nat := (xs.takeWhile (· ≤ p)).length

theorem lineN_stop {xs : List Int} {p : Int} {k : Nat} (hk : k < xs.length) (hpre : ∀ j, j < k → xs.getD j 0 ≤ p) (hx : p < xs.getD k 0) : lineN xs p = k := by
  unfold lineN
  induction xs generalizing k with
  | nil => simp at hk
  | cons x xs ih =>
    cases k with
    | zero => simp at hx; simp [List.takeWhile_cons]; omega
    | succ k =>
      have h0 := hpre 0 (by omega)
      simp at h0
      simp only [List.takeWhile_cons, h0, decide_true, if_true, List.length_cons]
      rw [ih (k := k) (by simpa using hk) (fun j hj => by simpa using hpre (j+1) (by omega)) (by simpa using hx)]

theorem lineN_all {xs : List Int} {p : Int} (hpre : ∀ j, j < xs.length → xs.getD j 0 ≤ p) : lineN xs p = xs.length := by
  unfold lineN
  induction xs with
  | nil => rfl
  | cons x xs ih =>
      have h0 := hpre 0 (by simp)
      simp at h0
      simp only [List.takeWhile_cons, h0, decide_true, if_true, List.length_cons]
      rw [ih (fun j hj => by simpa using hpre (j+1) (by simpa using hj))]

/-- the places of line feeds from a place on, up to another one -/
def feedsTo (B : List Int) (a b : Nat) : List Nat := (List.range' a (b - a)).filter (fun i => B.getD i 0 == 10)
def feeds (B : List Int) (a : Nat) : List Nat := feedsTo B a B.length

theorem feedsTo_self (B : List Int) (a b : Nat) (h : b ≤ a) : feedsTo B a b = [] := by
  unfold feedsTo; rw [show b - a = 0 from by omega]; rfl

theorem feedsTo_succ (B : List Int) (a b : Nat) (h : a ≤ b) : feedsTo B a (b + 1) = feedsTo B a b ++ if B.getD b 0 == 10 then [b] else [] := by
  unfold feedsTo
  rw [show b + 1 - a = (b - a) + 1 from by omega, List.range'_concat, List.filter_append]
  congr 1
  rw [show a + 1 * (b - a) = b from by omega]
  simp [List.filter_cons]

theorem feedsTo_hit {B : List Int} {a b : Nat} (h : a ≤ b) (hx : B.getD b 0 = 10) : feedsTo B a (b + 1) = feedsTo B a b ++ [b] := by
  rw [feedsTo_succ B a b h, hx]; rfl
theorem feedsTo_miss {B : List Int} {a b : Nat} (h : a ≤ b) (hx : B.getD b 0 ≠ 10) : feedsTo B a (b + 1) = feedsTo B a b := by
  rw [feedsTo_succ B a b h, if_neg (by simpa using hx)]; simp

theorem feedsTo_length (B : List Int) (a b : Nat) : (feedsTo B a b).length ≤ b - a := by
  unfold feedsTo
  exact Nat.le_trans (List.length_filter_le _ _) (by simp)

theorem feedsTo_prefix (B : List Int) (a b c : Nat) (h1 : a ≤ b) (h : b ≤ c) : feedsTo B a b <+: feedsTo B a c := by
  induction c with
  | zero => have : b = 0 := by omega
            subst this; exact List.prefix_rfl
  | succ c ih =>
    by_cases e : b = c + 1
    · subst e; exact List.prefix_rfl
    · rw [feedsTo_succ B a c (by omega)]
      exact List.IsPrefix.trans (ih (by omega)) (List.prefix_append _ _)

theorem feedsTo_prefix_feeds (B : List Int) (a b : Nat) (h1 : a ≤ b) (h : b ≤ B.length) : feedsTo B a b <+: feeds B a := feedsTo_prefix B a b _ h1 h

/-- where lines begin -/
def linesTo (B : List Int) (b : Nat) : List Int := 0 :: (feedsTo B 0 b).map (fun k : Nat => (k : Int) + 1)
def lines (B : List Int) : List Int := linesTo B B.length

theorem linesTo_hit {B : List Int} {b : Nat} (hx : B.getD b 0 = 10) : linesTo B (b + 1) = linesTo B b ++ [(b : Int) + 1] := by
  unfold linesTo; rw [feedsTo_hit (Nat.zero_le _) hx]; simp
theorem linesTo_miss {B : List Int} {b : Nat} (hx : B.getD b 0 ≠ 10) : linesTo B (b + 1) = linesTo B b := by
  unfold linesTo; rw [feedsTo_miss (Nat.zero_le _) hx]
theorem linesTo_length (B : List Int) (b : Nat) : (linesTo B b).length ≤ b + 1 := by
  unfold linesTo; have := feedsTo_length B 0 b; simp; omega

/-- the bytes from a place up to the next line feed -/
def lineFrom (B : List Int) (s : Nat) : List Int := (B.drop s).takeWhile (· ≠ 10)

def textN (B xs : List Int) (line : Int) : List Int :=
  if 1 ≤ line ∧ line ≤ xs.length then
    let s := xs.getD (line - 1).toNat 0
    if 0 ≤ s ∧ s ≤ B.length then lineFrom B s.toNat else []
  else []

/-- the first line feed from a place on, or the end -/
def nextFeed (B : List Int) (s : Nat) : Nat := s + (lineFrom B s).length

theorem lineFrom_length (B : List Int) (s : Nat) : (lineFrom B s).length ≤ B.length - s := by
  unfold lineFrom; exact Nat.le_trans (List.takeWhile_sublist _).length_le (by simp)

theorem lineFrom_eq_take (B : List Int) (s : Nat) : lineFrom B s = (B.drop s).take (nextFeed B s - s) := by
  unfold nextFeed
  rw [show s + (lineFrom B s).length - s = (lineFrom B s).length from by omega]
  have h : lineFrom B s <+: B.drop s := List.takeWhile_prefix _
  exact (List.prefix_iff_eq_take.1 h)

/-- no feed up to k, and a feed, or the end, at k: that is it -/
theorem nextFeed_of {B : List Int} {s k : Nat} (hk : s ≤ k) (hl : k ≤ B.length) (hpre : ∀ j, s ≤ j → j < k → B.getD j 0 ≠ 10) (hend : k < B.length → B.getD k 0 = 10) : nextFeed B s = k := by
  unfold nextFeed lineFrom
  obtain ⟨d, rfl⟩ : ∃ d, k = s + d := ⟨k - s, by omega⟩
  congr 1
  have key : ∀ (d : Nat) (L : List Int), d ≤ L.length → (∀ j, j < d → L.getD j 0 ≠ 10) → (d < L.length → L.getD d 0 = 10) → (L.takeWhile (fun x => decide (x ≠ 10))).length = d := by
    intro d
    induction d with
    | zero =>
      intro L _ _ h
      cases L with
      | nil => rfl
      | cons x L => have := h (by simp); simp at this; simp [this]
    | succ d ih =>
      intro L h1 h2 h3
      cases L with
      | nil => simp at h1
      | cons x L =>
        have h0 := h2 0 (by omega)
        simp at h0
        rw [List.takeWhile_cons, if_pos (by simpa using h0), List.length_cons, ih L (by simpa using h1) (fun j hj => by simpa using h2 (j + 1) (by omega)) (fun h => by simpa using h3 (by simpa using h))]
  refine key d (B.drop s) (by simp; omega) (fun j hj => ?_) (fun h => ?_)
  · have := hpre (s + j) (by omega) (by omega); simpa using this
  · have := hend (by simp at h; omega); simpa using this

/-- the first of the feeds, or the end -/
theorem nextFeed_none {B : List Int} {s : Nat} (hs : s ≤ B.length) (h : feeds B s = []) : nextFeed B s = B.length := by
  refine nextFeed_of hs (Nat.le_refl _) (fun j h1 h2 he => ?_) (by omega)
  have : j ∈ feeds B s := List.mem_filter.2 ⟨List.mem_range'_1.2 (by omega), by simpa using he⟩
  rw [h] at this; cases this

theorem nextFeed_first {B : List Int} {s x : Nat} (h : [x] <+: feeds B s) : nextFeed B s = x := by
  obtain ⟨t, ht⟩ := h
  have hx : x ∈ feeds B s := by rw [← ht]; simp
  have h1 := List.mem_filter.1 hx
  have h2 := List.mem_range'_1.1 h1.1
  refine nextFeed_of h2.1 (by omega) (fun j h3 h4 he => ?_) (fun _ => by simpa using h1.2)
  have hj : j ∈ feeds B s := List.mem_filter.2 ⟨List.mem_range'_1.2 (by omega), by simpa using he⟩
  have hsorted : (feeds B s).Pairwise (· < ·) := by
    unfold feeds feedsTo
    exact List.Pairwise.filter _ List.pairwise_lt_range'
  rw [← ht] at hsorted hj
  rcases List.mem_append.1 hj with h | h
  · simp at h; omega
  · have := List.pairwise_append.1 hsorted
    have := this.2.2 x (by simp) j h
    omega

theorem nextFeed_le (B : List Int) (s : Nat) (hs : s ≤ B.length) : nextFeed B s ≤ B.length := by
  unfold nextFeed; have := lineFrom_length B s; omega

/-! ### two texts, one behind the other -/
theorem feeds_append (A C : List Int) : feeds (A ++ 10 :: C) 0 = feeds A 0 ++ A.length :: (feeds C 0).map (· + (A.length + 1)) := by
  unfold feeds feedsTo
  have hl : (A ++ 10 :: C).length - 0 = A.length + (1 + C.length) := by simp; omega
  rw [hl, show List.range' 0 (A.length + (1 + C.length)) = List.range' 0 A.length ++ (List.range' (0 + A.length) (1 + C.length)) from (List.range'_append_1).symm, List.filter_append]
  congr 1
  · simp only [Nat.sub_zero]
    refine List.filter_congr (fun i hi => ?_)
    have := List.mem_range'_1.1 hi
    simp only [List.getD_eq_getElem?_getD]
    rw [List.getElem?_append_left (by omega)]
  · rw [show 0 + A.length = A.length from by omega, Nat.add_comm 1 C.length, List.range'_succ, List.filter_cons, if_pos (by simp)]
    congr 1
    rw [show List.range' (A.length + 1) C.length = (List.range' 0 C.length).map (· + (A.length + 1)) from by apply List.ext_getElem <;> simp; intros; omega, List.filter_map]
    congr 1
    simp only [Nat.sub_zero]
    refine List.filter_congr (fun i hi => ?_)
    simp only [Function.comp, List.getD_eq_getElem?_getD]
    rw [List.getElem?_append_right (by omega), show i + (A.length + 1) - A.length = i + 1 from by omega]
    simp

theorem lines_append (A C : List Int) : lines (A ++ 10 :: C) = lines A ++ (lines C).map (· + ((A.length : Int) + 1)) := by
  show 0 :: (feeds (A ++ 10 :: C) 0).map (fun k : Nat => (k : Int) + 1) = (0 :: (feeds A 0).map (fun k : Nat => (k : Int) + 1)) ++ (0 :: (feeds C 0).map (fun k : Nat => (k : Int) + 1)).map (· + ((A.length : Int) + 1))
  rw [feeds_append]
  simp
  intro a _
  omega

theorem lines_bounds {B : List Int} {i : Nat} (h : i < (lines B).length) : 0 ≤ (lines B)[i] ∧ (lines B)[i] ≤ B.length := by
  cases i with
  | zero => constructor <;> simp [lines, linesTo]
  | succ i =>
    have e : (lines B)[i + 1] = ((feeds B 0)[i]'(by simpa [lines, linesTo, feeds] using h) : Int) + 1 := by simp [lines, linesTo, feeds]
    have hm := List.getElem_mem (l := feeds B 0) (n := i) (by simpa [lines, linesTo, feeds] using h)
    have := List.mem_range'_1.1 (List.mem_filter.1 hm).1
    rw [e]; omega

theorem textN_lines {B : List Int} {i : Nat} (h : i < (lines B).length) : textN B (lines B) ((i : Int) + 1) = lineFrom B ((lines B)[i]).toNat := by
  have hb := lines_bounds h
  unfold textN
  rw [if_pos (by omega)]
  have e : (lines B).getD ((i : Int) + 1 - 1).toNat 0 = (lines B)[i] := by rw [show ((i : Int) + 1 - 1).toNat = i from by omega]; simp [h]
  simp only [e]
  rw [if_pos hb]

theorem lineFrom_left {A C : List Int} {s : Nat} (hs : s ≤ A.length) : lineFrom (A ++ 10 :: C) s = lineFrom A s := by
  unfold lineFrom
  rw [List.drop_append_of_le_length hs, List.takeWhile_append]
  split
  · rename_i h
    rw [List.takeWhile_cons, if_neg (by simp), List.append_nil]
    exact ((List.takeWhile_prefix _).eq_of_length h).symm
  · rfl

theorem lineFrom_right {A C : List Int} {s : Nat} : lineFrom (A ++ 10 :: C) (s + (A.length + 1)) = lineFrom C s := by
  unfold lineFrom
  have : (A ++ 10 :: C).drop (s + (A.length + 1)) = C.drop s := by
    rw [List.drop_append, List.drop_eq_nil_of_le (by omega), show s + (A.length + 1) - A.length = s + 1 from by omega]
    simp
  rw [this]

theorem text_left {A C : List Int} {i : Nat} (h : i < (lines A).length) : textN (A ++ 10 :: C) (lines (A ++ 10 :: C)) ((i : Int) + 1) = textN A (lines A) ((i : Int) + 1) ∧ (lines (A ++ 10 :: C)).getD i 0 = (lines A).getD i 0 := by
  have hz : i < (lines (A ++ 10 :: C)).length := by rw [lines_append]; simp; omega
  have e : (lines (A ++ 10 :: C))[i] = (lines A)[i] := by simp only [lines_append]; rw [List.getElem_append_left h]
  have hb := lines_bounds h
  refine ⟨?_, by simp [hz, h, e]⟩
  rw [textN_lines hz, textN_lines h, e, lineFrom_left (by omega)]

theorem text_right {A C : List Int} {i k : Nat} (hk : i = (lines A).length + k) (h : k < (lines C).length) :
    textN (A ++ 10 :: C) (lines (A ++ 10 :: C)) ((i : Int) + 1) = textN C (lines C) ((k : Int) + 1) ∧ (lines (A ++ 10 :: C)).getD i 0 = (lines C).getD k 0 + ((A.length : Int) + 1) := by
  subst hk
  have hz : (lines A).length + k < (lines (A ++ 10 :: C)).length := by rw [lines_append]; simp; omega
  have e : (lines (A ++ 10 :: C))[(lines A).length + k] = (lines C)[k] + ((A.length : Int) + 1) := by simp only [lines_append]; rw [List.getElem_append_right (by omega)]; simp
  have hb := lines_bounds h
  refine ⟨?_, by simp [hz, h, e]⟩
  rw [textN_lines hz, textN_lines h, e, show ((lines C)[k] + ((A.length : Int) + 1)).toNat = ((lines C)[k]).toNat + (A.length + 1) from by omega, lineFrom_right]

theorem lines_pos (B : List Int) : 0 < (lines B).length := by simp [lines, linesTo]
theorem lines_append_length (A C : List Int) : (lines (A ++ 10 :: C)).length = (lines A).length + (lines C).length := by rw [lines_append]; simp
theorem lines_length_le (B : List Int) : (lines B).length ≤ B.length + 1 := linesTo_length B _

end Go.Proofs.Ytkkilngihkdnaaa
