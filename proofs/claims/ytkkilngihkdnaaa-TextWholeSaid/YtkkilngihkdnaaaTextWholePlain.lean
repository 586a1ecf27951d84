/-
  TextWhole: the plain laws.
-/
import Derived.Test.YtkkilngihkdnaaaTextPlain
import Derived.Lib.Join
import Derived.Lib.Bytealg
import Derived.Laws.BytesArg
namespace Go.Proofs.Ytkkilngihkdnaaa

theorem mem_tw {α : Type} {p : α → Bool} {x : α} : ∀ {l : List α}, x ∈ l.takeWhile p → p x = true
  | [], h => by simp at h
  | y :: l, h => by
    rw [List.takeWhile_cons] at h
    split at h
    · rcases List.mem_cons.1 h with rfl | h
      · assumption
      · exact mem_tw h
    · simp at h
theorem tw_self {α : Type} {p : α → Bool} : ∀ {l : List α}, (∀ x ∈ l, p x = true) → l.takeWhile p = l
  | [], _ => rfl
  | y :: l, h => by rw [List.takeWhile_cons, if_pos (h y (by simp)), tw_self (fun x hx => h x (by simp [hx]))]
def textAt (B : List Int) (i : Nat) : List Int := textN B (lines B) ((i : Int) + 1)
def texts (B : List Int) : List (List Int) := (List.range (lines B).length).map (textAt B)
def encB (xs : List Int) : List UInt8 := xs.map fun n => UInt8.ofNat n.toNat
def joinB (L : List (List Int)) : List UInt8 := Lib.join (L.map encB) [10]

theorem joinB_cons (A y : List Int) (r : List (List Int)) : joinB (A :: y :: r) = encB A ++ 10 :: joinB (y :: r) := by
  unfold joinB
  rw [List.map_cons, Lib.join_cons, List.map_cons, Lib.join_cons]
  simp [Lib.joinTail]
theorem joinB_one (A : List Int) : joinB [A] = encB A := by
  unfold joinB; rw [List.map_cons, List.map_nil, Lib.join_one]

theorem texts_append (A C : List Int) : texts (A ++ 10 :: C) = texts A ++ texts C := by
  unfold texts
  rw [lines_append_length, List.range_add, List.map_append]
  congr 1
  · refine List.map_congr_left fun i hi => ?_
    exact (text_left (List.mem_range.1 hi)).1
  · rw [List.map_map]
    refine List.map_congr_left fun k hk => ?_
    exact (text_right rfl (List.mem_range.1 hk)).1
theorem feeds_none {A : List Int} (h : ∀ x ∈ A, x ≠ 10) : feeds A 0 = [] := by
  unfold feeds feedsTo
  refine List.filter_eq_nil_iff.2 fun i hi => ?_
  have := List.mem_range'_1.1 hi
  simp only [Nat.sub_zero, Nat.zero_add] at this
  simp only [beq_iff_eq]
  rw [List.getD_eq_getElem?_getD, List.getElem?_eq_getElem this.2]
  exact h _ (List.getElem_mem _)
theorem texts_none {A : List Int} (h : ∀ x ∈ A, x ≠ 10) : texts A = [A] := by
  have hl : lines A = [0] := by
    show 0 :: (feeds A 0).map _ = _
    rw [feeds_none h]; rfl
  unfold texts
  rw [hl]
  have : textAt A 0 = A := by
    unfold textAt
    rw [textN_lines (by rw [hl]; simp)]
    have e : (lines A)[0]'(by rw [hl]; simp) = 0 := by simp [hl]
    rw [e]
    unfold lineFrom
    simp only [Int.toNat_zero, List.drop_zero]
    exact tw_self (fun x hx => by simpa using h x hx)
  simp [this]
theorem split_feed (B : List Int) : (∀ x ∈ B, x ≠ 10) ∨ ∃ A C, B = A ++ 10 :: C ∧ ∀ x ∈ A, x ≠ 10 := by
  induction B with
  | nil => exact .inl (by simp)
  | cons x B ih =>
    by_cases hx : x = 10
    · subst hx; exact .inr ⟨[], B, rfl, by simp⟩
    · rcases ih with h | ⟨A, C, rfl, h⟩
      · exact .inl (fun y hy => by rcases List.mem_cons.1 hy with rfl | hy; exact hx; exact h y hy)
      · exact .inr ⟨x :: A, C, rfl, fun y hy => by rcases List.mem_cons.1 hy with rfl | hy; exact hx; exact h y hy⟩
theorem texts_ne (B : List Int) : texts B ≠ [] := by
  have := lines_pos B
  intro h
  have h2 : (texts B).length = 0 := by rw [h]; rfl
  rw [texts, List.length_map, List.length_range] at h2
  omega
theorem encB_append (A C : List Int) : encB (A ++ C) = encB A ++ encB C := by simp [encB]
theorem join_texts : ∀ (n : Nat) (B : List Int), B.length ≤ n → joinB (texts B) = encB B
  | 0, B, h => by
    have : B = [] := List.eq_nil_of_length_eq_zero (by omega)
    subst this
    rw [texts_none (by simp), joinB_one]
  | n + 1, B, h => by
    rcases split_feed B with hB | ⟨A, C, rfl, hA⟩
    · rw [texts_none hB, joinB_one]
    · rw [texts_append, texts_none hA]
      have ih := join_texts n C (by simp at h; omega)
      obtain ⟨y, r, hy⟩ : ∃ y r, texts C = y :: r := by
        cases hc : texts C with
        | nil => exact absurd hc (texts_ne C)
        | cons y r => exact ⟨y, r, rfl⟩
      rw [hy] at ih ⊢
      rw [List.singleton_append, joinB_cons, ih, encB_append]
      rfl

theorem indexByte_not {l : List UInt8} {c : UInt8} (h : ∀ x ∈ l, x ≠ c) : Lib.indexByte l c = -1 := by
  induction l with
  | nil => rfl
  | cons x l ih =>
    have h1 := h x (by simp)
    have h2 := ih (fun y hy => h y (by simp [hy]))
    simp [Lib.indexByte, h1, h2]
theorem lineFrom_ne (B : List Int) (s : Nat) : ∀ x ∈ lineFrom B s, x ≠ 10 := by
  intro x hx
  have := mem_tw hx
  simpa using this
theorem lineFrom_sub (B : List Int) (s : Nat) : ∀ x ∈ lineFrom B s, x ∈ B := fun _ hx => List.mem_of_mem_drop ((List.takeWhile_prefix _).subset hx)
theorem text_nofeed {B : List Int} (hB : ∀ x ∈ B, 0 ≤ x ∧ x ≤ 255) {i : Nat} (h : i < (lines B).length) : Lib.indexByte (encB (textAt B i)) 10 = -1 := by
  refine indexByte_not fun x hx => ?_
  obtain ⟨n, hn, rfl⟩ := List.mem_map.1 hx
  unfold textAt at hn
  rw [textN_lines h] at hn
  have h1 := lineFrom_ne _ _ n hn
  have h2 := hB n (lineFrom_sub _ _ n hn)
  intro he
  have h3 := congrArg UInt8.toNat he
  rw [UInt8.toNat_ofNat_of_lt' (by show n.toNat < 256; omega)] at h3
  simp at h3
  omega

/-! lines rise, behind line feeds -/
theorem lines_zero (B : List Int) : (lines B)[0]'(lines_pos B) = 0 := by simp [lines, linesTo]
theorem lines_succ {B : List Int} {i : Nat} (h : i + 1 < (lines B).length) : ∃ hf : i < (feeds B 0).length, (lines B)[i + 1] = ((feeds B 0)[i] : Int) + 1 := by
  have hf : i < (feeds B 0).length := by simpa [lines, linesTo, feeds] using h
  exact ⟨hf, by simp [lines, linesTo, feeds]⟩
theorem feeds_sorted (B : List Int) : (feeds B 0).Pairwise (· < ·) := List.Pairwise.filter _ List.pairwise_lt_range'
theorem lines_rise {B : List Int} {i : Nat} (h : i + 1 < (lines B).length) : (lines B)[i] < (lines B)[i + 1] := by
  obtain ⟨hf, e⟩ := lines_succ h
  rw [e]
  cases i with
  | zero => rw [lines_zero]; omega
  | succ i =>
    obtain ⟨hf2, e2⟩ := lines_succ (B := B) (i := i) (by omega)
    rw [e2]
    have := List.pairwise_iff_getElem.1 (feeds_sorted B) i (i + 1) hf2 hf (by omega)
    omega
theorem lines_feed {B : List Int} {i : Nat} (h : i + 1 < (lines B).length) : ∃ k : Nat, (lines B)[i + 1] = (k : Int) + 1 ∧ ∃ hk : k < B.length, B[k] = 10 := by
  obtain ⟨hf, e⟩ := lines_succ h
  have hm := List.mem_filter.1 (List.getElem_mem hf)
  have h1 := List.mem_range'_1.1 hm.1
  have hk : (feeds B 0)[i] < B.length := by omega
  refine ⟨(feeds B 0)[i], e, hk, ?_⟩
  have := hm.2
  simp only [beq_iff_eq] at this
  rwa [List.getD_eq_getElem?_getD, List.getElem?_eq_getElem hk] at this

/-! the line of a place -/
theorem lineN_neg {B : List Int} {p : Int} (h : p < 0) : lineN (lines B) p = 0 := by
  unfold lineN lines linesTo
  rw [List.takeWhile_cons, if_neg (by simpa using h)]; rfl
theorem lineN_pos {B : List Int} {p : Int} (h : 0 ≤ p) : 0 < lineN (lines B) p := by
  unfold lineN lines linesTo
  rw [List.takeWhile_cons, if_pos (by simpa using h)]; simp
theorem lineN_le (xs : List Int) (p : Int) : lineN xs p ≤ xs.length := (List.takeWhile_prefix _).length_le
theorem lineN_at {xs : List Int} {p : Int} {j : Nat} (h : j < lineN xs p) : ∃ hj : j < xs.length, xs[j] ≤ p := by
  have hl := lineN_le xs p
  refine ⟨by omega, ?_⟩
  have hm := List.getElem_mem (l := xs.takeWhile (· ≤ p)) (n := j) h
  have h1 := mem_tw hm
  have h2 : (xs.takeWhile (· ≤ p))[j]'h = xs[j]'(by omega) := (List.takeWhile_prefix _).getElem h
  rw [h2] at h1
  simpa using h1
theorem lineN_stops {xs : List Int} {p : Int} (h : lineN xs p < xs.length) : p < xs[lineN xs p] := by
  unfold lineN at h ⊢
  induction xs with
  | nil => simp at h
  | cons x xs ih =>
    by_cases hx : x ≤ p
    · simp only [List.takeWhile_cons, hx, decide_true, if_true, List.length_cons] at h ⊢
      simpa using ih (by simpa using h)
    · simp only [List.takeWhile_cons, hx, decide_false]
      simp
      omega

theorem textN_low (B xs : List Int) : textN B xs 0 = [] := by unfold textN; rw [if_neg (by omega)]
theorem textN_high (B xs : List Int) : textN B xs ((xs.length : Int) + 1) = [] := by unfold textN; rw [if_neg (by omega)]

end Go.Proofs.Ytkkilngihkdnaaa
