/-
  Laws of walks, and walks: LexAgree LexShift Laid LexJoins.
-/
import Derived.Test.YtllmgmfihijejaaDoorLx2
import Derived.Test.YtllmgmfihijejaaDoorLx7
import Derived.WalkKit
import Derived.ProofKit
import Derived.Lay
import Derived.HandedShaped
import Derived.SizedLaws
import Derived.LaidOnce
import Derived.SevenTiedAt
import Derived.Shelf.Vars
import Derived.Test.YtllmgmfihijejaaDoorLx8
import Derived.DeepKeys
set_option linter.unusedVariables false
set_option linter.unusedSimpArgs false
/-
  A word that is read in one text is read in every other one that agrees with it up to the word's end.
-/
namespace Go.Proofs.YtllmgmfihijejaaDoor
open Go.RowKit

/-- two texts agree up to m -/
structure Agree (L L' : Str) (m : Nat) : Prop where
  one : m ≤ L.length
  two : m ≤ L'.length
  same : L.take m = L'.take m
theorem Agree.symm {L L' : Str} {m : Nat} (h : Agree L L' m) : Agree L' L m := ⟨h.two, h.one, h.same.symm⟩
theorem Agree.le {L L' : Str} {m n : Nat} (h : Agree L L' m) (hn : n ≤ m) : Agree L L' n := by
  refine ⟨by have := h.one; omega, by have := h.two; omega, ?_⟩
  have := congrArg (List.take n) h.same
  rwa [List.take_take, List.take_take, Nat.min_eq_left hn] at this
theorem Agree.byt {L L' : Str} {m k : Nat} (h : Agree L L' m) (hk : k < m) : byt L' k = byt L k := by
  have h1 := h.one; have h2 := h.two
  rw [byt_get (by omega), byt_get (by omega)]
  have e : (L.take m)[k]'(by simp; omega) = (L'.take m)[k]'(by simp; omega) := by simp only [h.same]
  simp only [List.getElem_take] at e
  rw [e]
theorem Agree.at {L L' t : Str} {m i : Nat} (h : Agree L L' m) (hk : i + t.length ≤ m) : atP L' i t = atP L i t := by
  have h1 := h.one; have h2 := h.two
  rw [← at_in (by omega), ← at_in (by omega), (h.le hk).same]
theorem Agree.seg {L L' : Str} {m i k : Nat} (h : Agree L L' m) (hk : k ≤ m) : (L'.drop i).take (k - i) = (L.drop i).take (k - i) := by
  rw [← List.drop_take, ← List.drop_take, (h.le hk).same]

theorem escP_agree {L L' : Str} {i b e : Nat} (h : escP L i = some (b, e)) (A : Agree L L' e) : escP L' i = some (b, e) := by
  have hl := escP_le h
  have h2 := A.two
  unfold escP at h ⊢
  rw [A.byt (k := i + 1) (by omega)]
  rw [if_pos (by omega)] at h ⊢
  cases hp : plainP (byt L (i + 1)) with
  | some x => rw [hp] at h; exact h
  | none =>
    rw [hp] at h
    simp only [] at h ⊢
    by_cases hx : byt L (i + 1) = 120
    · rw [if_pos hx] at h ⊢
      split at h
      · split at h
        · cases h
        · rename_i x hx2
          split at h
          · split at h
            · cases h
            · rename_i y hy2
              cases h
              rw [if_pos (by omega), A.byt (k := i + 2) (by omega), hx2]
              simp only []
              rw [if_pos (by omega), A.byt (k := i + 3) (by omega), hy2]
          · cases h
      · cases h
    · rw [if_neg hx] at h ⊢
      exact h
theorem thingP_agree {L L' : Str} {i b e : Nat} (h : thingP L i = some (b, e)) (A : Agree L L' e) : thingP L' i = some (b, e) := by
  have hl := thingP_le h
  have h2 := A.two
  unfold thingP at h ⊢
  rw [A.byt (k := i) (by omega)]
  rw [if_pos (by omega)] at h ⊢
  split at h
  · rename_i hc; rw [if_pos hc]; exact escP_agree h A
  · rename_i hc; rw [if_neg hc]; exact h

/-- no [: stands in it -/
def NoB (L : Str) : Prop := ∀ k, atP L k [91, 58] = false
theorem nameP_no {L : Str} (h : NoB L) (i : Nat) : nameP L i = none := by
  unfold nameP; rw [h]; rfl

theorem itemP_agree {L L' : Str} {i e m : Nat} {s : Nat → Nat} (hB : NoB L) (h : itemP L i = some (s, e)) (A : Agree L L' m) (hm : e + 1 ≤ m) (hq : byt L e = 93 ∨ e + 2 ≤ m) : itemP L' i = some (s, e) := by
  have hl := itemP_le h
  have h1 := A.one
  have h2 := A.two
  have hn : nameP L' i = none := by unfold nameP; rw [A.at (by simp; omega), hB]; rfl
  unfold itemP at h ⊢
  rw [nameP_no hB] at h
  rw [hn]
  simp only [] at h ⊢
  rw [A.byt (k := i) (by omega)]
  by_cases hc : byt L i = 92
  · have hlong : i + 1 < L.length := by
      by_cases hlt : i + 1 < L.length
      · exact hlt
      · exfalso
        rw [if_neg (by omega)] at h
        simp only [itemTail] at h
        have ht : thingP L i = none := by
          unfold thingP
          split
          · (try rw [if_pos hc]); unfold escP; rw [if_neg hlt]
          · rfl
        rw [ht] at h; cases h
    have hb : i + 2 ≤ e := by
      rw [if_pos ⟨hc, hlong⟩] at h
      split at h
      · cases h; omega
      · unfold itemTail at h
        split at h
        · cases h
        · rename_i lo k ht
          have hk : i + 2 ≤ k := by
            unfold thingP at ht
            rw [if_pos (by omega), if_pos hc] at ht
            exact (escP_le ht).1
          split at h
          · split at h
            · cases h
            · rename_i hi e' ht2
              have h2 := thingP_le ht2
              split at h
              · cases h; omega
              · cases h
          · cases h; omega
    rw [A.byt (k := i + 1) (by omega)]
    rw [if_pos ⟨hc, hlong⟩] at h
    rw [if_pos ⟨hc, by omega⟩]
    cases hs : sortP (byt L (i + 1)) with
    | some x => rw [hs] at h; exact h
    | none =>
      rw [hs] at h
      simp only [] at h ⊢
      unfold itemTail at h ⊢
      split at h
      · cases h
      · rename_i lo k ht
        have hkl := thingP_le ht
        have hke : k ≤ e := by
          split at h
          · split at h
            · cases h
            · rename_i hi e' ht2
              have h2 := thingP_le ht2
              split at h
              · cases h; omega
              · cases h
          · cases h; omega
        rw [thingP_agree ht (A.le (by omega))]
        simp only []
        split at h
        · rename_i hr
          split at h
          · cases h
          · rename_i hi e' ht2
            have h3 := thingP_le ht2
            split at h
            · rename_i hle
              cases h
              rw [if_pos ⟨by omega, by rw [A.byt (k := k) (by omega)]; exact hr.2.1, by rw [A.byt (k := k + 1) (by omega)]; exact hr.2.2⟩, thingP_agree ht2 (A.le (by omega))]
              simp only []
              rw [if_pos hle]
            · cases h
        · rename_i hr
          simp only [Option.some.injEq, Prod.mk.injEq] at h
          obtain ⟨h8, h9⟩ := h
          rw [if_neg ?_, h8, h9]
          rintro ⟨r1, r2, r3⟩
          rw [A.byt (k := k) (by omega)] at r2
          rcases hq with hq | hq
          · subst h9; omega
          · rw [A.byt (k := k + 1) (by omega)] at r3
            exact hr ⟨by omega, r2, r3⟩
  · rw [if_neg (fun x => hc x.1)] at h ⊢
    simp only [] at h ⊢
    unfold itemTail at h ⊢
    split at h
    · cases h
    · rename_i lo k ht
      have hkl := thingP_le ht
      have hke : k ≤ e := by
        split at h
        · split at h
          · cases h
          · rename_i hi e' ht2
            have h2 := thingP_le ht2
            split at h
            · cases h; omega
            · cases h
        · cases h; omega
      rw [thingP_agree ht (A.le (by omega))]
      simp only []
      split at h
      · rename_i hr
        split at h
        · cases h
        · rename_i hi e' ht2
          have h3 := thingP_le ht2
          split at h
          · rename_i hle
            cases h
            rw [if_pos ⟨by omega, by rw [A.byt (k := k) (by omega)]; exact hr.2.1, by rw [A.byt (k := k + 1) (by omega)]; exact hr.2.2⟩, thingP_agree ht2 (A.le (by omega))]
            simp only []
            rw [if_pos hle]
          · cases h
      · rename_i hr
        simp only [Option.some.injEq, Prod.mk.injEq] at h
        obtain ⟨h8, h9⟩ := h
        rw [if_neg ?_, h8, h9]
        rintro ⟨r1, r2, r3⟩
        rw [A.byt (k := k) (by omega)] at r2
        rcases hq with hq | hq
        · subst h9; omega
        · rw [A.byt (k := k + 1) (by omega)] at r3
          exact hr ⟨by omega, r2, r3⟩

theorem at_one {L : Str} {k c : Nat} (h : atP L k [UInt8.ofNat c] = true) (hc : c < 256) : k < L.length ∧ byt L k = c := by
  have hl := at_le h (by simp)
  simp at hl
  rw [← at_in (by simpa using hl)] at h
  have h2 := beq_iff_eq.1 h
  have hlt : k < L.length := by omega
  refine ⟨hlt, ?_⟩
  have e : (L.take (k + 1)).drop k = [L[k]] := by
    rw [List.drop_take, List.drop_eq_getElem_cons hlt, show k + 1 - k = 1 from by omega]
    rfl
  simp only [List.length_cons, List.length_nil] at h2
  rw [e] at h2
  rw [byt_get hlt]
  injection h2 with h3
  rw [h3]
  simp [hc]

theorem classGo_agree {L L' : Str} (hB : NoB L) : ∀ (f k f' : Nat) (b : Bool) (S S' : Nat → Nat) (j : Nat), k ≤ L.length → classGo L f k b S = some (S', j) → Agree L L' j → j - k ≤ f' → classGo L' f' k b S = some (S', j)
  | 0, _, _, _, _, _, _, _, h, _, _ => by cases h
  | f + 1, k, f', b, S, S', j, hk, h, A, hf => by
    have hj := classGo_le _ _ _ _ _ _ hk h
    obtain ⟨f', rfl⟩ : ∃ g, f' = g + 1 := ⟨f' - 1, by omega⟩
    rw [classGo] at h ⊢
    rw [A.at (by simp; omega)]
    split at h
    · rename_i hc; rw [if_pos hc]; exact h
    · rename_i hc
      rw [if_neg hc]
      split at h
      · cases h
      · rename_i t e hi
        have h1 := itemP_le hi
        have h2 := classGo_le _ _ _ _ _ _ h1.2.1 h
        have hq : byt L e = 93 ∨ e + 2 ≤ j := by
          cases f with
          | zero => cases h
          | succ f =>
            rw [classGo] at h
            split at h
            · rename_i hc2; exact .inl (at_one (c := 93) hc2.2 (by omega)).2
            · split at h
              · cases h
              · rename_i t2 e2 hi2
                have h3 := itemP_le hi2
                have h4 := classGo_le _ _ _ _ _ _ h3.2.1 h
                exact .inr (by omega)
        rw [itemP_agree hB hi A (by omega) hq]
        exact classGo_agree hB f e f' false _ S' j h1.2.1 h A (by omega)
theorem classP_agree {L L' : Str} {i j : Nat} {d : WordD} (hB : NoB L) (hi : i < L.length) (h : classP L i = some (d, j)) (A : Agree L L' j) : classP L' i = some (d, j) := by
  have hl := classP_le hi h
  have h1 := A.two
  unfold classP at h ⊢
  obtain ⟨⟨S, e'⟩, h3, h2⟩ := Option.map_eq_some_iff.1 h
  simp only [Prod.mk.injEq] at h2
  obtain ⟨h4, rfl⟩ := h2
  have hj : i + 2 ≤ e' := by
    split at h3
    · rename_i ha
      have := at_le ha (by simp)
      simp at this
      have := classGo_le _ _ _ _ _ _ (by omega) h3
      omega
    · have := classGo_le _ _ _ _ _ _ (by omega) h3
      omega
  rw [A.at (t := [94]) (by simp; omega)]
  simp only []
  rw [classGo_agree hB _ _ _ _ _ _ _ ?_ h3 A (by split <;> omega)]
  · rw [← h4]; rfl
  · split
    · rename_i ha
      have := at_le ha (by simp)
      simp at this
      omega
    · omega

theorem flagsGo_agree {L L' : Str} : ∀ (f k f' : Nat) (a b : Bool) (d d' : WordD) (j : Nat), flagsGo L f k a b d = some (d', j) → Agree L L' j → j - k ≤ f' → flagsGo L' f' k a b d = some (d', j)
  | 0, _, _, _, _, _, _, _, h, _, _ => by cases h
  | f + 1, k, f', a, b, d, d', j, h, A, hf => by
    have hj := flagsGo_le _ _ _ _ _ _ _ h
    obtain ⟨f', rfl⟩ : ∃ g, f' = g + 1 := ⟨f' - 1, by omega⟩
    have h2 := A.two
    rw [flagsGo] at h ⊢
    rw [if_pos (by omega)] at h ⊢
    rw [A.byt (k := k) (by omega)]
    simp only [] at h ⊢
    split at h
    · rename_i hc; rw [if_pos hc]; exact flagsGo_agree f _ f' _ _ _ _ _ h A (by omega)
    · rename_i hc; rw [if_neg hc]
      split at h
      · rename_i hc; rw [if_pos hc]; exact flagsGo_agree f _ f' _ _ _ _ _ h A (by omega)
      · rename_i hc; rw [if_neg hc]
        split at h
        · rename_i hc; rw [if_pos hc]; exact flagsGo_agree f _ f' _ _ _ _ _ h A (by omega)
        · rename_i hc; rw [if_neg hc]
          split at h
          · rename_i hc; rw [if_pos hc]
            split at h
            · cases h
            · rename_i hc; rw [if_neg hc]; exact flagsGo_agree f _ f' _ _ _ _ _ h A (by omega)
          · rename_i hc; rw [if_neg hc]; exact h
theorem flagsP_agree {L L' : Str} {i j : Nat} {d : WordD} (h : flagsP L i = some (d, j)) (A : Agree L L' j) : flagsP L' i = some (d, j) := by
  have h2 := A.two
  exact flagsGo_agree _ _ _ _ _ _ _ _ h A (by omega)

theorem isDigit_byt {L : Str} {k : Nat} (h : k < L.length) : isDigit L[k] = digB (byt L k) := by
  rw [byt_get h]; rfl
theorem takeWhile_stop {p : UInt8 → Bool} : ∀ (l : Str) (h : (l.takeWhile p).length < l.length), p l[(l.takeWhile p).length] = false
  | [], h => by simp at h
  | c :: l, h => by
    by_cases hc : p c = true
    · simp only [List.takeWhile_cons, hc, if_true, List.length_cons] at h ⊢
      simpa using takeWhile_stop l (by omega)
    · simp [hc]
/-- what a number that is read tells -/
theorem numberP_out {L : Str} {i n k : Nat} (hi : i ≤ L.length) (h : numberP L i = some (n, k)) :
    ((L.drop i).take (k - i)).all isDigit = true ∧ (k < L.length → digB (byt L k) = false) ∧ n = numF ((L.drop i).take (k - i)) ∧ ¬ (i + 1 < k ∧ byt L i = 48) := by
  have hl := numberP_le h hi
  unfold numberP at h
  simp only [] at h
  split at h
  · cases h
  · rename_i hc
    simp only [Option.some.injEq, Prod.mk.injEq] at h
    obtain ⟨rfl, rfl⟩ := h
    have e : (L.drop i).take (i + ((L.drop i).takeWhile isDigit).length - i) = (L.drop i).takeWhile isDigit := by
      rw [show i + ((L.drop i).takeWhile isDigit).length - i = ((L.drop i).takeWhile isDigit).length from by omega]
      exact (List.prefix_iff_eq_take.1 (List.takeWhile_prefix _)).symm
    rw [e]
    refine ⟨by simp [List.all_takeWhile], ?_, rfl, ?_⟩
    · intro hlt
      have := takeWhile_stop (p := isDigit) (L.drop i) (by simp; omega)
      simp only [List.getElem_drop] at this
      rw [isDigit_byt (by omega)] at this
      exact this
    · rintro ⟨h1, h2⟩; exact hc (.inr ⟨by omega, h2⟩)
theorem numberP_agree {L L' : Str} {i n k m : Nat} (h : numberP L i = some (n, k)) (A : Agree L L' m) (hi : i ≤ L.length) (hk : k < m) : numberP L' i = some (n, k) := by
  have hl := numberP_le h hi
  have h1 := A.one
  have h2 := A.two
  obtain ⟨a, b, c, d⟩ := numberP_out hi h
  rw [numberP_eq (k := k) (by omega) (by omega) (by rw [A.seg (by omega)]; exact a) (fun _ => by rw [A.byt hk]; exact b (by omega)), A.seg (by omega), A.byt (k := i) (by omega), if_neg (by rintro (x | x); omega; exact d x), ← c]
theorem bracesP_agree {L L' : Str} {i lo j : Nat} {hi : Int} (hi2 : i < L.length) (h : bracesP L i = some (lo, hi, j)) (A : Agree L L' j) : bracesP L' i = some (lo, hi, j) := by
  unfold bracesP at h ⊢
  split at h
  · cases h
  · rename_i n k hn
    have h1 := numberP_le hn (by omega)
    split at h
    · rename_i ha
      have := at_le ha (by simp)
      simp at this
      cases h
      rw [numberP_agree hn A (by omega) (by omega)]
      simp only []
      rw [A.at (by simp), if_pos ha]
    · rename_i ha
      split at h
      · rename_i ha2
        have h2 := at_le ha2 (by simp)
        simp at h2
        split at h
        · cases h
        · rename_i m e' hm
          have h3 := numberP_le hm (by omega)
          split at h
          · rename_i hb
            have h4 := at_le hb (by simp)
            simp at h4
            cases h
            rw [numberP_agree hn A (by omega) (by omega)]
            simp only []
            rw [A.at (t := [44, 125]) (by simp; omega), if_neg ha, A.at (t := [44]) (by simp; omega), if_pos ha2, numberP_agree hm A (by omega) (by omega)]
            simp only []
            rw [A.at (t := [125]) (by simp), if_pos hb]
          · cases h
      · rename_i ha2
        split at h
        · rename_i hb
          have h4 := at_le hb (by simp)
          simp at h4
          have e0 : atP L' k [44, 125] = false := by
            rw [Bool.eq_false_iff]
            intro hc
            have h5 := at_le hc (by simp)
            simp at h5
            have : atP L' k [44] = true := by
              unfold atP at hc ⊢
              rw [List.isPrefixOf_iff_prefix] at hc ⊢
              exact List.IsPrefix.trans ⟨[125], rfl⟩ hc
            cases h
            rw [A.at (by simp)] at this
            exact ha2 this
          cases h
          rw [numberP_agree hn A (by omega) (by omega)]
          simp only []
          rw [e0]
          simp only [Bool.false_eq_true, if_false]
          rw [A.at (t := [44]) (by simp), if_neg ha2, A.at (t := [125]) (by simp), if_pos hb]
        · cases h

/-- bytes that may go on a repeat in braces -/
def goesOn (c : Nat) : Bool := digB c || c == 44 || c == 125
theorem digB_seg {L : Str} {i k p : Nat} (h : ((L.drop i).take (k - i)).all isDigit = true) (h1 : i ≤ p) (h2 : p < k) (h3 : k ≤ L.length) : digB (byt L p) = true := by
  rw [← isDigit_byt (by omega)]
  have hm : ((L.drop i).take (k - i))[p - i]'(by simp; omega) = L[p] := by
    simp only [List.getElem_take, List.getElem_drop]
    simp only [show i + (p - i) = p from by omega]
  rw [← hm]
  exact List.all_eq_true.1 h _ (List.getElem_mem _)
theorem at_two {L : Str} {k c d : Nat} (h : atP L k [UInt8.ofNat c, UInt8.ofNat d] = true) (hc : c < 256) (hd : d < 256) : byt L k = c ∧ byt L (k + 1) = d := by
  have hl := at_le h (by simp)
  simp at hl
  have e : L.drop k = L[k] :: L[k + 1] :: L.drop (k + 2) := by rw [List.drop_eq_getElem_cons (by omega), List.drop_eq_getElem_cons (i := k + 1) (by omega)]
  unfold atP at h
  rw [e] at h
  simp only [List.isPrefixOf, Bool.and_eq_true, beq_iff_eq] at h
  rw [byt_get (by omega), byt_get (by omega), ← h.1, ← h.2.1]
  simp [hc, hd]
/-- all bytes of a repeat in braces behind the first one are of these -/
theorem bracesP_bytes {L : Str} {i lo j : Nat} {hi : Int} (hi2 : i < L.length) (h : bracesP L i = some (lo, hi, j)) : ∀ p, i < p → p < j → goesOn (byt L p) = true := by
  unfold bracesP at h
  split at h
  · cases h
  · rename_i n k hn
    have h1 := numberP_le hn (by omega)
    have o1 := (numberP_out (by omega) hn).1
    intro p hp hj
    by_cases hpk : p < k
    · unfold goesOn; rw [digB_seg o1 (by omega) hpk (by omega)]; rfl
    · split at h
      · rename_i ha
        cases h
        have := at_two (c := 44) (d := 125) ha (by omega) (by omega)
        rcases (show p = k ∨ p = k + 1 by omega) with rfl | rfl
        · rw [this.1]; rfl
        · rw [this.2]; rfl
      · split at h
        · rename_i ha2
          have h2 := at_one (c := 44) ha2 (by omega)
          split at h
          · cases h
          · rename_i m e' hm
            have h3 := numberP_le hm (by omega)
            have o2 := (numberP_out (by omega) hm).1
            split at h
            · rename_i hb
              have h4 := at_one (c := 125) hb (by omega)
              cases h
              rcases (show p = k ∨ (k + 1 ≤ p ∧ p < e') ∨ p = e' by omega) with rfl | hx | rfl
              · rw [h2.2]; rfl
              · unfold goesOn; rw [digB_seg o2 hx.1 hx.2 (by omega)]; rfl
              · rw [h4.2]; rfl
            · cases h
        · split at h
          · rename_i hb
            have h4 := at_one (c := 125) hb (by omega)
            cases h
            rcases (show p = k by omega) with rfl
            rw [h4.2]; rfl
          · cases h

theorem repeatP_agree {L L' : Str} {i e j : Nat} {lo hi : Int} {d : WordD} (he : e ≤ L.length) (h : repeatP L i lo hi e = .ok (d, j)) (A : Agree L L' j) (hq : atP L' j [63] = true → atP L j [63] = true) : repeatP L' i lo hi e = .ok (d, j) := by
  unfold repeatP at h ⊢
  split at h
  · cases h
  · rename_i hc
    rw [if_neg hc]
    split at h
    · rename_i ha
      have := at_le ha (by simp)
      simp at this
      cases h
      rw [A.at (by simp), if_pos ha]
    · rename_i ha
      cases h
      rw [if_neg (fun x => ha (hq x))]

theorem slashP_agree {L L' : Str} {i j : Nat} {d : WordD} (hi : i < L.length) (hc : byt L i = 92) (h : slashP L i = some (d, j)) (A : Agree L L' j) : slashP L' i = some (d, j) := by
  have hl := slashP_le h
  have h1 := A.one
  have h2 := A.two
  unfold slashP at h ⊢
  by_cases hlt : i + 1 < L.length
  · have hj : i + 2 ≤ j := by
      rw [if_pos hlt, if_pos hlt] at h
      split at h
      · cases h; omega
      · split at h
        · cases h; omega
        · obtain ⟨⟨b, e'⟩, h3, h4⟩ := Option.map_eq_some_iff.1 h
          cases h4
          exact (escP_le h3).1
    rw [if_pos hlt, if_pos hlt] at h
    rw [if_pos (by omega), if_pos (by omega), A.byt (k := i + 1) (by omega)]
    split at h
    · rename_i s hs; exact h
    · rename_i hs
      split at h
      · exact h
      · obtain ⟨⟨b, e'⟩, h3, h4⟩ := Option.map_eq_some_iff.1 h
        cases h4
        rw [escP_agree h3 A]; rfl
  · exfalso
    rw [if_neg hlt, if_neg hlt] at h
    simp only [] at h
    obtain ⟨⟨b, e'⟩, h3, h4⟩ := Option.map_eq_some_iff.1 h
    unfold escP at h3
    rw [if_neg hlt] at h3
    cases h3

theorem wordP_agree {L L' : Str} {i j : Nat} {d : WordD} (hB : NoB L) (hi : i < L.length) (h : wordP L i = .ok (d, j)) (A : Agree L L' j) (hq : atP L' j [63] = true → atP L j [63] = true)
    (hb : bracesP L i = none → bracesP L' i = none) : wordP L' i = .ok (d, j) := by
  have hl := wordP_le hi h
  have h1 := A.one
  have h2 := A.two
  unfold wordP at h ⊢
  rw [A.byt (k := i) (by omega)]
  simp only [] at h ⊢
  split at h
  · rename_i hc; rw [if_pos hc, slashP_agree hi hc (orErr_ok h) A]; rfl
  · rename_i hc; rw [if_neg hc]
    split at h
    · rename_i hc; rw [if_pos hc, classP_agree hB hi (orErr_ok h) A]; rfl
    · rename_i hc; rw [if_neg hc]
      split at h
      · rename_i hc; rw [if_pos hc]
        split at h
        · rename_i ha
          have hf := orErr_ok h
          have := flagsGo_le _ _ _ _ _ _ _ hf
          rw [A.at (by simp; omega), if_pos ha, flagsP_agree hf A]; rfl
        · rename_i ha
          cases h
          rw [if_neg (fun x => ha (hq x))]
      · rename_i hc; rw [if_neg hc]
        split at h
        · rename_i hc; rw [if_pos hc]
          cases hbr : bracesP L i with
          | some x =>
            obtain ⟨lo, hi', e⟩ := x
            rw [hbr] at h
            simp only [] at h
            have he := bracesP_in hbr hi
            have he2 := repeatP_le he.2 h
            rw [bracesP_agree hi hbr (A.le he2.1)]
            exact repeatP_agree he.2 h A hq
          | none =>
            rw [hbr] at h
            rw [hb hbr]
            exact h
        · rename_i hc; rw [if_neg hc]
          split at h
          · rename_i hc; rw [if_pos hc]; exact repeatP_agree (by omega) h A hq
          · rename_i hc; rw [if_neg hc]
            split at h
            · rename_i hc; rw [if_pos hc]; exact repeatP_agree (by omega) h A hq
            · rename_i hc; rw [if_neg hc]
              split at h
              · rename_i hc; rw [if_pos hc]; exact repeatP_agree (by omega) h A hq
              · rename_i hc; rw [if_neg hc]; exact h

end Go.Proofs.YtllmgmfihijejaaDoor
/-
  The words of a text that stands behind another one: the same ones, so much further on.
-/
namespace Go.Proofs.YtllmgmfihijejaaDoor
open Go.RowKit

section
variable (A B : Str)
theorem byt_sh (i : Nat) : byt (A ++ B) (A.length + i) = byt B i := by
  unfold byt; rw [List.getD_eq_getElem?_getD, List.getD_eq_getElem?_getD, List.getElem?_append_right (by omega), Nat.add_sub_cancel_left]
theorem drop_sh (i : Nat) : (A ++ B).drop (A.length + i) = B.drop i := by
  rw [List.drop_append, List.drop_of_length_le (by omega), List.nil_append, Nat.add_sub_cancel_left]
theorem at_sh (i : Nat) (t : Str) : atP (A ++ B) (A.length + i) t = atP B i t := by unfold atP; rw [drop_sh]
theorem lt_sh (i : Nat) : (A.length + i < (A ++ B).length) = (i < B.length) := by simp
def shO {α : Type} (n : Nat) (o : Option (α × Nat)) : Option (α × Nat) := o.map (fun p => (p.1, n + p.2))
def shD (n : Nat) (d : WordD) : WordD := { d with place := n + d.place }
def shW (n : Nat) (p : WordD × Nat) : WordD × Nat := (shD n p.1, n + p.2)
theorem shO_none {α : Type} (n : Nat) : shO n (none : Option (α × Nat)) = none := rfl
theorem shO_some {α : Type} (n : Nat) (a : α) (k : Nat) : shO n (some (a, k)) = some (a, n + k) := rfl
theorem escP_sh (i : Nat) : escP (A ++ B) (A.length + i) = shO A.length (escP B i) := by
  unfold escP
  simp only [Nat.add_assoc, lt_sh, byt_sh]
  by_cases h1 : i + 1 < B.length
  · rw [if_pos h1, if_pos h1]
    cases plainP (byt B (i + 1)) with
    | some b => rfl
    | none =>
      simp only []
      by_cases hx : byt B (i + 1) = 120
      · rw [if_pos hx, if_pos hx]
        by_cases h2 : i + 2 < B.length
        · rw [if_pos h2, if_pos h2]
          cases hexP (byt B (i + 2)) with
          | none => rfl
          | some h =>
            simp only []
            by_cases h3 : i + 3 < B.length
            · rw [if_pos h3, if_pos h3]
              cases hexP (byt B (i + 3)) <;> rfl
            · rw [if_neg h3, if_neg h3]; rfl
        · rw [if_neg h2, if_neg h2]; rfl
      · rw [if_neg hx, if_neg hx]
        by_cases h2 : 128 ≤ byt B (i + 1)
        · rw [if_pos h2, if_pos h2]; rfl
        · rw [if_neg h2, if_neg h2]
          by_cases h3 : hasB alnumS (byt B (i + 1)) = true
          · rw [if_pos h3, if_pos h3]; rfl
          · rw [if_neg h3, if_neg h3]; rfl
  · rw [if_neg h1, if_neg h1]; rfl
theorem thingP_sh (i : Nat) : thingP (A ++ B) (A.length + i) = shO A.length (thingP B i) := by
  unfold thingP
  simp only [Nat.add_assoc, lt_sh, byt_sh, escP_sh]
  by_cases h1 : i < B.length
  · rw [if_pos h1, if_pos h1]
    by_cases hx : byt B i = 92
    · rw [if_pos hx, if_pos hx]
    · rw [if_neg hx, if_neg hx]; rfl
  · rw [if_neg h1, if_neg h1]; rfl
theorem nameP_sh (i : Nat) : nameP (A ++ B) (A.length + i) = (nameP B i).map (shO A.length) := by
  unfold nameP
  simp only [Nat.add_assoc, at_sh, drop_sh]
  by_cases h1 : atP B i [91, 58] = true
  · rw [if_pos h1, if_pos h1]
    cases findP [58, 93] (List.drop (i + 2) B) with
    | none => rfl
    | some k =>
      simp only []
      cases namedP (if atP (List.take k (List.drop (i + 2) B)) 0 [94] = true then List.drop 1 (List.take k (List.drop (i + 2) B)) else List.take k (List.drop (i + 2) B)) with
      | none => rfl
      | some s => rfl
  · rw [if_neg h1, if_neg h1]; rfl
theorem itemTail_sh (i : Nat) : itemTail (A ++ B) (A.length + i) = shO A.length (itemTail B i) := by
  unfold itemTail
  rw [thingP_sh]
  cases thingP B i with
  | none => rfl
  | some p =>
    obtain ⟨lo, k⟩ := p
    rw [shO_some]
    simp only [Nat.add_assoc, lt_sh, byt_sh, thingP_sh]
    by_cases h1 : k + 1 < B.length ∧ byt B k = 45 ∧ byt B (k + 1) ≠ 93
    · rw [if_pos h1, if_pos h1]
      cases thingP B (k + 1) with
      | none => rfl
      | some q =>
        obtain ⟨hi, e⟩ := q
        rw [shO_some]
        simp only []
        by_cases h2 : lo ≤ hi
        · rw [if_pos h2, if_pos h2]; rfl
        · rw [if_neg h2, if_neg h2]; rfl
    · rw [if_neg h1, if_neg h1]; rfl
theorem itemP_sh (i : Nat) : itemP (A ++ B) (A.length + i) = shO A.length (itemP B i) := by
  unfold itemP
  rw [nameP_sh]
  cases nameP B i with
  | some r => rfl
  | none =>
    simp only [Option.map_none, Nat.add_assoc, lt_sh, byt_sh, itemTail_sh]
    cases (if byt B i = 92 ∧ i + 1 < B.length then sortP (byt B (i + 1)) else none) with
    | none => rfl
    | some s => rfl
theorem classGo_sh : ∀ (f k : Nat) (b : Bool) (S : Nat → Nat), classGo (A ++ B) f (A.length + k) b S = shO A.length (classGo B f k b S)
  | 0, _, _, _ => rfl
  | f + 1, k, b, S => by
    rw [classGo, classGo]
    simp only [Nat.add_assoc, at_sh, itemP_sh]
    by_cases h1 : b = false ∧ atP B k [93] = true
    · rw [if_pos h1, if_pos h1]; rfl
    · rw [if_neg h1, if_neg h1]
      cases itemP B k with
      | none => rfl
      | some p => obtain ⟨t, e⟩ := p; exact classGo_sh f e false _
theorem classGo_fuel {L : Str} {f k : Nat} {b : Bool} {S : Nat → Nat} (hk : k ≤ L.length) (hf : L.length - k ≤ f) : ∀ {f' : Nat}, L.length - k ≤ f' → classGo L f k b S = classGo L f' k b S := by
  have one : ∀ (f f' k : Nat) (b : Bool) (S : Nat → Nat), k ≤ L.length → L.length - k ≤ f → L.length - k ≤ f' → ∀ r, classGo L f k b S = some r → classGo L f' k b S = some r := by
    intro f
    induction f with
    | zero => intro f' k b S _ _ _ r h; cases h
    | succ f ih =>
      intro f' k b S hk hf hf' r h
      obtain ⟨S', j⟩ := r
      have hj := classGo_le _ _ _ _ _ _ hk h
      obtain ⟨f', rfl⟩ : ∃ g, f' = g + 1 := ⟨f' - 1, by omega⟩
      rw [classGo] at h ⊢
      split at h
      · rename_i hc; rw [if_pos hc]; exact h
      · rename_i hc
        rw [if_neg hc]
        split at h
        · cases h
        · rename_i t e hi
          have h1 := itemP_le hi
          exact ih f' e false _ h1.2.1 (by omega) (by omega) _ h
  intro f' hf'
  cases h : classGo L f k b S with
  | some r => exact (one f f' k b S hk hf hf' r h).symm
  | none =>
    cases h2 : classGo L f' k b S with
    | none => rfl
    | some r => rw [one f' f k b S hk hf' hf r h2] at h; cases h
theorem classP_sh (i : Nat) (hi : i < B.length) : classP (A ++ B) (A.length + i) = (classP B i).map (shW A.length) := by
  unfold classP
  simp only [Nat.add_assoc, at_sh]
  by_cases h1 : atP B (i + 1) [94] = true
  · have := at_le h1 (by simp)
    simp at this
    rw [if_pos h1, classGo_sh, h1, if_pos rfl, classGo_fuel (f := (A ++ B).length + 1) (f' := B.length + 1) (by omega) (by simp; omega) (by omega), Option.map_map]
    unfold shO
    rw [Option.map_map]; rfl
  · rw [if_neg h1, classGo_sh, if_neg h1, classGo_fuel (f := (A ++ B).length + 1) (f' := B.length + 1) (by omega) (by simp; omega) (by omega), Option.map_map]
    unfold shO
    rw [Option.map_map]; rfl
theorem flagsGo_sh : ∀ (f k : Nat) (a b : Bool) (d : WordD), flagsGo (A ++ B) f (A.length + k) a b (shD A.length d) = (flagsGo B f k a b d).map (shW A.length)
  | 0, _, _, _, _ => rfl
  | f + 1, k, a, b, d => by
    rw [flagsGo, flagsGo]
    simp only [Nat.add_assoc, lt_sh, byt_sh]
    by_cases h1 : k < B.length
    · rw [if_pos h1, if_pos h1]
      split
      · cases a
        · exact flagsGo_sh f (k + 1) false true { d with on := (true, d.on.2.1, d.on.2.2) }
        · exact flagsGo_sh f (k + 1) true true { d with off := (true, d.off.2.1, d.off.2.2) }
      · split
        · cases a
          · exact flagsGo_sh f (k + 1) false true { d with on := (d.on.1, true, d.on.2.2) }
          · exact flagsGo_sh f (k + 1) true true { d with off := (d.off.1, true, d.off.2.2) }
        · split
          · cases a
            · exact flagsGo_sh f (k + 1) false true { d with on := (d.on.1, d.on.2.1, true) }
            · exact flagsGo_sh f (k + 1) true true { d with off := (d.off.1, d.off.2.1, true) }
          · split
            · cases a
              · exact flagsGo_sh f (k + 1) true false d
              · rfl
            · split
              · cases b <;> rfl
              · split
                · cases b <;> rfl
                · rfl
    · rw [if_neg h1, if_neg h1]; rfl
theorem flagsGo_fuel {L : Str} : ∀ (f f' k : Nat) (a b : Bool) (d : WordD), L.length - k ≤ f → L.length - k ≤ f' → flagsGo L f k a b d = flagsGo L f' k a b d
  | 0, 0, _, _, _, _, _, _ => rfl
  | 0, f' + 1, k, a, b, d, h, _ => by rw [flagsGo, flagsGo, if_neg (by omega)]
  | f + 1, 0, k, a, b, d, _, h => by rw [flagsGo, flagsGo, if_neg (by omega)]
  | f + 1, f' + 1, k, a, b, d, h, h' => by
    rw [flagsGo, flagsGo]
    by_cases h1 : k < L.length
    · rw [if_pos h1, if_pos h1]
      have ih : ∀ (a b : Bool) (d : WordD), flagsGo L f (k + 1) a b d = flagsGo L f' (k + 1) a b d := fun a b d => flagsGo_fuel f f' (k + 1) a b d (by omega) (by omega)
      simp only [ih]
    · rw [if_neg h1, if_neg h1]
theorem flagsP_sh (i : Nat) : flagsP (A ++ B) (A.length + i) = (flagsP B i).map (shW A.length) := by
  unfold flagsP
  rw [flagsGo_fuel (L := B) (B.length + 1) ((A ++ B).length + 1) (i + 2) _ _ _ (by omega) (by simp; omega)]
  exact flagsGo_sh A B _ (i + 2) false true { kind := 0, place := i }
theorem numberP_sh (i : Nat) : numberP (A ++ B) (A.length + i) = shO A.length (numberP B i) := by
  unfold numberP
  simp only [Nat.add_assoc, drop_sh, byt_sh]
  split
  · rfl
  · rfl
theorem bracesP_sh (i : Nat) : bracesP (A ++ B) (A.length + i) = (bracesP B i).map (fun p => (p.1, p.2.1, A.length + p.2.2)) := by
  unfold bracesP
  simp only [Nat.add_assoc, numberP_sh]
  cases numberP B (i + 1) with
  | none => rfl
  | some p =>
    obtain ⟨n, k⟩ := p
    rw [shO_some]
    simp only [Nat.add_assoc, at_sh, numberP_sh]
    split
    · rfl
    · split
      · cases numberP B (k + 1) with
        | none => rfl
        | some q =>
          obtain ⟨m, e⟩ := q
          rw [shO_some]
          simp only [Nat.add_assoc, at_sh]
          split <;> rfl
      · split <;> rfl
def shE (n : Nat) (x : Except Nat (WordD × Nat)) : Except Nat (WordD × Nat) := match x with
  | .ok p => .ok (shW n p)
  | .error e => .error e
theorem repeatP_sh (i : Nat) (lo hi : Int) (e : Nat) : repeatP (A ++ B) (A.length + i) lo hi (A.length + e) = shE A.length (repeatP B i lo hi e) := by
  unfold repeatP
  simp only [Nat.add_assoc, at_sh]
  split
  · rfl
  · split <;> rfl
theorem slashP_sh (i : Nat) : slashP (A ++ B) (A.length + i) = (slashP B i).map (shW A.length) := by
  unfold slashP
  simp only [Nat.add_assoc, lt_sh, byt_sh, escP_sh]
  cases (if i + 1 < B.length then sortP (byt B (i + 1)) else none) with
  | some s => rfl
  | none =>
    simp only []
    cases (if i + 1 < B.length then spotP (byt B (i + 1)) else none) with
    | some s => rfl
    | none => simp only []; unfold shO; rw [Option.map_map, Option.map_map]; rfl
theorem orErr_sh (n : Nat) (o : Option (WordD × Nat)) : orErr (o.map (shW n)) = shE n (orErr o) := by cases o <;> rfl
theorem wordP_sh (i : Nat) (hi : i < B.length) : wordP (A ++ B) (A.length + i) = shE A.length (wordP B i) := by
  unfold wordP
  simp only [Nat.add_assoc, byt_sh, at_sh, slashP_sh, flagsP_sh, classP_sh A B i hi, orErr_sh, repeatP_sh, bracesP_sh]
  split
  · rfl
  · split
    · rfl
    · split
      · split <;> rfl
      · split
        · cases bracesP B i with
          | none => rfl
          | some p => exact repeatP_sh A B i p.1 p.2.1 p.2.2
        · split
          · rfl
          · split
            · rfl
            · split
              · rfl
              · cases signP (byt B i) <;> rfl
end

/-! ### words -/
theorem wordsGo_fuel {L : Str} : ∀ (f f' i : Nat), L.length - i ≤ f → L.length - i ≤ f' → wordsGo L f i = wordsGo L f' i
  | 0, 0, _, _, _ => rfl
  | 0, f' + 1, i, h, _ => by rw [wordsGo, wordsGo, if_neg (by omega), if_neg (by omega)]
  | f + 1, 0, i, _, h => by rw [wordsGo, wordsGo, if_neg (by omega), if_neg (by omega)]
  | f + 1, f' + 1, i, h, h' => by
    rw [wordsGo, wordsGo]
    by_cases h1 : i < L.length
    · rw [if_pos h1, if_pos h1]
      cases hw : wordP L i with
      | error e => rfl
      | ok p =>
        obtain ⟨w, j⟩ := p
        have := wordP_le h1 hw
        simp only []
        rw [wordsGo_fuel f f' j (by omega) (by omega)]
    · rw [if_neg h1, if_neg h1]
def wordsAt (L : Str) (i : Nat) : Except (Nat × Nat) (List WordD) := wordsGo L L.length i
theorem wordsAt_end {L : Str} {i : Nat} (h : L.length ≤ i) : wordsAt L i = .ok [] := by
  unfold wordsAt
  rw [wordsGo_fuel L.length 1 i (by omega) (by omega), wordsGo, if_neg (by omega)]
theorem wordsAt_bad {L : Str} {i e : Nat} (h : i < L.length) (hw : wordP L i = .error e) : wordsAt L i = .error (i, e) := by
  unfold wordsAt
  rw [wordsGo_fuel L.length (L.length + 1) i (by omega) (by omega), wordsGo, if_pos h, hw]
theorem wordsAt_go {L : Str} {i j : Nat} {d : WordD} (h : i < L.length) (hw : wordP L i = .ok (d, j)) : wordsAt L i = match wordsAt L j with
    | .error x => .error x
    | .ok l => .ok (d :: l) := by
  have := wordP_le h hw
  unfold wordsAt
  rw [wordsGo_fuel L.length (L.length + 1) i (by omega) (by omega), wordsGo, if_pos h, hw]
  rfl
def shL (n : Nat) (x : Except (Nat × Nat) (List WordD)) : Except (Nat × Nat) (List WordD) := match x with
  | .ok l => .ok (l.map (shD n))
  | .error e => .error (n + e.1, e.2)
theorem wordsAt_sh (A B : Str) : ∀ (n i : Nat), B.length - i ≤ n → wordsAt (A ++ B) (A.length + i) = shL A.length (wordsAt B i) := by
  intro n
  induction n with
  | zero =>
    intro i h
    rw [wordsAt_end (by simp; omega), wordsAt_end (by omega)]; rfl
  | succ n ih =>
    intro i h
    by_cases hi : i < B.length
    · have hs := wordP_sh A B i hi
      cases hw : wordP B i with
      | error e =>
        rw [hw] at hs
        rw [wordsAt_bad (by simp; omega) hs, wordsAt_bad hi hw]; rfl
      | ok p =>
        obtain ⟨w, j⟩ := p
        have := wordP_le hi hw
        rw [hw] at hs
        rw [wordsAt_go (by simp; omega) hs, wordsAt_go hi hw, ih j (by omega)]
        cases wordsAt B j <;> rfl
    · rw [wordsAt_end (by simp; omega), wordsAt_end (by omega)]; rfl
theorem words_sh (A B : Str) : wordsAt (A ++ B) A.length = shL A.length (wordsP B) := wordsAt_sh A B B.length 0 (by omega)

/-- what a second regex may not begin with -/
def Quiet (B : Str) : Prop := ∀ c l, B = c :: l → goesOn c.toNat = false ∧ c ≠ 63 ∧ c ≠ 123
theorem join_agree (A B : Str) {m : Nat} (h : m ≤ A.length) : Agree A (A ++ B) m := ⟨h, by simp; omega, by rw [List.take_append_of_le_length h]⟩
theorem quiet_at {A B : Str} (h : Quiet B) {t : Str} {c : UInt8} (hc : c = 63) (ht : t = [c]) {j : Nat} (hj : j ≤ A.length) (ha : atP (A ++ B) j t = true) : atP A j t = true := by
  subst ht hc
  rcases Nat.lt_or_ge j A.length with hlt | hge
  · rwa [(join_agree A B (m := A.length) (by omega)).at (by simp; omega)] at ha
  · have : j = A.length + 0 := by omega
    rw [this, at_sh] at ha
    unfold atP at ha
    cases B with
    | nil => simp at ha
    | cons c l =>
      simp at ha
      exact absurd ha.symm (h c l rfl).2.1
theorem quiet_braces {A B : Str} (h : Quiet B) {i : Nat} (hi : i < A.length) (hn : bracesP A i = none) : bracesP (A ++ B) i = none := by
  cases hb : bracesP (A ++ B) i with
  | none => rfl
  | some p =>
    exfalso
    obtain ⟨lo, hi', e⟩ := p
    have he := bracesP_in hb (by simp; omega)
    rcases Nat.lt_or_ge A.length e with hlt | hge
    · have hg := bracesP_bytes (by simp; omega) hb A.length hi hlt
      have := byt_sh A B 0
      rw [Nat.add_zero] at this
      rw [this] at hg
      cases B with
      | nil => simp at he; omega
      | cons c l =>
        have := (h c l rfl).1
        unfold byt at hg
        simp at hg
        rw [this] at hg; cases hg
    · rw [bracesP_agree (by simp; omega) hb (join_agree A B hge).symm] at hn; cases hn
theorem wordP_join {A B : Str} (hB : NoB A) (hq : Quiet B) {i j : Nat} {d : WordD} (hi : i < A.length) (h : wordP A i = .ok (d, j)) : wordP (A ++ B) i = .ok (d, j) := by
  have hl := wordP_le hi h
  exact wordP_agree hB hi h (join_agree A B hl.2) (fun ha => quiet_at hq rfl rfl hl.2 ha) (fun hn => quiet_braces hq hi hn)
/-- the words of two regexes behind each other -/
theorem words_join {A B : Str} (hB : NoB A) (hq : Quiet B) : ∀ (n i : Nat) (l : List WordD), A.length - i ≤ n → i ≤ A.length → wordsAt A i = .ok l → wordsAt (A ++ B) i = match wordsP B with
    | .error x => .error (A.length + x.1, x.2)
    | .ok l2 => .ok (l ++ l2.map (shD A.length)) := by
  intro n
  induction n with
  | zero =>
    intro i l h hi hw
    have : i = A.length := by omega
    subst this
    rw [wordsAt_end (by omega)] at hw
    cases hw
    rw [words_sh]
    cases wordsP B <;> rfl
  | succ n ih =>
    intro i l h hi hw
    rcases Nat.lt_or_ge i A.length with hlt | hge
    · cases hx : wordP A i with
      | error e => rw [wordsAt_bad hlt hx] at hw; cases hw
      | ok p =>
        obtain ⟨d, j⟩ := p
        have hl := wordP_le hlt hx
        rw [wordsAt_go hlt hx] at hw
        cases hy : wordsAt A j with
        | error x => rw [hy] at hw; cases hw
        | ok l1 =>
          rw [hy] at hw
          cases hw
          rw [wordsAt_go (by simp; omega) (wordP_join hB hq hlt hx), ih j l1 (by omega) (by omega) hy]
          cases wordsP B <;> rfl
    · have : i = A.length := by omega
      subst this
      rw [wordsAt_end (by omega)] at hw
      cases hw
      rw [words_sh]
      cases wordsP B <;> rfl
theorem wordsP_join {A B : Str} (hB : NoB A) (hq : Quiet B) {l : List WordD} (h : wordsP A = .ok l) : wordsP (A ++ B) = match wordsP B with
    | .error x => .error (A.length + x.1, x.2)
    | .ok l2 => .ok (l ++ l2.map (shD A.length)) := words_join hB hq A.length 0 l (by omega) (by omega) h

/-! ### the places of words -/
theorem flagsGo_place {L : Str} : ∀ (f k : Nat) (a b : Bool) (d d' : WordD) (e : Nat), flagsGo L f k a b d = some (d', e) → d'.place = d.place
  | 0, _, _, _, _, _, _, h => by cases h
  | f + 1, k, a, b, d, d', e, h => by
    rw [flagsGo] at h
    split at h
    · simp only [] at h
      split at h
      · rw [flagsGo_place f _ _ _ _ _ _ h]; cases a <;> rfl
      · split at h
        · rw [flagsGo_place f _ _ _ _ _ _ h]; cases a <;> rfl
        · split at h
          · rw [flagsGo_place f _ _ _ _ _ _ h]; cases a <;> rfl
          · split at h
            · split at h
              · cases h
              · rw [flagsGo_place f _ _ _ _ _ _ h]
            · split at h
              · split at h
                · cases h; rfl
                · cases h
              · split at h
                · split at h
                  · cases h; rfl
                  · cases h
                · cases h
    · cases h
theorem slashP_place {L : Str} {i j : Nat} {d : WordD} (h : slashP L i = some (d, j)) : d.place = i := by
  unfold slashP at h
  split at h
  · cases h; rfl
  · split at h
    · cases h; rfl
    · obtain ⟨⟨b, e⟩, _, h2⟩ := Option.map_eq_some_iff.1 h
      cases h2; rfl
theorem classP_place {L : Str} {i j : Nat} {d : WordD} (h : classP L i = some (d, j)) : d.place = i := by
  unfold classP at h
  obtain ⟨⟨b, e⟩, _, h2⟩ := Option.map_eq_some_iff.1 h
  cases h2; rfl
theorem repeatP_place {L : Str} {i e j : Nat} {lo hi : Int} {d : WordD} (h : repeatP L i lo hi e = .ok (d, j)) : d.place = i := by
  unfold repeatP at h
  split at h
  · cases h
  · split at h <;> (cases h; rfl)
theorem wordP_place {L : Str} {i j : Nat} {d : WordD} (h : wordP L i = .ok (d, j)) : d.place = i := by
  unfold wordP at h
  simp only [] at h
  split at h
  · exact slashP_place (orErr_ok h)
  · split at h
    · exact classP_place (orErr_ok h)
    · split at h
      · split at h
        · exact flagsGo_place _ _ _ _ _ _ _ (orErr_ok h)
        · cases h; rfl
      · split at h
        · split at h
          · exact repeatP_place h
          · cases h; rfl
        · split at h
          · exact repeatP_place h
          · split at h
            · exact repeatP_place h
            · split at h
              · exact repeatP_place h
              · split at h <;> (cases h; rfl)

theorem wordsAt_code {L : Str} : ∀ (n i : Nat) (p e : Nat), L.length - i ≤ n → wordsAt L i = .error (p, e) → e = 4 ∨ e = 6 := by
  intro n
  induction n with
  | zero => intro i p e h hw; rw [wordsAt_end (by omega)] at hw; cases hw
  | succ n ih =>
    intro i p e h hw
    rcases Nat.lt_or_ge i L.length with hlt | hge
    · cases hx : wordP L i with
      | error e' => rw [wordsAt_bad hlt hx] at hw; cases hw; exact wordP_err hx
      | ok q =>
        obtain ⟨d, j⟩ := q
        have hl := wordP_le hlt hx
        rw [wordsAt_go hlt hx] at hw
        cases hy : wordsAt L j with
        | error y =>
          rw [hy] at hw
          cases hw
          exact ih j p e (by omega) hy
        | ok l => rw [hy] at hw; cases hw
    · rw [wordsAt_end hge] at hw; cases hw
theorem wordsP_code {L : Str} {p e : Nat} (h : wordsP L = .error (p, e)) : e = 4 ∨ e = 6 := wordsAt_code _ 0 p e (Nat.le_refl _) h

/-! ### what stands ahead of a place -/
theorem take_agree (L : Str) {m n : Nat} (hm : m ≤ L.length) (hn : n ≤ m) : Agree L (L.take m) n := ⟨by omega, by simp; omega, by rw [List.take_take, Nat.min_eq_left hn]⟩
theorem wordP_take {L : Str} {i j m : Nat} {d : WordD} (hB : NoB L) (hi : i < L.length) (h : wordP L i = .ok (d, j)) (h1 : j ≤ m) (h2 : m ≤ L.length) : wordP (L.take m) i = .ok (d, j) := by
  have hl := wordP_le hi h
  refine wordP_agree hB hi h (take_agree L h2 h1) (fun ha => ?_) (fun hn => ?_)
  · have hx := at_le ha (by simp)
    simp at hx
    rwa [(take_agree L h2 (n := m) (by omega)).at (by simp; omega)] at ha
  · cases hb : bracesP (L.take m) i with
    | none => rfl
    | some p =>
      obtain ⟨lo, hi', e⟩ := p
      have he := bracesP_in hb (by simp; omega)
      simp at he
      rw [bracesP_agree (by simp; omega) hb (take_agree L h2 (n := e) (by omega)).symm] at hn; cases hn
theorem wordsAt_err {L : Str} : ∀ (n i : Nat) (p e : Nat), L.length - i ≤ n → wordsAt L i = .error (p, e) → i ≤ p ∧ p < L.length := by
  intro n
  induction n with
  | zero => intro i p e h hw; rw [wordsAt_end (by omega)] at hw; cases hw
  | succ n ih =>
    intro i p e h hw
    rcases Nat.lt_or_ge i L.length with hlt | hge
    · cases hx : wordP L i with
      | error e' => rw [wordsAt_bad hlt hx] at hw; cases hw; omega
      | ok q =>
        obtain ⟨d, j⟩ := q
        have hl := wordP_le hlt hx
        rw [wordsAt_go hlt hx] at hw
        cases hy : wordsAt L j with
        | error y =>
          rw [hy] at hw
          cases hw
          have := ih j p e (by omega) hy
          omega
        | ok l => rw [hy] at hw; cases hw
    · rw [wordsAt_end hge] at hw; cases hw
theorem wordsAt_ahead {L : Str} (hB : NoB L) : ∀ (n i : Nat) (p e : Nat), L.length - i ≤ n → wordsAt L i = .error (p, e) → ∃ m, wordsAt (L.take p) i = .ok m := by
  intro n
  induction n with
  | zero => intro i p e h hw; rw [wordsAt_end (by omega)] at hw; cases hw
  | succ n ih =>
    intro i p e h hw
    have hp := wordsAt_err _ _ _ _ (Nat.le_refl _) hw
    rcases Nat.lt_or_ge i L.length with hlt | hge
    · cases hx : wordP L i with
      | error e' => rw [wordsAt_bad hlt hx] at hw; cases hw; exact ⟨[], wordsAt_end (by simp; omega)⟩
      | ok q =>
        obtain ⟨d, j⟩ := q
        have hl := wordP_le hlt hx
        rw [wordsAt_go hlt hx] at hw
        cases hy : wordsAt L j with
        | error y =>
          rw [hy] at hw
          cases hw
          have h3 := wordsAt_err _ _ _ _ (Nat.le_refl _) hy
          obtain ⟨m, hm⟩ := ih j p e (by omega) hy
          refine ⟨d :: m, ?_⟩
          rw [wordsAt_go (by simp; omega) (wordP_take hB hlt hx h3.1 (by omega)), hm]
        | ok l => rw [hy] at hw; cases hw
    · rw [wordsAt_end hge] at hw; cases hw
theorem wordsP_some {L : Str} {l : List WordD} (h : wordsP L = .ok l) (hL : L ≠ []) : l ≠ [] := by
  intro hc
  subst hc
  have hlt : 0 < L.length := List.length_pos_iff.2 hL
  have h' : wordsAt L 0 = .ok [] := h
  cases hx : wordP L 0 with
  | error e => rw [wordsAt_bad hlt hx] at h'; cases h'
  | ok q =>
    obtain ⟨d, j⟩ := q
    rw [wordsAt_go hlt hx] at h'
    cases hy : wordsAt L j with
    | error y => rw [hy] at h'; cases h'
    | ok l => rw [hy] at h'; cases h'
/-- where the next word begins, or the text ends -/
def nextAt (L : Str) (l : List WordD) : Nat := match l with
  | [] => L.length
  | d :: _ => d.place
theorem wordsAt_next {L : Str} {j : Nat} {l : List WordD} (hj : j ≤ L.length) (h : wordsAt L j = .ok l) : nextAt L l = j := by
  rcases Nat.lt_or_ge j L.length with hlt | hge
  · cases hx : wordP L j with
    | error e' => rw [wordsAt_bad hlt hx] at h; cases h
    | ok q =>
      obtain ⟨d, k⟩ := q
      rw [wordsAt_go hlt hx] at h
      cases hy : wordsAt L k with
      | error y => rw [hy] at h; cases h
      | ok l => rw [hy] at h; cases h; exact wordP_place hx
  · rw [wordsAt_end hge] at h; cases h
    show L.length = j
    omega
/-- each word: it is read at its place, and ends where the next one begins -/
theorem wordsAt_each {L : Str} : ∀ (l : List WordD) (i : Nat), i ≤ L.length → wordsAt L i = .ok l → ∀ (a b : List WordD) (d : WordD), l = a ++ d :: b → d.place < L.length ∧ wordP L d.place = .ok (d, nextAt L b) := by
  intro l
  induction l with
  | nil => intro i hi h a b d e; cases a <;> cases e
  | cons x l ih =>
    intro i hi h a b d e
    rcases Nat.lt_or_ge i L.length with hlt | hge
    · cases hx : wordP L i with
      | error e' => rw [wordsAt_bad hlt hx] at h; cases h
      | ok q =>
        obtain ⟨x', j⟩ := q
        have hl := wordP_le hlt hx
        rw [wordsAt_go hlt hx] at h
        cases hy : wordsAt L j with
        | error y => rw [hy] at h; cases h
        | ok l' =>
          rw [hy] at h
          cases h
          cases a with
          | nil =>
            cases e
            rw [wordP_place hx, wordsAt_next hl.2 hy]
            exact ⟨hlt, hx⟩
          | cons a0 a =>
            cases e
            exact ih j hl.2 hy a b d rfl
    · rw [wordsAt_end hge] at h; cases h
/-- one word alone -/
theorem word_alone {L : Str} {i j : Nat} {d : WordD} (hB : NoB L) (hi : i < L.length) (h : wordP L i = .ok (d, j)) : wordsP ((L.take j).drop i) = .ok [{ d with place := 0 }] := by
  have hl := wordP_le hi h
  have ht := wordP_take hB hi h (Nat.le_refl j) hl.2
  have hp := wordP_place h
  have e : L.take j = L.take i ++ (L.take j).drop i := by
    conv => lhs; rw [← List.take_append_drop i (L.take j)]
    rw [List.take_take, Nat.min_eq_left (by omega)]
  have hA : (L.take i).length = i := by simp; omega
  generalize hM : (L.take j).drop i = M at e ⊢
  generalize hN : L.take i = A at e hA
  rw [e] at ht
  have hML : M.length = j - i := by rw [← hM]; simp; omega
  have hs := wordP_sh A M 0 (by omega)
  rw [hA, Nat.add_zero, ht] at hs
  cases hw : wordP M 0 with
  | error x => rw [hw] at hs; cases hs
  | ok q =>
    obtain ⟨d0, k⟩ := q
    rw [hw] at hs
    simp only [shE, Except.ok.injEq, shW, Prod.mk.injEq] at hs
    have h0 := wordP_place hw
    show wordsAt M 0 = _
    rw [wordsAt_go (by omega) hw, wordsAt_end (by omega), hs.1]
    cases d0
    simp only at h0
    subst h0
    rfl

end Go.Proofs.YtllmgmfihijejaaDoor
/-
  A law whose row lists variables: the wrap that hands on the world's shape and the form's reach.
-/
namespace Go.Proofs.YtllmgmfihijejaaDoor.laidUp
open Go.ChangeShapes Go.WideShapes Go.ChangeAt Go.RowKit
set_option linter.unusedVariables false

section
variable {H : Type} {enc : TypeId × Value → H}
/-- a law whose row lists variables, the world's shape kept -/
theorem handed_laid {a : Assume} {C : Checked} {os : Os} {f : FuncId} {fn : Func} {s : ChangeSpec} {conds : List PathCond} {apart fresh handsOn again : Bool} {X : World → Array Value → Prop}
    (hX : ∀ (w w' : World) (args : Array Value), w.heap = w'.heap → X w args → X w' args)
    (own : ownKnob C.prog.godebug = none) (started : os.Started) (noInit : C.prog.inits.idxOf? f = none) (hfn : C.prog.funcs[f]? = some fn)
    (witness : ∃ (w : World) (tape : Tape) (i : Input), w.os = os ∧ (w.forCall tape i).Shaped C.prog ∧ i.vars = [] ∧ Input.okWide C.prog (w.forCall tape i) .any w.heap.size f i ∧
      ((s.pre enc C.prog fn conds apart (w.forCall tape i).memory i.args ∧ X (w.forCall tape i).memory i.args) ∧ sizedMet enc C.prog fn (OpenSpec.ofChange s) apart (w.forCall tape i).memory i.args) ∧ a.holds C.prog (lone (Frame.enter C.prog f i.args .normal) [] (w.forCall tape i)))
    (contract : ∀ (W : World) (base : Nat) (args : Array Value) (ds gs : List (DataW H)) (before : List MemPlace),
      (∀ (j : Nat) t v, fn.params[j]? = some t → args[j]? = some v → Value.okWide C.prog W .any base t v) →
      DataW.Whole enc C.prog fn.params.toList s.vars apart W args.toList ds gs before → W.ShapedOpen C.prog →
      (DataW.weightsEach C.prog (fn.params.toList ++ (OpenSpec.ofChange s).bare.plain.varTypes C.prog) (ds ++ gs)).all (· ≤ reachBytes) = true →
      Calls C.prog f args W fun e W' => ∃ v, e = .returned v ∧ s.post enc C.prog fn apart fresh handsOn again W args v W') :
    ReturnsInHanded a C os f .any (fun w args => (s.pre enc C.prog fn conds apart w args ∧ X w args) ∧ sizedMet enc C.prog fn (OpenSpec.ofChange s) apart w args) (s.post enc C.prog fn apart fresh handsOn again) := by
  refine returnsInHanded_of_calls own started noInit witness ?_
  intro w tape i _ hsh _ hok hpre _
  obtain ⟨_, _, _, fn', hfn', _, _, _, _, hval⟩ := hok
  have e : fn' = fn := Option.some.inj (hfn'.symm.trans hfn)
  subst e
  obtain ⟨⟨⟨ds, gs, before, hw, _⟩, _⟩, hsz⟩ := hpre
  have hw' := DataW.Whole.of_heap (w' := w.forCall tape i) (by rfl) hw
  refine (contract (w.forCall tape i) w.heap.size i.args ds gs before hval hw' hsh (hsz.weights hw)).mono fun e W' ⟨v, he, hp⟩ => ?_
  subst he
  exact ChangeSpec.post_blind hp
end

theorem own : ownKnob Tryd.prog.godebug = none := by kernel_rfl
theorem maxL {W : World} (h : W.ShapedOpen Tryd.prog) : MaxL W :=
  cell_of_shapedOpen_int (g := 0) (t := 3) (zero := #[.int .i64 0]) h (of_decide_eq_true (by kernel_rfl)) (by kernel_rfl) rfl (by kernel_rfl) (by kernel_rfl) Tryd.underlying3

end Go.Proofs.YtllmgmfihijejaaDoor.laidUp
/-
  The walk of mudlarklaw09: LexJoins.
-/
namespace Go.Proofs.YtllmgmfihijejaaDoor
open Go.RowKit Go.Shelf Go.MapKept
attribute [local go_sem] Oper.semAt_some
set_option linter.unusedSimpArgs false

section
variable {ops : Array Oper} {o : Oper} {a : Act} {w : World} {x y : Operand} {t : TypeId}
theorem run_eqSet9 (s : Nat → Nat) (W : World) : (Op.equalIn 9999 33 (setV s) (setV s)).run Tryd.prog W = .ok true W := by
  have hi : (Tryd.prog.info? 31).isSome = true := by kernel_rfl
  obtain ⟨i, hi⟩ := Option.isSome_iff_exists.1 hi
  have hu : Tryd.prog.underlying 31 = some (.int .u64) := by kernel_rfl
  have hc : Tryd.prog.cellsOf 31 = 1 := by kernel_rfl
  have hst : ∀ (x : Nat → Nat) (k : Nat), k < 4 → ∀ W, (part 31 #[.int .u64 (x 0), .int .u64 (x 1), .int .u64 (x 2), .int .u64 (x 3)] (k * 1)).run Tryd.prog W = .ok (.int .u64 (x k)) W := by
    intro x k hk W
    rw [Nat.mul_one]
    match k, hk with
    | 0, _ => simp [go_sem]
    | 1, _ => simp [go_sem]
    | 2, _ => simp [go_sem]
    | 3, _ => simp [go_sem]
  unfold setV
  rw [run_equalIn_array W 9998 (n := 4) _ _ (by kernel_rfl) hi, hc]
  have hl : List.range 4 = [0, 1, 2, 3] := by decide
  rw [hl]
  simp only [Op.eqItems, Sem.run_bind]
  have e0 := hst s 0 (by decide); have e1 := hst s 1 (by decide); have e2 := hst s 2 (by decide); have e3 := hst s 3 (by decide)
  simp only [e0, e1, e2, e3, Result.andThen_ok, run_equalIn_int _ _ _ _ _ _ _ hu, beq_self_eq_true, Bool.not_true, Bool.false_eq_true, if_false, Sem.run_bind, Sem.run_pure]
theorem run_eqWord (d : WordD) (W : World) : (Op.equalIn 10000 38 (wordV d) (wordV d)).run Tryd.prog W = .ok true W := by
  have hs := run_eqSet9 d.set W
  unfold setV at hs
  unfold wordV wordC
  simp [go_sem, hs]
theorem neq_run_W {d : WordD} (ho : o.op = Op.binOp .neq 38 x y t) (hx : a.eval x = wordV d) (hy : a.eval y = wordV d) : (execOp a.eval o).run Tryd.prog w = .ok (.value (.bool false)) w := by
  have hs := run_eqSet9 d.set w
  unfold setV at hs
  simp only [execOp, ho, hx, hy]
  unfold wordV wordC
  simp [go_sem, hs]
theorem str_add_run {A B : Str} (hn : A.length + B.length ≤ 2000) (ho : o.op = Op.binOp .add 9 x y t) (hx : a.eval x = .string ⟨A.toArray⟩) (hy : a.eval y = .string ⟨B.toArray⟩) : (execOp a.eval o).run Tryd.prog w = .ok (.value (.string ⟨(A ++ B).toArray⟩)) w := by
  have e : ((⟨A.toArray⟩ : ByteArray) ++ ⟨B.toArray⟩) = ⟨(A ++ B).toArray⟩ := by apply ByteArray.ext; simp
  simp only [execOp, ho, hx, hy]
  simp [go_sem, e]
  omega
end
theorem noB_of {A : Str} (h : Lib.contains A [91, 58] = false) : NoB A := by
  unfold Lib.contains at h
  intro k
  rcases Lib.index_spec A [91, 58] with ⟨h1, h2⟩ | ⟨i, h1, h2, h3, _⟩
  · by_cases hk : k ≤ A.length
    · exact h2 k hk
    · exact at_out (by simp; omega) (by simp)
  · rw [h1] at h; simp at h
theorem sh_contains (A t : Str) (hA : A.length ≤ 1000) (w : World) (hz : MaxL w) : Calls Tryd.prog 10 #[.string ⟨A.toArray⟩, .string ⟨t.toArray⟩] w fun e w' => e = .returned (.bool (Lib.contains A t)) ∧ Below w.heap.size w w' := by
  obtain ⟨m, hm⟩ := hz
  exact (Tryd.strings_Contains ⟨A.toArray⟩ ⟨t.toArray⟩ m w (by show A.toArray.size < _; simp; omega) hm).mono (by
    rintro e w ⟨rfl, rfl⟩
    exact ⟨by simp, Below.refl _ _⟩)
/-- what a second regex may not begin with, as the law asks it -/
def badHead (c : UInt8) : Bool := Lib.contains [63, 44, 123, 125, 48, 49, 50, 51, 52, 53, 54, 55, 56, 57] [c]
theorem badHead_spec : ∀ c : UInt8, badHead c = (goesOn c.toNat || c == 63 || c == 123) := by
  have h : ∀ n : Fin 256, badHead (UInt8.ofNat n.val) = (goesOn (UInt8.ofNat n.val).toNat || UInt8.ofNat n.val == 63 || UInt8.ofNat n.val == 123) := by decide +kernel
  intro c
  have := h ⟨c.toNat, c.toNat_lt⟩
  simpa using this
theorem quiet_of {c : UInt8} {l : Str} (h : badHead c = false) : Quiet (c :: l) := by
  intro c' l' e
  cases e
  rw [badHead_spec] at h
  simp only [Bool.or_eq_false_iff, beq_eq_false_iff_ne, ne_eq] at h
  exact ⟨h.1.1, h.1.2, h.2⟩
theorem quiet_nil : Quiet [] := fun _ _ e => by cases e
theorem wordsF_short {L : Str} (h : L.length ≤ 1000) : wordsF L = wordsP L := by unfold wordsF; rw [if_neg (by omega)]
theorem words_places {L : Str} {l : List WordD} (h : wordsP L = .ok l) {d : WordD} (hd : d ∈ l) : d.place < L.length := by
  obtain ⟨a, b, rfl⟩ := List.append_of_mem hd
  exact (wordsAt_each _ 0 (by omega) h a b d rfl).1

section
variable {ops : Array Oper} {o : Oper} {a : Act} {w : World} {x y : Operand} {t : TypeId}
theorem eql_run_E {u v : Int} (ho : o.op = Op.binOp .eql 23 x y t) (hx : a.eval x = .int .i64 u) (hy : a.eval y = .int .i64 v) : (execOp a.eval o).run Tryd.prog w = .ok (.value (.bool (u == v))) w := by
  simp only [execOp, ho, hx, hy]; simp [go_sem]
end

theorem wordsR_any {T : TypeId} {base : Nat} {r : Except (Nat × Nat) (List WordD)} {e : Ending} {w : World} (h : WordsR T base r e w) : ∃ (V : Value) (p x : Nat), e = .returned (.tuple #[V, .int .i64 p, .int .i64 x]) := by
  cases r with
  | error x => obtain ⟨p, x⟩ := x; exact ⟨_, p, x, h⟩
  | ok ws => obtain ⟨v, he, _⟩ := h; exact ⟨v, 0, 0, he⟩
theorem HoldG.rdwn {M : Nat → Prop} {w0 w : World} {l : List Res} (H : HoldG M w0 w l) {i n : Nat} {v : Value} {e : TypeId} {ws : List WordD} (hi : At l i (.row v e 17 n (flatW ws))) (hn : n = ws.length) (hl : ws.length ≤ 1000) : RdW w w.heap.size v ws := by
  subst hn; exact H.rdw hi hl
theorem RdW.form {w : World} {b0 n c : Nat} {q : Option Addr} {ws : List WordD} (h : RdW w b0 (.slice q n c) ws) {j : Nat} {d : WordD} (hj : ws[j]? = some d) : ∃ (g : Nat) (cs : Array Value) (T : TypeId), q = some ⟨g, 0, none⟩ ∧ g < b0 ∧ w.heap[g]? = some (.cells cs T (0, 0)) ∧ ∀ k, k < 17 → cs[j * 17 + k]? = (wordC d)[k]? := by
  obtain ⟨q', c', e, _, h⟩ := h
  cases e
  exact h j d hj
theorem wordC_shift (d : WordD) (n : Nat) : (wordC d).setIfInBounds 1 (.int .i64 ((n : Int) + (d.place : Int))) = wordC (shD n d) := by
  unfold wordC shD
  simp only [List.setIfInBounds_toArray, List.set_cons_succ, List.set_cons_zero, Int.natCast_add]

set_option maxRecDepth 100000 in
set_option maxHeartbeats 16000000 in
theorem law_LexJoins (A B : Str) (hA : A.length ≤ 140737488355328) (hB : B.length ≤ 140737488355328) (w0 : World) (hz : MaxL w0) : Calls Tryd.prog 4 #[.string ⟨A.toArray⟩, .string ⟨B.toArray⟩] w0 fun e w' => e = .returned (.bool true) ∧ Below w0.heap.size w0 w' := by
  have H := Hold.start w0
  have hx := fun w (hb : Below w0.heap.size w0 w) => lx_Words A w (hz.block (hb.block 0 hz.lt))
  have hy := fun w (hb : Below w0.heap.size w0 w) => lx_Words B w (hz.block (hb.block 0 hz.lt))
  have hc := fun w (hb : Below w0.heap.size w0 w) => lx_Words (A ++ B) w (hz.block (hb.block 0 hz.lt))
  have hAw := fun w (hb : Below w0.heap.size w0 w) => law_awake w (hz.block (hb.block 0 hz.lt))
  by_cases hlen : 1000 < A.length + B.length
  · have d0 : decide ((1000 : Int) < (A.length : Int) + (B.length : Int)) = true := by simp; omega
    have hw : IntKind.wrap .i64 ((A.length : Int) + (B.length : Int)) = (A.length : Int) + (B.length : Int) := by rw [IntKind.wrap_i64]; omega
    go_enter Tryd.func4, Tryd.ntmps4
    go_wp2_with (first | fail | ((with_reducible show wpList _ _ _ ({ op := Op.binOp BinOp.add 9 .., .. } :: _) _ _); refine own_pure (by first | rfl | exact wanted_g rfl (yielded_of rfl (by first | rfl | (simp only [put_lit, put_no, List.setIfInBounds_toArray, List.set_cons_succ, List.set_cons_zero, ev_tmp, ev_const, ev_glob, ev_func, List.getD_cons_succ, List.getD_cons_zero]; rfl)))) (str_add_run (by omega) rfl rfl rfl) ?_) | (go_at_call 9; (with_reducible refine ch (hAw _ H.below) H ?_); clear H; intro w H))
    go_ret
    exact ⟨rfl, H.below⟩
  · have d0 : decide ((1000 : Int) < (A.length : Int) + (B.length : Int)) = false := by simp; omega
    have hw : IntKind.wrap .i64 ((A.length : Int) + (B.length : Int)) = (A.length : Int) + (B.length : Int) := by rw [IntKind.wrap_i64]; omega
    have hcA := fun w (hb : Below w0.heap.size w0 w) => sh_contains A [91, 58] (by omega) w (hz.block (hb.block 0 hz.lt))
    have hcB := fun w (hb : Below w0.heap.size w0 w) => sh_contains [63, 44, 123, 125, 48, 49, 50, 51, 52, 53, 54, 55, 56, 57] (B.take 1) (by simp) w (hz.block (hb.block 0 hz.lt))
    clear hz
    cases hca : Lib.contains A [91, 58] with
    | true =>
      rw [hca] at hcA
      clear hca
      go_enter Tryd.func4, Tryd.ntmps4
      go_wp2_with (first | fail | ((with_reducible show wpList _ _ _ ({ op := Op.binOp BinOp.add 9 .., .. } :: _) _ _); refine own_pure (by first | rfl | exact wanted_g rfl (yielded_of rfl (by first | rfl | (simp only [put_lit, put_no, List.setIfInBounds_toArray, List.set_cons_succ, List.set_cons_zero, ev_tmp, ev_const, ev_glob, ev_func, List.getD_cons_succ, List.getD_cons_zero]; rfl)))) (str_add_run (by omega) rfl rfl rfl) ?_) | (go_at_call 9; (with_reducible refine ch (hAw _ H.below) H ?_); clear H; intro w H) | (go_at_call 10; (first | (with_reducible refine ch (hcA _ H.below) H ?_) | (with_reducible refine ch (hcB _ H.below) H ?_)); clear H; intro w H))
      go_ret
      exact ⟨rfl, H.below⟩
    | false =>
      rw [hca] at hcA
      have hN := noB_of hca
      clear hca
      have hhead : ((B == []) = true ∧ Quiet B) ∨ ((B == []) = false ∧ 1 ≤ B.length ∧ ∃ b, Lib.contains [63, 44, 123, 125, 48, 49, 50, 51, 52, 53, 54, 55, 56, 57] (B.take 1) = b ∧ (b = false → Quiet B)) := by
        cases B with
        | nil => exact .inl ⟨rfl, quiet_nil⟩
        | cons c l => exact .inr ⟨rfl, by simp, _, rfl, fun h => quiet_of h⟩
      by_cases hbad : ∃ c l, B = c :: l ∧ badHead c = true
      · obtain ⟨c, l, hcl, hbd⟩ := hbad
        have b0 : (B == []) = false := by subst hcl; rfl
        have b1 : 1 ≤ B.length := by subst hcl; simp
        have b2 : Lib.contains [63, 44, 123, 125, 48, 49, 50, 51, 52, 53, 54, 55, 56, 57] (B.take 1) = true := by subst hcl; exact hbd
        rw [b2] at hcB
        clear hcl hbd b2 hhead hN
        go_enter Tryd.func4, Tryd.ntmps4
        go_wp2_with (first | (first | ((with_reducible refine gU ?_); refine aU ?_) | ((with_reducible refine gQ ?_); refine aQ ?_)) | ((with_reducible show wpList _ _ _ ({ op := Op.binOp BinOp.add 9 .., .. } :: _) _ _); refine own_pure (by first | rfl | exact wanted_g rfl (yielded_of rfl (by first | rfl | (simp only [put_lit, put_no, List.setIfInBounds_toArray, List.set_cons_succ, List.set_cons_zero, ev_tmp, ev_const, ev_glob, ev_func, List.getD_cons_succ, List.getD_cons_zero]; rfl)))) (str_add_run (by omega) rfl rfl rfl) ?_) | (go_at_call 9; (with_reducible refine ch (hAw _ H.below) H ?_); clear H; intro w H) | (go_at_call 10; (first | (with_reducible refine ch (hcA _ H.below) H ?_) | (with_reducible refine ch (hcB _ H.below) H ?_)); clear H; intro w H))
        go_ret
        exact ⟨rfl, H.below⟩
      · replace hhead : ((B == []) = true ∧ Quiet B) ∨ ((B == []) = false ∧ 1 ≤ B.length ∧ Lib.contains [63, 44, 123, 125, 48, 49, 50, 51, 52, 53, 54, 55, 56, 57] (B.take 1) = false ∧ Quiet B) := by
          cases B with
          | nil => exact .inl ⟨rfl, quiet_nil⟩
          | cons c l =>
            have hb2 : badHead c = false := by
              cases hb : badHead c with
              | false => rfl
              | true => exact absurd ⟨c, l, rfl, hb⟩ hbad
            exact .inr ⟨rfl, by simp, hb2, quiet_of hb2⟩
        clear hbad
        go_enter Tryd.func4, Tryd.ntmps4
        go_upto_region 3 with (first | fail | ((with_reducible show wpList _ _ _ ({ op := Op.binOp BinOp.add 9 .., .. } :: _) _ _); refine own_pure (by first | rfl | exact wanted_g rfl (yielded_of rfl (by first | rfl | (simp only [put_lit, put_no, List.setIfInBounds_toArray, List.set_cons_succ, List.set_cons_zero, ev_tmp, ev_const, ev_glob, ev_func, List.getD_cons_succ, List.getD_cons_zero]; rfl)))) (str_add_run (by omega) rfl rfl rfl) ?_) | (go_at_call 9; (with_reducible refine ch (hAw _ H.below) H ?_); clear H; intro w H))
        go_cut [37] from 19 to 37 (fun v wx => v = .bool false ∧ Hid (Below w0.heap.size w0 wx))
        case first =>
          rcases hhead with ⟨b0, hQ⟩ | ⟨b0, b1, b2, hQ⟩
          · go_wp2_with (first | ((with_reducible refine gQ ?_); refine aQ ?_) | ((with_reducible show wpList _ _ _ ({ op := Op.binOp BinOp.add 9 .., .. } :: _) _ _); refine own_pure (by first | rfl | exact wanted_g rfl (yielded_of rfl (by first | rfl | (simp only [put_lit, put_no, List.setIfInBounds_toArray, List.set_cons_succ, List.set_cons_zero, ev_tmp, ev_const, ev_glob, ev_func, List.getD_cons_succ, List.getD_cons_zero]; rfl)))) (str_add_run (by omega) rfl rfl rfl) ?_) | (go_at_call 9; (with_reducible refine ch (hAw _ H.below) H ?_); clear H; intro w H) | (go_at_call 10; (first | (with_reducible refine ch (hcA _ H.below) H ?_) | (with_reducible refine ch (hcB _ H.below) H ?_)); clear H; intro w H))
            go_meet
            case rel => exact ⟨rfl, Lib.hid H.below⟩
          · rw [b2] at hcB
            go_wp2_with (first | (first | ((with_reducible refine gU ?_); refine aU ?_) | ((with_reducible refine gQ ?_); refine aQ ?_)) | ((with_reducible show wpList _ _ _ ({ op := Op.binOp BinOp.add 9 .., .. } :: _) _ _); refine own_pure (by first | rfl | exact wanted_g rfl (yielded_of rfl (by first | rfl | (simp only [put_lit, put_no, List.setIfInBounds_toArray, List.set_cons_succ, List.set_cons_zero, ev_tmp, ev_const, ev_glob, ev_func, List.getD_cons_succ, List.getD_cons_zero]; rfl)))) (str_add_run (by omega) rfl rfl rfl) ?_) | (go_at_call 9; (with_reducible refine ch (hAw _ H.below) H ?_); clear H; intro w H) | (go_at_call 10; (first | (with_reducible refine ch (hcA _ H.below) H ?_) | (with_reducible refine ch (hcB _ H.below) H ?_)); clear H; intro w H))
            go_meet
            case rel => exact ⟨rfl, Lib.hid H.below⟩
        case rest =>
          obtain ⟨rfl, hbw⟩ := hcut
          replace H := (Hold.start w0).call hbw.out
          have hQ : Quiet B := by rcases hhead with ⟨_, hQ⟩ | ⟨_, _, _, hQ⟩ <;> exact hQ
          clear hbw hhead hcB hcA d0 hw
          cases hwx : wordsF A with
          | error x =>
            obtain ⟨p, x⟩ := x
            have hx4 := wordsP_code ((wordsF_short (by omega)).symm.trans hwx)
            rw [hwx] at hx
            clear hwx
            simp only [WordsR] at hx
            clear hN hQ
            rcases hx4 with rfl | rfl
            · go_wp2_with (first | fail | ((with_reducible show wpList _ _ _ ({ op := Op.binOp BinOp.add 9 .., .. } :: _) _ _); refine own_pure (by first | rfl | exact wanted_g rfl (yielded_of rfl (by first | rfl | (simp only [put_lit, put_no, List.setIfInBounds_toArray, List.set_cons_succ, List.set_cons_zero, ev_tmp, ev_const, ev_glob, ev_func, List.getD_cons_succ, List.getD_cons_zero]; rfl)))) (str_add_run (by omega) rfl rfl rfl) ?_) | (go_at_call 9; (with_reducible refine ch (hAw _ H.below) H ?_); clear H; intro w H) | (go_at_call 6; (with_reducible refine (hx _ H.below).mono ?_); rintro e w ⟨rfl, hb⟩; replace H := H.call hb; clear hb) | (go_at_call 6; (with_reducible refine (hy _ H.below).mono ?_); rintro e w ⟨hR, hb⟩; obtain ⟨V, p2, x2, rfl⟩ := wordsR_any hR; replace H := H.call hb; clear hb hR) | (go_at_call 6; (with_reducible refine (hc _ H.below).mono ?_); rintro e w ⟨hR, hb⟩; obtain ⟨V, p2, x2, rfl⟩ := wordsR_any hR; replace H := H.call hb; clear hb hR))
              go_ret
              exact ⟨rfl, H.below⟩
            · go_wp2_with (first | fail | ((with_reducible show wpList _ _ _ ({ op := Op.binOp BinOp.add 9 .., .. } :: _) _ _); refine own_pure (by first | rfl | exact wanted_g rfl (yielded_of rfl (by first | rfl | (simp only [put_lit, put_no, List.setIfInBounds_toArray, List.set_cons_succ, List.set_cons_zero, ev_tmp, ev_const, ev_glob, ev_func, List.getD_cons_succ, List.getD_cons_zero]; rfl)))) (str_add_run (by omega) rfl rfl rfl) ?_) | (go_at_call 9; (with_reducible refine ch (hAw _ H.below) H ?_); clear H; intro w H) | (go_at_call 6; (with_reducible refine (hx _ H.below).mono ?_); rintro e w ⟨rfl, hb⟩; replace H := H.call hb; clear hb) | (go_at_call 6; (with_reducible refine (hy _ H.below).mono ?_); rintro e w ⟨hR, hb⟩; obtain ⟨V, p2, x2, rfl⟩ := wordsR_any hR; replace H := H.call hb; clear hb hR) | (go_at_call 6; (with_reducible refine (hc _ H.below).mono ?_); rintro e w ⟨hR, hb⟩; obtain ⟨V, p2, x2, rfl⟩ := wordsR_any hR; replace H := H.call hb; clear hb hR))
              go_ret
              exact ⟨rfl, H.below⟩
          | ok xs =>
            have hwx' := (wordsF_short (by omega)).symm.trans hwx
            have hlx := wordsF_len hwx
            rw [hwx] at hx
            simp only [WordsR] at hx
            clear hwx
            cases hwy : wordsF B with
            | error y =>
              obtain ⟨p, y⟩ := y
              have hwy' := (wordsF_short (by omega)).symm.trans hwy
              have hj : wordsF (A ++ B) = .error (A.length + p, y) := by rw [wordsF_short (by simp; omega), wordsP_join hN hQ hwx', hwy']
              have hpB := (wordsAt_err _ 0 p y (Nat.le_refl _) hwy').2
              have hy4 := wordsP_code hwy'
              rw [hwy] at hy
              rw [hj] at hc
              simp only [WordsR, Int.natCast_add] at hy hc
              clear hwy hwy' hj hN hQ hwx'
              have hw : IntKind.wrap .i64 ((A.length : Int) + (p : Int)) = (A.length : Int) + (p : Int) := by rw [IntKind.wrap_i64]; omega
              clear hpB
              rcases hy4 with rfl | rfl
              · go_wp2_with (first | fail | ((with_reducible show wpList _ _ _ ({ op := Op.binOp BinOp.add 9 .., .. } :: _) _ _); refine own_pure (by first | rfl | exact wanted_g rfl (yielded_of rfl (by first | rfl | (simp only [put_lit, put_no, List.setIfInBounds_toArray, List.set_cons_succ, List.set_cons_zero, ev_tmp, ev_const, ev_glob, ev_func, List.getD_cons_succ, List.getD_cons_zero]; rfl)))) (str_add_run (by omega) rfl rfl rfl) ?_) | (go_at_call 9; (with_reducible refine ch (hAw _ H.below) H ?_); clear H; intro w H) | (go_at_call 6; (with_reducible refine (hx _ H.below).mono ?_); rintro e w ⟨⟨v, rfl, ho⟩, hb⟩; replace H := H.gainRow hb ho; obtain ⟨qx, capx, rfl, hqx⟩ := ownsRow_slice ho; clear hb ho; (try simp only [nrm, nrl, Value.cells] at H)) | (go_at_call 6; (with_reducible refine (hy _ H.below).mono ?_); rintro e w ⟨rfl, hb⟩; replace H := H.call hb; clear hb) | (go_at_call 6; (with_reducible refine (hc _ H.below).mono ?_); rintro e w ⟨rfl, hb⟩; replace H := H.call hb; clear hb))
                go_ret
                exact ⟨rfl, H.below⟩
              · go_wp2_with (first | fail | ((with_reducible show wpList _ _ _ ({ op := Op.binOp BinOp.add 9 .., .. } :: _) _ _); refine own_pure (by first | rfl | exact wanted_g rfl (yielded_of rfl (by first | rfl | (simp only [put_lit, put_no, List.setIfInBounds_toArray, List.set_cons_succ, List.set_cons_zero, ev_tmp, ev_const, ev_glob, ev_func, List.getD_cons_succ, List.getD_cons_zero]; rfl)))) (str_add_run (by omega) rfl rfl rfl) ?_) | (go_at_call 9; (with_reducible refine ch (hAw _ H.below) H ?_); clear H; intro w H) | (go_at_call 6; (with_reducible refine (hx _ H.below).mono ?_); rintro e w ⟨⟨v, rfl, ho⟩, hb⟩; replace H := H.gainRow hb ho; obtain ⟨qx, capx, rfl, hqx⟩ := ownsRow_slice ho; clear hb ho; (try simp only [nrm, nrl, Value.cells] at H)) | (go_at_call 6; (with_reducible refine (hy _ H.below).mono ?_); rintro e w ⟨rfl, hb⟩; replace H := H.call hb; clear hb) | (go_at_call 6; (with_reducible refine (hc _ H.below).mono ?_); rintro e w ⟨rfl, hb⟩; replace H := H.call hb; clear hb))
                go_ret
                exact ⟨rfl, H.below⟩
            | ok ys =>
              have hwy' := (wordsF_short (by omega)).symm.trans hwy
              have hly := wordsF_len hwy
              have hj : wordsF (A ++ B) = .ok (xs ++ ys.map (shD A.length)) := by rw [wordsF_short (by simp; omega), wordsP_join hN hQ hwx', hwy']
              have hlz := wordsF_len hj
              have hpl := fun d hd => words_places hwy' (d := d) hd
              rw [hwy] at hy
              rw [hj] at hc
              simp only [WordsR] at hy hc
              clear hwy hwy' hj hN hQ hwx'
              obtain ⟨zs, hzs⟩ : ∃ zs, zs = xs ++ ys.map (shD A.length) := ⟨_, rfl⟩
              rw [← hzs] at hc hlz
              have hzl : zs.length = xs.length + ys.length := by rw [hzs]; simp
              rw [hzl] at hc
              have hw : IntKind.wrap .i64 ((xs.length : Int) + (ys.length : Int)) = (xs.length : Int) + (ys.length : Int) := by rw [IntKind.wrap_i64]; omega
              have Hzl := Lib.hid hzl
              clear hzl
              go_wp2_with (first | fail | ((with_reducible show wpList _ _ _ ({ op := Op.binOp BinOp.add 9 .., .. } :: _) _ _); refine own_pure (by first | rfl | exact wanted_g rfl (yielded_of rfl (by first | rfl | (simp only [put_lit, put_no, List.setIfInBounds_toArray, List.set_cons_succ, List.set_cons_zero, ev_tmp, ev_const, ev_glob, ev_func, List.getD_cons_succ, List.getD_cons_zero]; rfl)))) (str_add_run (by omega) rfl rfl rfl) ?_) | (go_at_call 9; (with_reducible refine ch (hAw _ H.below) H ?_); clear H; intro w H) | (go_at_call 6; (with_reducible refine (hx _ H.below).mono ?_); rintro e w ⟨⟨v, rfl, ho⟩, hb⟩; replace H := H.gainRow hb ho; obtain ⟨qx, capx, rfl, hqx⟩ := ownsRow_slice ho; clear hb ho; (try simp only [nrm, nrl, Value.cells] at H)) | (go_at_call 6; (with_reducible refine (hy _ H.below).mono ?_); rintro e w ⟨⟨v, rfl, ho⟩, hb⟩; replace H := H.gainRow hb ho; obtain ⟨qy, capy, rfl, hqy⟩ := ownsRow_slice ho; clear hb ho; (try simp only [nrm, nrl, Value.cells] at H)) | (go_at_call 6; (with_reducible refine (hc _ H.below).mono ?_); rintro e w ⟨⟨v, rfl, ho⟩, hb⟩; replace H := H.gainRow hb ho; obtain ⟨qz, capz, rfl, hqz⟩ := ownsRow_slice ho; clear hb ho; (try simp only [nrm, nrl, Value.cells] at H)))
              clear hw hx hy hc
              go_loopw [14] (fun k wr => ∃ i : Nat, k = .int .i64 i ∧ i ≤ xs.length + ys.length ∧ Hold w0 wr [.row (.slice qx xs.length capx) 38 17 xs.length (flatW xs), .row (.slice qy ys.length capy) 38 17 ys.length (flatW ys), .row (.slice qz (xs.length + ys.length) capz) 38 17 (xs.length + ys.length) (flatW zs)]) (fun k _ => xs.length + ys.length + 1 - (intOf k).toNat)
              case atStart => exact ⟨0, rfl, by omega, H⟩
              case round =>
                clear H
                obtain ⟨i, rfl, hi, H⟩ := hrel
                by_cases hlt : i < xs.length + ys.length
                · have di : decide ((i : Int) < (xs.length : Int) + (ys.length : Int)) = true := by simp; omega
                  obtain ⟨d, hd⟩ : ∃ d, zs[i]? = some d := ⟨_, List.getElem?_eq_getElem (by rw [Hzl.out]; exact hlt)⟩
                  by_cases hxi : i < xs.length
                  · have dx : decide ((i : Int) < (xs.length : Int)) = true := by simp; omega
                    have hdx : xs[i]? = some d := by rw [hzs, List.getElem?_append_left hxi] at hd; exact hd
                    have hs : IntKind.wrap .i64 ((i : Int) - (xs.length : Int)) = (i : Int) - (xs.length : Int) := by rw [IntKind.wrap_i64]; omega
                    have dk1 : decide ((0 : Int) ≤ (i : Int) - (xs.length : Int)) = false := by simp; omega
                    have dk2 : decide ((xs.length : Int) ≤ (i : Int)) = false := by simp; omega
                    clear hpl hzs
                    go_upto_region 17 with (first | fail | ((with_reducible show wpList _ _ _ ({ op := Op.binOp BinOp.add 9 .., .. } :: _) _ _); refine own_pure (by first | rfl | exact wanted_g rfl (yielded_of rfl (by first | rfl | (simp only [put_lit, put_no, List.setIfInBounds_toArray, List.set_cons_succ, List.set_cons_zero, ev_tmp, ev_const, ev_glob, ev_func, List.getD_cons_succ, List.getD_cons_zero]; rfl)))) (str_add_run (by omega) rfl rfl rfl) ?_) | (go_at_call 9; (with_reducible refine ch (hAw _ H.below) H ?_); clear H; intro w H))
                    obtain ⟨gx, csx, Tx, rfl, hgx, hhx, hkx⟩ := (H.rdw .zero hlx).form hdx
                    obtain ⟨gz, csz, Tz, rfl, hgz, hhz, hkz⟩ := (H.rdwn (.succ (.succ .zero)) Hzl.out.symm hlz).form hd
                    refine wp_region_spec 15 [fun v _ => v = .int .i64 (i : Int), fun v _ => v = .slice (some ⟨gx, 0, none⟩) xs.length capx, fun v _ => v = .int .i64 ((xs.length : Nat) : Int), fun v _ => v = .bool true, fun v _ => v = .bool true, fun v _ => v = .slice (some ⟨gz, 0, none⟩) (xs.length + ys.length) capz, fun v _ => v = .int .i64 (i : Int), fun v _ => v = .pointer (some ⟨gz, i * 17, none⟩), fun v _ => v = wordV d, fun v _ => v = .slice (some ⟨gx, 0, none⟩) xs.length capx, fun v _ => v = .int .i64 (i : Int), fun v _ => v = .pointer (some ⟨gx, i * 17, none⟩), fun v _ => v = wordV d, fun v _ => v = .bool false, fun v _ => v = .bool false] (fun _ => false) (by kernel_rfl) (by kernel_rfl) (by kernel_rfl) ⟨stable_eq _, stable_eq _, stable_eq _, stable_eq _, stable_eq _, stable_eq _, stable_eq _, stable_eq _, stable_eq _, stable_eq _, stable_eq _, stable_eq _, stable_eq _, stable_eq _, stable_eq _, trivial⟩ (fun _ _ h => by cases h) ?ob ?en
                    case ob =>
                      refine ⟨?_, ?_, ?_, ?_, ?_, ?_, ?_, ?_, ?_, ?_, ?_, ?_, ?_, ?_, ?_, trivial⟩ <;> intro A W h
                      · exact rs_move rfl rfl (h.frame 14 rfl) (by decide)
                      · exact rs_move rfl rfl (h.frame 5 rfl) (by decide)
                      · exact rs_len Tryd.underlying22 rfl rfl (h.dep 1 97 rfl rfl) (by decide)
                      · (have e96 : A.eval (.tmp 96) = .int .i64 (i : Int) := h.dep 0 96 rfl rfl; have e98 : A.eval (.tmp 98) = .int .i64 ((xs.length : Nat) : Int) := h.dep 2 98 rfl rfl; refine rs_pure rfl ?_ (by decide); simp only [execOp, e96, e98]; (simp [go_sem] <;> first | done | omega | (rw [IntKind.wrap_i64]; omega) | (rw [IntKind.wrap_u8]; omega) | (rw [IntKind.wrap_u64]; omega)))
                      · exact rs_move rfl rfl (h.dep 3 99 rfl rfl) (by decide)
                      · exact rs_move (wanted_g rfl (yielded_of (d := 100) rfl (h.dep 4 100 rfl rfl))) rfl (h.frame 11 rfl) (by decide)
                      · exact rs_move (wanted_g rfl (yielded_of (d := 100) rfl (h.dep 4 100 rfl rfl))) rfl (h.frame 14 rfl) (by decide)
                      · exact rs_pure (wanted_g rfl (yielded_of (d := 100) rfl (h.dep 4 100 rfl rfl))) (idx_run (sz := 17) Tryd.underlying22 (fun W => by kernel_rfl) rfl (h.dep 5 101 rfl rfl) (h.dep 6 102 rfl rfl) hlt (Nat.zero_add _)) (by decide)
                      · exact rs_pure (wanted_g rfl (yielded_of (d := 100) rfl (h.dep 4 100 rfl rfl))) (loadW_run rfl (h.dep 7 103 rfl rfl) ((h.below.block gz hgz).trans hhz) row_LWord rfl hkz) (by decide)
                      · exact rs_move (wanted_g rfl (yielded_of (d := 100) rfl (h.dep 4 100 rfl rfl))) rfl (h.frame 5 rfl) (by decide)
                      · exact rs_move (wanted_g rfl (yielded_of (d := 100) rfl (h.dep 4 100 rfl rfl))) rfl (h.frame 14 rfl) (by decide)
                      · exact rs_pure (wanted_g rfl (yielded_of (d := 100) rfl (h.dep 4 100 rfl rfl))) (idx_run (sz := 17) Tryd.underlying22 (fun W => by kernel_rfl) rfl (h.dep 9 105 rfl rfl) (h.dep 10 106 rfl rfl) hxi (Nat.zero_add _)) (by decide)
                      · exact rs_pure (wanted_g rfl (yielded_of (d := 100) rfl (h.dep 4 100 rfl rfl))) (loadW_run rfl (h.dep 11 107 rfl rfl) ((h.below.block gx hgx).trans hhx) row_LWord rfl hkx) (by decide)
                      · exact rs_pure (wanted_g rfl (yielded_of (d := 100) rfl (h.dep 4 100 rfl rfl))) (neq_run_W rfl (h.dep 8 104 rfl rfl) (h.dep 12 108 rfl rfl)) (by decide)
                      · exact rs_pick rfl rfl (h.dep 4 100 rfl rfl) (h.dep 13 109 rfl rfl) (by decide)
                    case en =>
                      intro vals W hbw hv _
                      have v0 : vals 0 = .int .i64 (i : Int) := hv 0 (by omega)
                      have v1 : vals 1 = .slice (some ⟨gx, 0, none⟩) xs.length capx := hv 1 (by omega)
                      have v2 : vals 2 = .int .i64 ((xs.length : Nat) : Int) := hv 2 (by omega)
                      have v3 : vals 3 = .bool true := hv 3 (by omega)
                      have v4 : vals 4 = .bool true := hv 4 (by omega)
                      have v5 : vals 5 = .slice (some ⟨gz, 0, none⟩) (xs.length + ys.length) capz := hv 5 (by omega)
                      have v6 : vals 6 = .int .i64 (i : Int) := hv 6 (by omega)
                      have v7 : vals 7 = .pointer (some ⟨gz, i * 17, none⟩) := hv 7 (by omega)
                      have v8 : vals 8 = wordV d := hv 8 (by omega)
                      have v9 : vals 9 = .slice (some ⟨gx, 0, none⟩) xs.length capx := hv 9 (by omega)
                      have v10 : vals 10 = .int .i64 (i : Int) := hv 10 (by omega)
                      have v11 : vals 11 = .pointer (some ⟨gx, i * 17, none⟩) := hv 11 (by omega)
                      have v12 : vals 12 = wordV d := hv 12 (by omega)
                      have v13 : vals 13 = .bool false := hv 13 (by omega)
                      have v14 : vals 14 = .bool false := hv 14 (by omega)
                      simp only [List.take_succ_cons, List.take_zero, List.drop_succ_cons, List.drop_zero, List.drop_nil, List.take_nil, fillAll, Nat.zero_add, Nat.reduceAdd]
                      rw [v0, v1, v2, v3, v4, v5, v6, v7, v8, v9, v10, v11, v12, v13, v14]
                      clear hv v0 v1 v2 v3 v4 v5 v6 v7 v8 v9 v10 v11 v12 v13 v14
                      try simp only [put_lit, List.setIfInBounds_toArray, List.set_cons_succ, List.set_cons_zero]
                      replace H := H.call hbw
                      go_wp2_with (first | fail | ((with_reducible show wpList _ _ _ ({ op := Op.binOp BinOp.add 9 .., .. } :: _) _ _); refine own_pure (by first | rfl | exact wanted_g rfl (yielded_of rfl (by first | rfl | (simp only [put_lit, put_no, List.setIfInBounds_toArray, List.set_cons_succ, List.set_cons_zero, ev_tmp, ev_const, ev_glob, ev_func, List.getD_cons_succ, List.getD_cons_zero]; rfl)))) (str_add_run (by omega) rfl rfl rfl) ?_) | (go_at_call 9; (with_reducible refine ch (hAw _ H.below) H ?_); clear H; intro w H))
                      go_roundw
                      case rel => exact ⟨i + 1, rfl, by omega, H⟩
                      case measure => simp [intOf]; omega
                  · obtain ⟨k, hik⟩ : ∃ k, i = xs.length + k := ⟨i - xs.length, by omega⟩
                    have hky : k < ys.length := by have := Hzl.out; omega
                    obtain ⟨dy, hdy⟩ : ∃ d, ys[k]? = some d := ⟨_, List.getElem?_eq_getElem hky⟩
                    have hdd : d = shD A.length dy := by
                      rw [hzs, hik, List.getElem?_append_right (by omega), Nat.add_sub_cancel_left, List.getElem?_map, hdy] at hd
                      exact (Option.some.inj hd).symm
                    have hpd := hpl dy (List.mem_of_getElem? hdy)
                    have dx : decide ((i : Int) < (xs.length : Int)) = false := by simp; omega
                    have hs : IntKind.wrap .i64 ((i : Int) - (xs.length : Int)) = (k : Int) := by rw [IntKind.wrap_i64]; omega
                    have hs2 : IntKind.wrap .i64 ((dy.place : Int) + (A.length : Int)) = (A.length : Int) + (dy.place : Int) := by rw [IntKind.wrap_i64]; omega
                    have hs3 : (k : Int) < (ys.length : Int) := by omega
                    subst hdd
                    have Hd := Lib.hid hd; have Hdy := Lib.hid hdy
                    clear hpl hzs hik hd hdy
                    go_upto_region 17 with (first | fail | ((with_reducible show wpList _ _ _ ({ op := Op.binOp BinOp.add 9 .., .. } :: _) _ _); refine own_pure (by first | rfl | exact wanted_g rfl (yielded_of rfl (by first | rfl | (simp only [put_lit, put_no, List.setIfInBounds_toArray, List.set_cons_succ, List.set_cons_zero, ev_tmp, ev_const, ev_glob, ev_func, List.getD_cons_succ, List.getD_cons_zero]; rfl)))) (str_add_run (by omega) rfl rfl rfl) ?_) | (go_at_call 9; (with_reducible refine ch (hAw _ H.below) H ?_); clear H; intro w H))
                    refine wp_region_spec 15 [fun v _ => v = .int .i64 (i : Int), fun v _ => v = .slice qx xs.length capx, fun v _ => v = .int .i64 ((xs.length : Nat) : Int), fun v _ => v = .bool false, fun v _ => v = .bool false, fun v _ => v = undef, fun v _ => v = undef, fun v _ => v = undef, fun v _ => v = undef, fun v _ => v = undef, fun v _ => v = undef, fun v _ => v = undef, fun v _ => v = undef, fun v _ => v = undef, fun v _ => v = .bool false] (fun _ => false) (by kernel_rfl) (by kernel_rfl) (by kernel_rfl) ⟨stable_eq _, stable_eq _, stable_eq _, stable_eq _, stable_eq _, stable_eq _, stable_eq _, stable_eq _, stable_eq _, stable_eq _, stable_eq _, stable_eq _, stable_eq _, stable_eq _, stable_eq _, trivial⟩ (fun _ _ h => by cases h) ?ob ?en
                    case ob =>
                      refine ⟨?_, ?_, ?_, ?_, ?_, ?_, ?_, ?_, ?_, ?_, ?_, ?_, ?_, ?_, ?_, trivial⟩ <;> intro A W h
                      · exact rs_move rfl rfl (h.frame 14 rfl) (by decide)
                      · exact rs_move rfl rfl (h.frame 5 rfl) (by decide)
                      · exact rs_len Tryd.underlying22 rfl rfl (h.dep 1 97 rfl rfl) (by decide)
                      · (have e96 : A.eval (.tmp 96) = .int .i64 (i : Int) := h.dep 0 96 rfl rfl; have e98 : A.eval (.tmp 98) = .int .i64 ((xs.length : Nat) : Int) := h.dep 2 98 rfl rfl; refine rs_pure rfl ?_ (by decide); simp only [execOp, e96, e98]; (simp [go_sem] <;> first | done | omega | (rw [IntKind.wrap_i64]; omega) | (rw [IntKind.wrap_u8]; omega) | (rw [IntKind.wrap_u64]; omega)))
                      · exact rs_move rfl rfl (h.dep 3 99 rfl rfl) (by decide)
                      · exact rs_skip (not_wanted_g rfl (yielded_of (d := 100) rfl (h.dep 4 100 rfl rfl)) (by decide)) ⟨rfl, fun h => by cases h⟩
                      · exact rs_skip (not_wanted_g rfl (yielded_of (d := 100) rfl (h.dep 4 100 rfl rfl)) (by decide)) ⟨rfl, fun h => by cases h⟩
                      · exact rs_skip (not_wanted_g rfl (yielded_of (d := 100) rfl (h.dep 4 100 rfl rfl)) (by decide)) ⟨rfl, fun h => by cases h⟩
                      · exact rs_skip (not_wanted_g rfl (yielded_of (d := 100) rfl (h.dep 4 100 rfl rfl)) (by decide)) ⟨rfl, fun h => by cases h⟩
                      · exact rs_skip (not_wanted_g rfl (yielded_of (d := 100) rfl (h.dep 4 100 rfl rfl)) (by decide)) ⟨rfl, fun h => by cases h⟩
                      · exact rs_skip (not_wanted_g rfl (yielded_of (d := 100) rfl (h.dep 4 100 rfl rfl)) (by decide)) ⟨rfl, fun h => by cases h⟩
                      · exact rs_skip (not_wanted_g rfl (yielded_of (d := 100) rfl (h.dep 4 100 rfl rfl)) (by decide)) ⟨rfl, fun h => by cases h⟩
                      · exact rs_skip (not_wanted_g rfl (yielded_of (d := 100) rfl (h.dep 4 100 rfl rfl)) (by decide)) ⟨rfl, fun h => by cases h⟩
                      · exact rs_skip (not_wanted_g rfl (yielded_of (d := 100) rfl (h.dep 4 100 rfl rfl)) (by decide)) ⟨rfl, fun h => by cases h⟩
                      · exact rs_pick rfl rfl (h.dep 4 100 rfl rfl) (rfl) (by decide)
                    case en =>
                      intro vals W hbw hv _
                      have v0 : vals 0 = .int .i64 (i : Int) := hv 0 (by omega)
                      have v1 : vals 1 = .slice qx xs.length capx := hv 1 (by omega)
                      have v2 : vals 2 = .int .i64 ((xs.length : Nat) : Int) := hv 2 (by omega)
                      have v3 : vals 3 = .bool false := hv 3 (by omega)
                      have v4 : vals 4 = .bool false := hv 4 (by omega)
                      have v5 : vals 5 = undef := hv 5 (by omega)
                      have v6 : vals 6 = undef := hv 6 (by omega)
                      have v7 : vals 7 = undef := hv 7 (by omega)
                      have v8 : vals 8 = undef := hv 8 (by omega)
                      have v9 : vals 9 = undef := hv 9 (by omega)
                      have v10 : vals 10 = undef := hv 10 (by omega)
                      have v11 : vals 11 = undef := hv 11 (by omega)
                      have v12 : vals 12 = undef := hv 12 (by omega)
                      have v13 : vals 13 = undef := hv 13 (by omega)
                      have v14 : vals 14 = .bool false := hv 14 (by omega)
                      simp only [List.take_succ_cons, List.take_zero, List.drop_succ_cons, List.drop_zero, List.drop_nil, List.take_nil, fillAll, Nat.zero_add, Nat.reduceAdd]
                      rw [v0, v1, v2, v3, v4, v5, v6, v7, v8, v9, v10, v11, v12, v13, v14]
                      clear hv v0 v1 v2 v3 v4 v5 v6 v7 v8 v9 v10 v11 v12 v13 v14
                      try simp only [put_lit, List.setIfInBounds_toArray, List.set_cons_succ, List.set_cons_zero]
                      replace H := H.call hbw
                      obtain ⟨gy, csy, Ty, rfl, hgy, hhy, hkyc⟩ := (H.rdw (.succ .zero) hly).form Hdy.out
                      go_upto_region 23 with (first | ((first | ((with_reducible refine kgA 16 ?_); refine kA 16 H ?_) | ((with_reducible refine kgX 16 ?_); (first | refine kS 16 H ?_ | refine kB 16 H ?_))); clear H; intro b16 w H; (try simp only [nrm, nrl, Value.cells] at H)) | (first | ((with_reducible refine gT ?_); ((first | refine aO H ?_ | refine aT H ?_); clear H; intro w H; (try simp only [nrm, nrl, Value.cells] at H))) | ((with_reducible refine gL ?_); refine aG H ?_)) | ((with_reducible show wpList _ _ _ ({ op := Op.indexAddr .., .. } :: _) _ _); refine own_pure (by first | rfl | exact wanted_g rfl (yielded_of rfl (by first | rfl | (simp only [put_lit, put_no, List.setIfInBounds_toArray, List.set_cons_succ, List.set_cons_zero, ev_tmp, ev_const, ev_glob, ev_func, List.getD_cons_succ, List.getD_cons_zero]; rfl)))) (idx_run (sz := 17) Tryd.underlying22 (fun W => by kernel_rfl) rfl (by first | (simp only [put_lit, put_no, List.setIfInBounds_toArray, List.set_cons_succ, List.set_cons_zero, ev_tmp, ev_const, ev_glob, ev_func, List.getD_cons_succ, List.getD_cons_zero]; done) | (simp only [put_lit, put_no, List.setIfInBounds_toArray, List.set_cons_succ, List.set_cons_zero, ev_tmp, ev_const, ev_glob, ev_func, List.getD_cons_succ, List.getD_cons_zero]; rfl)) (by first | (simp only [put_lit, put_no, List.setIfInBounds_toArray, List.set_cons_succ, List.set_cons_zero, ev_tmp, ev_const, ev_glob, ev_func, List.getD_cons_succ, List.getD_cons_zero]; done) | (simp only [put_lit, put_no, List.setIfInBounds_toArray, List.set_cons_succ, List.set_cons_zero, ev_tmp, ev_const, ev_glob, ev_func, List.getD_cons_succ, List.getD_cons_zero]; rfl)) hky (Nat.zero_add _)) ?_) | ((with_reducible show wpList _ _ _ ({ op := Op.load 38 .., .. } :: _) _ _); refine own_pure (by first | rfl | exact wanted_g rfl (yielded_of rfl (by first | rfl | (simp only [put_lit, put_no, List.setIfInBounds_toArray, List.set_cons_succ, List.set_cons_zero, ev_tmp, ev_const, ev_glob, ev_func, List.getD_cons_succ, List.getD_cons_zero]; rfl)))) (loadW_run rfl (by first | (simp only [put_lit, put_no, List.setIfInBounds_toArray, List.set_cons_succ, List.set_cons_zero, ev_tmp, ev_const, ev_glob, ev_func, List.getD_cons_succ, List.getD_cons_zero]; done) | (simp only [put_lit, put_no, List.setIfInBounds_toArray, List.set_cons_succ, List.set_cons_zero, ev_tmp, ev_const, ev_glob, ev_func, List.getD_cons_succ, List.getD_cons_zero]; rfl)) hhy row_LWord rfl hkyc) ?_) | fail | ((with_reducible show wpList _ _ _ ({ op := Op.binOp BinOp.add 9 .., .. } :: _) _ _); refine own_pure (by first | rfl | exact wanted_g rfl (yielded_of rfl (by first | rfl | (simp only [put_lit, put_no, List.setIfInBounds_toArray, List.set_cons_succ, List.set_cons_zero, ev_tmp, ev_const, ev_glob, ev_func, List.getD_cons_succ, List.getD_cons_zero]; rfl)))) (str_add_run (by omega) rfl rfl rfl) ?_) | (go_at_call 9; (with_reducible refine ch (hAw _ H.below) H ?_); clear H; intro w H))
                      rw [wordC_shift] at H
                      obtain ⟨gz, csz, Tz, rfl, hgz, hhz, hkz⟩ := (H.rdwn (.succ (.succ .zero)) Hzl.out.symm hlz).form Hd.out
                      refine wp_region_spec 6 [fun v _ => v = .slice (some ⟨gz, 0, none⟩) (xs.length + ys.length) capz, fun v _ => v = .int .i64 (i : Int), fun v _ => v = .pointer (some ⟨gz, i * 17, none⟩), fun v _ => v = wordV (shD A.length dy), fun v _ => v = wordV (shD A.length dy), fun v _ => v = .bool false] (fun _ => false) (by kernel_rfl) (by kernel_rfl) (by kernel_rfl) ⟨stable_eq _, stable_eq _, stable_eq _, stable_eq _, stable_eq _, stable_eq _, trivial⟩ (fun _ _ h => by cases h) ?ob ?en
                      case ob =>
                        refine ⟨?_, ?_, ?_, ?_, ?_, ?_, trivial⟩ <;> intro A W h
                        · exact rs_move rfl rfl (h.frame 11 rfl) (by decide)
                        · exact rs_move rfl rfl (h.frame 14 rfl) (by decide)
                        · exact rs_pure rfl (idx_run (sz := 17) Tryd.underlying22 (fun W => by kernel_rfl) rfl (h.dep 0 127 rfl rfl) (h.dep 1 128 rfl rfl) hlt (Nat.zero_add _)) (by decide)
                        · exact rs_pure rfl (loadW_run rfl (h.dep 2 129 rfl rfl) ((h.below.block gz hgz).trans hhz) row_LWord rfl hkz) (by decide)
                        · exact rs_pure rfl (loadW_run rfl (h.frame 16 rfl) (((H.call h.below).blk (.succ (.succ (.succ .zero)))).2) row_LWord rfl (fun j hj => by rw [Nat.zero_add])) (by decide)
                        · exact rs_pure rfl (neq_run_W rfl (h.dep 3 130 rfl rfl) (h.dep 4 131 rfl rfl)) (by decide)
                      case en =>
                        intro vals W hbw hv _
                        have v0 : vals 0 = .slice (some ⟨gz, 0, none⟩) (xs.length + ys.length) capz := hv 0 (by omega)
                        have v1 : vals 1 = .int .i64 (i : Int) := hv 1 (by omega)
                        have v2 : vals 2 = .pointer (some ⟨gz, i * 17, none⟩) := hv 2 (by omega)
                        have v3 : vals 3 = wordV (shD A.length dy) := hv 3 (by omega)
                        have v4 : vals 4 = wordV (shD A.length dy) := hv 4 (by omega)
                        have v5 : vals 5 = .bool false := hv 5 (by omega)
                        simp only [List.take_succ_cons, List.take_zero, List.drop_succ_cons, List.drop_zero, List.drop_nil, List.take_nil, fillAll, Nat.zero_add, Nat.reduceAdd]
                        rw [v0, v1, v2, v3, v4, v5]
                        clear hv v0 v1 v2 v3 v4 v5
                        try simp only [put_lit, List.setIfInBounds_toArray, List.set_cons_succ, List.set_cons_zero]
                        replace H := (H.call hbw).take 3
                        go_wp2_with (first | fail | ((with_reducible show wpList _ _ _ ({ op := Op.binOp BinOp.add 9 .., .. } :: _) _ _); refine own_pure (by first | rfl | exact wanted_g rfl (yielded_of rfl (by first | rfl | (simp only [put_lit, put_no, List.setIfInBounds_toArray, List.set_cons_succ, List.set_cons_zero, ev_tmp, ev_const, ev_glob, ev_func, List.getD_cons_succ, List.getD_cons_zero]; rfl)))) (str_add_run (by omega) rfl rfl rfl) ?_) | (go_at_call 9; (with_reducible refine ch (hAw _ H.below) H ?_); clear H; intro w H))
                        go_roundw
                        case rel => exact ⟨i + 1, rfl, by omega, H⟩
                        case measure => simp [intOf]; omega
                · have di : decide ((i : Int) < (xs.length : Int) + (ys.length : Int)) = false := by simp; omega
                  go_wp2_with (first | fail | ((with_reducible show wpList _ _ _ ({ op := Op.binOp BinOp.add 9 .., .. } :: _) _ _); refine own_pure (by first | rfl | exact wanted_g rfl (yielded_of rfl (by first | rfl | (simp only [put_lit, put_no, List.setIfInBounds_toArray, List.set_cons_succ, List.set_cons_zero, ev_tmp, ev_const, ev_glob, ev_func, List.getD_cons_succ, List.getD_cons_zero]; rfl)))) (str_add_run (by omega) rfl rfl rfl) ?_) | (go_at_call 9; (with_reducible refine ch (hAw _ H.below) H ?_); clear H; intro w H))
                  go_ret
                  exact ⟨rfl, H.below⟩
end Go.Proofs.YtllmgmfihijejaaDoor
