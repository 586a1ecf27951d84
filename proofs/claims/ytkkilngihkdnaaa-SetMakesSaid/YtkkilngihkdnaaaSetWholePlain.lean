/-
  SetWhole: the plain laws.
-/
import Derived.Test.YtkkilngihkdnaaaSetAlgPlain
namespace Go.Proofs.Ytkkilngihkdnaaa
open Go.RowKit

def sumR (L : List (Int × Int)) : Int := (L.map (fun p => p.2 - p.1 + 1)).sum
theorem sumR_snoc (L : List (Int × Int)) (p : Int × Int) : sumR (L ++ [p]) = sumR L + (p.2 - p.1 + 1) := by simp [sumR]

structure RGood (s : Nat → Nat) (k : Nat) (R : List (Int × Int)) : Prop where
  ends : ∀ p ∈ R, 0 ≤ p.1 ∧ p.1 ≤ p.2 ∧ p.2 < k
  apart : R.Pairwise (fun p q => p.2 + 1 < q.1)
  has : ∀ c : Nat, (∃ p ∈ R, p.1 ≤ (c : Int) ∧ (c : Int) ≤ p.2) ↔ (c < k ∧ hasB s c = true)
  sum : sumR R = (bytesTo s k).length

theorem rgood (s : Nat → Nat) : ∀ k, k ≤ 256 → RGood s k (rangesF (bytesTo s k))
  | 0, _ => ⟨by simp [bytesTo, rangesF], by simp [bytesTo, rangesF], by simp [bytesTo, rangesF], by simp [bytesTo, rangesF, sumR]⟩
  | k + 1, hk => by
    have ih := rgood s k (by omega)
    cases hb : hasB s k with
    | false =>
      rw [bytesTo_miss hb]
      refine ⟨fun p hp => by have := ih.ends p hp; omega, ih.apart, fun c => ?_, by rw [bytesTo_miss hb]; exact ih.sum⟩
      rw [ih.has c]
      constructor
      · rintro ⟨h1, h2⟩; exact ⟨by omega, h2⟩
      · rintro ⟨h1, h2⟩
        refine ⟨?_, h2⟩
        rcases Nat.lt_or_ge c k with h | h
        · exact h
        · have : c = k := by omega
          subst this; rw [hb] at h2; cases h2
    | true =>
      rw [bytesTo_hit hb, rangesF_snoc]
      have hlen : ((bytesTo s (k + 1)).length : Int) = (bytesTo s k).length + 1 := by rw [bytesTo_hit hb]; simp
      rcases nil_or_snoc (rangesF (bytesTo s k)) with hR | ⟨L, ⟨lo, hi⟩, hR⟩
      · rw [hR] at ih ⊢
        rw [rstep_nil]
        refine ⟨by simp; omega, by simp, fun c => ?_, by rw [hlen, ← ih.sum]; simp [sumR]⟩
        have := ih.has c
        simp at this
        simp
        constructor
        · intro h
          have : c = k := by omega
          subst this; exact ⟨by omega, hb⟩
        · rintro ⟨h1, h2⟩
          rcases Nat.lt_or_ge c k with h | h
          · have := this h; rw [h2] at this; cases this
          · omega
      · rw [hR] at ih ⊢
        have hl := ih.ends (lo, hi) (by simp)
        simp only at hl
        have hap := List.pairwise_append.1 ih.apart
        by_cases hh : hi = ((k : Int) + 255) % 256
        · have hh' : hi = (k : Int) - 1 := by omega
          rw [rstep_hit _ _ _ _ hh]
          refine ⟨fun p hp => ?_, ?_, fun c => ?_, ?_⟩
          · rcases List.mem_append.1 hp with h | h
            · have := ih.ends p (by simp [h]); omega
            · simp at h; subst h; exact ⟨hl.1, by show lo ≤ (k : Int); omega, by show (k : Int) < ((k + 1 : Nat) : Int); omega⟩
          · refine List.pairwise_append.2 ⟨hap.1, by simp, fun p hp q hq => ?_⟩
            simp at hq; subst hq
            exact hap.2.2 p hp (lo, hi) (by simp)
          · have := ih.has c
            constructor
            · rintro ⟨p, hp, h1, h2⟩
              rcases List.mem_append.1 hp with h | h
              · have := this.1 ⟨p, by simp [h], h1, h2⟩; exact ⟨by omega, this.2⟩
              · simp at h; subst h
                simp only at h1 h2
                rcases Nat.lt_or_ge c k with h | h
                · have := this.1 ⟨(lo, hi), by simp, h1, by show (c : Int) ≤ hi; omega⟩; exact ⟨by omega, this.2⟩
                · have : c = k := by omega
                  subst this; exact ⟨by omega, hb⟩
            · rintro ⟨h1, h2⟩
              rcases Nat.lt_or_ge c k with h | h
              · obtain ⟨p, hp, h3, h4⟩ := this.2 ⟨h, h2⟩
                rcases List.mem_append.1 hp with h' | h'
                · exact ⟨p, by simp [h'], h3, h4⟩
                · simp at h'; subst h'; exact ⟨(lo, (k : Int)), by simp, h3, by show (c : Int) ≤ (k : Int); omega⟩
              · exact ⟨(lo, (k : Int)), by simp, by show lo ≤ (c : Int); omega, by show (c : Int) ≤ (k : Int); omega⟩
          · have h1 := ih.sum
            rw [sumR_snoc] at h1
            rw [sumR_snoc, hlen]
            simp only at h1 ⊢
            omega
        · have hh' : hi + 1 < (k : Int) := by omega
          rw [rstep_miss _ _ _ _ hh]
          refine ⟨fun p hp => ?_, ?_, fun c => ?_, ?_⟩
          · rcases List.mem_append.1 hp with h | h
            · have := ih.ends p h; omega
            · simp at h; subst h; exact ⟨by show (0 : Int) ≤ (k : Int); omega, Int.le_refl _, by show (k : Int) < ((k + 1 : Nat) : Int); omega⟩
          · refine List.pairwise_append.2 ⟨ih.apart, by simp, fun p hp q hq => ?_⟩
            simp at hq; subst hq
            rcases List.mem_append.1 hp with h | h
            · have h1 := hap.2.2 p h (lo, hi) (by simp)
              simp only at h1 ⊢
              omega
            · simp at h; subst h; exact hh'
          · have := ih.has c
            constructor
            · rintro ⟨p, hp, h1, h2⟩
              rcases List.mem_append.1 hp with h | h
              · have := this.1 ⟨p, h, h1, h2⟩; exact ⟨by omega, this.2⟩
              · simp at h; subst h
                simp only at h1 h2
                have : c = k := by omega
                subst this; exact ⟨by omega, hb⟩
            · rintro ⟨h1, h2⟩
              rcases Nat.lt_or_ge c k with h | h
              · obtain ⟨p, hp, h3, h4⟩ := this.2 ⟨h, h2⟩
                exact ⟨p, by simp at hp ⊢; rcases hp with h' | h'; exact .inl h'; exact .inr (.inl h'), h3, h4⟩
              · exact ⟨((k : Int), (k : Int)), by simp, by show (k : Int) ≤ (c : Int); omega, by show (c : Int) ≤ (k : Int); omega⟩
          · rw [sumR_snoc, hlen, ih.sum]
            simp

theorem has_rangeS (lo n c : Nat) : hasB (rangeS lo n) c = decide (lo ≤ c ∧ c < lo + n) := by
  unfold rangeS
  rw [has_of, Bool.eq_iff_iff, List.any_eq_true]
  simp only [List.mem_map, List.mem_range'_1, decide_eq_true_eq]
  constructor
  · rintro ⟨x, ⟨m, hm, rfl⟩, h⟩; simp at h; omega
  · intro h; exact ⟨(c : Int), ⟨c, h, rfl⟩, by simp⟩

def pairS (p : Int × Int) : Nat → Nat := rangeS p.1.toNat (p.2.toNat + 1 - p.1.toNat)
theorem whole_union {s : Nat → Nat} (hs : SetOk s) : setV (unionS ((rangesF (bytesS s)).map pairS)) = setV s :=
  setV_ext (unionS_ok (fun t ht => by obtain ⟨p, _, rfl⟩ := List.mem_map.1 ht; exact ofS_ok _)) hs fun c hc => by
    have hg := rgood s 256 (Nat.le_refl _)
    rw [has_union, Bool.eq_iff_iff, List.any_eq_true]
    have := hg.has c
    constructor
    · rintro ⟨t, ht, h⟩
      obtain ⟨p, hp, rfl⟩ := List.mem_map.1 ht
      have he := hg.ends p hp
      unfold pairS at h
      rw [has_rangeS, decide_eq_true_eq] at h
      exact (this.1 ⟨p, hp, by omega, by omega⟩).2
    · intro h
      obtain ⟨p, hp, h1, h2⟩ := this.2 ⟨hc, h⟩
      have he := hg.ends p hp
      refine ⟨pairS p, List.mem_map.2 ⟨p, hp, rfl⟩, ?_⟩
      unfold pairS
      rw [has_rangeS, decide_eq_true_eq]
      omega
theorem whole_of {s : Nat → Nat} (hs : SetOk s) : setV (ofS (bytesS s)) = setV s :=
  setV_ext (ofS_ok _) hs fun c hc => by
    rw [has_of, Bool.eq_iff_iff, List.any_eq_true]
    constructor
    · rintro ⟨x, hx, h⟩
      obtain ⟨n, hn, rfl, hh⟩ := bytesS_mem hx
      simp at h; subst h; exact hh
    · intro h; exact ⟨c, mem_bytesS hc h, by simp⟩
theorem RGood.prev {s : Nat → Nat} {k : Nat} {R : List (Int × Int)} (hg : RGood s k R) {j : Nat} (hj : j < R.length) (h0 : 0 < j) : R[j - 1].2 + 1 < R[j].1 ∧ 0 ≤ R[j - 1].2 := by
  have h1 := List.pairwise_iff_getElem.1 hg.apart (j - 1) j (by omega) hj (by omega)
  have h2 := hg.ends R[j - 1] (List.getElem_mem (by omega))
  exact ⟨h1, by omega⟩
theorem sumR_bound {R : List (Int × Int)} (h : ∀ p ∈ R, 0 ≤ p.1 ∧ p.1 ≤ p.2 ∧ p.2 < 256) : 0 ≤ sumR R ∧ sumR R ≤ 256 * R.length := by
  induction R with
  | nil => simp [sumR]
  | cons p R ih =>
    have h1 := h p (by simp)
    have h2 := ih (fun q hq => h q (by simp [hq]))
    have e : sumR (p :: R) = (p.2 - p.1 + 1) + sumR R := by simp [sumR]
    rw [e]; simp; omega
theorem sumR_take {R : List (Int × Int)} (h : ∀ p ∈ R, 0 ≤ p.1 ∧ p.1 ≤ p.2 ∧ p.2 < 256) (hl : R.length ≤ 256) (j : Nat) : 0 ≤ sumR (R.take j) ∧ sumR (R.take j) ≤ 100000 := by
  have h1 := sumR_bound (R := R.take j) (fun p hp => h p (List.mem_of_mem_take hp))
  have h2 := List.length_take_le j R
  have h3 : (R.take j).length ≤ R.length := by simp; omega
  omega
theorem whole_sum (s : Nat → Nat) : sumR (rangesF (bytesS s)) = (countS s : Nat) := by
  rw [countS_eq]; exact (rgood s 256 (Nat.le_refl _)).sum

end Go.Proofs.Ytkkilngihkdnaaa
