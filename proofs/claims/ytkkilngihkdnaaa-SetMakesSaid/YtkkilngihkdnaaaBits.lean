/-
  How many bits of a number of 64 bits are set: the plain law, and the walk of OnesCount64.
-/
import Derived.Test.YtkkilngihkdnaaaSetPlain
import Derived.Laws.Bits128
namespace Go.Proofs.Ytkkilngihkdnaaa
open Go.RowKit

def popc : Nat → Nat → Nat
  | 0, _ => 0
  | n + 1, x => x % 2 + popc n (x / 2)

/-- digits of k bits, the low one first -/
def valD (k : Nat) : List Nat → Nat
  | [] => 0
  | d :: ds => d + 2 ^ k * valD k ds
def maskD (k : Nat) : Nat → Nat
  | 0 => 0
  | n + 1 => (2 ^ k - 1) + 2 ^ (2 * k) * maskD k n
def pairD : List Nat → List Nat
  | a :: b :: r => (a + b) :: pairD r
  | _ => []
def evenD : List Nat → List Nat
  | a :: _ :: r => a :: evenD r
  | _ => []
def oddD : List Nat → List Nat
  | _ :: b :: r => b :: oddD r
  | _ => []

theorem split_and (j a c b d : Nat) (ha : a < 2 ^ j) (hc : c < 2 ^ j) : (a + 2 ^ j * b) &&& (c + 2 ^ j * d) = (a &&& c) + 2 ^ j * (b &&& d) := by
  have hp : 0 < 2 ^ j := Nat.pow_pos (by omega)
  have h1 : (a + 2 ^ j * b) % 2 ^ j = a := by rw [Nat.add_mul_mod_self_left, Nat.mod_eq_of_lt ha]
  have h2 : (c + 2 ^ j * d) % 2 ^ j = c := by rw [Nat.add_mul_mod_self_left, Nat.mod_eq_of_lt hc]
  have h3 : (a + 2 ^ j * b) / 2 ^ j = b := by rw [Nat.add_mul_div_left _ _ hp, Nat.div_eq_of_lt ha, Nat.zero_add]
  have h4 : (c + 2 ^ j * d) / 2 ^ j = d := by rw [Nat.add_mul_div_left _ _ hp, Nat.div_eq_of_lt hc, Nat.zero_add]
  have h5 := Nat.mod_add_div ((a + 2 ^ j * b) &&& (c + 2 ^ j * d)) (2 ^ j)
  rw [Nat.and_mod_two_pow, Nat.and_div_two_pow, h1, h2, h3, h4] at h5
  exact h5.symm

theorem and_maskD (k : Nat) : ∀ (n : Nat) (ds : List Nat), ds.length = 2 * n → (∀ d ∈ ds, d < 2 ^ k) → valD k ds &&& maskD k n = valD (2 * k) (evenD ds)
  | 0, ds, hl, _ => by
    have : ds = [] := List.length_eq_zero_iff.1 (by omega)
    subst this; simp [valD, maskD, evenD]
  | n + 1, [], hl, _ => by simp at hl
  | n + 1, [_], hl, _ => by simp at hl; omega
  | n + 1, a :: b :: r, hl, hd => by
    have ih := and_maskD k n r (by simp at hl; omega) (fun d h => hd d (by simp [h]))
    have ha := hd a (by simp)
    have hb := hd b (by simp)
    have e : valD k (a :: b :: r) = (a + 2 ^ k * b) + 2 ^ (2 * k) * valD k r := by
      simp only [valD]; rw [show 2 * k = k + k from by omega, Nat.pow_add, Nat.mul_add, Nat.mul_assoc]; omega
    have hk : 0 < 2 ^ k := Nat.pow_pos (by omega)
    have h2 : (2 : Nat) ^ (2 * k) = 2 ^ k * 2 ^ k := by rw [show 2 * k = k + k from by omega, Nat.pow_add]
    have hlt : a + 2 ^ k * b < 2 ^ (2 * k) := by
      rw [h2]
      calc a + 2 ^ k * b < 2 ^ k + 2 ^ k * b := by omega
        _ = 2 ^ k * (b + 1) := by rw [Nat.mul_add]; omega
        _ ≤ 2 ^ k * 2 ^ k := Nat.mul_le_mul_left _ (by omega)
    have hm : 2 ^ k - 1 < 2 ^ (2 * k) := by
      rw [h2]
      have : 2 ^ k * 1 ≤ 2 ^ k * 2 ^ k := Nat.mul_le_mul_left _ hk
      omega
    rw [e]
    show (a + 2 ^ k * b + 2 ^ (2 * k) * valD k r) &&& ((2 ^ k - 1) + 2 ^ (2 * k) * maskD k n) = _
    rw [split_and _ _ _ _ _ hlt hm, ih, Nat.and_two_pow_sub_one_eq_mod, Nat.add_mul_mod_self_left, Nat.mod_eq_of_lt ha]
    rfl

theorem valD_div (k a : Nat) (ds : List Nat) (ha : a < 2 ^ k) : valD k (a :: ds) / 2 ^ k = valD k ds := by
  show (a + 2 ^ k * valD k ds) / 2 ^ k = _
  rw [Nat.add_mul_div_left _ _ (Nat.pow_pos (by omega)), Nat.div_eq_of_lt ha, Nat.zero_add]

theorem valD_snoc0 (k : Nat) (ds : List Nat) : valD k (ds ++ [0]) = valD k ds := by
  induction ds with
  | nil => simp [valD]
  | cons d ds ih => simp [valD, ih]

theorem evenD_tail : ∀ (r : List Nat) (a : Nat), evenD (r ++ [a]) = if r.length % 2 = 1 then evenD (r ++ [0]) else evenD r
  | [], _ => by simp [evenD]
  | [_], _ => by simp [evenD]
  | a :: b :: r, c => by
    simp only [List.cons_append, evenD, evenD_tail r c, List.length_cons]
    split <;> rename_i h
    · rw [if_pos (by omega)]
    · rw [if_neg (by omega)]
theorem even_odd : ∀ (n : Nat) (ds : List Nat), ds.length = 2 * n → evenD (ds.tail ++ [0]) = oddD ds
  | 0, ds, hl => by
    have : ds = [] := List.length_eq_zero_iff.1 (by omega)
    subst this; simp [evenD, oddD]
  | n + 1, [], hl => by simp at hl
  | n + 1, [_], hl => by simp at hl; omega
  | n + 1, a :: b :: [], hl => by simp [evenD, oddD]
  | n + 1, a :: b :: c :: r, hl => by
    have ih := even_odd n (c :: r) (by simp at hl ⊢; omega)
    simp only [List.tail_cons, List.cons_append, evenD, oddD] at ih ⊢
    rw [ih]

theorem even_odd_pair (k : Nat) : ∀ (n : Nat) (ds : List Nat), ds.length = 2 * n → valD k (oddD ds) + valD k (evenD ds) = valD k (pairD ds)
  | 0, ds, hl => by
    have : ds = [] := List.length_eq_zero_iff.1 (by omega)
    subst this; simp [evenD, oddD, pairD, valD]
  | n + 1, [], hl => by simp at hl
  | n + 1, [_], hl => by simp at hl; omega
  | n + 1, a :: b :: r, hl => by
    have ih := even_odd_pair k n r (by simp at hl; omega)
    simp only [evenD, oddD, pairD, valD]
    rw [← ih, Nat.mul_add]; omega

theorem pairD_len : ∀ (n : Nat) (ds : List Nat), ds.length = 2 * n → (pairD ds).length = n
  | 0, ds, hl => by
    have : ds = [] := List.length_eq_zero_iff.1 (by omega)
    subst this; rfl
  | n + 1, [], hl => by simp at hl
  | n + 1, [_], hl => by simp at hl; omega
  | n + 1, a :: b :: r, hl => by simp [pairD, pairD_len n r (by simp at hl; omega)]
theorem pairD_sum : ∀ (n : Nat) (ds : List Nat), ds.length = 2 * n → (pairD ds).sum = ds.sum
  | 0, ds, hl => by
    have : ds = [] := List.length_eq_zero_iff.1 (by omega)
    subst this; rfl
  | n + 1, [], hl => by simp at hl
  | n + 1, [_], hl => by simp at hl; omega
  | n + 1, a :: b :: r, hl => by simp [pairD, pairD_sum n r (by simp at hl; omega)]; omega
theorem pairD_le (B : Nat) : ∀ (n : Nat) (ds : List Nat), ds.length = 2 * n → (∀ d ∈ ds, d ≤ B) → ∀ d ∈ pairD ds, d ≤ 2 * B
  | 0, ds, hl, _ => by
    have : ds = [] := List.length_eq_zero_iff.1 (by omega)
    subst this; simp [pairD]
  | n + 1, [], hl, _ => by simp at hl
  | n + 1, [_], hl, _ => by simp at hl; omega
  | n + 1, a :: b :: r, hl, hd => by
    intro d h
    have ha := hd a (by simp)
    have hb := hd b (by simp)
    simp only [pairD, List.mem_cons] at h
    rcases h with rfl | h
    · omega
    · exact pairD_le B n r (by simp at hl; omega) (fun d h => hd d (by simp [h])) d h

/-- one step: the pairs' sums, in digits twice as wide -/
theorem step_pair (k n : Nat) (ds : List Nat) (hl : ds.length = 2 * n) (hd : ∀ d ∈ ds, d < 2 ^ k) :
    ((valD k ds / 2 ^ k) &&& maskD k n) + (valD k ds &&& maskD k n) = valD (2 * k) (pairD ds) := by
  have hp : 0 < 2 ^ k := Nat.pow_pos (by omega)
  rw [and_maskD k n ds hl hd]
  have h1 : (valD k ds / 2 ^ k) &&& maskD k n = valD (2 * k) (oddD ds) := by
    cases ds with
    | nil =>
      have : n = 0 := by simp at hl; omega
      subst this; simp [valD, maskD, oddD]
    | cons a r =>
      rw [valD_div k a r (hd a (by simp)), ← valD_snoc0 k r, and_maskD k n (r ++ [0]) (by simp at hl ⊢; omega) (by
        intro d h
        simp at h
        rcases h with h | rfl
        · exact hd d (by simp [h])
        · exact hp)]
      rw [← even_odd n (a :: r) hl]; rfl
  rw [h1, even_odd_pair _ n ds hl]

/-- two rows of digits added, where no digit grows too great -/
theorem valD_add (k : Nat) : ∀ (a b : List Nat), a.length = b.length → valD k a + valD k b = valD k (List.zipWith (· + ·) a b)
  | [], [], _ => by simp [valD]
  | x :: a, y :: b, h => by
    have ih := valD_add k a b (by simpa using h)
    simp only [valD, List.zipWith_cons_cons]
    rw [← ih, Nat.mul_add]; omega
  | [], _ :: _, h => by simp at h
  | _ :: _, [], h => by simp at h
theorem even_zip : ∀ (n : Nat) (ds : List Nat), ds.length = 2 * n → evenD (List.zipWith (· + ·) (ds.tail ++ [0]) ds) = pairD ds
  | 0, ds, hl => by
    have : ds = [] := List.length_eq_zero_iff.1 (by omega)
    subst this; rfl
  | n + 1, [], hl => by simp at hl
  | n + 1, [_], hl => by simp at hl; omega
  | n + 1, a :: b :: [], hl => by simp [evenD, pairD]; omega
  | n + 1, a :: b :: c :: r, hl => by
    have ih := even_zip n (c :: r) (by simp at hl ⊢; omega)
    simp only [List.tail_cons, List.cons_append, List.zipWith_cons_cons, evenD, pairD] at ih ⊢
    rw [ih]
    congr 1
    omega
theorem zip_le (B : Nat) : ∀ (a b : List Nat), (∀ d ∈ a, d ≤ B) → (∀ d ∈ b, d ≤ B) → ∀ d ∈ List.zipWith (· + ·) a b, d ≤ 2 * B
  | [], _, _, _ => by simp
  | _ :: _, [], _, _ => by simp
  | x :: a, y :: b, ha, hb => by
    intro d h
    have h1 := ha x (by simp)
    have h2 := hb y (by simp)
    simp only [List.zipWith_cons_cons, List.mem_cons] at h
    rcases h with rfl | h
    · omega
    · exact zip_le B a b (fun d h => ha d (by simp [h])) (fun d h => hb d (by simp [h])) d h
theorem step_late (k n B : Nat) (ds : List Nat) (hl : ds.length = 2 * n) (hd : ∀ d ∈ ds, d ≤ B) (hB : 2 * B < 2 ^ k) :
    (valD k ds / 2 ^ k + valD k ds) &&& maskD k n = valD (2 * k) (pairD ds) := by
  have ht : valD k ds / 2 ^ k = valD k (ds.tail ++ [0]) ∨ ds = [] := by
    cases ds with
    | nil => exact .inr rfl
    | cons a r => left; rw [valD_div k a r (by have := hd a (by simp); omega), List.tail_cons, valD_snoc0]
  rcases ht with ht | rfl
  · by_cases h0 : ds = []
    · subst h0
      have : n = 0 := by simp at hl; omega
      subst this; simp [valD, maskD, pairD]
    have hlen : (ds.tail ++ [0]).length = ds.length := by
      have : 0 < ds.length := List.length_pos_iff.2 h0
      simp; omega
    rw [ht, valD_add _ _ _ hlen, and_maskD k n _ (by rw [List.length_zipWith, hlen]; omega) (fun d h => by
      have := zip_le B _ _ (fun d h => by
        rcases List.mem_append.1 h with h | h
        · exact hd d (List.mem_of_mem_tail h)
        · simp at h; omega) hd d h
      omega), even_zip n ds hl]
  · have : n = 0 := by simp at hl; omega
    subst this; simp [valD, maskD, pairD]

def bitsD : Nat → Nat → List Nat
  | 0, _ => []
  | n + 1, x => x % 2 :: bitsD n (x / 2)
theorem bitsD_len : ∀ (n x : Nat), (bitsD n x).length = n
  | 0, _ => rfl
  | n + 1, x => by simp [bitsD, bitsD_len n]
theorem bitsD_sum : ∀ (n x : Nat), (bitsD n x).sum = popc n x
  | 0, _ => rfl
  | n + 1, x => by simp [bitsD, popc, bitsD_sum n]
theorem bitsD_le : ∀ (n x : Nat), ∀ d ∈ bitsD n x, d ≤ 1
  | 0, _ => by simp [bitsD]
  | n + 1, x => by
    intro d h
    simp only [bitsD, List.mem_cons] at h
    rcases h with rfl | h
    · omega
    · exact bitsD_le n _ d h
theorem bitsD_val : ∀ (n x : Nat), x < 2 ^ n → valD 1 (bitsD n x) = x
  | 0, x, h => by simp at h; simp [bitsD, valD, h]
  | n + 1, x, h => by
    simp only [bitsD, valD]
    rw [bitsD_val n (x / 2) (by rw [Nat.pow_succ] at h; omega)]
    omega

theorem late_q2 (y r s : Nat) (h0 : s < 65536) (h : y = s + 65536 * r) : y / 65536 = r := by omega
theorem late_q3 (y r s : Nat) (h0 : s < 4294967296) (h : y = s + 4294967296 * r) : y / 4294967296 = r := by omega
theorem late_q1 (c0 r y : Nat) (h0 : c0 ≤ 8) (h : y = c0 + 256 * r) : y / 256 = r := by omega
theorem late_sum (c0 c1 c2 c3 c4 c5 c6 c7 : Nat) (h0 : c0 ≤ 8) (h1 : c1 ≤ 8) (h2 : c2 ≤ 8) (h3 : c3 ≤ 8) (h4 : c4 ≤ 8) (h5 : c5 ≤ 8) (h6 : c6 ≤ 8) (h7 : c7 ≤ 8)
    (y3 : Nat) (hy : valD (2 * 4) [c0, c1, c2, c3, c4, c5, c6, c7] = y3) :
    y3 < 2 ^ 60 ∧ (y3 + y3 / 256 + (y3 + y3 / 256) / 65536 + (y3 + y3 / 256 + (y3 + y3 / 256) / 65536) / 4294967296) < 2 ^ 62 ∧
    (y3 + y3 / 256 + (y3 + y3 / 256) / 65536 + (y3 + y3 / 256 + (y3 + y3 / 256) / 65536) / 4294967296) % 128 = c0 + c1 + c2 + c3 + c4 + c5 + c6 + c7 := by
  have e3 : y3 = c0 + 256 * (c1 + 256 * c2 + 65536 * c3 + 16777216 * c4 + 4294967296 * c5 + 1099511627776 * c6 + 281474976710656 * c7) := by
    clear h0 h1 h2 h3 h4 h5 h6 h7; rw [← hy]; simp only [valD, Nat.reduceMul, Nat.reducePow, Nat.mul_zero]; omega
  clear hy
  have q1 := late_q1 _ _ _ h0 e3
  obtain ⟨r1, hr1⟩ : ∃ r, c1 + 256 * c2 + 65536 * c3 + 16777216 * c4 + 4294967296 * c5 + 1099511627776 * c6 + 281474976710656 * c7 = r := ⟨_, rfl⟩
  rw [hr1] at e3 q1
  rw [q1]
  obtain ⟨y4, hy4⟩ : ∃ y, y3 + r1 = y := ⟨_, rfl⟩
  obtain ⟨r2, hr2⟩ : ∃ r, (c2 + c3) + 256 * (c3 + c4) + 65536 * (c4 + c5) + 16777216 * (c5 + c6) + 4294967296 * (c6 + c7) + 1099511627776 * c7 = r := ⟨_, rfl⟩
  have e4 : y4 = (c0 + c1) + 256 * (c1 + c2) + 65536 * r2 := by clear h0 h1 h2 h3 h4 h5 h6 h7; rw [← hy4, e3, ← hr1, ← hr2]; omega
  have q2 : y4 / 65536 = r2 := late_q2 _ _ (c0 + c1 + 256 * (c1 + c2)) (by clear hr1 hr2 hy4 e3 e4 q1; omega) e4
  rw [hy4, q2]
  obtain ⟨r3, hr3⟩ : ∃ r, (c4 + c5 + c6 + c7) + 256 * (c5 + c6 + c7) + 65536 * (c6 + c7) + 16777216 * c7 = r := ⟨_, rfl⟩
  obtain ⟨y5, hy5⟩ : ∃ y, y4 + r2 = y := ⟨_, rfl⟩
  have e5 : y5 = (c0 + c1 + c2 + c3) + 256 * (c1 + c2 + c3 + c4) + 65536 * (c2 + c3 + c4 + c5) + 16777216 * (c3 + c4 + c5 + c6) + 4294967296 * r3 := by clear h0 h1 h2 h3 h4 h5 h6 h7; rw [← hy5, e4, ← hr2, ← hr3]; omega
  have q3 : y5 / 4294967296 = r3 := late_q3 _ _ (c0 + c1 + c2 + c3 + 256 * (c1 + c2 + c3 + c4) + 65536 * (c2 + c3 + c4 + c5) + 16777216 * (c3 + c4 + c5 + c6)) (by clear hr1 hr2 hr3 hy4 hy5 e3 e4 e5 q1 q2; omega) e5
  rw [hy5, q3]
  have hy3b : y3 < 2 ^ 60 := by clear hr2 hr3 hy4 hy5 e4 e5 q1 q2 q3; omega
  have e6 : y5 + r3 = (c0 + c1 + c2 + c3 + c4 + c5 + c6 + c7) + 128 * (2 * (c1 + c2 + c3 + c4 + c5 + c6 + c7) + 512 * (c2 + c3 + c4 + c5 + c6 + c7) + 131072 * (c3 + c4 + c5 + c6 + c7) + 33554432 * r3) := by
    rw [e5]; clear e5 hy5 hy4 e4 hr1 hr2 q1 q2 q3 e3 h0 h1 h2 h3 h4 h5 h6 h7 hy3b; rw [← hr3]; clear hr3; omega
  refine ⟨hy3b, ?_, ?_⟩
  · clear hr1 hr2 hy4 hy5 e3 e4 e6 q1 q2 q3; omega
  · rw [e6]; clear hr1 hr2 hr3 hy4 hy5 e3 e4 e5 e6 q1 q2 q3; omega

theorem popc_steps (x : Nat) (hx : x < 2 ^ 64) : ∃ y1 y2 y3 : Nat,
    (x / 2 &&& 6148914691236517205) + (x &&& 6148914691236517205) = y1 ∧ y1 < 2 ^ 64 ∧
    (y1 / 4 &&& 3689348814741910323) + (y1 &&& 3689348814741910323) = y2 ∧ y2 < 2 ^ 63 ∧
    ((y2 / 16 + y2) &&& 1085102592571150095) = y3 ∧ y3 < 2 ^ 60 ∧
    (y3 + y3 / 256 + (y3 + y3 / 256) / 65536 + (y3 + y3 / 256 + (y3 + y3 / 256) / 65536) / 4294967296) < 2 ^ 62 ∧
    (y3 + y3 / 256 + (y3 + y3 / 256) / 65536 + (y3 + y3 / 256 + (y3 + y3 / 256) / 65536) / 4294967296) % 128 = popc 64 x := by
  obtain ⟨d1, hd1⟩ : ∃ d, bitsD 64 x = d := ⟨_, rfl⟩
  have l1 : d1.length = 2 * 32 := by rw [← hd1, bitsD_len]
  have b1 : ∀ d ∈ d1, d ≤ 1 := by rw [← hd1]; exact bitsD_le 64 x
  have s1 : d1.sum = popc 64 x := by rw [← hd1, bitsD_sum]
  have v1 : valD 1 d1 = x := by rw [← hd1]; exact bitsD_val 64 x hx
  clear hd1
  have e1 := step_pair 1 32 d1 l1 (fun d h => by have := b1 d h; omega)
  rw [v1, show maskD 1 32 = 6148914691236517205 by decide +kernel] at e1
  have l2 := pairD_len 32 d1 l1
  have b2 := pairD_le 1 32 d1 l1 b1
  have s2 := pairD_sum 32 d1 l1
  generalize pairD d1 = d2 at e1 l2 b2 s2
  have e2 := step_pair 2 16 d2 l2 (fun d h => by have := b2 d h; omega)
  rw [show maskD 2 16 = 3689348814741910323 by decide +kernel] at e2
  have l3 := pairD_len 16 d2 l2
  have b3 := pairD_le 2 16 d2 l2 b2
  have s3 := pairD_sum 16 d2 l2
  generalize pairD d2 = d3 at e2 l3 b3 s3
  have e3 := step_late 4 8 4 d3 l3 b3 (by omega)
  rw [show maskD 4 8 = 1085102592571150095 by decide +kernel] at e3
  have l4 := pairD_len 8 d3 l3
  have b4 := pairD_le 4 8 d3 l3 b3
  have s4 := pairD_sum 8 d3 l3
  generalize pairD d3 = d4 at e3 l4 b4 s4
  refine ⟨_, _, _, e1, ?_, e2, ?_, e3, ?_, ?_, ?_⟩
  · rw [← e1]
    have h1 : x / 2 ^ 1 &&& 6148914691236517205 ≤ 6148914691236517205 := Nat.and_le_right
    have h2 : x &&& 6148914691236517205 ≤ 6148914691236517205 := Nat.and_le_right
    omega
  · rw [← e2]
    have h1 : (valD 2 d2) / 2 ^ 2 &&& 3689348814741910323 ≤ 3689348814741910323 := Nat.and_le_right
    have h2 : (valD 2 d2) &&& 3689348814741910323 ≤ 3689348814741910323 := Nat.and_le_right
    omega
  all_goals
    match d4, l4 with
    | [c0, c1, c2, c3, c4, c5, c6, c7], _ =>
      have h := late_sum c0 c1 c2 c3 c4 c5 c6 c7 (b4 c0 (by simp)) (b4 c1 (by simp)) (b4 c2 (by simp)) (b4 c3 (by simp)) (b4 c4 (by simp)) (b4 c5 (by simp)) (b4 c6 (by simp)) (b4 c7 (by simp)) _ rfl
      first | exact h.1 | exact h.2.1 | (refine h.2.2.trans ?_; rw [← s1, ← s2, ← s3, ← s4]; simp; omega)
attribute [local go_sem] Oper.semAt_some
set_option maxHeartbeats 1000000 in
theorem ones_walk (x : Nat) (hx : x < 2 ^ 64) (w : World) : Calls Try.prog 53 #[.int .u64 x] w fun e w' => e = .returned (.int .i64 (popc 64 x : Nat)) ∧ w = w' := by
  obtain ⟨y1, y2, y3, e1, l1, e2, l2, e3, l3, l6, e6⟩ := popc_steps x hx
  have a1 : bits .and .u64 ((x : Int) / 2) 6148914691236517205 = ((x / 2 &&& 6148914691236517205 : Nat) : Int) := u64_and_nat (x / 2) 6148914691236517205 (by omega) (by omega)
  have a2 : bits .and .u64 (x : Int) 6148914691236517205 = ((x &&& 6148914691236517205 : Nat) : Int) := u64_and_nat x 6148914691236517205 (by omega) (by omega)
  have a3 : bits .and .u64 ((y1 : Int) / 4) 3689348814741910323 = ((y1 / 4 &&& 3689348814741910323 : Nat) : Int) := u64_and_nat (y1 / 4) 3689348814741910323 (by omega) (by omega)
  have a4 : bits .and .u64 (y1 : Int) 3689348814741910323 = ((y1 &&& 3689348814741910323 : Nat) : Int) := u64_and_nat y1 3689348814741910323 (by omega) (by omega)
  have a5 : bits .and .u64 ((y2 : Int) / 16 + y2) 1085102592571150095 = (y3 : Int) := by
    have := u64_and_nat (y2 / 16 + y2) 1085102592571150095 (by omega) (by omega)
    rw [e3] at this
    rw [← this]; rfl
  have s1 : ((x / 2 &&& 6148914691236517205 : Nat) : Int) + ((x &&& 6148914691236517205 : Nat) : Int) = y1 := by omega
  have s2 : ((y1 / 4 &&& 3689348814741910323 : Nat) : Int) + ((y1 &&& 3689348814741910323 : Nat) : Int) = y2 := by omega
  generalize x / 2 &&& 6148914691236517205 = p1 at a1 s1 e1
  generalize x &&& 6148914691236517205 = p2 at a2 s1 e1
  generalize y1 / 4 &&& 3689348814741910323 = p3 at a3 s2 e2
  generalize y1 &&& 3689348814741910323 = p4 at a4 s2 e2
  generalize popc 64 x = pc at e6
  clear e3
  have E6 := Lib.hid e6
  have L6 := Lib.hid l6
  clear e6 l6 e1 e2
  go_enter Try.func53, Try.ntmps53
  go_wp2
  have e : bits .and .i64 ((y3 : Int) + y3 / 256 + (y3 + y3 / 256) / 65536 + (y3 + y3 / 256 + (y3 + y3 / 256) / 65536) / 4294967296) 127 = (pc : Int) := by
    rw [i64_and127, ← E6.out]
    simp only [Int.natCast_emod, Int.natCast_add, Int.natCast_ediv]
    rfl
  rw [e]
  go_ret
  exact ⟨rfl, rfl⟩

end Go.Proofs.Ytkkilngihkdnaaa
