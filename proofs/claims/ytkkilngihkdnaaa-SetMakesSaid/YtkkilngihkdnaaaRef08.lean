/-
  The walks of the sets' reference: Has, with, Of, Range.
-/
import Derived.Test.YtkkilngihkdnaaaSet2
import Derived.Test.YtkkilngihkdnaaaRegion2
import Derived.Deep.CutRange
namespace Go.Proofs.Ytkkilngihkdnaaa
open Go.RowKit Go.Shelf
attribute [local go_sem] Oper.semAt_some
set_option linter.unusedSimpArgs false

theorem half_pow (x j : Nat) : x / 2 ^ (j + 1) = x / 2 ^ j / 2 := by rw [Nat.pow_succ, Nat.div_div_eq_div_mul]

theorem half_bit (x j : Nat) : (((x : Int) / 2 ^ j).tmod 2 == 1) = x.testBit j := by
  have e : (x : Int) / 2 ^ j = ((x / 2 ^ j : Nat) : Int) := by push_cast; rfl
  rw [e, Int.tmod_eq_emod_of_nonneg (Int.natCast_nonneg _), Bool.eq_iff_iff, ← bit_nat]
  simp
  omega

set_option maxHeartbeats 1000000 in
theorem ref_Has (s : Nat → Nat) (hs : SetOk s) (b : Nat) (hb : b < 256) (w : World) :
    Calls Try.prog 48 #[setV s, .int .u8 b] w fun e w' => e = .returned (.bool (hasB s b)) ∧ Below w.heap.size w w' := by
  obtain ⟨r, hr, hr1, hr2, h⟩ := bdiv_cases hb
  have hlt : s (b / 64) < 2 ^ 64 := hs _ (by omega)
  unfold setV
  rcases h with ⟨h1, hq⟩ | ⟨h1, hq⟩ | ⟨h1, hq⟩ | ⟨h1, hq⟩
  all_goals
    rw [h1] at hlt
    have H1 := Lib.hid h1; clear h1
    have HR := Lib.hid hr1; clear hr1
    go_enter Try.func48, Try.ntmps48
    go_wp2_with fail
    go_loop [5, 6] (fun n i => ∃ j : Nat, j ≤ r ∧ i = .int .u8 j ∧ n = .int .u64 ((s (b / 64) / 2 ^ j : Nat) : Int)) (fun _ i => r - (intOf i).toNat)
    case atStart => exact ⟨0, by omega, rfl, by rw [H1.out]; simp⟩
    case round =>
      obtain ⟨j, hj, rfl, rfl⟩ := hrel
      rw [H1.out]
      by_cases hlt2 : j < r
      · obtain ⟨y, hy⟩ : ∃ y, y = s (b / 64) / 2 ^ j := ⟨_, rfl⟩
        have hn := half_pow (s (b / 64)) j
        rw [H1.out] at hn hy
        rw [← hy] at hn ⊢
        have hyb : y ≤ 18446744073709551615 := by have := Nat.div_le_self (s (b / 64)) (2 ^ j); rw [H1.out] at this; rw [hy]; omega
        have HN := Lib.hid hn; clear hn
        have HY := Lib.hid hy; clear hy
        go_wp2
        go_round
        case rel => exact ⟨j + 1, by omega, by go_num, by rw [HN.out]; first | rfl | (congr 1)⟩
        case measure => simp [intOf]; omega
      · obtain rfl : j = r := by omega
        have ht := bit_nat (s (b / 64)) j
        rw [H1.out] at ht
        have HT := Lib.hid ht; clear ht
        have hyb := Nat.div_le_self (s (b / 64)) (2 ^ j)
        rw [H1.out] at hyb
        go_wp2
        go_ret
        refine ⟨?_, (Below.refl _ _).alloc (Nat.le_refl _) _⟩
        unfold hasB
        rw [H1.out, HR.out]
        exact congrArg (fun x => Ending.returned (Value.bool x)) (half_bit _ _)

theorem add_or {x r : Nat} (hx : x < 2 ^ 64) (hr : r < 64) (h : x.testBit r = false) : x + 2 ^ r = x ||| 2 ^ r := by
  have hr2 : 2 ^ r < 2 ^ 64 := Nat.pow_lt_pow_right (by omega) hr
  have e := BitVec.add_eq_or_of_and_eq_zero (BitVec.ofNat 64 x) (BitVec.ofNat 64 (2 ^ r)) (by
    apply BitVec.eq_of_getLsbD_eq
    intro i hi
    simp only [BitVec.getLsbD_and, BitVec.getLsbD_ofNat, BitVec.getLsbD_zero, Nat.testBit_two_pow]
    by_cases e : r = i
    · subst e; simp [h]
    · simp [e])
  have e2 := congrArg BitVec.toNat e
  rw [BitVec.toNat_add, BitVec.toNat_or, BitVec.toNat_ofNat, BitVec.toNat_ofNat, Nat.mod_eq_of_lt hx, Nat.mod_eq_of_lt hr2] at e2
  have hor : x ||| 2 ^ r < 2 ^ 64 := Nat.or_lt_two_pow hx hr2
  have hle : x + 2 ^ r < 2 ^ 64 + 2 ^ 64 := by omega
  by_cases hc : x + 2 ^ r < 2 ^ 64
  · rwa [Nat.mod_eq_of_lt hc] at e2
  · exfalso
    have h1 : (x + 2 ^ r) % 2 ^ 64 = x + 2 ^ r - 2 ^ 64 := by omega
    rw [h1] at e2
    have h2 : x ≤ x ||| 2 ^ r := Nat.left_le_or
    omega

theorem with_has {s : Nat → Nat} (hs : SetOk s) {b : Nat} (h : hasB s b = true) : setV s = setV (addS s b) :=
  setV_ext hs (addS_ok hs b) fun c _ => by
    rw [has_add]
    by_cases e : c = b
    · subst e; simp [h]
    · simp [e]

set_option maxRecDepth 100000 in
set_option maxHeartbeats 2000000 in
theorem ref_with (s : Nat → Nat) (hs : SetOk s) (b : Nat) (hb : b < 256) (w : World) :
    Calls Try.prog 45 #[setV s, .int .u8 b] w fun e w' => e = .returned (setV (addS s b)) ∧ Below w.heap.size w w' := by
  obtain ⟨r, hr, hr1, hr2, h⟩ := bdiv_cases hb
  obtain ⟨q, hq4, hq, hqi⟩ : ∃ q : Nat, q < 4 ∧ b / 64 = q ∧ (b : Int) / 64 = q := ⟨b / 64, by omega, rfl, by omega⟩
  clear h
  have h2r : ∀ j, j ≤ r → 2 ^ j ≤ 9223372036854775808 := fun j hj => by
    have : 2 ^ j ≤ 2 ^ 63 := Nat.pow_le_pow_right (by omega) (by omega)
    omega
  rw [show setV s = .agg #[.int .u64 (s 0), .int .u64 (s 1), .int .u64 (s 2), .int .u64 (s 3)] from rfl]
  have b1 : SBox (w.alloc (.cells (setC s) 39)) w.heap.size 39 s := SBox.new w _ _
  have b2 : SBox ((w.alloc (.cells (setC s) 39)).alloc (.cells (setC emptyS) 39)) w.heap.size 39 s := b1.alloc _
  have e2 : SBox ((w.alloc (.cells (setC s) 39)).alloc (.cells (setC emptyS) 39)) (w.heap.size + 1) 39 emptyS := by have := SBox.new (w.alloc (.cells (setC s) 39)) 39 emptyS; rwa [World.size_alloc] at this
  have bel : Below w.heap.size w ((w.alloc (.cells (setC s) 39)).alloc (.cells (setC emptyS) 39)) := ((Below.refl _ w).alloc (Nat.le_refl _) _).alloc (by simp) _
  have HS := Lib.hid hs; clear hs
  have HQ := Lib.hid hq; clear hq
  have HR := Lib.hid hr1; clear hr1
  have H2R := Lib.hid h2r; clear h2r
  clear b1
  go_enter Try.func45, Try.ntmps45
  go_wp2_with fail
  refine (ref_Has s HS.out b hb _).mono ?_
  rintro e w1 ⟨rfl, bel1⟩
  have sz1 := bel1.size
  simp at sz1
  have b3 := b2.below bel1 b2.lt
  have e3 := e2.below bel1 e2.lt
  have bel2 : Below w.heap.size w w1 := bel.trans (bel1.mono (by simp; omega))
  clear b2 e2 bel bel1
  have f0 := e3.frozen 0; have f1 := e3.frozen 1; have f2 := e3.frozen 2; have f3 := e3.frozen 3
  have r0 := e3.cell (k := 0) (by omega); have r1 := e3.cell (k := 1) (by omega); have r2 := e3.cell (k := 2) (by omega); have r3 := e3.cell (k := 3) (by omega)
  have E3 := Lib.hid e3; clear e3
  have BEL2 := Lib.hid bel2; clear bel2
  cases hh : hasB s b with
  | true =>
    have HH := Lib.hid hh; clear hh
    have c0 := b3.cell (k := 0) (by omega); have c1 := b3.cell (k := 1) (by omega); have c2 := b3.cell (k := 2) (by omega); have c3 := b3.cell (k := 3) (by omega)
    clear b3
    go_wp2
    have b4 := E3.out.set4 s
    have g0 := b4.cell (k := 0) (by omega); have g1 := b4.cell (k := 1) (by omega); have g2 := b4.cell (k := 2) (by omega); have g3 := b4.cell (k := 3) (by omega)
    exact bodyPost_ret (v := setV s) (by unfold setV; simp [results, Try.results45, go_sem, g0, g1, g2, g3]) rfl ⟨by rw [with_has HS.out HH.out], below_set4 BEL2.out (by omega) _ _ _ _⟩
  | false =>
    have HH := Lib.hid hh; clear hh
    have B3 := Lib.hid b3
    have k1 := b3.cell hq4
    have k2 := b3.frozen q
    clear b3
    go_wp2_with fail
    go_loop [5, 6] (fun n i => ∃ j : Nat, j ≤ r ∧ i = .int .u8 j ∧ n = .int .u64 ((2 ^ j : Nat) : Int)) (fun _ i => r - (intOf i).toNat)
    case atStart => exact ⟨0, by omega, rfl, rfl⟩
    case round =>
      obtain ⟨j, hj, rfl, rfl⟩ := hrel
      by_cases hlt : j < r
      · have hp := H2R.out (j + 1) (by omega)
        rw [Nat.pow_succ] at hp
        have hs2 : 2 ^ (j + 1) = 2 ^ j * 2 := Nat.pow_succ ..
        have HS2 := Lib.hid hs2; clear hs2
        obtain ⟨y, hy⟩ : ∃ y, y = 2 ^ j := ⟨_, rfl⟩
        rw [← hy] at hp HS2 ⊢
        clear hy
        have hw : IntKind.u64.wrap (2 * (y : Int)) = 2 * (y : Int) := by rw [IntKind.wrap_u64]; omega
        go_wp2
        go_round
        case rel => exact ⟨j + 1, by omega, by go_num, by rw [HS2.out]; go_num⟩
        case measure => simp [intOf]; omega
      · obtain rfl : j = r := by omega
        have hadd := add_or (HS.out q hq4) hr (by have := HH.out; unfold hasB at this; rwa [HQ.out, HR.out] at this)
        have hp := H2R.out j (Nat.le_refl _)
        have hor : s q ||| 2 ^ j < 2 ^ 64 := Nat.or_lt_two_pow (HS.out q hq4) (by omega)
        rw [← hadd] at hor
        have HADD := Lib.hid hadd; clear hadd
        obtain ⟨y, hy⟩ : ∃ y, y = 2 ^ j := ⟨_, rfl⟩
        rw [← hy] at hp hor HADD ⊢
        have HY := Lib.hid hy; clear hy
        have hw : IntKind.u64.wrap (((s q : Nat) : Int) + (y : Int)) = ((s q + y : Nat) : Int) := by rw [IntKind.wrap_u64]; omega
        have b5 : SBox (w1.setCell ⟨w.heap.size, q, none⟩ (.int .u64 (((s q : Nat) : Int) + (y : Int)))) w.heap.size 39 (addS s b) := by
          have h1 := B3.out.set hq4 (s q + y)
          rw [HADD.out, HY.out, addS_at HQ.out HR.out, ← HY.out, ← HADD.out] at h1
          simpa using h1
        have e5 : SBox (w1.setCell ⟨w.heap.size, q, none⟩ (.int .u64 (((s q : Nat) : Int) + (y : Int)))) (w.heap.size + 1) 39 emptyS := E3.out.other (by omega) _ _
        have bel5 : Below w.heap.size w (w1.setCell ⟨w.heap.size, q, none⟩ (.int .u64 (((s q : Nat) : Int) + (y : Int)))) := BEL2.out.setCell (p := ⟨w.heap.size, q, none⟩) (Nat.le_refl _) _
        have B5 := Lib.hid bel5; clear bel5
        have c0 := b5.cell (k := 0) (by omega); have c1 := b5.cell (k := 1) (by omega); have c2 := b5.cell (k := 2) (by omega); have c3 := b5.cell (k := 3) (by omega)
        clear f0 f1 f2 f3 r0 r1 r2 r3 B3 E3
        have f0 := e5.frozen 0; have f1 := e5.frozen 1; have f2 := e5.frozen 2; have f3 := e5.frozen 3
        have r0 := e5.cell (k := 0) (by omega); have r1 := e5.cell (k := 1) (by omega); have r2 := e5.cell (k := 2) (by omega); have r3 := e5.cell (k := 3) (by omega)
        clear b5
        have E5 := Lib.hid e5; clear e5
        go_wp2
        have b4 := E5.out.set4 (addS s b)
        have g0 := b4.cell (k := 0) (by omega); have g1 := b4.cell (k := 1) (by omega); have g2 := b4.cell (k := 2) (by omega); have g3 := b4.cell (k := 3) (by omega)
        exact bodyPost_ret (v := setV (addS s b)) (by unfold setV; simp [results, Try.results45, go_sem, g0, g1, g2, g3]) rfl ⟨rfl, below_set4 B5.out (by omega) _ _ _ _⟩
end Go.Proofs.Ytkkilngihkdnaaa
