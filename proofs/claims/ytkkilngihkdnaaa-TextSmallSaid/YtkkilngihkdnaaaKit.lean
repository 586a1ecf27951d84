/-
  The walks of the verifier's kit: lists that are lent, kept, compared.
-/
import Derived.Test.YtkkilngihkdnaaaText
import Derived.Test.YtkkilngihkdnaaaRegion2
import Derived.Deep.CutRange
namespace Go.Proofs.Ytkkilngihkdnaaa
open Go.RowKit Go.Shelf
attribute [local go_sem] Oper.semAt_some
set_option linter.unusedSimpArgs false

def markF (k i : Int) : Int := 1000003 * (k + 7) + i
def markB (k i : Int) : Int := ((markF k i).toNat * 11400714819323198485 % 2 ^ 64 / 2 ^ 56 : Nat)
theorem markB_range (k i : Int) : 0 ≤ markB k i ∧ markB k i ≤ 255 := by
  unfold markB
  have : ((markF k i).toNat * 11400714819323198485 % 2 ^ 64) < 2 ^ 64 := Nat.mod_lt _ (by decide)
  omega

theorem kit_mark (k i : Int) (w : World) (hk : 0 ≤ k ∧ k ≤ 1000000) (hi : 0 ≤ i ∧ i ≤ 1000000000000) : Calls Try.prog 41 #[.int .i64 k, .int .i64 i] w fun e w' => e = .returned (.int .i64 (markF k i)) ∧ w = w' := by
  obtain ⟨hk1, hk2⟩ := hk
  obtain ⟨hi1, hi2⟩ := hi
  go_enter Try.func41, Try.ntmps41
  go_wp2
  go_ret
  refine ⟨?_, rfl⟩
  unfold markF
  rfl

set_option maxHeartbeats 1000000 in
theorem kit_markByte (k i : Int) (w : World) (hk : 0 ≤ k ∧ k ≤ 1000000) (hi : 0 ≤ i ∧ i ≤ 1000000000000) : Calls Try.prog 40 #[.int .i64 k, .int .i64 i] w fun e w' => e = .returned (.int .u8 (markB k i)) ∧ w = w' := by
  have hm : 0 ≤ markF k i ∧ markF k i ≤ 3000000000000 := by unfold markF; omega
  have hB : markB k i = ((markF k i).toNat * 11400714819323198485 % 2 ^ 64 / 2 ^ 56 : Nat) := rfl
  have HB := Lib.hid hB; clear hB
  have HK := Lib.hid hk; clear hk
  have HI := Lib.hid hi; clear hi
  go_enter Try.func40, Try.ntmps40
  go_wp2_with fail
  refine (kit_mark _ _ _ HK.out HI.out).mono ?_
  rintro e w' ⟨rfl, rfl⟩
  generalize markF k i = m at hm HB
  obtain ⟨m, rfl⟩ : ∃ n : Nat, m = n := ⟨m.toNat, by omega⟩
  go_wp2_with fail
  go_ret
  refine ⟨?_, rfl⟩
  rw [HB.out]
  congr 2
  rw [IntKind.wrap_u64]
  simp
  omega

theorem markF_range (k i : Nat) : 0 ≤ markF k i := by unfold markF; omega

/-- A list that was lent: a block of its own, with what stands behind its end. -/
def Lent (b0 : Nat) (w : World) (v : Value) (cs extra : List Value) : Prop :=
  ∃ g cap, v = .slice (some ⟨g, 0, none⟩) cs.length cap ∧ b0 ≤ g ∧ g < w.heap.size ∧ cs.length + 12 ≤ cap ∧ cap ≤ maxLen ∧ ∀ j, j < cs.length + 12 → w.cell? ⟨g, j, none⟩ = (cs ++ extra)[j]?
theorem Lent.below {b0 : Nat} {w w' : World} {v : Value} {cs extra : List Value} (h : Lent b0 w v cs extra) (hb : Below w.heap.size w w') : Lent b0 w' v cs extra := by
  obtain ⟨g, cap, e, h0, h1, h2, h3, h4⟩ := h
  exact ⟨g, cap, e, h0, by have := hb.size; omega, h2, h3, fun j hj => (hb.cell (p := ⟨g, j, none⟩) h1).trans (h4 j hj)⟩
theorem Lent.rd {b0 : Nat} {w : World} {v : Value} {cs extra : List Value} (h : Lent b0 w v cs extra) : Rd w w.heap.size v cs := by
  obtain ⟨g, cap, e, h0, h1, h2, h3, h4⟩ := h
  refine .inr ⟨g, 0, cap, e, h1, by omega, h3, fun j hj => ?_⟩
  rw [Nat.zero_add, h4 j (by omega), List.getElem?_append_left hj, List.getElem?_eq_getElem hj]

end Go.Proofs.Ytkkilngihkdnaaa
