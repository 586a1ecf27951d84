/-
  The walks of the verifier's kit at []int: a list that is lent, and whether it is kept.
-/
import Derived.Test.YtkkilngihkdnaaaKit
namespace Go.Proofs.Ytkkilngihkdnaaa
open Go.RowKit Go.Shelf
attribute [local go_sem] Oper.semAt_some
set_option linter.unusedSimpArgs false

def marksInts (k : Nat) : List Value := (List.range k).map (fun i : Nat => .int .i64 (markF 1 i))
theorem marksInts_succ (k : Nat) : marksInts (k + 1) = marksInts k ++ [.int .i64 (markF 1 k)] := by simp [marksInts, List.range_succ]
theorem marksInts_len (k : Nat) : (marksInts k).length = k := by simp [marksInts]
theorem marksInts_get {k j : Nat} (h : j < k) : (marksInts k)[j]? = some (.int .i64 (markF 1 j)) := by simp [marksInts, h]
theorem info_Ints : (Try.prog.info? 3).map (fun i => (i.zero, i.size, i.bytes)) = some (some (.int .i64 0), 1, 8) := by kernel_rfl

set_option maxRecDepth 100000 in
set_option maxHeartbeats 2000000 in
theorem kit_LentInts (v : Value) (B : List Int) (w : World) (hB : B.length ≤ 4194304) (hr : Rd w w.heap.size v (i64s B)) :
    Calls Try.prog 12 #[v] w fun e w' => ∃ r, e = .returned r ∧ Lent w.heap.size w' r (i64s B) (marksInts 12) ∧ Below w.heap.size w w' := by
  obtain ⟨i0, hi, hz0, hz1, hz2⟩ := info_parts info_Ints
  have hv : ∃ pa ca, v = .slice pa B.length ca := by rcases hr.i64 with ⟨⟨q, h⟩, rfl⟩ | ⟨b, off, cap, h, _⟩ <;> exact ⟨_, _, h⟩
  obtain ⟨pa, ca, rfl⟩ := hv
  have hl : (i64s B).length = B.length := by simp [i64s]
  have h1c : ∀ c ∈ i64s B, c.oneCell' = true := by intro c hc; obtain ⟨x, _, rfl⟩ := List.mem_map.1 hc; rfl
  have HR := Lib.hid hr; clear hr
  have HL := Lib.hid hl; clear hl
  have H1 := Lib.hid h1c; clear h1c
  have hsum : IntKind.i64.wrap ((B.length : Int) + 12) = (B.length : Int) + 12 := by rw [IntKind.wrap_i64]; omega
  go_enter Try.func12, Try.ntmps12
  go_wp2_with (first
    | (at_make; refine wpList_make_own _ rfl _ _ 23 rfl w.heap.size 3 i0 (.int .i64 0) 1 Try.underlying23 hi hz0 hz1 .i64 .i64 _ (B.length + 12) rfl rfl (by omega) (by rw [hz2]; omega) (by unfold maxLen; omega) (Nat.le_refl _) ?_; intro w1 own1 grow1; have bel1 : Below w.heap.size w w1 := (Below.refl _ w).grown grow1 (Nat.le_refl _) (fun k hk => by cases hk); have hs1 := bel1.size; clear hsum; have OWN1 := Lib.hid own1; clear own1)
    | (at_builtin; refine wpList_append_rd w1 rfl _ _ 23 rfl w.heap.size 3 i0 (.int .i64 0) 8 Try.underlying23 hi hz0 hz1 hz2 rfl (.slice (some ⟨w.heap.size, 0, none⟩) 0 (B.length + 12)) 0 [] rfl OWN1.out (.slice pa B.length ca) (i64s B) rfl (HR.out.below bel1) H1.out (by rw [HL.out]; unfold maxLen; omega) (by rw [HL.out]; omega) hs1 ?_; intro v2 w2 own2 grow2 _; have bel2 : Below w.heap.size w w2 := bel1.grown grow2 hs1 (fun k hk => (OWN1.out.lt k hk).1); rw [HL.out, Nat.zero_add, List.nil_append] at own2; have O2 := Lib.hid own2; have B2 := Lib.hid bel2; clear OWN1 own2 grow1 grow2 bel1 bel2 hs1))
  go_loopw [3, 4] (fun out k wr => ∃ j : Nat, j ≤ 12 ∧ k = .int .i64 j ∧ Hid (wr.ownsRow w.heap.size 3 1 out (B.length + j) (i64s B ++ marksInts j) ∧ Below w.heap.size w wr)) (fun _ k _ => 12 - (intOf k).toNat)
  case atStart => exact ⟨0, by omega, rfl, by simpa [marksInts] using O2.out, B2.out⟩
  case round =>
    clear O2 B2
    obtain ⟨j, hj, rfl, H⟩ := hrel
    have ⟨hown, hbel⟩ := H.out
    have hsz := hbel.size
    by_cases hlt : j < 12
    · have HB := Lib.hid hbel; clear hbel
      have HM := Lib.hid (marksInts_succ j)
      have hmk := markF_range 1 j
      go_wp2_with (first
        | (go_at_call 41; refine (kit_mark 1 j wr (by omega) (by omega)).mono ?_; rintro e w' ⟨rfl, rfl⟩)
        | (at_builtin; refine wpList_append_own_at _ rfl _ _ 23 rfl w.heap.size 3 i0 (.int .i64 0) 1 8 Try.underlying23 hi hz0 hz1 hz2 rfl (by decide) _ _ _ rfl (hown.alloc _) ⟨wr.heap.size, 0, none⟩ 1 1 [.int .i64 (markF 1 j)] rfl rfl (cell_one_new _ _ _) (by simp [Value.oneCell']) (by unfold maxLen; omega) (by omega) (by simp; omega) ?_; intro v3 w3 hown3 hgrow3 _ _))
      have own3 : w3.ownsRow w.heap.size 3 1 v3 (B.length + (j + 1)) (i64s B ++ marksInts (j + 1)) := by rw [HM.out, ← List.append_assoc]; exact hown3
      have bel3 : Below w.heap.size w w3 := (HB.out.alloc hsz _).grown hgrow3 (by simp; omega) (fun k hk => (hown.lt k hk).1)
      clear hown hown3 hgrow3 H HB hmk
      have O3 := Lib.hid own3; clear own3
      have B3 := Lib.hid bel3; clear bel3
      go_roundw
      case rel => exact ⟨j + 1, by omega, by go_num, O3.out, B3.out⟩
      case measure => simp [intOf]; omega
    · obtain rfl : j = 12 := by omega
      obtain ⟨g, cap, rfl, hg0, hg1, hcap, hm, hcell⟩ := own_open hown (by omega)
      have hsl : ∀ W, (Instr.slice 23 (.slice (some ⟨g, 0, none⟩) (B.length + 12) cap) (some (.int .i64 ((0 : Nat) : Int))) (some (.int .i64 (B.length : Int))) none).run Try.prog W = .ok (.slice (some ⟨g, 0, none⟩) B.length cap) W := fun W => by
        have := run_slice_off (P := Try.prog) 23 3 Try.underlying23 (fun w => by kernel_rfl) (some ⟨g, 0, none⟩) (B.length + 12) cap 0 B.length (by omega) (by omega) W
        rw [this]
        simp [offA, Addr.add]
      have hle : ((B.length : Int) ≤ (cap : Int)) := by omega
      have hcap0 : ¬ cap = 0 := by omega
      have HC := Lib.hid hcell; clear hcell
      clear H
      unfold maxLen at hm
      have HBel := Lib.hid hbel; clear hbel
      clear hsl hown
      go_wp2
      go_ret
      refine ⟨.slice (some ⟨g, 0, none⟩) B.length cap, rfl, ⟨g, cap, by rw [HL.out], hg0, hg1, by rw [HL.out]; omega, by unfold maxLen; omega, fun j hj => ?_⟩, HBel.out⟩
      rw [HC.out j (by simp [HL.out, marksInts_len] at hj ⊢; omega), List.getElem?_eq_getElem]

set_option maxRecDepth 100000 in
set_option maxHeartbeats 4000000 in
theorem kit_KeptInts (v v2 : Value) (B : List Int) (b0 : Nat) (w : World) (hB : B.length ≤ 4194304) (hv : Lent b0 w v (i64s B) (marksInts 12)) (hr : Rd w w.heap.size v2 (i64s B)) :
    Calls Try.prog 21 #[v, v2] w fun e w' => e = .returned (.bool true) ∧ Below w.heap.size w w' := by
  have hl : (i64s B).length = B.length := by simp [i64s]
  obtain ⟨g, cap, rfl, hg0, hg1, hcap, hm, hcell⟩ := hv
  rw [hl] at hcap hcell
  rw [hl]
  have hv2 : ∃ p c, v2 = .slice p B.length c := by rcases hr.i64 with ⟨⟨q, h⟩, rfl⟩ | ⟨b, off, cap, h, _⟩ <;> exact ⟨_, _, h⟩
  obtain ⟨p2, c2, rfl⟩ := hv2
  have hc1 : ∀ j, (hj : j < B.length) → w.cell? ⟨g, j, none⟩ = some (.int .i64 B[j]) := fun j hj => by
    rw [hcell j (by omega), List.getElem?_append_left (by omega)]; simp [i64s, hj]
  have hc2 : ∀ j, j < 12 → w.cell? ⟨g, B.length + j, none⟩ = some (.int .i64 (markF 1 j)) := fun j hj => by
    rw [hcell (B.length + j) (by omega), List.getElem?_append_right (by omega), hl, show B.length + j - B.length = j from by omega, marksInts_get hj]
  have HC1 := Lib.hid hc1; clear hc1
  have HC2 := Lib.hid hc2; clear hc2
  have HR := Lib.hid hr; clear hr
  clear hcell hl
  unfold maxLen at hm
  have hcap0 : ¬ cap = 0 := by omega
  have hbb : ((B.length : Int) != (B.length : Int)) = false := by simp
  have hsum : IntKind.i64.wrap ((B.length : Int) + 12) = (B.length : Int) + 12 := by rw [IntKind.wrap_i64]; omega
  have hle : ((B.length : Int) + 12 ≤ (cap : Int)) := by omega
  go_enter Try.func21, Try.ntmps21
  go_wp2_with fail
  go_loopw [6] (fun i wr => ∃ j : Nat, j ≤ B.length + 12 ∧ i = .int .i64 j ∧ Hid (Below w.heap.size w wr)) (fun i _ => B.length + 12 - (intOf i).toNat)
  case atStart => exact ⟨0, by omega, rfl, Below.refl _ _⟩
  case round =>
    obtain ⟨j, hj, rfl, H⟩ := hrel
    by_cases hlt : j < B.length + 12
    · by_cases hin : j < B.length
      · obtain ⟨b2, off2, rfl, hb2, hcell2⟩ : ∃ b2 off2, p2 = some ⟨b2, off2, none⟩ ∧ b2 < w.heap.size ∧ ∀ i, (hi : i < B.length) → w.cell? ⟨b2, off2 + i, none⟩ = some (.int .i64 B[i]) := by
          rcases HR.out.i64 with ⟨⟨q, h⟩, h'⟩ | ⟨b, off, cap, h, h1, _, _, h4⟩
          · subst h'; simp at hin
          · injection h with h2 _ _; exact ⟨b, off, h2, h1, h4⟩
        have k1 := HC1.out j hin
        have k2 := hcell2 j hin
        clear hcell2
        generalize B[j] = x at k1 k2
        have K1 := Lib.hid k1; clear k1
        have K2 := Lib.hid k2; clear k2
        go_upto_region 7 with fail
        refine wp_region_spec 35 [fun v _ => v = .int .i64 (j : Int), fun v _ => v = .slice (some ⟨b2, off2, none⟩) B.length c2, fun v _ => v = .int .i64 ((B.length : Nat) : Int), fun v _ => v = .bool true, fun v _ => v = .bool true, fun v _ => v = .slice (some ⟨g, 0, none⟩) (B.length + 12) cap, fun v _ => v = .int .i64 (j : Int), fun v _ => v = .pointer (some ⟨g, j, none⟩), fun v _ => v = .int .i64 x, fun v _ => v = .slice (some ⟨b2, off2, none⟩) B.length c2, fun v _ => v = .int .i64 (j : Int), fun v _ => v = .pointer (some ⟨b2, off2 + j, none⟩), fun v _ => v = .int .i64 x, fun v _ => v = .bool true, fun v _ => v = .bool false, fun v _ => v = .bool false, fun v _ => v = .bool false, fun v _ => v = .int .i64 (j : Int), fun v _ => v = .slice (some ⟨b2, off2, none⟩) B.length c2, fun v _ => v = .int .i64 ((B.length : Nat) : Int), fun v _ => v = .bool false, fun v _ => v = .bool false, fun v _ => v = undef, fun v _ => v = undef, fun v _ => v = undef, fun v _ => v = undef, fun v _ => v = undef, fun v _ => v = undef, fun v _ => v = undef, fun v _ => v = undef, fun v _ => v = undef, fun v _ => v = undef, fun v _ => v = undef, fun v _ => v = Value.bool false, fun v _ => v = Value.bool false] (fun _ => false) (by kernel_rfl) (by kernel_rfl) (by kernel_rfl) ⟨stable_eq _, stable_eq _, stable_eq _, stable_eq _, stable_eq _, stable_eq _, stable_eq _, stable_eq _, stable_eq _, stable_eq _, stable_eq _, stable_eq _, stable_eq _, stable_eq _, stable_eq _, stable_eq _, stable_eq _, stable_eq _, stable_eq _, stable_eq _, stable_eq _, stable_eq _, stable_eq _, stable_eq _, stable_eq _, stable_eq _, stable_eq _, stable_eq _, stable_eq _, stable_eq _, stable_eq _, stable_eq _, stable_eq _, stable_eq _, stable_eq _, trivial⟩ (fun _ _ h => by cases h) ?ob ?en
        case ob =>
          refine ⟨?_, ?_, ?_, ?_, ?_, ?_, ?_, ?_, ?_, ?_, ?_, ?_, ?_, ?_, ?_, ?_, ?_, ?_, ?_, ?_, ?_, ?_, ?_, ?_, ?_, ?_, ?_, ?_, ?_, ?_, ?_, ?_, ?_, ?_, ?_, trivial⟩ <;> intro A W h
          · exact rs_move rfl rfl (h.frame 6 rfl) (by decide)
          · exact rs_move rfl rfl (h.frame 1 rfl) (by decide)
          · exact rs_len Try.underlying23 rfl rfl (h.dep 1 24 rfl rfl) (by decide)
          · (have e23 : A.eval (.tmp 23) = .int .i64 (j : Int) := h.dep 0 23 rfl rfl; have e25 : A.eval (.tmp 25) = .int .i64 ((B.length : Nat) : Int) := h.dep 2 25 rfl rfl; refine rs_pure rfl ?_ (by decide); simp only [execOp, e23, e25]; (simp [go_sem] <;> first | done | omega | (rw [IntKind.wrap_i64]; omega) | (rw [IntKind.wrap_u8]; omega) | (rw [IntKind.wrap_u64]; omega)))
          · exact rs_move rfl rfl (h.dep 3 26 rfl rfl) (by decide)
          · exact rs_move (wanted_g rfl (yielded_of (d := 27) rfl (h.dep 4 27 rfl rfl))) rfl (h.frame 5 rfl) (by decide)
          · exact rs_move (wanted_g rfl (yielded_of (d := 27) rfl (h.dep 4 27 rfl rfl))) rfl (h.frame 6 rfl) (by decide)
          · exact rs_idx (sz := 1) Try.underlying23 (fun w => by kernel_rfl) (wanted_g rfl (yielded_of (d := 27) rfl (h.dep 4 27 rfl rfl))) rfl (h.dep 5 28 rfl rfl) (h.dep 6 29 rfl rfl) (by omega) (by omega) (by decide)
          · (have e30 : A.eval (.tmp 30) = .pointer (some ⟨g, j, none⟩) := h.dep 7 30 rfl rfl; refine rs_pure (wanted_g rfl (yielded_of (d := 27) rfl (h.dep 4 27 rfl rfl))) ?_ (by decide); simp only [execOp, e30]; (have q := ((H.out.trans (h.below.mono H.out.size)).cell (p := ⟨g, j, none⟩) hg1).trans K1.out; simp [go_sem, q]))
          · exact rs_move (wanted_g rfl (yielded_of (d := 27) rfl (h.dep 4 27 rfl rfl))) rfl (h.frame 1 rfl) (by decide)
          · exact rs_move (wanted_g rfl (yielded_of (d := 27) rfl (h.dep 4 27 rfl rfl))) rfl (h.frame 6 rfl) (by decide)
          · exact rs_idx (sz := 1) Try.underlying23 (fun w => by kernel_rfl) (wanted_g rfl (yielded_of (d := 27) rfl (h.dep 4 27 rfl rfl))) rfl (h.dep 9 32 rfl rfl) (h.dep 10 33 rfl rfl) (by omega) (by omega) (by decide)
          · (have e34 : A.eval (.tmp 34) = .pointer (some ⟨b2, off2 + j, none⟩) := h.dep 11 34 rfl rfl; refine rs_pure (wanted_g rfl (yielded_of (d := 27) rfl (h.dep 4 27 rfl rfl))) ?_ (by decide); simp only [execOp, e34]; (have q := ((H.out.trans (h.below.mono H.out.size)).cell (p := ⟨b2, off2 + j, none⟩) hb2).trans K2.out; simp [go_sem, q]))
          · (have e31 : A.eval (.tmp 31) = .int .i64 x := h.dep 8 31 rfl rfl; have e35 : A.eval (.tmp 35) = .int .i64 x := h.dep 12 35 rfl rfl; refine rs_pure (wanted_g rfl (yielded_of (d := 27) rfl (h.dep 4 27 rfl rfl))) ?_ (by decide); simp only [execOp, e31, e35]; (simp [go_sem] <;> first | done | omega | (rw [IntKind.wrap_i64]; omega) | (rw [IntKind.wrap_u8]; omega) | (rw [IntKind.wrap_u64]; omega)))
          · (have e36 : A.eval (.tmp 36) = .bool true := h.dep 13 36 rfl rfl; refine rs_pure (wanted_g rfl (yielded_of (d := 27) rfl (h.dep 4 27 rfl rfl))) ?_ (by decide); simp only [execOp, e36]; (simp [go_sem] <;> first | done | omega | (rw [IntKind.wrap_i64]; omega) | (rw [IntKind.wrap_u8]; omega) | (rw [IntKind.wrap_u64]; omega)))
          · exact rs_pick rfl rfl (h.dep 4 27 rfl rfl) (h.dep 14 37 rfl rfl) (by decide)
          · exact rs_move rfl rfl (h.dep 15 38 rfl rfl) (by decide)
          · exact rs_move (wanted_g rfl (yielded_of (d := 39) rfl (h.dep 16 39 rfl rfl))) rfl (h.frame 6 rfl) (by decide)
          · exact rs_move (wanted_g rfl (yielded_of (d := 39) rfl (h.dep 16 39 rfl rfl))) rfl (h.frame 1 rfl) (by decide)
          · exact rs_len Try.underlying23 (wanted_g rfl (yielded_of (d := 39) rfl (h.dep 16 39 rfl rfl))) rfl (h.dep 18 41 rfl rfl) (by decide)
          · (have e40 : A.eval (.tmp 40) = .int .i64 (j : Int) := h.dep 17 40 rfl rfl; have e42 : A.eval (.tmp 42) = .int .i64 ((B.length : Nat) : Int) := h.dep 19 42 rfl rfl; refine rs_pure (wanted_g rfl (yielded_of (d := 39) rfl (h.dep 16 39 rfl rfl))) ?_ (by decide); simp only [execOp, e40, e42]; (simp [go_sem] <;> first | done | omega | (rw [IntKind.wrap_i64]; omega) | (rw [IntKind.wrap_u8]; omega) | (rw [IntKind.wrap_u64]; omega)))
          · exact rs_move (wanted_g rfl (yielded_of (d := 39) rfl (h.dep 16 39 rfl rfl))) rfl (h.dep 20 43 rfl rfl) (by decide)
          · exact rs_skip (not_wanted_g rfl (yielded_of (d := 44) rfl (h.dep 21 44 rfl rfl)) (by decide)) ⟨rfl, fun h => by cases h⟩
          · exact rs_skip (not_wanted_g rfl (yielded_of (d := 44) rfl (h.dep 21 44 rfl rfl)) (by decide)) ⟨rfl, fun h => by cases h⟩
          · exact rs_skip (not_wanted_g rfl (yielded_of (d := 44) rfl (h.dep 21 44 rfl rfl)) (by decide)) ⟨rfl, fun h => by cases h⟩
          · exact rs_skip (not_wanted_g rfl (yielded_of (d := 44) rfl (h.dep 21 44 rfl rfl)) (by decide)) ⟨rfl, fun h => by cases h⟩
          · exact rs_skip (not_wanted_g rfl (yielded_of (d := 44) rfl (h.dep 21 44 rfl rfl)) (by decide)) ⟨rfl, fun h => by cases h⟩
          · exact rs_skip (not_wanted_g rfl (yielded_of (d := 44) rfl (h.dep 21 44 rfl rfl)) (by decide)) ⟨rfl, fun h => by cases h⟩
          · exact rs_skip (not_wanted_g rfl (yielded_of (d := 44) rfl (h.dep 21 44 rfl rfl)) (by decide)) ⟨rfl, fun h => by cases h⟩
          · exact rs_skip (not_wanted_g rfl (yielded_of (d := 44) rfl (h.dep 21 44 rfl rfl)) (by decide)) ⟨rfl, fun h => by cases h⟩
          · exact rs_skip (not_wanted_g rfl (yielded_of (d := 44) rfl (h.dep 21 44 rfl rfl)) (by decide)) ⟨rfl, fun h => by cases h⟩
          · exact rs_skip (not_wanted_g rfl (yielded_of (d := 44) rfl (h.dep 21 44 rfl rfl)) (by decide)) ⟨rfl, fun h => by cases h⟩
          · exact rs_skip (not_wanted_g rfl (yielded_of (d := 44) rfl (h.dep 21 44 rfl rfl)) (by decide)) ⟨rfl, fun h => by cases h⟩
          · exact rs_pick (wanted_g rfl (yielded_of (d := 39) rfl (h.dep 16 39 rfl rfl))) rfl (h.dep 21 44 rfl rfl) (rfl) (by decide)
          · exact rs_pick rfl rfl (h.dep 16 39 rfl rfl) (h.dep 33 56 rfl rfl) (by decide)
        case en =>
          intro vals W hbw hv _
          have v0 : vals 0 = .int .i64 (j : Int) := hv 0 (by omega)
          have v1 : vals 1 = .slice (some ⟨b2, off2, none⟩) B.length c2 := hv 1 (by omega)
          have v2 : vals 2 = .int .i64 ((B.length : Nat) : Int) := hv 2 (by omega)
          have v3 : vals 3 = .bool true := hv 3 (by omega)
          have v4 : vals 4 = .bool true := hv 4 (by omega)
          have v5 : vals 5 = .slice (some ⟨g, 0, none⟩) (B.length + 12) cap := hv 5 (by omega)
          have v6 : vals 6 = .int .i64 (j : Int) := hv 6 (by omega)
          have v7 : vals 7 = .pointer (some ⟨g, j, none⟩) := hv 7 (by omega)
          have v8 : vals 8 = .int .i64 x := hv 8 (by omega)
          have v9 : vals 9 = .slice (some ⟨b2, off2, none⟩) B.length c2 := hv 9 (by omega)
          have v10 : vals 10 = .int .i64 (j : Int) := hv 10 (by omega)
          have v11 : vals 11 = .pointer (some ⟨b2, off2 + j, none⟩) := hv 11 (by omega)
          have v12 : vals 12 = .int .i64 x := hv 12 (by omega)
          have v13 : vals 13 = .bool true := hv 13 (by omega)
          have v14 : vals 14 = .bool false := hv 14 (by omega)
          have v15 : vals 15 = .bool false := hv 15 (by omega)
          have v16 : vals 16 = .bool false := hv 16 (by omega)
          have v17 : vals 17 = .int .i64 (j : Int) := hv 17 (by omega)
          have v18 : vals 18 = .slice (some ⟨b2, off2, none⟩) B.length c2 := hv 18 (by omega)
          have v19 : vals 19 = .int .i64 ((B.length : Nat) : Int) := hv 19 (by omega)
          have v20 : vals 20 = .bool false := hv 20 (by omega)
          have v21 : vals 21 = .bool false := hv 21 (by omega)
          have v22 : vals 22 = undef := hv 22 (by omega)
          have v23 : vals 23 = undef := hv 23 (by omega)
          have v24 : vals 24 = undef := hv 24 (by omega)
          have v25 : vals 25 = undef := hv 25 (by omega)
          have v26 : vals 26 = undef := hv 26 (by omega)
          have v27 : vals 27 = undef := hv 27 (by omega)
          have v28 : vals 28 = undef := hv 28 (by omega)
          have v29 : vals 29 = undef := hv 29 (by omega)
          have v30 : vals 30 = undef := hv 30 (by omega)
          have v31 : vals 31 = undef := hv 31 (by omega)
          have v32 : vals 32 = undef := hv 32 (by omega)
          have v33 : vals 33 = Value.bool false := hv 33 (by omega)
          have v34 : vals 34 = Value.bool false := hv 34 (by omega)
          simp only [List.take_succ_cons, List.take_zero, List.drop_succ_cons, List.drop_zero, List.drop_nil, List.take_nil, fillAll, Nat.zero_add, Nat.reduceAdd]
          rw [v0, v1, v2, v3, v4, v5, v6, v7, v8, v9, v10, v11, v12, v13, v14, v15, v16, v17, v18, v19, v20, v21, v22, v23, v24, v25, v26, v27, v28, v29, v30, v31, v32, v33, v34]
          clear hv v0 v1 v2 v3 v4 v5 v6 v7 v8 v9 v10 v11 v12 v13 v14 v15 v16 v17 v18 v19 v20 v21 v22 v23 v24 v25 v26 v27 v28 v29 v30 v31 v32 v33 v34
          simp only [put_lit, List.setIfInBounds_toArray, List.set_cons_succ, List.set_cons_zero]
          have BZ := Lib.hid (H.out.trans (hbw.mono H.out.size)); clear hbw H
          go_wp2_with fail
          go_roundw
          case rel => exact ⟨j + 1, by omega, by go_num, BZ.out⟩
          case measure => simp [intOf]; omega
      · have k1 := HC2.out (j - B.length) (by omega)
        rw [show B.length + (j - B.length) = j from by omega] at k1
        have K1 := Lib.hid k1; clear k1
        go_upto_region 7 with fail
        refine wp_region_spec 35 [fun v _ => v = .int .i64 (j : Int), fun v _ => v = .slice p2 B.length c2, fun v _ => v = .int .i64 ((B.length : Nat) : Int), fun v _ => v = .bool false, fun v _ => v = .bool false, fun v _ => v = undef, fun v _ => v = undef, fun v _ => v = undef, fun v _ => v = undef, fun v _ => v = undef, fun v _ => v = undef, fun v _ => v = undef, fun v _ => v = undef, fun v _ => v = undef, fun v _ => v = undef, fun v _ => v = Value.bool false, fun v _ => v = Value.bool false, fun v _ => v = .int .i64 (j : Int), fun v _ => v = .slice p2 B.length c2, fun v _ => v = .int .i64 ((B.length : Nat) : Int), fun v _ => v = .bool true, fun v _ => v = .bool true, fun v _ => v = .slice (some ⟨g, 0, none⟩) (B.length + 12) cap, fun v _ => v = .int .i64 (j : Int), fun v _ => v = .pointer (some ⟨g, j, none⟩), fun v _ => v = .int .i64 (markF 1 ((j - B.length : Nat) : Int)), fun v _ => v = .int .i64 (j : Int), fun v _ => v = .slice p2 B.length c2, fun v _ => v = .int .i64 ((B.length : Nat) : Int), fun v _ => v = .int .i64 ((j - B.length : Nat) : Int), fun v _ => v = .int .i64 (markF 1 ((j - B.length : Nat) : Int)), fun v _ => v = .bool true, fun v _ => v = .bool false, fun v _ => v = .bool false, fun v _ => v = .bool false] (fun _ => false) (by kernel_rfl) (by kernel_rfl) (by kernel_rfl) ⟨stable_eq _, stable_eq _, stable_eq _, stable_eq _, stable_eq _, stable_eq _, stable_eq _, stable_eq _, stable_eq _, stable_eq _, stable_eq _, stable_eq _, stable_eq _, stable_eq _, stable_eq _, stable_eq _, stable_eq _, stable_eq _, stable_eq _, stable_eq _, stable_eq _, stable_eq _, stable_eq _, stable_eq _, stable_eq _, stable_eq _, stable_eq _, stable_eq _, stable_eq _, stable_eq _, stable_eq _, stable_eq _, stable_eq _, stable_eq _, stable_eq _, trivial⟩ (fun _ _ h => by cases h) ?ob ?en
        case ob =>
          refine ⟨?_, ?_, ?_, ?_, ?_, ?_, ?_, ?_, ?_, ?_, ?_, ?_, ?_, ?_, ?_, ?_, ?_, ?_, ?_, ?_, ?_, ?_, ?_, ?_, ?_, ?_, ?_, ?_, ?_, ?_, ?_, ?_, ?_, ?_, ?_, trivial⟩ <;> intro A W h
          · exact rs_move rfl rfl (h.frame 6 rfl) (by decide)
          · exact rs_move rfl rfl (h.frame 1 rfl) (by decide)
          · exact rs_len Try.underlying23 rfl rfl (h.dep 1 24 rfl rfl) (by decide)
          · (have e23 : A.eval (.tmp 23) = .int .i64 (j : Int) := h.dep 0 23 rfl rfl; have e25 : A.eval (.tmp 25) = .int .i64 ((B.length : Nat) : Int) := h.dep 2 25 rfl rfl; refine rs_pure rfl ?_ (by decide); simp only [execOp, e23, e25]; (simp [go_sem] <;> first | done | omega | (rw [IntKind.wrap_i64]; omega) | (rw [IntKind.wrap_u8]; omega) | (rw [IntKind.wrap_u64]; omega)))
          · exact rs_move rfl rfl (h.dep 3 26 rfl rfl) (by decide)
          · exact rs_skip (not_wanted_g rfl (yielded_of (d := 27) rfl (h.dep 4 27 rfl rfl)) (by decide)) ⟨rfl, fun h => by cases h⟩
          · exact rs_skip (not_wanted_g rfl (yielded_of (d := 27) rfl (h.dep 4 27 rfl rfl)) (by decide)) ⟨rfl, fun h => by cases h⟩
          · exact rs_skip (not_wanted_g rfl (yielded_of (d := 27) rfl (h.dep 4 27 rfl rfl)) (by decide)) ⟨rfl, fun h => by cases h⟩
          · exact rs_skip (not_wanted_g rfl (yielded_of (d := 27) rfl (h.dep 4 27 rfl rfl)) (by decide)) ⟨rfl, fun h => by cases h⟩
          · exact rs_skip (not_wanted_g rfl (yielded_of (d := 27) rfl (h.dep 4 27 rfl rfl)) (by decide)) ⟨rfl, fun h => by cases h⟩
          · exact rs_skip (not_wanted_g rfl (yielded_of (d := 27) rfl (h.dep 4 27 rfl rfl)) (by decide)) ⟨rfl, fun h => by cases h⟩
          · exact rs_skip (not_wanted_g rfl (yielded_of (d := 27) rfl (h.dep 4 27 rfl rfl)) (by decide)) ⟨rfl, fun h => by cases h⟩
          · exact rs_skip (not_wanted_g rfl (yielded_of (d := 27) rfl (h.dep 4 27 rfl rfl)) (by decide)) ⟨rfl, fun h => by cases h⟩
          · exact rs_skip (not_wanted_g rfl (yielded_of (d := 27) rfl (h.dep 4 27 rfl rfl)) (by decide)) ⟨rfl, fun h => by cases h⟩
          · exact rs_skip (not_wanted_g rfl (yielded_of (d := 27) rfl (h.dep 4 27 rfl rfl)) (by decide)) ⟨rfl, fun h => by cases h⟩
          · exact rs_pick rfl rfl (h.dep 4 27 rfl rfl) (rfl) (by decide)
          · exact rs_move rfl rfl (h.dep 15 38 rfl rfl) (by decide)
          · exact rs_move (wanted_g rfl (yielded_of (d := 39) rfl (h.dep 16 39 rfl rfl))) rfl (h.frame 6 rfl) (by decide)
          · exact rs_move (wanted_g rfl (yielded_of (d := 39) rfl (h.dep 16 39 rfl rfl))) rfl (h.frame 1 rfl) (by decide)
          · exact rs_len Try.underlying23 (wanted_g rfl (yielded_of (d := 39) rfl (h.dep 16 39 rfl rfl))) rfl (h.dep 18 41 rfl rfl) (by decide)
          · (have e40 : A.eval (.tmp 40) = .int .i64 (j : Int) := h.dep 17 40 rfl rfl; have e42 : A.eval (.tmp 42) = .int .i64 ((B.length : Nat) : Int) := h.dep 19 42 rfl rfl; refine rs_pure (wanted_g rfl (yielded_of (d := 39) rfl (h.dep 16 39 rfl rfl))) ?_ (by decide); simp only [execOp, e40, e42]; (simp [go_sem] <;> first | done | omega | (rw [IntKind.wrap_i64]; omega) | (rw [IntKind.wrap_u8]; omega) | (rw [IntKind.wrap_u64]; omega)))
          · exact rs_move (wanted_g rfl (yielded_of (d := 39) rfl (h.dep 16 39 rfl rfl))) rfl (h.dep 20 43 rfl rfl) (by decide)
          · exact rs_move (wanted_g rfl (yielded_of (d := 44) rfl (h.dep 21 44 rfl rfl))) rfl (h.frame 5 rfl) (by decide)
          · exact rs_move (wanted_g rfl (yielded_of (d := 44) rfl (h.dep 21 44 rfl rfl))) rfl (h.frame 6 rfl) (by decide)
          · exact rs_idx (sz := 1) Try.underlying23 (fun w => by kernel_rfl) (wanted_g rfl (yielded_of (d := 44) rfl (h.dep 21 44 rfl rfl))) rfl (h.dep 22 45 rfl rfl) (h.dep 23 46 rfl rfl) (by omega) (by omega) (by decide)
          · (have e47 : A.eval (.tmp 47) = .pointer (some ⟨g, j, none⟩) := h.dep 24 47 rfl rfl; refine rs_pure (wanted_g rfl (yielded_of (d := 44) rfl (h.dep 21 44 rfl rfl))) ?_ (by decide); simp only [execOp, e47]; (have q := ((H.out.trans (h.below.mono H.out.size)).cell (p := ⟨g, j, none⟩) hg1).trans K1.out; simp [go_sem, q]))
          · exact rs_move (wanted_g rfl (yielded_of (d := 44) rfl (h.dep 21 44 rfl rfl))) rfl (h.frame 6 rfl) (by decide)
          · exact rs_move (wanted_g rfl (yielded_of (d := 44) rfl (h.dep 21 44 rfl rfl))) rfl (h.frame 1 rfl) (by decide)
          · exact rs_len Try.underlying23 (wanted_g rfl (yielded_of (d := 44) rfl (h.dep 21 44 rfl rfl))) rfl (h.dep 27 50 rfl rfl) (by decide)
          · (have e49 : A.eval (.tmp 49) = .int .i64 (j : Int) := h.dep 26 49 rfl rfl; have e51 : A.eval (.tmp 51) = .int .i64 ((B.length : Nat) : Int) := h.dep 28 51 rfl rfl; refine rs_pure (wanted_g rfl (yielded_of (d := 44) rfl (h.dep 21 44 rfl rfl))) ?_ (by decide); simp only [execOp, e49, e51]; (simp [go_sem] <;> first | done | omega | (rw [IntKind.wrap_i64]; omega) | (rw [IntKind.wrap_u8]; omega) | (rw [IntKind.wrap_u64]; omega)))
          · exact rs_calln (wanted_g rfl (yielded_of (d := 44) rfl (h.dep 21 44 rfl rfl))) rfl (enters_of Try.func41 (by kernel_rfl) rfl) (args2 ⟨rfl, (h.dep 29 52 rfl rfl)⟩) ((kit_mark 1 _ W (by omega) (by omega)).mono fun _ _ h => ⟨h.1, h.2 ▸ Below.refl _ _⟩) (by decide)
          · (have e48 : A.eval (.tmp 48) = .int .i64 (markF 1 ((j - B.length : Nat) : Int)) := h.dep 25 48 rfl rfl; have e53 : A.eval (.tmp 53) = .int .i64 (markF 1 ((j - B.length : Nat) : Int)) := h.dep 30 53 rfl rfl; refine rs_pure (wanted_g rfl (yielded_of (d := 44) rfl (h.dep 21 44 rfl rfl))) ?_ (by decide); simp only [execOp, e48, e53]; (simp [go_sem] <;> first | done | omega | (rw [IntKind.wrap_i64]; omega) | (rw [IntKind.wrap_u8]; omega) | (rw [IntKind.wrap_u64]; omega)))
          · (have e54 : A.eval (.tmp 54) = .bool true := h.dep 31 54 rfl rfl; refine rs_pure (wanted_g rfl (yielded_of (d := 44) rfl (h.dep 21 44 rfl rfl))) ?_ (by decide); simp only [execOp, e54]; (simp [go_sem] <;> first | done | omega | (rw [IntKind.wrap_i64]; omega) | (rw [IntKind.wrap_u8]; omega) | (rw [IntKind.wrap_u64]; omega)))
          · exact rs_pick (wanted_g rfl (yielded_of (d := 39) rfl (h.dep 16 39 rfl rfl))) rfl (h.dep 21 44 rfl rfl) (h.dep 32 55 rfl rfl) (by decide)
          · exact rs_pick rfl rfl (h.dep 16 39 rfl rfl) (h.dep 33 56 rfl rfl) (by decide)
        case en =>
          intro vals W hbw hv _
          have v0 : vals 0 = .int .i64 (j : Int) := hv 0 (by omega)
          have v1 : vals 1 = .slice p2 B.length c2 := hv 1 (by omega)
          have v2 : vals 2 = .int .i64 ((B.length : Nat) : Int) := hv 2 (by omega)
          have v3 : vals 3 = .bool false := hv 3 (by omega)
          have v4 : vals 4 = .bool false := hv 4 (by omega)
          have v5 : vals 5 = undef := hv 5 (by omega)
          have v6 : vals 6 = undef := hv 6 (by omega)
          have v7 : vals 7 = undef := hv 7 (by omega)
          have v8 : vals 8 = undef := hv 8 (by omega)
          have v9 : vals 9 = undef := hv 9 (by omega)
          have v10 : vals 10 = undef := hv 10 (by omega)
          have v11 : vals 11 = undef := hv 11 (by omega)
          have v12 : vals 12 = undef := hv 12 (by omega)
          have v13 : vals 13 = undef := hv 13 (by omega)
          have v14 : vals 14 = undef := hv 14 (by omega)
          have v15 : vals 15 = Value.bool false := hv 15 (by omega)
          have v16 : vals 16 = Value.bool false := hv 16 (by omega)
          have v17 : vals 17 = .int .i64 (j : Int) := hv 17 (by omega)
          have v18 : vals 18 = .slice p2 B.length c2 := hv 18 (by omega)
          have v19 : vals 19 = .int .i64 ((B.length : Nat) : Int) := hv 19 (by omega)
          have v20 : vals 20 = .bool true := hv 20 (by omega)
          have v21 : vals 21 = .bool true := hv 21 (by omega)
          have v22 : vals 22 = .slice (some ⟨g, 0, none⟩) (B.length + 12) cap := hv 22 (by omega)
          have v23 : vals 23 = .int .i64 (j : Int) := hv 23 (by omega)
          have v24 : vals 24 = .pointer (some ⟨g, j, none⟩) := hv 24 (by omega)
          have v25 : vals 25 = .int .i64 (markF 1 ((j - B.length : Nat) : Int)) := hv 25 (by omega)
          have v26 : vals 26 = .int .i64 (j : Int) := hv 26 (by omega)
          have v27 : vals 27 = .slice p2 B.length c2 := hv 27 (by omega)
          have v28 : vals 28 = .int .i64 ((B.length : Nat) : Int) := hv 28 (by omega)
          have v29 : vals 29 = .int .i64 ((j - B.length : Nat) : Int) := hv 29 (by omega)
          have v30 : vals 30 = .int .i64 (markF 1 ((j - B.length : Nat) : Int)) := hv 30 (by omega)
          have v31 : vals 31 = .bool true := hv 31 (by omega)
          have v32 : vals 32 = .bool false := hv 32 (by omega)
          have v33 : vals 33 = .bool false := hv 33 (by omega)
          have v34 : vals 34 = .bool false := hv 34 (by omega)
          simp only [List.take_succ_cons, List.take_zero, List.drop_succ_cons, List.drop_zero, List.drop_nil, List.take_nil, fillAll, Nat.zero_add, Nat.reduceAdd]
          rw [v0, v1, v2, v3, v4, v5, v6, v7, v8, v9, v10, v11, v12, v13, v14, v15, v16, v17, v18, v19, v20, v21, v22, v23, v24, v25, v26, v27, v28, v29, v30, v31, v32, v33, v34]
          clear hv v0 v1 v2 v3 v4 v5 v6 v7 v8 v9 v10 v11 v12 v13 v14 v15 v16 v17 v18 v19 v20 v21 v22 v23 v24 v25 v26 v27 v28 v29 v30 v31 v32 v33 v34
          simp only [put_lit, List.setIfInBounds_toArray, List.set_cons_succ, List.set_cons_zero]
          have BZ := Lib.hid (H.out.trans (hbw.mono H.out.size)); clear hbw H
          go_wp2_with fail
          go_roundw
          case rel => exact ⟨j + 1, by omega, by go_num, BZ.out⟩
          case measure => simp [intOf]; omega
    · obtain rfl : j = B.length + 12 := by omega
      go_wp2
      go_ret
      exact ⟨rfl, H.out⟩

end Go.Proofs.Ytkkilngihkdnaaa
