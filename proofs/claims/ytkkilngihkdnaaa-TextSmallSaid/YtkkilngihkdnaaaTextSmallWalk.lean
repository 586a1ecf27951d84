/-
  TextSmall: the walk.
-/
import Derived.Test.YtkkilngihkdnaaaTextTellsWalk
import Derived.Test.YtkkilngihkdnaaaFreeze
namespace Go.Proofs.Ytkkilngihkdnaaa
open Go.RowKit Go.Shelf
attribute [local go_sem] Oper.semAt_some
set_option linter.unusedSimpArgs false

theorem rd_eq {w : World} {b0 : Nat} {v v2 : Value} {cs : List Value} (h : Rd w b0 v cs) (e : v2 = v) : Rd w b0 v2 cs := e ▸ h

def numsL : List Int := [-9223372036854775808, -1, 0, 1, 2, 3, 4, 9223372036854775807]

set_option maxRecDepth 100000 in
set_option maxHeartbeats 8000000 in
theorem law_TextSmall (w : World) : Calls Try.prog 4 #[] w fun e w' => e = .returned (.bool true) ∧ Below w.heap.size w w' := by
  obtain ⟨i0, hi0, hz0, hz1, hz2⟩ := info_parts info_Bytes
  go_enter Try.func4, Try.ntmps4
  go_wp2_with fail
  go_loopw [1, 2, 3, 4] (fun n _ _ _ wr => ∃ k : Nat, k ≤ 4096 ∧ n = .int .i64 k ∧ Hid (Below w.heap.size w wr)) (fun n _ _ _ _ => 4096 - (intOf n).toNat)
  case atStart => exact ⟨0, by omega, rfl, Below.refl _ _⟩
  case round =>
    obtain ⟨k, hk, rfl, B⟩ := hrel
    by_cases hlt : k < 4096
    · obtain ⟨wo, rfl⟩ : ∃ wo : World, wo = wr := ⟨_, rfl⟩
      have hdk : decide ((k : Int) < 4096) = true := by simp; omega
      go_wp2_with fail
      clear hdk
      go_loopw [2, 3] (fun b n wr => ∃ (m : Nat) (L : List Int), n = .int .i64 m ∧ L.length + m ≤ 4096 ∧ Hid (wr.ownsRow w.heap.size 5 1 b L.length (u8s L) ∧ Below w.heap.size w wr)) (fun _ n _ => (intOf n).toNat)
      case atStart => exact ⟨k, [], rfl, by simp; omega, ⟨rfl, .inl ⟨rfl, rfl⟩⟩, B.out⟩
      case round =>
        clear B
        obtain ⟨m, L, rfl, hLm, G⟩ := hrel
        have hsz := G.out.2.size
        by_cases hm : 0 < m
        · have hq : (m : Int) / 4 = ((m / 4 : Nat) : Int) := by omega
          have HQ := Lib.hid hq; clear hq
          have hr4 : (m : Int) % 4 = 0 ∨ (m : Int) % 4 = 1 ∨ (m : Int) % 4 = 2 ∨ (m : Int) % 4 = 3 := by omega
          rcases hr4 with hr | hr | hr | hr
          · go_wp2_with (at_builtin; refine wpList_append_own_at _ rfl _ _ 22 rfl w.heap.size 5 i0 (.int .u8 0) 1 1 Try.underlying22 hi0 hz0 hz1 hz2 rfl (by decide) u2 _ _ rfl ((G.out.1.alloc _).alloc _) ⟨wr.heap.size + 1, 0, none⟩ 1 1 [.int .u8 97] rfl rfl (by have := cell_one_new (wr.alloc (.cells #[.int .u8 97, .int .u8 10, .int .u8 13, .int .u8 98] 5)) (.int .u8 97) 5; rwa [World.size_alloc] at this) (by simp [Value.oneCell']) (by unfold maxLen; omega) (by omega) (by simp; omega) ?_; intro v3 w3 own3 grow3 _ _)
            have own4 : w3.ownsRow w.heap.size 5 1 v3 (L ++ [97]).length (u8s (L ++ [97])) := by simpa [u8s] using own3
            have bel4 : Below w.heap.size w w3 := ((G.out.2.alloc hsz _).alloc (by simp; omega) _).grown grow3 (by simp; omega) (fun k hk => (G.out.1.lt k hk).1)
            have O4 := Lib.hid own4; clear own4
            have B4 := Lib.hid bel4; clear bel4 own3 grow3
            go_roundw
            case rel => exact ⟨m / 4, L ++ [97], by rw [HQ.out], by simp; omega, O4.out, B4.out⟩
            case measure => simp [intOf]; omega
          · go_wp2_with (at_builtin; refine wpList_append_own_at _ rfl _ _ 22 rfl w.heap.size 5 i0 (.int .u8 0) 1 1 Try.underlying22 hi0 hz0 hz1 hz2 rfl (by decide) u2 _ _ rfl ((G.out.1.alloc _).alloc _) ⟨wr.heap.size + 1, 0, none⟩ 1 1 [.int .u8 10] rfl rfl (by have := cell_one_new (wr.alloc (.cells #[.int .u8 97, .int .u8 10, .int .u8 13, .int .u8 98] 5)) (.int .u8 10) 5; rwa [World.size_alloc] at this) (by simp [Value.oneCell']) (by unfold maxLen; omega) (by omega) (by simp; omega) ?_; intro v3 w3 own3 grow3 _ _)
            have own4 : w3.ownsRow w.heap.size 5 1 v3 (L ++ [10]).length (u8s (L ++ [10])) := by simpa [u8s] using own3
            have bel4 : Below w.heap.size w w3 := ((G.out.2.alloc hsz _).alloc (by simp; omega) _).grown grow3 (by simp; omega) (fun k hk => (G.out.1.lt k hk).1)
            have O4 := Lib.hid own4; clear own4
            have B4 := Lib.hid bel4; clear bel4 own3 grow3
            go_roundw
            case rel => exact ⟨m / 4, L ++ [10], by rw [HQ.out], by simp; omega, O4.out, B4.out⟩
            case measure => simp [intOf]; omega
          · go_wp2_with (at_builtin; refine wpList_append_own_at _ rfl _ _ 22 rfl w.heap.size 5 i0 (.int .u8 0) 1 1 Try.underlying22 hi0 hz0 hz1 hz2 rfl (by decide) u2 _ _ rfl ((G.out.1.alloc _).alloc _) ⟨wr.heap.size + 1, 0, none⟩ 1 1 [.int .u8 13] rfl rfl (by have := cell_one_new (wr.alloc (.cells #[.int .u8 97, .int .u8 10, .int .u8 13, .int .u8 98] 5)) (.int .u8 13) 5; rwa [World.size_alloc] at this) (by simp [Value.oneCell']) (by unfold maxLen; omega) (by omega) (by simp; omega) ?_; intro v3 w3 own3 grow3 _ _)
            have own4 : w3.ownsRow w.heap.size 5 1 v3 (L ++ [13]).length (u8s (L ++ [13])) := by simpa [u8s] using own3
            have bel4 : Below w.heap.size w w3 := ((G.out.2.alloc hsz _).alloc (by simp; omega) _).grown grow3 (by simp; omega) (fun k hk => (G.out.1.lt k hk).1)
            have O4 := Lib.hid own4; clear own4
            have B4 := Lib.hid bel4; clear bel4 own3 grow3
            go_roundw
            case rel => exact ⟨m / 4, L ++ [13], by rw [HQ.out], by simp; omega, O4.out, B4.out⟩
            case measure => simp [intOf]; omega
          · go_wp2_with (at_builtin; refine wpList_append_own_at _ rfl _ _ 22 rfl w.heap.size 5 i0 (.int .u8 0) 1 1 Try.underlying22 hi0 hz0 hz1 hz2 rfl (by decide) u2 _ _ rfl ((G.out.1.alloc _).alloc _) ⟨wr.heap.size + 1, 0, none⟩ 1 1 [.int .u8 98] rfl rfl (by have := cell_one_new (wr.alloc (.cells #[.int .u8 97, .int .u8 10, .int .u8 13, .int .u8 98] 5)) (.int .u8 98) 5; rwa [World.size_alloc] at this) (by simp [Value.oneCell']) (by unfold maxLen; omega) (by omega) (by simp; omega) ?_; intro v3 w3 own3 grow3 _ _)
            have own4 : w3.ownsRow w.heap.size 5 1 v3 (L ++ [98]).length (u8s (L ++ [98])) := by simpa [u8s] using own3
            have bel4 : Below w.heap.size w w3 := ((G.out.2.alloc hsz _).alloc (by simp; omega) _).grown grow3 (by simp; omega) (fun k hk => (G.out.1.lt k hk).1)
            have O4 := Lib.hid own4; clear own4
            have B4 := Lib.hid bel4; clear bel4 own3 grow3
            go_roundw
            case rel => exact ⟨m / 4, L ++ [98], by rw [HQ.out], by simp; omega, O4.out, B4.out⟩
            case measure => simp [intOf]; omega
        · have hm0 : m ≤ 0 := by omega
          have hdm : decide ((0 : Int) < (m : Int)) = false := by simp; omega
          have hdm2 : decide ((m : Int) > 0) = false := by simp; omega
          obtain ⟨pb, cb, rfl⟩ := own_form G.out.1
          have rb := Lib.hid (Rd.of_own G.out.1)
          obtain ⟨wq, rfl⟩ : ∃ wq : World, wq = wr := ⟨_, rfl⟩
          have BQ := Lib.hid G.out.2
          clear G hsz
          go_wp2_with fail
          clear hdm hdm2
          go_loopw [4] (fun n wr => ∃ j : Nat, j ≤ L.length + 3 ∧ n = .int .i64 ((j : Int) - 1) ∧ Hid (Below wq.heap.size wq wr)) (fun n _ => L.length + 3 - (intOf n + 1).toNat)
          case atStart => exact ⟨0, by omega, rfl, Below.refl _ _⟩
          case round =>
            obtain ⟨j, hj, rfl, C⟩ := hrel
            by_cases hjl : j < L.length + 3
            · have hal : ((j : Int) - 1 + 1) = (j : Int) := by omega
              have HAL := Lib.hid hal; clear hal
              go_wp2_with fail
              refine (law_TextTells _ _ L [0, (j : Int) - 1, 2, 1, -1] ((j : Int) - 1) ((j : Int) - 1) _ ?rb ?rs).mono ?_
              case rb => exact ((rb.out.below C.out).up C.out.size).below ((Below.refl _ wr).alloc (Nat.le_refl _) _) |>.up (by simp)
              case rs => exact (Rd.lit wr (i64s [0, (j : Int) - 1, 2, 1, -1]) 3 (0, 0) (by simp [i64s, maxLen])).up (by simp)
              rintro e w5 ⟨rfl, b5⟩
              have C2 : Hid (Below wq.heap.size wq w5) := C.out.trans (((Below.refl wq.heap.size wr).alloc C.out.size _).trans (b5.mono (by have := C.out.size; simp; omega)))
              clear b5 C
              go_wp2_with fail
              go_roundw
              case rel => exact ⟨j + 1, by omega, by first | rfl | (rw [HAL.out]) | go_num, C2.out⟩
              case measure => simp [intOf]; omega
            · have hge : (L.length : Int) + 2 ≤ (j : Int) - 1 := by omega
              go_wp2_with fail
              go_roundw
              case rel => exact ⟨k + 1, by omega, by go_num, BQ.out.trans (C.out.mono BQ.out.size)⟩
              case measure => simp [intOf]; omega
    · obtain rfl : k = 4096 := by omega
      have hdk : decide (((4096 : Nat) : Int) < 4096) = false := by decide
      go_wp2_with fail
      have hcell : ∀ j, (hj : j < 8) → (wr.alloc (.cells (i64s numsL).toArray 3)).cell? ⟨wr.heap.size, j, none⟩ = some (.int .i64 (numsL[j]'hj)) := fun j hj => by
        rw [cell_of_row _ wr.heap.size j (i64s numsL).toArray 3 (0, 0) (World.alloc_heap_new wr _)]
        have hj' : j < numsL.length := hj
        simp [i64s, hj']; rfl
      have hgn : wr.heap.size < (wr.alloc (.cells (i64s numsL).toArray 3)).heap.size := by simp
      have bel4 : Below w.heap.size w (wr.alloc (.cells (i64s numsL).toArray 3)) := B.out.alloc B.out.size _
      rw [show (wr.alloc (.cells (i64s numsL).toArray 3)) = wr.alloc (.cells #[.int .i64 (-9223372036854775808), .int .i64 (-1), .int .i64 0, .int .i64 1, .int .i64 2, .int .i64 3, .int .i64 4, .int .i64 9223372036854775807] 3) from rfl] at hcell hgn bel4
      generalize wr.alloc (.cells #[.int .i64 (-9223372036854775808), .int .i64 (-1), .int .i64 0, .int .i64 1, .int .i64 2, .int .i64 3, .int .i64 4, .int .i64 9223372036854775807] 3) = w4 at hcell hgn bel4 ⊢
      generalize wr.heap.size = gn at hcell hgn ⊢
      have HC := Lib.hid hcell; clear hcell
      have B4 := Lib.hid bel4; clear bel4 B hdk
      go_loopw [6, 7] (fun n _ wr => ∃ i : Nat, i ≤ 8 ∧ n = .int .i64 i ∧ Hid (Below w4.heap.size w4 wr)) (fun n _ _ => 8 - (intOf n).toNat)
      case atStart => exact ⟨0, by omega, rfl, Below.refl _ _⟩
      case round =>
        obtain ⟨i, hi, rfl, B⟩ := hrel
        by_cases hil : i < 8
        · obtain ⟨wo, rfl⟩ : ∃ wo : World, wo = wr := ⟨_, rfl⟩
          have hdi : decide ((i : Int) < 8) = true := by simp; omega
          go_wp2_with fail
          clear hdi
          go_loopw [7] (fun n wr => ∃ k : Nat, k ≤ 8 ∧ n = .int .i64 k ∧ Hid (Below w4.heap.size w4 wr)) (fun n _ => 8 - (intOf n).toNat)
          case atStart => exact ⟨0, by omega, rfl, B.out⟩
          case round =>
            clear B
            obtain ⟨k, hk, rfl, B⟩ := hrel
            by_cases hkl : k < 8
            · have c1 := Lib.hid (HC.out i hil)
              have c2 := Lib.hid (HC.out k hkl)
              generalize numsL[i] = x at c1
              generalize numsL[k] = y at c2
              go_upto_region 21 with fail
              have hrefl : ∀ W, (RelF wr.heap.size) W W := RelF.refl
              refine wp_region_specR (RelF wr.heap.size) RelF.refl RelF.trans RelF.drew 34 [BlkW wr.heap.size (u8s [97, 10, 98]) 5, BlkW wr.heap.size (u8s [97, 10, 98]) 5, fun v _ => v = .slice (some ⟨gn, 0, none⟩) 8 8, fun v _ => v = .int .i64 (i : Int), fun v _ => v = .pointer (some ⟨gn, i, none⟩), fun v _ => v = .int .i64 x, fun v _ => v = .slice (some ⟨gn, 0, none⟩) 8 8, fun v _ => v = .int .i64 (k : Int), fun v _ => v = .pointer (some ⟨gn, k, none⟩), fun v _ => v = .int .i64 y, BlkW wr.heap.size (i64s [x, y]) 3, fun v _ => v = .slice (some ⟨gn, 0, none⟩) 8 8, fun v _ => v = .int .i64 (k : Int), fun v _ => v = .pointer (some ⟨gn, k, none⟩), fun v _ => v = .int .i64 y, fun v _ => v = .slice (some ⟨gn, 0, none⟩) 8 8, fun v _ => v = .int .i64 (i : Int), fun v _ => v = .pointer (some ⟨gn, i, none⟩), fun v _ => v = .int .i64 x, fun v _ => v = .bool true, fun v _ => v = .bool false, fun v _ => v = .bool false, fun v _ => v = .slice (some ⟨gn, 0, none⟩) 8 8, fun v _ => v = .int .i64 (k : Int), fun v _ => v = .pointer (some ⟨gn, k, none⟩), fun v _ => v = .int .i64 y, BlkW wr.heap.size (i64s [y]) 3, fun v _ => v = .slice (some ⟨gn, 0, none⟩) 8 8, fun v _ => v = .int .i64 (i : Int), fun v _ => v = .pointer (some ⟨gn, i, none⟩), fun v _ => v = .int .i64 x, fun v _ => v = .bool true, fun v _ => v = .bool false, fun v _ => v = .bool false] ⟨stable_blkW _ _, stable_blkW _ _, stableR_eq _, stableR_eq _, stableR_eq _, stableR_eq _, stableR_eq _, stableR_eq _, stableR_eq _, stableR_eq _, stable_blkW _ _, stableR_eq _, stableR_eq _, stableR_eq _, stableR_eq _, stableR_eq _, stableR_eq _, stableR_eq _, stableR_eq _, stableR_eq _, stableR_eq _, stableR_eq _, stableR_eq _, stableR_eq _, stableR_eq _, stableR_eq _, stable_blkW _ _, stableR_eq _, stableR_eq _, stableR_eq _, stableR_eq _, stableR_eq _, stableR_eq _, stableR_eq _, trivial⟩ (by kernel_rfl) (by kernel_rfl) (by kernel_rfl) ?ob ?en
              case ob =>
                refine ⟨?_, ?_, ?_, ?_, ?_, ?_, ?_, ?_, ?_, ?_, ?_, ?_, ?_, ?_, ?_, ?_, ?_, ?_, ?_, ?_, ?_, ?_, ?_, ?_, ?_, ?_, ?_, ?_, ?_, ?_, ?_, ?_, ?_, ?_, trivial⟩ <;> intro A W h
                · exact rq_buildblk rfl rfl (fun W => by simp [go_sem, u8s]) h.rel.size
                · exact rq_convblk Try.underlying22 Try.underlying5 rfl rfl (h.dep 0 52 rfl rfl)
                · exact rq_move hrefl rfl rfl (h.frame 5 rfl)
                · exact rq_move hrefl rfl rfl (h.frame 6 rfl)
                · exact rq_idx (sz := 1) hrefl Try.underlying23 (fun w => by kernel_rfl) rfl rfl (h.dep 2 54 rfl rfl) (h.dep 3 55 rfl rfl) (by omega) (by omega)
                · (have e56 : A.eval (.tmp 56) = .pointer (some ⟨gn, i, none⟩) := h.dep 4 56 rfl rfl; refine rq_pure hrefl rfl ?_; simp only [execOp, e56]; (have q := ((B.out.trans (h.rel.below.mono B.out.size)).cell (p := ⟨gn, i, none⟩) hgn).trans c1.out; simp [go_sem, q]))
                · exact rq_move hrefl rfl rfl (h.frame 5 rfl)
                · exact rq_move hrefl rfl rfl (h.frame 7 rfl)
                · exact rq_idx (sz := 1) hrefl Try.underlying23 (fun w => by kernel_rfl) rfl rfl (h.dep 6 58 rfl rfl) (h.dep 7 59 rfl rfl) (by omega) (by omega)
                · (have e60 : A.eval (.tmp 60) = .pointer (some ⟨gn, k, none⟩) := h.dep 8 60 rfl rfl; refine rq_pure hrefl rfl ?_; simp only [execOp, e60]; (have q := ((B.out.trans (h.rel.below.mono B.out.size)).cell (p := ⟨gn, k, none⟩) hgn).trans c2.out; simp [go_sem, q]))
                · exact rq_buildblk rfl rfl (fun W => by (have e57 : A.eval (.tmp 57) = .int .i64 x := h.dep 5 57 rfl rfl); (have e61 : A.eval (.tmp 61) = .int .i64 y := h.dep 9 61 rfl rfl); simp only [List.map_toArray, List.map_cons, List.map_nil, e57, e61]; simp [go_sem, i64s]) h.rel.size
                · exact rq_move hrefl rfl rfl (h.frame 5 rfl)
                · exact rq_move hrefl rfl rfl (h.frame 7 rfl)
                · exact rq_idx (sz := 1) hrefl Try.underlying23 (fun w => by kernel_rfl) rfl rfl (h.dep 11 63 rfl rfl) (h.dep 12 64 rfl rfl) (by omega) (by omega)
                · (have e65 : A.eval (.tmp 65) = .pointer (some ⟨gn, k, none⟩) := h.dep 13 65 rfl rfl; refine rq_pure hrefl rfl ?_; simp only [execOp, e65]; (have q := ((B.out.trans (h.rel.below.mono B.out.size)).cell (p := ⟨gn, k, none⟩) hgn).trans c2.out; simp [go_sem, q]))
                · exact rq_move hrefl rfl rfl (h.frame 5 rfl)
                · exact rq_move hrefl rfl rfl (h.frame 6 rfl)
                · exact rq_idx (sz := 1) hrefl Try.underlying23 (fun w => by kernel_rfl) rfl rfl (h.dep 15 67 rfl rfl) (h.dep 16 68 rfl rfl) (by omega) (by omega)
                · (have e69 : A.eval (.tmp 69) = .pointer (some ⟨gn, i, none⟩) := h.dep 17 69 rfl rfl; refine rq_pure hrefl rfl ?_; simp only [execOp, e69]; (have q := ((B.out.trans (h.rel.below.mono B.out.size)).cell (p := ⟨gn, i, none⟩) hgn).trans c1.out; simp [go_sem, q]))
                · exact rq_calln rfl rfl (enters_of Try.func3 (by kernel_rfl) rfl) (args4 ⟨rfl, rfl, (h.dep 14 66 rfl rfl), (h.dep 18 70 rfl rfl)⟩) ((law_TextTells _ _ [97, 10, 98] [x, y] y x W (BlkW.rd (h.dep 1 53 rfl rfl) (by simp [u8s, maxLen])) (BlkW.rd (h.dep 10 62 rfl rfl) (by simp [i64s, maxLen]))).mono fun _ _ h' => ⟨h'.1, RelF.of_below h'.2 h.rel.size⟩)
                · (have e71 : A.eval (.tmp 71) = .bool true := h.dep 19 71 rfl rfl; refine rq_pure hrefl rfl ?_; simp only [execOp, e71]; (simp [go_sem] <;> first | done | omega | (rw [IntKind.wrap_i64]; omega) | (rw [IntKind.wrap_u8]; omega) | (rw [IntKind.wrap_u64]; omega)))
                · exact rq_move hrefl rfl rfl (h.dep 20 72 rfl rfl)
                · exact rq_move hrefl (wanted_g rfl (yielded_of (d := 73) rfl (h.dep 21 73 rfl rfl))) rfl (h.frame 5 rfl)
                · exact rq_move hrefl (wanted_g rfl (yielded_of (d := 73) rfl (h.dep 21 73 rfl rfl))) rfl (h.frame 7 rfl)
                · exact rq_idx (sz := 1) hrefl Try.underlying23 (fun w => by kernel_rfl) (wanted_g rfl (yielded_of (d := 73) rfl (h.dep 21 73 rfl rfl))) rfl (h.dep 22 74 rfl rfl) (h.dep 23 75 rfl rfl) (by omega) (by omega)
                · (have e76 : A.eval (.tmp 76) = .pointer (some ⟨gn, k, none⟩) := h.dep 24 76 rfl rfl; refine rq_pure hrefl (wanted_g rfl (yielded_of (d := 73) rfl (h.dep 21 73 rfl rfl))) ?_; simp only [execOp, e76]; (have q := ((B.out.trans (h.rel.below.mono B.out.size)).cell (p := ⟨gn, k, none⟩) hgn).trans c2.out; simp [go_sem, q]))
                · exact rq_buildblk (wanted_g rfl (yielded_of (d := 73) rfl (h.dep 21 73 rfl rfl))) rfl (fun W => by (have e77 : A.eval (.tmp 77) = .int .i64 y := h.dep 25 77 rfl rfl); simp only [List.map_toArray, List.map_cons, List.map_nil, e77]; simp [go_sem, i64s]) h.rel.size
                · exact rq_move hrefl (wanted_g rfl (yielded_of (d := 73) rfl (h.dep 21 73 rfl rfl))) rfl (h.frame 5 rfl)
                · exact rq_move hrefl (wanted_g rfl (yielded_of (d := 73) rfl (h.dep 21 73 rfl rfl))) rfl (h.frame 6 rfl)
                · exact rq_idx (sz := 1) hrefl Try.underlying23 (fun w => by kernel_rfl) (wanted_g rfl (yielded_of (d := 73) rfl (h.dep 21 73 rfl rfl))) rfl (h.dep 27 79 rfl rfl) (h.dep 28 80 rfl rfl) (by omega) (by omega)
                · (have e81 : A.eval (.tmp 81) = .pointer (some ⟨gn, i, none⟩) := h.dep 29 81 rfl rfl; refine rq_pure hrefl (wanted_g rfl (yielded_of (d := 73) rfl (h.dep 21 73 rfl rfl))) ?_; simp only [execOp, e81]; (have q := ((B.out.trans (h.rel.below.mono B.out.size)).cell (p := ⟨gn, i, none⟩) hgn).trans c1.out; simp [go_sem, q]))
                · exact rq_calln (wanted_g rfl (yielded_of (d := 73) rfl (h.dep 21 73 rfl rfl))) rfl (enters_of Try.func3 (by kernel_rfl) rfl) (args4 ⟨rfl, rfl, (h.dep 30 82 rfl rfl), rfl⟩) ((law_TextTells _ _ [] [y] x 1 W (.inl ⟨⟨_, rfl⟩, rfl⟩) (BlkW.rd (h.dep 26 78 rfl rfl) (by simp [i64s, maxLen]))).mono fun _ _ h' => ⟨h'.1, RelF.of_below h'.2 h.rel.size⟩)
                · (have e83 : A.eval (.tmp 83) = .bool true := h.dep 31 83 rfl rfl; refine rq_pure hrefl (wanted_g rfl (yielded_of (d := 73) rfl (h.dep 21 73 rfl rfl))) ?_; simp only [execOp, e83]; (simp [go_sem] <;> first | done | omega | (rw [IntKind.wrap_i64]; omega) | (rw [IntKind.wrap_u8]; omega) | (rw [IntKind.wrap_u64]; omega)))
                · exact rq_pick hrefl rfl rfl (h.dep 21 73 rfl rfl) (h.dep 32 84 rfl rfl)
              case en =>
                intro vals W hbw hv
                have v2 : vals 2 = .slice (some ⟨gn, 0, none⟩) 8 8 := hv 2 (by omega)
                have v3 : vals 3 = .int .i64 (i : Int) := hv 3 (by omega)
                have v4 : vals 4 = .pointer (some ⟨gn, i, none⟩) := hv 4 (by omega)
                have v5 : vals 5 = .int .i64 x := hv 5 (by omega)
                have v6 : vals 6 = .slice (some ⟨gn, 0, none⟩) 8 8 := hv 6 (by omega)
                have v7 : vals 7 = .int .i64 (k : Int) := hv 7 (by omega)
                have v8 : vals 8 = .pointer (some ⟨gn, k, none⟩) := hv 8 (by omega)
                have v9 : vals 9 = .int .i64 y := hv 9 (by omega)
                have v11 : vals 11 = .slice (some ⟨gn, 0, none⟩) 8 8 := hv 11 (by omega)
                have v12 : vals 12 = .int .i64 (k : Int) := hv 12 (by omega)
                have v13 : vals 13 = .pointer (some ⟨gn, k, none⟩) := hv 13 (by omega)
                have v14 : vals 14 = .int .i64 y := hv 14 (by omega)
                have v15 : vals 15 = .slice (some ⟨gn, 0, none⟩) 8 8 := hv 15 (by omega)
                have v16 : vals 16 = .int .i64 (i : Int) := hv 16 (by omega)
                have v17 : vals 17 = .pointer (some ⟨gn, i, none⟩) := hv 17 (by omega)
                have v18 : vals 18 = .int .i64 x := hv 18 (by omega)
                have v19 : vals 19 = .bool true := hv 19 (by omega)
                have v20 : vals 20 = .bool false := hv 20 (by omega)
                have v21 : vals 21 = .bool false := hv 21 (by omega)
                have v22 : vals 22 = .slice (some ⟨gn, 0, none⟩) 8 8 := hv 22 (by omega)
                have v23 : vals 23 = .int .i64 (k : Int) := hv 23 (by omega)
                have v24 : vals 24 = .pointer (some ⟨gn, k, none⟩) := hv 24 (by omega)
                have v25 : vals 25 = .int .i64 y := hv 25 (by omega)
                have v27 : vals 27 = .slice (some ⟨gn, 0, none⟩) 8 8 := hv 27 (by omega)
                have v28 : vals 28 = .int .i64 (i : Int) := hv 28 (by omega)
                have v29 : vals 29 = .pointer (some ⟨gn, i, none⟩) := hv 29 (by omega)
                have v30 : vals 30 = .int .i64 x := hv 30 (by omega)
                have v31 : vals 31 = .bool true := hv 31 (by omega)
                have v32 : vals 32 = .bool false := hv 32 (by omega)
                have v33 : vals 33 = .bool false := hv 33 (by omega)
                have x0 := hv 0 (by omega); simp only [lookS] at x0
                have x1 := hv 1 (by omega); simp only [lookS] at x1
                have x10 := hv 10 (by omega); simp only [lookS] at x10
                have x26 := hv 26 (by omega); simp only [lookS] at x26
                simp only [List.take_succ_cons, List.take_zero, List.drop_succ_cons, List.drop_zero, List.drop_nil, List.take_nil, fillAll, Nat.zero_add, Nat.reduceAdd]
                rw [v2, v3, v4, v5, v6, v7, v8, v9, v11, v12, v13, v14, v15, v16, v17, v18, v19, v20, v21, v22, v23, v24, v25, v27, v28, v29, v30, v31, v32, v33]
                clear hv v2 v3 v4 v5 v6 v7 v8 v9 v11 v12 v13 v14 v15 v16 v17 v18 v19 v20 v21 v22 v23 v24 v25 v27 v28 v29 v30 v31 v32 v33
                simp only [put_lit, List.setIfInBounds_toArray, List.set_cons_succ, List.set_cons_zero]
                clear x0 x1 x10 x26
                generalize vals 0 = y0
                generalize vals 1 = y1
                generalize vals 10 = y10
                generalize vals 26 = y26
                have B2 := Lib.hid (B.out.trans (hbw.below.mono B.out.size)); clear hbw B
                go_wp2_with fail
                go_roundw
                case rel => exact ⟨k + 1, by omega, by go_num, B2.out⟩
                case measure => simp [intOf]; omega
            · obtain rfl : k = 8 := by omega
              go_wp2_with fail
              go_roundw
              case rel => exact ⟨i + 1, by omega, by go_num, B.out⟩
              case measure => simp [intOf]; omega
        · obtain rfl : i = 8 := by omega
          go_wp2_with fail
          refine (law05_awake _).mono ?_
          rintro e w5 ⟨rfl, b5⟩
          have B5 := Lib.hid (B4.out.trans (B.out.mono B4.out.size)); clear B
          have B6 := Lib.hid (B5.out.trans (b5.mono B5.out.size)); clear b5
          go_wp2
          go_ret
          exact ⟨rfl, B6.out⟩

theorem walk_TextSmall (w : World) : Calls Try.prog 4 #[] w fun e w' => e = .returned (.bool true) ∧ Below w.heap.size w w' := law_TextSmall w

end Go.Proofs.Ytkkilngihkdnaaa
