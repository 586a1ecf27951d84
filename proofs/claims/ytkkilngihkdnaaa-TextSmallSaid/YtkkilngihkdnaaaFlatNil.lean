/-
  The kit's flats at no list at all: each returns true.
-/
import Derived.Test.YtkkilngihkdnaaaKit
namespace Go.Proofs.Ytkkilngihkdnaaa
open Go.RowKit Go.Shelf
attribute [local go_sem] Oper.semAt_some
set_option linter.unusedSimpArgs false

set_option maxRecDepth 100000 in
set_option maxHeartbeats 2000000 in
theorem kit_flatLimbs_nil (w : World) : Calls Try.prog 59 #[.slice none 0 0] w fun e w' => e = .returned (.bool true) ∧ Below w.heap.size w w' := by
  have hmk : ∀ w, (Instr.makeSlice 65 (.int .i64 0) (.int .i64 0)).run Try.prog w = .ok (.slice (some ⟨w.heap.size, 0, none⟩) 0 0) (w.alloc (.cells #[] 130)) := fun _ => by kernel_rfl
  have HMK := Lib.hid hmk; clear hmk
  go_enter Try.func59, Try.ntmps59
  go_wp2_with fail
  go_loopw [3] (fun i wr => i = .int .i64 0 ∧ Hid (Below w.heap.size w wr)) (fun _ _ => 0)
  case atStart => exact ⟨rfl, Below.refl _ _⟩
  case round =>
    obtain ⟨rfl, B⟩ := hrel
    have hmk := HMK.out
    go_wp2_with fail
    have B1 := Lib.hid (B.out.alloc B.out.size (.cells #[] 130)); clear B hmk
    go_loopw [6] (fun i wr => i = .int .i64 0 ∧ Hid (Below w.heap.size w wr)) (fun _ _ => 0)
    case atStart => exact ⟨rfl, B1.out⟩
    case round =>
      clear B1
      obtain ⟨rfl, B⟩ := hrel
      go_wp2_with fail
      have B2 := B; clear B
      go_loopw [9] (fun i wr => i = .int .i64 0 ∧ Hid (Below w.heap.size w wr)) (fun _ _ => 0)
      case atStart => exact ⟨rfl, B2.out⟩
      case round =>
        clear B2
        obtain ⟨rfl, B⟩ := hrel
        go_wp2_with fail
        have B3 := B; clear B
        go_loopw [11] (fun i wr => i = .int .i64 0 ∧ Hid (Below w.heap.size w wr)) (fun _ _ => 0)
        case atStart => exact ⟨rfl, B3.out⟩
        case round =>
          clear B3
          obtain ⟨rfl, B⟩ := hrel
          go_wp2_with fail
          have B4 := B; clear B
          go_loopw [14] (fun i wr => i = .int .i64 0 ∧ Hid (Below w.heap.size w wr)) (fun _ _ => 0)
          case atStart => exact ⟨rfl, B4.out⟩
          case round =>
            clear B4
            obtain ⟨rfl, B⟩ := hrel
            go_wp2
            go_ret
            exact ⟨rfl, B.out⟩

set_option maxRecDepth 100000 in
set_option maxHeartbeats 2000000 in
theorem kit_flatWords_nil (w : World) : Calls Try.prog 60 #[.slice none 0 0] w fun e w' => e = .returned (.bool true) ∧ Below w.heap.size w w' := by
  have hmk : ∀ w, (Instr.makeSlice 66 (.int .i64 0) (.int .i64 0)).run Try.prog w = .ok (.slice (some ⟨w.heap.size, 0, none⟩) 0 0) (w.alloc (.cells #[] 132)) := fun _ => by kernel_rfl
  have HMK := Lib.hid hmk; clear hmk
  go_enter Try.func60, Try.ntmps60
  go_wp2_with fail
  go_loopw [3] (fun i wr => i = .int .i64 0 ∧ Hid (Below w.heap.size w wr)) (fun _ _ => 0)
  case atStart => exact ⟨rfl, Below.refl _ _⟩
  case round =>
    obtain ⟨rfl, B⟩ := hrel
    have hmk := HMK.out
    go_wp2_with fail
    have B1 := Lib.hid (B.out.alloc B.out.size (.cells #[] 132)); clear B hmk
    go_loopw [6] (fun i wr => i = .int .i64 0 ∧ Hid (Below w.heap.size w wr)) (fun _ _ => 0)
    case atStart => exact ⟨rfl, B1.out⟩
    case round =>
      clear B1
      obtain ⟨rfl, B⟩ := hrel
      go_wp2_with fail
      have B2 := B; clear B
      go_loopw [9] (fun i wr => i = .int .i64 0 ∧ Hid (Below w.heap.size w wr)) (fun _ _ => 0)
      case atStart => exact ⟨rfl, B2.out⟩
      case round =>
        clear B2
        obtain ⟨rfl, B⟩ := hrel
        go_wp2_with fail
        have B3 := B; clear B
        go_loopw [11] (fun i wr => i = .int .i64 0 ∧ Hid (Below w.heap.size w wr)) (fun _ _ => 0)
        case atStart => exact ⟨rfl, B3.out⟩
        case round =>
          clear B3
          obtain ⟨rfl, B⟩ := hrel
          go_wp2_with fail
          have B4 := B; clear B
          go_loopw [14] (fun i wr => i = .int .i64 0 ∧ Hid (Below w.heap.size w wr)) (fun _ _ => 0)
          case atStart => exact ⟨rfl, B4.out⟩
          case round =>
            clear B4
            obtain ⟨rfl, B⟩ := hrel
            go_wp2
            go_ret
            exact ⟨rfl, B.out⟩

set_option maxRecDepth 100000 in
set_option maxHeartbeats 2000000 in
theorem kit_flatInts_nil (w : World) : Calls Try.prog 61 #[.slice none 0 0] w fun e w' => e = .returned (.bool true) ∧ Below w.heap.size w w' := by
  have hmk : ∀ w, (Instr.makeSlice 33 (.int .i64 0) (.int .i64 0)).run Try.prog w = .ok (.slice (some ⟨w.heap.size, 0, none⟩) 0 0) (w.alloc (.cells #[] 23)) := fun _ => by kernel_rfl
  have HMK := Lib.hid hmk; clear hmk
  go_enter Try.func61, Try.ntmps61
  go_wp2_with fail
  go_loopw [3] (fun i wr => i = .int .i64 0 ∧ Hid (Below w.heap.size w wr)) (fun _ _ => 0)
  case atStart => exact ⟨rfl, Below.refl _ _⟩
  case round =>
    obtain ⟨rfl, B⟩ := hrel
    have hmk := HMK.out
    go_wp2_with fail
    have B1 := Lib.hid (B.out.alloc B.out.size (.cells #[] 23)); clear B hmk
    go_loopw [6] (fun i wr => i = .int .i64 0 ∧ Hid (Below w.heap.size w wr)) (fun _ _ => 0)
    case atStart => exact ⟨rfl, B1.out⟩
    case round =>
      clear B1
      obtain ⟨rfl, B⟩ := hrel
      go_wp2_with fail
      have B2 := B; clear B
      go_loopw [9] (fun i wr => i = .int .i64 0 ∧ Hid (Below w.heap.size w wr)) (fun _ _ => 0)
      case atStart => exact ⟨rfl, B2.out⟩
      case round =>
        clear B2
        obtain ⟨rfl, B⟩ := hrel
        go_wp2_with fail
        have B3 := B; clear B
        go_loopw [11] (fun i wr => i = .int .i64 0 ∧ Hid (Below w.heap.size w wr)) (fun _ _ => 0)
        case atStart => exact ⟨rfl, B3.out⟩
        case round =>
          clear B3
          obtain ⟨rfl, B⟩ := hrel
          go_wp2_with fail
          have B4 := B; clear B
          go_loopw [14] (fun i wr => i = .int .i64 0 ∧ Hid (Below w.heap.size w wr)) (fun _ _ => 0)
          case atStart => exact ⟨rfl, B4.out⟩
          case round =>
            clear B4
            obtain ⟨rfl, B⟩ := hrel
            go_wp2
            go_ret
            exact ⟨rfl, B.out⟩

set_option maxRecDepth 100000 in
set_option maxHeartbeats 2000000 in
theorem kit_flatLongs_nil (w : World) : Calls Try.prog 62 #[.slice none 0 0] w fun e w' => e = .returned (.bool true) ∧ Below w.heap.size w w' := by
  have hmk : ∀ w, (Instr.makeSlice 67 (.int .i64 0) (.int .i64 0)).run Try.prog w = .ok (.slice (some ⟨w.heap.size, 0, none⟩) 0 0) (w.alloc (.cells #[] 133)) := fun _ => by kernel_rfl
  have HMK := Lib.hid hmk; clear hmk
  go_enter Try.func62, Try.ntmps62
  go_wp2_with fail
  go_loopw [3] (fun i wr => i = .int .i64 0 ∧ Hid (Below w.heap.size w wr)) (fun _ _ => 0)
  case atStart => exact ⟨rfl, Below.refl _ _⟩
  case round =>
    obtain ⟨rfl, B⟩ := hrel
    have hmk := HMK.out
    go_wp2_with fail
    have B1 := Lib.hid (B.out.alloc B.out.size (.cells #[] 133)); clear B hmk
    go_loopw [6] (fun i wr => i = .int .i64 0 ∧ Hid (Below w.heap.size w wr)) (fun _ _ => 0)
    case atStart => exact ⟨rfl, B1.out⟩
    case round =>
      clear B1
      obtain ⟨rfl, B⟩ := hrel
      go_wp2_with fail
      have B2 := B; clear B
      go_loopw [9] (fun i wr => i = .int .i64 0 ∧ Hid (Below w.heap.size w wr)) (fun _ _ => 0)
      case atStart => exact ⟨rfl, B2.out⟩
      case round =>
        clear B2
        obtain ⟨rfl, B⟩ := hrel
        go_wp2_with fail
        have B3 := B; clear B
        go_loopw [11] (fun i wr => i = .int .i64 0 ∧ Hid (Below w.heap.size w wr)) (fun _ _ => 0)
        case atStart => exact ⟨rfl, B3.out⟩
        case round =>
          clear B3
          obtain ⟨rfl, B⟩ := hrel
          go_wp2_with fail
          have B4 := B; clear B
          go_loopw [14] (fun i wr => i = .int .i64 0 ∧ Hid (Below w.heap.size w wr)) (fun _ _ => 0)
          case atStart => exact ⟨rfl, B4.out⟩
          case round =>
            clear B4
            obtain ⟨rfl, B⟩ := hrel
            go_wp2
            go_ret
            exact ⟨rfl, B.out⟩

set_option maxRecDepth 100000 in
set_option maxHeartbeats 2000000 in
theorem kit_flatTexts_nil (w : World) : Calls Try.prog 63 #[.slice none 0 0] w fun e w' => e = .returned (.bool true) ∧ Below w.heap.size w w' := by
  have hmk : ∀ w, (Instr.makeSlice 68 (.int .i64 0) (.int .i64 0)).run Try.prog w = .ok (.slice (some ⟨w.heap.size, 0, none⟩) 0 0) (w.alloc (.cells #[] 55)) := fun _ => by kernel_rfl
  have HMK := Lib.hid hmk; clear hmk
  go_enter Try.func63, Try.ntmps63
  go_wp2_with fail
  go_loopw [3] (fun i wr => i = .int .i64 0 ∧ Hid (Below w.heap.size w wr)) (fun _ _ => 0)
  case atStart => exact ⟨rfl, Below.refl _ _⟩
  case round =>
    obtain ⟨rfl, B⟩ := hrel
    have hmk := HMK.out
    go_wp2_with fail
    have B1 := Lib.hid (B.out.alloc B.out.size (.cells #[] 55)); clear B hmk
    go_loopw [6] (fun i wr => i = .int .i64 0 ∧ Hid (Below w.heap.size w wr)) (fun _ _ => 0)
    case atStart => exact ⟨rfl, B1.out⟩
    case round =>
      clear B1
      obtain ⟨rfl, B⟩ := hrel
      go_wp2_with fail
      have B2 := B; clear B
      go_loopw [9] (fun i wr => i = .int .i64 0 ∧ Hid (Below w.heap.size w wr)) (fun _ _ => 0)
      case atStart => exact ⟨rfl, B2.out⟩
      case round =>
        clear B2
        obtain ⟨rfl, B⟩ := hrel
        go_wp2_with fail
        have B3 := B; clear B
        go_loopw [11] (fun i wr => i = .int .i64 0 ∧ Hid (Below w.heap.size w wr)) (fun _ _ => 0)
        case atStart => exact ⟨rfl, B3.out⟩
        case round =>
          clear B3
          obtain ⟨rfl, B⟩ := hrel
          go_wp2_with fail
          have B4 := B; clear B
          go_loopw [14] (fun i wr => i = .int .i64 0 ∧ Hid (Below w.heap.size w wr)) (fun _ _ => 0)
          case atStart => exact ⟨rfl, B4.out⟩
          case round =>
            clear B4
            obtain ⟨rfl, B⟩ := hrel
            go_wp2
            go_ret
            exact ⟨rfl, B.out⟩

set_option maxRecDepth 100000 in
set_option maxHeartbeats 2000000 in
theorem kit_flatBytes_nil (w : World) : Calls Try.prog 64 #[.slice none 0 0] w fun e w' => e = .returned (.bool true) ∧ Below w.heap.size w w' := by
  have hmk : ∀ w, (Instr.makeSlice 69 (.int .i64 0) (.int .i64 0)).run Try.prog w = .ok (.slice (some ⟨w.heap.size, 0, none⟩) 0 0) (w.alloc (.cells #[] 22)) := fun _ => by kernel_rfl
  have HMK := Lib.hid hmk; clear hmk
  go_enter Try.func64, Try.ntmps64
  go_wp2_with fail
  go_loopw [3] (fun i wr => i = .int .i64 0 ∧ Hid (Below w.heap.size w wr)) (fun _ _ => 0)
  case atStart => exact ⟨rfl, Below.refl _ _⟩
  case round =>
    obtain ⟨rfl, B⟩ := hrel
    have hmk := HMK.out
    go_wp2_with fail
    have B1 := Lib.hid (B.out.alloc B.out.size (.cells #[] 22)); clear B hmk
    go_loopw [6] (fun i wr => i = .int .i64 0 ∧ Hid (Below w.heap.size w wr)) (fun _ _ => 0)
    case atStart => exact ⟨rfl, B1.out⟩
    case round =>
      clear B1
      obtain ⟨rfl, B⟩ := hrel
      go_wp2_with fail
      have B2 := B; clear B
      go_loopw [9] (fun i wr => i = .int .i64 0 ∧ Hid (Below w.heap.size w wr)) (fun _ _ => 0)
      case atStart => exact ⟨rfl, B2.out⟩
      case round =>
        clear B2
        obtain ⟨rfl, B⟩ := hrel
        go_wp2_with fail
        have B3 := B; clear B
        go_loopw [11] (fun i wr => i = .int .i64 0 ∧ Hid (Below w.heap.size w wr)) (fun _ _ => 0)
        case atStart => exact ⟨rfl, B3.out⟩
        case round =>
          clear B3
          obtain ⟨rfl, B⟩ := hrel
          go_wp2_with fail
          have B4 := B; clear B
          go_loopw [14] (fun i wr => i = .int .i64 0 ∧ Hid (Below w.heap.size w wr)) (fun _ _ => 0)
          case atStart => exact ⟨rfl, B4.out⟩
          case round =>
            clear B4
            obtain ⟨rfl, B⟩ := hrel
            go_wp2
            go_ret
            exact ⟨rfl, B.out⟩

set_option maxRecDepth 100000 in
set_option maxHeartbeats 2000000 in
theorem kit_flatTruths_nil (w : World) : Calls Try.prog 65 #[.slice none 0 0] w fun e w' => e = .returned (.bool true) ∧ Below w.heap.size w w' := by
  have hmk : ∀ w, (Instr.makeSlice 70 (.int .i64 0) (.int .i64 0)).run Try.prog w = .ok (.slice (some ⟨w.heap.size, 0, none⟩) 0 0) (w.alloc (.cells #[] 135)) := fun _ => by kernel_rfl
  have HMK := Lib.hid hmk; clear hmk
  go_enter Try.func65, Try.ntmps65
  go_wp2_with fail
  go_loopw [3] (fun i wr => i = .int .i64 0 ∧ Hid (Below w.heap.size w wr)) (fun _ _ => 0)
  case atStart => exact ⟨rfl, Below.refl _ _⟩
  case round =>
    obtain ⟨rfl, B⟩ := hrel
    have hmk := HMK.out
    go_wp2_with fail
    have B1 := Lib.hid (B.out.alloc B.out.size (.cells #[] 135)); clear B hmk
    go_loopw [6] (fun i wr => i = .int .i64 0 ∧ Hid (Below w.heap.size w wr)) (fun _ _ => 0)
    case atStart => exact ⟨rfl, B1.out⟩
    case round =>
      clear B1
      obtain ⟨rfl, B⟩ := hrel
      go_wp2_with fail
      have B2 := B; clear B
      go_loopw [9] (fun i wr => i = .int .i64 0 ∧ Hid (Below w.heap.size w wr)) (fun _ _ => 0)
      case atStart => exact ⟨rfl, B2.out⟩
      case round =>
        clear B2
        obtain ⟨rfl, B⟩ := hrel
        go_wp2_with fail
        have B3 := B; clear B
        go_loopw [11] (fun i wr => i = .int .i64 0 ∧ Hid (Below w.heap.size w wr)) (fun _ _ => 0)
        case atStart => exact ⟨rfl, B3.out⟩
        case round =>
          clear B3
          obtain ⟨rfl, B⟩ := hrel
          go_wp2_with fail
          have B4 := B; clear B
          go_loopw [14] (fun i wr => i = .int .i64 0 ∧ Hid (Below w.heap.size w wr)) (fun _ _ => 0)
          case atStart => exact ⟨rfl, B4.out⟩
          case round =>
            clear B4
            obtain ⟨rfl, B⟩ := hrel
            go_wp2
            go_ret
            exact ⟨rfl, B.out⟩

set_option maxRecDepth 100000 in
set_option maxHeartbeats 2000000 in
theorem kit_flatNodes_nil (w : World) : Calls Try.prog 66 #[.slice none 0 0] w fun e w' => e = .returned (.bool true) ∧ Below w.heap.size w w' := by
  have hmk : ∀ w, (Instr.makeSlice 71 (.int .i64 0) (.int .i64 0)).run Try.prog w = .ok (.slice (some ⟨w.heap.size, 0, none⟩) 0 0) (w.alloc (.cells #[] 136)) := fun _ => by kernel_rfl
  have HMK := Lib.hid hmk; clear hmk
  go_enter Try.func66, Try.ntmps66
  go_wp2_with fail
  go_loopw [3] (fun i wr => i = .int .i64 0 ∧ Hid (Below w.heap.size w wr)) (fun _ _ => 0)
  case atStart => exact ⟨rfl, Below.refl _ _⟩
  case round =>
    obtain ⟨rfl, B⟩ := hrel
    have hmk := HMK.out
    go_wp2_with fail
    have B1 := Lib.hid (B.out.alloc B.out.size (.cells #[] 136)); clear B hmk
    go_loopw [6] (fun i wr => i = .int .i64 0 ∧ Hid (Below w.heap.size w wr)) (fun _ _ => 0)
    case atStart => exact ⟨rfl, B1.out⟩
    case round =>
      clear B1
      obtain ⟨rfl, B⟩ := hrel
      go_wp2_with fail
      have B2 := B; clear B
      go_loopw [9] (fun i wr => i = .int .i64 0 ∧ Hid (Below w.heap.size w wr)) (fun _ _ => 0)
      case atStart => exact ⟨rfl, B2.out⟩
      case round =>
        clear B2
        obtain ⟨rfl, B⟩ := hrel
        go_wp2_with fail
        have B3 := B; clear B
        go_loopw [11] (fun i wr => i = .int .i64 0 ∧ Hid (Below w.heap.size w wr)) (fun _ _ => 0)
        case atStart => exact ⟨rfl, B3.out⟩
        case round =>
          clear B3
          obtain ⟨rfl, B⟩ := hrel
          go_wp2_with fail
          have B4 := B; clear B
          go_loopw [14] (fun i wr => i = .int .i64 0 ∧ Hid (Below w.heap.size w wr)) (fun _ _ => 0)
          case atStart => exact ⟨rfl, B4.out⟩
          case round =>
            clear B4
            obtain ⟨rfl, B⟩ := hrel
            go_wp2
            go_ret
            exact ⟨rfl, B.out⟩

set_option maxRecDepth 100000 in
set_option maxHeartbeats 2000000 in
theorem kit_flatInsts_nil (w : World) : Calls Try.prog 67 #[.slice none 0 0] w fun e w' => e = .returned (.bool true) ∧ Below w.heap.size w w' := by
  have hmk : ∀ w, (Instr.makeSlice 72 (.int .i64 0) (.int .i64 0)).run Try.prog w = .ok (.slice (some ⟨w.heap.size, 0, none⟩) 0 0) (w.alloc (.cells #[] 142)) := fun _ => by kernel_rfl
  have HMK := Lib.hid hmk; clear hmk
  go_enter Try.func67, Try.ntmps67
  go_wp2_with fail
  go_loopw [3] (fun i wr => i = .int .i64 0 ∧ Hid (Below w.heap.size w wr)) (fun _ _ => 0)
  case atStart => exact ⟨rfl, Below.refl _ _⟩
  case round =>
    obtain ⟨rfl, B⟩ := hrel
    have hmk := HMK.out
    go_wp2_with fail
    have B1 := Lib.hid (B.out.alloc B.out.size (.cells #[] 142)); clear B hmk
    go_loopw [6] (fun i wr => i = .int .i64 0 ∧ Hid (Below w.heap.size w wr)) (fun _ _ => 0)
    case atStart => exact ⟨rfl, B1.out⟩
    case round =>
      clear B1
      obtain ⟨rfl, B⟩ := hrel
      go_wp2_with fail
      have B2 := B; clear B
      go_loopw [9] (fun i wr => i = .int .i64 0 ∧ Hid (Below w.heap.size w wr)) (fun _ _ => 0)
      case atStart => exact ⟨rfl, B2.out⟩
      case round =>
        clear B2
        obtain ⟨rfl, B⟩ := hrel
        go_wp2_with fail
        have B3 := B; clear B
        go_loopw [11] (fun i wr => i = .int .i64 0 ∧ Hid (Below w.heap.size w wr)) (fun _ _ => 0)
        case atStart => exact ⟨rfl, B3.out⟩
        case round =>
          clear B3
          obtain ⟨rfl, B⟩ := hrel
          go_wp2_with fail
          have B4 := B; clear B
          go_loopw [14] (fun i wr => i = .int .i64 0 ∧ Hid (Below w.heap.size w wr)) (fun _ _ => 0)
          case atStart => exact ⟨rfl, B4.out⟩
          case round =>
            clear B4
            obtain ⟨rfl, B⟩ := hrel
            go_wp2
            go_ret
            exact ⟨rfl, B.out⟩

set_option maxRecDepth 100000 in
set_option maxHeartbeats 2000000 in
theorem kit_flatQueries_nil (w : World) : Calls Try.prog 68 #[.slice none 0 0] w fun e w' => e = .returned (.bool true) ∧ Below w.heap.size w w' := by
  have hmk : ∀ w, (Instr.makeSlice 73 (.int .i64 0) (.int .i64 0)).run Try.prog w = .ok (.slice (some ⟨w.heap.size, 0, none⟩) 0 0) (w.alloc (.cells #[] 147)) := fun _ => by kernel_rfl
  have HMK := Lib.hid hmk; clear hmk
  go_enter Try.func68, Try.ntmps68
  go_wp2_with fail
  go_loopw [3] (fun i wr => i = .int .i64 0 ∧ Hid (Below w.heap.size w wr)) (fun _ _ => 0)
  case atStart => exact ⟨rfl, Below.refl _ _⟩
  case round =>
    obtain ⟨rfl, B⟩ := hrel
    have hmk := HMK.out
    go_wp2_with fail
    have B1 := Lib.hid (B.out.alloc B.out.size (.cells #[] 147)); clear B hmk
    go_loopw [6] (fun i wr => i = .int .i64 0 ∧ Hid (Below w.heap.size w wr)) (fun _ _ => 0)
    case atStart => exact ⟨rfl, B1.out⟩
    case round =>
      clear B1
      obtain ⟨rfl, B⟩ := hrel
      go_wp2_with fail
      have B2 := B; clear B
      go_loopw [9] (fun i wr => i = .int .i64 0 ∧ Hid (Below w.heap.size w wr)) (fun _ _ => 0)
      case atStart => exact ⟨rfl, B2.out⟩
      case round =>
        clear B2
        obtain ⟨rfl, B⟩ := hrel
        go_wp2_with fail
        have B3 := B; clear B
        go_loopw [11] (fun i wr => i = .int .i64 0 ∧ Hid (Below w.heap.size w wr)) (fun _ _ => 0)
        case atStart => exact ⟨rfl, B3.out⟩
        case round =>
          clear B3
          obtain ⟨rfl, B⟩ := hrel
          go_wp2_with fail
          have B4 := B; clear B
          go_loopw [14] (fun i wr => i = .int .i64 0 ∧ Hid (Below w.heap.size w wr)) (fun _ _ => 0)
          case atStart => exact ⟨rfl, B4.out⟩
          case round =>
            clear B4
            obtain ⟨rfl, B⟩ := hrel
            go_wp2
            go_ret
            exact ⟨rfl, B.out⟩

set_option maxRecDepth 100000 in
set_option maxHeartbeats 2000000 in
theorem kit_flatFiles_nil (w : World) : Calls Try.prog 69 #[.slice none 0 0] w fun e w' => e = .returned (.bool true) ∧ Below w.heap.size w w' := by
  have hmk : ∀ w, (Instr.makeSlice 74 (.int .i64 0) (.int .i64 0)).run Try.prog w = .ok (.slice (some ⟨w.heap.size, 0, none⟩) 0 0) (w.alloc (.cells #[] 153)) := fun _ => by kernel_rfl
  have HMK := Lib.hid hmk; clear hmk
  go_enter Try.func69, Try.ntmps69
  go_wp2_with fail
  go_loopw [3] (fun i wr => i = .int .i64 0 ∧ Hid (Below w.heap.size w wr)) (fun _ _ => 0)
  case atStart => exact ⟨rfl, Below.refl _ _⟩
  case round =>
    obtain ⟨rfl, B⟩ := hrel
    have hmk := HMK.out
    go_wp2_with fail
    have B1 := Lib.hid (B.out.alloc B.out.size (.cells #[] 153)); clear B hmk
    go_loopw [6] (fun i wr => i = .int .i64 0 ∧ Hid (Below w.heap.size w wr)) (fun _ _ => 0)
    case atStart => exact ⟨rfl, B1.out⟩
    case round =>
      clear B1
      obtain ⟨rfl, B⟩ := hrel
      go_wp2_with fail
      have B2 := B; clear B
      go_loopw [9] (fun i wr => i = .int .i64 0 ∧ Hid (Below w.heap.size w wr)) (fun _ _ => 0)
      case atStart => exact ⟨rfl, B2.out⟩
      case round =>
        clear B2
        obtain ⟨rfl, B⟩ := hrel
        go_wp2_with fail
        have B3 := B; clear B
        go_loopw [11] (fun i wr => i = .int .i64 0 ∧ Hid (Below w.heap.size w wr)) (fun _ _ => 0)
        case atStart => exact ⟨rfl, B3.out⟩
        case round =>
          clear B3
          obtain ⟨rfl, B⟩ := hrel
          go_wp2_with fail
          have B4 := B; clear B
          go_loopw [14] (fun i wr => i = .int .i64 0 ∧ Hid (Below w.heap.size w wr)) (fun _ _ => 0)
          case atStart => exact ⟨rfl, B4.out⟩
          case round =>
            clear B4
            obtain ⟨rfl, B⟩ := hrel
            go_wp2
            go_ret
            exact ⟨rfl, B.out⟩

set_option maxRecDepth 100000 in
set_option maxHeartbeats 2000000 in
theorem kit_flatDocs_nil (w : World) : Calls Try.prog 70 #[.slice none 0 0] w fun e w' => e = .returned (.bool true) ∧ Below w.heap.size w w' := by
  have hmk : ∀ w, (Instr.makeSlice 75 (.int .i64 0) (.int .i64 0)).run Try.prog w = .ok (.slice (some ⟨w.heap.size, 0, none⟩) 0 0) (w.alloc (.cells #[] 158)) := fun _ => by kernel_rfl
  have HMK := Lib.hid hmk; clear hmk
  go_enter Try.func70, Try.ntmps70
  go_wp2_with fail
  go_loopw [3] (fun i wr => i = .int .i64 0 ∧ Hid (Below w.heap.size w wr)) (fun _ _ => 0)
  case atStart => exact ⟨rfl, Below.refl _ _⟩
  case round =>
    obtain ⟨rfl, B⟩ := hrel
    have hmk := HMK.out
    go_wp2_with fail
    have B1 := Lib.hid (B.out.alloc B.out.size (.cells #[] 158)); clear B hmk
    go_loopw [6] (fun i wr => i = .int .i64 0 ∧ Hid (Below w.heap.size w wr)) (fun _ _ => 0)
    case atStart => exact ⟨rfl, B1.out⟩
    case round =>
      clear B1
      obtain ⟨rfl, B⟩ := hrel
      go_wp2_with fail
      have B2 := B; clear B
      go_loopw [9] (fun i wr => i = .int .i64 0 ∧ Hid (Below w.heap.size w wr)) (fun _ _ => 0)
      case atStart => exact ⟨rfl, B2.out⟩
      case round =>
        clear B2
        obtain ⟨rfl, B⟩ := hrel
        go_wp2_with fail
        have B3 := B; clear B
        go_loopw [11] (fun i wr => i = .int .i64 0 ∧ Hid (Below w.heap.size w wr)) (fun _ _ => 0)
        case atStart => exact ⟨rfl, B3.out⟩
        case round =>
          clear B3
          obtain ⟨rfl, B⟩ := hrel
          go_wp2_with fail
          have B4 := B; clear B
          go_loopw [14] (fun i wr => i = .int .i64 0 ∧ Hid (Below w.heap.size w wr)) (fun _ _ => 0)
          case atStart => exact ⟨rfl, B4.out⟩
          case round =>
            clear B4
            obtain ⟨rfl, B⟩ := hrel
            go_wp2
            go_ret
            exact ⟨rfl, B.out⟩

set_option maxRecDepth 100000 in
set_option maxHeartbeats 2000000 in
theorem kit_flatPlaces_nil (w : World) : Calls Try.prog 71 #[.slice none 0 0] w fun e w' => e = .returned (.bool true) ∧ Below w.heap.size w w' := by
  have hmk : ∀ w, (Instr.makeSlice 76 (.int .i64 0) (.int .i64 0)).run Try.prog w = .ok (.slice (some ⟨w.heap.size, 0, none⟩) 0 0) (w.alloc (.cells #[] 162)) := fun _ => by kernel_rfl
  have HMK := Lib.hid hmk; clear hmk
  go_enter Try.func71, Try.ntmps71
  go_wp2_with fail
  go_loopw [3] (fun i wr => i = .int .i64 0 ∧ Hid (Below w.heap.size w wr)) (fun _ _ => 0)
  case atStart => exact ⟨rfl, Below.refl _ _⟩
  case round =>
    obtain ⟨rfl, B⟩ := hrel
    have hmk := HMK.out
    go_wp2_with fail
    have B1 := Lib.hid (B.out.alloc B.out.size (.cells #[] 162)); clear B hmk
    go_loopw [6] (fun i wr => i = .int .i64 0 ∧ Hid (Below w.heap.size w wr)) (fun _ _ => 0)
    case atStart => exact ⟨rfl, B1.out⟩
    case round =>
      clear B1
      obtain ⟨rfl, B⟩ := hrel
      go_wp2_with fail
      have B2 := B; clear B
      go_loopw [9] (fun i wr => i = .int .i64 0 ∧ Hid (Below w.heap.size w wr)) (fun _ _ => 0)
      case atStart => exact ⟨rfl, B2.out⟩
      case round =>
        clear B2
        obtain ⟨rfl, B⟩ := hrel
        go_wp2_with fail
        have B3 := B; clear B
        go_loopw [11] (fun i wr => i = .int .i64 0 ∧ Hid (Below w.heap.size w wr)) (fun _ _ => 0)
        case atStart => exact ⟨rfl, B3.out⟩
        case round =>
          clear B3
          obtain ⟨rfl, B⟩ := hrel
          go_wp2_with fail
          have B4 := B; clear B
          go_loopw [14] (fun i wr => i = .int .i64 0 ∧ Hid (Below w.heap.size w wr)) (fun _ _ => 0)
          case atStart => exact ⟨rfl, B4.out⟩
          case round =>
            clear B4
            obtain ⟨rfl, B⟩ := hrel
            go_wp2
            go_ret
            exact ⟨rfl, B.out⟩

set_option maxRecDepth 100000 in
set_option maxHeartbeats 2000000 in
theorem kit_flatPostings_nil (w : World) : Calls Try.prog 72 #[.slice none 0 0] w fun e w' => e = .returned (.bool true) ∧ Below w.heap.size w w' := by
  have hmk : ∀ w, (Instr.makeSlice 77 (.int .i64 0) (.int .i64 0)).run Try.prog w = .ok (.slice (some ⟨w.heap.size, 0, none⟩) 0 0) (w.alloc (.cells #[] 166)) := fun _ => by kernel_rfl
  have HMK := Lib.hid hmk; clear hmk
  go_enter Try.func72, Try.ntmps72
  go_wp2_with fail
  go_loopw [3] (fun i wr => i = .int .i64 0 ∧ Hid (Below w.heap.size w wr)) (fun _ _ => 0)
  case atStart => exact ⟨rfl, Below.refl _ _⟩
  case round =>
    obtain ⟨rfl, B⟩ := hrel
    have hmk := HMK.out
    go_wp2_with fail
    have B1 := Lib.hid (B.out.alloc B.out.size (.cells #[] 166)); clear B hmk
    go_loopw [6] (fun i wr => i = .int .i64 0 ∧ Hid (Below w.heap.size w wr)) (fun _ _ => 0)
    case atStart => exact ⟨rfl, B1.out⟩
    case round =>
      clear B1
      obtain ⟨rfl, B⟩ := hrel
      go_wp2_with fail
      have B2 := B; clear B
      go_loopw [9] (fun i wr => i = .int .i64 0 ∧ Hid (Below w.heap.size w wr)) (fun _ _ => 0)
      case atStart => exact ⟨rfl, B2.out⟩
      case round =>
        clear B2
        obtain ⟨rfl, B⟩ := hrel
        go_wp2_with fail
        have B3 := B; clear B
        go_loopw [11] (fun i wr => i = .int .i64 0 ∧ Hid (Below w.heap.size w wr)) (fun _ _ => 0)
        case atStart => exact ⟨rfl, B3.out⟩
        case round =>
          clear B3
          obtain ⟨rfl, B⟩ := hrel
          go_wp2_with fail
          have B4 := B; clear B
          go_loopw [14] (fun i wr => i = .int .i64 0 ∧ Hid (Below w.heap.size w wr)) (fun _ _ => 0)
          case atStart => exact ⟨rfl, B4.out⟩
          case round =>
            clear B4
            obtain ⟨rfl, B⟩ := hrel
            go_wp2
            go_ret
            exact ⟨rfl, B.out⟩

set_option maxRecDepth 100000 in
set_option maxHeartbeats 2000000 in
theorem kit_flatShardRefs_nil (w : World) : Calls Try.prog 73 #[.slice none 0 0] w fun e w' => e = .returned (.bool true) ∧ Below w.heap.size w w' := by
  have hmk : ∀ w, (Instr.makeSlice 78 (.int .i64 0) (.int .i64 0)).run Try.prog w = .ok (.slice (some ⟨w.heap.size, 0, none⟩) 0 0) (w.alloc (.cells #[] 171)) := fun _ => by kernel_rfl
  have HMK := Lib.hid hmk; clear hmk
  go_enter Try.func73, Try.ntmps73
  go_wp2_with fail
  go_loopw [3] (fun i wr => i = .int .i64 0 ∧ Hid (Below w.heap.size w wr)) (fun _ _ => 0)
  case atStart => exact ⟨rfl, Below.refl _ _⟩
  case round =>
    obtain ⟨rfl, B⟩ := hrel
    have hmk := HMK.out
    go_wp2_with fail
    have B1 := Lib.hid (B.out.alloc B.out.size (.cells #[] 171)); clear B hmk
    go_loopw [6] (fun i wr => i = .int .i64 0 ∧ Hid (Below w.heap.size w wr)) (fun _ _ => 0)
    case atStart => exact ⟨rfl, B1.out⟩
    case round =>
      clear B1
      obtain ⟨rfl, B⟩ := hrel
      go_wp2_with fail
      have B2 := B; clear B
      go_loopw [9] (fun i wr => i = .int .i64 0 ∧ Hid (Below w.heap.size w wr)) (fun _ _ => 0)
      case atStart => exact ⟨rfl, B2.out⟩
      case round =>
        clear B2
        obtain ⟨rfl, B⟩ := hrel
        go_wp2_with fail
        have B3 := B; clear B
        go_loopw [11] (fun i wr => i = .int .i64 0 ∧ Hid (Below w.heap.size w wr)) (fun _ _ => 0)
        case atStart => exact ⟨rfl, B3.out⟩
        case round =>
          clear B3
          obtain ⟨rfl, B⟩ := hrel
          go_wp2_with fail
          have B4 := B; clear B
          go_loopw [14] (fun i wr => i = .int .i64 0 ∧ Hid (Below w.heap.size w wr)) (fun _ _ => 0)
          case atStart => exact ⟨rfl, B4.out⟩
          case round =>
            clear B4
            obtain ⟨rfl, B⟩ := hrel
            go_wp2
            go_ret
            exact ⟨rfl, B.out⟩

set_option maxRecDepth 100000 in
set_option maxHeartbeats 2000000 in
theorem kit_flatManifests_nil (w : World) : Calls Try.prog 74 #[.slice none 0 0] w fun e w' => e = .returned (.bool true) ∧ Below w.heap.size w w' := by
  have hmk : ∀ w, (Instr.makeSlice 79 (.int .i64 0) (.int .i64 0)).run Try.prog w = .ok (.slice (some ⟨w.heap.size, 0, none⟩) 0 0) (w.alloc (.cells #[] 176)) := fun _ => by kernel_rfl
  have HMK := Lib.hid hmk; clear hmk
  go_enter Try.func74, Try.ntmps74
  go_wp2_with fail
  go_loopw [3] (fun i wr => i = .int .i64 0 ∧ Hid (Below w.heap.size w wr)) (fun _ _ => 0)
  case atStart => exact ⟨rfl, Below.refl _ _⟩
  case round =>
    obtain ⟨rfl, B⟩ := hrel
    have hmk := HMK.out
    go_wp2_with fail
    have B1 := Lib.hid (B.out.alloc B.out.size (.cells #[] 176)); clear B hmk
    go_loopw [6] (fun i wr => i = .int .i64 0 ∧ Hid (Below w.heap.size w wr)) (fun _ _ => 0)
    case atStart => exact ⟨rfl, B1.out⟩
    case round =>
      clear B1
      obtain ⟨rfl, B⟩ := hrel
      go_wp2_with fail
      have B2 := B; clear B
      go_loopw [9] (fun i wr => i = .int .i64 0 ∧ Hid (Below w.heap.size w wr)) (fun _ _ => 0)
      case atStart => exact ⟨rfl, B2.out⟩
      case round =>
        clear B2
        obtain ⟨rfl, B⟩ := hrel
        go_wp2_with fail
        have B3 := B; clear B
        go_loopw [11] (fun i wr => i = .int .i64 0 ∧ Hid (Below w.heap.size w wr)) (fun _ _ => 0)
        case atStart => exact ⟨rfl, B3.out⟩
        case round =>
          clear B3
          obtain ⟨rfl, B⟩ := hrel
          go_wp2_with fail
          have B4 := B; clear B
          go_loopw [14] (fun i wr => i = .int .i64 0 ∧ Hid (Below w.heap.size w wr)) (fun _ _ => 0)
          case atStart => exact ⟨rfl, B4.out⟩
          case round =>
            clear B4
            obtain ⟨rfl, B⟩ := hrel
            go_wp2
            go_ret
            exact ⟨rfl, B.out⟩

set_option maxRecDepth 100000 in
set_option maxHeartbeats 2000000 in
theorem kit_flatAsks_nil (w : World) : Calls Try.prog 75 #[.slice none 0 0] w fun e w' => e = .returned (.bool true) ∧ Below w.heap.size w w' := by
  have hmk : ∀ w, (Instr.makeSlice 80 (.int .i64 0) (.int .i64 0)).run Try.prog w = .ok (.slice (some ⟨w.heap.size, 0, none⟩) 0 0) (w.alloc (.cells #[] 181)) := fun _ => by kernel_rfl
  have HMK := Lib.hid hmk; clear hmk
  go_enter Try.func75, Try.ntmps75
  go_wp2_with fail
  go_loopw [3] (fun i wr => i = .int .i64 0 ∧ Hid (Below w.heap.size w wr)) (fun _ _ => 0)
  case atStart => exact ⟨rfl, Below.refl _ _⟩
  case round =>
    obtain ⟨rfl, B⟩ := hrel
    have hmk := HMK.out
    go_wp2_with fail
    have B1 := Lib.hid (B.out.alloc B.out.size (.cells #[] 181)); clear B hmk
    go_loopw [6] (fun i wr => i = .int .i64 0 ∧ Hid (Below w.heap.size w wr)) (fun _ _ => 0)
    case atStart => exact ⟨rfl, B1.out⟩
    case round =>
      clear B1
      obtain ⟨rfl, B⟩ := hrel
      go_wp2_with fail
      have B2 := B; clear B
      go_loopw [9] (fun i wr => i = .int .i64 0 ∧ Hid (Below w.heap.size w wr)) (fun _ _ => 0)
      case atStart => exact ⟨rfl, B2.out⟩
      case round =>
        clear B2
        obtain ⟨rfl, B⟩ := hrel
        go_wp2_with fail
        have B3 := B; clear B
        go_loopw [11] (fun i wr => i = .int .i64 0 ∧ Hid (Below w.heap.size w wr)) (fun _ _ => 0)
        case atStart => exact ⟨rfl, B3.out⟩
        case round =>
          clear B3
          obtain ⟨rfl, B⟩ := hrel
          go_wp2_with fail
          have B4 := B; clear B
          go_loopw [14] (fun i wr => i = .int .i64 0 ∧ Hid (Below w.heap.size w wr)) (fun _ _ => 0)
          case atStart => exact ⟨rfl, B4.out⟩
          case round =>
            clear B4
            obtain ⟨rfl, B⟩ := hrel
            go_wp2
            go_ret
            exact ⟨rfl, B.out⟩

set_option maxRecDepth 100000 in
set_option maxHeartbeats 2000000 in
theorem kit_flatHits_nil (w : World) : Calls Try.prog 76 #[.slice none 0 0] w fun e w' => e = .returned (.bool true) ∧ Below w.heap.size w w' := by
  have hmk : ∀ w, (Instr.makeSlice 81 (.int .i64 0) (.int .i64 0)).run Try.prog w = .ok (.slice (some ⟨w.heap.size, 0, none⟩) 0 0) (w.alloc (.cells #[] 188)) := fun _ => by kernel_rfl
  have HMK := Lib.hid hmk; clear hmk
  go_enter Try.func76, Try.ntmps76
  go_wp2_with fail
  go_loopw [3] (fun i wr => i = .int .i64 0 ∧ Hid (Below w.heap.size w wr)) (fun _ _ => 0)
  case atStart => exact ⟨rfl, Below.refl _ _⟩
  case round =>
    obtain ⟨rfl, B⟩ := hrel
    have hmk := HMK.out
    go_wp2_with fail
    have B1 := Lib.hid (B.out.alloc B.out.size (.cells #[] 188)); clear B hmk
    go_loopw [6] (fun i wr => i = .int .i64 0 ∧ Hid (Below w.heap.size w wr)) (fun _ _ => 0)
    case atStart => exact ⟨rfl, B1.out⟩
    case round =>
      clear B1
      obtain ⟨rfl, B⟩ := hrel
      go_wp2_with fail
      have B2 := B; clear B
      go_loopw [9] (fun i wr => i = .int .i64 0 ∧ Hid (Below w.heap.size w wr)) (fun _ _ => 0)
      case atStart => exact ⟨rfl, B2.out⟩
      case round =>
        clear B2
        obtain ⟨rfl, B⟩ := hrel
        go_wp2_with fail
        have B3 := B; clear B
        go_loopw [11] (fun i wr => i = .int .i64 0 ∧ Hid (Below w.heap.size w wr)) (fun _ _ => 0)
        case atStart => exact ⟨rfl, B3.out⟩
        case round =>
          clear B3
          obtain ⟨rfl, B⟩ := hrel
          go_wp2_with fail
          have B4 := B; clear B
          go_loopw [14] (fun i wr => i = .int .i64 0 ∧ Hid (Below w.heap.size w wr)) (fun _ _ => 0)
          case atStart => exact ⟨rfl, B4.out⟩
          case round =>
            clear B4
            obtain ⟨rfl, B⟩ := hrel
            go_wp2
            go_ret
            exact ⟨rfl, B.out⟩

set_option maxRecDepth 100000 in
set_option maxHeartbeats 2000000 in
theorem kit_flatAnswers_nil (w : World) : Calls Try.prog 77 #[.slice none 0 0] w fun e w' => e = .returned (.bool true) ∧ Below w.heap.size w w' := by
  have hmk : ∀ w, (Instr.makeSlice 82 (.int .i64 0) (.int .i64 0)).run Try.prog w = .ok (.slice (some ⟨w.heap.size, 0, none⟩) 0 0) (w.alloc (.cells #[] 192)) := fun _ => by kernel_rfl
  have HMK := Lib.hid hmk; clear hmk
  go_enter Try.func77, Try.ntmps77
  go_wp2_with fail
  go_loopw [3] (fun i wr => i = .int .i64 0 ∧ Hid (Below w.heap.size w wr)) (fun _ _ => 0)
  case atStart => exact ⟨rfl, Below.refl _ _⟩
  case round =>
    obtain ⟨rfl, B⟩ := hrel
    have hmk := HMK.out
    go_wp2_with fail
    have B1 := Lib.hid (B.out.alloc B.out.size (.cells #[] 192)); clear B hmk
    go_loopw [6] (fun i wr => i = .int .i64 0 ∧ Hid (Below w.heap.size w wr)) (fun _ _ => 0)
    case atStart => exact ⟨rfl, B1.out⟩
    case round =>
      clear B1
      obtain ⟨rfl, B⟩ := hrel
      go_wp2_with fail
      have B2 := B; clear B
      go_loopw [9] (fun i wr => i = .int .i64 0 ∧ Hid (Below w.heap.size w wr)) (fun _ _ => 0)
      case atStart => exact ⟨rfl, B2.out⟩
      case round =>
        clear B2
        obtain ⟨rfl, B⟩ := hrel
        go_wp2_with fail
        have B3 := B; clear B
        go_loopw [11] (fun i wr => i = .int .i64 0 ∧ Hid (Below w.heap.size w wr)) (fun _ _ => 0)
        case atStart => exact ⟨rfl, B3.out⟩
        case round =>
          clear B3
          obtain ⟨rfl, B⟩ := hrel
          go_wp2_with fail
          have B4 := B; clear B
          go_loopw [14] (fun i wr => i = .int .i64 0 ∧ Hid (Below w.heap.size w wr)) (fun _ _ => 0)
          case atStart => exact ⟨rfl, B4.out⟩
          case round =>
            clear B4
            obtain ⟨rfl, B⟩ := hrel
            go_wp2
            go_ret
            exact ⟨rfl, B.out⟩

set_option maxRecDepth 100000 in
set_option maxHeartbeats 2000000 in
theorem kit_flatParts_nil (w : World) : Calls Try.prog 78 #[.slice none 0 0] w fun e w' => e = .returned (.bool true) ∧ Below w.heap.size w w' := by
  have hmk : ∀ w, (Instr.makeSlice 83 (.int .i64 0) (.int .i64 0)).run Try.prog w = .ok (.slice (some ⟨w.heap.size, 0, none⟩) 0 0) (w.alloc (.cells #[] 197)) := fun _ => by kernel_rfl
  have HMK := Lib.hid hmk; clear hmk
  go_enter Try.func78, Try.ntmps78
  go_wp2_with fail
  go_loopw [3] (fun i wr => i = .int .i64 0 ∧ Hid (Below w.heap.size w wr)) (fun _ _ => 0)
  case atStart => exact ⟨rfl, Below.refl _ _⟩
  case round =>
    obtain ⟨rfl, B⟩ := hrel
    have hmk := HMK.out
    go_wp2_with fail
    have B1 := Lib.hid (B.out.alloc B.out.size (.cells #[] 197)); clear B hmk
    go_loopw [6] (fun i wr => i = .int .i64 0 ∧ Hid (Below w.heap.size w wr)) (fun _ _ => 0)
    case atStart => exact ⟨rfl, B1.out⟩
    case round =>
      clear B1
      obtain ⟨rfl, B⟩ := hrel
      go_wp2_with fail
      have B2 := B; clear B
      go_loopw [9] (fun i wr => i = .int .i64 0 ∧ Hid (Below w.heap.size w wr)) (fun _ _ => 0)
      case atStart => exact ⟨rfl, B2.out⟩
      case round =>
        clear B2
        obtain ⟨rfl, B⟩ := hrel
        go_wp2_with fail
        have B3 := B; clear B
        go_loopw [11] (fun i wr => i = .int .i64 0 ∧ Hid (Below w.heap.size w wr)) (fun _ _ => 0)
        case atStart => exact ⟨rfl, B3.out⟩
        case round =>
          clear B3
          obtain ⟨rfl, B⟩ := hrel
          go_wp2_with fail
          have B4 := B; clear B
          go_loopw [14] (fun i wr => i = .int .i64 0 ∧ Hid (Below w.heap.size w wr)) (fun _ _ => 0)
          case atStart => exact ⟨rfl, B4.out⟩
          case round =>
            clear B4
            obtain ⟨rfl, B⟩ := hrel
            go_wp2
            go_ret
            exact ⟨rfl, B.out⟩

set_option maxRecDepth 100000 in
set_option maxHeartbeats 2000000 in
theorem kit_flatChanges_nil (w : World) : Calls Try.prog 79 #[.slice none 0 0] w fun e w' => e = .returned (.bool true) ∧ Below w.heap.size w w' := by
  have hmk : ∀ w, (Instr.makeSlice 84 (.int .i64 0) (.int .i64 0)).run Try.prog w = .ok (.slice (some ⟨w.heap.size, 0, none⟩) 0 0) (w.alloc (.cells #[] 202)) := fun _ => by kernel_rfl
  have HMK := Lib.hid hmk; clear hmk
  go_enter Try.func79, Try.ntmps79
  go_wp2_with fail
  go_loopw [3] (fun i wr => i = .int .i64 0 ∧ Hid (Below w.heap.size w wr)) (fun _ _ => 0)
  case atStart => exact ⟨rfl, Below.refl _ _⟩
  case round =>
    obtain ⟨rfl, B⟩ := hrel
    have hmk := HMK.out
    go_wp2_with fail
    have B1 := Lib.hid (B.out.alloc B.out.size (.cells #[] 202)); clear B hmk
    go_loopw [6] (fun i wr => i = .int .i64 0 ∧ Hid (Below w.heap.size w wr)) (fun _ _ => 0)
    case atStart => exact ⟨rfl, B1.out⟩
    case round =>
      clear B1
      obtain ⟨rfl, B⟩ := hrel
      go_wp2_with fail
      have B2 := B; clear B
      go_loopw [9] (fun i wr => i = .int .i64 0 ∧ Hid (Below w.heap.size w wr)) (fun _ _ => 0)
      case atStart => exact ⟨rfl, B2.out⟩
      case round =>
        clear B2
        obtain ⟨rfl, B⟩ := hrel
        go_wp2_with fail
        have B3 := B; clear B
        go_loopw [11] (fun i wr => i = .int .i64 0 ∧ Hid (Below w.heap.size w wr)) (fun _ _ => 0)
        case atStart => exact ⟨rfl, B3.out⟩
        case round =>
          clear B3
          obtain ⟨rfl, B⟩ := hrel
          go_wp2_with fail
          have B4 := B; clear B
          go_loopw [14] (fun i wr => i = .int .i64 0 ∧ Hid (Below w.heap.size w wr)) (fun _ _ => 0)
          case atStart => exact ⟨rfl, B4.out⟩
          case round =>
            clear B4
            obtain ⟨rfl, B⟩ := hrel
            go_wp2
            go_ret
            exact ⟨rfl, B.out⟩

end Go.Proofs.Ytkkilngihkdnaaa
