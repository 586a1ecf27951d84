/-
  The walks of the text's reference: each function returns what the plain law says, and turns nothing that lay there.
-/
import Derived.Test.YtkkilngihkdnaaaText
namespace Go.Proofs.Ytkkilngihkdnaaa
open Go.RowKit Go.Shelf
attribute [local go_sem] Oper.semAt_some

/-! ### the reference -/
set_option maxHeartbeats 400000 in
theorem ref_Line (v : Value) (xs : List Int) (p : Int) (w : World) (h : Rd w w.heap.size v (i64s xs)) :
    Calls Try.prog 17 #[v, .int .i64 p] w fun e w' => e = .returned (.int .i64 (lineN xs p)) ∧ w = w' := by
  have hl : xs.length ≤ 9223372036854775807 := by simpa [i64s] using h.len
  rcases h.i64 with ⟨⟨q, rfl⟩, rfl⟩ | ⟨b, off, cap, rfl, hb, hcl, hcm, hc⟩
  · go_enter Try.func17, Try.ntmps17
    go_wp2
    go_loop [5] (fun i => i = .int .i64 0) (fun _ => 0)
    case atStart => rfl
    case round =>
      subst hrel
      go_wp2
      go_ret
      exact ⟨rfl, rfl⟩
  · have Hc := Lib.hid hc; clear hc
    clear h
    go_enter Try.func17, Try.ntmps17
    go_wp2
    go_loop [5] (fun i => ∃ k : Nat, k ≤ xs.length ∧ i = .int .i64 k ∧ Hid (∀ j, j < k → xs.getD j 0 ≤ p)) (fun i => xs.length - (intOf i).toNat)
    case atStart => exact ⟨0, Nat.zero_le _, rfl, fun j h => by omega⟩
    case round =>
      obtain ⟨k, hk, rfl, Hp⟩ := hrel
      by_cases hlt : k < xs.length
      · have hcell := Hc.out k hlt
        obtain ⟨x, hx⟩ : ∃ x, xs[k] = x := ⟨_, rfl⟩
        rw [hx] at hcell
        have Hx := Lib.hid hx; clear hx
        by_cases hle : x ≤ p
        · go_wp2
          go_round
          case rel =>
            refine ⟨k + 1, by omega, by go_num, ?_⟩
            intro j hj
            by_cases e : j = k
            · subst e; simpa [hlt, Hx.out] using hle
            · exact Hp.out j (by omega)
          case measure => simp [intOf]; omega
        · go_wp2
          go_ret
          exact ⟨by rw [lineN_stop hlt Hp.out (by simpa [hlt, Hx.out] using hle)]; rfl, rfl⟩
      · obtain rfl : k = xs.length := by omega
        go_wp2
        go_ret
        exact ⟨by rw [lineN_all (fun j hj => Hp.out j (by omega))]; rfl, rfl⟩

set_option maxHeartbeats 400000 in
theorem ref_Lines (v : Value) (B : List Int) (w : World) (hB : B.length ≤ 4194304) (h : Rd w w.heap.size v (u8s B)) :
    Calls Try.prog 15 #[v] w fun e w' => ∃ r, e = .returned r ∧ w'.ownsRow w.heap.size 3 1 r (lines B).length (i64s (lines B)) ∧ Below w.heap.size w w' := by
  have hv : ∃ p c, v = .slice p B.length c := by rcases h.u8 with ⟨⟨q, h'⟩, rfl⟩ | ⟨b, off, cap, h', _⟩ <;> exact ⟨_, _, h'⟩
  obtain ⟨p, c, rfl⟩ := hv
  have H := Lib.hid h; clear h
  obtain ⟨i0, hi, hz0, hz1, hz2⟩ := info_parts info_int
  have ho1 := own_lit w w.heap.size 3 [.int .i64 0] (Nat.le_refl _) (by simp [maxLen])
  go_enter Try.func15, Try.ntmps15
  go_wp2
  go_loopw [3, 4] (fun v i wr => ∃ k : Nat, k ≤ B.length ∧ i = .int .i64 k ∧ Hid (wr.ownsRow w.heap.size 3 1 v (linesTo B k).length (i64s (linesTo B k)) ∧ Below w.heap.size w wr)) (fun _ i _ => B.length - (intOf i).toNat)
  case atStart => exact ⟨0, Nat.zero_le _, rfl, ho1, (Below.refl _ w).alloc (Nat.le_refl _) _⟩
  case round =>
    obtain ⟨k, hk, rfl, Ho⟩ := hrel
    clear ho1
    by_cases hlt : k < B.length
    · have hlen := linesTo_length B k
      rcases H.out.u8 with ⟨_, h'⟩ | ⟨b, off, cap, h, hb, hcl, hcm, hc⟩
      · subst h'; simp at hlt
      injection h with h1 h2 h3
      subst h1 h3
      have hcell : wr.cell? ⟨b, off + k, none⟩ = some (.int .u8 B[k]) := (Ho.out.2.cell (p := ⟨b, off + k, none⟩) hb).trans (hc k hlt)
      clear hc h2
      obtain ⟨x, hx⟩ : ∃ x, B[k] = x := ⟨_, rfl⟩
      rw [hx] at hcell
      have Hx := Lib.hid hx; clear hx
      by_cases h10 : x = 10
      · have hx1 : (x == 10) = true := by simp [h10]
        have hs : linesTo B (k + 1) = linesTo B k ++ [(k : Int) + 1] := linesTo_hit (by simp [hlt, Hx.out, h10])
        have Hs := Lib.hid hs; clear hs h10
        have hown := Ho.out.1
        have Hsz := Ho.out.2.size
        go_wp2_with (at_builtin; refine wpList_append_at _ rfl _ _ 23 rfl w.heap.size 3 i0 (.int .i64 0) 1 8 Try.underlying23 hi hz0 hz1 hz2 rfl (by decide) _ _ _ rfl (hown.alloc _) ⟨wr.heap.size, 0, none⟩ 1 1 [.int .i64 ((k : Int) + 1)] rfl rfl (cell_one_new _ _ _) (by simp [Value.oneCell']) (by unfold maxLen; omega) (by omega) (by simp; omega) (by decide) ?_; intro g' cap' w3 hown' hgrow hat')
        go_roundw
        case rel =>
          refine ⟨k + 1, by omega, by go_num, ?_, ?_⟩
          · rw [Hs.out]; simpa [i64s] using hown'
          · refine (Ho.out.2.alloc Hsz _).grown hgrow (by simp; omega) (fun j hj => (hown.lt j hj).1)
        case measure => simp [intOf]; omega
      · have hx1 : (x == 10) = false := by simp [h10]
        have hs : linesTo B (k + 1) = linesTo B k := linesTo_miss (by simpa [hlt, Hx.out] using h10)
        have Hs := Lib.hid hs; clear hs h10
        go_wp2
        go_roundw
        case rel => exact ⟨k + 1, by omega, by go_num, by rw [Hs.out]; exact Ho.out⟩
        case measure => simp [intOf]; omega
    · obtain rfl : k = B.length := by omega
      go_wp2
      go_ret
      exact ⟨_, rfl, Ho.out.1, Ho.out.2⟩

set_option maxHeartbeats 400000 in
theorem ref_Text_in (v v2 : Value) (B xs : List Int) (line : Int) (w : World) (h : Rd w w.heap.size v (u8s B)) (h2 : Rd w w.heap.size v2 (i64s xs)) (hline : 1 ≤ line ∧ line ≤ xs.length)
    (hs : 0 ≤ xs.getD (line - 1).toNat 0 ∧ xs.getD (line - 1).toNat 0 ≤ B.length) :
    Calls Try.prog 19 #[v, v2, .int .i64 line] w fun e w' => e = .returned (.string (strOfNums (lineFrom B (xs.getD (line - 1).toNat 0).toNat))) ∧ w = w' := by
  have hv : ∃ p c, v = .slice p B.length c := by rcases h.u8 with ⟨⟨q, h'⟩, rfl⟩ | ⟨b, off, cap, h', _⟩ <;> exact ⟨_, _, h'⟩
  have hBl : B.length ≤ 9223372036854775807 := by simpa [u8s] using h.len
  rcases h2.i64 with ⟨⟨q, rfl⟩, rfl⟩ | ⟨b2, off2, cap2, rfl, hb2, hcl2, hcm2, hc2⟩
  · simp at hline; omega
  · obtain ⟨k, rfl⟩ : ∃ k : Nat, line = (k : Int) + 1 := ⟨(line - 1).toNat, by omega⟩
    have hk : k < xs.length := by omega
    have hcell := hc2 k hk
    have hg : xs.getD ((k : Int) + 1 - 1).toNat 0 = xs[k] := by rw [show ((k : Int) + 1 - 1).toNat = k from by omega]; simp [hk]
    rw [hg] at hs
    rw [hg]
    clear h2 hc2 hg
    unfold maxLen at hcm2
    obtain ⟨s0, hs0⟩ : ∃ s, xs[k] = s := ⟨_, rfl⟩
    rw [hs0] at hcell hs
    rw [hs0]
    clear hs0
    obtain ⟨s, rfl⟩ : ∃ s : Nat, s0 = s := ⟨s0.toNat, by omega⟩
    have ek : (k : Int) + 1 - 1 = k := by omega
    obtain ⟨p, c, rfl⟩ := hv
    have H := Lib.hid h; clear h
    have Hle := nextFeed_le B s (by omega)
    have Hge : s ≤ nextFeed B s := by unfold nextFeed; omega
    have hcc : B.length ≤ c := by
      rcases H.out with ⟨⟨q, h⟩, h'⟩ | ⟨b, off, cap, h, _, hc, _⟩
      · injection h with _ h1 h2; omega
      · injection h with _ h1 h2; subst h2; simpa [u8s] using hc
    have hsl := run_slice_off (P := Try.prog) 22 5 Try.underlying22 (fun w => by kernel_rfl) p B.length c s (nextFeed B s) Hge (by omega)
    have hcv : (convert 22 9 (.slice (offA p c s) (nextFeed B s - s) (c - s))).run Try.prog w = .ok (.string (strOfNums (lineFrom B s))) w := by
      refine run_convert_rd w 22 5 9 Try.underlying22 Try.underlying5 Try.underlying9 (b0 := w.heap.size) ?_
      have := H.out.sub Hge Hle
      rw [lineFrom_eq_take]
      simpa [u8s, List.map_take, List.map_drop] using this
    have Hsl := Lib.hid hsl; clear hsl
    have Hcv := Lib.hid hcv; clear hcv
    have h1 : decide ((k : Int) + 1 < 1) = false := by simp; omega
    have h2 : decide ((xs.length : Int) < (k : Int) + 1) = false := by simp; omega
    have h3 : decide ((s : Int) < 0) = false := by simp
    have h4 : decide (B.length < s) = false := by simp; omega
    go_enter Try.func19, Try.ntmps19
    go_wp2
    go_loop [8] (fun i => ∃ j : Nat, s ≤ j ∧ j ≤ B.length ∧ i = .int .i64 j ∧ Hid (∀ m, s ≤ m → m < j → B.getD m 0 ≠ 10)) (fun i => B.length - (intOf i).toNat)
    case atStart => exact ⟨s, Nat.le_refl _, by omega, rfl, fun m h1 h2 => by omega⟩
    case round =>
      obtain ⟨j, hj1, hj2, rfl, Hp⟩ := hrel
      clear h1 h2 h3 h4
      have fin : nextFeed B s = j → (Instr.slice 22 (.slice p B.length c) (some (.int .i64 s)) (some (.int .i64 j)) none).run Try.prog w = .ok (.slice (offA p c s) (j - s) (c - s)) w ∧
          (convert 22 9 (.slice (offA p c s) (j - s) (c - s))).run Try.prog w = .ok (.string (strOfNums (lineFrom B s))) w := fun e => by
        subst e; exact ⟨Hsl.out w, Hcv.out⟩
      have Fin := Lib.hid fin; clear fin
      by_cases hlt : j < B.length
      · rcases H.out.u8 with ⟨_, h'⟩ | ⟨b, off, cap, h, hb, hcl, hcm, hc⟩
        · subst h'; simp at hlt
        injection h with h1 h2 h3
        subst h1 h3
        have hcellb := hc j hlt
        clear hc h2
        obtain ⟨x, hx⟩ : ∃ x, B[j] = x := ⟨_, rfl⟩
        rw [hx] at hcellb
        have Hx := Lib.hid hx; clear hx
        by_cases h10 : x = 10
        · have hx1 : (x != 10) = false := by simp [h10]
          have ⟨hsl, hcv⟩ := Fin.out (nextFeed_of hj1 hj2 Hp.out (fun _ => by simp [hlt, Hx.out, h10]))
          have H10 := Lib.hid h10; clear h10
          go_wp2
          go_ret
          exact ⟨rfl, rfl⟩
        · have hx1 : (x != 10) = true := by simp [h10]
          have H10 := Lib.hid h10; clear h10
          go_wp2
          go_round
          case rel =>
            refine ⟨j + 1, by omega, by omega, by go_num, ?_⟩
            intro m hm1 hm2
            by_cases e : m = j
            · subst e; simpa [hlt, Hx.out] using H10.out
            · exact Hp.out m hm1 (by omega)
          case measure => simp [intOf]; omega
      · have ⟨hsl, hcv⟩ := Fin.out (nextFeed_of hj1 hj2 Hp.out (fun h => by omega))
        go_wp2
        go_ret
        exact ⟨rfl, rfl⟩

theorem ref_Text_none (v v2 : Value) (xs : List Int) (line : Int) (w : World) (h2 : Rd w w.heap.size v2 (i64s xs)) (hline : ¬ (1 ≤ line ∧ line ≤ xs.length)) :
    Calls Try.prog 19 #[v, v2, .int .i64 line] w fun e w' => e = .returned (.string ⟨#[]⟩) ∧ w = w' := by
  have hv2 : ∃ p c, v2 = .slice p xs.length c := by rcases h2.i64 with ⟨⟨q, h⟩, rfl⟩ | ⟨b, off, cap, h, _⟩ <;> exact ⟨_, _, h⟩
  obtain ⟨p, c, rfl⟩ := hv2
  have hl : xs.length ≤ 9223372036854775807 := by simpa [i64s] using h2.len
  clear h2
  by_cases h1 : line < 1
  · have h1' : decide (line < 1) = true := by simpa using h1
    go_enter Try.func19, Try.ntmps19
    go_wp2
    go_ret
    exact ⟨rfl, rfl⟩
  · have h3 : (xs.length : Int) < line := by omega
    have h1' : decide (line < 1) = false := by simpa using h1
    have h3' : decide ((xs.length : Int) < line) = true := by simpa using h3
    clear hline h1 h3
    go_enter Try.func19, Try.ntmps19
    go_wp2
    go_ret
    exact ⟨rfl, rfl⟩

set_option maxHeartbeats 400000 in
theorem ref_Text_out (v v2 : Value) (B xs : List Int) (line : Int) (w : World) (h : Rd w w.heap.size v (u8s B)) (h2 : Rd w w.heap.size v2 (i64s xs)) (hline : 1 ≤ line ∧ line ≤ xs.length)
    (hs : ¬ (0 ≤ xs.getD (line - 1).toNat 0 ∧ xs.getD (line - 1).toNat 0 ≤ B.length)) :
    Calls Try.prog 19 #[v, v2, .int .i64 line] w fun e w' => e = .returned (.string ⟨#[]⟩) ∧ w = w' := by
  have hv : ∃ p c, v = .slice p B.length c := by rcases h.u8 with ⟨⟨q, h'⟩, rfl⟩ | ⟨b, off, cap, h', _⟩ <;> exact ⟨_, _, h'⟩
  obtain ⟨p, c, rfl⟩ := hv
  have hBl : B.length ≤ 9223372036854775807 := by simpa [u8s] using h.len
  clear h
  rcases h2.i64 with ⟨⟨q, rfl⟩, rfl⟩ | ⟨b, off, cap, rfl, hb, hcl, hcm, hc⟩
  · simp at hline; omega
  · obtain ⟨k, rfl⟩ : ∃ k : Nat, line = (k : Int) + 1 := ⟨(line - 1).toNat, by omega⟩
    have hk : k < xs.length := by omega
    have hcell := hc k hk
    have hg : xs.getD ((k : Int) + 1 - 1).toNat 0 = xs[k] := by rw [show ((k : Int) + 1 - 1).toNat = k from by omega]; simp [hk]
    rw [hg] at hs
    clear h2 hc hg
    unfold maxLen at hcm
    obtain ⟨s, hs0⟩ : ∃ s, xs[k] = s := ⟨_, rfl⟩
    rw [hs0] at hcell hs
    clear hs0
    have ek : (k : Int) + 1 - 1 = k := by omega
    have h1 : decide ((k : Int) + 1 < 1) = false := by simp; omega
    have h2 : decide ((xs.length : Int) < (k : Int) + 1) = false := by simp; omega
    by_cases hneg : s < 0
    · have h3 : decide (s < 0) = true := by simpa using hneg
      clear hs hneg
      go_enter Try.func19, Try.ntmps19
      go_wp2
      go_ret
      exact ⟨rfl, rfl⟩
    · have h3 : decide (s < 0) = false := by simpa using hneg
      have h4 : decide ((B.length : Int) < s) = true := by simp; omega
      clear hs hneg
      go_enter Try.func19, Try.ntmps19
      go_wp2
      go_ret
      exact ⟨rfl, rfl⟩

theorem ref_Text (v v2 : Value) (B xs : List Int) (line : Int) (w : World) (h : Rd w w.heap.size v (u8s B)) (h2 : Rd w w.heap.size v2 (i64s xs)) :
    Calls Try.prog 19 #[v, v2, .int .i64 line] w fun e w' => e = .returned (.string (strOfNums (textN B xs line))) ∧ w = w' := by
  unfold textN
  split
  · rename_i hl
    simp only
    split
    · rename_i hs
      exact ref_Text_in v v2 B xs line w h h2 hl hs
    · rename_i hs
      exact ref_Text_out v v2 B xs line w h h2 hl hs
  · rename_i hl
    exact ref_Text_none v v2 xs line w h2 hl

end Go.Proofs.Ytkkilngihkdnaaa
