/-
  The kit's ApartInts.
-/
import Derived.Test.YtkkilngihkdnaaaApartInts
namespace Go.Proofs.Ytkkilngihkdnaaa
open Go.RowKit Go.Shelf
attribute [local go_sem] Oper.semAt_some
set_option linter.unusedSimpArgs false

def bagC (lsv : Value) : Array Value := #[.slice none 0 0, .slice none 0 0, lsv, .slice none 0 0, .slice none 0 0, .slice none 0 0, .slice none 0 0, .slice none 0 0, .slice none 0 0, .slice none 0 0, .slice none 0 0, .slice none 0 0, .slice none 0 0, .slice none 0 0, .slice none 0 0, .slice none 0 0, .slice none 0 0, .slice none 0 0, .slice none 0 0, .slice none 0 0, .slice none 0 0]
def Bag (W : World) (B : Nat) (lsv : Value) : Prop := W.heap[B]? = some (.cells (bagC lsv) 86 (0, 0))
theorem Bag.lt {W : World} {B : Nat} {lsv : Value} (h : Bag W B lsv) : B < W.heap.size := (Array.getElem?_eq_some_iff.1 h).1
theorem Bag.cell {W : World} {B : Nat} {lsv : Value} (h : Bag W B lsv) {k : Nat} (hk : k < 21) : W.cell? ⟨B, k, none⟩ = some (bagV lsv k) := by
  rw [cell_of_row W B k _ _ _ h]
  have : ∀ k, k < 21 → (bagC lsv)[k]? = some (bagV lsv k) := by
    intro k hk
    match k, hk with
    | 0, _ => rfl
    | 1, _ => rfl
    | 2, _ => rfl
    | 3, _ => rfl
    | 4, _ => rfl
    | 5, _ => rfl
    | 6, _ => rfl
    | 7, _ => rfl
    | 8, _ => rfl
    | 9, _ => rfl
    | 10, _ => rfl
    | 11, _ => rfl
    | 12, _ => rfl
    | 13, _ => rfl
    | 14, _ => rfl
    | 15, _ => rfl
    | 16, _ => rfl
    | 17, _ => rfl
    | 18, _ => rfl
    | 19, _ => rfl
    | 20, _ => rfl
    | k + 21, hk => exact absurd hk (by omega)
  exact this k hk
theorem Bag.frozen {W : World} {B : Nat} {lsv : Value} (h : Bag W B lsv) (k : Nat) : W.frozen? ⟨B, k, none⟩ = false := by
  simp [World.frozen?, show W.heap[B]? = _ from h]
theorem Bag.set {W : World} {B : Nat} {lsv : Value} (h : Bag W B lsv) (x : Value) : Bag (W.setCell ⟨B, 2, none⟩ x) B x := by
  obtain ⟨hlt, hh⟩ := Array.getElem?_eq_some_iff.1 h
  show (W.heap.modify B _)[B]? = _
  rw [Array.getElem?_eq_getElem (by rw [Array.size_modify]; exact hlt), Array.getElem_modify_self, hh]
  rfl
theorem Bag.kept {W W' : World} {B : Nat} {lsv : Value} {row : Option Nat} (h : Bag W B lsv) (hg : W.grownBy W' row) (hr : row ≠ some B) : Bag W' B lsv := (hg.block B h.lt (fun e => hr e.symm)).trans h
theorem Bag.below {W W' : World} {B : Nat} {lsv : Value} (h : Bag W B lsv) (hb : Below W.heap.size W W') : Bag W' B lsv := (hb.block B h.lt).trans h
theorem Bag.ne {W : World} {B : Nat} {lsv : Value} (h : Bag W B lsv) {base : Nat} {e : TypeId} {s : Nat} {v : Value} {n : Nat} {xs : List Value} (ho : W.ownsRow base e s v n xs) (hne : e ≠ 86) : v.ownBlock ≠ some B := by
  intro hb
  obtain ⟨_, _, cur, hc⟩ := own_block ho hb
  rw [show W.heap[B]? = _ from h] at hc
  cases hc
  exact hne rfl

set_option maxRecDepth 100000 in
set_option maxHeartbeats 2000000 in
theorem kit_putInts (B b0 k : Nat) (lsv l : Value) (xs : List Value) (w : World) (hk : k ≤ 1000) (hbag : Bag w B lsv) (hown : w.ownsRow b0 23 1 lsv k xs) (hb0 : b0 ≤ B) (hl : ∃ p n c, l = .slice p n c) :
    Calls Try.prog 43 #[.pointer (some ⟨B, 0, none⟩), l] w fun e w' => e = .returned (.tuple #[]) ∧ ∃ lsv', Bag w' B lsv' ∧ w'.ownsRow b0 23 1 lsv' (k + 1) (xs ++ [l]) ∧ Below b0 w w' := by
  obtain ⟨i3, hi3, hy0, hy1, hy2⟩ := info_parts info_ints
  obtain ⟨pl, nl, cl, rfl⟩ := hl
  obtain ⟨pv, cv, rfl⟩ := own_form hown
  have hlt := hbag.lt
  have HB := Lib.hid hbag; clear hbag
  have HO := Lib.hid hown; clear hown
  go_enter Try.func43, Try.ntmps43
  go_upto_region 0 with fail
  refine wp_region_seq 7 [fun v _ => v = .pointer (some ⟨B, 0, none⟩), fun v _ => v = .pointer (some ⟨B, 0, none⟩), fun v _ => v = .pointer (some ⟨B, 0, none⟩), fun v _ => v = .pointer (some ⟨B, 2, none⟩), fun v _ => v = .slice pv k cv, fun v _ => v = .slice pl nl cl, OneV 23 (.slice pl nl cl)] (fun _ => false) (by kernel_rfl) (by kernel_rfl) ⟨stable_eq _, stable_eq _, stable_eq _, stable_eq _, stable_eq _, stable_eq _, stable_oneV _ _, trivial⟩ (fun _ _ h => by cases h) ?ob ?en
  case ob =>
    refine ⟨?_, ?_, ?_, ?_, ?_, ?_, ?_, trivial⟩ <;> intro A W h
    · exact rs_move rfl rfl (h.frame 0 rfl) (by decide)
    · exact rs_move rfl rfl (h.frame 0 rfl) (by decide)
    · (have e5 : A.eval (.tmp 5) = .pointer (some ⟨B, 0, none⟩) := h.dep 1 5 rfl rfl; refine rs_pure rfl ?_ (by decide); simp only [execOp, e5]; simp [go_sem])
    · (have e6 : A.eval (.tmp 6) = .pointer (some ⟨B, 0, none⟩) := h.dep 2 6 rfl rfl; refine rs_pure rfl ?_ (by decide); simp only [execOp, e6]; simp [go_sem])
    · (have e7 : A.eval (.tmp 7) = .pointer (some ⟨B, 2, none⟩) := h.dep 3 7 rfl rfl; refine rs_pure rfl ?_ (by decide); simp only [execOp, e7]; (have q := (HB.out.below h.below).cell (k := 2) (by omega); simp [bagV] at q; simp [go_sem, q]))
    · exact rs_move rfl rfl (h.frame 1 rfl) (by decide)
    · exact rs_build1v rfl rfl (h.dep 5 9 rfl rfl) (fun W => by simp [go_sem]) (by decide)
  case en =>
    intro vals W hbw hv _
    have v0 : vals 0 = .pointer (some ⟨B, 0, none⟩) := hv 0 (by omega)
    have v1 : vals 1 = .pointer (some ⟨B, 0, none⟩) := hv 1 (by omega)
    have v2 : vals 2 = .pointer (some ⟨B, 0, none⟩) := hv 2 (by omega)
    have v3 : vals 3 = .pointer (some ⟨B, 2, none⟩) := hv 3 (by omega)
    have v4 : vals 4 = .slice pv k cv := hv 4 (by omega)
    have v5 : vals 5 = .slice pl nl cl := hv 5 (by omega)
    have x6 := hv 6 (by omega); simp only [lookS] at x6
    simp only [List.take_succ_cons, List.take_zero, List.drop_succ_cons, List.drop_zero, List.drop_nil, List.take_nil, fillAll, Nat.zero_add, Nat.reduceAdd]
    rw [v0, v1, v2, v3, v4, v5]
    clear hv v0 v1 v2 v3 v4 v5
    simp only [put_lit, List.setIfInBounds_toArray, List.set_cons_succ, List.set_cons_zero]
    obtain ⟨gb, e6, s6⟩ := x6
    rw [e6]
    have o1 := own_below HO.out hbw
    have b1 := HB.out.below hbw
    have hs := hbw.size
    refine wpList_append_two W rfl _ _ 33 rfl b0 23 i3 _ 1 24 Try.underlying33 hi3 hy0 hy1 hy2 rfl (by decide) (.slice pv k cv) k _ rfl o1 ⟨gb, 0, none⟩ 1 1 [.slice pl nl cl] rfl rfl (OneV.news s6) (by simp [Value.oneCell']) (by unfold maxLen; omega) (by omega) (by omega) (by decide) ?_
    intro v5 w5 own5 grow5
    have hany := grow5.any
    have b5 := b1.kept hany (b1.ne o1 (by decide))
    have bel5 : Below b0 w w5 := (hbw.mono (by omega)).grown hany (by omega) (fun g e => (own_block o1 e).2.1)
    have hne5 := b5.ne own5 (by decide)
    obtain ⟨p5, c5, rfl⟩ := own_form own5
    have hcell := b5.cell (k := 2) (by omega)
    have hf := b5.frozen 2
    have B6 := Lib.hid (b5.set (.slice p5 (k + 1) c5))
    have O6 := Lib.hid (own_kept' own5 (grownBy_setCellF w5 B 2 (.slice p5 (k + 1) c5)) (fun g e => by cases e; exact hne5))
    have BL6 := Lib.hid (bel5.setCell (p := ⟨B, 2, none⟩) (by omega) (.slice p5 (k + 1) c5))
    clear o1 b1 own5 grow5 hany b5 bel5 hne5 hbw s6
    go_wp2
    go_end0
    exact ⟨rfl, _, B6.out, O6.out, BL6.out⟩

set_option maxRecDepth 100000 in
set_option maxHeartbeats 4000000 in
theorem kit_ApartInts (G cap K base : Nat) (V : Nat → Value) (N : Nat → Nat) (X : Nat → List Value) (w : World) (hK : K ≤ 1000) (hK0 : 0 < K) (hN : ∀ j, j < K → N j ≤ 4194304) (hG : G < w.heap.size) (hcell : ∀ k, k < K → w.cell? ⟨G, k, none⟩ = some (V k))
    (hbase : base ≤ w.heap.size) (hfam : Fam 3 1 base w K V V N N X X) :
    Calls Try.prog 22 #[.slice (some ⟨G, 0, none⟩) K cap] w fun e w' => e = .returned (.bool true) ∧ KeepBut (Mine K V) w.heap.size w w' ∧ ∃ X', Fam 3 1 base w' K V V N N X' X' := by
  have HC := Lib.hid hcell; clear hcell
  have HF := Lib.hid hfam; clear hfam
  have HN := Lib.hid hN; clear hN
  go_enter Try.func22, Try.ntmps22
  go_wp2_with fail
  have hb1 : Bag (w.alloc (.cells (bagC (.slice none 0 0)) 86)) w.heap.size (.slice none 0 0) := World.alloc_heap_new w _
  have bel1 : Below w.heap.size w (w.alloc (.cells (bagC (.slice none 0 0)) 86)) := (Below.refl _ w).alloc (Nat.le_refl _) _
  have HB1 := Lib.hid hb1; clear hb1
  have BL1 := Lib.hid bel1; clear bel1
  go_loopw [4] (fun n wr => ∃ k : Nat, k ≤ K ∧ n = .int .i64 k ∧ Hid (∃ lsv, Bag wr w.heap.size lsv ∧ wr.ownsRow w.heap.size 23 1 lsv k (rowV V k) ∧ Below w.heap.size w wr)) (fun n _ => K - (intOf n).toNat)
  case atStart => exact ⟨0, by omega, rfl, _, HB1.out, ⟨rfl, .inl ⟨rfl, rfl⟩⟩, BL1.out⟩
  case round =>
    clear HB1 BL1
    obtain ⟨k, hk, rfl, S⟩ := hrel
    obtain ⟨lsv, S⟩ : ∃ lsv, Hid (Bag wr w.heap.size lsv ∧ wr.ownsRow w.heap.size 23 1 lsv k (rowV V k) ∧ Below w.heap.size w wr) := by obtain ⟨l, h⟩ := S.out; exact ⟨l, h⟩
    by_cases hlt : k < K
    · have ck := Lib.hid (HC.out k hlt)
      obtain ⟨pk, ck2, hV⟩ : ∃ p c, V k = .slice p (N k) c := own_form (HF.out.v k hlt)
      have HR : Hid (rowV V (k + 1) = rowV V k ++ [V k]) := by show _ = _; simp [rowV, List.range_succ]
      rw [hV] at ck HR
      clear hV
      go_upto_region 5 with fail
      refine wp_region_seq 5 [fun v _ => v = .pointer (some ⟨w.heap.size, 0, none⟩), fun v _ => v = .slice (some ⟨G, 0, none⟩) K cap, fun v _ => v = .int .i64 (k : Int), fun v _ => v = .pointer (some ⟨G, k, none⟩), fun v _ => v = .slice pk (N k) ck2] (fun _ => false) (by kernel_rfl) (by kernel_rfl) ⟨stable_eq _, stable_eq _, stable_eq _, stable_eq _, stable_eq _, trivial⟩ (fun _ _ h => by cases h) ?ob ?en
      case ob =>
        refine ⟨?_, ?_, ?_, ?_, ?_, trivial⟩ <;> intro A W h
        · exact rs_move rfl rfl (h.frame 3 rfl) (by decide)
        · exact rs_move rfl rfl (h.frame 0 rfl) (by decide)
        · exact rs_move rfl rfl (h.frame 4 rfl) (by decide)
        · exact rs_idx (sz := 1) Try.underlying33 (fun w => by kernel_rfl) rfl rfl (h.dep 1 14 rfl rfl) (h.dep 2 15 rfl rfl) (by omega) (by omega) (by decide)
        · (have e16 : A.eval (.tmp 16) = .pointer (some ⟨G, k, none⟩) := h.dep 3 16 rfl rfl; refine rs_pure rfl ?_ (by decide); simp only [execOp, e16]; (have q := ((S.out.2.2.trans (h.below.mono S.out.2.2.size)).cell (p := ⟨G, k, none⟩) hG).trans ck.out; simp [go_sem, q]))
      case en =>
        intro vals W1 hbw hv _
        have v0 : vals 0 = .pointer (some ⟨w.heap.size, 0, none⟩) := hv 0 (by omega)
        have v1 : vals 1 = .slice (some ⟨G, 0, none⟩) K cap := hv 1 (by omega)
        have v2 : vals 2 = .int .i64 (k : Int) := hv 2 (by omega)
        have v3 : vals 3 = .pointer (some ⟨G, k, none⟩) := hv 3 (by omega)
        have v4 : vals 4 = .slice pk (N k) ck2 := hv 4 (by omega)
        simp only [List.take_succ_cons, List.take_zero, List.drop_succ_cons, List.drop_zero, List.drop_nil, List.take_nil, fillAll, Nat.zero_add, Nat.reduceAdd]
        rw [v0, v1, v2, v3, v4]
        clear hv v0 v1 v2 v3 v4
        simp only [put_lit, List.setIfInBounds_toArray, List.set_cons_succ, List.set_cons_zero]
        have S1 := Lib.hid (And.intro (S.out.1.below hbw) (And.intro (own_below S.out.2.1 hbw) (S.out.2.2.trans (hbw.mono S.out.2.2.size))))
        clear hbw S
        go_wp2_with fail
        refine (kit_putInts w.heap.size w.heap.size k lsv _ _ W1 (by omega) S1.out.1 S1.out.2.1 (Nat.le_refl _) ⟨_, _, _, rfl⟩).mono ?_
        rintro e w2 ⟨rfl, lsv2, s1, s2, s3⟩
        have S2 : Hid (Bag w2 w.heap.size lsv2 ∧ w2.ownsRow w.heap.size 23 1 lsv2 (k + 1) (rowV V (k + 1)) ∧ Below w.heap.size w w2) := ⟨s1, by rw [HR.out]; exact s2, S1.out.2.2.trans s3⟩
        clear s1 s2 s3 S1
        go_wp2_with fail
        go_roundw
        case rel => exact ⟨k + 1, by omega, by go_num, lsv2, S2.out⟩
        case measure => simp [intOf]; omega
    · obtain rfl : K = k := by omega
      have hsz := S.out.2.2.size
      have hnm : ¬ Mine K V w.heap.size := by
        rintro ⟨j, hj, hb⟩
        have := (own_block (HF.out.v j hj) hb).1
        omega
      have hrows : RowsAt base lsv K V N wr := ⟨X, own_base S.out.2.1 hbase, HF.out.below S.out.2.2⟩
      have hform := own_form S.out.2.1
      have HRW := Lib.hid hrows; clear hrows
      have HNM := Lib.hid hnm; clear hnm
      have HFM := Lib.hid hform; clear hform
      go_wp2_with fail
      refine (kit_apart lsv K base w.heap.size V N wr hK HN.out HRW.out (by omega) S.out.1.lt HNM.out (fun k hk => S.out.1.cell hk) (by obtain ⟨p, c, h⟩ := HFM.out; exact ⟨p, _, c, h⟩)).mono ?_
      rintro e w' ⟨rfl, hrel2⟩
      have R := Lib.hid hrel2; clear hrel2
      go_wp2
      go_ret
      obtain ⟨X', _, hfam'⟩ := R.out.2 HRW.out
      exact ⟨rfl, (KeepBut.of_below S.out.2.2).trans (R.out.1.mono hsz (fun _ _ h => h)), X', hfam'⟩

end Go.Proofs.Ytkkilngihkdnaaa
