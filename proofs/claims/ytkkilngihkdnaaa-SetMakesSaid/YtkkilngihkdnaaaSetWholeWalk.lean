/-
  SetWhole: the walk.
-/
import Derived.Test.YtkkilngihkdnaaaSetLaw
import Derived.Test.YtkkilngihkdnaaaSetWholePlain
import Derived.Test.YtkkilngihkdnaaaRegion2
import Derived.Deep.CutRange
namespace Go.Proofs.Ytkkilngihkdnaaa
open Go.RowKit Go.Shelf
set_option linter.unusedSimpArgs false
attribute [local go_sem] Oper.semAt_some

theorem pairC_get0 {L : List (Int × Int)} {j : Nat} (hj : j < L.length) : (pairC L)[j * 2]? = some (.int .u8 L[j].1) := by
  induction L generalizing j with
  | nil => simp at hj
  | cons p L ih =>
    cases j with
    | zero => simp [pairC]
    | succ j =>
      have := ih (j := j) (by simpa using hj)
      rw [show (j + 1) * 2 = j * 2 + 2 from by omega]
      simpa [pairC] using this
theorem pairC_get1 {L : List (Int × Int)} {j : Nat} (hj : j < L.length) : (pairC L)[j * 2 + 1]? = some (.int .u8 L[j].2) := by
  induction L generalizing j with
  | nil => simp at hj
  | cons p L ih =>
    cases j with
    | zero => simp [pairC]
    | succ j =>
      have := ih (j := j) (by simpa using hj)
      rw [show (j + 1) * 2 + 1 = j * 2 + 1 + 2 from by omega]
      simpa [pairC] using this

theorem rowC_snoc (L : List (Nat → Nat)) (s : Nat → Nat) : rowC (L ++ [s]) = rowC L ++ (setC s).toList := by simp [rowC]
theorem RdS.of_own {w : World} {base : Nat} {e : TypeId} {v : Value} {n : Nat} {L : List (Nat → Nat)} (hn : L.length = n) (h : w.ownsRow base e 4 v n (rowC L)) : RdS w w.heap.size v L := by
  subst hn
  rcases h.2 with ⟨rfl, h2⟩ | ⟨g, cap, cur, rfl, hb, hg, hc, hm, hs, ht⟩
  · refine .inl ⟨⟨none, rfl⟩, ?_⟩
    have := rowC_length L
    rw [h2] at this
    exact List.eq_nil_of_length_eq_zero (by simp at this; omega)
  · refine .inr ⟨g, 0, cap, rfl, (Array.getElem?_eq_some_iff.1 hg).1, hc, hm, fun j hj k hk => ?_⟩
    rw [own_cell h (by omega), Nat.zero_add]
    exact rowC_get hj hk
theorem sbox_news {w : World} {g : Nat} {T : TypeId} {s : Nat → Nat} (h : SBox w g T s) : ∀ (j : Nat) u, (setC s).toList[j]? = some u → w.cell? ((⟨g, 0, none⟩ : Addr).add j) = some u := by
  intro j u hu
  match j, hu with
  | 0, hu => exact (h.cell (k := 0) (by omega)).trans hu
  | 1, hu => exact (h.cell (k := 1) (by omega)).trans hu
  | 2, hu => exact (h.cell (k := 2) (by omega)).trans hu
  | 3, hu => exact (h.cell (k := 3) (by omega)).trans hu
  | k + 4, hu => simp [setC] at hu
def BytesW (s : Nat → Nat) (v : Value) (w : World) : Prop := Rd w w.heap.size v ((bytesS s).map (.int .u8)) ∧ ∃ p c, v = .slice p (bytesS s).length c
theorem stable_bytesW (s : Nat → Nat) : Stable (BytesW s) := fun _ _ _ ⟨h, h2⟩ hb => ⟨(h.below hb).up hb.size, h2⟩
theorem set_Bytes_w (s : Nat → Nat) (hs : SetOk s) (W : World) : Calls Try.prog 37 #[setV s] W fun e w' => ∃ v, e = .returned v ∧ Below W.heap.size W w' ∧ BytesW s v w' ∧ (false = true → W.heap.size ≤ blk v) := by
  refine (set_Bytes s hs W).mono ?_
  rintro e w' ⟨r, rfl, hown, hb⟩
  refine ⟨r, rfl, hb, ⟨Rd.of_own hown, ?_⟩, fun h => by cases h⟩
  rcases hown.2 with ⟨h, h'⟩ | ⟨g, cap, cur, h, _⟩
  · exact ⟨none, 0, by rw [h, h']⟩
  · exact ⟨_, _, h⟩
theorem bytesS_range (s : Nat → Nat) : ∀ x ∈ bytesS s, 0 ≤ x ∧ x ≤ 255 := by
  intro x hx
  obtain ⟨n, hn, rfl, _⟩ := bytesS_mem hx
  omega
theorem info_set : (Try.prog.info? 39).map (fun i => (i.zero, i.size, i.bytes)) = some (some (.agg #[.int .u64 0, .int .u64 0, .int .u64 0, .int .u64 0]), 4, 32) := by kernel_rfl
def OneS (s : Nat → Nat) (v : Value) (w : World) : Prop := ∃ g, v = .slice (some ⟨g, 0, none⟩) 1 1 ∧ SBox w g 39 s
theorem stable_oneS (s : Nat → Nat) : Stable (OneS s) := fun _ _ _ ⟨g, e, h⟩ hb => ⟨g, e, h.below hb h.lt⟩
theorem rs_build1 {ops : Array Oper} {o : Oper} {a : Act} {w : World} {x : Operand} {s : Nat → Nat} {D : Prop} (hg : Region.wanted o (yielded ops a.tmps) = true)
    (hop : o.op = Op.buildSlice 36 1 #[(0, x)]) (hx : a.eval x = setV s) (hD : ¬ D) :
    RStep Try.prog ops o a w (fun v w' => OneS s v w' ∧ (D → w.heap.size ≤ blk v)) := by
  refine rs_val hg (v := .slice (some ⟨w.heap.size, 0, none⟩) 1 1) (w' := w.alloc (.cells (setC s) 39)) ?_ ((Below.refl _ w).alloc (Nat.le_refl _) _)
    ⟨⟨w.heap.size, rfl, SBox.new w _ s⟩, fun h => (hD h).elim⟩
  simp only [execOp, hop]
  simp only [List.map_toArray, List.map_cons, List.map_nil, hx]
  unfold setV
  simp [go_sem]
  rfl

set_option maxRecDepth 100000 in
set_option maxHeartbeats 2000000 in
theorem walk_SetWhole (s : Nat → Nat) (w : World) (hs : SetOk s) : Calls Try.prog 8 #[setV s] w fun e w' => e = .returned (.bool true) ∧ Below w.heap.size w w' := by
  rw [show setV s = .agg #[.int .u64 (s 0), .int .u64 (s 1), .int .u64 (s 2), .int .u64 (s 3)] from rfl]
  have HS := Lib.hid hs; clear hs
  obtain ⟨i0, hi0, hz0, hz1, hz2⟩ := info_parts info_set
  have hg := rgood s 256 (Nat.le_refl _)
  have hwu := whole_union HS.out
  have hws := whole_sum s
  have hle := rangesF_len (bytesS s)
  rw [← countS_eq] at hle
  have hcl : countS s ≤ 256 := cntTo_le s 4
  go_enter Try.func8, Try.ntmps8
  go_wp2_with fail
  have a1 : SBox (w.alloc (.cells (setC s) 39)) w.heap.size 39 s := SBox.new w _ s
  have bel1 : Below w.heap.size w (w.alloc (.cells (setC s) 39)) := (Below.refl _ w).alloc (Nat.le_refl _) _
  refine (law08_awake _).mono ?_
  rintro e w1 ⟨rfl, bel2⟩
  have a2 := a1.below bel2 a1.lt
  have bel3 := bel1.trans (bel2.mono bel1.size)
  have p0 := a2.cell (k := 0) (by omega); have p1 := a2.cell (k := 1) (by omega); have p2 := a2.cell (k := 2) (by omega); have p3 := a2.cell (k := 3) (by omega)
  clear a1 bel1 bel2
  go_wp2_with fail
  refine (set_Ranges s HS.out _).mono ?_
  rintro e w3 ⟨r, rfl, hown, bel4⟩
  have a3 := a2.below bel4 a2.lt
  have bel5 := bel3.trans (bel4.mono bel3.size)
  clear p0 p1 p2 p3 a2 bel3
  have hRr : rangesF (bytesTo s 256) = rangesF (bytesS s) := rfl
  rw [hRr] at hg
  generalize rangesF (bytesS s) = R at hg hwu hws hle hown
  obtain ⟨p, cap, rfl⟩ : ∃ p cap, r = .slice p R.length cap := by
    rcases hown.2 with ⟨h, h'⟩ | ⟨g, cap, cur, h, _⟩
    · exact ⟨none, 0, by rw [h, h']⟩
    · exact ⟨_, _, h⟩
  have hnl : R.length ≤ 256 := by omega
  have HG := Lib.hid hg; clear hg
  have HWU := Lib.hid hwu; clear hwu
  have HWS := Lib.hid hws; clear hws
  have HOWN := Lib.hid hown; clear hown
  have A3 := Lib.hid a3; clear a3
  go_wp2_with fail
  go_loopw [4, 5, 6, 7, 8] (fun all sum i _ _ wr => ∃ j : Nat, j ≤ R.length ∧ i = .int .i64 j ∧ sum = .int .i64 (sumR (R.take j)) ∧ Hid (wr.ownsRow w3.heap.size 39 4 all j (rowC ((R.take j).map pairS)) ∧ Below w3.heap.size w3 wr)) (fun _ _ i _ _ _ => R.length - (intOf i).toNat)
  case atStart => exact ⟨0, Nat.zero_le _, rfl, rfl, ⟨rfl, .inl ⟨rfl, rfl⟩⟩, Below.refl _ _⟩
  case round =>
    obtain ⟨j, hj, rfl, rfl, H⟩ := hrel
    by_cases hlt : j < R.length
    · obtain ⟨g, rfl, hgb⟩ : ∃ g, p = some ⟨g, 0, none⟩ ∧ g < w3.heap.size := by
        rcases HOWN.out.2 with ⟨_, h'⟩ | ⟨g, cap, cur, h, _, h2, _⟩
        · omega
        · simp at h; exact ⟨g, h.1, (Array.getElem?_eq_some_iff.1 h2).1⟩
      have he := HG.out.ends R[j] (List.getElem_mem hlt)
      have c0 : wr.cell? ⟨g, j * 2, none⟩ = some (.int .u8 R[j].1) := by
        rw [H.out.2.cell (p := ⟨g, j * 2, none⟩) hgb, own_cell HOWN.out (by omega), pairC_get0 hlt]
      have c1 : wr.cell? ⟨g, j * 2 + 1, none⟩ = some (.int .u8 R[j].2) := by
        rw [H.out.2.cell (p := ⟨g, j * 2 + 1, none⟩) hgb, own_cell HOWN.out (by omega), pairC_get1 hlt]
      have hsum : sumR (R.take (j + 1)) = sumR (R.take j) + (R[j].2 - R[j].1 + 1) := by rw [List.take_succ_eq_append_getElem hlt, sumR_snoc]
      have hrow : (R.take (j + 1)).map pairS = (R.take j).map pairS ++ [pairS R[j]] := by rw [List.take_succ_eq_append_getElem hlt, List.map_append]; rfl
      have hprev : 0 < j → ∃ q : Int, wr.cell? ⟨g, (j - 1) * 2 + 1, none⟩ = some (.int .u8 q) ∧ q + 1 < R[j].1 ∧ 0 ≤ q := by
        intro h0
        have hcell : wr.cell? ⟨g, (j - 1) * 2 + 1, none⟩ = some (.int .u8 (R[j - 1]'(by omega)).2) := by
          rw [H.out.2.cell (p := ⟨g, (j - 1) * 2 + 1, none⟩) hgb, own_cell HOWN.out (by omega), pairC_get1 (by omega)]
        exact ⟨_, hcell, HG.out.prev hlt h0⟩
      have hs0 := sumR_take HG.out.ends hnl j
      obtain ⟨hlo, hlh, hhi⟩ := he
      have Hsum := Lib.hid hsum; clear hsum
      have Hrow := Lib.hid hrow; clear hrow
      have Hprev := Lib.hid hprev; clear hprev
      have hps : pairS R[j] = rangeS R[j].1.toNat (R[j].2.toNat + 1 - R[j].1.toNat) := rfl
      have HPS := Lib.hid hps; clear hps
      generalize R[j] = q at c0 c1 hlo hlh hhi Hsum Hrow Hprev HPS
      obtain ⟨lo, hi⟩ := q
      simp only at c0 c1 hlo hlh hhi
      generalize sumR (R.take j) = S at hs0 Hsum
      obtain ⟨hs0, hs1⟩ := hs0
      obtain ⟨lo, rfl⟩ : ∃ m : Nat, lo = m := ⟨lo.toNat, by omega⟩
      obtain ⟨hi, rfl⟩ : ∃ m : Nat, hi = m := ⟨hi.toNat, by omega⟩
      go_wp2_with fail
      go_quiet (fail)
      have hw8 : Below wr.heap.size wr (wr.drewN nq) := ⟨rfl, rfl, rfl, Nat.le_refl _, fun _ _ => rfl⟩
      have hc8 : ∀ p, (wr.drewN nq).cell? p = wr.cell? p := fun _ => rfl
      generalize wr.drewN nq = w8 at hw8 hc8 ⊢
      rw [← hc8] at c0 c1
      have HW8 := Lib.hid hw8; clear hw8
      have HC8 := Lib.hid hc8; clear hc8
      have hgb8 : g < w8.heap.size := by have := H.out.2.size; have := HW8.out.size; omega
      have b8 : Below w3.heap.size w3 w8 := H.out.2.trans (HW8.out.mono H.out.2.size)
      have own8 : w8.ownsRow w3.heap.size 39 4 u4 j (rowC ((R.take j).map pairS)) := own_below H.out.1 HW8.out
      have B8 := Lib.hid b8; clear b8
      have O8 := Lib.hid own8; clear own8
      have hhi' : (hi : Int) < 256 := hhi
      clear hhi
      go_upto_region 10 with fail
      go_cut [49] from 31 to 49 (fun v wx => v = .bool false ∧ Hid (Below w8.heap.size w8 wx))
      case first =>
        by_cases h0 : 0 < j
        · obtain ⟨q, hq, hq1, hq2⟩ := Hprev.out h0
          rw [← HC8.out] at hq
          refine wp_region_seq 19 [fun v _ => v = .int .i64 (lo : Int), fun v _ => v = .int .i64 (hi : Int), fun v _ => v = .bool false, fun v _ => v = .bool false, fun v _ => v = .int .i64 (j : Int), fun v _ => v = .bool true, fun v _ => v = .bool true, fun v _ => v = .slice (some ⟨g, 0, none⟩) R.length cap, fun v _ => v = .int .i64 (j : Int), fun v _ => v = .int .i64 ((j - 1 : Nat) : Int), fun v _ => v = .pointer (some ⟨g, (j - 1) * 2, none⟩), fun v _ => v = .pointer (some ⟨g, (j - 1) * 2 + 1, none⟩), fun v _ => v = .int .u8 q, fun v _ => v = .int .i64 q, fun v _ => v = .int .i64 (q + 1), fun v _ => v = .int .i64 (lo : Int), fun v _ => v = .bool false, fun v _ => v = .bool false, fun v _ => v = .bool false] (fun _ => false) (by kernel_rfl) (by kernel_rfl) ⟨stable_eq _, stable_eq _, stable_eq _, stable_eq _, stable_eq _, stable_eq _, stable_eq _, stable_eq _, stable_eq _, stable_eq _, stable_eq _, stable_eq _, stable_eq _, stable_eq _, stable_eq _, stable_eq _, stable_eq _, stable_eq _, stable_eq _, trivial⟩ (fun _ _ h => by cases h) ?ob ?en
          case ob =>
            refine ⟨?_, ?_, ?_, ?_, ?_, ?_, ?_, ?_, ?_, ?_, ?_, ?_, ?_, ?_, ?_, ?_, ?_, ?_, ?_, trivial⟩ <;> intro A W h
            · exact rs_move rfl rfl (h.frame 7 rfl) (by decide)
            · exact rs_move rfl rfl (h.frame 8 rfl) (by decide)
            · (have e31 : A.eval (.tmp 31) = .int .i64 (lo : Int) := h.dep 0 31 rfl rfl; have e32 : A.eval (.tmp 32) = .int .i64 (hi : Int) := h.dep 1 32 rfl rfl; refine rs_pure rfl ?_ (by decide); simp only [execOp, e31, e32]; (simp [go_sem] <;> first | done | omega | (rw [IntKind.wrap_i64]; omega) | (rw [IntKind.wrap_u8]; omega) | (rw [IntKind.wrap_u64]; omega)))
            · exact rs_move rfl rfl (h.dep 2 33 rfl rfl) (by decide)
            · exact rs_move (wanted_g rfl (yielded_of (d := 34) rfl (h.dep 3 34 rfl rfl))) rfl (h.frame 6 rfl) (by decide)
            · (have e35 : A.eval (.tmp 35) = .int .i64 (j : Int) := h.dep 4 35 rfl rfl; refine rs_pure (wanted_g rfl (yielded_of (d := 34) rfl (h.dep 3 34 rfl rfl))) ?_ (by decide); simp only [execOp, e35]; (simp [go_sem] <;> first | done | omega | (rw [IntKind.wrap_i64]; omega) | (rw [IntKind.wrap_u8]; omega) | (rw [IntKind.wrap_u64]; omega)))
            · exact rs_move (wanted_g rfl (yielded_of (d := 34) rfl (h.dep 3 34 rfl rfl))) rfl (h.dep 5 36 rfl rfl) (by decide)
            · exact rs_move (wanted_g rfl (yielded_of (d := 37) rfl (h.dep 6 37 rfl rfl))) rfl (h.frame 3 rfl) (by decide)
            · exact rs_move (wanted_g rfl (yielded_of (d := 37) rfl (h.dep 6 37 rfl rfl))) rfl (h.frame 6 rfl) (by decide)
            · (have e39 : A.eval (.tmp 39) = .int .i64 (j : Int) := h.dep 8 39 rfl rfl; refine rs_pure (wanted_g rfl (yielded_of (d := 37) rfl (h.dep 6 37 rfl rfl))) ?_ (by decide); simp only [execOp, e39]; (simp [go_sem] <;> first | done | omega | (rw [IntKind.wrap_i64]; omega) | (rw [IntKind.wrap_u8]; omega) | (rw [IntKind.wrap_u64]; omega)))
            · (have e38 : A.eval (.tmp 38) = .slice (some ⟨g, 0, none⟩) R.length cap := h.dep 7 38 rfl rfl; have e40 : A.eval (.tmp 40) = .int .i64 ((j - 1 : Nat) : Int) := h.dep 9 40 rfl rfl; refine rs_pure (wanted_g rfl (yielded_of (d := 37) rfl (h.dep 6 37 rfl rfl))) ?_ (by decide); simp only [execOp, e38, e40]; have e9 : (j - 1 : Nat) < R.length := (by omega); simp [go_sem, e9])
            · (have e41 : A.eval (.tmp 41) = .pointer (some ⟨g, (j - 1) * 2, none⟩) := h.dep 10 41 rfl rfl; refine rs_pure (wanted_g rfl (yielded_of (d := 37) rfl (h.dep 6 37 rfl rfl))) ?_ (by decide); simp only [execOp, e41]; (simp [go_sem] <;> first | done | omega | (rw [IntKind.wrap_i64]; omega) | (rw [IntKind.wrap_u8]; omega) | (rw [IntKind.wrap_u64]; omega)))
            · (have e42 : A.eval (.tmp 42) = .pointer (some ⟨g, (j - 1) * 2 + 1, none⟩) := h.dep 11 42 rfl rfl; refine rs_pure (wanted_g rfl (yielded_of (d := 37) rfl (h.dep 6 37 rfl rfl))) ?_ (by decide); simp only [execOp, e42]; have hq' := (h.below.cell (p := ⟨g, (j - 1) * 2 + 1, none⟩) hgb8).trans hq; simp [go_sem, hq'])
            · (have e43 : A.eval (.tmp 43) = .int .u8 q := h.dep 12 43 rfl rfl; refine rs_pure (wanted_g rfl (yielded_of (d := 37) rfl (h.dep 6 37 rfl rfl))) ?_ (by decide); simp only [execOp, e43]; (simp [go_sem] <;> first | done | omega | (rw [IntKind.wrap_i64]; omega) | (rw [IntKind.wrap_u8]; omega) | (rw [IntKind.wrap_u64]; omega)))
            · (have e44 : A.eval (.tmp 44) = .int .i64 q := h.dep 13 44 rfl rfl; refine rs_pure (wanted_g rfl (yielded_of (d := 37) rfl (h.dep 6 37 rfl rfl))) ?_ (by decide); simp only [execOp, e44]; (simp [go_sem] <;> first | done | omega | (rw [IntKind.wrap_i64]; omega) | (rw [IntKind.wrap_u8]; omega) | (rw [IntKind.wrap_u64]; omega)))
            · exact rs_move (wanted_g rfl (yielded_of (d := 37) rfl (h.dep 6 37 rfl rfl))) rfl (h.frame 7 rfl) (by decide)
            · (have e45 : A.eval (.tmp 45) = .int .i64 (q + 1) := h.dep 14 45 rfl rfl; have e46 : A.eval (.tmp 46) = .int .i64 (lo : Int) := h.dep 15 46 rfl rfl; refine rs_pure (wanted_g rfl (yielded_of (d := 37) rfl (h.dep 6 37 rfl rfl))) ?_ (by decide); simp only [execOp, e45, e46]; (simp [go_sem] <;> first | done | omega | (rw [IntKind.wrap_i64]; omega) | (rw [IntKind.wrap_u8]; omega) | (rw [IntKind.wrap_u64]; omega)))
            · exact rs_pick (wanted_g rfl (yielded_of (d := 34) rfl (h.dep 3 34 rfl rfl))) rfl (h.dep 6 37 rfl rfl) (h.dep 16 47 rfl rfl) (by decide)
            · exact rs_pick rfl rfl (h.dep 3 34 rfl rfl) (h.dep 17 48 rfl rfl) (by decide)
          case en =>
            intro vals W hbw hv _
            have v0 : vals 0 = .int .i64 (lo : Int) := hv 0 (by omega)
            have v1 : vals 1 = .int .i64 (hi : Int) := hv 1 (by omega)
            have v2 : vals 2 = .bool false := hv 2 (by omega)
            have v3 : vals 3 = .bool false := hv 3 (by omega)
            have v4 : vals 4 = .int .i64 (j : Int) := hv 4 (by omega)
            have v5 : vals 5 = .bool true := hv 5 (by omega)
            have v6 : vals 6 = .bool true := hv 6 (by omega)
            have v7 : vals 7 = .slice (some ⟨g, 0, none⟩) R.length cap := hv 7 (by omega)
            have v8 : vals 8 = .int .i64 (j : Int) := hv 8 (by omega)
            have v9 : vals 9 = .int .i64 ((j - 1 : Nat) : Int) := hv 9 (by omega)
            have v10 : vals 10 = .pointer (some ⟨g, (j - 1) * 2, none⟩) := hv 10 (by omega)
            have v11 : vals 11 = .pointer (some ⟨g, (j - 1) * 2 + 1, none⟩) := hv 11 (by omega)
            have v12 : vals 12 = .int .u8 q := hv 12 (by omega)
            have v13 : vals 13 = .int .i64 q := hv 13 (by omega)
            have v14 : vals 14 = .int .i64 (q + 1) := hv 14 (by omega)
            have v15 : vals 15 = .int .i64 (lo : Int) := hv 15 (by omega)
            have v16 : vals 16 = .bool false := hv 16 (by omega)
            have v17 : vals 17 = .bool false := hv 17 (by omega)
            have v18 : vals 18 = .bool false := hv 18 (by omega)
            simp only [List.take_succ_cons, List.take_zero, List.drop_succ_cons, List.drop_zero, List.drop_nil, List.take_nil, fillAll, Nat.zero_add, Nat.reduceAdd]
            rw [v0, v1, v2, v3, v4, v5, v6, v7, v8, v9, v10, v11, v12, v13, v14, v15, v16, v17, v18]
            clear hv v0 v1 v2 v3 v4 v5 v6 v7 v8 v9 v10 v11 v12 v13 v14 v15 v16 v17 v18
            simp only [put_lit, List.setIfInBounds_toArray, List.set_cons_succ, List.set_cons_zero]
            go_wp2_with fail
            go_meet
            case rel => exact ⟨rfl, hbw⟩
        · --
          refine wp_region_seq 19 [fun v _ => v = .int .i64 (lo : Int), fun v _ => v = .int .i64 (hi : Int), fun v _ => v = .bool false, fun v _ => v = .bool false, fun v _ => v = .int .i64 (j : Int), fun v _ => v = .bool false, fun v _ => v = .bool false, fun v _ => v = undef, fun v _ => v = undef, fun v _ => v = undef, fun v _ => v = undef, fun v _ => v = undef, fun v _ => v = undef, fun v _ => v = undef, fun v _ => v = undef, fun v _ => v = undef, fun v _ => v = undef, fun v _ => v = Value.bool false, fun v _ => v = Value.bool false] (fun _ => false) (by kernel_rfl) (by kernel_rfl) ⟨stable_eq _, stable_eq _, stable_eq _, stable_eq _, stable_eq _, stable_eq _, stable_eq _, stable_eq _, stable_eq _, stable_eq _, stable_eq _, stable_eq _, stable_eq _, stable_eq _, stable_eq _, stable_eq _, stable_eq _, stable_eq _, stable_eq _, trivial⟩ (fun _ _ h => by cases h) ?ob ?en
          case ob =>
            refine ⟨?_, ?_, ?_, ?_, ?_, ?_, ?_, ?_, ?_, ?_, ?_, ?_, ?_, ?_, ?_, ?_, ?_, ?_, ?_, trivial⟩ <;> intro A W h
            · exact rs_move rfl rfl (h.frame 7 rfl) (by decide)
            · exact rs_move rfl rfl (h.frame 8 rfl) (by decide)
            · (have e31 : A.eval (.tmp 31) = .int .i64 (lo : Int) := h.dep 0 31 rfl rfl; have e32 : A.eval (.tmp 32) = .int .i64 (hi : Int) := h.dep 1 32 rfl rfl; refine rs_pure rfl ?_ (by decide); simp only [execOp, e31, e32]; (simp [go_sem] <;> first | done | omega | (rw [IntKind.wrap_i64]; omega) | (rw [IntKind.wrap_u8]; omega) | (rw [IntKind.wrap_u64]; omega)))
            · exact rs_move rfl rfl (h.dep 2 33 rfl rfl) (by decide)
            · exact rs_move (wanted_g rfl (yielded_of (d := 34) rfl (h.dep 3 34 rfl rfl))) rfl (h.frame 6 rfl) (by decide)
            · (have e35 : A.eval (.tmp 35) = .int .i64 (j : Int) := h.dep 4 35 rfl rfl; refine rs_pure (wanted_g rfl (yielded_of (d := 34) rfl (h.dep 3 34 rfl rfl))) ?_ (by decide); simp only [execOp, e35]; (simp [go_sem] <;> first | done | omega | (rw [IntKind.wrap_i64]; omega) | (rw [IntKind.wrap_u8]; omega) | (rw [IntKind.wrap_u64]; omega)))
            · exact rs_move (wanted_g rfl (yielded_of (d := 34) rfl (h.dep 3 34 rfl rfl))) rfl (h.dep 5 36 rfl rfl) (by decide)
            · exact rs_skip (not_wanted_g rfl (yielded_of (d := 37) rfl (h.dep 6 37 rfl rfl)) (by decide)) ⟨rfl, fun h => by cases h⟩
            · exact rs_skip (not_wanted_g rfl (yielded_of (d := 37) rfl (h.dep 6 37 rfl rfl)) (by decide)) ⟨rfl, fun h => by cases h⟩
            · exact rs_skip (not_wanted_g rfl (yielded_of (d := 37) rfl (h.dep 6 37 rfl rfl)) (by decide)) ⟨rfl, fun h => by cases h⟩
            · exact rs_skip (not_wanted_g rfl (yielded_of (d := 37) rfl (h.dep 6 37 rfl rfl)) (by decide)) ⟨rfl, fun h => by cases h⟩
            · exact rs_skip (not_wanted_g rfl (yielded_of (d := 37) rfl (h.dep 6 37 rfl rfl)) (by decide)) ⟨rfl, fun h => by cases h⟩
            · exact rs_skip (not_wanted_g rfl (yielded_of (d := 37) rfl (h.dep 6 37 rfl rfl)) (by decide)) ⟨rfl, fun h => by cases h⟩
            · exact rs_skip (not_wanted_g rfl (yielded_of (d := 37) rfl (h.dep 6 37 rfl rfl)) (by decide)) ⟨rfl, fun h => by cases h⟩
            · exact rs_skip (not_wanted_g rfl (yielded_of (d := 37) rfl (h.dep 6 37 rfl rfl)) (by decide)) ⟨rfl, fun h => by cases h⟩
            · exact rs_skip (not_wanted_g rfl (yielded_of (d := 37) rfl (h.dep 6 37 rfl rfl)) (by decide)) ⟨rfl, fun h => by cases h⟩
            · exact rs_skip (not_wanted_g rfl (yielded_of (d := 37) rfl (h.dep 6 37 rfl rfl)) (by decide)) ⟨rfl, fun h => by cases h⟩
            · exact rs_pick (wanted_g rfl (yielded_of (d := 34) rfl (h.dep 3 34 rfl rfl))) rfl (h.dep 6 37 rfl rfl) (rfl) (by decide)
            · exact rs_pick rfl rfl (h.dep 3 34 rfl rfl) (h.dep 17 48 rfl rfl) (by decide)
          case en =>
            intro vals W hbw hv _
            have v0 : vals 0 = .int .i64 (lo : Int) := hv 0 (by omega)
            have v1 : vals 1 = .int .i64 (hi : Int) := hv 1 (by omega)
            have v2 : vals 2 = .bool false := hv 2 (by omega)
            have v3 : vals 3 = .bool false := hv 3 (by omega)
            have v4 : vals 4 = .int .i64 (j : Int) := hv 4 (by omega)
            have v5 : vals 5 = .bool false := hv 5 (by omega)
            have v6 : vals 6 = .bool false := hv 6 (by omega)
            have v7 : vals 7 = undef := hv 7 (by omega)
            have v8 : vals 8 = undef := hv 8 (by omega)
            have v9 : vals 9 = undef := hv 9 (by omega)
            have v10 : vals 10 = undef := hv 10 (by omega)
            have v11 : vals 11 = undef := hv 11 (by omega)
            have v12 : vals 12 = undef := hv 12 (by omega)
            have v13 : vals 13 = undef := hv 13 (by omega)
            have v14 : vals 14 = undef := hv 14 (by omega)
            have v15 : vals 15 = undef := hv 15 (by omega)
            have v16 : vals 16 = undef := hv 16 (by omega)
            have v17 : vals 17 = Value.bool false := hv 17 (by omega)
            have v18 : vals 18 = Value.bool false := hv 18 (by omega)
            simp only [List.take_succ_cons, List.take_zero, List.drop_succ_cons, List.drop_zero, List.drop_nil, List.take_nil, fillAll, Nat.zero_add, Nat.reduceAdd]
            rw [v0, v1, v2, v3, v4, v5, v6, v7, v8, v9, v10, v11, v12, v13, v14, v15, v16, v17, v18]
            clear hv v0 v1 v2 v3 v4 v5 v6 v7 v8 v9 v10 v11 v12 v13 v14 v15 v16 v17 v18
            simp only [put_lit, List.setIfInBounds_toArray, List.set_cons_succ, List.set_cons_zero]
            go_wp2_with fail
            go_meet
            case rel => exact ⟨rfl, hbw⟩
      case rest =>
        obtain ⟨rfl, hbw'⟩ := hcut
        have hbw := hbw'.out
        have c0' := (hbw.cell (p := ⟨g, j * 2, none⟩) hgb8).trans c0
        have c1' := (hbw.cell (p := ⟨g, j * 2 + 1, none⟩) hgb8).trans c1
        have B9 := Lib.hid (B8.out.trans (hbw.mono B8.out.size))
        have O9 := Lib.hid (own_below O8.out hbw)
        have hgb9 : g < wc.heap.size := by have := hbw.size; omega
        clear hbw hbw' c0 c1 B8 O8 HW8 HC8 hgb8 Hprev
        go_upto_region 13 with fail
        refine wp_region_spec 13 [fun v _ => v = u4, fun v _ => v = .slice (some ⟨g, 0, none⟩) R.length cap, fun v _ => v = .int .i64 (j : Int), fun v _ => v = .pointer (some ⟨g, j * 2, none⟩), fun v _ => v = .pointer (some ⟨g, j * 2, none⟩), fun v _ => v = .int .u8 (lo : Int), fun v _ => v = .slice (some ⟨g, 0, none⟩) R.length cap, fun v _ => v = .int .i64 (j : Int), fun v _ => v = .pointer (some ⟨g, j * 2, none⟩), fun v _ => v = .pointer (some ⟨g, j * 2 + 1, none⟩), fun v _ => v = .int .u8 (hi : Int), fun v _ => v = setV (rangeS lo (hi + 1 - lo)), OneS (rangeS lo (hi + 1 - lo))] (fun _ => false) (by kernel_rfl) (by kernel_rfl) (by kernel_rfl) ⟨stable_eq _, stable_eq _, stable_eq _, stable_eq _, stable_eq _, stable_eq _, stable_eq _, stable_eq _, stable_eq _, stable_eq _, stable_eq _, stable_eq _, stable_oneS _, trivial⟩ (fun _ _ h => by cases h) ?ob ?en
        case ob =>
          refine ⟨?_, ?_, ?_, ?_, ?_, ?_, ?_, ?_, ?_, ?_, ?_, ?_, ?_, trivial⟩ <;> intro A W h
          · exact rs_move rfl rfl (h.frame 4 rfl) (by decide)
          · exact rs_move rfl rfl (h.frame 3 rfl) (by decide)
          · exact rs_move rfl rfl (h.frame 6 rfl) (by decide)
          · (have e57 : A.eval (.tmp 57) = .slice (some ⟨g, 0, none⟩) R.length cap := h.dep 1 57 rfl rfl; have e58 : A.eval (.tmp 58) = .int .i64 (j : Int) := h.dep 2 58 rfl rfl; refine rs_pure rfl ?_ (by decide); simp only [execOp, e57, e58]; simp [go_sem, hlt])
          · (have e59 : A.eval (.tmp 59) = .pointer (some ⟨g, j * 2, none⟩) := h.dep 3 59 rfl rfl; refine rs_pure rfl ?_ (by decide); simp only [execOp, e59]; (simp [go_sem] <;> first | done | omega | (rw [IntKind.wrap_i64]; omega) | (rw [IntKind.wrap_u8]; omega) | (rw [IntKind.wrap_u64]; omega)))
          · (have e60 : A.eval (.tmp 60) = .pointer (some ⟨g, j * 2, none⟩) := h.dep 4 60 rfl rfl; refine rs_pure rfl ?_ (by decide); simp only [execOp, e60]; have q := (h.below.cell (p := ⟨g, j * 2, none⟩) hgb9).trans c0'; simp [go_sem, q])
          · exact rs_move rfl rfl (h.frame 3 rfl) (by decide)
          · exact rs_move rfl rfl (h.frame 6 rfl) (by decide)
          · (have e62 : A.eval (.tmp 62) = .slice (some ⟨g, 0, none⟩) R.length cap := h.dep 6 62 rfl rfl; have e63 : A.eval (.tmp 63) = .int .i64 (j : Int) := h.dep 7 63 rfl rfl; refine rs_pure rfl ?_ (by decide); simp only [execOp, e62, e63]; simp [go_sem, hlt])
          · (have e64 : A.eval (.tmp 64) = .pointer (some ⟨g, j * 2, none⟩) := h.dep 8 64 rfl rfl; refine rs_pure rfl ?_ (by decide); simp only [execOp, e64]; (simp [go_sem] <;> first | done | omega | (rw [IntKind.wrap_i64]; omega) | (rw [IntKind.wrap_u8]; omega) | (rw [IntKind.wrap_u64]; omega)))
          · (have e65 : A.eval (.tmp 65) = .pointer (some ⟨g, j * 2 + 1, none⟩) := h.dep 9 65 rfl rfl; refine rs_pure rfl ?_ (by decide); simp only [execOp, e65]; have q := (h.below.cell (p := ⟨g, j * 2 + 1, none⟩) hgb9).trans c1'; simp [go_sem, q])
          · exact rs_calln rfl rfl (enters_of Try.func26 (by kernel_rfl) rfl) (args2 ⟨(h.dep 5 61 rfl rfl), (h.dep 10 66 rfl rfl)⟩) (set_Range lo hi (by omega) (by omega) W) (by decide)
          · exact rs_build1 rfl rfl (h.dep 11 67 rfl rfl) (by decide)
        case en =>
          intro vals W hbw hv _
          have v0 : vals 0 = u4 := hv 0 (by omega)
          have v1 : vals 1 = .slice (some ⟨g, 0, none⟩) R.length cap := hv 1 (by omega)
          have v2 : vals 2 = .int .i64 (j : Int) := hv 2 (by omega)
          have v3 : vals 3 = .pointer (some ⟨g, j * 2, none⟩) := hv 3 (by omega)
          have v4 : vals 4 = .pointer (some ⟨g, j * 2, none⟩) := hv 4 (by omega)
          have v5 : vals 5 = .int .u8 (lo : Int) := hv 5 (by omega)
          have v6 : vals 6 = .slice (some ⟨g, 0, none⟩) R.length cap := hv 6 (by omega)
          have v7 : vals 7 = .int .i64 (j : Int) := hv 7 (by omega)
          have v8 : vals 8 = .pointer (some ⟨g, j * 2, none⟩) := hv 8 (by omega)
          have v9 : vals 9 = .pointer (some ⟨g, j * 2 + 1, none⟩) := hv 9 (by omega)
          have v10 : vals 10 = .int .u8 (hi : Int) := hv 10 (by omega)
          have v11 : vals 11 = setV (rangeS lo (hi + 1 - lo)) := hv 11 (by omega)
          have x12 := hv 12 (by omega); simp only [lookS] at x12
          simp only [List.take_succ_cons, List.take_zero, List.drop_succ_cons, List.drop_zero, List.drop_nil, List.take_nil, fillAll, Nat.zero_add, Nat.reduceAdd]
          rw [v0, v1, v2, v3, v4, v5, v6, v7, v8, v9, v10, v11]
          clear hv v0 v1 v2 v3 v4 v5 v6 v7 v8 v9 v10 v11
          simp only [put_lit, List.setIfInBounds_toArray, List.set_cons_succ, List.set_cons_zero]
          obtain ⟨gb, e12, s12⟩ := x12
          rw [e12]
          have own9 := own_below O9.out hbw
          have B9' := B9.out.trans (hbw.mono B9.out.size)
          refine wpList_append_own_at W rfl _ _ 36 rfl w3.heap.size 39 i0 _ 4 32 Try.underlying36 hi0 hz0 hz1 hz2 rfl (by decide) _ j _ rfl own9 ⟨gb, 0, none⟩ 1 1 (setC (rangeS lo (hi + 1 - lo))).toList rfl rfl ?hnews ?hone (by unfold maxLen; omega) (by omega) B9'.size ?_
          case hnews => exact sbox_news s12
          case hone => intro u hu; simp [setC] at hu; rcases hu with rfl | rfl | rfl | rfl <;> rfl
          intro v5 w5 own5 grow5 _ _
          have own6 : w5.ownsRow w3.heap.size 39 4 v5 (j + 1) (rowC ((R.take (j + 1)).map pairS)) := by rw [Hrow.out, rowC_snoc, HPS.out]; simpa using own5
          have B6 := Lib.hid (B9'.grown grow5 B9'.size (fun k hk => (own9.lt k hk).1))
          have O6 := Lib.hid own6
          clear own5 own6 own9 hbw s12 B9' grow5
          go_wp2_with fail
          go_roundw
          case rel => exact ⟨j + 1, by omega, by go_num, by rw [Hsum.out]; congr 1; omega, O6.out, B6.out⟩
          case measure => simp [intOf]; omega
    · obtain rfl : j = R.length := by omega
      have hsum : sumR (R.take R.length) = (countS s : Nat) := by rw [List.take_length]; exact HWS.out
      have ownA : wr.ownsRow w3.heap.size 39 4 u4 R.length (rowC (R.map pairS)) := by have := H.out.1; rwa [List.take_length] at this
      have belA := H.out.2
      have ra := RdS.of_own (by simp) ownA
      have aA := A3.out.below belA (by have := bel5.size; have := A3.out.lt; omega)
      have hua : ∀ t ∈ R.map pairS, SetOk t := fun t ht => by obtain ⟨p, _, rfl⟩ := List.mem_map.1 ht; exact ofS_ok _
      rw [hsum]
      have RA := Lib.hid ra; clear ra
      have AA := Lib.hid aA; clear aA
      have BA := Lib.hid (bel5.trans (belA.mono bel5.size)); clear belA
      clear hsum ownA H HOWN HG HWS
      have HUA := Lib.hid hua; clear hua
      go_upto_region 14 with fail
      refine wp_region_spec 24 [fun v _ => v = u4, fun v _ => v = setV (unionS (R.map pairS)), fun v _ => v = setV s, fun v _ => v = .bool true, fun v _ => v = .bool true, fun v _ => v = setV s, BytesW s, fun v _ => v = setV (ofS (bytesS s)), fun v _ => v = setV s, fun v _ => v = .bool true, fun v _ => v = .bool true, fun v _ => v = .bool true, fun v _ => v = .int .i64 (countS s : Nat), fun v _ => v = setV s, fun v _ => v = .int .i64 (countS s : Nat), fun v _ => v = .bool true, fun v _ => v = .bool true, fun v _ => v = .bool true, fun v _ => v = setV s, BytesW s, fun v _ => v = .int .i64 (countS s : Nat), fun v _ => v = .int .i64 (countS s : Nat), fun v _ => v = .bool true, fun v _ => v = .bool true] (fun _ => false) (by kernel_rfl) (by kernel_rfl) (by kernel_rfl) ⟨stable_eq _, stable_eq _, stable_eq _, stable_eq _, stable_eq _, stable_eq _, stable_bytesW s, stable_eq _, stable_eq _, stable_eq _, stable_eq _, stable_eq _, stable_eq _, stable_eq _, stable_eq _, stable_eq _, stable_eq _, stable_eq _, stable_eq _, stable_bytesW s, stable_eq _, stable_eq _, stable_eq _, stable_eq _, trivial⟩ (fun _ _ h => by cases h) ?ob ?en
      case ob =>
        refine ⟨?_, ?_, ?_, ?_, ?_, ?_, ?_, ?_, ?_, ?_, ?_, ?_, ?_, ?_, ?_, ?_, ?_, ?_, ?_, ?_, ?_, ?_, ?_, ?_, trivial⟩ <;> intro A W h
        · exact rs_move rfl rfl (h.frame 4 rfl) (by decide)
        · exact rs_calln rfl rfl (enters_of Try.func28 (by kernel_rfl) rfl) (args1 (h.dep 0 70 rfl rfl)) (set_Union _ _ HUA.out W ((RA.out.below h.below).up h.below.size)) (by decide)
        · exact rs_loadset (s := s) rfl rfl (h.frame 1 rfl) (AA.out.below h.below AA.out.lt) (by decide)
        · exact rs_eqlset rfl rfl (h.dep 1 71 rfl rfl) (h.dep 2 72 rfl rfl) HWU.out (by decide)
        · exact rs_move rfl rfl (h.dep 3 73 rfl rfl) (by decide)
        · exact rs_loadset (s := s) (wanted_g rfl (yielded_of (d := 74) rfl (h.dep 4 74 rfl rfl))) rfl (h.frame 1 rfl) (AA.out.below h.below AA.out.lt) (by decide)
        · exact rs_calln' (wanted_g rfl (yielded_of (d := 74) rfl (h.dep 4 74 rfl rfl))) rfl (enters_of Try.func37 (by kernel_rfl) rfl) (args1 (h.dep 5 75 rfl rfl)) (set_Bytes_w s HS.out W)
        · exact rs_calln (wanted_g rfl (yielded_of (d := 74) rfl (h.dep 4 74 rfl rfl))) rfl (enters_of Try.func24 (by kernel_rfl) rfl) (args1 rfl) (set_Of _ (bytesS s) (bytesS_range s) W (h.dep 6 76 rfl rfl).1) (by decide)
        · exact rs_loadset (s := s) (wanted_g rfl (yielded_of (d := 74) rfl (h.dep 4 74 rfl rfl))) rfl (h.frame 1 rfl) (AA.out.below h.below AA.out.lt) (by decide)
        · exact rs_eqlset (wanted_g rfl (yielded_of (d := 74) rfl (h.dep 4 74 rfl rfl))) rfl (h.dep 7 77 rfl rfl) (h.dep 8 78 rfl rfl) (whole_of HS.out) (by decide)
        · exact rs_pick rfl rfl (h.dep 4 74 rfl rfl) (h.dep 9 79 rfl rfl) (by decide)
        · exact rs_move rfl rfl (h.dep 10 80 rfl rfl) (by decide)
        · exact rs_move (wanted_g rfl (yielded_of (d := 81) rfl (h.dep 11 81 rfl rfl))) rfl (h.frame 5 rfl) (by decide)
        · exact rs_loadset (s := s) (wanted_g rfl (yielded_of (d := 81) rfl (h.dep 11 81 rfl rfl))) rfl (h.frame 1 rfl) (AA.out.below h.below AA.out.lt) (by decide)
        · exact rs_calln (wanted_g rfl (yielded_of (d := 81) rfl (h.dep 11 81 rfl rfl))) rfl (enters_of Try.func35 (by kernel_rfl) rfl) (args1 (h.dep 13 83 rfl rfl)) (set_Count s HS.out W) (by decide)
        · (have e82 : A.eval (.tmp 82) = .int .i64 (countS s : Nat) := h.dep 12 82 rfl rfl; have e84 : A.eval (.tmp 84) = .int .i64 (countS s : Nat) := h.dep 14 84 rfl rfl; refine rs_pure (wanted_g rfl (yielded_of (d := 81) rfl (h.dep 11 81 rfl rfl))) ?_ (by decide); simp only [execOp, e82, e84]; (simp [go_sem] <;> first | done | omega | (rw [IntKind.wrap_i64]; omega) | (rw [IntKind.wrap_u8]; omega) | (rw [IntKind.wrap_u64]; omega)))
        · exact rs_pick rfl rfl (h.dep 11 81 rfl rfl) (h.dep 15 85 rfl rfl) (by decide)
        · exact rs_move rfl rfl (h.dep 16 86 rfl rfl) (by decide)
        · exact rs_loadset (s := s) (wanted_g rfl (yielded_of (d := 87) rfl (h.dep 17 87 rfl rfl))) rfl (h.frame 1 rfl) (AA.out.below h.below AA.out.lt) (by decide)
        · exact rs_calln' (wanted_g rfl (yielded_of (d := 87) rfl (h.dep 17 87 rfl rfl))) rfl (enters_of Try.func37 (by kernel_rfl) rfl) (args1 (h.dep 18 88 rfl rfl)) (set_Bytes_w s HS.out W)
        · (obtain ⟨_, p, c, e⟩ := h.dep 19 89 rfl rfl; rw [countS_eq]; exact rs_len Try.underlying22 (wanted_g rfl (yielded_of (d := 87) rfl (h.dep 17 87 rfl rfl))) rfl e (by decide))
        · exact rs_move (wanted_g rfl (yielded_of (d := 87) rfl (h.dep 17 87 rfl rfl))) rfl (h.frame 5 rfl) (by decide)
        · (have e90 : A.eval (.tmp 90) = .int .i64 (countS s : Nat) := h.dep 20 90 rfl rfl; have e91 : A.eval (.tmp 91) = .int .i64 (countS s : Nat) := h.dep 21 91 rfl rfl; refine rs_pure (wanted_g rfl (yielded_of (d := 87) rfl (h.dep 17 87 rfl rfl))) ?_ (by decide); simp only [execOp, e90, e91]; (simp [go_sem] <;> first | done | omega | (rw [IntKind.wrap_i64]; omega) | (rw [IntKind.wrap_u8]; omega) | (rw [IntKind.wrap_u64]; omega)))
        · exact rs_pick rfl rfl (h.dep 17 87 rfl rfl) (h.dep 22 92 rfl rfl) (by decide)
      case en =>
        intro vals W hbw hv _
        have v0 : vals 0 = u4 := hv 0 (by omega)
        have v1 : vals 1 = setV (unionS (R.map pairS)) := hv 1 (by omega)
        have v2 : vals 2 = setV s := hv 2 (by omega)
        have v3 : vals 3 = .bool true := hv 3 (by omega)
        have v4 : vals 4 = .bool true := hv 4 (by omega)
        have v5 : vals 5 = setV s := hv 5 (by omega)
        have v7 : vals 7 = setV (ofS (bytesS s)) := hv 7 (by omega)
        have v8 : vals 8 = setV s := hv 8 (by omega)
        have v9 : vals 9 = .bool true := hv 9 (by omega)
        have v10 : vals 10 = .bool true := hv 10 (by omega)
        have v11 : vals 11 = .bool true := hv 11 (by omega)
        have v12 : vals 12 = .int .i64 (countS s : Nat) := hv 12 (by omega)
        have v13 : vals 13 = setV s := hv 13 (by omega)
        have v14 : vals 14 = .int .i64 (countS s : Nat) := hv 14 (by omega)
        have v15 : vals 15 = .bool true := hv 15 (by omega)
        have v16 : vals 16 = .bool true := hv 16 (by omega)
        have v17 : vals 17 = .bool true := hv 17 (by omega)
        have v18 : vals 18 = setV s := hv 18 (by omega)
        have v20 : vals 20 = .int .i64 (countS s : Nat) := hv 20 (by omega)
        have v21 : vals 21 = .int .i64 (countS s : Nat) := hv 21 (by omega)
        have v22 : vals 22 = .bool true := hv 22 (by omega)
        have v23 : vals 23 = .bool true := hv 23 (by omega)
        have x6 := hv 6 (by omega); simp only [lookS] at x6
        have x19 := hv 19 (by omega); simp only [lookS] at x19
        simp only [List.take_succ_cons, List.take_zero, List.drop_succ_cons, List.drop_zero, List.drop_nil, List.take_nil, fillAll, Nat.zero_add, Nat.reduceAdd]
        rw [v0, v1, v2, v3, v4, v5, v7, v8, v9, v10, v11, v12, v13, v14, v15, v16, v17, v18, v20, v21, v22, v23]
        clear hv v0 v1 v2 v3 v4 v5 v7 v8 v9 v10 v11 v12 v13 v14 v15 v16 v17 v18 v20 v21 v22 v23
        simp only [put_lit, List.setIfInBounds_toArray, List.set_cons_succ, List.set_cons_zero]
        generalize vals 6 = x6v
        generalize vals 19 = x19v
        clear x6 x19
        have BZ := Lib.hid (BA.out.trans (hbw.mono BA.out.size)); clear hbw
        go_wp2
        go_ret
        exact ⟨rfl, BZ.out⟩

end Go.Proofs.Ytkkilngihkdnaaa
