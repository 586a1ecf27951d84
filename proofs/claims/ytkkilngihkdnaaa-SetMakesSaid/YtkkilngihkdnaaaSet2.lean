/-
  The walks of the package set, continued: Of, Range, the bytes of a set, Fold, Ranges, Count.
-/
import Derived.Test.YtkkilngihkdnaaaSet
namespace Go.Proofs.Ytkkilngihkdnaaa
open Go.RowKit Go.Shelf
attribute [local go_sem] Oper.semAt_some

/-! ### Of, Range -/
theorem Rd.u8' {w : World} {b0 : Nat} {v : Value} {xs : List Int} (h : Rd w b0 v (xs.map (.int .u8))) :
    ((∃ q, v = .slice q 0 0) ∧ xs = []) ∨ ∃ b off cap, v = .slice (some ⟨b, off, none⟩) xs.length cap ∧ b < b0 ∧ xs.length ≤ cap ∧ cap ≤ maxLen ∧
    ∀ j, (h : j < xs.length) → w.cell? ⟨b, off + j, none⟩ = some (.int .u8 xs[j]) := by
  rcases h with ⟨h1, h2⟩ | ⟨b, off, cap, e, h1, h2, h3, h4⟩
  · exact .inl ⟨h1, by simpa using h2⟩
  · refine .inr ⟨b, off, cap, by simpa using e, h1, by simpa using h2, h3, fun j hj => ?_⟩
    rw [h4 j (by simpa using hj)]; simp

set_option maxHeartbeats 1000000 in
theorem set_Of (v : Value) (xs : List Int) (hx : ∀ x ∈ xs, 0 ≤ x ∧ x ≤ 255) (w : World) (h : Rd w w.heap.size v (xs.map (.int .u8))) :
    Calls Try.prog 24 #[v] w fun e w' => e = .returned (setV (ofS xs)) ∧ Below w.heap.size w w' := by
  have b0 : SBox (w.alloc (.cells (setC emptyS) 39)) w.heap.size 39 emptyS := SBox.new w _ _
  have bel0 : Below w.heap.size w (w.alloc (.cells (setC emptyS) 39)) := (Below.refl _ w).alloc (Nat.le_refl _) _
  have HX := Lib.hid hx; clear hx
  rcases h.u8' with ⟨⟨q, rfl⟩, rfl⟩ | ⟨b, off, cap, rfl, hb, hcl, hcm, hc⟩
  · go_enter Try.func24, Try.ntmps24
    go_wp2
    go_loopw [7] (fun i wr => i = .int .i64 0 ∧ Hid (SBox wr w.heap.size 39 emptyS ∧ Below w.heap.size w wr)) (fun _ _ => 0)
    case atStart => exact ⟨rfl, b0, bel0⟩
    case round =>
      clear b0 bel0
      obtain ⟨rfl, H⟩ := hrel
      have ⟨b2, bel2⟩ := H.out
      clear H h
      have HU := Lib.hid (show ofS [] = emptyS from rfl)
      generalize emptyS = u at b2 HU
      have c0 := b2.cell (k := 0) (by omega); have c1 := b2.cell (k := 1) (by omega); have c2 := b2.cell (k := 2) (by omega); have c3 := b2.cell (k := 3) (by omega)
      have f0 := b2.frozen 0; have f1 := b2.frozen 1; have f2 := b2.frozen 2; have f3 := b2.frozen 3
      go_wp2
      have b3 := b2.set4 u
      have e0 := b3.cell (k := 0) (by omega); have e1 := b3.cell (k := 1) (by omega); have e2 := b3.cell (k := 2) (by omega); have e3 := b3.cell (k := 3) (by omega)
      exact bodyPost_ret (v := setV u) (by unfold setV; simp [results, Try.results24, go_sem, e0, e1, e2, e3]) rfl ⟨by rw [HU.out], below_set4 bel2 (Nat.le_refl _) _ _ _ _⟩
  · have hlen : xs.length ≤ 9223372036854775807 := by unfold maxLen at hcm; omega
    have Hc := Lib.hid hc; clear hc h
    go_enter Try.func24, Try.ntmps24
    go_wp2
    go_loopw [4, 7] (fun _ i wr => ∃ j : Nat, j ≤ xs.length ∧ i = .int .i64 j ∧ Hid (SBox wr w.heap.size 39 (ofS (xs.take j)) ∧ Below w.heap.size w wr)) (fun _ i _ => xs.length - (intOf i).toNat)
    case atStart => exact ⟨0, Nat.zero_le _, rfl, b0, bel0⟩
    case round =>
      clear b0 bel0
      obtain ⟨j, hj, rfl, H⟩ := hrel
      have ⟨b2, bel2⟩ := H.out
      clear H
      by_cases hlt : j < xs.length
      · have hcell := (bel2.cell (p := ⟨b, off + j, none⟩) hb).trans (Hc.out j hlt)
        obtain ⟨hx0, hx1⟩ := HX.out xs[j] (List.getElem_mem hlt)
        have hn : ofS (xs.take (j + 1)) = addS (ofS (xs.take j)) (xs[j]).toNat := by rw [List.take_succ_eq_append_getElem hlt, ofS_snoc]
        have HN := Lib.hid hn; clear hn
        have hS := ofS_ok (xs.take j)
        generalize ofS (xs.take j) = S at b2 HN hS
        generalize xs[j] = x at hcell hx0 hx1 HN
        obtain ⟨n, rfl⟩ : ∃ n : Nat, x = n := ⟨x.toNat, by omega⟩
        obtain ⟨q, hq⟩ : ∃ q : Nat, n / 64 = q := ⟨_, rfl⟩
        obtain ⟨r, hr⟩ : ∃ r : Nat, n % 64 = r := ⟨_, rfl⟩
        have hq4 : q < 4 := by omega
        have hr64 : r < 64 := by omega
        have hqi : (n : Int) / 64 = (q : Int) := by omega
        have hri : (n : Int) % 64 = (r : Int) := by omega
        have HQ := Lib.hid hq; clear hq
        have HR := Lib.hid hr; clear hr
        have hc1 := b2.cell hq4
        have hf1 := b2.frozen q
        go_wp2
        go_roundw
        case rel =>
          refine ⟨j + 1, by omega, by go_num, ?_, bel2.setCell (p := ⟨w.heap.size, q, none⟩) (Nat.le_refl _) _⟩
          rw [or_walk _ _ (hS q hq4) hr64, HN.out, Int.toNat_natCast, ← addS_at HQ.out HR.out]
          exact b2.set hq4 _
        case measure => simp [intOf]; omega
      · obtain rfl : j = xs.length := by omega
        rw [List.take_length] at b2
        obtain ⟨u, hu⟩ : ∃ u, ofS xs = u := ⟨_, rfl⟩
        rw [hu] at b2
        have HU := Lib.hid hu; clear hu
        have c0 := b2.cell (k := 0) (by omega); have c1 := b2.cell (k := 1) (by omega); have c2 := b2.cell (k := 2) (by omega); have c3 := b2.cell (k := 3) (by omega)
        have f0 := b2.frozen 0; have f1 := b2.frozen 1; have f2 := b2.frozen 2; have f3 := b2.frozen 3
        go_wp2
        have b3 := b2.set4 u
        have e0 := b3.cell (k := 0) (by omega); have e1 := b3.cell (k := 1) (by omega); have e2 := b3.cell (k := 2) (by omega); have e3 := b3.cell (k := 3) (by omega)
        exact bodyPost_ret (v := setV u) (by unfold setV; simp [results, Try.results24, go_sem, e0, e1, e2, e3]) rfl ⟨by rw [HU.out], below_set4 bel2 (Nat.le_refl _) _ _ _ _⟩

/-- the bytes from lo on, so many -/
def rangeS (lo n : Nat) : Nat → Nat := ofS ((List.range' lo n).map (fun k : Nat => (k : Int)))
theorem rangeS_succ (lo n : Nat) : rangeS lo (n + 1) = addS (rangeS lo n) (lo + n) := by
  unfold rangeS
  rw [List.range'_concat, List.map_append, List.map_cons, List.map_nil, ofS_snoc]
  simp only [Int.toNat_natCast, Nat.one_mul]

set_option maxHeartbeats 1000000 in
theorem set_Range (lo hi : Nat) (hlo : lo ≤ 255) (hhi : hi ≤ 255) (w : World) :
    Calls Try.prog 26 #[.int .u8 lo, .int .u8 hi] w fun e w' => e = .returned (setV (rangeS lo (hi + 1 - lo))) ∧ Below w.heap.size w w' := by
  have b0 : SBox (w.alloc (.cells (setC emptyS) 39)) w.heap.size 39 emptyS := SBox.new w _ _
  have bel0 : Below w.heap.size w (w.alloc (.cells (setC emptyS) 39)) := (Below.refl _ w).alloc (Nat.le_refl _) _
  go_enter Try.func26, Try.ntmps26
  go_wp2
  go_loopw [5] (fun i wr => ∃ m : Nat, m ≤ hi + 1 - lo ∧ i = .int .i64 ((lo + m : Nat) : Int) ∧ Hid (SBox wr w.heap.size 39 (rangeS lo m) ∧ Below w.heap.size w wr)) (fun i _ => 256 - (intOf i).toNat)
  case atStart => exact ⟨0, Nat.zero_le _, rfl, b0, bel0⟩
  case round =>
    clear b0 bel0
    obtain ⟨m, hm, rfl, H⟩ := hrel
    have ⟨b2, bel2⟩ := H.out
    clear H
    obtain ⟨n, hn⟩ : ∃ n, lo + m = n := ⟨_, rfl⟩
    rw [hn]
    have HN := Lib.hid hn; clear hn
    have hn2 : n ≤ hi + 1 ∨ n = lo := by have := HN.out; omega
    by_cases hlt : n ≤ hi
    · have hnext := rangeS_succ lo m
      rw [HN.out] at hnext
      have hS : SetOk (rangeS lo m) := ofS_ok _
      have Hnext := Lib.hid hnext; clear hnext
      generalize rangeS lo m = S at b2 Hnext hS
      obtain ⟨q, hq⟩ : ∃ q : Nat, n / 64 = q := ⟨_, rfl⟩
      obtain ⟨r, hr⟩ : ∃ r : Nat, n % 64 = r := ⟨_, rfl⟩
      have hq4 : q < 4 := by omega
      have hr64 : r < 64 := by omega
      have hqi : (n : Int) / 64 = (q : Int) := by omega
      have hri : (n : Int) % 64 = (r : Int) := by omega
      have HQ := Lib.hid hq; clear hq
      have HR := Lib.hid hr; clear hr
      have hc1 := b2.cell hq4
      have hf1 := b2.frozen q
      go_wp2_with fail
      have B2 := Lib.hid b2; clear b2
      have BEL2 := Lib.hid bel2; clear bel2
      go_region
      go_wp2
      go_roundw
      case rel =>
        refine ⟨m + 1, by have := HN.out; omega, by have := HN.out; go_num, ?_, (BEL2.out.setCell (p := ⟨w.heap.size, q, none⟩) (Nat.le_refl _) _).drew⟩
        rw [or_walk _ _ (hS q hq4) hr64, Hnext.out, ← addS_at HQ.out HR.out]
        exact (B2.out.set hq4 _).below (n := w.heap.size + 1) ⟨rfl, rfl, rfl, Nat.le_refl _, fun _ _ => rfl⟩ (by omega)
      case measure => simp [intOf]; omega
    · have hm2 : m = hi + 1 - lo := by have := HN.out; omega
      subst hm2
      obtain ⟨u, hu⟩ : ∃ u, rangeS lo (hi + 1 - lo) = u := ⟨_, rfl⟩
      rw [hu] at b2
      have HU := Lib.hid hu; clear hu
      have c0 := b2.cell (k := 0) (by omega); have c1 := b2.cell (k := 1) (by omega); have c2 := b2.cell (k := 2) (by omega); have c3 := b2.cell (k := 3) (by omega)
      have f0 := b2.frozen 0; have f1 := b2.frozen 1; have f2 := b2.frozen 2; have f3 := b2.frozen 3
      go_wp2
      have b3 := b2.set4 u
      have e0 := b3.cell (k := 0) (by omega); have e1 := b3.cell (k := 1) (by omega); have e2 := b3.cell (k := 2) (by omega); have e3 := b3.cell (k := 3) (by omega)
      exact bodyPost_ret (v := setV u) (by unfold setV; simp [results, Try.results26, go_sem, e0, e1, e2, e3]) rfl ⟨by rw [HU.out], below_set4 bel2 (Nat.le_refl _) _ _ _ _⟩

/-! ### the bytes of a set, one by one -/
/-- a set's bytes from 0 on, up to k -/
def bytesTo (s : Nat → Nat) (k : Nat) : List Int := ((List.range k).filter (hasB s)).map (fun n : Nat => (n : Int))
def bytesS (s : Nat → Nat) : List Int := bytesTo s 256
theorem bytesTo_hit {s : Nat → Nat} {k : Nat} (h : hasB s k = true) : bytesTo s (k + 1) = bytesTo s k ++ [(k : Int)] := by
  unfold bytesTo; rw [List.range_succ, List.filter_append, List.map_append]; simp [h]
theorem bytesTo_miss {s : Nat → Nat} {k : Nat} (h : hasB s k = false) : bytesTo s (k + 1) = bytesTo s k := by
  unfold bytesTo; rw [List.range_succ, List.filter_append, List.map_append]; simp [h]
theorem bytesTo_prefix (s : Nat → Nat) {j k : Nat} (h : j ≤ k) : bytesTo s j <+: bytesTo s k := by
  induction k with
  | zero => have : j = 0 := by omega
            subst this; exact List.prefix_rfl
  | succ k ih =>
    by_cases e : j = k + 1
    · subst e; exact List.prefix_rfl
    · refine (ih (by omega)).trans ?_
      cases hb : hasB s k with
      | true => rw [bytesTo_hit hb]; exact List.prefix_append _ _
      | false => rw [bytesTo_miss hb]; exact List.prefix_rfl
theorem bytesS_mem {s : Nat → Nat} {x : Int} (h : x ∈ bytesS s) : ∃ n : Nat, n < 256 ∧ x = n ∧ hasB s n = true := by
  obtain ⟨n, hn, rfl⟩ := List.mem_map.1 h
  have := List.mem_filter.1 hn
  exact ⟨n, by simpa using this.1, rfl, this.2⟩

set_option maxRecDepth 100000 in
set_option maxHeartbeats 2000000 in
theorem all1_in (l Bs : Nat) (s : Nat → Nat) (hs : SetOk s) (J Jx : List Int → World → Prop) (Kp : World → World → Prop)
    (hJ : ∀ pre W W', J pre W → Below W.heap.size W W' → J pre W')
    (hY : ∀ pre x W, J pre W → x ∈ bytesS s → pre.length < (bytesS s).length → YieldAt Fence.wide 7 Try.prog l #[.int .u8 x] W fun e W' =>
      (e = .returned (.bool true) ∧ J (pre ++ [x]) W' ∧ Kp W W') ∨ (e = .returned (.bool false) ∧ Jx (pre ++ [x]) W'))
    (hKp : ∀ W W', SBox W Bs 39 s → Kp W W' → SBox W' Bs 39 s)
    (W : World) (hB : SBox W Bs 39 s) (h0 : J [] W) :
    CallsIn Fence.wide 8 Try.prog 80 #[.func (.yield l) #[] #[], .pointer (some ⟨Bs, 0, none⟩)] W fun e W' => (∃ v, e = .returned v) ∧
      ((∃ ys, ys = bytesS s ∧ J ys W') ∨ (∃ pre, pre <+: bytesS s ∧ Jx pre W')) := by
  refine callsIn_of_wp Try.func80 rfl trivial ?_ rfl
  simp only [Try.ntmps80, List.size_toArray, List.length_cons, List.length_nil, Nat.reduceAdd, Nat.reduceSub, Array.replicate_succ, Array.replicate_zero, List.push_toArray, List.append_toArray, List.nil_append, List.cons_append]
  gi_wp2
  apply wpIn_scope
  gi_wp2
  apply wpIn_label
  gi_wp2
  have HY := Lib.hid hY; clear hY
  have HK := Lib.hid hKp; clear hKp
  have HJ := Lib.hid hJ; clear hJ
  gi_loopw [4] (fun i wr => ∃ k : Nat, i = .int .i64 k ∧ k ≤ 256 ∧ Hid (J (bytesTo s k) wr ∧ SBox wr Bs 39 s))
    (fun i _ => 256 - (intOf i).toNat)
  case atStart => exact ⟨0, rfl, by omega, h0, hB⟩
  case round =>
    clear h0 hB
    obtain ⟨k, rfl, hk, H⟩ := hrel
    have ⟨hj, hb⟩ := H.out
    clear H
    have c0 := hb.cell (k := 0) (by omega); have c1 := hb.cell (k := 1) (by omega); have c2 := hb.cell (k := 2) (by omega); have c3 := hb.cell (k := 3) (by omega)
    have Hj := Lib.hid hj; clear hj
    have Hb := Lib.hid hb; clear hb
    by_cases hlt : k < 256
    · gi_wp2_with fail
      refine ⟨trivial, (callsIn_wide.2 (set_Has s hs k hlt wr)).mono ?_⟩
      rintro e w1 ⟨rfl, bel⟩
      have hj1 := HJ.out _ _ _ Hj.out bel
      have hb1 := Hb.out.below bel Hb.out.lt
      clear c0 c1 c2 c3
      cases hh : hasB s k with
      | true =>
        have HH := Lib.hid hh; clear hh
        have hmem : (k : Int) ∈ bytesS s := (bytesTo_prefix s (show k + 1 ≤ 256 by omega)).subset (by rw [bytesTo_hit HH.out]; simp)
        have hlen : (bytesTo s k).length < (bytesS s).length := by
          have := (bytesTo_prefix s (show k + 1 ≤ 256 by omega)).length_le
          rw [bytesTo_hit HH.out] at this
          simp at this
          exact this
        obtain ⟨fn, tmps, assign, body, hy, hR⟩ := HY.out _ (k : Int) w1 hj1 hmem hlen
        have HR := Lib.hid hR; clear hR hmem hlen hj1
        have Hb1 := Lib.hid hb1; clear hb1 bel
        gi_wp2
        refine HR.out.mono ?_
        rintro e W3 (⟨rfl, hJ3, hk3⟩ | ⟨rfl, hJx3⟩)
        · have hb3 := HK.out _ _ Hb1.out hk3
          gi_wp2
          go_roundw
          case rel => exact ⟨k + 1, by go_num, by omega, by rw [bytesTo_hit HH.out]; exact hJ3, hb3⟩
          case measure => simp [intOf]; omega
        · gi_wp2
          simp only [Exit.noGoto]
          go_end0
          refine ⟨⟨_, rfl⟩, .inr ⟨_, ?_, hJx3⟩⟩
          rw [← bytesTo_hit HH.out]
          exact bytesTo_prefix s (by omega)
      | false =>
        have HH := Lib.hid hh; clear hh
        gi_wp2
        go_roundw
        case rel => exact ⟨k + 1, by go_num, by omega, by rw [bytesTo_miss HH.out]; exact hj1, hb1⟩
        case measure => simp [intOf]; omega
    · obtain rfl : k = 256 := by omega
      gi_wp2
      simp only [Exit.noGoto]
      go_end0
      exact ⟨⟨_, rfl⟩, .inl ⟨_, rfl, Hj.out⟩⟩

theorem set_all (s : Nat → Nat) (w : World) : Calls Try.prog 51 #[setV s] w fun e w' =>
    ∃ Bs, e = .returned (.func (.func 80) #[] #[.pointer (some ⟨Bs, 0, none⟩)]) ∧ w.heap.size ≤ Bs ∧ SBox w' Bs 39 s ∧ Below w.heap.size w w' := by
  rw [show setV s = .agg #[.int .u64 (s 0), .int .u64 (s 1), .int .u64 (s 2), .int .u64 (s 3)] from rfl]
  go_enter Try.func51, Try.ntmps51
  go_wp2
  go_ret
  exact ⟨w.heap.size, rfl, Nat.le_refl _, SBox.new w _ s, (Below.refl _ w).alloc (Nat.le_refl _) _⟩

theorem set_all_iter (w : World) (s : Nat → Nat) (hs : SetOk s) (Bs : Nat) (hB : SBox w Bs 39 s) :
    Iter Try.prog 80 #[.pointer (some ⟨Bs, 0, none⟩)] (fun x : Int => #[.int .u8 x]) (bytesS s) (fun k => k = Bs) w := by
  intro M hM l J Jx W hW hJ _ hY h0
  refine (all1_in l Bs s hs (fun pre W' => (∃ pre', pre = pre'.map (·.1) ∧ J pre' W') ∧ W.heap.size ≤ W'.heap.size) (fun pre W' => ∃ pre', pre = pre'.map (·.1) ∧ Jx pre' W') (KeepBut M w.heap.size) ?_ ?_ ?_ W
    (hB.below hW hB.lt) ⟨⟨[], rfl, h0⟩, Nat.le_refl _⟩).mono ?_
  · rintro pre X Y ⟨⟨pre', rfl, hj⟩, hsz⟩ hb
    exact ⟨⟨pre', rfl, hJ pre' X Y none hj ⟨hb.os, hb.tape, hb.output, hb.size, fun k hk _ => hb.block k hk⟩ (fun r e => by cases e)⟩, Nat.le_trans hsz hb.size⟩
  · rintro pre x W1 ⟨⟨pre', rfl, hj⟩, hsz⟩ hx hl
    obtain ⟨fn, tmps, assign, body, hy, hR⟩ := hY pre' ⟨x, hx⟩ W1 hj (by simpa using hl)
    refine ⟨fn, tmps, assign, body, hy, hR.mono ?_⟩
    rintro e W' (⟨he, hj, hk⟩ | ⟨he, hj⟩)
    · exact .inl ⟨he, ⟨⟨_, by simp, hj⟩, Nat.le_trans hsz hk.size⟩, hk⟩
    · exact .inr ⟨he, _, by simp, hj⟩
  · intro X Y hX hk
    exact (hk.old Bs hB.lt (hM Bs rfl).2).trans hX
  · rintro e W' ⟨hv, ⟨ys, rfl, ⟨pre', he, hj⟩, _⟩ | ⟨pre, hp, pre', rfl, hj⟩⟩
    · exact ⟨hv, .inl ⟨pre', he.symm, hj⟩⟩
    · exact ⟨hv, .inr ⟨pre', hp, hj⟩⟩

end Go.Proofs.Ytkkilngihkdnaaa
