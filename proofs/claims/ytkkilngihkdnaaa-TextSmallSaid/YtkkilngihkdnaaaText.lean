/-
  The walks of the package text and of its reference: each function returns what the plain law says, and turns nothing that lay there.
-/
import Derived.Test.YtkkilngihkdnaaaBase
import Derived.Test.YtkkilngihkdnaaaTextPlain
namespace Go.Proofs.Ytkkilngihkdnaaa
open Go.RowKit Go.Shelf
attribute [local go_sem] Oper.semAt_some

def i64s (xs : List Int) : List Value := xs.map (.int .i64)
def u8s (xs : List Int) : List Value := xs.map (.int .u8)

theorem Rd.i64 {w : World} {b0 : Nat} {v : Value} {xs : List Int} (h : Rd w b0 v (i64s xs)) :
    ((∃ q, v = .slice q 0 0) ∧ xs = []) ∨ ∃ b off cap, v = .slice (some ⟨b, off, none⟩) xs.length cap ∧ b < b0 ∧ xs.length ≤ cap ∧ cap ≤ maxLen ∧
    ∀ j, (h : j < xs.length) → w.cell? ⟨b, off + j, none⟩ = some (.int .i64 xs[j]) := by
  rcases h with ⟨h1, h2⟩ | ⟨b, off, cap, e, h1, h2, h3, h4⟩
  · exact .inl ⟨h1, by simpa [i64s] using h2⟩
  · refine .inr ⟨b, off, cap, by simpa [i64s] using e, h1, by simpa [i64s] using h2, h3, fun j hj => ?_⟩
    rw [h4 j (by simpa [i64s] using hj)]; simp [i64s]
theorem Rd.u8 {w : World} {b0 : Nat} {v : Value} {xs : List Int} (h : Rd w b0 v (u8s xs)) :
    ((∃ q, v = .slice q 0 0) ∧ xs = []) ∨ ∃ b off cap, v = .slice (some ⟨b, off, none⟩) xs.length cap ∧ b < b0 ∧ xs.length ≤ cap ∧ cap ≤ maxLen ∧
    ∀ j, (h : j < xs.length) → w.cell? ⟨b, off + j, none⟩ = some (.int .u8 xs[j]) := by
  rcases h with ⟨h1, h2⟩ | ⟨b, off, cap, e, h1, h2, h3, h4⟩
  · exact .inl ⟨h1, by simpa [u8s] using h2⟩
  · refine .inr ⟨b, off, cap, by simpa [u8s] using e, h1, by simpa [u8s] using h2, h3, fun j hj => ?_⟩
    rw [h4 j (by simpa [u8s] using hj)]; simp [u8s]

/-! ### text.Line -/
set_option maxHeartbeats 400000 in
theorem text_Line (v : Value) (xs : List Int) (p : Int) (w : World) (h : Rd w w.heap.size v (i64s xs)) :
    Calls Try.prog 16 #[v, .int .i64 p] w fun e w' => e = .returned (.int .i64 (lineN xs p)) ∧ w = w' := by
  have hl : xs.length ≤ 9223372036854775807 := by simpa [i64s] using h.len
  rcases h.i64 with ⟨⟨q, rfl⟩, rfl⟩ | ⟨b, off, cap, rfl, hb, hcl, hcm, hc⟩
  · go_enter Try.func16, Try.ntmps16
    go_wp2
    go_loop [9] (fun i => i = .int .i64 0) (fun _ => 0)
    case atStart => rfl
    case round =>
      subst hrel
      go_wp2
      go_ret
      exact ⟨rfl, rfl⟩
  · have Hc := Lib.hid hc; clear hc
    clear h
    go_enter Try.func16, Try.ntmps16
    go_wp2
    go_loop [4, 5, 9] (fun _ _ i => ∃ k : Nat, k ≤ xs.length ∧ i = .int .i64 k ∧ Hid (∀ j, j < k → xs.getD j 0 ≤ p)) (fun _ _ i => xs.length - (intOf i).toNat)
    case atStart => exact ⟨0, Nat.zero_le _, rfl, fun j h => by omega⟩
    case round =>
      obtain ⟨k, hk, rfl, Hp⟩ := hrel
      by_cases hlt : k < xs.length
      · have hcell := Hc.out k hlt
        go_wp2
        · go_ret
          have hx : p < xs[k] := by assumption
          exact ⟨by rw [lineN_stop hlt Hp.out (by simpa [hlt] using hx)]; rfl, rfl⟩
        · have hx : xs[k] ≤ p := by assumption
          go_round
          case rel =>
            refine ⟨k + 1, by omega, by go_num, ?_⟩
            intro j hj
            by_cases e : j = k
            · subst e; simpa [hlt] using hx
            · exact Hp.out j (by omega)
          case measure => simp [intOf]; omega
      · go_wp2
        go_ret
        exact ⟨by rw [lineN_all (fun j hj => Hp.out j (by omega))]; rfl, rfl⟩

/-! ### text.places -/
set_option maxRecDepth 100000 in
set_option maxHeartbeats 2000000 in
theorem places1_in (l Bf Bb b0 a : Nat) (v : Value) (B : List Int) (J Jx : List Int → World → Prop) (Kp : World → World → Prop) (ha : a ≤ 9223372036854775807)
    (hY : ∀ pre x W, J pre W → x ∈ (feeds B a).map (fun n : Nat => (n : Int)) → pre.length < (feeds B a).length → YieldAt Fence.wide 7 Try.prog l #[.int .i64 x] W fun e W' =>
      (e = .returned (.bool true) ∧ J (pre ++ [x]) W' ∧ Kp W W') ∨ (e = .returned (.bool false) ∧ Jx (pre ++ [x]) W'))
    (hKp : ∀ W W', Kp W W' → W'.cell? ⟨Bb, 0, none⟩ = W.cell? ⟨Bb, 0, none⟩ ∧ Below b0 W W')
    (W : World) (hBf : W.cell? ⟨Bf, 0, none⟩ = some (.int .i64 a)) (hBb : W.cell? ⟨Bb, 0, none⟩ = some v) (hR : Rd W b0 v (u8s B)) (h0 : J [] W) :
    CallsIn Fence.wide 8 Try.prog 58 #[.func (.yield l) #[] #[], .pointer (some ⟨Bf, 0, none⟩), .pointer (some ⟨Bb, 0, none⟩)] W fun e W' => (∃ v, e = .returned v) ∧
      ((∃ ys, ys = (feeds B a).map (fun n : Nat => (n : Int)) ∧ J ys W') ∨ (∃ pre, pre <+: (feeds B a).map (fun n : Nat => (n : Int)) ∧ Jx pre W')) := by
  have hl : B.length ≤ 9223372036854775807 := by simpa [u8s] using hR.len
  refine callsIn_of_wp Try.func58 rfl trivial ?_ rfl
  simp only [Try.ntmps58, List.size_toArray, List.length_cons, List.length_nil, Nat.reduceAdd, Nat.reduceSub, Array.replicate_succ, Array.replicate_zero, List.push_toArray, List.append_toArray, List.nil_append, List.cons_append]
  gi_wp2
  apply wpIn_scope
  gi_wp2
  apply wpIn_label
  gi_wp2
  rcases hR.u8 with ⟨⟨q, rfl⟩, rfl⟩ | ⟨b, off, cap, rfl, hb, hcl, hcm, hc⟩
  · have hf : feeds [] a = [] := by unfold feeds; exact feedsTo_self _ _ _ (by simp)
    have Hf := Lib.hid hf; clear hf
    gi_loopw [4] (fun i wr => wr = W ∧ i = .int .i64 a) (fun _ _ => 0)
    case atStart => exact ⟨rfl, rfl⟩
    case round =>
      obtain ⟨rfl, rfl⟩ := hrel
      gi_wp2
      simp only [Exit.noGoto]
      go_end0
      exact ⟨⟨_, rfl⟩, .inl ⟨[], by rw [Hf.out]; rfl, h0⟩⟩
  · have Hc := Lib.hid hc; clear hc
    have HY := Lib.hid hY; clear hY
    have HK := Lib.hid hKp; clear hKp
    gi_loopw [4] (fun i wr => ∃ k : Nat, i = .int .i64 k ∧ Hid (a ≤ k ∧ (k ≤ B.length ∨ k = a) ∧ J ((feedsTo B a k).map (fun n : Nat => (n : Int))) wr ∧ wr.cell? ⟨Bb, 0, none⟩ = some (.slice (some ⟨b, off, none⟩) B.length cap) ∧ Below b0 W wr))
      (fun i _ => B.length - (intOf i).toNat)
    case atStart => exact ⟨a, rfl, Nat.le_refl _, .inr rfl, by rw [feedsTo_self _ _ _ (Nat.le_refl _)]; exact h0, hBb, Below.refl _ _⟩
    case round =>
      clear hBf hBb h0 hR
      obtain ⟨k, rfl, H⟩ := hrel
      have ⟨hak, hkl, hJ, hbox, hbel⟩ := H.out
      clear H
      have hk2 : k ≤ 9223372036854775807 := by rcases hkl with h | h <;> omega
      by_cases hlt : k < B.length
      · have hcell : wr.cell? ⟨b, off + k, none⟩ = some (.int .u8 B[k]) := (hbel.cell (p := ⟨b, off + k, none⟩) hb).trans (Hc.out k hlt)
        have HJ := Lib.hid hJ; clear hJ
        have HB := Lib.hid hbel; clear hbel
        by_cases hx : B[k] = 10
        · have hx1 : (B[k] != 10) = false := by simp [hx]
          have Hx := Lib.hid hx; clear hx
          have hg : B.getD k 0 = 10 := by simp [hlt, Hx.out]
          have hmem : (k : Int) ∈ (feeds B a).map (fun n : Nat => (n : Int)) := by
            refine List.mem_map.2 ⟨k, ?_, rfl⟩
            exact (feedsTo_prefix_feeds B a (k + 1) (by omega) (by omega)).subset (by rw [feedsTo_hit hak hg]; simp)
          have hlen : ((feedsTo B a k).map (fun n : Nat => (n : Int))).length < (feeds B a).length := by
            have := (feedsTo_prefix_feeds B a (k + 1) (by omega) (by omega)).length_le
            rw [feedsTo_hit hak hg] at this
            simp at this ⊢; omega
          obtain ⟨fn, tmps, assign, body, hy, hR⟩ := HY.out _ (k : Int) wr HJ.out hmem hlen
          have HR := Lib.hid hR; clear hR hmem hlen hg
          gi_wp2
          refine HR.out.mono ?_
          rintro e W3 (⟨rfl, hJ3, hk3⟩ | ⟨rfl, hJx3⟩)
          · have ⟨hc3, hb3⟩ := HK.out _ _ hk3
            have hbox3 := hc3.trans hbox
            clear hc3
            gi_wp2
            go_roundw
            case rel =>
              refine ⟨k + 1, by go_num, by omega, .inl (by omega), ?_, hbox3, HB.out.trans hb3⟩
              rw [feedsTo_hit hak (by simp [hlt, Hx.out])]; simpa using hJ3
            case measure => simp [intOf]; omega
          · gi_wp2
            simp only [Exit.noGoto]
            go_end0
            refine ⟨⟨_, rfl⟩, .inr ⟨_, ?_, hJx3⟩⟩
            have := (feedsTo_prefix_feeds B a (k + 1) (by omega) (by omega)).map (fun n : Nat => (n : Int))
            rw [feedsTo_hit hak (by simp [hlt, Hx.out])] at this
            simpa using this
        · have hx1 : (B[k] != 10) = true := by simp [hx]
          have Hx := Lib.hid hx; clear hx
          gi_wp2
          go_roundw
          case rel =>
            refine ⟨k + 1, by go_num, by omega, .inl (by omega), ?_, hbox, HB.out⟩
            rw [feedsTo_miss hak (by simpa [hlt] using Hx.out)]; exact HJ.out
          case measure => simp [intOf]; omega
      · have hall : feedsTo B a k = feeds B a := by
          rcases hkl with h | h
          · have : k = B.length := by omega
            subst this; rfl
          · subst h; rw [feedsTo_self _ _ _ (Nat.le_refl _)]; unfold feeds; rw [feedsTo_self _ _ _ (by omega)]
        have HA := Lib.hid hall; clear hall
        gi_wp2
        simp only [Exit.noGoto]
        go_end0
        exact ⟨⟨_, rfl⟩, .inl ⟨_, by rw [HA.out], hJ⟩⟩


theorem text_places (w : World) (v : Value) (z : Int) (a : Nat) (hz : z = a) (hv : ∃ p n c, v = .slice p n c) : Calls Try.prog 42 #[v, .int .i64 z] w fun e w' =>
    ∃ Bf Bb, e = .returned (.func (.func 58) #[] #[.pointer (some ⟨Bf, 0, none⟩), .pointer (some ⟨Bb, 0, none⟩)]) ∧ w.heap.size ≤ Bf ∧ w.heap.size ≤ Bb ∧ Boxed w' Bf 3 (.int .i64 a) ∧ Boxed w' Bb 22 v ∧ Below w.heap.size w w' := by
  subst hz
  obtain ⟨p, n, c, rfl⟩ := hv
  go_enter Try.func42, Try.ntmps42
  go_wp2
  go_ret
  have h1 := Boxed.new (w.alloc (.cells #[.slice p n c] 22)) 3 (.int .i64 a)
  rw [World.size_alloc] at h1
  exact ⟨w.heap.size + 1, w.heap.size, rfl, by omega, by omega, h1, (Boxed.new w _ _).alloc _, ((Below.refl _ w).alloc (Nat.le_refl _) _).alloc (by simp) _⟩

/-- what 'places' hands back gives the places of line feeds -/
theorem text_places_iter (w : World) (v : Value) (B : List Int) (a Bf Bb b0 : Nat) (ha : a ≤ 9223372036854775807) (hBf : w.cell? ⟨Bf, 0, none⟩ = some (.int .i64 a)) (hBb : w.cell? ⟨Bb, 0, none⟩ = some v) (hR : Rd w b0 v (u8s B))
    (h1 : Bf < w.heap.size) (h2 : Bb < w.heap.size) (h3 : b0 ≤ w.heap.size) :
    Iter Try.prog 58 #[.pointer (some ⟨Bf, 0, none⟩), .pointer (some ⟨Bb, 0, none⟩)] (fun x : Int => #[.int .i64 x]) ((feeds B a).map (fun n : Nat => (n : Int)))
      (fun k => k < b0 ∨ k = Bb ∨ k = Bf) w := by
  intro M hM l J Jx W hW _ _ hY h0
  refine (places1_in l Bf Bb b0 a v B (fun pre W' => ∃ pre', pre = pre'.map (·.1) ∧ J pre' W') (fun pre W' => ∃ pre', pre = pre'.map (·.1) ∧ Jx pre' W') (KeepBut M w.heap.size) ha ?_ ?_ W
    ((hW.cell (p := ⟨Bf, 0, none⟩) h1).trans hBf) ((hW.cell (p := ⟨Bb, 0, none⟩) h2).trans hBb) (hR.below (hW.mono h3)) ⟨[], rfl, h0⟩).mono ?_
  · rintro pre x W1 ⟨pre', rfl, hJ⟩ hx hl
    obtain ⟨fn, tmps, assign, body, hy, hR⟩ := hY pre' ⟨x, hx⟩ W1 hJ (by simpa using hl)
    refine ⟨fn, tmps, assign, body, hy, hR.mono ?_⟩
    rintro e W' (⟨he, hj, hk⟩ | ⟨he, hj⟩)
    · exact .inl ⟨he, ⟨_, by simp, hj⟩, hk⟩
    · exact .inr ⟨he, _, by simp, hj⟩
  · intro X Y hk
    refine ⟨World.cell?_of_block (hk.old Bb h2 (hM Bb (.inr (.inl rfl))).2), hk.below h3 (fun k hk => (hM k (.inl hk)).2)⟩
  · rintro e W' ⟨hv, ⟨ys, rfl, pre', he, hj⟩ | ⟨pre, hp, pre', rfl, hj⟩⟩
    · exact ⟨hv, .inl ⟨pre', he.symm, hj⟩⟩
    · exact ⟨hv, .inr ⟨pre', hp, hj⟩⟩

theorem info_int : (Try.prog.info? 3).map (fun i => (i.zero, i.size, i.bytes)) = some (some (.int .i64 0), 1, 8) := by kernel_rfl

set_option maxRecDepth 100000 in
set_option maxHeartbeats 2000000 in
theorem text_Lines (v : Value) (B : List Int) (w : World) (hB : B.length ≤ 4194304) (h : Rd w w.heap.size v (u8s B)) :
    Calls Try.prog 13 #[v] w fun e w' => ∃ r, e = .returned r ∧ w'.ownsRow w.heap.size 3 1 r (lines B).length (i64s (lines B)) ∧ Below w.heap.size w w' := by
  refine calls_of_wide ?_
  obtain ⟨i0, hi, hz0, hz1, hz2⟩ := info_parts info_int
  have hv : ∃ p n c, v = .slice p n c := by rcases h with ⟨⟨q, h⟩, _⟩ | ⟨b, off, cap, h, _⟩ <;> exact ⟨_, _, _, h⟩
  refine callsIn_of_wp_marks Try.func13 rfl trivial ?_ rfl
  simp only [Try.ntmps13, List.size_toArray, List.length_cons, List.length_nil, Nat.reduceAdd, Nat.reduceSub, Array.replicate_succ, Array.replicate_zero, List.push_toArray, List.append_toArray, List.nil_append, List.cons_append]
  have H := Lib.hid h; clear h
  have Hv := Lib.hid hv; clear hv
  gi_wp2_with fail
  have hz0' := own_lit w w.heap.size 3 [.int .i64 0] (Nat.le_refl _) (by simp [maxLen])
  have ho1 := hz0'.alloc (.cells #[Value.slice (some { block := w.heap.size, off := 0 }) 1 1] 23)
  have hb1 := Boxed.new (w.alloc (.cells #[Value.int IntKind.i64 0] 3)) 23 (Value.slice (some { block := w.heap.size, off := 0 }) 1 1)
  have bel1 : Below w.heap.size w ((w.alloc (.cells #[Value.int IntKind.i64 0] 3)).alloc (.cells #[Value.slice (some { block := w.heap.size, off := 0 }) 1 1] 23)) := ((Below.refl _ w).alloc (Nat.le_refl _) _).alloc (by simp) _
  rw [World.size_alloc] at hb1
  refine ⟨trivial, (callsIn_wide.2 (text_places _ v _ 0 rfl Hv.out)).mono ?_⟩
  rintro e w1 ⟨Bf, Bb, rfl, hBf, hBb, bF, bB, bel2⟩
  have ho2 := own_below ho1 bel2
  have hb2 := box_below hb1 bel2
  have bel3 := bel1.trans (bel2.mono (by simp; omega))
  clear hz0' ho1 hb1 bel1
  simp at hBf hBb
  gi_wp2_with fail
  refine wp_range (text_places_iter w1 v B 0 Bf Bb w.heap.size (by omega) bF.cell bB.cell (H.out.below bel3) bF.lt bB.lt bel3.size) rfl (enters_of Try.func58 (by kernel_rfl) rfl) (fun _ => rfl)
    (fun k => k = w.heap.size ∨ k = w.heap.size + 1) ?_
    (fun pre W => ∃ r, Boxed W (w.heap.size + 1) 23 r ∧ W.ownsRow w.heap.size 3 1 r (pre.length + 1) (i64s (0 :: pre.map (· + 1))) ∧ ∀ g, r.ownBlock = some g → g = w.heap.size ∨ w1.heap.size ≤ g) (fun _ _ _ => False)
    (fun s W W' h ⟨r, h1, h2, h3⟩ => ⟨r, h.boxed h1, h.own h2, h3⟩) (fun _ _ _ _ _ h => h)
    ⟨_, hb2, ho2, fun g hg => by simp [Value.ownBlock] at hg; exact .inl hg.symm⟩ ?a1 ?assign ?body ?done ?stop
  · rintro k (h | rfl | rfl)
    · exact ⟨by have := bel3.size; omega, by omega⟩
    · exact ⟨bB.lt, by omega⟩
    · exact ⟨bF.lt, by omega⟩
  case assign =>
    intro l x W K hK
    gi_wp2
    exact hK
  case body =>
    rintro l pre x W hkb ⟨r, hb, hown, hat⟩ hmem hlen
    have hc1 := hb.cell
    have hsz := hkb.size
    have hx : 0 ≤ x ∧ x < 4194304 := by
      obtain ⟨n, hn, rfl⟩ := List.mem_map.1 hmem
      have := List.mem_range'_1.1 (List.mem_filter.1 hn).1
      omega
    obtain ⟨hx0, hx1⟩ := hx
    have hpl : pre.length < 4194304 := by
      have := feedsTo_length B 0 B.length
      simp at hlen; unfold feeds at hlen; omega
    have Hat := Lib.hid hat; clear hat
    have Hmem := Lib.hid hmem; clear hmem
    have Hs := bel3.size
    have hrow : ∀ k, r.ownBlock = some k → (k < w1.heap.size ∧ (k = w.heap.size ∨ k = w.heap.size + 1)) ∨ (w1.heap.size ≤ k ∧ ∃ c e f, W.heap[k]? = some (.cells c e f)) := by
      intro k hk
      rcases Hat.out k hk with h | h
      · exact .inl ⟨by have := hb2.lt; omega, .inl h⟩
      · obtain ⟨_, h' | ⟨g, cap, cur, rfl, _, hg, _⟩⟩ := hown
        · obtain ⟨rfl, _⟩ := h'; simp [Value.ownBlock] at hk
        · simp [Value.ownBlock] at hk; subst hk; exact .inr ⟨h, _, _, _, hg⟩
    have Hrow := Lib.hid hrow; clear hrow
    gi_wp2_with (gi_at_builtin; refine wpListIn_append_at _ rfl _ _ 23 rfl w.heap.size 3 i0 (.int .i64 0) 1 8 Try.underlying23 hi hz0 hz1 hz2 rfl (by decide) _ _ _ rfl (hown.alloc _) ⟨W.heap.size, 0, none⟩ 1 1 [.int .i64 (x + 1)] rfl rfl (cell_one_new _ _ _) (by simp [Value.oneCell']) (by unfold maxLen; omega) (by omega) (by simp; omega) (by decide) ?_; intro g' cap' w3 hown' hgrow hat'; have hv1 := (hb.alloc (.cells #[.int .i64 (x + 1)] 3)).kept hgrow (hb.not_row (by decide) hown); have hc1' := hv1.cell; have hf1' := hv1.frozen)
    have hne : some (w.heap.size + 1) ≠ (Value.slice (some ⟨g', 0, none⟩) (pre.length + 1 + 1) cap').ownBlock := hv1.not_row (by decide) hown'
    refine ⟨?_, _, hv1.set _, ?_, ?_⟩
    · refine (((Upd.refl _ _ W).alloc (by omega) _).grown hgrow (fun k hk => ?_) (by simp; omega)).setOld (by have := hgrow.size; simp at this; omega) hb2.lt (.inr rfl) _
      rcases Hrow.out k hk with h | ⟨h1, c, e, f, h2⟩
      · exact .inl h
      · exact .inr ⟨h1, c, e, f, (heap_alloc_old W _ k (Array.getElem?_eq_some_iff.1 h2).1).trans h2⟩
    · have := hown'.kept (grownBy_setCell' w3 (w.heap.size + 1) (Value.slice (some ⟨g', 0, none⟩) (pre.length + 1 + 1) cap')) (.inr hne.symm)
      simpa [i64s] using this
    · intro g hg
      simp [Value.ownBlock] at hg
      subst hg
      rcases hat' with h | h
      · exact Hat.out _ h
      · rw [World.size_alloc] at h; exact .inr (by omega)
  case done =>
    rintro D W hD hkb ⟨r, hb, hown, hat⟩ hK
    have hc := hb.cell
    have Hat := Lib.hid hat; clear hat
    gi_wp2
    refine leave_range hK (fun _ => results_tmp rfl _ _ _) ⟨r, rfl, ?_, ?_⟩
    · have := ownsRow_putObj hown (.deferred none) hK rfl
      have e : lines B = 0 :: (feeds B 0).map (fun n : Nat => (n : Int) + 1) := rfl
      rw [e]
      simpa [List.map_map, Function.comp_def] using this
    · refine bel3.trans ((hkb.below bel3.size (fun k hk => by omega)).trans ((Idle.of_putObj (.deferred none) hK rfl hD).below.mono bel3.size))
  case stop =>
    rintro D c pre W _ _ _ h _
    exact h.elim

/-! ### text.Text -/
theorem text_Text_none (v v2 : Value) (xs : List Int) (line : Int) (w : World) (h2 : Rd w w.heap.size v2 (i64s xs)) (hline : ¬ (1 ≤ line ∧ line ≤ xs.length)) :
    Calls Try.prog 18 #[v, v2, .int .i64 line] w fun e w' => e = .returned (.string ⟨#[]⟩) ∧ Below w.heap.size w w' := by
  have hv2 : ∃ p c, v2 = .slice p xs.length c := by rcases h2.i64 with ⟨⟨q, h⟩, rfl⟩ | ⟨b, off, cap, h, _⟩ <;> exact ⟨_, _, h⟩
  obtain ⟨p, c, rfl⟩ := hv2
  have hl : xs.length ≤ 9223372036854775807 := by simpa [i64s] using h2.len
  clear h2
  by_cases h1 : line < 1
  · go_enter Try.func18, Try.ntmps18
    go_wp2
    go_ret
    exact ⟨rfl, Below.refl _ _⟩
  · have h3 : (xs.length : Int) < line := by omega
    clear hline
    go_enter Try.func18, Try.ntmps18
    go_wp2
    go_ret
    exact ⟨rfl, Below.refl _ _⟩

set_option maxRecDepth 100000 in
set_option maxHeartbeats 2000000 in
theorem text_Text_out (v v2 : Value) (B xs : List Int) (line : Int) (w : World) (h : Rd w w.heap.size v (u8s B)) (h2 : Rd w w.heap.size v2 (i64s xs)) (hline : 1 ≤ line ∧ line ≤ xs.length)
    (hs : ¬ (0 ≤ xs.getD (line - 1).toNat 0 ∧ xs.getD (line - 1).toNat 0 ≤ B.length)) :
    Calls Try.prog 18 #[v, v2, .int .i64 line] w fun e w' => e = .returned (.string ⟨#[]⟩) ∧ Below w.heap.size w w' := by
  have hv : ∃ p c, v = .slice p B.length c := by rcases h.u8 with ⟨⟨q, h'⟩, rfl⟩ | ⟨b, off, cap, h', _⟩ <;> exact ⟨_, _, h'⟩
  obtain ⟨p, c, rfl⟩ := hv
  have hBl : B.length ≤ 9223372036854775807 := by simpa [u8s] using h.len
  clear h
  rcases h2.i64 with ⟨⟨q, rfl⟩, rfl⟩ | ⟨b, off, cap, rfl, hb, hcl, hcm, hc⟩
  · simp at hline; omega
  · obtain ⟨k, rfl⟩ : ∃ k : Nat, line = (k : Int) + 1 := ⟨(line - 1).toNat, by omega⟩
    have hk : k < xs.length := by omega
    have hcell := hc k hk
    have hg : xs.getD ((k : Int) + 1 - 1).toNat 0 = xs[k] := by rw [show ((k : Int) + 1 - 1).toNat = k from by omega]; simp [hk]
    rw [hg] at hs
    clear h2 hc hg
    unfold maxLen at hcm
    obtain ⟨s, hs0⟩ : ∃ s, xs[k] = s := ⟨_, rfl⟩
    rw [hs0] at hcell hs
    clear hs0
    have ek : (k : Int) + 1 - 1 = k := by omega
    by_cases h1 : s < 0
    · go_enter Try.func18, Try.ntmps18
      go_wp2
      go_ret
      exact ⟨rfl, (Below.refl _ _).alloc (Nat.le_refl _) _⟩
    · have h3 : (B.length : Int) < s := by omega
      clear hs
      go_enter Try.func18, Try.ntmps18
      go_wp2
      go_ret
      exact ⟨rfl, (Below.refl _ _).alloc (Nat.le_refl _) _⟩

set_option maxRecDepth 100000 in
set_option maxHeartbeats 2000000 in
theorem text_Text_in (v v2 : Value) (B xs : List Int) (line : Int) (w : World) (h : Rd w w.heap.size v (u8s B)) (h2 : Rd w w.heap.size v2 (i64s xs)) (hline : 1 ≤ line ∧ line ≤ xs.length)
    (hs : 0 ≤ xs.getD (line - 1).toNat 0 ∧ xs.getD (line - 1).toNat 0 ≤ B.length) :
    Calls Try.prog 18 #[v, v2, .int .i64 line] w fun e w' => e = .returned (.string (strOfNums (lineFrom B (xs.getD (line - 1).toNat 0).toNat))) ∧ Below w.heap.size w w' := by
  refine calls_of_wide ?_
  have hv : ∃ p c, v = .slice p B.length c := by rcases h.u8 with ⟨⟨q, h'⟩, rfl⟩ | ⟨b, off, cap, h', _⟩ <;> exact ⟨_, _, h'⟩
  have hBl : B.length ≤ 9223372036854775807 := by simpa [u8s] using h.len
  rcases h2.i64 with ⟨⟨q, rfl⟩, rfl⟩ | ⟨b2, off2, cap2, rfl, hb2, hcl2, hcm2, hc2⟩
  · simp at hline; omega
  · obtain ⟨k, rfl⟩ : ∃ k : Nat, line = (k : Int) + 1 := ⟨(line - 1).toNat, by omega⟩
    have hk : k < xs.length := by omega
    have hcell := hc2 k hk
    have hg : xs.getD ((k : Int) + 1 - 1).toNat 0 = xs[k] := by rw [show ((k : Int) + 1 - 1).toNat = k from by omega]; simp [hk]
    rw [hg] at hs
    rw [hg]
    clear h2 hc2 hg
    unfold maxLen at hcm2
    obtain ⟨s0, hs0⟩ : ∃ s, xs[k] = s := ⟨_, rfl⟩
    rw [hs0] at hcell hs
    rw [hs0]
    clear hs0
    obtain ⟨s, rfl⟩ : ∃ s : Nat, s0 = s := ⟨s0.toNat, by omega⟩
    have ek : (k : Int) + 1 - 1 = k := by omega
    obtain ⟨p, c, rfl⟩ := hv
    have H := Lib.hid h; clear h
    refine callsIn_of_wp_marks Try.func18 rfl trivial ?_ rfl
    simp only [Try.ntmps18, List.size_toArray, List.length_cons, List.length_nil, Nat.reduceAdd, Nat.reduceSub, Array.replicate_succ, Array.replicate_zero, List.push_toArray, List.append_toArray, List.nil_append, List.cons_append]
    gi_wp2_with fail
    have bel1 : Below w.heap.size w (w.alloc (.cells #[Value.int IntKind.i64 B.length] 3)) := (Below.refl _ w).alloc (Nat.le_refl _) _
    have hb1 := Boxed.new w 3 (Value.int IntKind.i64 B.length)
    refine ⟨trivial, (callsIn_wide.2 (text_places _ (.slice p B.length c) s s rfl ⟨_, _, _, rfl⟩)).mono ?_⟩
    rintro e w1 ⟨Bf, Bb, rfl, hBf, hBb, bF, bB, bel2⟩
    have hb2' := box_below hb1 bel2
    have bel3 := bel1.trans (bel2.mono (by simp))
    have Hsz := bel2.size
    simp at hBf hBb Hsz
    clear hb1 bel1
    have Hx := Lib.hid (show feeds B s = [] → nextFeed B s = B.length from nextFeed_none (by omega))
    have Hy := Lib.hid (show ∀ x, [x] <+: feeds B s → nextFeed B s = x from fun x => nextFeed_first)
    have Hle := nextFeed_le B s (by omega)
    have Hge : s ≤ nextFeed B s := by unfold nextFeed; omega
    have hcc : B.length ≤ c := by
      rcases H.out with ⟨⟨q, h⟩, h'⟩ | ⟨b, off, cap, h, _, hc, _⟩
      · injection h with _ h1 h2; omega
      · injection h with _ h1 h2; subst h2; simpa [u8s] using hc
    have hsl := run_slice_off (P := Try.prog) 22 5 Try.underlying22 (fun w => by kernel_rfl) p B.length c s (nextFeed B s) Hge (by omega)
    have hcv : ∀ W, Below w.heap.size w W → (convert 22 9 (.slice (offA p c s) (nextFeed B s - s) (c - s))).run Try.prog W = .ok (.string (strOfNums (lineFrom B s))) W := by
      intro W hW
      refine run_convert_rd W 22 5 9 Try.underlying22 Try.underlying5 Try.underlying9 (b0 := w.heap.size) ?_
      have := (H.out.below hW).sub Hge Hle
      rw [lineFrom_eq_take]
      simpa [u8s, List.map_take, List.map_drop] using this
    have Hsl := Lib.hid hsl; clear hsl
    have Hcv := Lib.hid hcv; clear hcv
    gi_wp2_with fail
    refine wp_range (text_places_iter w1 (.slice p B.length c) B s Bf Bb w.heap.size (by omega) bF.cell bB.cell (H.out.below bel3) bF.lt bB.lt bel3.size) rfl (enters_of Try.func58 (by kernel_rfl) rfl) (fun _ => rfl)
      (fun k => k = w.heap.size) ?_
      (fun pre W => pre = [] ∧ Boxed W w.heap.size 3 (.int .i64 B.length)) (fun cd pre W => cd = .exit 0 ∧ ∃ x : Int, pre = [x] ∧ Boxed W w.heap.size 3 (.int .i64 x))
      (fun s W W' h ⟨h1, h2⟩ => ⟨h1, h.boxed h2⟩) (fun _ s W W' h ⟨h1, x, h2, h3⟩ => ⟨h1, x, h2, h.boxed h3⟩)
      ⟨rfl, hb2'⟩ ?a1 ?assign ?body ?done ?stop
    · rintro k (h | rfl | rfl)
      · exact ⟨by have := bel3.size; omega, by omega⟩
      · exact ⟨bB.lt, by omega⟩
      · exact ⟨bF.lt, by omega⟩
    case assign =>
      intro l x W K hK
      gi_wp2
      exact hK
    case body =>
      rintro l pre x W hkb ⟨rfl, hb⟩ hmem hlen
      have hc1 := hb.cell
      have hf1 := hb.frozen
      have hsz := hkb.size
      have hsz2 := hb2'.lt
      gi_wp2
      exact ⟨(Upd.refl (fun k => k = w.heap.size) _ W).setOld hsz hsz2 rfl _, rfl, x, rfl, hb.set _⟩
    case done =>
      rintro D W hD hkb ⟨he, hb⟩ hK
      have hc := hb.cell
      have hend : nextFeed B s = B.length := Hx.out (by simpa using he)
      have hsl := Hsl.out
      have bel4 : Below w.heap.size w W := bel3.trans (hkb.below bel3.size (fun k hk => by omega))
      have hcv := Hcv.out W bel4
      rw [hend] at hsl hcv
      clear hend
      gi_wp2
      exact leave_range hK (fun _ => results_tmp rfl _ _ _) ⟨rfl, bel4.trans ((Idle.of_putObj (.deferred none) hK rfl hD).below.mono bel3.size)⟩
    case stop =>
      rintro D cd pre W hD hkb hpre ⟨rfl, x, rfl, hb⟩ hK
      have hc := hb.cell
      obtain ⟨n, rfl, hend⟩ : ∃ n : Nat, x = n ∧ nextFeed B s = n := by
        have hx : x ∈ (feeds B s).map (fun n : Nat => (n : Int)) := hpre.subset (by simp)
        obtain ⟨n, hn, rfl⟩ := List.mem_map.1 hx
        refine ⟨n, rfl, Hy.out n ?_⟩
        obtain ⟨t, ht⟩ := hpre
        cases hf : feeds B s with
        | nil => rw [hf] at ht; simp at ht
        | cons y r =>
          rw [hf] at ht
          simp at ht
          obtain ⟨h1, _⟩ := ht
          have : n = y := by omega
          subst this
          exact ⟨r, by simp⟩
      have hsl := Hsl.out
      have bel4 : Below w.heap.size w W := bel3.trans (hkb.below bel3.size (fun k hk => by omega))
      have hcv := Hcv.out W bel4
      rw [hend] at hsl hcv
      clear hend
      gi_wp2
      exact leave_range hK (fun _ => results_tmp rfl _ _ _) ⟨rfl, bel4.trans ((Idle.of_putObj (.deferred none) hK rfl hD).below.mono bel3.size)⟩

theorem text_Text (v v2 : Value) (B xs : List Int) (line : Int) (w : World) (h : Rd w w.heap.size v (u8s B)) (h2 : Rd w w.heap.size v2 (i64s xs)) :
    Calls Try.prog 18 #[v, v2, .int .i64 line] w fun e w' => e = .returned (.string (strOfNums (textN B xs line))) ∧ Below w.heap.size w w' := by
  unfold textN
  split
  · rename_i hl
    simp only
    split
    · rename_i hs
      exact text_Text_in v v2 B xs line w h h2 hl hs
    · rename_i hs
      exact text_Text_out v v2 B xs line w h h2 hl hs
  · rename_i hl
    exact text_Text_none v v2 xs line w h2 hl

end Go.Proofs.Ytkkilngihkdnaaa
