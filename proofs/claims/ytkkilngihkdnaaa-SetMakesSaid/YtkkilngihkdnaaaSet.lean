/-
  The walks of the package set: each function returns what the plain law says, and turns nothing that lay there.
-/
import Derived.Test.YtkkilngihkdnaaaBase
import Derived.Test.YtkkilngihkdnaaaSetPlain
namespace Go.Proofs.Ytkkilngihkdnaaa
open Go.RowKit Go.Shelf
attribute [local go_sem] Oper.semAt_some

theorem bdiv_cases {b : Nat} (hb : b < 256) : ∃ r, r < 64 ∧ b % 64 = r ∧ ((b : Int) % 64 = (r : Int)) ∧ ((b / 64 = 0 ∧ (b : Int) / 64 = 0) ∨ (b / 64 = 1 ∧ (b : Int) / 64 = 1) ∨ (b / 64 = 2 ∧ (b : Int) / 64 = 2) ∨ (b / 64 = 3 ∧ (b : Int) / 64 = 3)) :=
  ⟨b % 64, by omega, rfl, by omega, by omega⟩

/-! ### Has -/
theorem set_Has (s : Nat → Nat) (hs : SetOk s) (b : Nat) (hb : b < 256) (w : World) :
    Calls Try.prog 33 #[setV s, .int .u8 b] w fun e w' => e = .returned (.bool (hasB s b)) ∧ Below w.heap.size w w' := by
  obtain ⟨r, hr, hr1, hr2, h⟩ := bdiv_cases hb
  unfold setV
  rcases h with ⟨h1, hq⟩ | ⟨h1, hq⟩ | ⟨h1, hq⟩ | ⟨h1, hq⟩
  all_goals
    have H1 := Lib.hid h1; clear h1
    have HR := Lib.hid hr1; clear hr1
    go_enter Try.func33, Try.ntmps33
    go_wp2
    go_ret
    refine ⟨?_, (Below.refl _ _).alloc (Nat.le_refl _) _⟩
    have := bit_walk (s (b / 64)) r (hs _ (by omega))
    rw [H1.out] at this
    unfold hasB
    rw [H1.out, HR.out]
    exact congrArg (fun x => Ending.returned (Value.bool x)) this

/-! ### the three closures -/
theorem set_or (x y : Nat) (hx : x < 2 ^ 64) (hy : y < 2 ^ 64) (w : World) : Calls Try.prog 47 #[.int .u64 x, .int .u64 y] w fun e w' => e = .returned (.int .u64 ((x ||| y : Nat) : Int)) ∧ w = w' := by
  go_enter Try.func47, Try.ntmps47
  go_wp2
  go_ret
  exact ⟨congrArg (fun z => Ending.returned (Value.int .u64 z)) (u64_or_nat x y hx hy), rfl⟩
theorem set_and (x y : Nat) (hx : x < 2 ^ 64) (hy : y < 2 ^ 64) (w : World) : Calls Try.prog 49 #[.int .u64 x, .int .u64 y] w fun e w' => e = .returned (.int .u64 ((x &&& y : Nat) : Int)) ∧ w = w' := by
  go_enter Try.func49, Try.ntmps49
  go_wp2
  go_ret
  exact ⟨congrArg (fun z => Ending.returned (Value.int .u64 z)) (u64_and_nat x y hx hy), rfl⟩
theorem set_not1 (x y : Nat) (hx : x < 2 ^ 64) (w : World) : Calls Try.prog 50 #[.int .u64 x, .int .u64 y] w fun e w' => e = .returned (.int .u64 (notop x y : Nat)) ∧ w = w' := by
  unfold notop
  have hsg : IntKind.u64.signed = false := rfl
  go_enter Try.func50, Try.ntmps50
  go_wp2
  go_ret
  refine ⟨congrArg (fun z => Ending.returned (Value.int .u64 z)) ?_, rfl⟩
  have e : IntKind.u64.max = ((2 ^ 64 - 1 : Nat) : Int) := by decide
  rw [e, u64_xor_nat (2 ^ 64 - 1) x (by omega) hx]
  congr 1
  apply Nat.eq_of_testBit_eq
  intro i
  have h := Nat.testBit_two_pow_sub_succ hx i
  rw [show 2 ^ 64 - (x + 1) = 2 ^ 64 - 1 - x from by omega] at h
  rw [h, Nat.testBit_xor, Nat.testBit_two_pow_sub_one]
  by_cases hi : i < 64
  · simp [hi]
  · rw [Nat.testBit_lt_two_pow (Nat.lt_of_lt_of_le hx (Nat.pow_le_pow_right (by omega) (by omega)))]; simp [hi]

/-! ### each -/
set_option maxRecDepth 100000 in
set_option maxHeartbeats 2000000 in
theorem set_each (g : Nat) (op : Nat → Nat → Nat) (hop : ∀ x y, x < 2 ^ 64 → y < 2 ^ 64 → op x y < 2 ^ 64) (eg : ∀ args w, (callFunc g args).run Try.prog w = .ok (.enter g args) w)
    (hg : ∀ (x y : Nat) (w : World), x < 2 ^ 64 → y < 2 ^ 64 → Calls Try.prog g #[.int .u64 x, .int .u64 y] w fun e w' => e = .returned (.int .u64 (op x y : Nat)) ∧ w = w')
    (s : Nat → Nat) (hs : SetOk s) (v : Value) (L : List (Nat → Nat)) (hL : ∀ t ∈ L, SetOk t) (w : World) (h : RdS w w.heap.size v L) :
    Calls Try.prog 46 #[setV s, v, .func (.func g) #[] #[]] w fun e w' => e = .returned (setV (foldS op s L)) ∧ Below w.heap.size w w' := by
  rw [show setV s = .agg #[.int .u64 (s 0), .int .u64 (s 1), .int .u64 (s 2), .int .u64 (s 3)] from rfl]
  rcases h with ⟨⟨q, rfl⟩, rfl⟩ | ⟨b, off, cap, rfl, hb, hcl, hcm, hc⟩
  · go_enter Try.func46, Try.ntmps46
    go_wp2
    have h1 : SBox ((w.alloc (.cells (setC s) 39)).alloc (.cells (setC emptyS) 39)) w.heap.size 39 s := (SBox.new w _ s).alloc _
    have h2 := SBox.new (w.alloc (.cells (setC s) 39)) 39 emptyS
    rw [World.size_alloc] at h2
    have h3 : Below w.heap.size w ((w.alloc (.cells (setC s) 39)).alloc (.cells (setC emptyS) 39)) := ((Below.refl _ w).alloc (Nat.le_refl _) _).alloc (by simp) _
    go_loopw [12] (fun i wr => i = .int .i64 0 ∧ Hid (SBox wr w.heap.size 39 s ∧ SBox wr (w.heap.size + 1) 39 emptyS ∧ Below w.heap.size w wr)) (fun _ _ => 0)
    case atStart => exact ⟨rfl, h1, h2, h3⟩
    case round =>
      clear h1 h2 h3
      obtain ⟨rfl, H⟩ := hrel
      have ⟨b1, b2, bel⟩ := H.out
      have c0 := b1.cell (k := 0) (by omega); have c1 := b1.cell (k := 1) (by omega); have c2 := b1.cell (k := 2) (by omega); have c3 := b1.cell (k := 3) (by omega)
      have d0 := b2.cell (k := 0) (by omega); have d1 := b2.cell (k := 1) (by omega); have d2 := b2.cell (k := 2) (by omega); have d3 := b2.cell (k := 3) (by omega)
      have f0 := b2.frozen 0; have f1 := b2.frozen 1; have f2 := b2.frozen 2; have f3 := b2.frozen 3
      go_wp2
      have b3 := b2.set4 s
      have e0 := b3.cell (k := 0) (by omega); have e1 := b3.cell (k := 1) (by omega); have e2 := b3.cell (k := 2) (by omega); have e3 := b3.cell (k := 3) (by omega)
      exact bodyPost_ret (v := setV s) (by unfold setV; simp [results, Try.results46, go_sem, e0, e1, e2, e3]) rfl ⟨rfl, below_set4 bel (by omega) _ _ _ _⟩
  · have Hc := Lib.hid hc; clear hc
    have hlen : L.length ≤ 9223372036854775807 := by unfold maxLen at hcm; omega
    go_enter Try.func46, Try.ntmps46
    go_wp2
    have h1 : SBox ((w.alloc (.cells (setC s) 39)).alloc (.cells (setC emptyS) 39)) w.heap.size 39 s := (SBox.new w _ s).alloc _
    have h2 := SBox.new (w.alloc (.cells (setC s) 39)) 39 emptyS
    rw [World.size_alloc] at h2
    have h3 : Below w.heap.size w ((w.alloc (.cells (setC s) 39)).alloc (.cells (setC emptyS) 39)) := ((Below.refl _ w).alloc (Nat.le_refl _) _).alloc (by simp) _
    have HL := Lib.hid hL; clear hL
    have HG := Lib.hid hg; clear hg
    have HOP := Lib.hid hop; clear hop
    go_loopw [8, 9, 12, 16] (fun _ _ i _ wr => ∃ j : Nat, j ≤ L.length ∧ i = .int .i64 j ∧ Hid (SBox wr w.heap.size 39 (foldS op s (L.take j)) ∧ SBox wr (w.heap.size + 1) 39 emptyS ∧ Below w.heap.size w wr)) (fun _ _ i _ _ => L.length - (intOf i).toNat)
    case atStart => exact ⟨0, Nat.zero_le _, rfl, h1, h2, h3⟩
    case round =>
      clear h1 h2 h3
      obtain ⟨j, hj, rfl, H⟩ := hrel
      have ⟨b1, b2, bel⟩ := H.out
      by_cases hlt : j < L.length
      · have k0 := (bel.cell (p := ⟨b, off + j * 4 + 0, none⟩) hb).trans (Hc.out j hlt 0 (by omega))
        have k1 := (bel.cell (p := ⟨b, off + j * 4 + 1, none⟩) hb).trans (Hc.out j hlt 1 (by omega))
        have k2 := (bel.cell (p := ⟨b, off + j * 4 + 2, none⟩) hb).trans (Hc.out j hlt 2 (by omega))
        have k3 := (bel.cell (p := ⟨b, off + j * 4 + 3, none⟩) hb).trans (Hc.out j hlt 3 (by omega))
        simp only [Nat.add_zero] at k0
        have hS := foldS_ok HOP.out hs (L := L.take j) (fun t ht => HL.out t (List.mem_of_mem_take ht))
        have ht := HL.out L[j] (List.getElem_mem hlt)
        have hnext : foldS op s (L.take (j + 1)) = fun k => op (foldS op s (L.take j) k) (L[j] k) := by
          rw [List.take_succ_eq_append_getElem hlt, foldS_snoc]
        have Hnext := Lib.hid hnext; clear hnext
        generalize foldS op s (L.take j) = S at b1 hS Hnext
        generalize L[j] = t at k0 k1 k2 k3 ht Hnext
        go_wp2
        have g1 : SBox (wr.alloc (.cells (setC t) 39)) wr.heap.size 39 t := SBox.new wr _ t
        have g2 := b1.alloc (.cells (setC t) 39)
        have g3 := b2.alloc (.cells (setC t) 39)
        have g4 := bel.alloc bel.size (.cells (setC t) 39)
        have hsz := b2.lt
        clear k0 k1 k2 k3 b1 b2
        clear H
        have BEL := Lib.hid bel; clear bel
        obtain ⟨wo, rfl⟩ : ∃ wo : World, wo = wr := ⟨_, rfl⟩
        go_loopw [9, 16] (fun _ i wr => ∃ k : Nat, k ≤ 4 ∧ i = .int .i64 k ∧ Hid (SBox wr w.heap.size 39 (fun m => if m < k then op (S m) (t m) else S m) ∧ SBox wr wo.heap.size 39 t ∧ SBox wr (w.heap.size + 1) 39 emptyS ∧ Below w.heap.size w wr)) (fun _ i _ => 4 - (intOf i).toNat)
        case atStart => exact ⟨0, Nat.zero_le _, rfl, g2.ext (fun k _ => by simp), g1, g3, g4⟩
        case round =>
          clear g1 g2 g3 g4
          obtain ⟨k, hk, rfl, H⟩ := hrel
          have ⟨b1, b2, b3, bel⟩ := H.out
          by_cases hk4 : k < 4
          · have c1 := b1.cell hk4
            have c2 := b2.cell hk4
            have fz := b1.frozen k
            simp only [Nat.lt_irrefl, if_false] at c1
            have hx := hS k hk4
            have hy := ht k hk4
            have hcall := fun w => (HG.out (S k) (t k) w hx hy).mono (R' := fun e w' => e = .returned (.int .u64 (op (S k) (t k) : Nat)) ∧ w' = w) (fun e w' h => ⟨h.1, h.2.symm⟩)
            have HC := Lib.hid hcall; clear hcall
            go_wp2_with fail
            refine wp_region_tail 10 (by kernel_rfl) (by kernel_rfl) ?_
            intro w2 hw2
            have c1' : w2.cell? ⟨w.heap.size, k, none⟩ = some (.int .u64 (S k)) := by rw [hw2]; exact c1
            have c2' : w2.cell? ⟨wo.heap.size, k, none⟩ = some (.int .u64 (t k)) := by rw [hw2]; exact c2
            have fz' : w2.frozen? ⟨w.heap.size, k, none⟩ = false := by rw [hw2]; exact fz
            have HW2 := Lib.hid hw2; clear hw2
            clear c1 c2 fz
            simp only [List.take_succ_cons, List.take_zero, List.drop_succ_cons, List.drop_zero]
            repeat (first | still_step | still_call (HC.out _))
            refine wpStill_nil ?_
            go_wp2
            go_roundw
            case rel =>
              have e1 : SBox w2 w.heap.size 39 (fun m => if m < k then op (S m) (t m) else S m) := by rw [HW2.out]; exact b1
              have e2 : SBox w2 wo.heap.size 39 t := by rw [HW2.out]; exact b2
              have e3 : SBox w2 (w.heap.size + 1) 39 emptyS := by rw [HW2.out]; exact b3
              have e4 : Below w.heap.size w w2 := by rw [HW2.out]; exact bel.drew
              refine ⟨k + 1, by omega, by go_num, (e1.set hk4 (op (S k) (t k))).ext (fun m _ => ?_), e2.other (by omega) _ _, e3.other (by omega) _ _, e4.setCell (p := ⟨w.heap.size, k, none⟩) (Nat.le_refl _) _⟩
              by_cases h1 : m = k
              · subst h1; simp
              · by_cases h2 : m < k
                · rw [if_neg h1, if_pos h2, if_pos (by omega)]
                · rw [if_neg h1, if_neg h2, if_neg (by omega)]
            case measure => simp [intOf]; omega
          · obtain rfl : k = 4 := by omega
            go_wp2
            go_roundw
            case rel => exact ⟨j + 1, by omega, by go_num, by rw [Hnext.out]; exact b1.ext (fun m hm => by rw [if_pos hm]), b3, bel⟩
            case measure => simp [intOf]; omega
      · obtain rfl : j = L.length := by omega
        rw [List.take_length] at b1
        obtain ⟨u, hu⟩ : ∃ u, foldS op s L = u := ⟨_, rfl⟩
        rw [hu] at b1
        have HU := Lib.hid hu; clear hu
        have c0 := b1.cell (k := 0) (by omega); have c1 := b1.cell (k := 1) (by omega); have c2 := b1.cell (k := 2) (by omega); have c3 := b1.cell (k := 3) (by omega)
        have d0 := b2.cell (k := 0) (by omega); have d1 := b2.cell (k := 1) (by omega); have d2 := b2.cell (k := 2) (by omega); have d3 := b2.cell (k := 3) (by omega)
        have f0 := b2.frozen 0; have f1 := b2.frozen 1; have f2 := b2.frozen 2; have f3 := b2.frozen 3
        go_wp2
        have b3 := b2.set4 u
        have e0 := b3.cell (k := 0) (by omega); have e1 := b3.cell (k := 1) (by omega); have e2 := b3.cell (k := 2) (by omega); have e3 := b3.cell (k := 3) (by omega)
        exact bodyPost_ret (v := setV u) (by unfold setV; simp [results, Try.results46, go_sem, e0, e1, e2, e3]) rfl ⟨by rw [HU.out], below_set4 bel (by omega) _ _ _ _⟩

/-! ### Union, Meet, Not -/
set_option maxHeartbeats 1000000 in
theorem set_Not (s : Nat → Nat) (hs : SetOk s) (w : World) : Calls Try.prog 32 #[setV s] w fun e w' => e = .returned (setV (notS s)) ∧ Below w.heap.size w w' := by
  rw [show setV s = .agg #[.int .u64 (s 0), .int .u64 (s 1), .int .u64 (s 2), .int .u64 (s 3)] from rfl]
  go_enter Try.func32, Try.ntmps32
  go_wp2_with fail
  have b1 : SBox (((w.alloc (.cells (setC s) 39)).alloc (.cells (setC emptyS) 39)).alloc (.cells (setC emptyS) 39)) (w.heap.size + 1) 39 emptyS := by
    have := (SBox.new (w.alloc (.cells (setC s) 39)) 39 emptyS).alloc (.cells (setC emptyS) 39)
    rwa [World.size_alloc] at this
  have bel : Below w.heap.size w (((w.alloc (.cells (setC s) 39)).alloc (.cells (setC emptyS) 39)).alloc (.cells (setC emptyS) 39)) := (((Below.refl _ w).alloc (Nat.le_refl _) _).alloc (by simp) _).alloc (by simp; omega) _
  have rd := RdS.lit ((w.alloc (.cells (setC s) 39)).alloc (.cells (setC emptyS) 39)) [emptyS] 39 (by simp [maxLen])
  rw [World.size_alloc, World.size_alloc] at rd
  have rd' : RdS (((w.alloc (.cells (setC s) 39)).alloc (.cells (setC emptyS) 39)).alloc (.cells (setC emptyS) 39)) (((w.alloc (.cells (setC s) 39)).alloc (.cells (setC emptyS) 39)).alloc (.cells (setC emptyS) 39)).heap.size (.slice (some ⟨w.heap.size + 1 + 1, 0, none⟩) 1 1) [emptyS] := by
    rw [World.size_alloc, World.size_alloc, World.size_alloc]; exact rd
  refine (set_each 50 notop not_bound (enters_of Try.func50 (by kernel_rfl) rfl) (fun x y w hx _ => set_not1 x y hx w) s hs _ [emptyS] (fun t ht => by simp at ht; subst ht; exact emptyS_ok) _ rd').mono ?_
  rintro e w1 ⟨rfl, bel1⟩
  have b2 := b1.below bel1 (by simp)
  have bel2 := bel.trans (bel1.mono bel.size)
  rw [foldS_not]
  clear b1 bel bel1 rd rd'
  obtain ⟨u, hu⟩ : ∃ u, notS s = u := ⟨_, rfl⟩
  rw [hu]
  have HU := Lib.hid hu; clear hu
  unfold setV
  have d0 := b2.cell (k := 0) (by omega); have d1 := b2.cell (k := 1) (by omega); have d2 := b2.cell (k := 2) (by omega); have d3 := b2.cell (k := 3) (by omega)
  have f0 := b2.frozen 0; have f1 := b2.frozen 1; have f2 := b2.frozen 2; have f3 := b2.frozen 3
  go_wp2
  have b3 := b2.set4 u
  have e0 := b3.cell (k := 0) (by omega); have e1 := b3.cell (k := 1) (by omega); have e2 := b3.cell (k := 2) (by omega); have e3 := b3.cell (k := 3) (by omega)
  exact bodyPost_ret (v := setV u) (by unfold setV; simp [results, Try.results32, go_sem, e0, e1, e2, e3]) rfl ⟨by rw [HU.out], below_set4 bel2 (by omega) _ _ _ _⟩

set_option maxHeartbeats 1000000 in
theorem set_Union (v : Value) (L : List (Nat → Nat)) (hL : ∀ t ∈ L, SetOk t) (w : World) (h : RdS w w.heap.size v L) : Calls Try.prog 28 #[v] w fun e w' => e = .returned (setV (unionS L)) ∧ Below w.heap.size w w' := by
  go_enter Try.func28, Try.ntmps28
  go_wp2_with fail
  have b1 : SBox (w.alloc (.cells (setC emptyS) 39)) w.heap.size 39 emptyS := SBox.new w _ _
  have bel : Below w.heap.size w (w.alloc (.cells (setC emptyS) 39)) := (Below.refl _ w).alloc (Nat.le_refl _) _
  refine (set_each 47 (fun x y => x ||| y) or_bound (enters_of Try.func47 (by kernel_rfl) rfl) (fun x y w hx hy => set_or x y hx hy w) emptyS emptyS_ok _ L hL _ ((h.below bel).up (by simp))).mono ?_
  rintro e w1 ⟨rfl, bel1⟩
  have b2 := b1.below bel1 (by simp)
  have bel2 := bel.trans (bel1.mono bel.size)
  rw [show foldS (fun x y => x ||| y) emptyS L = unionS L from rfl]
  clear b1 bel bel1 h
  obtain ⟨u, hu⟩ : ∃ u, unionS L = u := ⟨_, rfl⟩
  rw [hu]
  have HU := Lib.hid hu; clear hu
  unfold setV
  have d0 := b2.cell (k := 0) (by omega); have d1 := b2.cell (k := 1) (by omega); have d2 := b2.cell (k := 2) (by omega); have d3 := b2.cell (k := 3) (by omega)
  have f0 := b2.frozen 0; have f1 := b2.frozen 1; have f2 := b2.frozen 2; have f3 := b2.frozen 3
  go_wp2
  have b3 := b2.set4 u
  have e0 := b3.cell (k := 0) (by omega); have e1 := b3.cell (k := 1) (by omega); have e2 := b3.cell (k := 2) (by omega); have e3 := b3.cell (k := 3) (by omega)
  exact bodyPost_ret (v := setV u) (by unfold setV; simp [results, Try.results28, go_sem, e0, e1, e2, e3]) rfl ⟨by rw [HU.out], below_set4 bel2 (Nat.le_refl _) _ _ _ _⟩

set_option maxHeartbeats 1000000 in
theorem set_Meet (v : Value) (L : List (Nat → Nat)) (hL : ∀ t ∈ L, SetOk t) (w : World) (h : RdS w w.heap.size v L) : Calls Try.prog 30 #[v] w fun e w' => e = .returned (setV (meetS L)) ∧ Below w.heap.size w w' := by
  go_enter Try.func30, Try.ntmps30
  go_wp2_with fail
  have b1 : SBox (w.alloc (.cells (setC emptyS) 39)) w.heap.size 39 emptyS := SBox.new w _ _
  have bel : Below w.heap.size w (w.alloc (.cells (setC emptyS) 39)) := (Below.refl _ w).alloc (Nat.le_refl _) _
  refine (set_Not emptyS emptyS_ok _).mono ?_
  rintro e w0 ⟨rfl, bel0⟩
  rw [notS_empty]
  have b1' := b1.below bel0 (by simp)
  have bel' := bel.trans (bel0.mono bel.size)
  clear b1 bel bel0
  go_wp2_with fail
  refine (set_each 49 (fun x y => x &&& y) and_bound (enters_of Try.func49 (by kernel_rfl) rfl) (fun x y w hx hy => set_and x y hx hy w) fullS fullS_ok _ L hL _ ((h.below bel').up bel'.size)).mono ?_
  rintro e w1 ⟨rfl, bel1⟩
  have b2 := b1'.below bel1 b1'.lt
  have bel2 := bel'.trans (bel1.mono bel'.size)
  rw [show foldS (fun x y => x &&& y) fullS L = meetS L from rfl]
  clear b1' bel' bel1 h
  obtain ⟨u, hu⟩ : ∃ u, meetS L = u := ⟨_, rfl⟩
  rw [hu]
  have HU := Lib.hid hu; clear hu
  unfold setV
  have d0 := b2.cell (k := 0) (by omega); have d1 := b2.cell (k := 1) (by omega); have d2 := b2.cell (k := 2) (by omega); have d3 := b2.cell (k := 3) (by omega)
  have f0 := b2.frozen 0; have f1 := b2.frozen 1; have f2 := b2.frozen 2; have f3 := b2.frozen 3
  go_wp2
  have b3 := b2.set4 u
  have e0 := b3.cell (k := 0) (by omega); have e1 := b3.cell (k := 1) (by omega); have e2 := b3.cell (k := 2) (by omega); have e3 := b3.cell (k := 3) (by omega)
  exact bodyPost_ret (v := setV u) (by unfold setV; simp [results, Try.results30, go_sem, e0, e1, e2, e3]) rfl ⟨by rw [HU.out], below_set4 bel2 (Nat.le_refl _) _ _ _ _⟩

end Go.Proofs.Ytkkilngihkdnaaa
