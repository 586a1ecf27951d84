/-
  SetAlgebra: the walk.
-/
import Derived.Test.YtkkilngihkdnaaaSetLaw
import Derived.Test.YtkkilngihkdnaaaSetAlgPlain
namespace Go.Proofs.Ytkkilngihkdnaaa
open Go.RowKit Go.Shelf
set_option linter.unusedSimpArgs false
attribute [local go_sem] Oper.semAt_some

/-- the six sets' boxes, and what lay there -/
structure Six (w : World) (B g7 g8 g9 : Nat) (a b c U M N : Nat → Nat) (W : World) : Prop where
  ha : SBox W B 39 a
  hb : SBox W (B + 1) 39 b
  hc : SBox W (B + 1 + 1) 39 c
  hU : SBox W g7 39 U
  hM : SBox W g8 39 M
  hN : SBox W g9 39 N
  bel : Below B w W
theorem Six.below {w W W' : World} {B g7 g8 g9 : Nat} {a b c U M N : Nat → Nat} (h : Six w B g7 g8 g9 a b c U M N W) (hb : Below W.heap.size W W') : Six w B g7 g8 g9 a b c U M N W' :=
  ⟨h.ha.below hb h.ha.lt, h.hb.below hb h.hb.lt, h.hc.below hb h.hc.lt, h.hU.below hb h.hU.lt, h.hM.below hb h.hM.lt, h.hN.below hb h.hN.lt, h.bel.trans (hb.mono (by have := h.ha.lt; omega))⟩

theorem has_fam {T : Type} {f : T → World} {w : World} (hf : ∀ x, Below w.heap.size w (f x)) (h0 : ∀ w', Below w.heap.size w w' → ∃ x, w' = f x) (s : Nat → Nat) (hs : SetOk s) (n : Nat) (hn : n < 256) (r : Bool) (hr : hasB s n = r) (x : T) :
    Calls Try.prog 33 #[.agg #[.int .u64 (s 0), .int .u64 (s 1), .int .u64 (s 2), .int .u64 (s 3)], .int .u8 n] (f x) fun e w' => e = .returned (.bool r) ∧ ∃ y, w' = f y := by
  subst hr
  exact fam_call hf h0 x (set_Has s hs n hn (f x))

set_option maxRecDepth 100000 in
set_option maxHeartbeats 8000000 in
theorem walk_SetAlgebra (a b c : Nat → Nat) (ha : SetOk a) (hb : SetOk b) (hc : SetOk c) (w : World) : Calls Try.prog 7 #[setV a, setV b, setV c] w fun e w' => e = .returned (.bool true) ∧ Below w.heap.size w w' := by
  rw [show setV a = .agg #[.int .u64 (a 0), .int .u64 (a 1), .int .u64 (a 2), .int .u64 (a 3)] from rfl]
  rw [show setV b = .agg #[.int .u64 (b 0), .int .u64 (b 1), .int .u64 (b 2), .int .u64 (b 3)] from rfl]
  rw [show setV c = .agg #[.int .u64 (c 0), .int .u64 (c 1), .int .u64 (c 2), .int .u64 (c 3)] from rfl]
  have HSA := Lib.hid ha; have HSB := Lib.hid hb; have HSC := Lib.hid hc
  clear ha hb hc
  go_enter Try.func7, Try.ntmps7
  go_wp2_with fail
  have a1 : SBox (((w.alloc (.cells (setC a) 39)).alloc (.cells (setC b) 39)).alloc (.cells (setC c) 39)) w.heap.size 39 a := ((SBox.new w _ a).alloc _).alloc _
  have b1 : SBox (((w.alloc (.cells (setC a) 39)).alloc (.cells (setC b) 39)).alloc (.cells (setC c) 39)) (w.heap.size + 1) 39 b := by
    have := (SBox.new (w.alloc (.cells (setC a) 39)) 39 b).alloc (.cells (setC c) 39)
    rwa [World.size_alloc] at this
  have c1 : SBox (((w.alloc (.cells (setC a) 39)).alloc (.cells (setC b) 39)).alloc (.cells (setC c) 39)) (w.heap.size + 1 + 1) 39 c := by
    have := SBox.new ((w.alloc (.cells (setC a) 39)).alloc (.cells (setC b) 39)) 39 c
    rwa [World.size_alloc, World.size_alloc] at this
  have bel1 : Below w.heap.size w (((w.alloc (.cells (setC a) 39)).alloc (.cells (setC b) 39)).alloc (.cells (setC c) 39)) := (((Below.refl _ w).alloc (Nat.le_refl _) _).alloc (by simp) _).alloc (by simp; omega) _
  refine (law08_awake _).mono ?_
  rintro e w1 ⟨rfl, bel2⟩
  have a2 := a1.below bel2 a1.lt
  have b2 := b1.below bel2 b1.lt
  have c2 := c1.below bel2 c1.lt
  have bel := bel1.trans (bel2.mono bel1.size)
  have hsz := bel2.size
  simp at hsz
  clear a1 b1 c1 bel1 bel2
  have p0 := a2.cell (k := 0) (by omega); have p1 := a2.cell (k := 1) (by omega); have p2 := a2.cell (k := 2) (by omega); have p3 := a2.cell (k := 3) (by omega)
  have q0 := b2.cell (k := 0) (by omega); have q1 := b2.cell (k := 1) (by omega); have q2 := b2.cell (k := 2) (by omega); have q3 := b2.cell (k := 3) (by omega)
  have r0 := c2.cell (k := 0) (by omega); have r1 := c2.cell (k := 1) (by omega); have r2 := c2.cell (k := 2) (by omega); have r3 := c2.cell (k := 3) (by omega)
  go_wp2_with fail
  have hD : ∀ (p : Prop) [Decidable p], decide p = false → ¬ p := fun p _ h => of_decide_eq_false h
  have hso : ∀ t ∈ [a, b, c], SetOk t := by
    intro t ht
    simp at ht
    rcases ht with rfl | rfl | rfl
    · exact HSA.out
    · exact HSB.out
    · exact HSC.out
  refine wp_region_spec 15 [fun v _ => v = setV a, fun v _ => v = setV b, fun v _ => v = setV c, fun v w => RdS w w.heap.size v [a, b, c], fun v _ => v = setV (unionS [a, b, c]),
    fun v _ => v = setV a, fun v _ => v = setV b, fun v _ => v = setV c, fun v w => RdS w w.heap.size v [a, b, c], fun v _ => v = setV (meetS [a, b, c]), fun v _ => v = setV a, fun v _ => v = setV (notS a),
    IsBox w1.heap.size emptyS, IsBox w1.heap.size emptyS, IsBox w1.heap.size emptyS] (fun i => decide (12 ≤ i)) (by kernel_rfl) (by kernel_rfl) (by kernel_rfl) ?st ?lt ?ob ?en
  case st => exact ⟨stable_eq _, stable_eq _, stable_eq _, stable_rds _, stable_eq _, stable_eq _, stable_eq _, stable_eq _, stable_rds _, stable_eq _, stable_eq _, stable_eq _, stable_box _ _, stable_box _ _, stable_box _ _, trivial⟩
  case lt =>
    intro i hi hDi v W hv
    have hi12 : 12 ≤ i := by simpa using hDi
    match i, hi, hi12, hv with
    | 12, _, _, hv => exact IsBox.lt hv
    | 13, _, _, hv => exact IsBox.lt hv
    | 14, _, _, hv => exact IsBox.lt hv
  case ob =>
    refine ⟨?_, ?_, ?_, ?_, ?_, ?_, ?_, ?_, ?_, ?_, ?_, ?_, ?_, ?_, ?_, trivial⟩ <;> intro A W h
    · exact rs_loadset (s := a) rfl rfl (h.frame 3 rfl) (a2.below h.below a2.lt) (by decide)
    · exact rs_loadset (s := b) rfl rfl (h.frame 4 rfl) (b2.below h.below b2.lt) (by decide)
    · exact rs_loadset (s := c) rfl rfl (h.frame 5 rfl) (c2.below h.below c2.lt) (by decide)
    · exact rs_build3 rfl rfl (h.dep 0 15 rfl rfl) (h.dep 1 16 rfl rfl) (h.dep 2 17 rfl rfl) (by decide)
    · exact rs_callset rfl rfl (enters_of Try.func28 (by kernel_rfl) rfl) _ rfl (set_Union _ [a, b, c] hso _ (h.dep 3 18 rfl rfl)) (by decide)
    · exact rs_loadset (s := a) rfl rfl (h.frame 3 rfl) (a2.below h.below a2.lt) (by decide)
    · exact rs_loadset (s := b) rfl rfl (h.frame 4 rfl) (b2.below h.below b2.lt) (by decide)
    · exact rs_loadset (s := c) rfl rfl (h.frame 5 rfl) (c2.below h.below c2.lt) (by decide)
    · exact rs_build3 rfl rfl (h.dep 5 20 rfl rfl) (h.dep 6 21 rfl rfl) (h.dep 7 22 rfl rfl) (by decide)
    · exact rs_callset rfl rfl (enters_of Try.func30 (by kernel_rfl) rfl) _ rfl (set_Meet _ [a, b, c] hso _ (h.dep 8 23 rfl rfl)) (by decide)
    · exact rs_loadset (s := a) rfl rfl (h.frame 3 rfl) (a2.below h.below a2.lt) (by decide)
    · exact rs_callset rfl rfl (enters_of Try.func32 (by kernel_rfl) rfl) _ (h.dep 10 25 rfl rfl) (set_Not a HSA.out _) (by decide)
    · exact rs_alloc rfl rfl h.below.size
    · exact rs_alloc rfl rfl h.below.size
    · exact rs_alloc rfl rfl h.below.size
  case en =>
    intro vals W hbw hv hp
    have v0 : vals 0 = setV a := hv 0 (by omega)
    have v1 : vals 1 = setV b := hv 1 (by omega)
    have v2 : vals 2 = setV c := hv 2 (by omega)
    have v4 : vals 4 = setV (unionS [a, b, c]) := hv 4 (by omega)
    have v5 : vals 5 = setV a := hv 5 (by omega)
    have v6 : vals 6 = setV b := hv 6 (by omega)
    have v7 : vals 7 = setV c := hv 7 (by omega)
    have v9 : vals 9 = setV (meetS [a, b, c]) := hv 9 (by omega)
    have v10 : vals 10 = setV a := hv 10 (by omega)
    have v11 : vals 11 = setV (notS a) := hv 11 (by omega)
    obtain ⟨g7, e7, l7, s7⟩ := (show IsBox w1.heap.size emptyS (vals 12) W from hv 12 (by omega))
    obtain ⟨g8, e8, l8, s8⟩ := (show IsBox w1.heap.size emptyS (vals 13) W from hv 13 (by omega))
    obtain ⟨g9, e9, l9, s9⟩ := (show IsBox w1.heap.size emptyS (vals 14) W from hv 14 (by omega))
    have n78 : g7 ≠ g8 := by have := hp 12 13 (by omega) (by omega) (by omega) (by decide) (by decide); rw [e7, e8] at this; exact this
    have n79 : g7 ≠ g9 := by have := hp 12 14 (by omega) (by omega) (by omega) (by decide) (by decide); rw [e7, e9] at this; exact this
    have n89 : g8 ≠ g9 := by have := hp 13 14 (by omega) (by omega) (by omega) (by decide) (by decide); rw [e8, e9] at this; exact this
    generalize vals 3 = x3
    generalize vals 8 = x8
    simp only [List.take_succ_cons, List.take_zero, List.drop_succ_cons, List.drop_zero, fillAll, Nat.zero_add, Nat.reduceAdd]
    rw [v0, v1, v2, v4, v5, v6, v7, v9, v10, v11, e7, e8, e9]
    clear hv hp v0 v1 v2 v4 v5 v6 v7 v9 v10 v11 e7 e8 e9 p0 p1 p2 p3 q0 q1 q2 q3 r0 r1 r2 r3
    have a3 := a2.below hbw a2.lt
    have b3 := b2.below hbw b2.lt
    have c3 := c2.below hbw c2.lt
    have k70 := s7.cell (k := 0) (by omega); have k71 := s7.cell (k := 1) (by omega); have k72 := s7.cell (k := 2) (by omega); have k73 := s7.cell (k := 3) (by omega)
    have k80 := s8.cell (k := 0) (by omega); have k81 := s8.cell (k := 1) (by omega); have k82 := s8.cell (k := 2) (by omega); have k83 := s8.cell (k := 3) (by omega)
    have k90 := s9.cell (k := 0) (by omega); have k91 := s9.cell (k := 1) (by omega); have k92 := s9.cell (k := 2) (by omega); have k93 := s9.cell (k := 3) (by omega)
    have f70 := s7.frozen 0; have f71 := s7.frozen 1; have f72 := s7.frozen 2; have f73 := s7.frozen 3
    have f80 := s8.frozen 0; have f81 := s8.frozen 1; have f82 := s8.frozen 2; have f83 := s8.frozen 3
    have f90 := s9.frozen 0; have f91 := s9.frozen 1; have f92 := s9.frozen 2; have f93 := s9.frozen 3
    obtain ⟨U, hU⟩ : ∃ U, unionS [a, b, c] = U := ⟨_, rfl⟩
    obtain ⟨M, hM⟩ : ∃ M, meetS [a, b, c] = M := ⟨_, rfl⟩
    obtain ⟨N, hN⟩ : ∃ N, notS a = N := ⟨_, rfl⟩
    rw [hU, hM, hN]
    have HU := Lib.hid hU; have HM := Lib.hid hM; have HN := Lib.hid hN
    clear hU hM hN
    have hsU : SetOk U := by rw [← HU.out]; exact unionS_ok hso
    have hsM : SetOk M := by rw [← HM.out]; exact meetS_ok hso
    have hsN : SetOk N := by rw [← HN.out]; exact notS_ok a
    have HSU := Lib.hid hsU; have HSM := Lib.hid hsM; have HSN := Lib.hid hsN; clear hsU hsM hsN
    unfold setV
    go_wp2_with fail
    have six : Six w w.heap.size g7 g8 g9 a b c U M N _ := ⟨
      ((((((((((((a3.other (B' := g7) (by omega) 0 (.int .u64 (U 0))).other (B' := g7) (by omega) 1 (.int .u64 (U 1))).other (B' := g7) (by omega) 2 (.int .u64 (U 2))).other (B' := g7) (by omega) 3 (.int .u64 (U 3))).other (B' := g8) (by omega) 0 (.int .u64 (M 0))).other (B' := g8) (by omega) 1 (.int .u64 (M 1))).other (B' := g8) (by omega) 2 (.int .u64 (M 2))).other (B' := g8) (by omega) 3 (.int .u64 (M 3))).other (B' := g9) (by omega) 0 (.int .u64 (N 0))).other (B' := g9) (by omega) 1 (.int .u64 (N 1))).other (B' := g9) (by omega) 2 (.int .u64 (N 2))).other (B' := g9) (by omega) 3 (.int .u64 (N 3))),
      ((((((((((((b3.other (B' := g7) (by omega) 0 (.int .u64 (U 0))).other (B' := g7) (by omega) 1 (.int .u64 (U 1))).other (B' := g7) (by omega) 2 (.int .u64 (U 2))).other (B' := g7) (by omega) 3 (.int .u64 (U 3))).other (B' := g8) (by omega) 0 (.int .u64 (M 0))).other (B' := g8) (by omega) 1 (.int .u64 (M 1))).other (B' := g8) (by omega) 2 (.int .u64 (M 2))).other (B' := g8) (by omega) 3 (.int .u64 (M 3))).other (B' := g9) (by omega) 0 (.int .u64 (N 0))).other (B' := g9) (by omega) 1 (.int .u64 (N 1))).other (B' := g9) (by omega) 2 (.int .u64 (N 2))).other (B' := g9) (by omega) 3 (.int .u64 (N 3))),
      ((((((((((((c3.other (B' := g7) (by omega) 0 (.int .u64 (U 0))).other (B' := g7) (by omega) 1 (.int .u64 (U 1))).other (B' := g7) (by omega) 2 (.int .u64 (U 2))).other (B' := g7) (by omega) 3 (.int .u64 (U 3))).other (B' := g8) (by omega) 0 (.int .u64 (M 0))).other (B' := g8) (by omega) 1 (.int .u64 (M 1))).other (B' := g8) (by omega) 2 (.int .u64 (M 2))).other (B' := g8) (by omega) 3 (.int .u64 (M 3))).other (B' := g9) (by omega) 0 (.int .u64 (N 0))).other (B' := g9) (by omega) 1 (.int .u64 (N 1))).other (B' := g9) (by omega) 2 (.int .u64 (N 2))).other (B' := g9) (by omega) 3 (.int .u64 (N 3))),
      (((((((((s7.set4 U).other (B' := g8) n78 0 (.int .u64 (M 0))).other (B' := g8) n78 1 (.int .u64 (M 1))).other (B' := g8) n78 2 (.int .u64 (M 2))).other (B' := g8) n78 3 (.int .u64 (M 3))).other (B' := g9) n79 0 (.int .u64 (N 0))).other (B' := g9) n79 1 (.int .u64 (N 1))).other (B' := g9) n79 2 (.int .u64 (N 2))).other (B' := g9) n79 3 (.int .u64 (N 3))),
      (((((((((s8.other (B' := g7) n78.symm 0 (.int .u64 (U 0))).other (B' := g7) n78.symm 1 (.int .u64 (U 1))).other (B' := g7) n78.symm 2 (.int .u64 (U 2))).other (B' := g7) n78.symm 3 (.int .u64 (U 3))).set4 M).other (B' := g9) n89 0 (.int .u64 (N 0))).other (B' := g9) n89 1 (.int .u64 (N 1))).other (B' := g9) n89 2 (.int .u64 (N 2))).other (B' := g9) n89 3 (.int .u64 (N 3))),
      (((((((((s9.other (B' := g7) n79.symm 0 (.int .u64 (U 0))).other (B' := g7) n79.symm 1 (.int .u64 (U 1))).other (B' := g7) n79.symm 2 (.int .u64 (U 2))).other (B' := g7) n79.symm 3 (.int .u64 (U 3))).other (B' := g8) n89.symm 0 (.int .u64 (M 0))).other (B' := g8) n89.symm 1 (.int .u64 (M 1))).other (B' := g8) n89.symm 2 (.int .u64 (M 2))).other (B' := g8) n89.symm 3 (.int .u64 (M 3))).set4 N),
      below_set4 (below_set4 (below_set4 (bel.trans (hbw.mono bel.size)) (by omega) _ _ _ _) (by omega) _ _ _ _) (by omega) _ _ _ _⟩
    have SIX := Lib.hid six
    clear six k70 k71 k72 k73 k80 k81 k82 k83 k90 k91 k92 k93 f70 f71 f72 f73 f80 f81 f82 f83 f90 f91 f92 f93
    go_loopw [10, 11] (fun i _ wr => ∃ k : Nat, k ≤ 256 ∧ i = .int .i64 k ∧ Hid (Six w w.heap.size g7 g8 g9 a b c U M N wr)) (fun i _ _ => 256 - (intOf i).toNat)
    case atStart => exact ⟨0, by omega, rfl, SIX⟩
    case round =>
      clear SIX s7 s8 s9 a3 b3 c3 a2 b2 c2 hbw bel hD l7 l8 l9 n78 n79 n89 hsz
      obtain ⟨k, hk, rfl, H⟩ := hrel
      by_cases hlt : k < 256
      · have hu : hasB U k = (hasB a k || (hasB b k || hasB c k)) := by rw [← HU.out, has_union]; simp
        have hm : hasB M k = (hasB a k && (hasB b k && hasB c k)) := by rw [← HM.out, has_meet]; simp
        have hn : hasB N k = !hasB a k := by rw [← HN.out]; exact has_not HSA.out hlt
        obtain ⟨T, hT, f, hf, h0⟩ := fam wr
        have ca : ∀ x, ∀ j, j < 4 → (f x).cell? ⟨w.heap.size, j, none⟩ = some (.int .u64 (a j)) := fun x j hj => (H.out.below (hf x)).ha.cell hj
        have cb : ∀ x, ∀ j, j < 4 → (f x).cell? ⟨w.heap.size + 1, j, none⟩ = some (.int .u64 (b j)) := fun x j hj => (H.out.below (hf x)).hb.cell hj
        have cc : ∀ x, ∀ j, j < 4 → (f x).cell? ⟨w.heap.size + 1 + 1, j, none⟩ = some (.int .u64 (c j)) := fun x j hj => (H.out.below (hf x)).hc.cell hj
        have cU : ∀ x, ∀ j, j < 4 → (f x).cell? ⟨g7, j, none⟩ = some (.int .u64 (U j)) := fun x j hj => (H.out.below (hf x)).hU.cell hj
        have cM : ∀ x, ∀ j, j < 4 → (f x).cell? ⟨g8, j, none⟩ = some (.int .u64 (M j)) := fun x j hj => (H.out.below (hf x)).hM.cell hj
        have cN : ∀ x, ∀ j, j < 4 → (f x).cell? ⟨g9, j, none⟩ = some (.int .u64 (N j)) := fun x j hj => (H.out.below (hf x)).hN.cell hj
        have ca0 := fun x => ca x 0 (by omega); have ca1 := fun x => ca x 1 (by omega); have ca2 := fun x => ca x 2 (by omega); have ca3 := fun x => ca x 3 (by omega)
        have cb0 := fun x => cb x 0 (by omega); have cb1 := fun x => cb x 1 (by omega); have cb2 := fun x => cb x 2 (by omega); have cb3 := fun x => cb x 3 (by omega)
        have cc0 := fun x => cc x 0 (by omega); have cc1 := fun x => cc x 1 (by omega); have cc2 := fun x => cc x 2 (by omega); have cc3 := fun x => cc x 3 (by omega)
        have cU0 := fun x => cU x 0 (by omega); have cU1 := fun x => cU x 1 (by omega); have cU2 := fun x => cU x 2 (by omega); have cU3 := fun x => cU x 3 (by omega)
        have cM0 := fun x => cM x 0 (by omega); have cM1 := fun x => cM x 1 (by omega); have cM2 := fun x => cM x 2 (by omega); have cM3 := fun x => cM x 3 (by omega)
        have cN0 := fun x => cN x 0 (by omega); have cN1 := fun x => cN x 1 (by omega); have cN2 := fun x => cN x 2 (by omega); have cN3 := fun x => cN x 3 (by omega)
        clear ca cb cc cU cM cN
        cases qa : hasB a k <;> cases qb : hasB b k <;> cases qc : hasB c k
        all_goals
          rw [qa, qb, qc] at hu hm
          rw [qa] at hn
          simp only [Bool.or_true, Bool.or_false, Bool.true_or, Bool.false_or, Bool.and_true, Bool.and_false, Bool.true_and, Bool.false_and, Bool.not_true, Bool.not_false] at hu hm hn
          have CA := Lib.hid (has_fam hf h0 a HSA.out k hlt _ qa)
          have CB := Lib.hid (has_fam hf h0 b HSB.out k hlt _ qb)
          have CC := Lib.hid (has_fam hf h0 c HSC.out k hlt _ qc)
          have CU := Lib.hid (has_fam hf h0 U HSU.out k hlt _ hu)
          have CM := Lib.hid (has_fam hf h0 M HSM.out k hlt _ hm)
          have CN := Lib.hid (has_fam hf h0 N HSN.out k hlt _ hn)
          clear hu hm hn qa qb qc
          have H0 := Lib.hid h0; clear h0
          have HF := Lib.hid hf; clear hf
          go_wp2_with fail
          refine wp_region_fam f (by kernel_rfl) (by kernel_rfl) H0.out ?_
          repeat (go_big_quiet_step (first | with_reducible exact CA.out _ | with_reducible exact CB.out _ | with_reducible exact CC.out _ | with_reducible exact CU.out _ | with_reducible exact CM.out _ | with_reducible exact CN.out _))
          refine wpQuiet_nil ?_
          rintro _ ⟨x, rfl⟩
          have hfx := HF.out x
          generalize f x = w9 at hfx
          clear ca0 ca1 ca2 ca3 cb0 cb1 cb2 cb3 cc0 cc1 cc2 cc3 cU0 cU1 cU2 cU3 cM0 cM1 cM2 cM3 cN0 cN1 cN2 cN3 CA CB CC CU CM CN H0 HF
          go_wp2_with fail
          go_roundw
          case rel => exact ⟨k + 1, by omega, by go_num, H.out.below hfx⟩
          case measure => simp [intOf]; omega
      · obtain rfl : k = 256 := by omega
        go_wp2_with fail
        have hnn := three_ok (P := SetOk) (notS_ok a) (notS_ok b) (notS_ok c)
        refine wp_region_spec 30 [fun v _ => v = setV U, fun v _ => v = setV (notS U), fun v _ => v = setV a, fun v _ => v = setV (notS a), fun v _ => v = setV b, fun v _ => v = setV (notS b), fun v _ => v = setV c, fun v _ => v = setV (notS c), fun v w => RdS w w.heap.size v [notS a, notS b, notS c], fun v _ => v = setV (meetS [notS a, notS b, notS c]), fun v _ => v = .bool false, fun v _ => v = .bool false, fun v _ => v = setV M, fun v _ => v = setV (notS M), fun v _ => v = setV a, fun v _ => v = setV (notS a), fun v _ => v = setV b, fun v _ => v = setV (notS b), fun v _ => v = setV c, fun v _ => v = setV (notS c), fun v w => RdS w w.heap.size v [notS a, notS b, notS c], fun v _ => v = setV (unionS [notS a, notS b, notS c]), fun v _ => v = .bool false, fun v _ => v = .bool false, fun v _ => v = .bool false, fun v _ => v = setV N, fun v _ => v = setV (notS N), fun v _ => v = setV a, fun v _ => v = .bool false, fun v _ => v = .bool false] (fun _ => false) (by kernel_rfl) (by kernel_rfl) (by kernel_rfl) ⟨stable_eq _, stable_eq _, stable_eq _, stable_eq _, stable_eq _, stable_eq _, stable_eq _, stable_eq _, stable_rds _, stable_eq _, stable_eq _, stable_eq _, stable_eq _, stable_eq _, stable_eq _, stable_eq _, stable_eq _, stable_eq _, stable_eq _, stable_eq _, stable_rds _, stable_eq _, stable_eq _, stable_eq _, stable_eq _, stable_eq _, stable_eq _, stable_eq _, stable_eq _, stable_eq _, trivial⟩ (fun _ _ h => by cases h) ?ob ?en
        case ob =>
          refine ⟨?_, ?_, ?_, ?_, ?_, ?_, ?_, ?_, ?_, ?_, ?_, ?_, ?_, ?_, ?_, ?_, ?_, ?_, ?_, ?_, ?_, ?_, ?_, ?_, ?_, ?_, ?_, ?_, ?_, ?_, trivial⟩ <;> intro A W h
          · exact rs_loadset (s := U) rfl rfl (h.frame 7 rfl) (H.out.below h.below).hU (by decide)
          · exact rs_callset rfl rfl (enters_of Try.func32 (by kernel_rfl) rfl) _ (h.dep 0 78 rfl rfl) (set_Not U HSU.out _) (by decide)
          · exact rs_loadset (s := a) rfl rfl (h.frame 3 rfl) (H.out.below h.below).ha (by decide)
          · exact rs_callset rfl rfl (enters_of Try.func32 (by kernel_rfl) rfl) _ (h.dep 2 80 rfl rfl) (set_Not a HSA.out _) (by decide)
          · exact rs_loadset (s := b) rfl rfl (h.frame 4 rfl) (H.out.below h.below).hb (by decide)
          · exact rs_callset rfl rfl (enters_of Try.func32 (by kernel_rfl) rfl) _ (h.dep 4 82 rfl rfl) (set_Not b HSB.out _) (by decide)
          · exact rs_loadset (s := c) rfl rfl (h.frame 5 rfl) (H.out.below h.below).hc (by decide)
          · exact rs_callset rfl rfl (enters_of Try.func32 (by kernel_rfl) rfl) _ (h.dep 6 84 rfl rfl) (set_Not c HSC.out _) (by decide)
          · exact rs_build3 rfl rfl (h.dep 3 81 rfl rfl) (h.dep 5 83 rfl rfl) (h.dep 7 85 rfl rfl) (by decide)
          · exact rs_callset rfl rfl (enters_of Try.func30 (by kernel_rfl) rfl) _ rfl (set_Meet _ _ hnn _ (h.dep 8 86 rfl rfl)) (by decide)
          · exact rs_neqset rfl rfl (h.dep 1 79 rfl rfl) (h.dep 9 87 rfl rfl) (by rw [← HU.out]; exact alg_not_union HSA.out HSB.out HSC.out) (by decide)
          · exact rs_move rfl rfl (h.dep 10 88 rfl rfl) (by decide)
          · exact rs_loadset (s := M) (wanted_g rfl (yielded_of (d := 89) rfl (h.dep 11 89 rfl rfl))) rfl (h.frame 8 rfl) (H.out.below h.below).hM (by decide)
          · exact rs_callset (wanted_g rfl (yielded_of (d := 89) rfl (h.dep 11 89 rfl rfl))) rfl (enters_of Try.func32 (by kernel_rfl) rfl) _ (h.dep 12 90 rfl rfl) (set_Not M HSM.out _) (by decide)
          · exact rs_loadset (s := a) (wanted_g rfl (yielded_of (d := 89) rfl (h.dep 11 89 rfl rfl))) rfl (h.frame 3 rfl) (H.out.below h.below).ha (by decide)
          · exact rs_callset (wanted_g rfl (yielded_of (d := 89) rfl (h.dep 11 89 rfl rfl))) rfl (enters_of Try.func32 (by kernel_rfl) rfl) _ (h.dep 14 92 rfl rfl) (set_Not a HSA.out _) (by decide)
          · exact rs_loadset (s := b) (wanted_g rfl (yielded_of (d := 89) rfl (h.dep 11 89 rfl rfl))) rfl (h.frame 4 rfl) (H.out.below h.below).hb (by decide)
          · exact rs_callset (wanted_g rfl (yielded_of (d := 89) rfl (h.dep 11 89 rfl rfl))) rfl (enters_of Try.func32 (by kernel_rfl) rfl) _ (h.dep 16 94 rfl rfl) (set_Not b HSB.out _) (by decide)
          · exact rs_loadset (s := c) (wanted_g rfl (yielded_of (d := 89) rfl (h.dep 11 89 rfl rfl))) rfl (h.frame 5 rfl) (H.out.below h.below).hc (by decide)
          · exact rs_callset (wanted_g rfl (yielded_of (d := 89) rfl (h.dep 11 89 rfl rfl))) rfl (enters_of Try.func32 (by kernel_rfl) rfl) _ (h.dep 18 96 rfl rfl) (set_Not c HSC.out _) (by decide)
          · exact rs_build3 (wanted_g rfl (yielded_of (d := 89) rfl (h.dep 11 89 rfl rfl))) rfl (h.dep 15 93 rfl rfl) (h.dep 17 95 rfl rfl) (h.dep 19 97 rfl rfl) (by decide)
          · exact rs_callset (wanted_g rfl (yielded_of (d := 89) rfl (h.dep 11 89 rfl rfl))) rfl (enters_of Try.func28 (by kernel_rfl) rfl) _ rfl (set_Union _ _ hnn _ (h.dep 20 98 rfl rfl)) (by decide)
          · exact rs_neqset (wanted_g rfl (yielded_of (d := 89) rfl (h.dep 11 89 rfl rfl))) rfl (h.dep 13 91 rfl rfl) (h.dep 21 99 rfl rfl) (by rw [← HM.out]; exact alg_not_meet HSA.out HSB.out HSC.out) (by decide)
          · exact rs_pick rfl rfl (h.dep 11 89 rfl rfl) (h.dep 22 100 rfl rfl) (by decide)
          · exact rs_move rfl rfl (h.dep 23 101 rfl rfl) (by decide)
          · exact rs_loadset (s := N) (wanted_g rfl (yielded_of (d := 102) rfl (h.dep 24 102 rfl rfl))) rfl (h.frame 9 rfl) (H.out.below h.below).hN (by decide)
          · exact rs_callset (wanted_g rfl (yielded_of (d := 102) rfl (h.dep 24 102 rfl rfl))) rfl (enters_of Try.func32 (by kernel_rfl) rfl) _ (h.dep 25 103 rfl rfl) (set_Not N HSN.out _) (by decide)
          · exact rs_loadset (s := a) (wanted_g rfl (yielded_of (d := 102) rfl (h.dep 24 102 rfl rfl))) rfl (h.frame 3 rfl) (H.out.below h.below).ha (by decide)
          · exact rs_neqset (wanted_g rfl (yielded_of (d := 102) rfl (h.dep 24 102 rfl rfl))) rfl (h.dep 26 104 rfl rfl) (h.dep 27 105 rfl rfl) (by rw [← HN.out]; exact alg_not_not HSA.out) (by decide)
          · exact rs_pick rfl rfl (h.dep 24 102 rfl rfl) (h.dep 28 106 rfl rfl) (by decide)
        case en =>
          intro vals W hbw hv _
          have v0 : vals 0 = setV U := hv 0 (by omega)
          have v1 : vals 1 = setV (notS U) := hv 1 (by omega)
          have v2 : vals 2 = setV a := hv 2 (by omega)
          have v3 : vals 3 = setV (notS a) := hv 3 (by omega)
          have v4 : vals 4 = setV b := hv 4 (by omega)
          have v5 : vals 5 = setV (notS b) := hv 5 (by omega)
          have v6 : vals 6 = setV c := hv 6 (by omega)
          have v7 : vals 7 = setV (notS c) := hv 7 (by omega)
          have v9 : vals 9 = setV (meetS [notS a, notS b, notS c]) := hv 9 (by omega)
          have v10 : vals 10 = .bool false := hv 10 (by omega)
          have v11 : vals 11 = .bool false := hv 11 (by omega)
          have v12 : vals 12 = setV M := hv 12 (by omega)
          have v13 : vals 13 = setV (notS M) := hv 13 (by omega)
          have v14 : vals 14 = setV a := hv 14 (by omega)
          have v15 : vals 15 = setV (notS a) := hv 15 (by omega)
          have v16 : vals 16 = setV b := hv 16 (by omega)
          have v17 : vals 17 = setV (notS b) := hv 17 (by omega)
          have v18 : vals 18 = setV c := hv 18 (by omega)
          have v19 : vals 19 = setV (notS c) := hv 19 (by omega)
          have v21 : vals 21 = setV (unionS [notS a, notS b, notS c]) := hv 21 (by omega)
          have v22 : vals 22 = .bool false := hv 22 (by omega)
          have v23 : vals 23 = .bool false := hv 23 (by omega)
          have v24 : vals 24 = .bool false := hv 24 (by omega)
          have v25 : vals 25 = setV N := hv 25 (by omega)
          have v26 : vals 26 = setV (notS N) := hv 26 (by omega)
          have v27 : vals 27 = setV a := hv 27 (by omega)
          have v28 : vals 28 = .bool false := hv 28 (by omega)
          have v29 : vals 29 = .bool false := hv 29 (by omega)
          simp only [List.take_succ_cons, List.take_zero, List.drop_succ_cons, List.drop_zero, List.take_nil, List.drop_nil, fillAll, Nat.zero_add, Nat.reduceAdd]
          rw [v0, v1, v2, v3, v4, v5, v6, v7, v9, v10, v11, v12, v13, v14, v15, v16, v17, v18, v19, v21, v22, v23, v24, v25, v26, v27, v28, v29]
          clear hv v0 v1 v2 v3 v4 v5 v6 v7 v9 v10 v11 v12 v13 v14 v15 v16 v17 v18 v19 v21 v22 v23 v24 v25 v26 v27 v28 v29
          simp only [put_lit, List.setIfInBounds_toArray, List.set_cons_succ, List.set_cons_zero]
          generalize vals 8 = x86
          generalize vals 20 = x98
          unfold setV
          have six2 := H.out.below hbw
          have k0 := six2.ha.cell (k := 0) (by omega); have k1 := six2.ha.cell (k := 1) (by omega); have k2 := six2.ha.cell (k := 2) (by omega); have k3 := six2.ha.cell (k := 3) (by omega)
          have S2 := Lib.hid six2; clear six2 H
          go_wp2_with fail
          refine (set_Fold a HSA.out _).mono ?_
          rintro e w5 ⟨rfl, bel5⟩
          have S5 := Lib.hid (S2.out.below bel5)
          obtain ⟨F, hF⟩ : ∃ F, foldF a (bytesS a) = F := ⟨_, rfl⟩
          rw [hF]
          have hsF : SetOk F := by rw [← hF]; exact foldF_ok _ HSA.out
          have HF := Lib.hid hF; clear hF
          have HSF := Lib.hid hsF; clear hsF
          clear k0 k1 k2 k3
          unfold setV
          go_wp2_with fail
          have bF : SBox (w5.alloc (.cells (setC F) 39)) w5.heap.size 39 F := SBox.new w5 _ F
          have S6 := Lib.hid (S5.out.below (W' := w5.alloc (.cells (setC F) 39)) ((Below.refl _ w5).alloc (Nat.le_refl _) _))
          clear S5 S2 bel5 hnn
          refine wp_region_spec 34 [fun v _ => v = setV F, fun v _ => v = setV (foldF F (bytesS F)), fun v _ => v = setV F, fun v _ => v = .bool true, fun v _ => v = .bool true, fun v _ => v = setV F, fun v _ => v = setV a, fun v w => RdS w w.heap.size v [F, a], fun v _ => v = setV (meetS [F, a]), fun v _ => v = setV a, fun v _ => v = .bool true, fun v _ => v = .bool true, fun v _ => v = .bool true, fun v _ => v = setV a, fun v _ => v = setV b, fun v w => RdS w w.heap.size v [a, b], fun v _ => v = setV (unionS [a, b]), fun v _ => v = setV (foldF (unionS [a, b]) (bytesS (unionS [a, b]))), fun v _ => v = setV F, fun v _ => v = setV b, fun v _ => v = setV (foldF b (bytesS b)), fun v w => RdS w w.heap.size v [F, foldF b (bytesS b)], fun v _ => v = setV (unionS [F, foldF b (bytesS b)]), fun v _ => v = .bool true, fun v _ => v = .bool true, fun v _ => v = .bool true, fun v _ => v = setV a, fun v _ => v = .int .i64 (countS a : Nat), fun v _ => v = setV N, fun v _ => v = .int .i64 (countS N : Nat), fun v _ => v = .int .i64 (256 : Nat), fun v _ => v = .bool true, fun v _ => v = .bool true, fun v _ => v = .bool true] (fun _ => false) (by kernel_rfl) (by kernel_rfl) (by kernel_rfl) ⟨stable_eq _, stable_eq _, stable_eq _, stable_eq _, stable_eq _, stable_eq _, stable_eq _, stable_rds _, stable_eq _, stable_eq _, stable_eq _, stable_eq _, stable_eq _, stable_eq _, stable_eq _, stable_rds _, stable_eq _, stable_eq _, stable_eq _, stable_eq _, stable_eq _, stable_rds _, stable_eq _, stable_eq _, stable_eq _, stable_eq _, stable_eq _, stable_eq _, stable_eq _, stable_eq _, stable_eq _, stable_eq _, stable_eq _, stable_eq _, trivial⟩ (fun _ _ h => by cases h) ?ob2 ?en2
          case ob2 =>
            refine ⟨?_, ?_, ?_, ?_, ?_, ?_, ?_, ?_, ?_, ?_, ?_, ?_, ?_, ?_, ?_, ?_, ?_, ?_, ?_, ?_, ?_, ?_, ?_, ?_, ?_, ?_, ?_, ?_, ?_, ?_, ?_, ?_, ?_, ?_, trivial⟩ <;> intro A W h
            · exact rs_loadset (s := F) rfl rfl (h.frame 12 rfl) (bF.below h.below bF.lt) (by decide)
            · exact rs_callset rfl rfl (enters_of Try.func34 (by kernel_rfl) rfl) _ (h.dep 0 110 rfl rfl) (set_Fold F HSF.out _) (by decide)
            · exact rs_loadset (s := F) rfl rfl (h.frame 12 rfl) (bF.below h.below bF.lt) (by decide)
            · exact rs_eqlset rfl rfl (h.dep 1 111 rfl rfl) (h.dep 2 112 rfl rfl) (by rw [← HF.out]; exact alg_fold_fold HSA.out) (by decide)
            · exact rs_move rfl rfl (h.dep 3 113 rfl rfl) (by decide)
            · exact rs_loadset (s := F) (wanted_g rfl (yielded_of (d := 114) rfl (h.dep 4 114 rfl rfl))) rfl (h.frame 12 rfl) (bF.below h.below bF.lt) (by decide)
            · exact rs_loadset (s := a) (wanted_g rfl (yielded_of (d := 114) rfl (h.dep 4 114 rfl rfl))) rfl (h.frame 3 rfl) (S6.out.below h.below).ha (by decide)
            · exact rs_build2 (wanted_g rfl (yielded_of (d := 114) rfl (h.dep 4 114 rfl rfl))) rfl (h.dep 5 115 rfl rfl) (h.dep 6 116 rfl rfl) (by decide)
            · exact rs_callset (wanted_g rfl (yielded_of (d := 114) rfl (h.dep 4 114 rfl rfl))) rfl (enters_of Try.func30 (by kernel_rfl) rfl) _ rfl (set_Meet _ _ (two_ok HSF.out HSA.out) _ (h.dep 7 117 rfl rfl)) (by decide)
            · exact rs_loadset (s := a) (wanted_g rfl (yielded_of (d := 114) rfl (h.dep 4 114 rfl rfl))) rfl (h.frame 3 rfl) (S6.out.below h.below).ha (by decide)
            · exact rs_eqlset (wanted_g rfl (yielded_of (d := 114) rfl (h.dep 4 114 rfl rfl))) rfl (h.dep 8 118 rfl rfl) (h.dep 9 119 rfl rfl) (by rw [← HF.out]; exact alg_fold_meet HSA.out) (by decide)
            · exact rs_pick rfl rfl (h.dep 4 114 rfl rfl) (h.dep 10 120 rfl rfl) (by decide)
            · exact rs_move rfl rfl (h.dep 11 121 rfl rfl) (by decide)
            · exact rs_loadset (s := a) (wanted_g rfl (yielded_of (d := 122) rfl (h.dep 12 122 rfl rfl))) rfl (h.frame 3 rfl) (S6.out.below h.below).ha (by decide)
            · exact rs_loadset (s := b) (wanted_g rfl (yielded_of (d := 122) rfl (h.dep 12 122 rfl rfl))) rfl (h.frame 4 rfl) (S6.out.below h.below).hb (by decide)
            · exact rs_build2 (wanted_g rfl (yielded_of (d := 122) rfl (h.dep 12 122 rfl rfl))) rfl (h.dep 13 123 rfl rfl) (h.dep 14 124 rfl rfl) (by decide)
            · exact rs_callset (wanted_g rfl (yielded_of (d := 122) rfl (h.dep 12 122 rfl rfl))) rfl (enters_of Try.func28 (by kernel_rfl) rfl) _ rfl (set_Union _ _ (two_ok HSA.out HSB.out) _ (h.dep 15 125 rfl rfl)) (by decide)
            · exact rs_callset (wanted_g rfl (yielded_of (d := 122) rfl (h.dep 12 122 rfl rfl))) rfl (enters_of Try.func34 (by kernel_rfl) rfl) _ (h.dep 16 126 rfl rfl) (set_Fold _ (unionS_ok (two_ok HSA.out HSB.out)) _) (by decide)
            · exact rs_loadset (s := F) (wanted_g rfl (yielded_of (d := 122) rfl (h.dep 12 122 rfl rfl))) rfl (h.frame 12 rfl) (bF.below h.below bF.lt) (by decide)
            · exact rs_loadset (s := b) (wanted_g rfl (yielded_of (d := 122) rfl (h.dep 12 122 rfl rfl))) rfl (h.frame 4 rfl) (S6.out.below h.below).hb (by decide)
            · exact rs_callset (wanted_g rfl (yielded_of (d := 122) rfl (h.dep 12 122 rfl rfl))) rfl (enters_of Try.func34 (by kernel_rfl) rfl) _ (h.dep 19 129 rfl rfl) (set_Fold b HSB.out _) (by decide)
            · exact rs_build2 (wanted_g rfl (yielded_of (d := 122) rfl (h.dep 12 122 rfl rfl))) rfl (h.dep 18 128 rfl rfl) (h.dep 20 130 rfl rfl) (by decide)
            · exact rs_callset (wanted_g rfl (yielded_of (d := 122) rfl (h.dep 12 122 rfl rfl))) rfl (enters_of Try.func28 (by kernel_rfl) rfl) _ rfl (set_Union _ _ (two_ok HSF.out (foldF_ok _ HSB.out)) _ (h.dep 21 131 rfl rfl)) (by decide)
            · exact rs_eqlset (wanted_g rfl (yielded_of (d := 122) rfl (h.dep 12 122 rfl rfl))) rfl (h.dep 17 127 rfl rfl) (h.dep 22 132 rfl rfl) (by rw [← HF.out]; exact alg_fold_union HSA.out HSB.out) (by decide)
            · exact rs_pick rfl rfl (h.dep 12 122 rfl rfl) (h.dep 23 133 rfl rfl) (by decide)
            · exact rs_move rfl rfl (h.dep 24 134 rfl rfl) (by decide)
            · exact rs_loadset (s := a) (wanted_g rfl (yielded_of (d := 135) rfl (h.dep 25 135 rfl rfl))) rfl (h.frame 3 rfl) (S6.out.below h.below).ha (by decide)
            · exact rs_callset (wanted_g rfl (yielded_of (d := 135) rfl (h.dep 25 135 rfl rfl))) rfl (enters_of Try.func35 (by kernel_rfl) rfl) _ (h.dep 26 136 rfl rfl) (set_Count a HSA.out _) (by decide)
            · exact rs_loadset (s := N) (wanted_g rfl (yielded_of (d := 135) rfl (h.dep 25 135 rfl rfl))) rfl (h.frame 9 rfl) (S6.out.below h.below).hN (by decide)
            · exact rs_callset (wanted_g rfl (yielded_of (d := 135) rfl (h.dep 25 135 rfl rfl))) rfl (enters_of Try.func35 (by kernel_rfl) rfl) _ (h.dep 28 138 rfl rfl) (set_Count N HSN.out _) (by decide)
            · exact rs_addint (wanted_g rfl (yielded_of (d := 135) rfl (h.dep 25 135 rfl rfl))) rfl (h.dep 27 137 rfl rfl) (h.dep 29 139 rfl rfl) (by rw [← HN.out]; exact alg_count HSA.out) (by omega) (by decide)
            · exact rs_eqlint (wanted_g rfl (yielded_of (d := 135) rfl (h.dep 25 135 rfl rfl))) rfl (h.dep 30 140 rfl rfl) rfl (by decide)
            · exact rs_pick rfl rfl (h.dep 25 135 rfl rfl) (h.dep 31 141 rfl rfl) (by decide)
            · exact rs_assign rfl rfl (h.dep 32 142 rfl rfl) (by decide)
          case en2 =>
            intro vals W2 hbw2 hv _
            have v0 : vals 0 = setV F := hv 0 (by omega)
            have v1 : vals 1 = setV (foldF F (bytesS F)) := hv 1 (by omega)
            have v2 : vals 2 = setV F := hv 2 (by omega)
            have v3 : vals 3 = .bool true := hv 3 (by omega)
            have v4 : vals 4 = .bool true := hv 4 (by omega)
            have v5 : vals 5 = setV F := hv 5 (by omega)
            have v6 : vals 6 = setV a := hv 6 (by omega)
            have v8 : vals 8 = setV (meetS [F, a]) := hv 8 (by omega)
            have v9 : vals 9 = setV a := hv 9 (by omega)
            have v10 : vals 10 = .bool true := hv 10 (by omega)
            have v11 : vals 11 = .bool true := hv 11 (by omega)
            have v12 : vals 12 = .bool true := hv 12 (by omega)
            have v13 : vals 13 = setV a := hv 13 (by omega)
            have v14 : vals 14 = setV b := hv 14 (by omega)
            have v16 : vals 16 = setV (unionS [a, b]) := hv 16 (by omega)
            have v17 : vals 17 = setV (foldF (unionS [a, b]) (bytesS (unionS [a, b]))) := hv 17 (by omega)
            have v18 : vals 18 = setV F := hv 18 (by omega)
            have v19 : vals 19 = setV b := hv 19 (by omega)
            have v20 : vals 20 = setV (foldF b (bytesS b)) := hv 20 (by omega)
            have v22 : vals 22 = setV (unionS [F, foldF b (bytesS b)]) := hv 22 (by omega)
            have v23 : vals 23 = .bool true := hv 23 (by omega)
            have v24 : vals 24 = .bool true := hv 24 (by omega)
            have v25 : vals 25 = .bool true := hv 25 (by omega)
            have v26 : vals 26 = setV a := hv 26 (by omega)
            have v27 : vals 27 = .int .i64 (countS a : Nat) := hv 27 (by omega)
            have v28 : vals 28 = setV N := hv 28 (by omega)
            have v29 : vals 29 = .int .i64 (countS N : Nat) := hv 29 (by omega)
            have v30 : vals 30 = .int .i64 (256 : Nat) := hv 30 (by omega)
            have v31 : vals 31 = .bool true := hv 31 (by omega)
            have v32 : vals 32 = .bool true := hv 32 (by omega)
            have v33 : vals 33 = .bool true := hv 33 (by omega)
            simp only [List.take_succ_cons, List.take_zero, List.drop_succ_cons, List.drop_zero, List.take_nil, List.drop_nil, fillAll, Nat.zero_add, Nat.reduceAdd]
            rw [v0, v1, v2, v3, v4, v5, v6, v8, v9, v10, v11, v12, v13, v14, v16, v17, v18, v19, v20, v22, v23, v24, v25, v26, v27, v28, v29, v30, v31, v32, v33]
            clear hv v0 v1 v2 v3 v4 v5 v6 v8 v9 v10 v11 v12 v13 v14 v16 v17 v18 v19 v20 v22 v23 v24 v25 v26 v27 v28 v29 v30 v31 v32 v33
            simp only [put_lit, List.setIfInBounds_toArray, List.set_cons_succ, List.set_cons_zero]
            have S7 := Lib.hid (S6.out.below hbw2)
            go_wp2_with fail
            go_ret
            exact ⟨rfl, S7.out.bel⟩

end Go.Proofs.Ytkkilngihkdnaaa
