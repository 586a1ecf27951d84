/-
  SetMakes: the walk.
-/
import Derived.Test.YtkkilngihkdnaaaSetWholeWalk
import Derived.Test.YtkkilngihkdnaaaRef08c
import Derived.Test.YtkkilngihkdnaaaKitB
namespace Go.Proofs.Ytkkilngihkdnaaa
open Go.RowKit Go.Shelf
attribute [local go_sem] Oper.semAt_some
set_option linter.unusedSimpArgs false

/-- 'append(own, src...)' at sets, whatever the source. -/
theorem wpList_append_rds {P : Program} (w : World) {ops : Array Oper} {rest : List Oper} {o : Oper} {a : Act} {Q : Exit → Act → World → Prop}
    (hg : o.guard = none) (s x : Operand) (t : TypeId) (hop : o.op = Op.call { callee := Callee.builtin Builtin.append, args := #[s, x], argTypes := #[t, t] })
    (base : Nat) (e : TypeId) (i : TypeInfo) (z : Value) (bytes : Nat) (h1 : P.underlying t = some (.slice e)) (h2 : P.info? e = some i) (h3 : i.zero = some z) (h4 : i.size = 4) (h5 : i.bytes = bytes) (h6 : z.cells.size = 4)
    (v : Value) (k : Nat) (xs : List Value) (hs : a.eval s = v) (hown : w.ownsRow base e 4 v k xs) (u : Value) (L : List (Nat → Nat)) {b0 : Nat} (hx : a.eval x = u) (hrd : RdS w b0 u L)
    (b1 : k + L.length ≤ maxLen) (b2 : (k + L.length) * bytes ≤ 140737488355328) (b3 : base ≤ w.heap.size)
    (hK : ∀ v' w', w'.ownsRow base e 4 v' (k + L.length) (xs ++ rowC L) → w.grownBy w' v.ownBlock → wpList P ops Q rest (a.put o.dst v') w') :
    wpList P ops Q (o :: rest) a w := by
  rcases hrd with ⟨⟨q, rfl⟩, rfl⟩ | ⟨b, off, cap, rfl, hb, hc, hm, hcell⟩
  · cases q with
    | none =>
      refine wpList_append_own_none hg s x t hop base e i 4 h1 h2 v k xs hs hown hx ?_
      have := hK v w (by simpa [rowC] using hown) ⟨rfl, rfl, rfl, Nat.le_refl _, fun _ _ _ => rfl⟩
      subst hs
      exact this
    | some ad => exact wpList_append_own_at w hg s x t hop base e i z 4 bytes h1 h2 h3 h4 h5 h6 (by decide) v k xs hs hown ad 0 0 [] hx (by simp) (fun j u' hj => by simp at hj) (by simp) (by simpa using b1) (by simpa using b2) b3 (fun v' w' r1 r2 _ _ => hK v' w' (by simpa [rowC] using r1) r2)
  · have had : ∀ j, (⟨b, off, none⟩ : Addr).add j = ⟨b, off + j, none⟩ := fun j => by unfold Addr.add; split <;> simp_all
    refine wpList_append_own_at w hg s x t hop base e i z 4 bytes h1 h2 h3 h4 h5 h6 (by decide) v k xs hs hown ⟨b, off, none⟩ L.length cap (rowC L) hx (by rw [rowC_length]) (fun j u' hj => ?_) (fun c hc => ?_) b1 b2 b3 (fun v' w' r1 r2 _ _ => hK v' w' r1 r2)
    · rw [had]
      have hj' : j < L.length * 4 := by have := (List.getElem?_eq_some_iff.1 hj).1; rwa [rowC_length] at this
      have h1 := rowC_get (L := L) (j := j / 4) (k := j % 4) (by omega) (by omega)
      rw [show j / 4 * 4 + j % 4 = j from by omega, hj] at h1
      rw [Option.some.inj h1]
      have h2 := hcell (j / 4) (by omega) (j % 4) (by omega)
      rwa [show off + j / 4 * 4 + j % 4 = off + j from by omega] at h2
    · obtain ⟨s, _, hs⟩ := List.mem_flatMap.1 hc
      simp [setC] at hs
      rcases hs with rfl | rfl | rfl | rfl <;> rfl

theorem own_lit4 (w : World) (base : Nat) (e : TypeId) (hb : base ≤ w.heap.size) : (w.alloc (.cells #[] e)).ownsRow base e 4 (.slice (some ⟨w.heap.size, 0, none⟩) 0 0) 0 [] :=
  ⟨by simp, .inr ⟨w.heap.size, _, _, rfl, hb, World.alloc_heap_new w _, Nat.le_refl _, by simp, by simp, by simp⟩⟩

set_option maxRecDepth 100000 in
set_option maxHeartbeats 4000000 in
theorem law_SetMakes (v : Value) (xs : List Int) (lo hi : Nat) (v3 : Value) (L : List (Nat → Nat)) (w : World) (hx : ∀ x ∈ xs, 0 ≤ x ∧ x ≤ 255) (hlo : lo ≤ 255) (hhi : hi ≤ 255) (hL : ∀ t ∈ L, SetOk t)
    (h : Rd w w.heap.size v (u8s xs)) (h3 : RdS w w.heap.size v3 L) :
    Calls Try.prog 6 #[v, .int .u8 lo, .int .u8 hi, v3] w fun e w' => e = .returned (.bool true) ∧ Below w.heap.size w w' := by
  obtain ⟨i0, hi0, hz0, hz1, hz2⟩ := info_parts info_set
  have hl : xs.length ≤ 9223372036854775807 := by simpa [u8s] using h.len
  have hl3 : L.length ≤ 9223372036854775807 := by
    rcases h3 with ⟨_, rfl⟩ | ⟨b, off, cap, _, _, h1, h2, _⟩
    · simp
    · unfold maxLen at h2; omega
  obtain ⟨p, cap, rfl⟩ : ∃ p cap, v = .slice p xs.length cap := by rcases h.u8 with ⟨⟨q, h'⟩, rfl⟩ | ⟨b, off, cap, h', _⟩ <;> exact ⟨_, _, h'⟩
  obtain ⟨p3, cap3, rfl⟩ : ∃ p cap, v3 = .slice p L.length cap := by rcases h3 with ⟨⟨q, h⟩, rfl⟩ | ⟨b, off, cap, h, _⟩ <;> exact ⟨_, _, h⟩
  have H := Lib.hid h; clear h
  have H3 := Lib.hid h3; clear h3
  have HX := Lib.hid hx; clear hx
  have HL := Lib.hid hL; clear hL
  by_cases hbig : 600 < xs.length
  · go_enter Try.func6, Try.ntmps6
    go_wp2_with fail
    refine (law08_awake _).mono ?_
    rintro e w1 ⟨rfl, b1⟩
    go_wp2
    go_ret
    exact ⟨rfl, b1⟩
  · by_cases hbig3 : 600 < L.length
    · go_enter Try.func6, Try.ntmps6
      go_wp2_with fail
      refine (law08_awake _).mono ?_
      rintro e w1 ⟨rfl, b1⟩
      go_wp2
      go_ret
      exact ⟨rfl, b1⟩
    · go_enter Try.func6, Try.ntmps6
      go_wp2_with fail
      refine (kit_LentBytes (.slice p xs.length cap) xs _ (by omega) H.out).mono ?_
      rintro e w1 ⟨r, rfl, lent, bel1⟩
      have sz1 := bel1.size
      have LE := Lib.hid lent
      have B1 := Lib.hid bel1
      obtain ⟨g, capg, rfl, _⟩ := lent
      have hlen : (u8s xs).length = xs.length := by simp [u8s]
      rw [hlen] at LE ⊢
      clear bel1 hlen
      have own1 := own_lit4 w1 w1.heap.size 39 (Nat.le_refl _)
      have rs1 := (H3.out.below B1.out).below (((Below.refl w.heap.size w1).alloc sz1 (.cells #[] 39)))
      have O1 := Lib.hid own1; clear own1
      have R1 := Lib.hid rs1; clear rs1
      go_upto_region 5 with (at_builtin; refine wpList_append_rds _ rfl _ _ 36 rfl w1.heap.size 39 i0 _ 32 Try.underlying36 hi0 hz0 hz1 hz2 rfl (.slice (some ⟨w1.heap.size, 0, none⟩) 0 0) 0 [] rfl O1.out (.slice p3 L.length cap3) L rfl R1.out (by unfold maxLen; omega) (by omega) (by simp) ?_; intro v5 w5 own5 grow5)
      have bel5' : Below w1.heap.size w1 w5 := ((Below.refl w1.heap.size w1).alloc (Nat.le_refl _) _).grown grow5 (by simp) (fun k hk => by simp [Value.ownBlock] at hk; omega)
      have bel5 : Below w.heap.size w w5 := B1.out.trans (bel5'.mono sz1)
      have lent5 := LE.out.below bel5'
      have row5 := RdS.of_own (by omega) (show w5.ownsRow w1.heap.size 39 4 v5 (0 + L.length) (rowC L) from by simpa using own5)
      have hv5 : ∃ p c, v5 = .slice p L.length c := by rcases row5 with ⟨⟨q, h⟩, rfl⟩ | ⟨b, off, cap, h, _⟩ <;> exact ⟨_, _, h⟩
      obtain ⟨p5, c5, rfl⟩ := hv5
      have B5 := Lib.hid bel5; clear bel5
      have L5 := Lib.hid lent5; clear lent5
      have R5 := Lib.hid row5; clear row5
      clear own5 grow5 bel5' O1 R1 LE B1
      refine wp_region_seq 28 [fun v _ => v = .slice (some ⟨g, 0, none⟩) xs.length capg, fun v _ => v = setV (ofS xs), fun v _ => v = .slice p xs.length cap, fun v _ => v = setV (ofS xs), fun v _ => v = .bool false, fun v _ => v = .bool false, fun v _ => v = .int .u8 (lo : Int), fun v _ => v = .int .u8 (hi : Int), fun v _ => v = setV (rangeS lo (hi + 1 - lo)), fun v _ => v = .int .u8 (lo : Int), fun v _ => v = .int .u8 (hi : Int), fun v _ => v = setV (rangeS lo (hi + 1 - lo)), fun v _ => v = .bool false, fun v _ => v = .bool false, fun v _ => v = .bool false, fun v _ => v = .slice p5 L.length c5, fun v _ => v = setV (unionS L), fun v _ => v = .slice p3 L.length cap3, fun v _ => v = setV (unionS L), fun v _ => v = .bool false, fun v _ => v = .bool false, fun v _ => v = .bool false, fun v _ => v = .slice p5 L.length c5, fun v _ => v = setV (meetS L), fun v _ => v = .slice p3 L.length cap3, fun v _ => v = setV (meetS L), fun v _ => v = .bool false, fun v _ => v = .bool false] (fun _ => false) (by kernel_rfl) (by kernel_rfl) ⟨stable_eq _, stable_eq _, stable_eq _, stable_eq _, stable_eq _, stable_eq _, stable_eq _, stable_eq _, stable_eq _, stable_eq _, stable_eq _, stable_eq _, stable_eq _, stable_eq _, stable_eq _, stable_eq _, stable_eq _, stable_eq _, stable_eq _, stable_eq _, stable_eq _, stable_eq _, stable_eq _, stable_eq _, stable_eq _, stable_eq _, stable_eq _, stable_eq _, trivial⟩ (fun _ _ h => by cases h) ?ob ?en
      case ob =>
        refine ⟨?_, ?_, ?_, ?_, ?_, ?_, ?_, ?_, ?_, ?_, ?_, ?_, ?_, ?_, ?_, ?_, ?_, ?_, ?_, ?_, ?_, ?_, ?_, ?_, ?_, ?_, ?_, ?_, trivial⟩ <;> intro A W h
        · exact rs_move rfl rfl (h.frame 9 rfl) (by decide)
        · exact rs_calln rfl rfl (enters_of Try.func24 (by kernel_rfl) rfl) (args1 (h.dep 0 26 rfl rfl)) (set_Of _ xs HX.out W ((L5.out.rd.below h.below).up h.below.size)) (by decide)
        · exact rs_move rfl rfl (h.frame 0 rfl) (by decide)
        · exact rs_calln rfl rfl (enters_of Try.func25 (by kernel_rfl) rfl) (args1 (h.dep 2 28 rfl rfl)) (ref_Of _ xs HX.out W (((H.out.below B5.out).up B5.out.size).below h.below |>.up h.below.size)) (by decide)
        · exact rs_neqset rfl rfl (h.dep 1 27 rfl rfl) (h.dep 3 29 rfl rfl) rfl (by decide)
        · exact rs_move rfl rfl (h.dep 4 30 rfl rfl) (by decide)
        · exact rs_move (wanted_g rfl (yielded_of (d := 31) rfl (h.dep 5 31 rfl rfl))) rfl (h.frame 1 rfl) (by decide)
        · exact rs_move (wanted_g rfl (yielded_of (d := 31) rfl (h.dep 5 31 rfl rfl))) rfl (h.frame 2 rfl) (by decide)
        · exact rs_calln (wanted_g rfl (yielded_of (d := 31) rfl (h.dep 5 31 rfl rfl))) rfl (enters_of Try.func26 (by kernel_rfl) rfl) (args2 ⟨(h.dep 6 32 rfl rfl), (h.dep 7 33 rfl rfl)⟩) (set_Range lo hi hlo hhi W) (by decide)
        · exact rs_move (wanted_g rfl (yielded_of (d := 31) rfl (h.dep 5 31 rfl rfl))) rfl (h.frame 1 rfl) (by decide)
        · exact rs_move (wanted_g rfl (yielded_of (d := 31) rfl (h.dep 5 31 rfl rfl))) rfl (h.frame 2 rfl) (by decide)
        · exact rs_calln (wanted_g rfl (yielded_of (d := 31) rfl (h.dep 5 31 rfl rfl))) rfl (enters_of Try.func27 (by kernel_rfl) rfl) (args2 ⟨(h.dep 9 35 rfl rfl), (h.dep 10 36 rfl rfl)⟩) (ref_Range lo hi hlo hhi W) (by decide)
        · exact rs_neqset (wanted_g rfl (yielded_of (d := 31) rfl (h.dep 5 31 rfl rfl))) rfl (h.dep 8 34 rfl rfl) (h.dep 11 37 rfl rfl) rfl (by decide)
        · exact rs_pick rfl rfl (h.dep 5 31 rfl rfl) (h.dep 12 38 rfl rfl) (by decide)
        · exact rs_move rfl rfl (h.dep 13 39 rfl rfl) (by decide)
        · exact rs_move (wanted_g rfl (yielded_of (d := 40) rfl (h.dep 14 40 rfl rfl))) rfl (h.frame 10 rfl) (by decide)
        · exact rs_calln (wanted_g rfl (yielded_of (d := 40) rfl (h.dep 14 40 rfl rfl))) rfl (enters_of Try.func28 (by kernel_rfl) rfl) (args1 (h.dep 15 41 rfl rfl)) (set_Union _ L HL.out W ((R5.out.below h.below).up h.below.size)) (by decide)
        · exact rs_move (wanted_g rfl (yielded_of (d := 40) rfl (h.dep 14 40 rfl rfl))) rfl (h.frame 3 rfl) (by decide)
        · exact rs_calln (wanted_g rfl (yielded_of (d := 40) rfl (h.dep 14 40 rfl rfl))) rfl (enters_of Try.func29 (by kernel_rfl) rfl) (args1 (h.dep 17 43 rfl rfl)) (ref_Union _ L HL.out W (((H3.out.below B5.out).up B5.out.size).below h.below |>.up h.below.size)) (by decide)
        · exact rs_neqset (wanted_g rfl (yielded_of (d := 40) rfl (h.dep 14 40 rfl rfl))) rfl (h.dep 16 42 rfl rfl) (h.dep 18 44 rfl rfl) rfl (by decide)
        · exact rs_pick rfl rfl (h.dep 14 40 rfl rfl) (h.dep 19 45 rfl rfl) (by decide)
        · exact rs_move rfl rfl (h.dep 20 46 rfl rfl) (by decide)
        · exact rs_move (wanted_g rfl (yielded_of (d := 47) rfl (h.dep 21 47 rfl rfl))) rfl (h.frame 10 rfl) (by decide)
        · exact rs_calln (wanted_g rfl (yielded_of (d := 47) rfl (h.dep 21 47 rfl rfl))) rfl (enters_of Try.func30 (by kernel_rfl) rfl) (args1 (h.dep 22 48 rfl rfl)) (set_Meet _ L HL.out W ((R5.out.below h.below).up h.below.size)) (by decide)
        · exact rs_move (wanted_g rfl (yielded_of (d := 47) rfl (h.dep 21 47 rfl rfl))) rfl (h.frame 3 rfl) (by decide)
        · exact rs_calln (wanted_g rfl (yielded_of (d := 47) rfl (h.dep 21 47 rfl rfl))) rfl (enters_of Try.func31 (by kernel_rfl) rfl) (args1 (h.dep 24 50 rfl rfl)) (ref_Meet _ L HL.out W (((H3.out.below B5.out).up B5.out.size).below h.below |>.up h.below.size)) (by decide)
        · exact rs_neqset (wanted_g rfl (yielded_of (d := 47) rfl (h.dep 21 47 rfl rfl))) rfl (h.dep 23 49 rfl rfl) (h.dep 25 51 rfl rfl) rfl (by decide)
        · exact rs_pick rfl rfl (h.dep 21 47 rfl rfl) (h.dep 26 52 rfl rfl) (by decide)
      case en =>
        intro vals W hbw hv _
        have v0 : vals 0 = .slice (some ⟨g, 0, none⟩) xs.length capg := hv 0 (by omega)
        have v1 : vals 1 = setV (ofS xs) := hv 1 (by omega)
        have v2 : vals 2 = .slice p xs.length cap := hv 2 (by omega)
        have v3 : vals 3 = setV (ofS xs) := hv 3 (by omega)
        have v4 : vals 4 = .bool false := hv 4 (by omega)
        have v5 : vals 5 = .bool false := hv 5 (by omega)
        have v6 : vals 6 = .int .u8 (lo : Int) := hv 6 (by omega)
        have v7 : vals 7 = .int .u8 (hi : Int) := hv 7 (by omega)
        have v8 : vals 8 = setV (rangeS lo (hi + 1 - lo)) := hv 8 (by omega)
        have v9 : vals 9 = .int .u8 (lo : Int) := hv 9 (by omega)
        have v10 : vals 10 = .int .u8 (hi : Int) := hv 10 (by omega)
        have v11 : vals 11 = setV (rangeS lo (hi + 1 - lo)) := hv 11 (by omega)
        have v12 : vals 12 = .bool false := hv 12 (by omega)
        have v13 : vals 13 = .bool false := hv 13 (by omega)
        have v14 : vals 14 = .bool false := hv 14 (by omega)
        have v15 : vals 15 = .slice p5 L.length c5 := hv 15 (by omega)
        have v16 : vals 16 = setV (unionS L) := hv 16 (by omega)
        have v17 : vals 17 = .slice p3 L.length cap3 := hv 17 (by omega)
        have v18 : vals 18 = setV (unionS L) := hv 18 (by omega)
        have v19 : vals 19 = .bool false := hv 19 (by omega)
        have v20 : vals 20 = .bool false := hv 20 (by omega)
        have v21 : vals 21 = .bool false := hv 21 (by omega)
        have v22 : vals 22 = .slice p5 L.length c5 := hv 22 (by omega)
        have v23 : vals 23 = setV (meetS L) := hv 23 (by omega)
        have v24 : vals 24 = .slice p3 L.length cap3 := hv 24 (by omega)
        have v25 : vals 25 = setV (meetS L) := hv 25 (by omega)
        have v26 : vals 26 = .bool false := hv 26 (by omega)
        have v27 : vals 27 = .bool false := hv 27 (by omega)
        simp only [List.take_succ_cons, List.take_zero, List.drop_succ_cons, List.drop_zero, List.drop_nil, List.take_nil, fillAll, Nat.zero_add, Nat.reduceAdd]
        rw [v0, v1, v2, v3, v4, v5, v6, v7, v8, v9, v10, v11, v12, v13, v14, v15, v16, v17, v18, v19, v20, v21, v22, v23, v24, v25, v26, v27]
        clear hv v0 v1 v2 v3 v4 v5 v6 v7 v8 v9 v10 v11 v12 v13 v14 v15 v16 v17 v18 v19 v20 v21 v22 v23 v24 v25 v26 v27
        simp only [put_lit, List.setIfInBounds_toArray, List.set_cons_succ, List.set_cons_zero]
        have B6 := Lib.hid (B5.out.trans (hbw.mono B5.out.size))
        have L6 := Lib.hid (L5.out.below hbw)
        have R6 := Lib.hid ((R5.out.below hbw).up hbw.size)
        clear hbw B5 L5 R5
        go_wp2_with fail
        go_loopw [11] (fun i wr => ∃ k : Nat, k ≤ L.length ∧ i = .int .i64 k ∧ Hid (Below W.heap.size W wr)) (fun i _ => L.length - (intOf i).toNat)
        case atStart => exact ⟨0, by omega, rfl, Below.refl _ _⟩
        case round =>
          obtain ⟨k, hk, rfl, G⟩ := hrel
          by_cases hlt : k < L.length
          · obtain ⟨b0, off, rfl, hb0, hcell⟩ : ∃ b0 off, p3 = some ⟨b0, off, none⟩ ∧ b0 < w.heap.size ∧ ∀ j, j < 4 → w.cell? ⟨b0, off + k * 4 + j, none⟩ = some (.int .u64 (L[k] j)) := by
              rcases H3.out with ⟨⟨q, h⟩, h'⟩ | ⟨b, off, cap, h, h1, _, _, h4⟩
              · subst h'; simp at hlt
              · injection h with h2 _ _; exact ⟨b, off, h2, h1, fun j hj => h4 k hlt j hj⟩
            obtain ⟨b5, off5, rfl, hb5, hcell5⟩ : ∃ b0 off, p5 = some ⟨b0, off, none⟩ ∧ b0 < W.heap.size ∧ ∀ j, j < 4 → W.cell? ⟨b0, off + k * 4 + j, none⟩ = some (.int .u64 (L[k] j)) := by
              rcases R6.out with ⟨⟨q, h⟩, h'⟩ | ⟨b, off, cap, h, h1, _, _, h4⟩
              · subst h'; simp at hlt
              · injection h with h2 _ _; exact ⟨b, off, h2, h1, fun j hj => h4 k hlt j hj⟩
            have HC := Lib.hid hcell; clear hcell
            have HC5 := Lib.hid hcell5; clear hcell5
            generalize L[k] = t at HC HC5
            go_upto_region 10 with fail
            refine wp_region_spec 9 [fun v _ => v = .slice (some ⟨b5, off5, none⟩) L.length c5, fun v _ => v = .int .i64 (k : Int), fun v _ => v = .pointer (some ⟨b5, off5 + k * 4, none⟩), fun v _ => v = setV t, fun v _ => v = .slice (some ⟨b0, off, none⟩) L.length cap3, fun v _ => v = .int .i64 (k : Int), fun v _ => v = .pointer (some ⟨b0, off + k * 4, none⟩), fun v _ => v = setV t, fun v _ => v = .bool false] (fun _ => false) (by kernel_rfl) (by kernel_rfl) (by kernel_rfl) ⟨stable_eq _, stable_eq _, stable_eq _, stable_eq _, stable_eq _, stable_eq _, stable_eq _, stable_eq _, stable_eq _, trivial⟩ (fun _ _ h => by cases h) ?ob ?en
            case ob =>
              refine ⟨?_, ?_, ?_, ?_, ?_, ?_, ?_, ?_, ?_, trivial⟩ <;> intro A W h
              · exact rs_move rfl rfl (h.frame 10 rfl) (by decide)
              · exact rs_move rfl rfl (h.frame 11 rfl) (by decide)
              · exact rs_idx (sz := 4) Try.underlying36 (fun w => by kernel_rfl) rfl rfl (h.dep 0 60 rfl rfl) (h.dep 1 61 rfl rfl) (by omega) (by omega) (by decide)
              · exact rs_loadcells rfl rfl (h.dep 2 62 rfl rfl) (fun j hj => ((G.out.trans (h.below.mono G.out.size)).cell (p := ⟨b5, off5 + k * 4 + j, none⟩) hb5).trans (HC5.out j hj)) (by decide)
              · exact rs_move rfl rfl (h.frame 3 rfl) (by decide)
              · exact rs_move rfl rfl (h.frame 11 rfl) (by decide)
              · exact rs_idx (sz := 4) Try.underlying36 (fun w => by kernel_rfl) rfl rfl (h.dep 4 64 rfl rfl) (h.dep 5 65 rfl rfl) (by omega) (by omega) (by decide)
              · exact rs_loadcells rfl rfl (h.dep 6 66 rfl rfl) (fun j hj => ((B6.out.trans ((G.out.trans (h.below.mono G.out.size)).mono B6.out.size)).cell (p := ⟨b0, off + k * 4 + j, none⟩) hb0).trans (HC.out j hj)) (by decide)
              · exact rs_neqset rfl rfl (h.dep 3 63 rfl rfl) (h.dep 7 67 rfl rfl) rfl (by decide)
            case en =>
              intro vals W hbw hv _
              have v0 : vals 0 = .slice (some ⟨b5, off5, none⟩) L.length c5 := hv 0 (by omega)
              have v1 : vals 1 = .int .i64 (k : Int) := hv 1 (by omega)
              have v2 : vals 2 = .pointer (some ⟨b5, off5 + k * 4, none⟩) := hv 2 (by omega)
              have v3 : vals 3 = setV t := hv 3 (by omega)
              have v4 : vals 4 = .slice (some ⟨b0, off, none⟩) L.length cap3 := hv 4 (by omega)
              have v5 : vals 5 = .int .i64 (k : Int) := hv 5 (by omega)
              have v6 : vals 6 = .pointer (some ⟨b0, off + k * 4, none⟩) := hv 6 (by omega)
              have v7 : vals 7 = setV t := hv 7 (by omega)
              have v8 : vals 8 = .bool false := hv 8 (by omega)
              simp only [List.take_succ_cons, List.take_zero, List.drop_succ_cons, List.drop_zero, List.drop_nil, List.take_nil, fillAll, Nat.zero_add, Nat.reduceAdd]
              rw [v0, v1, v2, v3, v4, v5, v6, v7, v8]
              clear hv v0 v1 v2 v3 v4 v5 v6 v7 v8
              simp only [put_lit, List.setIfInBounds_toArray, List.set_cons_succ, List.set_cons_zero]
              have G2 := Lib.hid (G.out.trans (hbw.mono G.out.size)); clear hbw G
              go_wp2_with fail
              go_roundw
              case rel => exact ⟨k + 1, by omega, by go_num, G2.out⟩
              case measure => simp [intOf]; omega
          · obtain rfl : k = L.length := by omega
            have B7 := Lib.hid (B6.out.trans (G.out.mono B6.out.size))
            have L7 := Lib.hid (L6.out.below G.out)
            clear G B6 L6 R6
            go_upto_region 12 with fail
            refine wp_region_seq 7 [fun v _ => v = .slice (some ⟨g, 0, none⟩) xs.length capg, fun v _ => v = .slice p xs.length cap, fun v _ => v = .bool true, fun v _ => v = .bool true, fun v _ => v = .bool true, fun v _ => v = .bool true, fun v _ => v = .bool true] (fun _ => false) (by kernel_rfl) (by kernel_rfl) ⟨stable_eq _, stable_eq _, stable_eq _, stable_eq _, stable_eq _, stable_eq _, stable_eq _, trivial⟩ (fun _ _ h => by cases h) ?ob ?en
            case ob =>
              refine ⟨?_, ?_, ?_, ?_, ?_, ?_, ?_, trivial⟩ <;> intro A W h
              · exact rs_move rfl rfl (h.frame 9 rfl) (by decide)
              · exact rs_move rfl rfl (h.frame 0 rfl) (by decide)
              · exact rs_calln rfl rfl (enters_of Try.func20 (by kernel_rfl) rfl) (args2 ⟨(h.dep 0 69 rfl rfl), (h.dep 1 70 rfl rfl)⟩) (kit_KeptBytes _ _ xs w.heap.size W (by omega) (L7.out.below h.below) (((H.out.below B7.out).up B7.out.size).below h.below |>.up h.below.size)) (by decide)
              · exact rs_move rfl rfl (h.dep 2 71 rfl rfl) (by decide)
              · exact rs_calln (wanted_g rfl (yielded_of (d := 72) rfl (h.dep 3 72 rfl rfl))) rfl (enters_of Try.func23 (by kernel_rfl) rfl) (args0) (law08_awake W) (by decide)
              · exact rs_pick rfl rfl (h.dep 3 72 rfl rfl) (h.dep 4 73 rfl rfl) (by decide)
              · exact rs_assign rfl rfl (h.dep 5 74 rfl rfl) (by decide)
            case en =>
              intro vals W hbw hv _
              have v0 : vals 0 = .slice (some ⟨g, 0, none⟩) xs.length capg := hv 0 (by omega)
              have v1 : vals 1 = .slice p xs.length cap := hv 1 (by omega)
              have v2 : vals 2 = .bool true := hv 2 (by omega)
              have v3 : vals 3 = .bool true := hv 3 (by omega)
              have v4 : vals 4 = .bool true := hv 4 (by omega)
              have v5 : vals 5 = .bool true := hv 5 (by omega)
              have v6 : vals 6 = .bool true := hv 6 (by omega)
              simp only [List.take_succ_cons, List.take_zero, List.drop_succ_cons, List.drop_zero, List.drop_nil, List.take_nil, fillAll, Nat.zero_add, Nat.reduceAdd]
              rw [v0, v1, v2, v3, v4, v5, v6]
              clear hv v0 v1 v2 v3 v4 v5 v6
              simp only [put_lit, List.setIfInBounds_toArray, List.set_cons_succ, List.set_cons_zero]
              have B8 := Lib.hid (B7.out.trans (hbw.mono B7.out.size)); clear hbw
              go_wp2
              go_ret
              exact ⟨rfl, B8.out⟩

theorem u8_range {x : Int} (h : (Lit.int .u8 x).wf = true) : 0 ≤ x ∧ x ≤ 255 := by
  simp [Lit.wf] at h
  have h1 : IntKind.u8.min = 0 := by decide
  have h2 : IntKind.u8.max = 255 := by decide
  omega
theorem walk_SetMakes (v : Value) (xs : List Int) (lo hi : Int) (v3 : Value) (L : List (Nat → Nat)) (w : World) (h : Rd w w.heap.size v (u8s xs)) (hx : ∀ x ∈ xs, (Lit.int .u8 x).wf = true) (_ : xs.length ≤ 140737488351232)
    (hlo : (Lit.int .u8 lo).wf = true) (hhi : (Lit.int .u8 hi).wf = true) (h3 : RdS w w.heap.size v3 L) (hL : ∀ t ∈ L, SetOk t) :
    Calls Try.prog 6 #[v, .int .u8 lo, .int .u8 hi, v3] w fun e w' => e = .returned (.bool true) ∧ Below w.heap.size w w' := by
  have h1 := u8_range hlo
  have h2 := u8_range hhi
  obtain ⟨lo, rfl⟩ : ∃ n : Nat, lo = n := ⟨lo.toNat, by omega⟩
  obtain ⟨hi, rfl⟩ : ∃ n : Nat, hi = n := ⟨hi.toNat, by omega⟩
  exact law_SetMakes v xs lo hi v3 L w (fun x hx' => u8_range (hx x hx')) (by omega) (by omega) hL h h3

end Go.Proofs.Ytkkilngihkdnaaa
