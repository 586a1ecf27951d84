/-
  The laws of the text, out of the contracts.
-/
import Derived.Test.YtkkilngihkdnaaaTextRef
import Derived.Lib.SlBytesConst
namespace Go.Proofs.Ytkkilngihkdnaaa
open Go.RowKit Go.Shelf
attribute [local go_sem] Oper.semAt_some

set_option maxRecDepth 100000 in
set_option maxHeartbeats 2000000 in
theorem law05_awake (w : World) : Calls Try.prog 10 #[] w fun e w' => e = .returned (.bool true) ∧ Below w.heap.size w w' := by
  have kc := fun (w : World) (C : Array Value) (n c : Nat) => Lib.run_convert_bytes_const (P := Try.prog) w 22 5 C n c Try.underlying22 Try.underlying5
  go_enter Try.func10, Try.ntmps10
  go_wp2_with fail
  have hrd := Rd.lit w (u8s [97, 98, 10, 99]) 5 (4, 5) (by simp [u8s, maxLen])
  have hsz : (w.alloc (.cells (u8s [97, 98, 10, 99]).toArray 5 (4, 5))).heap.size = w.heap.size + 1 := by simp
  refine (text_Lines _ [97, 98, 10, 99] _ (by simp) (hsz ▸ hrd)).mono ?_
  rintro e w1 ⟨r, rfl, hown, bel⟩
  rw [show lines [97, 98, 10, 99] = [0, 3] from by decide +kernel] at hown
  obtain ⟨g, cap, rfl, hg0, hg1, hcap, hm, hcell⟩ := own_open hown (by simp)
  have hc1 : w1.cell? ⟨g, 1, none⟩ = some (.int .i64 3) := hcell 1 (by simp [i64s])
  have hR := Rd.of_own hown
  have hRb := ((hsz ▸ hrd : Rd _ (w.alloc (.cells (u8s [97, 98, 10, 99]).toArray 5 (4, 5))).heap.size _ _).below bel).up bel.size
  have bel0 : Below w.heap.size w w1 := ((Below.refl _ w).alloc (Nat.le_refl _) _).trans (bel.mono (by simp))
  clear hrd hsz hcell hown bel
  have HR := Lib.hid hR; clear hR
  have HRb := Lib.hid hRb; clear hRb
  go_wp2_with fail
  refine ((text_Line _ [0, 3] 2 w1 HR.out).mono (R' := fun e w' => e = .returned (.int .i64 1) ∧ w1 = w') (fun e w' h => ⟨by rw [h.1, show lineN [0, 3] 2 = 1 from by decide +kernel]; rfl, h.2⟩)).mono ?_
  rintro e w' ⟨rfl, rfl⟩
  go_wp2_with fail
  refine ((text_Line _ [0, 3] 3 w1 HR.out).mono (R' := fun e w' => e = .returned (.int .i64 2) ∧ w1 = w') (fun e w' h => ⟨by rw [h.1, show lineN [0, 3] 3 = 2 from by decide +kernel]; rfl, h.2⟩)).mono ?_
  rintro e w' ⟨rfl, rfl⟩
  go_wp2_with fail
  refine ((text_Text _ _ [97, 98, 10, 99] [0, 3] 1 w1 HRb.out HR.out).mono (R' := fun e w' => e = .returned (.string ⟨#[97, 98]⟩) ∧ Below w1.heap.size w1 w') (fun e w' h => ⟨by rw [h.1, show strOfNums (textN [97, 98, 10, 99] [0, 3] 1) = ⟨#[97, 98]⟩ from by decide +kernel], h.2⟩)).mono ?_
  rintro e w2 ⟨rfl, bel2⟩
  have HR2 := Lib.hid ((HR.out.below bel2).up bel2.size)
  have HRb2 := Lib.hid ((HRb.out.below bel2).up bel2.size)
  go_wp2_with fail
  refine ((text_Text _ _ [97, 98, 10, 99] [0, 3] 2 w2 HRb2.out HR2.out).mono (R' := fun e w' => e = .returned (.string ⟨#[99]⟩) ∧ Below w2.heap.size w2 w') (fun e w' h => ⟨by rw [h.1, show strOfNums (textN [97, 98, 10, 99] [0, 3] 2) = ⟨#[99]⟩ from by decide +kernel], h.2⟩)).mono ?_
  rintro e w3 ⟨rfl, bel3⟩
  go_wp2
  go_ret
  exact ⟨rfl, bel0.trans ((bel2.mono bel0.size).trans (bel3.mono (Nat.le_trans bel0.size bel2.size)))⟩

theorem info_u8 : (Try.prog.info? 5).map (fun i => (i.zero, i.size, i.bytes)) = some (some (.int .u8 0), 1, 1) := by kernel_rfl

theorem u8s_one (xs : List Int) : ∀ c ∈ u8s xs, c.oneCell' = true := by
  intro c hc
  obtain ⟨x, _, rfl⟩ := List.mem_map.1 hc
  rfl

set_option maxRecDepth 100000 in
set_option maxHeartbeats 2000000 in
theorem law_TextJoins (va vb : Value) (A B : List Int) (line : Int) (w : World) (hA : Rd w w.heap.size va (u8s A)) (hB : Rd w w.heap.size vb (u8s B)) (hlA : A.length ≤ 140737488355328) (hlB : B.length ≤ 140737488355328) :
    Calls Try.prog 5 #[va, vb, .int .i64 line] w fun e w' => e = .returned (.bool true) ∧ Below w.heap.size w w' := by
  obtain ⟨i0, hi, hz0, hz1, hz2⟩ := info_parts info_u8
  have hva : ∃ p c, va = .slice p A.length c := by rcases hA.u8 with ⟨⟨q, h'⟩, rfl⟩ | ⟨b, off, cap, h', _⟩ <;> exact ⟨_, _, h'⟩
  have hvb : ∃ p c, vb = .slice p B.length c := by rcases hB.u8 with ⟨⟨q, h'⟩, rfl⟩ | ⟨b, off, cap, h', _⟩ <;> exact ⟨_, _, h'⟩
  obtain ⟨pa, ca, rfl⟩ := hva
  obtain ⟨pb, cb, rfl⟩ := hvb
  have HA := Lib.hid hA; clear hA
  have HB := Lib.hid hB; clear hB
  by_cases hbig : 4000 < A.length + B.length
  · have hb1 : (4000 : Int) < (A.length : Int) + (B.length : Int) := by omega
    go_enter Try.func5, Try.ntmps5
    go_wp2_with fail
    refine (law05_awake w).mono ?_
    rintro e w1 ⟨rfl, bel1⟩
    go_wp2
    go_ret
    exact ⟨rfl, bel1⟩
  have hb1 : (A.length : Int) + (B.length : Int) ≤ 4000 := by omega
  go_enter Try.func5, Try.ntmps5
  go_wp2_with fail
  refine (law05_awake w).mono ?_
  rintro e w1 ⟨rfl, bel1⟩
  have ho := own_empty w1 w1.heap.size 5 (Nat.le_refl _)
  have hrA := (HA.out.below bel1).below ((Below.refl w.heap.size w1).alloc bel1.size (.cells #[] 5))
  have hlA' : (u8s A).length = A.length := by simp [u8s]
  have hlB' : (u8s B).length = B.length := by simp [u8s]
  have HlA := Lib.hid hlA'; clear hlA'
  have HlB := Lib.hid hlB'; clear hlB'
  have hsz1 := bel1.size
  go_wp2_with (first
    | (at_builtin; refine wpList_append_rd _ rfl (.tmp 21) (.tmp 22) 22 rfl w1.heap.size 5 i0 (.int .u8 0) 1 Try.underlying22 hi hz0 hz1 hz2 rfl (.slice (some ⟨w1.heap.size, 0, none⟩) 0 0) 0 [] rfl ho _ (u8s A) rfl hrA (u8s_one _) (by rw [HlA.out]; unfold maxLen; omega) (by rw [HlA.out]; omega) (by simp) ?_; intro v1 w2 hown1 hgrow1 _; have hbl2 := (bel1.mono (Nat.le_refl _)).trans (((Below.refl w.heap.size w1).alloc bel1.size (.cells #[] 5)).grown hgrow1 (by simp; omega) (fun k hk => by simp [Value.ownBlock] at hk; omega)); have hsz2 : w1.heap.size + 1 ≤ w2.heap.size := (by have := hgrow1.size; simpa using this))
    | (at_builtin; refine wpList_append_rd _ rfl (.tmp 23) (.tmp 24) 22 rfl w1.heap.size 5 i0 (.int .u8 0) 1 Try.underlying22 hi hz0 hz1 hz2 rfl v1 _ _ rfl (hown1.alloc _) _ (u8s [10]) rfl (Rd.lit w2 (u8s [10]) _ _ (by simp [u8s, maxLen])) (u8s_one _) (by rw [HlA.out]; simp [u8s]; unfold maxLen; omega) (by rw [HlA.out]; simp [u8s]; omega) (by simp; omega) ?_; intro v2 w3 hown2 hgrow2 _; have hbl3 := hbl2.trans (((Below.refl w.heap.size w2).alloc hbl2.size (.cells #[.int .u8 10] 5)).grown hgrow2 (by simp; omega) (fun k hk => by have := (hown1.lt k hk).1; omega)); have hsz3 : w2.heap.size + 1 ≤ w3.heap.size := (by have := hgrow2.size; simpa using this))
    | (at_builtin; refine wpList_append_rd _ rfl (.tmp 25) (.tmp 26) 22 rfl w1.heap.size 5 i0 (.int .u8 0) 1 Try.underlying22 hi hz0 hz1 hz2 rfl v2 _ _ rfl hown2 _ (u8s B) rfl (HB.out.below hbl3) (u8s_one _) (by rw [HlA.out, HlB.out]; simp [u8s]; unfold maxLen; omega) (by rw [HlA.out, HlB.out]; simp [u8s]; omega) (by omega) ?_; intro v3 w4 hown3 hgrow3 _; have hbl4 := hbl3.trans ((Below.refl w.heap.size w3).grown hgrow3 hbl3.size (fun k hk => by have := (hown2.lt k hk).1; omega)); have hR4 := Rd.of_own hown3; clear hrA ho)
    | fail)
  have hRz : Rd w4 w4.heap.size v3 (u8s (A ++ 10 :: B)) := by simpa [u8s] using hR4
  have hsz4 : w3.heap.size ≤ w4.heap.size := hgrow3.size
  clear hR4 hown3 hgrow3 hown2 hgrow2 hgrow1 hown1 hbl2 hbl3
  have HRz := Lib.hid hRz; clear hRz
  have hlZ : (A ++ 10 :: B).length ≤ 4194304 := by simp; omega
  have HlZ := Lib.hid hlZ; clear hlZ
  refine (text_Lines _ A w4 (by omega) ((HA.out.below hbl4).up hbl4.size)).mono ?_
  rintro e w5 ⟨rx, rfl, hox, bx⟩
  obtain ⟨gx, capx, rfl, hgx0, hgx, hcx, hmx, hcellx⟩ := own_open hox (lines_pos A)
  have hRx := Rd.of_own hox
  have HRx := Lib.hid hRx
  have Hcx := Lib.hid hcellx
  clear hcellx hox hRx
  have hbl5 := hbl4.trans (bx.mono hbl4.size)
  go_wp2_with fail
  refine (text_Lines _ B w5 (by omega) ((HB.out.below hbl5).up hbl5.size)).mono ?_
  rintro e w6 ⟨ry, rfl, hoy, by_⟩
  obtain ⟨gy, capy, rfl, hgy0, hgy, hcy, hmy, hcelly⟩ := own_open hoy (lines_pos B)
  have hRy := Rd.of_own hoy
  have HRy := Lib.hid hRy
  have Hcy := Lib.hid hcelly
  clear hcelly hoy hRy
  have hbl6 := hbl5.trans (by_.mono hbl5.size)
  have hRz6 := (HRz.out.below bx).below (by_.mono bx.size)
  have HRz6 := Lib.hid hRz6; clear hRz6
  go_wp2_with fail
  refine (text_Lines _ (A ++ 10 :: B) w6 HlZ.out (HRz6.out.up (Nat.le_trans bx.size by_.size))).mono ?_
  rintro e w7 ⟨rz, rfl, hoz, bz⟩
  obtain ⟨gz, capz, rfl, hgz0, hgz, hcz, hmz, hcellz⟩ := own_open hoz (lines_pos _)
  have hRz' := Rd.of_own hoz
  have hbl7 := hbl6.trans (bz.mono hbl6.size)
  have h56 := by_.size
  have h67 := bz.size
  have h45 := bx.size
  -- what is read in the loop, in the world w7
  have hx7 : ∀ j, (hj : j < (lines A).length) → w7.cell? ⟨gx, j, none⟩ = some (.int .i64 (lines A)[j]) := fun j hj => by
    rw [bz.cell (p := ⟨gx, j, none⟩) (by simp; omega), by_.cell (p := ⟨gx, j, none⟩) hgx, Hcx.out j (by simpa [i64s] using hj)]; simp [i64s]
  have hy7 : ∀ j, (hj : j < (lines B).length) → w7.cell? ⟨gy, j, none⟩ = some (.int .i64 (lines B)[j]) := fun j hj => by
    rw [bz.cell (p := ⟨gy, j, none⟩) hgy, Hcy.out j (by simpa [i64s] using hj)]; simp [i64s]
  have hz7 : ∀ j, (hj : j < (lines (A ++ 10 :: B)).length) → w7.cell? ⟨gz, j, none⟩ = some (.int .i64 (lines (A ++ 10 :: B))[j]) := fun j hj => by
    rw [hcellz j (by simpa [i64s] using hj)]; simp [i64s]
  have rx7 : Rd w7 w7.heap.size (.slice (some ⟨gx, 0, none⟩) (lines A).length capx) (i64s (lines A)) := ((HRx.out.below by_).below (bz.mono h56)).up (by omega)
  have ry7 : Rd w7 w7.heap.size (.slice (some ⟨gy, 0, none⟩) (lines B).length capy) (i64s (lines B)) := (HRy.out.below bz).up (by omega)
  have ra7 : Rd w7 w7.heap.size (.slice pa A.length ca) (u8s A) := (HA.out.below hbl7).up hbl7.size
  have rb7 : Rd w7 w7.heap.size (.slice pb B.length cb) (u8s B) := (HB.out.below hbl7).up hbl7.size
  have rz7 : Rd w7 w7.heap.size v3 (u8s (A ++ 10 :: B)) := (HRz6.out.below (bz.mono (by omega))).up (by omega)
  have hnz := lines_append_length A B
  have hb1' := lines_length_le A
  have hb2' := lines_length_le B
  have FACTS := Lib.hid (And.intro hx7 (And.intro hy7 (And.intro hz7 (And.intro rx7 (And.intro ry7 (And.intro ra7 (And.intro rb7 (And.intro rz7 hRz'))))))))
  have hv3 : ∃ p c, v3 = .slice p (A ++ 10 :: B).length c := by rcases rz7.u8 with ⟨_, h'⟩ | ⟨b, off, cap, h', _⟩; (exact absurd h' (by simp)); exact ⟨_, _, h'⟩
  clear hx7 hy7 hz7 rx7 ry7 ra7 rb7 rz7 hRz' HRx HRy HRz HRz6 Hcx Hcy hcellz hoz bx by_ bz hbl4 hbl5 hbl6
  have Hnz := Lib.hid hnz
  rw [hnz]
  clear hnz
  have Hbl := Lib.hid hbl7; clear hbl7
  have ht : (((lines A).length + (lines B).length : Nat) : Int) = ((lines A).length : Int) + ((lines B).length : Int) := by omega
  have ht2 : ((((lines A).length : Int) + ((lines B).length : Int)) != ((lines A).length : Int) + ((lines B).length : Int)) = false := by simp
  obtain ⟨nx, hnx⟩ : ∃ n, (lines A).length = n := ⟨_, rfl⟩
  obtain ⟨ny, hny⟩ : ∃ n, (lines B).length = n := ⟨_, rfl⟩
  rw [hnx] at ht ht2 hcx hb1' ⊢
  rw [hny] at ht ht2 hcy hb2' ⊢
  have Hnx := Lib.hid hnx; clear hnx
  have Hny := Lib.hid hny; clear hny
  unfold maxLen at hmx hmy hmz
  go_wp2_with fail
  go_loopw [6, 11, 12] (fun _ i _ wr => ∃ k : Nat, k ≤ nx + ny ∧ i = .int .i64 k ∧ Hid (Below w7.heap.size w7 wr)) (fun _ i _ _ => (nx + ny) - (intOf i).toNat)
  case atStart => exact ⟨0, Nat.zero_le _, rfl, Below.refl _ _⟩
  case round =>
    obtain ⟨k, hk, rfl, Hb⟩ := hrel
    by_cases hlt : k < nx + ny
    · by_cases hkx : k < nx
      · obtain ⟨T, hT, f, hf, h0⟩ := fam wr
        have ⟨hx7, hy7, hz7, rx7, ry7, ra7, rb7, rz7, rzz7⟩ := FACTS.out
        have hxk : k < (lines A).length := by rw [Hnx.out]; exact hkx
        have hzk : k < (lines (A ++ 10 :: B)).length := by rw [Hnz.out, Hnx.out, Hny.out]; exact hlt
        obtain ⟨e1, e2⟩ := text_left (A := A) (C := B) hxk
        have ez : (lines (A ++ 10 :: B))[k] = (lines A)[k] := by simpa [hzk, hxk] using e2
        have gx' : ∀ x, (f x).cell? ⟨gx, k, none⟩ = some (.int .i64 (lines A)[k]) := fun x => by
          rw [(hf x).cell (p := ⟨gx, k, none⟩) (by have := Hb.out.size; simp; omega), Hb.out.cell (p := ⟨gx, k, none⟩) (by simp; omega)]; exact hx7 k hxk
        have gz' : ∀ x, (f x).cell? ⟨gz, k, none⟩ = some (.int .i64 (lines A)[k]) := fun x => by
          rw [(hf x).cell (p := ⟨gz, k, none⟩) (by have := Hb.out.size; simp; omega), Hb.out.cell (p := ⟨gz, k, none⟩) hgz, hz7 k hzk, ez]
        have c1 : ∀ x, Calls Try.prog 18 #[v3, .slice (some ⟨gz, 0, none⟩) (nx + ny) capz, .int .i64 ((k : Int) + 1)] (f x) fun e w' => e = .returned (.string (strOfNums (textN A (lines A) ((k : Int) + 1)))) ∧ ∃ y, w' = f y := fun x => by
          have hb := (Hb.out.trans ((hf x).mono Hb.out.size))
          refine fam_call hf h0 x ?_
          rw [← e1]
          refine text_Text _ _ (A ++ 10 :: B) (lines (A ++ 10 :: B)) _ (f x) ((rz7.below hb).up hb.size) ?_
          have := (rzz7.below hb).up hb.size
          rwa [Hnz.out, Hnx.out, Hny.out] at this
        have c2 : ∀ x, Calls Try.prog 18 #[.slice pa A.length ca, .slice (some ⟨gx, 0, none⟩) nx capx, .int .i64 ((k : Int) + 1)] (f x) fun e w' => e = .returned (.string (strOfNums (textN A (lines A) ((k : Int) + 1)))) ∧ ∃ y, w' = f y := fun x => by
          have hb := (Hb.out.trans ((hf x).mono Hb.out.size))
          refine fam_call hf h0 x ?_
          refine text_Text _ _ A (lines A) _ (f x) ((ra7.below hb).up hb.size) ?_
          have := (rx7.below hb).up hb.size
          rwa [Hnx.out] at this
        generalize (lines A)[k] = z0 at gx' gz'
        have hz0' : (z0 != z0) = false := by simp
        clear hx7 hy7 hz7 rx7 ry7 ra7 rb7 rz7 rzz7 e1 e2 ez
        have C1 := Lib.hid c1; clear c1
        have C2 := Lib.hid c2; clear c2
        generalize strOfNums (textN A (lines A) ((k : Int) + 1)) = S at C1 C2
        have H0 := Lib.hid h0; clear h0
        have HF := Lib.hid hf; clear hf
        go_wp2_with fail
        refine wp_region_fam f (by kernel_rfl) (by kernel_rfl) H0.out ?_
        repeat (go_big_quiet_step (first | with_reducible exact C1.out _ | with_reducible exact C2.out _))
        refine wpQuiet_nil ?_
        rintro _ ⟨x, rfl⟩
        have hfx := HF.out x
        generalize f x = w8 at hfx
        clear gx' gz' C1 C2 H0 HF
        have hn1 : decide (nx ≤ k) = false := by simp; omega
        have hn2 : decide ((nx : Int) ≤ (k : Int)) = false := by simp; omega
        have hn3 : decide (0 ≤ (k : Int) - (nx : Int)) = false := by simp; omega
        go_wp2_with fail
        go_quiet (fail)
        go_wp2_with fail
        go_roundw
        case rel => exact ⟨k + 1, by omega, by go_num, (Hb.out.trans (hfx.mono Hb.out.size)).trans ((Below.refl _ w8).trans ⟨rfl, rfl, rfl, Nat.le_refl _, fun _ _ => rfl⟩)⟩
        case measure => simp [intOf]; omega
      · -- a line of the second text
        obtain ⟨j, rfl⟩ : ∃ j, k = nx + j := ⟨k - nx, by omega⟩
        have hn1 : decide (nx + j < nx) = false := by simp
        have hn2 : decide (((nx + j : Nat) : Int) < (nx : Int)) = false := by simp; omega
        have hn3 : decide ((nx : Int) + (j : Int) < (nx : Int)) = false := by simp; omega
        have hn4 : (((nx + j : Nat) : Int)) = (nx : Int) + (j : Int) := by omega
        have hn5 : ((nx : Int) + (j : Int) - (nx : Int)) = (j : Int) := by omega
        go_wp2_with fail
        go_quiet (fail)
        have hw8 : Below wr.heap.size wr (wr.drewN nq) := ⟨rfl, rfl, rfl, Nat.le_refl _, fun _ _ => rfl⟩
        generalize wr.drewN nq = w8 at hw8 ⊢
        have Hb8 := Lib.hid (Hb.out.trans (hw8.mono Hb.out.size)); clear hw8
        obtain ⟨T, hT, f, hf, h0⟩ := fam w8
        have ⟨hx7, hy7, hz7, rx7, ry7, ra7, rb7, rz7, rzz7⟩ := FACTS.out
        have hyj : j < (lines B).length := by rw [Hny.out]; omega
        have hzk : nx + j < (lines (A ++ 10 :: B)).length := by rw [Hnz.out, Hnx.out, Hny.out]; exact hlt
        obtain ⟨e1, e2⟩ := text_right (A := A) (C := B) (i := nx + j) (k := j) (by rw [Hnx.out]) hyj
        have hbd := lines_bounds hyj
        have ez : (lines (A ++ 10 :: B))[nx + j] = (lines B)[j] + (A.length : Int) + 1 := by
          have : (lines (A ++ 10 :: B))[nx + j] = (lines B)[j] + ((A.length : Int) + 1) := by simpa [hzk, hyj] using e2
          omega
        have gy' : ∀ x, (f x).cell? ⟨gy, j, none⟩ = some (.int .i64 (lines B)[j]) := fun x => by
          rw [(hf x).cell (p := ⟨gy, j, none⟩) (by have := Hb8.out.size; simp; omega), Hb8.out.cell (p := ⟨gy, j, none⟩) (by simp; omega)]; exact hy7 j hyj
        have gz' : ∀ x, (f x).cell? ⟨gz, nx + j, none⟩ = some (.int .i64 ((lines B)[j] + (A.length : Int) + 1)) := fun x => by
          rw [(hf x).cell (p := ⟨gz, nx + j, none⟩) (by have := Hb8.out.size; simp; omega), Hb8.out.cell (p := ⟨gz, nx + j, none⟩) hgz, hz7 (nx + j) hzk, ez]
        have c1 : ∀ x, Calls Try.prog 18 #[v3, .slice (some ⟨gz, 0, none⟩) (nx + ny) capz, .int .i64 ((nx : Int) + (j : Int) + 1)] (f x) fun e w' => e = .returned (.string (strOfNums (textN B (lines B) ((j : Int) + 1)))) ∧ ∃ y, w' = f y := fun x => by
          have hb := (Hb8.out.trans ((hf x).mono Hb8.out.size))
          refine fam_call hf h0 x ?_
          rw [← e1, show ((nx + j : Nat) : Int) + 1 = (nx : Int) + (j : Int) + 1 from by omega]
          refine text_Text _ _ (A ++ 10 :: B) (lines (A ++ 10 :: B)) _ (f x) ((rz7.below hb).up hb.size) ?_
          have := (rzz7.below hb).up hb.size
          rwa [Hnz.out, Hnx.out, Hny.out] at this
        have c2 : ∀ x, Calls Try.prog 18 #[.slice pb B.length cb, .slice (some ⟨gy, 0, none⟩) ny capy, .int .i64 ((j : Int) + 1)] (f x) fun e w' => e = .returned (.string (strOfNums (textN B (lines B) ((j : Int) + 1)))) ∧ ∃ y, w' = f y := fun x => by
          have hb := (Hb8.out.trans ((hf x).mono Hb8.out.size))
          refine fam_call hf h0 x ?_
          refine text_Text _ _ B (lines B) _ (f x) ((rb7.below hb).up hb.size) ?_
          have := (ry7.below hb).up hb.size
          rwa [Hny.out] at this
        generalize (lines B)[j] = z0 at gy' gz' hbd
        obtain ⟨hz0, hz1⟩ := hbd
        have hz0' : ((z0 + (A.length : Int) + 1) != (z0 + (A.length : Int) + 1)) = false := by simp
        clear hx7 hy7 hz7 rx7 ry7 ra7 rb7 rz7 rzz7 e1 e2 ez
        have C1 := Lib.hid c1; clear c1
        have C2 := Lib.hid c2; clear c2
        generalize strOfNums (textN B (lines B) ((j : Int) + 1)) = S at C1 C2
        have H0 := Lib.hid h0; clear h0
        have HF := Lib.hid hf; clear hf
        go_wp2_with fail
        refine wp_region_fam f (by kernel_rfl) (by kernel_rfl) H0.out ?_
        repeat (go_big_quiet_step (first | with_reducible exact C1.out _ | with_reducible exact C2.out _))
        refine wpQuiet_nil ?_
        rintro _ ⟨x, rfl⟩
        have hfx := HF.out x
        generalize f x = w9 at hfx
        clear gy' gz' C1 C2 H0 HF
        go_wp2_with fail
        go_roundw
        case rel => exact ⟨nx + j + 1, by omega, by go_num, Hb8.out.trans (hfx.mono Hb8.out.size)⟩
        case measure => simp [intOf]; omega
    · go_wp2
      go_ret
      exact ⟨rfl, Hbl.out.trans (Hb.out.mono Hbl.out.size)⟩

theorem walk_TextJoins (va : Value) (A : List Int) (vb : Value) (B : List Int) (line : Int) (w : World) (hA : Rd w w.heap.size va (u8s A)) (_ : ∀ x ∈ A, (Lit.int .u8 x).wf = true) (hlA : A.length ≤ 140737488351232)
    (hB : Rd w w.heap.size vb (u8s B)) (_ : ∀ x ∈ B, (Lit.int .u8 x).wf = true) (hlB : B.length ≤ 140737488351232) (_ : (Lit.int .i64 line).wf = true) :
    Calls Try.prog 5 #[va, vb, .int .i64 line] w fun e w' => e = .returned (.bool true) ∧ Below w.heap.size w w' :=
  law_TextJoins va vb A B line w hA hB (by omega) (by omega)

end Go.Proofs.Ytkkilngihkdnaaa
