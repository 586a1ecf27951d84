/-
  TextWhole: the walk.
-/
import Derived.Test.YtkkilngihkdnaaaTextLaw
import Derived.Test.YtkkilngihkdnaaaTextWholePlain
import Derived.Test.YtkkilngihkdnaaaRegion2
import Derived.Test.YtkkilngihkdnaaaShelf
import Derived.Deep.CutRange
namespace Go.Proofs.Ytkkilngihkdnaaa
open Go.RowKit Go.Shelf
attribute [local go_sem] Oper.semAt_some
set_option linter.unusedSimpArgs false

theorem info_str : (Try.prog.info? 9).map (fun i => (i.zero, i.size, i.bytes)) = some (some (.string ⟨#[]⟩), 1, 16) := by kernel_rfl
def strV (B : List Int) (i : Nat) : Value := .string (strOfNums (textAt B i))
def strs (B : List Int) (k : Nat) : List Value := (List.range k).map (strV B)
theorem strs_succ (B : List Int) (k : Nat) : strs B (k + 1) = strs B k ++ [strV B k] := by simp [strs, List.range_succ]
theorem strs_len (B : List Int) (k : Nat) : (strs B k).length = k := by simp [strs]

theorem contains_text {B : List Int} (hB : ∀ x ∈ B, 0 ≤ x ∧ x ≤ 255) {i : Nat} (h : i < (lines B).length) (W : World) :
    Calls Try.prog 38 #[.string (strOfNums (textAt B i)), .string ⟨#[10]⟩] W fun e w' => e = .returned (.bool false) ∧ Below W.heap.size W w' := by
  refine (Try.strings_Contains_one (strOfNums (textAt B i)) 10 W).mono fun e w' h' => ⟨?_, h'.2 ▸ Below.refl _ _⟩
  rw [h'.1]
  have : Lib.indexByte (strOfNums (textAt B i)).data.toList 10 = -1 := text_nofeed hB h
  rw [this]
  rfl

theorem join_text {B : List Int} {g c : Nat} {W : World} (hlB : B.length ≤ 4000) (hg : g < W.heap.size) (hc : (lines B).length ≤ c) (hcell : ∀ j, j < (lines B).length → W.cell? ⟨g, j, none⟩ = some (strV B j)) :
    Calls Try.prog 39 #[.slice (some ⟨g, 0, none⟩) (lines B).length c, .string ⟨#[10]⟩] W fun e w' => e = .returned (.string (strOfNums B)) ∧ Below W.heap.size W w' := by
  have hj : Lib.join (((List.range (lines B).length).map (fun i => strOfNums (textAt B i))).map (·.data.toList)) (ByteArray.mk #[10]).data.toList = encB B := by
    have := join_texts B.length B (Nat.le_refl _)
    rw [← this]
    unfold joinB texts
    rw [List.map_map, List.map_map]
    rfl
  have hlen : ((List.range (lines B).length).map (fun i => strOfNums (textAt B i))).length = (lines B).length := by simp
  have hN := lines_length_le B
  have := Try.strings_Join g 0 c ((List.range (lines B).length).map (fun i => strOfNums (textAt B i))) ⟨#[10]⟩ W (fun j x hx => by
      obtain ⟨hj, rfl⟩ := List.getElem?_eq_some_iff.1 hx
      rw [Nat.zero_add, hcell j (by simpa using hj)]
      simp [strV]) hg (by rw [hlen]; omega) (by rw [hlen]; exact hc) (by rw [hj]; simp [encB]; omega)
  rw [hlen] at this
  refine this.mono fun e w' h => ⟨?_, h.2⟩
  rw [h.1, hj]
  rfl

theorem rs_conv {P : Program} {ops : Array Oper} {o : Oper} {a : Act} {w : World} {D : Prop} {x : Operand} {src dst : TypeId} {u : Value} {xs : List Int} {b0 : Nat} (hg : Region.wanted o (yielded ops a.tmps) = true) (hop : o.op = Op.convert src dst x) (hx : a.eval x = u)
    (hr : ∀ W, Rd W b0 u (xs.map (.int .u8)) → (convert src dst u).run P W = .ok (.string (strOfNums xs)) W) (hrd : Rd w b0 u (xs.map (.int .u8))) (hD : ¬ D) :
    RStep P ops o a w (fun v' _ => v' = .string (strOfNums xs) ∧ (D → w.heap.size ≤ blk v')) := by
  refine rs_pure hg ?_ hD
  simp only [execOp, hop, hx]
  simp [hr w hrd]

set_option maxRecDepth 100000 in
set_option maxHeartbeats 8000000 in
theorem law_TextWhole (v : Value) (B : List Int) (at_ : Int) (w : World) (hB : ∀ x ∈ B, 0 ≤ x ∧ x ≤ 255) (hr : Rd w w.heap.size v (u8s B)) (hat : -9223372036854775808 ≤ at_ ∧ at_ ≤ 9223372036854775807) :
    Calls Try.prog 9 #[v, .int .i64 at_] w fun e w' => e = .returned (.bool true) ∧ Below w.heap.size w w' := by
  obtain ⟨i0, hi0, hz0, hz1, hz2⟩ := info_parts info_str
  have hl : B.length ≤ 9223372036854775807 := by simpa [u8s] using hr.len
  obtain ⟨p, cap, rfl⟩ : ∃ p cap, v = .slice p B.length cap := by rcases hr.u8 with ⟨⟨q, h'⟩, rfl⟩ | ⟨b, off, cap, h', _⟩ <;> exact ⟨_, _, h'⟩
  have HR := Lib.hid hr; clear hr
  have HBr := Lib.hid hB; clear hB
  have HAT := Lib.hid hat; clear hat
  by_cases hbig : 4000 < B.length
  · go_enter Try.func9, Try.ntmps9
    go_wp2_with fail
    refine (law05_awake _).mono ?_
    rintro e w1 ⟨rfl, b1⟩
    go_wp2
    go_ret
    exact ⟨rfl, b1⟩
  · go_enter Try.func9, Try.ntmps9
    go_wp2_with fail
    refine (law05_awake _).mono ?_
    rintro e w1 ⟨rfl, b1⟩
    have B1 := Lib.hid b1; clear b1
    go_wp2_with fail
    refine (text_Lines (.slice p B.length cap) B w1 (by omega) ((HR.out.below B1.out).up B1.out.size)).mono ?_
    rintro e w2 ⟨r, rfl, hown, b2⟩
    obtain ⟨gl, capl, rfl, hgl0, hgl1, hcl, hml, hcell⟩ := own_open hown (lines_pos B)
    have B2 := Lib.hid (B1.out.trans (b2.mono B1.out.size)); clear b2
    have RL := Lib.hid (Rd.of_own hown); clear hown
    have hcell2 : ∀ j, (hj : j < (lines B).length) → w2.cell? ⟨gl, j, none⟩ = some (.int .i64 (lines B)[j]) := fun j hj => by rw [hcell j (by simpa [i64s] using hj)]; simp [i64s]
    have HC := Lib.hid hcell2; clear hcell2 hcell
    have hNle := lines_length_le B
    have hNpos := lines_pos B
    obtain ⟨N, hN⟩ : ∃ N, (lines B).length = N := ⟨_, rfl⟩
    rw [hN] at hNle hNpos hcl ⊢
    rw [hN] at RL
    have HN := Lib.hid hN; clear hN
    unfold maxLen at hml
    go_wp2_with fail
    go_loopw [6, 7] (fun all i wr => ∃ k : Nat, k ≤ N ∧ i = .int .i64 k ∧ Hid (wr.ownsRow w2.heap.size 9 1 all k (strs B k) ∧ Below w2.heap.size w2 wr)) (fun _ i _ => N - (intOf i).toNat)
    case atStart => exact ⟨0, by omega, rfl, ⟨rfl, .inl ⟨rfl, rfl⟩⟩, Below.refl _ _⟩
    case round =>
      obtain ⟨k, hk, rfl, G⟩ := hrel
      by_cases hlt : k < N
      · have hkl : k < (lines B).length := by rw [HN.out]; exact hlt
        have ck := HC.out k hkl
        have hbd := lines_bounds hkl
        have hprev : 0 < k → ∃ (y : Int) (m : Nat), w2.cell? ⟨gl, k - 1, none⟩ = some (.int .i64 y) ∧ y < (lines B)[k] ∧ (lines B)[k] = (m : Int) + 1 ∧ ∃ b0 off, p = some ⟨b0, off, none⟩ ∧ b0 < w.heap.size ∧ m < B.length ∧ w.cell? ⟨b0, off + m, none⟩ = some (.int .u8 10) := by
          intro h0
          obtain ⟨i, rfl⟩ : ∃ i, k = i + 1 := ⟨k - 1, by omega⟩
          have c1 := HC.out i (by omega)
          have c2 := lines_rise hkl
          obtain ⟨m, hm1, hm2, hm3⟩ := lines_feed hkl
          refine ⟨(lines B)[i], m, c1, c2, hm1, ?_⟩
          rcases HR.out.u8 with ⟨_, h'⟩ | ⟨b, off, cap', h, h1, _, _, h4⟩
          · subst h'; simp at hm2
          · injection h with h2 _ _
            exact ⟨b, off, h2, h1, hm2, by rw [h4 m hm2, hm3]⟩
        have hzero : ¬ 0 < k → (lines B)[k] = 0 := by
          intro h0
          obtain rfl : k = 0 := by omega
          exact lines_zero B
        have HP := Lib.hid hprev; clear hprev
        have HZ := Lib.hid hzero; clear hzero
        have CK := Lib.hid ck; clear ck
        obtain ⟨hb0, hb1⟩ := hbd
        generalize (lines B)[k] = x at HP HZ CK hb0 hb1
        have hglw : gl < wr.heap.size := by have := G.out.2.size; omega
        go_upto_region 10 with fail
        go_cut [57] from 16 to 70 (fun v wx => v = .bool false ∧ Hid (Below wr.heap.size wr wx))
        case first =>
          by_cases h0 : 0 < k
          · obtain ⟨y, m, cy, hyx, hxm, b0, off, rfl, hb0', hmB, cb⟩ := HP.out h0
            subst hxm
            have CY := Lib.hid cy; clear cy
            have CB := Lib.hid cb; clear cb
            refine wp_region_spec 36 [fun v _ => v = .int .i64 (k : Int), fun v _ => v = .bool false, fun v _ => v = .bool false, fun v _ => v = undef, fun v _ => v = undef, fun v _ => v = undef, fun v _ => v = undef, fun v _ => v = undef, fun v _ => v = Value.bool false, fun v _ => v = Value.bool false, fun v _ => v = .int .i64 (k : Int), fun v _ => v = .bool true, fun v _ => v = .bool true, fun v _ => v = .slice (some ⟨gl, 0, none⟩) N capl, fun v _ => v = .int .i64 (k : Int), fun v _ => v = .pointer (some ⟨gl, k, none⟩), fun v _ => v = .int .i64 ((m : Int) + 1), fun v _ => v = .slice (some ⟨gl, 0, none⟩) N capl, fun v _ => v = .int .i64 (k : Int), fun v _ => v = .int .i64 ((k - 1 : Nat) : Int), fun v _ => v = .pointer (some ⟨gl, k - 1, none⟩), fun v _ => v = .int .i64 y, fun v _ => v = .bool false, fun v _ => v = .bool false, fun v _ => v = .slice (some ⟨b0, off, none⟩) B.length cap, fun v _ => v = .slice (some ⟨gl, 0, none⟩) N capl, fun v _ => v = .int .i64 (k : Int), fun v _ => v = .pointer (some ⟨gl, k, none⟩), fun v _ => v = .int .i64 ((m : Int) + 1), fun v _ => v = .int .i64 (m : Int), fun v _ => v = .pointer (some ⟨b0, off + m, none⟩), fun v _ => v = .int .u8 10, fun v _ => v = .bool false, fun v _ => v = .bool false, fun v _ => v = .bool false, fun v _ => v = .bool false] (fun _ => false) (by kernel_rfl) (by kernel_rfl) (by kernel_rfl) ⟨stable_eq _, stable_eq _, stable_eq _, stable_eq _, stable_eq _, stable_eq _, stable_eq _, stable_eq _, stable_eq _, stable_eq _, stable_eq _, stable_eq _, stable_eq _, stable_eq _, stable_eq _, stable_eq _, stable_eq _, stable_eq _, stable_eq _, stable_eq _, stable_eq _, stable_eq _, stable_eq _, stable_eq _, stable_eq _, stable_eq _, stable_eq _, stable_eq _, stable_eq _, stable_eq _, stable_eq _, stable_eq _, stable_eq _, stable_eq _, stable_eq _, stable_eq _, trivial⟩ (fun _ _ h => by cases h) ?ob ?en
            case ob =>
              refine ⟨?_, ?_, ?_, ?_, ?_, ?_, ?_, ?_, ?_, ?_, ?_, ?_, ?_, ?_, ?_, ?_, ?_, ?_, ?_, ?_, ?_, ?_, ?_, ?_, ?_, ?_, ?_, ?_, ?_, ?_, ?_, ?_, ?_, ?_, ?_, ?_, trivial⟩ <;> intro A W h
              · exact rs_move rfl rfl (h.frame 7 rfl) (by decide)
              · (have e22 : A.eval (.tmp 22) = .int .i64 (k : Int) := h.dep 0 22 rfl rfl; refine rs_pure rfl ?_ (by decide); simp only [execOp, e22]; (simp [go_sem] <;> first | done | omega | (rw [IntKind.wrap_i64]; omega) | (rw [IntKind.wrap_u8]; omega) | (rw [IntKind.wrap_u64]; omega)))
              · exact rs_move rfl rfl (h.dep 1 23 rfl rfl) (by decide)
              · exact rs_skip (not_wanted_g rfl (yielded_of (d := 24) rfl (h.dep 2 24 rfl rfl)) (by decide)) ⟨rfl, fun h => by cases h⟩
              · exact rs_skip (not_wanted_g rfl (yielded_of (d := 24) rfl (h.dep 2 24 rfl rfl)) (by decide)) ⟨rfl, fun h => by cases h⟩
              · exact rs_skip (not_wanted_g rfl (yielded_of (d := 24) rfl (h.dep 2 24 rfl rfl)) (by decide)) ⟨rfl, fun h => by cases h⟩
              · exact rs_skip (not_wanted_g rfl (yielded_of (d := 24) rfl (h.dep 2 24 rfl rfl)) (by decide)) ⟨rfl, fun h => by cases h⟩
              · exact rs_skip (not_wanted_g rfl (yielded_of (d := 24) rfl (h.dep 2 24 rfl rfl)) (by decide)) ⟨rfl, fun h => by cases h⟩
              · exact rs_pick rfl rfl (h.dep 2 24 rfl rfl) (rfl) (by decide)
              · exact rs_move rfl rfl (h.dep 8 30 rfl rfl) (by decide)
              · exact rs_move (wanted_g rfl (yielded_of (d := 31) rfl (h.dep 9 31 rfl rfl))) rfl (h.frame 7 rfl) (by decide)
              · (have e32 : A.eval (.tmp 32) = .int .i64 (k : Int) := h.dep 10 32 rfl rfl; refine rs_pure (wanted_g rfl (yielded_of (d := 31) rfl (h.dep 9 31 rfl rfl))) ?_ (by decide); simp only [execOp, e32]; (simp [go_sem] <;> first | done | omega | (rw [IntKind.wrap_i64]; omega) | (rw [IntKind.wrap_u8]; omega) | (rw [IntKind.wrap_u64]; omega)))
              · exact rs_move (wanted_g rfl (yielded_of (d := 31) rfl (h.dep 9 31 rfl rfl))) rfl (h.dep 11 33 rfl rfl) (by decide)
              · exact rs_move (wanted_g rfl (yielded_of (d := 34) rfl (h.dep 12 34 rfl rfl))) rfl (h.frame 5 rfl) (by decide)
              · exact rs_move (wanted_g rfl (yielded_of (d := 34) rfl (h.dep 12 34 rfl rfl))) rfl (h.frame 7 rfl) (by decide)
              · exact rs_idx (sz := 1) Try.underlying23 (fun w => by kernel_rfl) (wanted_g rfl (yielded_of (d := 34) rfl (h.dep 12 34 rfl rfl))) rfl (h.dep 13 35 rfl rfl) (h.dep 14 36 rfl rfl) (by omega) (by omega) (by decide)
              · (have e37 : A.eval (.tmp 37) = .pointer (some ⟨gl, k, none⟩) := h.dep 15 37 rfl rfl; refine rs_pure (wanted_g rfl (yielded_of (d := 34) rfl (h.dep 12 34 rfl rfl))) ?_ (by decide); simp only [execOp, e37]; (have q := ((G.out.2.trans (h.below.mono G.out.2.size)).cell (p := ⟨gl, k, none⟩) hgl1).trans CK.out; simp [go_sem, q]))
              · exact rs_move (wanted_g rfl (yielded_of (d := 34) rfl (h.dep 12 34 rfl rfl))) rfl (h.frame 5 rfl) (by decide)
              · exact rs_move (wanted_g rfl (yielded_of (d := 34) rfl (h.dep 12 34 rfl rfl))) rfl (h.frame 7 rfl) (by decide)
              · (have e40 : A.eval (.tmp 40) = .int .i64 (k : Int) := h.dep 18 40 rfl rfl; refine rs_pure (wanted_g rfl (yielded_of (d := 34) rfl (h.dep 12 34 rfl rfl))) ?_ (by decide); simp only [execOp, e40]; (simp [go_sem] <;> first | done | omega | (rw [IntKind.wrap_i64]; omega) | (rw [IntKind.wrap_u8]; omega) | (rw [IntKind.wrap_u64]; omega)))
              · exact rs_idx (sz := 1) Try.underlying23 (fun w => by kernel_rfl) (wanted_g rfl (yielded_of (d := 34) rfl (h.dep 12 34 rfl rfl))) rfl (h.dep 17 39 rfl rfl) (h.dep 19 41 rfl rfl) (by omega) (by omega) (by decide)
              · (have e42 : A.eval (.tmp 42) = .pointer (some ⟨gl, k - 1, none⟩) := h.dep 20 42 rfl rfl; refine rs_pure (wanted_g rfl (yielded_of (d := 34) rfl (h.dep 12 34 rfl rfl))) ?_ (by decide); simp only [execOp, e42]; (have q := ((G.out.2.trans (h.below.mono G.out.2.size)).cell (p := ⟨gl, k - 1, none⟩) hgl1).trans CY.out; simp [go_sem, q]))
              · (have e38 : A.eval (.tmp 38) = .int .i64 ((m : Int) + 1) := h.dep 16 38 rfl rfl; have e43 : A.eval (.tmp 43) = .int .i64 y := h.dep 21 43 rfl rfl; refine rs_pure (wanted_g rfl (yielded_of (d := 34) rfl (h.dep 12 34 rfl rfl))) ?_ (by decide); simp only [execOp, e38, e43]; (simp [go_sem] <;> first | done | omega | (rw [IntKind.wrap_i64]; omega) | (rw [IntKind.wrap_u8]; omega) | (rw [IntKind.wrap_u64]; omega)))
              · exact rs_move (wanted_g rfl (yielded_of (d := 34) rfl (h.dep 12 34 rfl rfl))) rfl (h.dep 22 44 rfl rfl) (by decide)
              · exact rs_move (wanted_g rfl (yielded_of (d := 45) rfl (h.dep 23 45 rfl rfl))) rfl (h.frame 0 rfl) (by decide)
              · exact rs_move (wanted_g rfl (yielded_of (d := 45) rfl (h.dep 23 45 rfl rfl))) rfl (h.frame 5 rfl) (by decide)
              · exact rs_move (wanted_g rfl (yielded_of (d := 45) rfl (h.dep 23 45 rfl rfl))) rfl (h.frame 7 rfl) (by decide)
              · exact rs_idx (sz := 1) Try.underlying23 (fun w => by kernel_rfl) (wanted_g rfl (yielded_of (d := 45) rfl (h.dep 23 45 rfl rfl))) rfl (h.dep 25 47 rfl rfl) (h.dep 26 48 rfl rfl) (by omega) (by omega) (by decide)
              · (have e49 : A.eval (.tmp 49) = .pointer (some ⟨gl, k, none⟩) := h.dep 27 49 rfl rfl; refine rs_pure (wanted_g rfl (yielded_of (d := 45) rfl (h.dep 23 45 rfl rfl))) ?_ (by decide); simp only [execOp, e49]; (have q := ((G.out.2.trans (h.below.mono G.out.2.size)).cell (p := ⟨gl, k, none⟩) hgl1).trans CK.out; simp [go_sem, q]))
              · (have e50 : A.eval (.tmp 50) = .int .i64 ((m : Int) + 1) := h.dep 28 50 rfl rfl; refine rs_pure (wanted_g rfl (yielded_of (d := 45) rfl (h.dep 23 45 rfl rfl))) ?_ (by decide); simp only [execOp, e50]; (simp [go_sem] <;> first | done | omega | (rw [IntKind.wrap_i64]; omega) | (rw [IntKind.wrap_u8]; omega) | (rw [IntKind.wrap_u64]; omega)))
              · exact rs_idx (sz := 1) Try.underlying22 (fun w => by kernel_rfl) (wanted_g rfl (yielded_of (d := 45) rfl (h.dep 23 45 rfl rfl))) rfl (h.dep 24 46 rfl rfl) (h.dep 29 51 rfl rfl) (by omega) (by omega) (by decide)
              · (have e52 : A.eval (.tmp 52) = .pointer (some ⟨b0, off + m, none⟩) := h.dep 30 52 rfl rfl; refine rs_pure (wanted_g rfl (yielded_of (d := 45) rfl (h.dep 23 45 rfl rfl))) ?_ (by decide); simp only [execOp, e52]; (have q := ((B2.out.trans ((G.out.2.trans (h.below.mono G.out.2.size)).mono B2.out.size)).cell (p := ⟨b0, off + m, none⟩) hb0').trans CB.out; simp [go_sem, q]))
              · (have e53 : A.eval (.tmp 53) = .int .u8 10 := h.dep 31 53 rfl rfl; refine rs_pure (wanted_g rfl (yielded_of (d := 45) rfl (h.dep 23 45 rfl rfl))) ?_ (by decide); simp only [execOp, e53]; (simp [go_sem] <;> first | done | omega | (rw [IntKind.wrap_i64]; omega) | (rw [IntKind.wrap_u8]; omega) | (rw [IntKind.wrap_u64]; omega)))
              · exact rs_pick (wanted_g rfl (yielded_of (d := 34) rfl (h.dep 12 34 rfl rfl))) rfl (h.dep 23 45 rfl rfl) (h.dep 32 54 rfl rfl) (by decide)
              · exact rs_pick (wanted_g rfl (yielded_of (d := 31) rfl (h.dep 9 31 rfl rfl))) rfl (h.dep 12 34 rfl rfl) (h.dep 33 55 rfl rfl) (by decide)
              · exact rs_pick rfl rfl (h.dep 9 31 rfl rfl) (h.dep 34 56 rfl rfl) (by decide)
            case en =>
              intro vals W hbw hv _
              have v0 : vals 0 = .int .i64 (k : Int) := hv 0 (by omega)
              have v1 : vals 1 = .bool false := hv 1 (by omega)
              have v2 : vals 2 = .bool false := hv 2 (by omega)
              have v3 : vals 3 = undef := hv 3 (by omega)
              have v4 : vals 4 = undef := hv 4 (by omega)
              have v5 : vals 5 = undef := hv 5 (by omega)
              have v6 : vals 6 = undef := hv 6 (by omega)
              have v7 : vals 7 = undef := hv 7 (by omega)
              have v8 : vals 8 = Value.bool false := hv 8 (by omega)
              have v9 : vals 9 = Value.bool false := hv 9 (by omega)
              have v10 : vals 10 = .int .i64 (k : Int) := hv 10 (by omega)
              have v11 : vals 11 = .bool true := hv 11 (by omega)
              have v12 : vals 12 = .bool true := hv 12 (by omega)
              have v13 : vals 13 = .slice (some ⟨gl, 0, none⟩) N capl := hv 13 (by omega)
              have v14 : vals 14 = .int .i64 (k : Int) := hv 14 (by omega)
              have v15 : vals 15 = .pointer (some ⟨gl, k, none⟩) := hv 15 (by omega)
              have v16 : vals 16 = .int .i64 ((m : Int) + 1) := hv 16 (by omega)
              have v17 : vals 17 = .slice (some ⟨gl, 0, none⟩) N capl := hv 17 (by omega)
              have v18 : vals 18 = .int .i64 (k : Int) := hv 18 (by omega)
              have v19 : vals 19 = .int .i64 ((k - 1 : Nat) : Int) := hv 19 (by omega)
              have v20 : vals 20 = .pointer (some ⟨gl, k - 1, none⟩) := hv 20 (by omega)
              have v21 : vals 21 = .int .i64 y := hv 21 (by omega)
              have v22 : vals 22 = .bool false := hv 22 (by omega)
              have v23 : vals 23 = .bool false := hv 23 (by omega)
              have v24 : vals 24 = .slice (some ⟨b0, off, none⟩) B.length cap := hv 24 (by omega)
              have v25 : vals 25 = .slice (some ⟨gl, 0, none⟩) N capl := hv 25 (by omega)
              have v26 : vals 26 = .int .i64 (k : Int) := hv 26 (by omega)
              have v27 : vals 27 = .pointer (some ⟨gl, k, none⟩) := hv 27 (by omega)
              have v28 : vals 28 = .int .i64 ((m : Int) + 1) := hv 28 (by omega)
              have v29 : vals 29 = .int .i64 (m : Int) := hv 29 (by omega)
              have v30 : vals 30 = .pointer (some ⟨b0, off + m, none⟩) := hv 30 (by omega)
              have v31 : vals 31 = .int .u8 10 := hv 31 (by omega)
              have v32 : vals 32 = .bool false := hv 32 (by omega)
              have v33 : vals 33 = .bool false := hv 33 (by omega)
              have v34 : vals 34 = .bool false := hv 34 (by omega)
              have v35 : vals 35 = .bool false := hv 35 (by omega)
              simp only [List.take_succ_cons, List.take_zero, List.drop_succ_cons, List.drop_zero, List.drop_nil, List.take_nil, fillAll, Nat.zero_add, Nat.reduceAdd]
              rw [v0, v1, v2, v3, v4, v5, v6, v7, v8, v9, v10, v11, v12, v13, v14, v15, v16, v17, v18, v19, v20, v21, v22, v23, v24, v25, v26, v27, v28, v29, v30, v31, v32, v33, v34, v35]
              clear hv v0 v1 v2 v3 v4 v5 v6 v7 v8 v9 v10 v11 v12 v13 v14 v15 v16 v17 v18 v19 v20 v21 v22 v23 v24 v25 v26 v27 v28 v29 v30 v31 v32 v33 v34 v35
              simp only [put_lit, List.setIfInBounds_toArray, List.set_cons_succ, List.set_cons_zero]
              go_wp2_with fail
              go_meet
              case rel => exact ⟨rfl, hbw⟩
          · have hx0 := HZ.out h0
            subst hx0
            refine wp_region_spec 36 [fun v _ => v = .int .i64 (k : Int), fun v _ => v = .bool true, fun v _ => v = .bool true, fun v _ => v = .slice (some ⟨gl, 0, none⟩) N capl, fun v _ => v = .int .i64 (k : Int), fun v _ => v = .pointer (some ⟨gl, k, none⟩), fun v _ => v = .int .i64 0, fun v _ => v = .bool false, fun v _ => v = .bool false, fun v _ => v = .bool false, fun v _ => v = .int .i64 (k : Int), fun v _ => v = .bool false, fun v _ => v = .bool false, fun v _ => v = undef, fun v _ => v = undef, fun v _ => v = undef, fun v _ => v = undef, fun v _ => v = undef, fun v _ => v = undef, fun v _ => v = undef, fun v _ => v = undef, fun v _ => v = undef, fun v _ => v = undef, fun v _ => v = undef, fun v _ => v = undef, fun v _ => v = undef, fun v _ => v = undef, fun v _ => v = undef, fun v _ => v = undef, fun v _ => v = undef, fun v _ => v = undef, fun v _ => v = undef, fun v _ => v = undef, fun v _ => v = undef, fun v _ => v = Value.bool false, fun v _ => v = Value.bool false] (fun _ => false) (by kernel_rfl) (by kernel_rfl) (by kernel_rfl) ⟨stable_eq _, stable_eq _, stable_eq _, stable_eq _, stable_eq _, stable_eq _, stable_eq _, stable_eq _, stable_eq _, stable_eq _, stable_eq _, stable_eq _, stable_eq _, stable_eq _, stable_eq _, stable_eq _, stable_eq _, stable_eq _, stable_eq _, stable_eq _, stable_eq _, stable_eq _, stable_eq _, stable_eq _, stable_eq _, stable_eq _, stable_eq _, stable_eq _, stable_eq _, stable_eq _, stable_eq _, stable_eq _, stable_eq _, stable_eq _, stable_eq _, stable_eq _, trivial⟩ (fun _ _ h => by cases h) ?ob ?en
            case ob =>
              refine ⟨?_, ?_, ?_, ?_, ?_, ?_, ?_, ?_, ?_, ?_, ?_, ?_, ?_, ?_, ?_, ?_, ?_, ?_, ?_, ?_, ?_, ?_, ?_, ?_, ?_, ?_, ?_, ?_, ?_, ?_, ?_, ?_, ?_, ?_, ?_, ?_, trivial⟩ <;> intro A W h
              · exact rs_move rfl rfl (h.frame 7 rfl) (by decide)
              · (have e22 : A.eval (.tmp 22) = .int .i64 (k : Int) := h.dep 0 22 rfl rfl; refine rs_pure rfl ?_ (by decide); simp only [execOp, e22]; (simp [go_sem] <;> first | done | omega | (rw [IntKind.wrap_i64]; omega) | (rw [IntKind.wrap_u8]; omega) | (rw [IntKind.wrap_u64]; omega)))
              · exact rs_move rfl rfl (h.dep 1 23 rfl rfl) (by decide)
              · exact rs_move (wanted_g rfl (yielded_of (d := 24) rfl (h.dep 2 24 rfl rfl))) rfl (h.frame 5 rfl) (by decide)
              · exact rs_move (wanted_g rfl (yielded_of (d := 24) rfl (h.dep 2 24 rfl rfl))) rfl (h.frame 7 rfl) (by decide)
              · exact rs_idx (sz := 1) Try.underlying23 (fun w => by kernel_rfl) (wanted_g rfl (yielded_of (d := 24) rfl (h.dep 2 24 rfl rfl))) rfl (h.dep 3 25 rfl rfl) (h.dep 4 26 rfl rfl) (by omega) (by omega) (by decide)
              · (have e27 : A.eval (.tmp 27) = .pointer (some ⟨gl, k, none⟩) := h.dep 5 27 rfl rfl; refine rs_pure (wanted_g rfl (yielded_of (d := 24) rfl (h.dep 2 24 rfl rfl))) ?_ (by decide); simp only [execOp, e27]; (have q := ((G.out.2.trans (h.below.mono G.out.2.size)).cell (p := ⟨gl, k, none⟩) hgl1).trans CK.out; simp [go_sem, q]))
              · (have e28 : A.eval (.tmp 28) = .int .i64 0 := h.dep 6 28 rfl rfl; refine rs_pure (wanted_g rfl (yielded_of (d := 24) rfl (h.dep 2 24 rfl rfl))) ?_ (by decide); simp only [execOp, e28]; (simp [go_sem] <;> first | done | omega | (rw [IntKind.wrap_i64]; omega) | (rw [IntKind.wrap_u8]; omega) | (rw [IntKind.wrap_u64]; omega)))
              · exact rs_pick rfl rfl (h.dep 2 24 rfl rfl) (h.dep 7 29 rfl rfl) (by decide)
              · exact rs_move rfl rfl (h.dep 8 30 rfl rfl) (by decide)
              · exact rs_move (wanted_g rfl (yielded_of (d := 31) rfl (h.dep 9 31 rfl rfl))) rfl (h.frame 7 rfl) (by decide)
              · (have e32 : A.eval (.tmp 32) = .int .i64 (k : Int) := h.dep 10 32 rfl rfl; refine rs_pure (wanted_g rfl (yielded_of (d := 31) rfl (h.dep 9 31 rfl rfl))) ?_ (by decide); simp only [execOp, e32]; (simp [go_sem] <;> first | done | omega | (rw [IntKind.wrap_i64]; omega) | (rw [IntKind.wrap_u8]; omega) | (rw [IntKind.wrap_u64]; omega)))
              · exact rs_move (wanted_g rfl (yielded_of (d := 31) rfl (h.dep 9 31 rfl rfl))) rfl (h.dep 11 33 rfl rfl) (by decide)
              · exact rs_skip (not_wanted_g rfl (yielded_of (d := 34) rfl (h.dep 12 34 rfl rfl)) (by decide)) ⟨rfl, fun h => by cases h⟩
              · exact rs_skip (not_wanted_g rfl (yielded_of (d := 34) rfl (h.dep 12 34 rfl rfl)) (by decide)) ⟨rfl, fun h => by cases h⟩
              · exact rs_skip (not_wanted_g rfl (yielded_of (d := 34) rfl (h.dep 12 34 rfl rfl)) (by decide)) ⟨rfl, fun h => by cases h⟩
              · exact rs_skip (not_wanted_g rfl (yielded_of (d := 34) rfl (h.dep 12 34 rfl rfl)) (by decide)) ⟨rfl, fun h => by cases h⟩
              · exact rs_skip (not_wanted_g rfl (yielded_of (d := 34) rfl (h.dep 12 34 rfl rfl)) (by decide)) ⟨rfl, fun h => by cases h⟩
              · exact rs_skip (not_wanted_g rfl (yielded_of (d := 34) rfl (h.dep 12 34 rfl rfl)) (by decide)) ⟨rfl, fun h => by cases h⟩
              · exact rs_skip (not_wanted_g rfl (yielded_of (d := 34) rfl (h.dep 12 34 rfl rfl)) (by decide)) ⟨rfl, fun h => by cases h⟩
              · exact rs_skip (not_wanted_g rfl (yielded_of (d := 34) rfl (h.dep 12 34 rfl rfl)) (by decide)) ⟨rfl, fun h => by cases h⟩
              · exact rs_skip (not_wanted_g rfl (yielded_of (d := 34) rfl (h.dep 12 34 rfl rfl)) (by decide)) ⟨rfl, fun h => by cases h⟩
              · exact rs_skip (not_wanted_g rfl (yielded_of (d := 34) rfl (h.dep 12 34 rfl rfl)) (by decide)) ⟨rfl, fun h => by cases h⟩
              · exact rs_skip (not_wanted_g rfl (yielded_of (d := 34) rfl (h.dep 12 34 rfl rfl)) (by decide)) ⟨rfl, fun h => by cases h⟩
              · exact rs_skip (not_wanted_u rfl (yielded_undef (d := 45) rfl (h.dep 23 45 rfl rfl))) ⟨rfl, fun h => by cases h⟩
              · exact rs_skip (not_wanted_u rfl (yielded_undef (d := 45) rfl (h.dep 23 45 rfl rfl))) ⟨rfl, fun h => by cases h⟩
              · exact rs_skip (not_wanted_u rfl (yielded_undef (d := 45) rfl (h.dep 23 45 rfl rfl))) ⟨rfl, fun h => by cases h⟩
              · exact rs_skip (not_wanted_u rfl (yielded_undef (d := 45) rfl (h.dep 23 45 rfl rfl))) ⟨rfl, fun h => by cases h⟩
              · exact rs_skip (not_wanted_u rfl (yielded_undef (d := 45) rfl (h.dep 23 45 rfl rfl))) ⟨rfl, fun h => by cases h⟩
              · exact rs_skip (not_wanted_u rfl (yielded_undef (d := 45) rfl (h.dep 23 45 rfl rfl))) ⟨rfl, fun h => by cases h⟩
              · exact rs_skip (not_wanted_u rfl (yielded_undef (d := 45) rfl (h.dep 23 45 rfl rfl))) ⟨rfl, fun h => by cases h⟩
              · exact rs_skip (not_wanted_u rfl (yielded_undef (d := 45) rfl (h.dep 23 45 rfl rfl))) ⟨rfl, fun h => by cases h⟩
              · exact rs_skip (not_wanted_u rfl (yielded_undef (d := 45) rfl (h.dep 23 45 rfl rfl))) ⟨rfl, fun h => by cases h⟩
              · exact rs_skip (not_wanted_g rfl (yielded_of (d := 34) rfl (h.dep 12 34 rfl rfl)) (by decide)) ⟨rfl, fun h => by cases h⟩
              · exact rs_pick (wanted_g rfl (yielded_of (d := 31) rfl (h.dep 9 31 rfl rfl))) rfl (h.dep 12 34 rfl rfl) (rfl) (by decide)
              · exact rs_pick rfl rfl (h.dep 9 31 rfl rfl) (h.dep 34 56 rfl rfl) (by decide)
            case en =>
              intro vals W hbw hv _
              have v0 : vals 0 = .int .i64 (k : Int) := hv 0 (by omega)
              have v1 : vals 1 = .bool true := hv 1 (by omega)
              have v2 : vals 2 = .bool true := hv 2 (by omega)
              have v3 : vals 3 = .slice (some ⟨gl, 0, none⟩) N capl := hv 3 (by omega)
              have v4 : vals 4 = .int .i64 (k : Int) := hv 4 (by omega)
              have v5 : vals 5 = .pointer (some ⟨gl, k, none⟩) := hv 5 (by omega)
              have v6 : vals 6 = .int .i64 0 := hv 6 (by omega)
              have v7 : vals 7 = .bool false := hv 7 (by omega)
              have v8 : vals 8 = .bool false := hv 8 (by omega)
              have v9 : vals 9 = .bool false := hv 9 (by omega)
              have v10 : vals 10 = .int .i64 (k : Int) := hv 10 (by omega)
              have v11 : vals 11 = .bool false := hv 11 (by omega)
              have v12 : vals 12 = .bool false := hv 12 (by omega)
              have v13 : vals 13 = undef := hv 13 (by omega)
              have v14 : vals 14 = undef := hv 14 (by omega)
              have v15 : vals 15 = undef := hv 15 (by omega)
              have v16 : vals 16 = undef := hv 16 (by omega)
              have v17 : vals 17 = undef := hv 17 (by omega)
              have v18 : vals 18 = undef := hv 18 (by omega)
              have v19 : vals 19 = undef := hv 19 (by omega)
              have v20 : vals 20 = undef := hv 20 (by omega)
              have v21 : vals 21 = undef := hv 21 (by omega)
              have v22 : vals 22 = undef := hv 22 (by omega)
              have v23 : vals 23 = undef := hv 23 (by omega)
              have v24 : vals 24 = undef := hv 24 (by omega)
              have v25 : vals 25 = undef := hv 25 (by omega)
              have v26 : vals 26 = undef := hv 26 (by omega)
              have v27 : vals 27 = undef := hv 27 (by omega)
              have v28 : vals 28 = undef := hv 28 (by omega)
              have v29 : vals 29 = undef := hv 29 (by omega)
              have v30 : vals 30 = undef := hv 30 (by omega)
              have v31 : vals 31 = undef := hv 31 (by omega)
              have v32 : vals 32 = undef := hv 32 (by omega)
              have v33 : vals 33 = undef := hv 33 (by omega)
              have v34 : vals 34 = Value.bool false := hv 34 (by omega)
              have v35 : vals 35 = Value.bool false := hv 35 (by omega)
              simp only [List.take_succ_cons, List.take_zero, List.drop_succ_cons, List.drop_zero, List.drop_nil, List.take_nil, fillAll, Nat.zero_add, Nat.reduceAdd]
              rw [v0, v1, v2, v3, v4, v5, v6, v7, v8, v9, v10, v11, v12, v13, v14, v15, v16, v17, v18, v19, v20, v21, v22, v23, v24, v25, v26, v27, v28, v29, v30, v31, v32, v33, v34, v35]
              clear hv v0 v1 v2 v3 v4 v5 v6 v7 v8 v9 v10 v11 v12 v13 v14 v15 v16 v17 v18 v19 v20 v21 v22 v23 v24 v25 v26 v27 v28 v29 v30 v31 v32 v33 v34 v35
              simp only [put_lit, List.setIfInBounds_toArray, List.set_cons_succ, List.set_cons_zero]
              go_wp2_with fail
              go_meet
              case rel => exact ⟨rfl, hbw⟩
        case rest =>
          obtain ⟨rfl, hbw'⟩ := hcut
          have own3 := own_below G.out.1 hbw'.out
          have b3 := G.out.2.trans (hbw'.out.mono G.out.2.size)
          have O3 := Lib.hid own3; clear own3
          have B3 := Lib.hid b3; clear b3
          clear hbw' G HP HZ CK
          go_upto_region 12 with fail
          refine wp_region_seq 7 [fun v _ => v = u6, fun v _ => v = .slice p B.length cap, fun v _ => v = .slice (some ⟨gl, 0, none⟩) N capl, fun v _ => v = .int .i64 (k : Int), fun v _ => v = .int .i64 ((k : Int) + 1), fun v _ => v = .string (strOfNums (textAt B k)), OneV 9 (strV B k)] (fun _ => false) (by kernel_rfl) (by kernel_rfl) ⟨stable_eq _, stable_eq _, stable_eq _, stable_eq _, stable_eq _, stable_eq _, stable_oneV _ _, trivial⟩ (fun _ _ h => by cases h) ?ob ?en
          case ob =>
            refine ⟨?_, ?_, ?_, ?_, ?_, ?_, ?_, trivial⟩ <;> intro A W h
            · exact rs_move rfl rfl (h.frame 6 rfl) (by decide)
            · exact rs_move rfl rfl (h.frame 0 rfl) (by decide)
            · exact rs_move rfl rfl (h.frame 5 rfl) (by decide)
            · exact rs_move rfl rfl (h.frame 7 rfl) (by decide)
            · (have e61 : A.eval (.tmp 61) = .int .i64 (k : Int) := h.dep 3 61 rfl rfl; refine rs_pure rfl ?_ (by decide); simp only [execOp, e61]; (simp [go_sem] <;> first | done | omega | (rw [IntKind.wrap_i64]; omega) | (rw [IntKind.wrap_u8]; omega) | (rw [IntKind.wrap_u64]; omega)))
            · exact rs_calln rfl rfl (enters_of Try.func18 (by kernel_rfl) rfl) (args3 ⟨(h.dep 1 59 rfl rfl), (h.dep 2 60 rfl rfl), (h.dep 4 62 rfl rfl)⟩) (text_Text _ _ B (lines B) ((k : Int) + 1) W (((HR.out.below (B2.out.trans ((B3.out.trans (h.below.mono B3.out.size)).mono B2.out.size))).up (B2.out.trans ((B3.out.trans (h.below.mono B3.out.size)).mono B2.out.size)).size)) (((RL.out.below (B3.out.trans (h.below.mono B3.out.size))).up (B3.out.trans (h.below.mono B3.out.size)).size))) (by decide)
            · exact rs_build1v rfl rfl (h.dep 5 63 rfl rfl) (fun W => by simp [strV, go_sem]) (by decide)
          case en =>
            intro vals W hbw hv _
            have v0 : vals 0 = u6 := hv 0 (by omega)
            have v1 : vals 1 = .slice p B.length cap := hv 1 (by omega)
            have v2 : vals 2 = .slice (some ⟨gl, 0, none⟩) N capl := hv 2 (by omega)
            have v3 : vals 3 = .int .i64 (k : Int) := hv 3 (by omega)
            have v4 : vals 4 = .int .i64 ((k : Int) + 1) := hv 4 (by omega)
            have v5 : vals 5 = .string (strOfNums (textAt B k)) := hv 5 (by omega)
            have x6 := hv 6 (by omega); simp only [lookS] at x6
            simp only [List.take_succ_cons, List.take_zero, List.drop_succ_cons, List.drop_zero, List.drop_nil, List.take_nil, fillAll, Nat.zero_add, Nat.reduceAdd]
            rw [v0, v1, v2, v3, v4, v5]
            clear hv v0 v1 v2 v3 v4 v5
            simp only [put_lit, List.setIfInBounds_toArray, List.set_cons_succ, List.set_cons_zero]
            obtain ⟨gb, e6, s6⟩ := x6
            rw [e6]
            have own9 := own_below O3.out hbw
            have B9' := B3.out.trans (hbw.mono B3.out.size)
            refine wpList_append_own_at W rfl _ _ 55 rfl w2.heap.size 9 i0 _ 1 16 Try.underlying55 hi0 hz0 hz1 hz2 rfl (by decide) u6 k _ rfl own9 ⟨gb, 0, none⟩ 1 1 [strV B k] rfl rfl (OneV.news s6) (by simp [strV, Value.oneCell']) (by unfold maxLen; omega) (by omega) B9'.size ?_
            intro v5 w5 own5 grow5 _ _
            have own6 : w5.ownsRow w2.heap.size 9 1 v5 (k + 1) (strs B (k + 1)) := by rw [strs_succ]; exact own5
            have B6 := Lib.hid (B9'.grown grow5 B9'.size (fun k hk => (own9.lt k hk).1))
            obtain ⟨ga, capa, rfl, hga0, hga1, hca, hma, hcella⟩ := own_open own6 (by omega)
            have CA := Lib.hid (hcella k (by rw [strs_len]; omega)); clear hcella
            have O6 := Lib.hid own6
            clear own5 own6 own9 hbw s6 B9' grow5 O3 B3
            go_upto_region 13 with fail
            refine wp_region_seq 5 [fun v _ => v = .slice (some ⟨ga, 0, none⟩) (k + 1) capa, fun v _ => v = .int .i64 (k : Int), fun v _ => v = .pointer (some ⟨ga, k, none⟩), fun v _ => v = .string (strOfNums (textAt B k)), fun v _ => v = .bool false] (fun _ => false) (by kernel_rfl) (by kernel_rfl) ⟨stable_eq _, stable_eq _, stable_eq _, stable_eq _, stable_eq _, trivial⟩ (fun _ _ h => by cases h) ?ob ?en
            case ob =>
              refine ⟨?_, ?_, ?_, ?_, ?_, trivial⟩ <;> intro A W h
              · exact rs_move rfl rfl (h.frame 6 rfl) (by decide)
              · exact rs_move rfl rfl (h.frame 7 rfl) (by decide)
              · exact rs_idx (sz := 1) Try.underlying55 (fun w => by kernel_rfl) rfl rfl (h.dep 0 66 rfl rfl) (h.dep 1 67 rfl rfl) (by omega) (by omega) (by decide)
              · (have e68 : A.eval (.tmp 68) = .pointer (some ⟨ga, k, none⟩) := h.dep 2 68 rfl rfl; refine rs_pure rfl ?_ (by decide); simp only [execOp, e68]; (have q := (h.below.cell (p := ⟨ga, k, none⟩) hga1).trans CA.out; simp [strs, strV] at q; simp [go_sem, q]))
              · exact rs_calln rfl rfl (enters_of Try.func38 (by kernel_rfl) rfl) (args2 ⟨(h.dep 3 69 rfl rfl), rfl⟩) (contains_text HBr.out hkl W) (by decide)
            case en =>
              intro vals W hbw hv _
              have v0 : vals 0 = .slice (some ⟨ga, 0, none⟩) (k + 1) capa := hv 0 (by omega)
              have v1 : vals 1 = .int .i64 (k : Int) := hv 1 (by omega)
              have v2 : vals 2 = .pointer (some ⟨ga, k, none⟩) := hv 2 (by omega)
              have v3 : vals 3 = .string (strOfNums (textAt B k)) := hv 3 (by omega)
              have v4 : vals 4 = .bool false := hv 4 (by omega)
              simp only [List.take_succ_cons, List.take_zero, List.drop_succ_cons, List.drop_zero, List.drop_nil, List.take_nil, fillAll, Nat.zero_add, Nat.reduceAdd]
              rw [v0, v1, v2, v3, v4]
              clear hv v0 v1 v2 v3 v4
              simp only [put_lit, List.setIfInBounds_toArray, List.set_cons_succ, List.set_cons_zero]
              have O7 := Lib.hid (own_below O6.out hbw)
              have B7 := Lib.hid (B6.out.trans (hbw.mono B6.out.size))
              clear hbw O6 B6
              go_wp2_with fail
              go_roundw
              case rel => exact ⟨k + 1, by omega, by go_num, O7.out, B7.out⟩
              case measure => simp [intOf]; omega
      · obtain rfl : k = N := by omega
        obtain ⟨ga, capa, rfl, hga0, hga1, hca, hma, hcella⟩ := own_open G.out.1 (by omega)
        have hcA : ∀ j, j < (lines B).length → wr.cell? ⟨ga, j, none⟩ = some (strV B j) := fun j hj => by
          rw [hcella j (by rw [strs_len, ← HN.out]; exact hj)]
          simp [strs]
        have CA := Lib.hid hcA; clear hcA hcella
        have B3 := Lib.hid G.out.2
        clear G
        have hcl' : (lines B).length ≤ capa := by rw [HN.out]; exact hca
        go_upto_region 15 with fail
        refine wp_region_spec 20 [fun v _ => v = .slice (some ⟨ga, 0, none⟩) k capa, fun v _ => v = .string (strOfNums B), fun v _ => v = .slice p B.length cap, fun v _ => v = .string (strOfNums B), fun v _ => v = .bool false, fun v _ => v = .bool false, fun v _ => v = .slice p B.length cap, fun v _ => v = .slice (some ⟨gl, 0, none⟩) k capl, fun v _ => v = .string ⟨#[]⟩, fun v _ => v = .bool false, fun v _ => v = .bool false, fun v _ => v = .bool false, fun v _ => v = .slice p B.length cap, fun v _ => v = .slice (some ⟨gl, 0, none⟩) k capl, fun v _ => v = .slice (some ⟨gl, 0, none⟩) k capl, fun v _ => v = .int .i64 ((k : Nat) : Int), fun v _ => v = .int .i64 ((k : Int) + 1), fun v _ => v = .string ⟨#[]⟩, fun v _ => v = .bool false, fun v _ => v = .bool false] (fun _ => false) (by kernel_rfl) (by kernel_rfl) (by kernel_rfl) ⟨stable_eq _, stable_eq _, stable_eq _, stable_eq _, stable_eq _, stable_eq _, stable_eq _, stable_eq _, stable_eq _, stable_eq _, stable_eq _, stable_eq _, stable_eq _, stable_eq _, stable_eq _, stable_eq _, stable_eq _, stable_eq _, stable_eq _, stable_eq _, trivial⟩ (fun _ _ h => by cases h) ?ob ?en
        case ob =>
          refine ⟨?_, ?_, ?_, ?_, ?_, ?_, ?_, ?_, ?_, ?_, ?_, ?_, ?_, ?_, ?_, ?_, ?_, ?_, ?_, ?_, trivial⟩ <;> intro A W h
          · exact rs_move rfl rfl (h.frame 6 rfl) (by decide)
          · exact rs_calln rfl rfl (enters_of Try.func39 (by kernel_rfl) rfl) (args2 ⟨(h.dep 0 71 rfl rfl), rfl⟩) ((by have := join_text (B := B) (g := ga) (c := capa) (W := W) (by omega) (by have := h.below.size; omega) hcl' (fun j hj => (h.below.cell (p := ⟨ga, j, none⟩) hga1).trans (CA.out j hj)); rwa [HN.out] at this)) (by decide)
          · exact rs_move rfl rfl (h.frame 0 rfl) (by decide)
          · exact rs_conv rfl rfl (h.dep 2 73 rfl rfl) (fun W => run_convert_rd W 22 5 9 Try.underlying22 Try.underlying5 Try.underlying9) (HR.out.below (B2.out.trans ((B3.out.trans (h.below.mono B3.out.size)).mono B2.out.size))) (by decide)
          · (have e72 : A.eval (.tmp 72) = .string (strOfNums B) := h.dep 1 72 rfl rfl; have e74 : A.eval (.tmp 74) = .string (strOfNums B) := h.dep 3 74 rfl rfl; refine rs_pure rfl ?_ (by decide); simp only [execOp, e72, e74]; simp [go_sem])
          · exact rs_move rfl rfl (h.dep 4 75 rfl rfl) (by decide)
          · exact rs_move (wanted_g rfl (yielded_of (d := 76) rfl (h.dep 5 76 rfl rfl))) rfl (h.frame 0 rfl) (by decide)
          · exact rs_move (wanted_g rfl (yielded_of (d := 76) rfl (h.dep 5 76 rfl rfl))) rfl (h.frame 5 rfl) (by decide)
          · exact rs_calln (wanted_g rfl (yielded_of (d := 76) rfl (h.dep 5 76 rfl rfl))) rfl (enters_of Try.func18 (by kernel_rfl) rfl) (args3 ⟨(h.dep 6 77 rfl rfl), (h.dep 7 78 rfl rfl), rfl⟩) ((by have := text_Text _ _ B (lines B) 0 W (((HR.out.below (B2.out.trans ((B3.out.trans (h.below.mono B3.out.size)).mono B2.out.size))).up (B2.out.trans ((B3.out.trans (h.below.mono B3.out.size)).mono B2.out.size)).size)) (((RL.out.below (B3.out.trans (h.below.mono B3.out.size))).up (B3.out.trans (h.below.mono B3.out.size)).size)); rwa [textN_low] at this)) (by decide)
          · (have e79 : A.eval (.tmp 79) = .string ⟨#[]⟩ := h.dep 8 79 rfl rfl; refine rs_pure (wanted_g rfl (yielded_of (d := 76) rfl (h.dep 5 76 rfl rfl))) ?_ (by decide); simp only [execOp, e79]; simp [go_sem])
          · exact rs_pick rfl rfl (h.dep 5 76 rfl rfl) (h.dep 9 80 rfl rfl) (by decide)
          · exact rs_move rfl rfl (h.dep 10 81 rfl rfl) (by decide)
          · exact rs_move (wanted_g rfl (yielded_of (d := 82) rfl (h.dep 11 82 rfl rfl))) rfl (h.frame 0 rfl) (by decide)
          · exact rs_move (wanted_g rfl (yielded_of (d := 82) rfl (h.dep 11 82 rfl rfl))) rfl (h.frame 5 rfl) (by decide)
          · exact rs_move (wanted_g rfl (yielded_of (d := 82) rfl (h.dep 11 82 rfl rfl))) rfl (h.frame 5 rfl) (by decide)
          · exact rs_len Try.underlying23 (wanted_g rfl (yielded_of (d := 82) rfl (h.dep 11 82 rfl rfl))) rfl (h.dep 14 85 rfl rfl) (by decide)
          · (have e86 : A.eval (.tmp 86) = .int .i64 ((k : Nat) : Int) := h.dep 15 86 rfl rfl; refine rs_pure (wanted_g rfl (yielded_of (d := 82) rfl (h.dep 11 82 rfl rfl))) ?_ (by decide); simp only [execOp, e86]; (simp [go_sem] <;> first | done | omega | (rw [IntKind.wrap_i64]; omega) | (rw [IntKind.wrap_u8]; omega) | (rw [IntKind.wrap_u64]; omega)))
          · exact rs_calln (wanted_g rfl (yielded_of (d := 82) rfl (h.dep 11 82 rfl rfl))) rfl (enters_of Try.func18 (by kernel_rfl) rfl) (args3 ⟨(h.dep 12 83 rfl rfl), (h.dep 13 84 rfl rfl), (h.dep 16 87 rfl rfl)⟩) ((by have := text_Text _ _ B (lines B) ((k : Int) + 1) W (((HR.out.below (B2.out.trans ((B3.out.trans (h.below.mono B3.out.size)).mono B2.out.size))).up (B2.out.trans ((B3.out.trans (h.below.mono B3.out.size)).mono B2.out.size)).size)) (((RL.out.below (B3.out.trans (h.below.mono B3.out.size))).up (B3.out.trans (h.below.mono B3.out.size)).size)); have e := textN_high B (lines B); rw [HN.out] at e; rwa [e] at this)) (by decide)
          · (have e88 : A.eval (.tmp 88) = .string ⟨#[]⟩ := h.dep 17 88 rfl rfl; refine rs_pure (wanted_g rfl (yielded_of (d := 82) rfl (h.dep 11 82 rfl rfl))) ?_ (by decide); simp only [execOp, e88]; simp [go_sem])
          · exact rs_pick rfl rfl (h.dep 11 82 rfl rfl) (h.dep 18 89 rfl rfl) (by decide)
        case en =>
          intro vals W hbw hv _
          have v0 : vals 0 = .slice (some ⟨ga, 0, none⟩) k capa := hv 0 (by omega)
          have v1 : vals 1 = .string (strOfNums B) := hv 1 (by omega)
          have v2 : vals 2 = .slice p B.length cap := hv 2 (by omega)
          have v3 : vals 3 = .string (strOfNums B) := hv 3 (by omega)
          have v4 : vals 4 = .bool false := hv 4 (by omega)
          have v5 : vals 5 = .bool false := hv 5 (by omega)
          have v6 : vals 6 = .slice p B.length cap := hv 6 (by omega)
          have v7 : vals 7 = .slice (some ⟨gl, 0, none⟩) k capl := hv 7 (by omega)
          have v8 : vals 8 = .string ⟨#[]⟩ := hv 8 (by omega)
          have v9 : vals 9 = .bool false := hv 9 (by omega)
          have v10 : vals 10 = .bool false := hv 10 (by omega)
          have v11 : vals 11 = .bool false := hv 11 (by omega)
          have v12 : vals 12 = .slice p B.length cap := hv 12 (by omega)
          have v13 : vals 13 = .slice (some ⟨gl, 0, none⟩) k capl := hv 13 (by omega)
          have v14 : vals 14 = .slice (some ⟨gl, 0, none⟩) k capl := hv 14 (by omega)
          have v15 : vals 15 = .int .i64 ((k : Nat) : Int) := hv 15 (by omega)
          have v16 : vals 16 = .int .i64 ((k : Int) + 1) := hv 16 (by omega)
          have v17 : vals 17 = .string ⟨#[]⟩ := hv 17 (by omega)
          have v18 : vals 18 = .bool false := hv 18 (by omega)
          have v19 : vals 19 = .bool false := hv 19 (by omega)
          simp only [List.take_succ_cons, List.take_zero, List.drop_succ_cons, List.drop_zero, List.drop_nil, List.take_nil, fillAll, Nat.zero_add, Nat.reduceAdd]
          rw [v0, v1, v2, v3, v4, v5, v6, v7, v8, v9, v10, v11, v12, v13, v14, v15, v16, v17, v18, v19]
          clear hv v0 v1 v2 v3 v4 v5 v6 v7 v8 v9 v10 v11 v12 v13 v14 v15 v16 v17 v18 v19
          simp only [put_lit, List.setIfInBounds_toArray, List.set_cons_succ, List.set_cons_zero]
          have B4 := Lib.hid (B3.out.trans (hbw.mono B3.out.size)); clear hbw CA B3
          have hRL := (RL.out.below B4.out).up B4.out.size
          go_wp2_with fail
          refine (text_Line _ (lines B) at_ W hRL).mono ?_
          rintro e w' ⟨rfl, rfl⟩
          by_cases hneg : at_ < 0
          · have hz := lineN_neg (B := B) hneg
            rw [hz]
            have HZ := Lib.hid hz; clear hz hRL
            go_wp2
            go_ret
            exact ⟨rfl, B2.out.trans (B4.out.mono B2.out.size)⟩
          · have hpos := lineN_pos (B := B) (p := at_) (by omega)
            have hle := lineN_le (lines B) at_
            rw [HN.out] at hle
            obtain ⟨hj, hx⟩ := lineN_at (xs := lines B) (p := at_) (j := lineN (lines B) at_ - 1) (by omega)
            have c1 := HC.out _ hj
            have hst : lineN (lines B) at_ < k → ∃ z, w2.cell? ⟨gl, lineN (lines B) at_, none⟩ = some (.int .i64 z) ∧ at_ < z := fun h => ⟨_, HC.out _ (by rw [HN.out]; exact h), lineN_stops (by rw [HN.out]; exact h)⟩
            generalize (lines B)[lineN (lines B) at_ - 1] = x at hx c1
            generalize lineN (lines B) at_ = n at hpos hle hst c1
            have HST := Lib.hid hst; clear hst hj hRL
            have C1 := Lib.hid c1; clear c1
            go_upto_region 20 with fail
            by_cases hnk : n < k
            · obtain ⟨z, cz, hz⟩ := HST.out hnk
              have CZ := Lib.hid cz; clear cz
              refine wp_region_seq 32 [fun v _ => v = .int .i64 (n : Int), fun v _ => v = .bool true, fun v _ => v = .bool true, fun v _ => v = .int .i64 (n : Int), fun v _ => v = .slice (some ⟨gl, 0, none⟩) k capl, fun v _ => v = .int .i64 ((k : Nat) : Int), fun v _ => v = .bool true, fun v _ => v = .bool true, fun v _ => v = .bool true, fun v _ => v = .slice (some ⟨gl, 0, none⟩) k capl, fun v _ => v = .int .i64 (n : Int), fun v _ => v = .int .i64 ((n - 1 : Nat) : Int), fun v _ => v = .pointer (some ⟨gl, n - 1, none⟩), fun v _ => v = .int .i64 x, fun v _ => v = .int .i64 at_, fun v _ => v = .bool true, fun v _ => v = .bool true, fun v _ => v = .bool true, fun v _ => v = .int .i64 (n : Int), fun v _ => v = .slice (some ⟨gl, 0, none⟩) k capl, fun v _ => v = .int .i64 ((k : Nat) : Int), fun v _ => v = .bool false, fun v _ => v = .bool false, fun v _ => v = .int .i64 at_, fun v _ => v = .slice (some ⟨gl, 0, none⟩) k capl, fun v _ => v = .int .i64 (n : Int), fun v _ => v = .pointer (some ⟨gl, n, none⟩), fun v _ => v = .int .i64 z, fun v _ => v = .bool true, fun v _ => v = .bool true, fun v _ => v = .bool true, fun v _ => v = .bool true] (fun _ => false) (by kernel_rfl) (by kernel_rfl) ⟨stable_eq _, stable_eq _, stable_eq _, stable_eq _, stable_eq _, stable_eq _, stable_eq _, stable_eq _, stable_eq _, stable_eq _, stable_eq _, stable_eq _, stable_eq _, stable_eq _, stable_eq _, stable_eq _, stable_eq _, stable_eq _, stable_eq _, stable_eq _, stable_eq _, stable_eq _, stable_eq _, stable_eq _, stable_eq _, stable_eq _, stable_eq _, stable_eq _, stable_eq _, stable_eq _, stable_eq _, stable_eq _, trivial⟩ (fun _ _ h => by cases h) ?ob ?en
              case ob =>
                refine ⟨?_, ?_, ?_, ?_, ?_, ?_, ?_, ?_, ?_, ?_, ?_, ?_, ?_, ?_, ?_, ?_, ?_, ?_, ?_, ?_, ?_, ?_, ?_, ?_, ?_, ?_, ?_, ?_, ?_, ?_, ?_, ?_, trivial⟩ <;> intro A W h
                · exact rs_move rfl rfl (h.frame 8 rfl) (by decide)
                · (have e98 : A.eval (.tmp 98) = .int .i64 (n : Int) := h.dep 0 98 rfl rfl; refine rs_pure rfl ?_ (by decide); simp only [execOp, e98]; (simp [go_sem] <;> first | done | omega | (rw [IntKind.wrap_i64]; omega) | (rw [IntKind.wrap_u8]; omega) | (rw [IntKind.wrap_u64]; omega)))
                · exact rs_move rfl rfl (h.dep 1 99 rfl rfl) (by decide)
                · exact rs_move (wanted_g rfl (yielded_of (d := 100) rfl (h.dep 2 100 rfl rfl))) rfl (h.frame 8 rfl) (by decide)
                · exact rs_move (wanted_g rfl (yielded_of (d := 100) rfl (h.dep 2 100 rfl rfl))) rfl (h.frame 5 rfl) (by decide)
                · exact rs_len Try.underlying23 (wanted_g rfl (yielded_of (d := 100) rfl (h.dep 2 100 rfl rfl))) rfl (h.dep 4 102 rfl rfl) (by decide)
                · (have e101 : A.eval (.tmp 101) = .int .i64 (n : Int) := h.dep 3 101 rfl rfl; have e103 : A.eval (.tmp 103) = .int .i64 ((k : Nat) : Int) := h.dep 5 103 rfl rfl; refine rs_pure (wanted_g rfl (yielded_of (d := 100) rfl (h.dep 2 100 rfl rfl))) ?_ (by decide); simp only [execOp, e101, e103]; (simp [go_sem] <;> first | done | omega | (rw [IntKind.wrap_i64]; omega) | (rw [IntKind.wrap_u8]; omega) | (rw [IntKind.wrap_u64]; omega)))
                · exact rs_pick rfl rfl (h.dep 2 100 rfl rfl) (h.dep 6 104 rfl rfl) (by decide)
                · exact rs_move rfl rfl (h.dep 7 105 rfl rfl) (by decide)
                · exact rs_move (wanted_g rfl (yielded_of (d := 106) rfl (h.dep 8 106 rfl rfl))) rfl (h.frame 5 rfl) (by decide)
                · exact rs_move (wanted_g rfl (yielded_of (d := 106) rfl (h.dep 8 106 rfl rfl))) rfl (h.frame 8 rfl) (by decide)
                · (have e108 : A.eval (.tmp 108) = .int .i64 (n : Int) := h.dep 10 108 rfl rfl; refine rs_pure (wanted_g rfl (yielded_of (d := 106) rfl (h.dep 8 106 rfl rfl))) ?_ (by decide); simp only [execOp, e108]; (simp [go_sem] <;> first | done | omega | (rw [IntKind.wrap_i64]; omega) | (rw [IntKind.wrap_u8]; omega) | (rw [IntKind.wrap_u64]; omega)))
                · exact rs_idx (sz := 1) Try.underlying23 (fun w => by kernel_rfl) (wanted_g rfl (yielded_of (d := 106) rfl (h.dep 8 106 rfl rfl))) rfl (h.dep 9 107 rfl rfl) (h.dep 11 109 rfl rfl) (by omega) (by omega) (by decide)
                · (have e110 : A.eval (.tmp 110) = .pointer (some ⟨gl, n - 1, none⟩) := h.dep 12 110 rfl rfl; refine rs_pure (wanted_g rfl (yielded_of (d := 106) rfl (h.dep 8 106 rfl rfl))) ?_ (by decide); simp only [execOp, e110]; (have q := ((B4.out.trans (h.below.mono B4.out.size)).cell (p := ⟨gl, n - 1, none⟩) hgl1).trans C1.out; simp [go_sem, q]))
                · exact rs_move (wanted_g rfl (yielded_of (d := 106) rfl (h.dep 8 106 rfl rfl))) rfl (h.frame 1 rfl) (by decide)
                · (have e111 : A.eval (.tmp 111) = .int .i64 x := h.dep 13 111 rfl rfl; have e112 : A.eval (.tmp 112) = .int .i64 at_ := h.dep 14 112 rfl rfl; refine rs_pure (wanted_g rfl (yielded_of (d := 106) rfl (h.dep 8 106 rfl rfl))) ?_ (by decide); simp only [execOp, e111, e112]; (simp [go_sem] <;> first | done | omega | (rw [IntKind.wrap_i64]; omega) | (rw [IntKind.wrap_u8]; omega) | (rw [IntKind.wrap_u64]; omega)))
                · exact rs_pick rfl rfl (h.dep 8 106 rfl rfl) (h.dep 15 113 rfl rfl) (by decide)
                · exact rs_move rfl rfl (h.dep 16 114 rfl rfl) (by decide)
                · exact rs_move (wanted_g rfl (yielded_of (d := 115) rfl (h.dep 17 115 rfl rfl))) rfl (h.frame 8 rfl) (by decide)
                · exact rs_move (wanted_g rfl (yielded_of (d := 115) rfl (h.dep 17 115 rfl rfl))) rfl (h.frame 5 rfl) (by decide)
                · exact rs_len Try.underlying23 (wanted_g rfl (yielded_of (d := 115) rfl (h.dep 17 115 rfl rfl))) rfl (h.dep 19 117 rfl rfl) (by decide)
                · (have e116 : A.eval (.tmp 116) = .int .i64 (n : Int) := h.dep 18 116 rfl rfl; have e118 : A.eval (.tmp 118) = .int .i64 ((k : Nat) : Int) := h.dep 20 118 rfl rfl; refine rs_pure (wanted_g rfl (yielded_of (d := 115) rfl (h.dep 17 115 rfl rfl))) ?_ (by decide); simp only [execOp, e116, e118]; (simp [go_sem] <;> first | done | omega | (rw [IntKind.wrap_i64]; omega) | (rw [IntKind.wrap_u8]; omega) | (rw [IntKind.wrap_u64]; omega)))
                · exact rs_move (wanted_g rfl (yielded_of (d := 115) rfl (h.dep 17 115 rfl rfl))) rfl (h.dep 21 119 rfl rfl) (by decide)
                · exact rs_move (wanted_g rfl (yielded_of (d := 120) rfl (h.dep 22 120 rfl rfl))) rfl (h.frame 1 rfl) (by decide)
                · exact rs_move (wanted_g rfl (yielded_of (d := 120) rfl (h.dep 22 120 rfl rfl))) rfl (h.frame 5 rfl) (by decide)
                · exact rs_move (wanted_g rfl (yielded_of (d := 120) rfl (h.dep 22 120 rfl rfl))) rfl (h.frame 8 rfl) (by decide)
                · exact rs_idx (sz := 1) Try.underlying23 (fun w => by kernel_rfl) (wanted_g rfl (yielded_of (d := 120) rfl (h.dep 22 120 rfl rfl))) rfl (h.dep 24 122 rfl rfl) (h.dep 25 123 rfl rfl) (by omega) (by omega) (by decide)
                · (have e124 : A.eval (.tmp 124) = .pointer (some ⟨gl, n, none⟩) := h.dep 26 124 rfl rfl; refine rs_pure (wanted_g rfl (yielded_of (d := 120) rfl (h.dep 22 120 rfl rfl))) ?_ (by decide); simp only [execOp, e124]; (have q := ((B4.out.trans (h.below.mono B4.out.size)).cell (p := ⟨gl, n, none⟩) hgl1).trans CZ.out; simp [go_sem, q]))
                · (have e121 : A.eval (.tmp 121) = .int .i64 at_ := h.dep 23 121 rfl rfl; have e125 : A.eval (.tmp 125) = .int .i64 z := h.dep 27 125 rfl rfl; refine rs_pure (wanted_g rfl (yielded_of (d := 120) rfl (h.dep 22 120 rfl rfl))) ?_ (by decide); simp only [execOp, e121, e125]; (simp [go_sem] <;> first | done | omega | (rw [IntKind.wrap_i64]; omega) | (rw [IntKind.wrap_u8]; omega) | (rw [IntKind.wrap_u64]; omega)))
                · exact rs_pick (wanted_g rfl (yielded_of (d := 115) rfl (h.dep 17 115 rfl rfl))) rfl (h.dep 22 120 rfl rfl) (h.dep 28 126 rfl rfl) (by decide)
                · exact rs_pick rfl rfl (h.dep 17 115 rfl rfl) (h.dep 29 127 rfl rfl) (by decide)
                · exact rs_assign rfl rfl (h.dep 30 128 rfl rfl) (by decide)
              case en =>
                intro vals W hbw hv _
                have v0 : vals 0 = .int .i64 (n : Int) := hv 0 (by omega)
                have v1 : vals 1 = .bool true := hv 1 (by omega)
                have v2 : vals 2 = .bool true := hv 2 (by omega)
                have v3 : vals 3 = .int .i64 (n : Int) := hv 3 (by omega)
                have v4 : vals 4 = .slice (some ⟨gl, 0, none⟩) k capl := hv 4 (by omega)
                have v5 : vals 5 = .int .i64 ((k : Nat) : Int) := hv 5 (by omega)
                have v6 : vals 6 = .bool true := hv 6 (by omega)
                have v7 : vals 7 = .bool true := hv 7 (by omega)
                have v8 : vals 8 = .bool true := hv 8 (by omega)
                have v9 : vals 9 = .slice (some ⟨gl, 0, none⟩) k capl := hv 9 (by omega)
                have v10 : vals 10 = .int .i64 (n : Int) := hv 10 (by omega)
                have v11 : vals 11 = .int .i64 ((n - 1 : Nat) : Int) := hv 11 (by omega)
                have v12 : vals 12 = .pointer (some ⟨gl, n - 1, none⟩) := hv 12 (by omega)
                have v13 : vals 13 = .int .i64 x := hv 13 (by omega)
                have v14 : vals 14 = .int .i64 at_ := hv 14 (by omega)
                have v15 : vals 15 = .bool true := hv 15 (by omega)
                have v16 : vals 16 = .bool true := hv 16 (by omega)
                have v17 : vals 17 = .bool true := hv 17 (by omega)
                have v18 : vals 18 = .int .i64 (n : Int) := hv 18 (by omega)
                have v19 : vals 19 = .slice (some ⟨gl, 0, none⟩) k capl := hv 19 (by omega)
                have v20 : vals 20 = .int .i64 ((k : Nat) : Int) := hv 20 (by omega)
                have v21 : vals 21 = .bool false := hv 21 (by omega)
                have v22 : vals 22 = .bool false := hv 22 (by omega)
                have v23 : vals 23 = .int .i64 at_ := hv 23 (by omega)
                have v24 : vals 24 = .slice (some ⟨gl, 0, none⟩) k capl := hv 24 (by omega)
                have v25 : vals 25 = .int .i64 (n : Int) := hv 25 (by omega)
                have v26 : vals 26 = .pointer (some ⟨gl, n, none⟩) := hv 26 (by omega)
                have v27 : vals 27 = .int .i64 z := hv 27 (by omega)
                have v28 : vals 28 = .bool true := hv 28 (by omega)
                have v29 : vals 29 = .bool true := hv 29 (by omega)
                have v30 : vals 30 = .bool true := hv 30 (by omega)
                have v31 : vals 31 = .bool true := hv 31 (by omega)
                simp only [List.take_succ_cons, List.take_zero, List.drop_succ_cons, List.drop_zero, List.drop_nil, List.take_nil, fillAll, Nat.zero_add, Nat.reduceAdd]
                rw [v0, v1, v2, v3, v4, v5, v6, v7, v8, v9, v10, v11, v12, v13, v14, v15, v16, v17, v18, v19, v20, v21, v22, v23, v24, v25, v26, v27, v28, v29, v30, v31]
                clear hv v0 v1 v2 v3 v4 v5 v6 v7 v8 v9 v10 v11 v12 v13 v14 v15 v16 v17 v18 v19 v20 v21 v22 v23 v24 v25 v26 v27 v28 v29 v30 v31
                simp only [put_lit, List.setIfInBounds_toArray, List.set_cons_succ, List.set_cons_zero]
                have B5 := Lib.hid (B4.out.trans (hbw.mono B4.out.size)); clear hbw
                go_wp2
                go_ret
                exact ⟨rfl, B2.out.trans (B5.out.mono B2.out.size)⟩
            · --
              refine wp_region_seq 32 [fun v _ => v = .int .i64 (n : Int), fun v _ => v = .bool true, fun v _ => v = .bool true, fun v _ => v = .int .i64 (n : Int), fun v _ => v = .slice (some ⟨gl, 0, none⟩) k capl, fun v _ => v = .int .i64 ((k : Nat) : Int), fun v _ => v = .bool true, fun v _ => v = .bool true, fun v _ => v = .bool true, fun v _ => v = .slice (some ⟨gl, 0, none⟩) k capl, fun v _ => v = .int .i64 (n : Int), fun v _ => v = .int .i64 ((n - 1 : Nat) : Int), fun v _ => v = .pointer (some ⟨gl, n - 1, none⟩), fun v _ => v = .int .i64 x, fun v _ => v = .int .i64 at_, fun v _ => v = .bool true, fun v _ => v = .bool true, fun v _ => v = .bool true, fun v _ => v = .int .i64 (n : Int), fun v _ => v = .slice (some ⟨gl, 0, none⟩) k capl, fun v _ => v = .int .i64 ((k : Nat) : Int), fun v _ => v = .bool true, fun v _ => v = .bool true, fun v _ => v = undef, fun v _ => v = undef, fun v _ => v = undef, fun v _ => v = undef, fun v _ => v = undef, fun v _ => v = undef, fun v _ => v = Value.bool true, fun v _ => v = Value.bool true, fun v _ => v = Value.bool true] (fun _ => false) (by kernel_rfl) (by kernel_rfl) ⟨stable_eq _, stable_eq _, stable_eq _, stable_eq _, stable_eq _, stable_eq _, stable_eq _, stable_eq _, stable_eq _, stable_eq _, stable_eq _, stable_eq _, stable_eq _, stable_eq _, stable_eq _, stable_eq _, stable_eq _, stable_eq _, stable_eq _, stable_eq _, stable_eq _, stable_eq _, stable_eq _, stable_eq _, stable_eq _, stable_eq _, stable_eq _, stable_eq _, stable_eq _, stable_eq _, stable_eq _, stable_eq _, trivial⟩ (fun _ _ h => by cases h) ?ob ?en
              case ob =>
                refine ⟨?_, ?_, ?_, ?_, ?_, ?_, ?_, ?_, ?_, ?_, ?_, ?_, ?_, ?_, ?_, ?_, ?_, ?_, ?_, ?_, ?_, ?_, ?_, ?_, ?_, ?_, ?_, ?_, ?_, ?_, ?_, ?_, trivial⟩ <;> intro A W h
                · exact rs_move rfl rfl (h.frame 8 rfl) (by decide)
                · (have e98 : A.eval (.tmp 98) = .int .i64 (n : Int) := h.dep 0 98 rfl rfl; refine rs_pure rfl ?_ (by decide); simp only [execOp, e98]; (simp [go_sem] <;> first | done | omega | (rw [IntKind.wrap_i64]; omega) | (rw [IntKind.wrap_u8]; omega) | (rw [IntKind.wrap_u64]; omega)))
                · exact rs_move rfl rfl (h.dep 1 99 rfl rfl) (by decide)
                · exact rs_move (wanted_g rfl (yielded_of (d := 100) rfl (h.dep 2 100 rfl rfl))) rfl (h.frame 8 rfl) (by decide)
                · exact rs_move (wanted_g rfl (yielded_of (d := 100) rfl (h.dep 2 100 rfl rfl))) rfl (h.frame 5 rfl) (by decide)
                · exact rs_len Try.underlying23 (wanted_g rfl (yielded_of (d := 100) rfl (h.dep 2 100 rfl rfl))) rfl (h.dep 4 102 rfl rfl) (by decide)
                · (have e101 : A.eval (.tmp 101) = .int .i64 (n : Int) := h.dep 3 101 rfl rfl; have e103 : A.eval (.tmp 103) = .int .i64 ((k : Nat) : Int) := h.dep 5 103 rfl rfl; refine rs_pure (wanted_g rfl (yielded_of (d := 100) rfl (h.dep 2 100 rfl rfl))) ?_ (by decide); simp only [execOp, e101, e103]; (simp [go_sem] <;> first | done | omega | (rw [IntKind.wrap_i64]; omega) | (rw [IntKind.wrap_u8]; omega) | (rw [IntKind.wrap_u64]; omega)))
                · exact rs_pick rfl rfl (h.dep 2 100 rfl rfl) (h.dep 6 104 rfl rfl) (by decide)
                · exact rs_move rfl rfl (h.dep 7 105 rfl rfl) (by decide)
                · exact rs_move (wanted_g rfl (yielded_of (d := 106) rfl (h.dep 8 106 rfl rfl))) rfl (h.frame 5 rfl) (by decide)
                · exact rs_move (wanted_g rfl (yielded_of (d := 106) rfl (h.dep 8 106 rfl rfl))) rfl (h.frame 8 rfl) (by decide)
                · (have e108 : A.eval (.tmp 108) = .int .i64 (n : Int) := h.dep 10 108 rfl rfl; refine rs_pure (wanted_g rfl (yielded_of (d := 106) rfl (h.dep 8 106 rfl rfl))) ?_ (by decide); simp only [execOp, e108]; (simp [go_sem] <;> first | done | omega | (rw [IntKind.wrap_i64]; omega) | (rw [IntKind.wrap_u8]; omega) | (rw [IntKind.wrap_u64]; omega)))
                · exact rs_idx (sz := 1) Try.underlying23 (fun w => by kernel_rfl) (wanted_g rfl (yielded_of (d := 106) rfl (h.dep 8 106 rfl rfl))) rfl (h.dep 9 107 rfl rfl) (h.dep 11 109 rfl rfl) (by omega) (by omega) (by decide)
                · (have e110 : A.eval (.tmp 110) = .pointer (some ⟨gl, n - 1, none⟩) := h.dep 12 110 rfl rfl; refine rs_pure (wanted_g rfl (yielded_of (d := 106) rfl (h.dep 8 106 rfl rfl))) ?_ (by decide); simp only [execOp, e110]; (have q := ((B4.out.trans (h.below.mono B4.out.size)).cell (p := ⟨gl, n - 1, none⟩) hgl1).trans C1.out; simp [go_sem, q]))
                · exact rs_move (wanted_g rfl (yielded_of (d := 106) rfl (h.dep 8 106 rfl rfl))) rfl (h.frame 1 rfl) (by decide)
                · (have e111 : A.eval (.tmp 111) = .int .i64 x := h.dep 13 111 rfl rfl; have e112 : A.eval (.tmp 112) = .int .i64 at_ := h.dep 14 112 rfl rfl; refine rs_pure (wanted_g rfl (yielded_of (d := 106) rfl (h.dep 8 106 rfl rfl))) ?_ (by decide); simp only [execOp, e111, e112]; (simp [go_sem] <;> first | done | omega | (rw [IntKind.wrap_i64]; omega) | (rw [IntKind.wrap_u8]; omega) | (rw [IntKind.wrap_u64]; omega)))
                · exact rs_pick rfl rfl (h.dep 8 106 rfl rfl) (h.dep 15 113 rfl rfl) (by decide)
                · exact rs_move rfl rfl (h.dep 16 114 rfl rfl) (by decide)
                · exact rs_move (wanted_g rfl (yielded_of (d := 115) rfl (h.dep 17 115 rfl rfl))) rfl (h.frame 8 rfl) (by decide)
                · exact rs_move (wanted_g rfl (yielded_of (d := 115) rfl (h.dep 17 115 rfl rfl))) rfl (h.frame 5 rfl) (by decide)
                · exact rs_len Try.underlying23 (wanted_g rfl (yielded_of (d := 115) rfl (h.dep 17 115 rfl rfl))) rfl (h.dep 19 117 rfl rfl) (by decide)
                · (have e116 : A.eval (.tmp 116) = .int .i64 (n : Int) := h.dep 18 116 rfl rfl; have e118 : A.eval (.tmp 118) = .int .i64 ((k : Nat) : Int) := h.dep 20 118 rfl rfl; refine rs_pure (wanted_g rfl (yielded_of (d := 115) rfl (h.dep 17 115 rfl rfl))) ?_ (by decide); simp only [execOp, e116, e118]; (simp [go_sem] <;> first | done | omega | (rw [IntKind.wrap_i64]; omega) | (rw [IntKind.wrap_u8]; omega) | (rw [IntKind.wrap_u64]; omega)))
                · exact rs_move (wanted_g rfl (yielded_of (d := 115) rfl (h.dep 17 115 rfl rfl))) rfl (h.dep 21 119 rfl rfl) (by decide)
                · exact rs_skip (not_wanted_g rfl (yielded_of (d := 120) rfl (h.dep 22 120 rfl rfl)) (by decide)) ⟨rfl, fun h => by cases h⟩
                · exact rs_skip (not_wanted_g rfl (yielded_of (d := 120) rfl (h.dep 22 120 rfl rfl)) (by decide)) ⟨rfl, fun h => by cases h⟩
                · exact rs_skip (not_wanted_g rfl (yielded_of (d := 120) rfl (h.dep 22 120 rfl rfl)) (by decide)) ⟨rfl, fun h => by cases h⟩
                · exact rs_skip (not_wanted_g rfl (yielded_of (d := 120) rfl (h.dep 22 120 rfl rfl)) (by decide)) ⟨rfl, fun h => by cases h⟩
                · exact rs_skip (not_wanted_g rfl (yielded_of (d := 120) rfl (h.dep 22 120 rfl rfl)) (by decide)) ⟨rfl, fun h => by cases h⟩
                · exact rs_skip (not_wanted_g rfl (yielded_of (d := 120) rfl (h.dep 22 120 rfl rfl)) (by decide)) ⟨rfl, fun h => by cases h⟩
                · exact rs_pick (wanted_g rfl (yielded_of (d := 115) rfl (h.dep 17 115 rfl rfl))) rfl (h.dep 22 120 rfl rfl) (rfl) (by decide)
                · exact rs_pick rfl rfl (h.dep 17 115 rfl rfl) (h.dep 29 127 rfl rfl) (by decide)
                · exact rs_assign rfl rfl (h.dep 30 128 rfl rfl) (by decide)
              case en =>
                intro vals W hbw hv _
                have v0 : vals 0 = .int .i64 (n : Int) := hv 0 (by omega)
                have v1 : vals 1 = .bool true := hv 1 (by omega)
                have v2 : vals 2 = .bool true := hv 2 (by omega)
                have v3 : vals 3 = .int .i64 (n : Int) := hv 3 (by omega)
                have v4 : vals 4 = .slice (some ⟨gl, 0, none⟩) k capl := hv 4 (by omega)
                have v5 : vals 5 = .int .i64 ((k : Nat) : Int) := hv 5 (by omega)
                have v6 : vals 6 = .bool true := hv 6 (by omega)
                have v7 : vals 7 = .bool true := hv 7 (by omega)
                have v8 : vals 8 = .bool true := hv 8 (by omega)
                have v9 : vals 9 = .slice (some ⟨gl, 0, none⟩) k capl := hv 9 (by omega)
                have v10 : vals 10 = .int .i64 (n : Int) := hv 10 (by omega)
                have v11 : vals 11 = .int .i64 ((n - 1 : Nat) : Int) := hv 11 (by omega)
                have v12 : vals 12 = .pointer (some ⟨gl, n - 1, none⟩) := hv 12 (by omega)
                have v13 : vals 13 = .int .i64 x := hv 13 (by omega)
                have v14 : vals 14 = .int .i64 at_ := hv 14 (by omega)
                have v15 : vals 15 = .bool true := hv 15 (by omega)
                have v16 : vals 16 = .bool true := hv 16 (by omega)
                have v17 : vals 17 = .bool true := hv 17 (by omega)
                have v18 : vals 18 = .int .i64 (n : Int) := hv 18 (by omega)
                have v19 : vals 19 = .slice (some ⟨gl, 0, none⟩) k capl := hv 19 (by omega)
                have v20 : vals 20 = .int .i64 ((k : Nat) : Int) := hv 20 (by omega)
                have v21 : vals 21 = .bool true := hv 21 (by omega)
                have v22 : vals 22 = .bool true := hv 22 (by omega)
                have v23 : vals 23 = undef := hv 23 (by omega)
                have v24 : vals 24 = undef := hv 24 (by omega)
                have v25 : vals 25 = undef := hv 25 (by omega)
                have v26 : vals 26 = undef := hv 26 (by omega)
                have v27 : vals 27 = undef := hv 27 (by omega)
                have v28 : vals 28 = undef := hv 28 (by omega)
                have v29 : vals 29 = Value.bool true := hv 29 (by omega)
                have v30 : vals 30 = Value.bool true := hv 30 (by omega)
                have v31 : vals 31 = Value.bool true := hv 31 (by omega)
                simp only [List.take_succ_cons, List.take_zero, List.drop_succ_cons, List.drop_zero, List.drop_nil, List.take_nil, fillAll, Nat.zero_add, Nat.reduceAdd]
                rw [v0, v1, v2, v3, v4, v5, v6, v7, v8, v9, v10, v11, v12, v13, v14, v15, v16, v17, v18, v19, v20, v21, v22, v23, v24, v25, v26, v27, v28, v29, v30, v31]
                clear hv v0 v1 v2 v3 v4 v5 v6 v7 v8 v9 v10 v11 v12 v13 v14 v15 v16 v17 v18 v19 v20 v21 v22 v23 v24 v25 v26 v27 v28 v29 v30 v31
                simp only [put_lit, List.setIfInBounds_toArray, List.set_cons_succ, List.set_cons_zero]
                have B5 := Lib.hid (B4.out.trans (hbw.mono B4.out.size)); clear hbw
                go_wp2
                go_ret
                exact ⟨rfl, B2.out.trans (B5.out.mono B2.out.size)⟩

theorem i64_range {x : Int} (h : (Lit.int .i64 x).wf = true) : -9223372036854775808 ≤ x ∧ x ≤ 9223372036854775807 := by
  simp [Lit.wf] at h
  have h1 : IntKind.i64.min = -9223372036854775808 := by decide
  have h2 : IntKind.i64.max = 9223372036854775807 := by decide
  omega
theorem u8_range' {x : Int} (h : (Lit.int .u8 x).wf = true) : 0 ≤ x ∧ x ≤ 255 := by
  simp [Lit.wf] at h
  have h1 : IntKind.u8.min = 0 := by decide
  have h2 : IntKind.u8.max = 255 := by decide
  omega
theorem walk_TextWhole (v : Value) (B : List Int) (at_ : Int) (w : World) (hr : Rd w w.heap.size v (u8s B)) (hB : ∀ x ∈ B, (Lit.int .u8 x).wf = true) (_ : B.length ≤ 140737488351232) (hat : (Lit.int .i64 at_).wf = true) :
    Calls Try.prog 9 #[v, .int .i64 at_] w fun e w' => e = .returned (.bool true) ∧ Below w.heap.size w w' :=
  law_TextWhole v B at_ w (fun x hx => u8_range' (hB x hx)) hr (i64_range hat)

end Go.Proofs.Ytkkilngihkdnaaa
