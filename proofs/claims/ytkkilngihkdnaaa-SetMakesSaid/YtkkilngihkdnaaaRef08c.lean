/-
  The walks of the sets' reference: Range, Union, Meet.
-/
import Derived.Test.YtkkilngihkdnaaaRef08b
namespace Go.Proofs.Ytkkilngihkdnaaa
open Go.RowKit Go.Shelf
attribute [local go_sem] Oper.semAt_some
set_option linter.unusedSimpArgs false

def UTo (L : List (Nat → Nat)) (b i : Nat) (S : Nat → Nat) : Prop := SetOk S ∧ ∀ c, c < 256 → hasB S c = ((decide (c < b) && L.any (fun t => hasB t c)) || (decide (c = b) && (L.take i).any (fun t => hasB t c)))
theorem UTo.start (L : List (Nat → Nat)) : UTo L 0 0 emptyS := ⟨emptyS_ok, fun c _ => by simp [has_empty]⟩
theorem UTo.hit {L : List (Nat → Nat)} {b i : Nat} {S : Nat → Nat} (h : UTo L b i S) (hi : i < L.length) (hb : hasB L[i] b = true) : UTo L b (i + 1) (addS S b) :=
  ⟨addS_ok h.1 b, fun c hc => by
    rw [has_add, h.2 c hc, List.take_succ_eq_append_getElem hi, List.any_append]
    by_cases e : c = b
    · subst e; simp [hb]
    · simp [e]⟩
theorem UTo.miss {L : List (Nat → Nat)} {b i : Nat} {S : Nat → Nat} (h : UTo L b i S) (hi : i < L.length) (hb : hasB L[i] b = false) : UTo L b (i + 1) S :=
  ⟨h.1, fun c hc => by
    rw [h.2 c hc, List.take_succ_eq_append_getElem hi, List.any_append]
    by_cases e : c = b
    · subst e; simp [hb]
    · simp [e]⟩
theorem UTo.next {L : List (Nat → Nat)} {b : Nat} {S : Nat → Nat} (h : UTo L b L.length S) : UTo L (b + 1) 0 S :=
  ⟨h.1, fun c hc => by
    rw [h.2 c hc, List.take_length]
    by_cases e : c = b
    · subst e; simp
    · by_cases e2 : c < b
      · simp [e, e2, Nat.lt_succ_of_lt e2]
      · simp [e, e2, show ¬ c < b + 1 from by omega]⟩
theorem UTo.done {L : List (Nat → Nat)} {S : Nat → Nat} (hL : ∀ t ∈ L, SetOk t) (h : UTo L 256 0 S) : setV S = setV (unionS L) :=
  setV_ext h.1 (unionS_ok hL) fun c hc => by rw [h.2 c hc, has_union]; simp [hc]
def MTo (L : List (Nat → Nat)) (b : Nat) (S : Nat → Nat) : Prop := SetOk S ∧ ∀ c, c < 256 → hasB S c = (decide (c < b) && L.all (fun t => hasB t c))
theorem MTo.start (L : List (Nat → Nat)) : MTo L 0 emptyS := ⟨emptyS_ok, fun c _ => by simp [has_empty]⟩
theorem MTo.hit {L : List (Nat → Nat)} {b : Nat} {S : Nat → Nat} (h : MTo L b S) (hb : L.all (fun t => hasB t b) = true) : MTo L (b + 1) (addS S b) :=
  ⟨addS_ok h.1 b, fun c hc => by
    rw [has_add, h.2 c hc]
    by_cases e : c = b
    · subst e; rw [hb]; simp
    · by_cases e2 : c < b
      · simp [e, e2, Nat.lt_succ_of_lt e2]
      · simp [e, e2, show ¬ c < b + 1 from by omega]⟩
theorem MTo.miss {L : List (Nat → Nat)} {b : Nat} {S : Nat → Nat} (h : MTo L b S) (hb : L.all (fun t => hasB t b) = false) : MTo L (b + 1) S :=
  ⟨h.1, fun c hc => by
    rw [h.2 c hc]
    by_cases e : c = b
    · subst e; rw [hb]; simp
    · by_cases e2 : c < b
      · simp [e2, Nat.lt_succ_of_lt e2]
      · simp [e2, show ¬ c < b + 1 from by omega]⟩
theorem MTo.done {L : List (Nat → Nat)} {S : Nat → Nat} (hL : ∀ t ∈ L, SetOk t) (h : MTo L 256 S) : setV S = setV (meetS L) :=
  setV_ext h.1 (meetS_ok hL) fun c hc => by rw [h.2 c hc, has_meet]; simp [hc]
theorem all_take {L : List (Nat → Nat)} {b i : Nat} (hi : i < L.length) : (L.take (i + 1)).all (fun t => hasB t b) = ((L.take i).all (fun t => hasB t b) && hasB L[i] b) := by
  rw [List.take_succ_eq_append_getElem hi, List.all_append]; simp

theorem rs_loadcells {ops : Array Oper} {o : Oper} {a : Act} {w : World} {x : Operand} {B off : Nat} {s : Nat → Nat} {D : Prop} (hg : Region.wanted o (yielded ops a.tmps) = true) (hop : o.op = Op.load 39 x)
    (hx : a.eval x = .pointer (some ⟨B, off, none⟩)) (hB : ∀ k, k < 4 → w.cell? ⟨B, off + k, none⟩ = some (.int .u64 (s k))) (hD : ¬ D) : RStep Try.prog ops o a w (fun v _ => v = setV s ∧ (D → w.heap.size ≤ blk v)) := by
  have k0 := hB 0 (by omega); have k1 := hB 1 (by omega); have k2 := hB 2 (by omega); have k3 := hB 3 (by omega)
  rw [Nat.add_zero] at k0
  refine rs_val hg (v := setV s) (w' := w) ?_ (Below.refl _ w) ⟨rfl, fun h => (hD h).elim⟩
  unfold setV
  simp only [execOp, hop, hx]
  simp [go_sem, k0, k1, k2, k3]

set_option maxRecDepth 100000 in
set_option maxHeartbeats 2000000 in
theorem ref_Range (lo hi : Nat) (hlo : lo ≤ 255) (hhi : hi ≤ 255) (w : World) :
    Calls Try.prog 27 #[.int .u8 lo, .int .u8 hi] w fun e w' => e = .returned (setV (rangeS lo (hi + 1 - lo))) ∧ Below w.heap.size w w' := by
  have b1 : SBox (w.alloc (.cells (setC emptyS) 39)) w.heap.size 39 emptyS := SBox.new w _ _
  have b2 : SBox ((w.alloc (.cells (setC emptyS) 39)).alloc (.cells (setC emptyS) 39)) w.heap.size 39 emptyS := b1.alloc _
  have e2 : SBox ((w.alloc (.cells (setC emptyS) 39)).alloc (.cells (setC emptyS) 39)) (w.heap.size + 1) 39 emptyS := by have := SBox.new (w.alloc (.cells (setC emptyS) 39)) 39 emptyS; rwa [World.size_alloc] at this
  have bel : Below w.heap.size w ((w.alloc (.cells (setC emptyS) 39)).alloc (.cells (setC emptyS) 39)) := ((Below.refl _ w).alloc (Nat.le_refl _) _).alloc (by simp) _
  clear b1
  go_enter Try.func27, Try.ntmps27
  go_wp2_with fail
  go_loopw [6] (fun i wr => ∃ m : Nat, m ≤ hi + 1 - lo ∧ i = .int .i64 ((lo + m : Nat) : Int) ∧ Hid (SBox wr (w.heap.size + 1) 39 (rangeS lo m) ∧ SBox wr w.heap.size 39 emptyS ∧ Below w.heap.size w wr ∧ True)) (fun i _ => 256 - (intOf i).toNat)
  case atStart => exact ⟨0, by omega, rfl, e2, b2, bel, trivial⟩
  case round =>
    clear e2 b2 bel
    obtain ⟨m, hm, rfl, H⟩ := hrel
    obtain ⟨n, hn⟩ : ∃ n, lo + m = n := ⟨_, rfl⟩
    rw [hn]
    have HN := Lib.hid hn; clear hn
    have hn2 : n ≤ hi + 1 ∨ n = lo := by have := HN.out; omega
    by_cases hlt : n ≤ hi
    · have hnext := rangeS_succ lo m
      rw [HN.out] at hnext
      have hS : SetOk (rangeS lo m) := ofS_ok _
      have Hnext := Lib.hid hnext; clear hnext
      have HS := Lib.hid hS; clear hS
      generalize rangeS lo m = S at H Hnext HS
      go_upto_region 5 with fail
      refine wp_region_seq 4 [fun v _ => v = setV S, fun v _ => v = .int .i64 (n : Int), fun v _ => v = .int .u8 (n : Int), fun v _ => v = setV (addS S n)] (fun _ => false) (by kernel_rfl) (by kernel_rfl) ⟨stable_eq _, stable_eq _, stable_eq _, stable_eq _, trivial⟩ (fun _ _ h => by cases h) ?ob ?en
      case ob =>
        refine ⟨?_, ?_, ?_, ?_, trivial⟩ <;> intro A W h
        · exact rs_loadset (s := S) rfl rfl (h.frame 5 rfl) (H.out.1.below h.below H.out.1.lt) (by decide)
        · exact rs_move rfl rfl (h.frame 6 rfl) (by decide)
        · (have e16 : A.eval (.tmp 16) = .int .i64 (n : Int) := h.dep 1 16 rfl rfl; refine rs_pure rfl ?_ (by decide); simp only [execOp, e16]; (simp [go_sem] <;> first | done | omega | (rw [IntKind.wrap_i64]; omega) | (rw [IntKind.wrap_u8]; omega) | (rw [IntKind.wrap_u64]; omega)))
        · exact rs_calln rfl rfl (enters_of Try.func45 (by kernel_rfl) rfl) (args2 ⟨(h.dep 0 15 rfl rfl), (h.dep 2 17 rfl rfl)⟩) (ref_with S HS.out n (by omega) W) (by decide)
      case en =>
        intro vals W hbw hv _
        have v0 : vals 0 = setV S := hv 0 (by omega)
        have v1 : vals 1 = .int .i64 (n : Int) := hv 1 (by omega)
        have v2 : vals 2 = .int .u8 (n : Int) := hv 2 (by omega)
        have v3 : vals 3 = setV (addS S n) := hv 3 (by omega)
        simp only [List.take_succ_cons, List.take_zero, List.drop_succ_cons, List.drop_zero, List.drop_nil, List.take_nil, fillAll, Nat.zero_add, Nat.reduceAdd]
        rw [v0, v1, v2, v3]
        clear hv v0 v1 v2 v3
        simp only [put_lit, List.setIfInBounds_toArray, List.set_cons_succ, List.set_cons_zero]
        have s1 := H.out.1.below hbw H.out.1.lt
        have s2 := H.out.2.1.below hbw H.out.2.1.lt
        have s3 := H.out.2.2.1.trans (hbw.mono H.out.2.2.1.size)
        have f0 := s1.frozen 0; have f1 := s1.frozen 1; have f2 := s1.frozen 2; have f3 := s1.frozen 3
        have r0 := s1.cell (k := 0) (by omega); have r1 := s1.cell (k := 1) (by omega); have r2 := s1.cell (k := 2) (by omega); have r3 := s1.cell (k := 3) (by omega)
        have S1 := Lib.hid s1; clear s1
        have S2 := Lib.hid s2; clear s2
        have S3 := Lib.hid s3; clear s3
        clear hbw
        rw [show setV (addS S n) = .agg #[.int .u64 (addS S n 0), .int .u64 (addS S n 1), .int .u64 (addS S n 2), .int .u64 (addS S n 3)] from rfl]
        go_wp2_with fail
        have T1 := Lib.hid (S1.out.set4 (addS S n))
        have T2 := Lib.hid ((((S2.out.other (B' := w.heap.size + 1) (by omega) 0 (.int .u64 (addS S n 0))).other (B' := w.heap.size + 1) (by omega) 1 (.int .u64 (addS S n 1))).other (B' := w.heap.size + 1) (by omega) 2 (.int .u64 (addS S n 2))).other (B' := w.heap.size + 1) (by omega) 3 (.int .u64 (addS S n 3)))
        have T3 := Lib.hid (below_set4 S3.out (B := w.heap.size + 1) (by omega) (.int .u64 (addS S n 0)) (.int .u64 (addS S n 1)) (.int .u64 (addS S n 2)) (.int .u64 (addS S n 3)))
        go_roundw
        case rel => exact ⟨m + 1, by have := HN.out; omega, by have := HN.out; go_num, by rw [Hnext.out]; exact T1.out, T2.out, T3.out, trivial⟩
        case measure => simp [intOf]; omega
    · have hm2 : m = hi + 1 - lo := by have := HN.out; omega
      subst hm2
      have ⟨s1, s2, s3, _⟩ := H.out
      clear H
      have f0 := s2.frozen 0; have f1 := s2.frozen 1; have f2 := s2.frozen 2; have f3 := s2.frozen 3
      have r0 := s2.cell (k := 0) (by omega); have r1 := s2.cell (k := 1) (by omega); have r2 := s2.cell (k := 2) (by omega); have r3 := s2.cell (k := 3) (by omega)
      have c0 := s1.cell (k := 0) (by omega); have c1 := s1.cell (k := 1) (by omega); have c2 := s1.cell (k := 2) (by omega); have c3 := s1.cell (k := 3) (by omega)
      clear s1
      have S2 := Lib.hid s2; clear s2
      have S3 := Lib.hid s3; clear s3
      go_wp2
      have b4 := S2.out.set4 (rangeS lo (hi + 1 - lo))
      have g0 := b4.cell (k := 0) (by omega); have g1 := b4.cell (k := 1) (by omega); have g2 := b4.cell (k := 2) (by omega); have g3 := b4.cell (k := 3) (by omega)
      exact bodyPost_ret (v := setV (rangeS lo (hi + 1 - lo))) (by unfold setV; simp [results, Try.results27, go_sem, g0, g1, g2, g3]) rfl ⟨rfl, below_set4 S3.out (by omega) _ _ _ _⟩

set_option maxRecDepth 100000 in
set_option maxHeartbeats 4000000 in
theorem ref_Union (v : Value) (L : List (Nat → Nat)) (hL : ∀ t ∈ L, SetOk t) (w : World) (h : RdS w w.heap.size v L) :
    Calls Try.prog 29 #[v] w fun e w' => e = .returned (setV (unionS L)) ∧ Below w.heap.size w w' := by
  have b1 : SBox (w.alloc (.cells (setC emptyS) 39)) w.heap.size 39 emptyS := SBox.new w _ _
  have b2 : SBox ((w.alloc (.cells (setC emptyS) 39)).alloc (.cells (setC emptyS) 39)) w.heap.size 39 emptyS := b1.alloc _
  have e2 : SBox ((w.alloc (.cells (setC emptyS) 39)).alloc (.cells (setC emptyS) 39)) (w.heap.size + 1) 39 emptyS := by have := SBox.new (w.alloc (.cells (setC emptyS) 39)) 39 emptyS; rwa [World.size_alloc] at this
  have bel : Below w.heap.size w ((w.alloc (.cells (setC emptyS) 39)).alloc (.cells (setC emptyS) 39)) := ((Below.refl _ w).alloc (Nat.le_refl _) _).alloc (by simp) _
  clear b1
  have hl : L.length ≤ 9223372036854775807 := by
    rcases h with ⟨_, rfl⟩ | ⟨b, off, cap, _, _, h1, h2, _⟩
    · simp
    · unfold maxLen at h2; omega
  obtain ⟨p, cap, rfl⟩ : ∃ p cap, v = .slice p L.length cap := by rcases h with ⟨⟨q, h⟩, rfl⟩ | ⟨b, off, cap, h, _⟩ <;> exact ⟨_, _, h⟩
  have H := Lib.hid h; clear h
  have HL := Lib.hid hL; clear hL
  go_enter Try.func29, Try.ntmps29
  go_wp2_with fail
  go_loopw [4, 5] (fun n _ wr => ∃ k : Nat, k ≤ 256 ∧ n = .int .i64 k ∧ Hid (∃ S, SBox wr (w.heap.size + 1) 39 S ∧ SBox wr w.heap.size 39 emptyS ∧ Below w.heap.size w wr ∧ UTo L k 0 S)) (fun n _ _ => 256 - (intOf n).toNat)
  case atStart => exact ⟨0, by omega, rfl, _, e2, b2, bel, UTo.start L⟩
  case round =>
    clear e2 b2 bel
    obtain ⟨n, hn, rfl, G⟩ := hrel
    by_cases hlt : n < 256
    · obtain ⟨wo, rfl⟩ : ∃ wo : World, wo = wr := ⟨_, rfl⟩
      go_wp2_with fail
      go_loopw [5] (fun i wr => ∃ k : Nat, k ≤ L.length ∧ i = .int .i64 k ∧ Hid (∃ S, SBox wr (w.heap.size + 1) 39 S ∧ SBox wr w.heap.size 39 emptyS ∧ Below w.heap.size w wr ∧ UTo L n k S)) (fun i _ => L.length - (intOf i).toNat)
      case atStart => exact ⟨0, by omega, rfl, G.out⟩
      case round =>
        clear G
        obtain ⟨i, hi, rfl, G⟩ := hrel
        by_cases hil : i < L.length
        · obtain ⟨b0, off, rfl, hb0, hcell⟩ : ∃ b0 off, p = some ⟨b0, off, none⟩ ∧ b0 < w.heap.size ∧ ∀ k, k < 4 → w.cell? ⟨b0, off + i * 4 + k, none⟩ = some (.int .u64 (L[i] k)) := by
            rcases H.out with ⟨⟨q, h⟩, h'⟩ | ⟨b, off, cap, h, h1, _, _, h4⟩
            · subst h'; simp at hil
            · injection h with h2 _ _; exact ⟨b, off, h2, h1, fun k hk => h4 i hil k hk⟩
          obtain ⟨S, G⟩ : ∃ S, Hid (SBox wr (w.heap.size + 1) 39 S ∧ SBox wr w.heap.size 39 emptyS ∧ Below w.heap.size w wr ∧ UTo L n i S) := by obtain ⟨S, h⟩ := G.out; exact ⟨S, h⟩
          have hOk := HL.out L[i] (List.getElem_mem hil)
          have hHit := fun h : hasB L[i] n = true => G.out.2.2.2.hit hil h
          have hMiss := fun h : hasB L[i] n = false => G.out.2.2.2.miss hil h
          have HOK := Lib.hid hOk; clear hOk
          have HHit := Lib.hid hHit; clear hHit
          have HMiss := Lib.hid hMiss; clear hMiss
          have HC := Lib.hid hcell; clear hcell
          generalize L[i] = t at HOK HHit HMiss HC
          go_upto_region 8 with fail
          refine wp_region_seq 7 [fun v _ => v = .slice (some ⟨b0, off, none⟩) L.length cap, fun v _ => v = .int .i64 (i : Int), fun v _ => v = .pointer (some ⟨b0, off + i * 4, none⟩), fun v _ => v = setV t, fun v _ => v = .int .i64 (n : Int), fun v _ => v = .int .u8 (n : Int), fun v _ => v = .bool (hasB t n)] (fun _ => false) (by kernel_rfl) (by kernel_rfl) ⟨stable_eq _, stable_eq _, stable_eq _, stable_eq _, stable_eq _, stable_eq _, stable_eq _, trivial⟩ (fun _ _ h => by cases h) ?ob ?en
          case ob =>
            refine ⟨?_, ?_, ?_, ?_, ?_, ?_, ?_, trivial⟩ <;> intro A W h
            · exact rs_move rfl rfl (h.frame 0 rfl) (by decide)
            · exact rs_move rfl rfl (h.frame 5 rfl) (by decide)
            · exact rs_idx (sz := 4) Try.underlying36 (fun w => by kernel_rfl) rfl rfl (h.dep 0 16 rfl rfl) (h.dep 1 17 rfl rfl) (by omega) (by omega) (by decide)
            · exact rs_loadcells rfl rfl (h.dep 2 18 rfl rfl) (fun k hk => ((G.out.2.2.1.trans (h.below.mono G.out.2.2.1.size)).cell (p := ⟨b0, off + i * 4 + k, none⟩) hb0).trans (HC.out k hk)) (by decide)
            · exact rs_move rfl rfl (h.frame 4 rfl) (by decide)
            · (have e20 : A.eval (.tmp 20) = .int .i64 (n : Int) := h.dep 4 20 rfl rfl; refine rs_pure rfl ?_ (by decide); simp only [execOp, e20]; (simp [go_sem] <;> first | done | omega | (rw [IntKind.wrap_i64]; omega) | (rw [IntKind.wrap_u8]; omega) | (rw [IntKind.wrap_u64]; omega)))
            · exact rs_calln rfl rfl (enters_of Try.func48 (by kernel_rfl) rfl) (args2 ⟨(h.dep 3 19 rfl rfl), (h.dep 5 21 rfl rfl)⟩) (ref_Has t HOK.out n (by omega) W) (by decide)
          case en =>
            intro vals W hbw hv _
            have v0 : vals 0 = .slice (some ⟨b0, off, none⟩) L.length cap := hv 0 (by omega)
            have v1 : vals 1 = .int .i64 (i : Int) := hv 1 (by omega)
            have v2 : vals 2 = .pointer (some ⟨b0, off + i * 4, none⟩) := hv 2 (by omega)
            have v3 : vals 3 = setV t := hv 3 (by omega)
            have v4 : vals 4 = .int .i64 (n : Int) := hv 4 (by omega)
            have v5 : vals 5 = .int .u8 (n : Int) := hv 5 (by omega)
            have v6 : vals 6 = .bool (hasB t n) := hv 6 (by omega)
            simp only [List.take_succ_cons, List.take_zero, List.drop_succ_cons, List.drop_zero, List.drop_nil, List.take_nil, fillAll, Nat.zero_add, Nat.reduceAdd]
            rw [v0, v1, v2, v3, v4, v5, v6]
            clear hv v0 v1 v2 v3 v4 v5 v6
            simp only [put_lit, List.setIfInBounds_toArray, List.set_cons_succ, List.set_cons_zero]
            have G9 : Hid (SBox W (w.heap.size + 1) 39 S ∧ SBox W w.heap.size 39 emptyS ∧ Below w.heap.size w W ∧ UTo L n i S) := ⟨G.out.1.below hbw G.out.1.lt, G.out.2.1.below hbw G.out.2.1.lt, G.out.2.2.1.trans (hbw.mono G.out.2.2.1.size), G.out.2.2.2⟩
            clear G hbw
            cases hb : hasB t n with
            | false =>
              have U := Lib.hid (HMiss.out hb); clear hb
              go_wp2_with fail
              go_roundw
              case rel => exact ⟨i + 1, by omega, by go_num, S, G9.out.1, G9.out.2.1, G9.out.2.2.1, U.out⟩
              case measure => simp [intOf]; omega
            | true =>
              have U := Lib.hid (HHit.out hb); clear hb
              go_upto_region 9 with fail
              refine wp_region_seq 4 [fun v _ => v = setV S, fun v _ => v = .int .i64 (n : Int), fun v _ => v = .int .u8 (n : Int), fun v _ => v = setV (addS S n)] (fun _ => false) (by kernel_rfl) (by kernel_rfl) ⟨stable_eq _, stable_eq _, stable_eq _, stable_eq _, trivial⟩ (fun _ _ h => by cases h) ?ob ?en
              case ob =>
                refine ⟨?_, ?_, ?_, ?_, trivial⟩ <;> intro A W h
                · exact rs_loadset (s := S) rfl rfl (h.frame 3 rfl) (G9.out.1.below h.below G9.out.1.lt) (by decide)
                · exact rs_move rfl rfl (h.frame 4 rfl) (by decide)
                · (have e24 : A.eval (.tmp 24) = .int .i64 (n : Int) := h.dep 1 24 rfl rfl; refine rs_pure rfl ?_ (by decide); simp only [execOp, e24]; (simp [go_sem] <;> first | done | omega | (rw [IntKind.wrap_i64]; omega) | (rw [IntKind.wrap_u8]; omega) | (rw [IntKind.wrap_u64]; omega)))
                · exact rs_calln rfl rfl (enters_of Try.func45 (by kernel_rfl) rfl) (args2 ⟨(h.dep 0 23 rfl rfl), (h.dep 2 25 rfl rfl)⟩) (ref_with S G9.out.2.2.2.1 n (by omega) W) (by decide)
              case en =>
                intro vals W hbw hv _
                have v0 : vals 0 = setV S := hv 0 (by omega)
                have v1 : vals 1 = .int .i64 (n : Int) := hv 1 (by omega)
                have v2 : vals 2 = .int .u8 (n : Int) := hv 2 (by omega)
                have v3 : vals 3 = setV (addS S n) := hv 3 (by omega)
                simp only [List.take_succ_cons, List.take_zero, List.drop_succ_cons, List.drop_zero, List.drop_nil, List.take_nil, fillAll, Nat.zero_add, Nat.reduceAdd]
                rw [v0, v1, v2, v3]
                clear hv v0 v1 v2 v3
                simp only [put_lit, List.setIfInBounds_toArray, List.set_cons_succ, List.set_cons_zero]
                have s1 := G9.out.1.below hbw G9.out.1.lt
                have s2 := G9.out.2.1.below hbw G9.out.2.1.lt
                have s3 := G9.out.2.2.1.trans (hbw.mono G9.out.2.2.1.size)
                have f0 := s1.frozen 0; have f1 := s1.frozen 1; have f2 := s1.frozen 2; have f3 := s1.frozen 3
                have r0 := s1.cell (k := 0) (by omega); have r1 := s1.cell (k := 1) (by omega); have r2 := s1.cell (k := 2) (by omega); have r3 := s1.cell (k := 3) (by omega)
                have S1 := Lib.hid s1; clear s1
                have S2 := Lib.hid s2; clear s2
                have S3 := Lib.hid s3; clear s3
                clear hbw
                rw [show setV (addS S n) = .agg #[.int .u64 (addS S n 0), .int .u64 (addS S n 1), .int .u64 (addS S n 2), .int .u64 (addS S n 3)] from rfl]
                go_wp2_with fail
                have T1 := Lib.hid (S1.out.set4 (addS S n))
                have T2 := Lib.hid ((((S2.out.other (B' := w.heap.size + 1) (by omega) 0 (.int .u64 (addS S n 0))).other (B' := w.heap.size + 1) (by omega) 1 (.int .u64 (addS S n 1))).other (B' := w.heap.size + 1) (by omega) 2 (.int .u64 (addS S n 2))).other (B' := w.heap.size + 1) (by omega) 3 (.int .u64 (addS S n 3)))
                have T3 := Lib.hid (below_set4 S3.out (B := w.heap.size + 1) (by omega) (.int .u64 (addS S n 0)) (.int .u64 (addS S n 1)) (.int .u64 (addS S n 2)) (.int .u64 (addS S n 3)))
                go_roundw
                case rel => exact ⟨i + 1, by omega, by go_num, addS S n, T1.out, T2.out, T3.out, U.out⟩
                case measure => simp [intOf]; omega
        · obtain rfl : i = L.length := by omega
          go_wp2_with fail
          go_roundw
          case rel => obtain ⟨S, g1, g2, g3, g4⟩ := G.out; exact ⟨n + 1, by omega, by go_num, S, g1, g2, g3, g4.next⟩
          case measure => simp [intOf]; omega
    · obtain rfl : n = 256 := by omega
      obtain ⟨S, s1, s2, s3, hu⟩ := G.out
      have HU := Lib.hid (hu.done HL.out); clear hu G
      have f0 := s2.frozen 0; have f1 := s2.frozen 1; have f2 := s2.frozen 2; have f3 := s2.frozen 3
      have r0 := s2.cell (k := 0) (by omega); have r1 := s2.cell (k := 1) (by omega); have r2 := s2.cell (k := 2) (by omega); have r3 := s2.cell (k := 3) (by omega)
      have c0 := s1.cell (k := 0) (by omega); have c1 := s1.cell (k := 1) (by omega); have c2 := s1.cell (k := 2) (by omega); have c3 := s1.cell (k := 3) (by omega)
      clear s1
      have S2 := Lib.hid s2; clear s2
      have S3 := Lib.hid s3; clear s3
      go_wp2
      have b4 := S2.out.set4 (S)
      have g0 := b4.cell (k := 0) (by omega); have g1 := b4.cell (k := 1) (by omega); have g2 := b4.cell (k := 2) (by omega); have g3 := b4.cell (k := 3) (by omega)
      exact bodyPost_ret (v := setV (S)) (by unfold setV; simp [results, Try.results29, go_sem, g0, g1, g2, g3]) rfl ⟨by rw [HU.out], below_set4 S3.out (by omega) _ _ _ _⟩

set_option maxRecDepth 100000 in
set_option maxHeartbeats 4000000 in
theorem ref_Meet (v : Value) (L : List (Nat → Nat)) (hL : ∀ t ∈ L, SetOk t) (w : World) (h : RdS w w.heap.size v L) :
    Calls Try.prog 31 #[v] w fun e w' => e = .returned (setV (meetS L)) ∧ Below w.heap.size w w' := by
  have b1 : SBox (w.alloc (.cells (setC emptyS) 39)) w.heap.size 39 emptyS := SBox.new w _ _
  have b2 : SBox ((w.alloc (.cells (setC emptyS) 39)).alloc (.cells (setC emptyS) 39)) w.heap.size 39 emptyS := b1.alloc _
  have e2 : SBox ((w.alloc (.cells (setC emptyS) 39)).alloc (.cells (setC emptyS) 39)) (w.heap.size + 1) 39 emptyS := by have := SBox.new (w.alloc (.cells (setC emptyS) 39)) 39 emptyS; rwa [World.size_alloc] at this
  have bel : Below w.heap.size w ((w.alloc (.cells (setC emptyS) 39)).alloc (.cells (setC emptyS) 39)) := ((Below.refl _ w).alloc (Nat.le_refl _) _).alloc (by simp) _
  clear b1
  have hl : L.length ≤ 9223372036854775807 := by
    rcases h with ⟨_, rfl⟩ | ⟨b, off, cap, _, _, h1, h2, _⟩
    · simp
    · unfold maxLen at h2; omega
  obtain ⟨p, cap, rfl⟩ : ∃ p cap, v = .slice p L.length cap := by rcases h with ⟨⟨q, h⟩, rfl⟩ | ⟨b, off, cap, h, _⟩ <;> exact ⟨_, _, h⟩
  have H := Lib.hid h; clear h
  have HL := Lib.hid hL; clear hL
  go_enter Try.func31, Try.ntmps31
  go_wp2_with fail
  go_loopw [4, 5, 6] (fun n _ _ wr => ∃ k : Nat, k ≤ 256 ∧ n = .int .i64 k ∧ Hid (∃ S, SBox wr (w.heap.size + 1) 39 S ∧ SBox wr w.heap.size 39 emptyS ∧ Below w.heap.size w wr ∧ MTo L k S)) (fun n _ _ _ => 256 - (intOf n).toNat)
  case atStart => exact ⟨0, by omega, rfl, _, e2, b2, bel, MTo.start L⟩
  case round =>
    clear e2 b2 bel
    obtain ⟨n, hn, rfl, G⟩ := hrel
    by_cases hlt : n < 256
    · obtain ⟨wo, rfl⟩ : ∃ wo : World, wo = wr := ⟨_, rfl⟩
      obtain ⟨S, G⟩ : ∃ S, Hid (SBox wo (w.heap.size + 1) 39 S ∧ SBox wo w.heap.size 39 emptyS ∧ Below w.heap.size w wo ∧ MTo L n S) := by obtain ⟨S, h⟩ := G.out; exact ⟨S, h⟩
      go_wp2_with fail
      go_loopw [5, 6] (fun a i wr => ∃ k : Nat, k ≤ L.length ∧ i = .int .i64 k ∧ a = .bool ((L.take k).all (fun t => hasB t n)) ∧ Hid (SBox wr (w.heap.size + 1) 39 S ∧ SBox wr w.heap.size 39 emptyS ∧ Below w.heap.size w wr ∧ MTo L n S)) (fun _ i _ => L.length - (intOf i).toNat)
      case atStart => exact ⟨0, by omega, rfl, by simp, G.out⟩
      case round =>
        clear G
        obtain ⟨i, hi, rfl, rfl, G⟩ := hrel
        by_cases hil : i < L.length
        · obtain ⟨b0, off, rfl, hb0, hcell⟩ : ∃ b0 off, p = some ⟨b0, off, none⟩ ∧ b0 < w.heap.size ∧ ∀ k, k < 4 → w.cell? ⟨b0, off + i * 4 + k, none⟩ = some (.int .u64 (L[i] k)) := by
            rcases H.out with ⟨⟨q, h⟩, h'⟩ | ⟨b, off, cap, h, h1, _, _, h4⟩
            · subst h'; simp at hil
            · injection h with h2 _ _; exact ⟨b, off, h2, h1, fun k hk => h4 i hil k hk⟩
          have hOk := HL.out L[i] (List.getElem_mem hil)
          have HOK := Lib.hid hOk; clear hOk
          have HA := Lib.hid (all_take (b := n) hil)
          have HC := Lib.hid hcell; clear hcell
          generalize L[i] = t at HOK HA HC
          generalize (L.take i).all (fun t => hasB t n) = fl at HA
          cases fl with
          | true =>
            have HA' := Lib.hid (HA.out.trans (Bool.true_and _)); clear HA
            go_upto_region 9 with fail
            refine wp_region_seq 10 [fun v _ => v = .bool true, fun v _ => v = .bool true, fun v _ => v = .slice (some ⟨b0, off, none⟩) L.length cap, fun v _ => v = .int .i64 (i : Int), fun v _ => v = .pointer (some ⟨b0, off + i * 4, none⟩), fun v _ => v = setV t, fun v _ => v = .int .i64 (n : Int), fun v _ => v = .int .u8 (n : Int), fun v _ => v = .bool (hasB t n), fun v _ => v = .bool (hasB t n)] (fun _ => false) (by kernel_rfl) (by kernel_rfl) ⟨stable_eq _, stable_eq _, stable_eq _, stable_eq _, stable_eq _, stable_eq _, stable_eq _, stable_eq _, stable_eq _, stable_eq _, trivial⟩ (fun _ _ h => by cases h) ?ob ?en
            case ob =>
              refine ⟨?_, ?_, ?_, ?_, ?_, ?_, ?_, ?_, ?_, ?_, trivial⟩ <;> intro A W h
              · exact rs_move rfl rfl (h.frame 5 rfl) (by decide)
              · exact rs_move rfl rfl (h.dep 0 17 rfl rfl) (by decide)
              · exact rs_move (wanted_g rfl (yielded_of (d := 18) rfl (h.dep 1 18 rfl rfl))) rfl (h.frame 0 rfl) (by decide)
              · exact rs_move (wanted_g rfl (yielded_of (d := 18) rfl (h.dep 1 18 rfl rfl))) rfl (h.frame 6 rfl) (by decide)
              · exact rs_idx (sz := 4) Try.underlying36 (fun w => by kernel_rfl) (wanted_g rfl (yielded_of (d := 18) rfl (h.dep 1 18 rfl rfl))) rfl (h.dep 2 19 rfl rfl) (h.dep 3 20 rfl rfl) (by omega) (by omega) (by decide)
              · exact rs_loadcells (wanted_g rfl (yielded_of (d := 18) rfl (h.dep 1 18 rfl rfl))) rfl (h.dep 4 21 rfl rfl) (fun k hk => ((G.out.2.2.1.trans (h.below.mono G.out.2.2.1.size)).cell (p := ⟨b0, off + i * 4 + k, none⟩) hb0).trans (HC.out k hk)) (by decide)
              · exact rs_move (wanted_g rfl (yielded_of (d := 18) rfl (h.dep 1 18 rfl rfl))) rfl (h.frame 4 rfl) (by decide)
              · (have e23 : A.eval (.tmp 23) = .int .i64 (n : Int) := h.dep 6 23 rfl rfl; refine rs_pure (wanted_g rfl (yielded_of (d := 18) rfl (h.dep 1 18 rfl rfl))) ?_ (by decide); simp only [execOp, e23]; (simp [go_sem] <;> first | done | omega | (rw [IntKind.wrap_i64]; omega) | (rw [IntKind.wrap_u8]; omega) | (rw [IntKind.wrap_u64]; omega)))
              · exact rs_calln (wanted_g rfl (yielded_of (d := 18) rfl (h.dep 1 18 rfl rfl))) rfl (enters_of Try.func48 (by kernel_rfl) rfl) (args2 ⟨(h.dep 5 22 rfl rfl), (h.dep 7 24 rfl rfl)⟩) (ref_Has t HOK.out n (by omega) W) (by decide)
              · exact rs_pick rfl rfl (h.dep 1 18 rfl rfl) (h.dep 8 25 rfl rfl) (by decide)
            case en =>
              intro vals W hbw hv _
              have v0 : vals 0 = .bool true := hv 0 (by omega)
              have v1 : vals 1 = .bool true := hv 1 (by omega)
              have v2 : vals 2 = .slice (some ⟨b0, off, none⟩) L.length cap := hv 2 (by omega)
              have v3 : vals 3 = .int .i64 (i : Int) := hv 3 (by omega)
              have v4 : vals 4 = .pointer (some ⟨b0, off + i * 4, none⟩) := hv 4 (by omega)
              have v5 : vals 5 = setV t := hv 5 (by omega)
              have v6 : vals 6 = .int .i64 (n : Int) := hv 6 (by omega)
              have v7 : vals 7 = .int .u8 (n : Int) := hv 7 (by omega)
              have v8 : vals 8 = .bool (hasB t n) := hv 8 (by omega)
              have v9 : vals 9 = .bool (hasB t n) := hv 9 (by omega)
              simp only [List.take_succ_cons, List.take_zero, List.drop_succ_cons, List.drop_zero, List.drop_nil, List.take_nil, fillAll, Nat.zero_add, Nat.reduceAdd]
              rw [v0, v1, v2, v3, v4, v5, v6, v7, v8, v9]
              clear hv v0 v1 v2 v3 v4 v5 v6 v7 v8 v9
              simp only [put_lit, List.setIfInBounds_toArray, List.set_cons_succ, List.set_cons_zero]
              have G9 : Hid (SBox W (w.heap.size + 1) 39 S ∧ SBox W w.heap.size 39 emptyS ∧ Below w.heap.size w W ∧ MTo L n S) := ⟨G.out.1.below hbw G.out.1.lt, G.out.2.1.below hbw G.out.2.1.lt, G.out.2.2.1.trans (hbw.mono G.out.2.2.1.size), G.out.2.2.2⟩
              clear G hbw
              go_wp2_with fail
              go_roundw
              case rel => exact ⟨i + 1, by omega, by go_num, by rw [HA'.out], G9.out⟩
              case measure => simp [intOf]; omega
          | false =>
            have HA' := Lib.hid (HA.out.trans (Bool.false_and _)); clear HA
            go_upto_region 9 with fail
            refine wp_region_seq 10 [fun v _ => v = .bool false, fun v _ => v = .bool false, fun v _ => v = undef, fun v _ => v = undef, fun v _ => v = undef, fun v _ => v = undef, fun v _ => v = undef, fun v _ => v = undef, fun v _ => v = undef, fun v _ => v = Value.bool false] (fun _ => false) (by kernel_rfl) (by kernel_rfl) ⟨stable_eq _, stable_eq _, stable_eq _, stable_eq _, stable_eq _, stable_eq _, stable_eq _, stable_eq _, stable_eq _, stable_eq _, trivial⟩ (fun _ _ h => by cases h) ?ob ?en
            case ob =>
              refine ⟨?_, ?_, ?_, ?_, ?_, ?_, ?_, ?_, ?_, ?_, trivial⟩ <;> intro A W h
              · exact rs_move rfl rfl (h.frame 5 rfl) (by decide)
              · exact rs_move rfl rfl (h.dep 0 17 rfl rfl) (by decide)
              · exact rs_skip (not_wanted_g rfl (yielded_of (d := 18) rfl (h.dep 1 18 rfl rfl)) (by decide)) ⟨rfl, fun h => by cases h⟩
              · exact rs_skip (not_wanted_g rfl (yielded_of (d := 18) rfl (h.dep 1 18 rfl rfl)) (by decide)) ⟨rfl, fun h => by cases h⟩
              · exact rs_skip (not_wanted_g rfl (yielded_of (d := 18) rfl (h.dep 1 18 rfl rfl)) (by decide)) ⟨rfl, fun h => by cases h⟩
              · exact rs_skip (not_wanted_g rfl (yielded_of (d := 18) rfl (h.dep 1 18 rfl rfl)) (by decide)) ⟨rfl, fun h => by cases h⟩
              · exact rs_skip (not_wanted_g rfl (yielded_of (d := 18) rfl (h.dep 1 18 rfl rfl)) (by decide)) ⟨rfl, fun h => by cases h⟩
              · exact rs_skip (not_wanted_g rfl (yielded_of (d := 18) rfl (h.dep 1 18 rfl rfl)) (by decide)) ⟨rfl, fun h => by cases h⟩
              · exact rs_skip (not_wanted_g rfl (yielded_of (d := 18) rfl (h.dep 1 18 rfl rfl)) (by decide)) ⟨rfl, fun h => by cases h⟩
              · exact rs_pick rfl rfl (h.dep 1 18 rfl rfl) (rfl) (by decide)
            case en =>
              intro vals W hbw hv _
              have v0 : vals 0 = .bool false := hv 0 (by omega)
              have v1 : vals 1 = .bool false := hv 1 (by omega)
              have v2 : vals 2 = undef := hv 2 (by omega)
              have v3 : vals 3 = undef := hv 3 (by omega)
              have v4 : vals 4 = undef := hv 4 (by omega)
              have v5 : vals 5 = undef := hv 5 (by omega)
              have v6 : vals 6 = undef := hv 6 (by omega)
              have v7 : vals 7 = undef := hv 7 (by omega)
              have v8 : vals 8 = undef := hv 8 (by omega)
              have v9 : vals 9 = Value.bool false := hv 9 (by omega)
              simp only [List.take_succ_cons, List.take_zero, List.drop_succ_cons, List.drop_zero, List.drop_nil, List.take_nil, fillAll, Nat.zero_add, Nat.reduceAdd]
              rw [v0, v1, v2, v3, v4, v5, v6, v7, v8, v9]
              clear hv v0 v1 v2 v3 v4 v5 v6 v7 v8 v9
              simp only [put_lit, List.setIfInBounds_toArray, List.set_cons_succ, List.set_cons_zero]
              have G9 : Hid (SBox W (w.heap.size + 1) 39 S ∧ SBox W w.heap.size 39 emptyS ∧ Below w.heap.size w W ∧ MTo L n S) := ⟨G.out.1.below hbw G.out.1.lt, G.out.2.1.below hbw G.out.2.1.lt, G.out.2.2.1.trans (hbw.mono G.out.2.2.1.size), G.out.2.2.2⟩
              clear G hbw
              go_wp2_with fail
              go_roundw
              case rel => exact ⟨i + 1, by omega, by go_num, by rw [HA'.out], G9.out⟩
              case measure => simp [intOf]; omega
        · obtain rfl : i = L.length := by omega
          rw [List.take_length]
          cases hb : L.all (fun t => hasB t n) with
          | false =>
            have U := Lib.hid (G.out.2.2.2.miss hb); clear hb
            go_wp2_with fail
            go_roundw
            case rel => exact ⟨n + 1, by omega, by go_num, S, G.out.1, G.out.2.1, G.out.2.2.1, U.out⟩
            case measure => simp [intOf]; omega
          | true =>
            have U := Lib.hid (G.out.2.2.2.hit hb); clear hb
            go_upto_region 11 with fail
            refine wp_region_seq 4 [fun v _ => v = setV S, fun v _ => v = .int .i64 (n : Int), fun v _ => v = .int .u8 (n : Int), fun v _ => v = setV (addS S n)] (fun _ => false) (by kernel_rfl) (by kernel_rfl) ⟨stable_eq _, stable_eq _, stable_eq _, stable_eq _, trivial⟩ (fun _ _ h => by cases h) ?ob ?en
            case ob =>
              refine ⟨?_, ?_, ?_, ?_, trivial⟩ <;> intro A W h
              · exact rs_loadset (s := S) rfl rfl (h.frame 3 rfl) (G.out.1.below h.below G.out.1.lt) (by decide)
              · exact rs_move rfl rfl (h.frame 4 rfl) (by decide)
              · (have e29 : A.eval (.tmp 29) = .int .i64 (n : Int) := h.dep 1 29 rfl rfl; refine rs_pure rfl ?_ (by decide); simp only [execOp, e29]; (simp [go_sem] <;> first | done | omega | (rw [IntKind.wrap_i64]; omega) | (rw [IntKind.wrap_u8]; omega) | (rw [IntKind.wrap_u64]; omega)))
              · exact rs_calln rfl rfl (enters_of Try.func45 (by kernel_rfl) rfl) (args2 ⟨(h.dep 0 28 rfl rfl), (h.dep 2 30 rfl rfl)⟩) (ref_with S G.out.2.2.2.1 n (by omega) W) (by decide)
            case en =>
              intro vals W hbw hv _
              have v0 : vals 0 = setV S := hv 0 (by omega)
              have v1 : vals 1 = .int .i64 (n : Int) := hv 1 (by omega)
              have v2 : vals 2 = .int .u8 (n : Int) := hv 2 (by omega)
              have v3 : vals 3 = setV (addS S n) := hv 3 (by omega)
              simp only [List.take_succ_cons, List.take_zero, List.drop_succ_cons, List.drop_zero, List.drop_nil, List.take_nil, fillAll, Nat.zero_add, Nat.reduceAdd]
              rw [v0, v1, v2, v3]
              clear hv v0 v1 v2 v3
              simp only [put_lit, List.setIfInBounds_toArray, List.set_cons_succ, List.set_cons_zero]
              have s1 := G.out.1.below hbw G.out.1.lt
              have s2 := G.out.2.1.below hbw G.out.2.1.lt
              have s3 := G.out.2.2.1.trans (hbw.mono G.out.2.2.1.size)
              have f0 := s1.frozen 0; have f1 := s1.frozen 1; have f2 := s1.frozen 2; have f3 := s1.frozen 3
              have r0 := s1.cell (k := 0) (by omega); have r1 := s1.cell (k := 1) (by omega); have r2 := s1.cell (k := 2) (by omega); have r3 := s1.cell (k := 3) (by omega)
              have S1 := Lib.hid s1; clear s1
              have S2 := Lib.hid s2; clear s2
              have S3 := Lib.hid s3; clear s3
              clear hbw
              rw [show setV (addS S n) = .agg #[.int .u64 (addS S n 0), .int .u64 (addS S n 1), .int .u64 (addS S n 2), .int .u64 (addS S n 3)] from rfl]
              go_wp2_with fail
              have T1 := Lib.hid (S1.out.set4 (addS S n))
              have T2 := Lib.hid ((((S2.out.other (B' := w.heap.size + 1) (by omega) 0 (.int .u64 (addS S n 0))).other (B' := w.heap.size + 1) (by omega) 1 (.int .u64 (addS S n 1))).other (B' := w.heap.size + 1) (by omega) 2 (.int .u64 (addS S n 2))).other (B' := w.heap.size + 1) (by omega) 3 (.int .u64 (addS S n 3)))
              have T3 := Lib.hid (below_set4 S3.out (B := w.heap.size + 1) (by omega) (.int .u64 (addS S n 0)) (.int .u64 (addS S n 1)) (.int .u64 (addS S n 2)) (.int .u64 (addS S n 3)))
              go_roundw
              case rel => exact ⟨n + 1, by omega, by go_num, addS S n, T1.out, T2.out, T3.out, U.out⟩
              case measure => simp [intOf]; omega
    · obtain rfl : n = 256 := by omega
      obtain ⟨S, s1, s2, s3, hu⟩ := G.out
      have HU := Lib.hid (hu.done HL.out); clear hu G
      have f0 := s2.frozen 0; have f1 := s2.frozen 1; have f2 := s2.frozen 2; have f3 := s2.frozen 3
      have r0 := s2.cell (k := 0) (by omega); have r1 := s2.cell (k := 1) (by omega); have r2 := s2.cell (k := 2) (by omega); have r3 := s2.cell (k := 3) (by omega)
      have c0 := s1.cell (k := 0) (by omega); have c1 := s1.cell (k := 1) (by omega); have c2 := s1.cell (k := 2) (by omega); have c3 := s1.cell (k := 3) (by omega)
      clear s1
      have S2 := Lib.hid s2; clear s2
      have S3 := Lib.hid s3; clear s3
      go_wp2
      have b4 := S2.out.set4 (S)
      have g0 := b4.cell (k := 0) (by omega); have g1 := b4.cell (k := 1) (by omega); have g2 := b4.cell (k := 2) (by omega); have g3 := b4.cell (k := 3) (by omega)
      exact bodyPost_ret (v := setV (S)) (by unfold setV; simp [results, Try.results31, go_sem, g0, g1, g2, g3]) rfl ⟨by rw [HU.out], below_set4 S3.out (by omega) _ _ _ _⟩

end Go.Proofs.Ytkkilngihkdnaaa
