/-
  The walks of the sets' reference: Of, Range, Union, Meet.
-/
import Derived.Test.YtkkilngihkdnaaaRef08
import Derived.Test.YtkkilngihkdnaaaSetLaw
namespace Go.Proofs.Ytkkilngihkdnaaa
open Go.RowKit Go.Shelf
attribute [local go_sem] Oper.semAt_some
set_option linter.unusedSimpArgs false

set_option maxRecDepth 100000 in
set_option maxHeartbeats 2000000 in
theorem ref_Of (v : Value) (xs : List Int) (hx : ∀ x ∈ xs, 0 ≤ x ∧ x ≤ 255) (w : World) (h : Rd w w.heap.size v (xs.map (.int .u8))) :
    Calls Try.prog 25 #[v] w fun e w' => e = .returned (setV (ofS xs)) ∧ Below w.heap.size w w' := by
  have b1 : SBox (w.alloc (.cells (setC emptyS) 39)) w.heap.size 39 emptyS := SBox.new w _ _
  have b2 : SBox ((w.alloc (.cells (setC emptyS) 39)).alloc (.cells (setC emptyS) 39)) w.heap.size 39 emptyS := b1.alloc _
  have e2 : SBox ((w.alloc (.cells (setC emptyS) 39)).alloc (.cells (setC emptyS) 39)) (w.heap.size + 1) 39 emptyS := by have := SBox.new (w.alloc (.cells (setC emptyS) 39)) 39 emptyS; rwa [World.size_alloc] at this
  have bel : Below w.heap.size w ((w.alloc (.cells (setC emptyS) 39)).alloc (.cells (setC emptyS) 39)) := ((Below.refl _ w).alloc (Nat.le_refl _) _).alloc (by simp) _
  clear b1
  have hl : xs.length ≤ 9223372036854775807 := by simpa using h.len
  obtain ⟨p, cap, rfl⟩ : ∃ p cap, v = .slice p xs.length cap := by rcases h with ⟨⟨q, h⟩, h'⟩ | ⟨b, off, cap, h, _⟩; (obtain rfl : xs = [] := by simpa using h'); exact ⟨_, _, h⟩; exact ⟨some ⟨b, off, none⟩, cap, by simpa using h⟩
  have H := Lib.hid h; clear h
  have HX := Lib.hid hx; clear hx
  go_enter Try.func25, Try.ntmps25
  go_wp2_with fail
  go_loopw [4] (fun i wr => ∃ k : Nat, k ≤ xs.length ∧ i = .int .i64 k ∧ Hid (SBox wr (w.heap.size + 1) 39 (ofS (xs.take k)) ∧ SBox wr w.heap.size 39 emptyS ∧ Below w.heap.size w wr)) (fun i _ => xs.length - (intOf i).toNat)
  case atStart => exact ⟨0, by omega, rfl, e2, b2, bel⟩
  case round =>
    clear e2 b2 bel
    obtain ⟨k, hk, rfl, G⟩ := hrel
    by_cases hlt : k < xs.length
    · obtain ⟨b0, off, rfl, hb0, hcell⟩ : ∃ b0 off, p = some ⟨b0, off, none⟩ ∧ b0 < w.heap.size ∧ w.cell? ⟨b0, off + k, none⟩ = some (.int .u8 xs[k]) := by
        rcases H.out with ⟨⟨q, h⟩, h'⟩ | ⟨b, off, cap, h, h1, _, _, h4⟩
        · simp at h'; subst h'; simp at hlt
        · injection h with h2 _ _; exact ⟨b, off, h2, h1, by have := h4 k (by simpa using hlt); simpa using this⟩
      have hxk := HX.out xs[k] (List.getElem_mem hlt)
      have hnext : ofS (xs.take (k + 1)) = addS (ofS (xs.take k)) xs[k].toNat := by rw [List.take_succ_eq_append_getElem hlt, ofS_snoc]
      have hS : SetOk (ofS (xs.take k)) := ofS_ok _
      have HN := Lib.hid hnext; clear hnext
      have HS := Lib.hid hS; clear hS
      generalize ofS (xs.take k) = S at G HN HS
      generalize xs[k] = x at hcell hxk HN
      obtain ⟨hx0, hx1⟩ := hxk
      obtain ⟨x, rfl⟩ : ∃ n : Nat, x = n := ⟨x.toNat, by omega⟩
      have HC := Lib.hid hcell; clear hcell
      go_upto_region 5 with fail
      refine wp_region_spec 6 [fun v _ => v = setV S, fun v _ => v = .slice (some ⟨b0, off, none⟩) xs.length cap, fun v _ => v = .int .i64 (k : Int), fun v _ => v = .pointer (some ⟨b0, off + k, none⟩), fun v _ => v = .int .u8 (x : Int), fun v _ => v = setV (addS S x)] (fun _ => false) (by kernel_rfl) (by kernel_rfl) (by kernel_rfl) ⟨stable_eq _, stable_eq _, stable_eq _, stable_eq _, stable_eq _, stable_eq _, trivial⟩ (fun _ _ h => by cases h) ?ob ?en
      case ob =>
        refine ⟨?_, ?_, ?_, ?_, ?_, ?_, trivial⟩ <;> intro A W h
        · exact rs_loadset (s := S) rfl rfl (h.frame 3 rfl) (G.out.1.below h.below G.out.1.lt) (by decide)
        · exact rs_move rfl rfl (h.frame 0 rfl) (by decide)
        · exact rs_move rfl rfl (h.frame 4 rfl) (by decide)
        · exact rs_idx (sz := 1) Try.underlying22 (fun w => by kernel_rfl) rfl rfl (h.dep 1 12 rfl rfl) (h.dep 2 13 rfl rfl) (by omega) (by omega) (by decide)
        · (have e14 : A.eval (.tmp 14) = .pointer (some ⟨b0, off + k, none⟩) := h.dep 3 14 rfl rfl; refine rs_pure rfl ?_ (by decide); simp only [execOp, e14]; (have q := ((G.out.2.2.trans (h.below.mono G.out.2.2.size)).cell (p := ⟨b0, off + k, none⟩) hb0).trans HC.out; simp [go_sem, q]))
        · exact rs_calln rfl rfl (enters_of Try.func45 (by kernel_rfl) rfl) (args2 ⟨(h.dep 0 11 rfl rfl), (h.dep 4 15 rfl rfl)⟩) (ref_with S HS.out x (by omega) W) (by decide)
      case en =>
        intro vals W hbw hv _
        have v0 : vals 0 = setV S := hv 0 (by omega)
        have v1 : vals 1 = .slice (some ⟨b0, off, none⟩) xs.length cap := hv 1 (by omega)
        have v2 : vals 2 = .int .i64 (k : Int) := hv 2 (by omega)
        have v3 : vals 3 = .pointer (some ⟨b0, off + k, none⟩) := hv 3 (by omega)
        have v4 : vals 4 = .int .u8 (x : Int) := hv 4 (by omega)
        have v5 : vals 5 = setV (addS S x) := hv 5 (by omega)
        simp only [List.take_succ_cons, List.take_zero, List.drop_succ_cons, List.drop_zero, List.drop_nil, List.take_nil, fillAll, Nat.zero_add, Nat.reduceAdd]
        rw [v0, v1, v2, v3, v4, v5]
        clear hv v0 v1 v2 v3 v4 v5
        simp only [put_lit, List.setIfInBounds_toArray, List.set_cons_succ, List.set_cons_zero]
        have s1 := G.out.1.below hbw G.out.1.lt
        have s2 := G.out.2.1.below hbw G.out.2.1.lt
        have s3 := G.out.2.2.trans (hbw.mono G.out.2.2.size)
        have f0 := s1.frozen 0; have f1 := s1.frozen 1; have f2 := s1.frozen 2; have f3 := s1.frozen 3
        have r0 := s1.cell (k := 0) (by omega); have r1 := s1.cell (k := 1) (by omega); have r2 := s1.cell (k := 2) (by omega); have r3 := s1.cell (k := 3) (by omega)
        have S1 := Lib.hid s1; clear s1
        have S2 := Lib.hid s2; clear s2
        have S3 := Lib.hid s3; clear s3
        have sz := G.out.1.lt
        clear hbw G
        rw [show setV (addS S x) = .agg #[.int .u64 (addS S x 0), .int .u64 (addS S x 1), .int .u64 (addS S x 2), .int .u64 (addS S x 3)] from rfl]
        go_wp2_with fail
        go_roundw
        case rel => exact ⟨k + 1, by omega, by go_num, by rw [HN.out]; exact S1.out.set4 _, (((S2.out.other (by omega) _ _).other (by omega) _ _).other (by omega) _ _).other (by omega) _ _, below_set4 S3.out (by omega) _ _ _ _⟩
        case measure => simp [intOf]; omega
    · obtain rfl : k = xs.length := by omega
      have ⟨s1, s2, s3⟩ := G.out
      rw [List.take_length] at s1
      clear G
      have f0 := s2.frozen 0; have f1 := s2.frozen 1; have f2 := s2.frozen 2; have f3 := s2.frozen 3
      have r0 := s2.cell (k := 0) (by omega); have r1 := s2.cell (k := 1) (by omega); have r2 := s2.cell (k := 2) (by omega); have r3 := s2.cell (k := 3) (by omega)
      have c0 := s1.cell (k := 0) (by omega); have c1 := s1.cell (k := 1) (by omega); have c2 := s1.cell (k := 2) (by omega); have c3 := s1.cell (k := 3) (by omega)
      clear s1
      have S2 := Lib.hid s2; clear s2
      have S3 := Lib.hid s3; clear s3
      go_wp2
      have b4 := S2.out.set4 (ofS xs)
      have g0 := b4.cell (k := 0) (by omega); have g1 := b4.cell (k := 1) (by omega); have g2 := b4.cell (k := 2) (by omega); have g3 := b4.cell (k := 3) (by omega)
      exact bodyPost_ret (v := setV (ofS xs)) (by unfold setV; simp [results, Try.results25, go_sem, g0, g1, g2, g3]) rfl ⟨rfl, below_set4 S3.out (by omega) _ _ _ _⟩

end Go.Proofs.Ytkkilngihkdnaaa
