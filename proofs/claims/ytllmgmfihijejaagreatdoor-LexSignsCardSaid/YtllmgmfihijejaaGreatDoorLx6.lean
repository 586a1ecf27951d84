/-
  Laws of walks, and walks: Ref09j Ref09k.
-/
import Derived.Test.YtllmgmfihijejaaGreatDoorLx4
import Derived.Test.YtllmgmfihijejaaGreatDoorLx5
set_option linter.unusedVariables false
set_option linter.unusedSimpArgs false
/-
  The walks of the words' reference: words.
-/
namespace Go.Proofs.YtllmgmfihijejaaGreatDoor
open Go.RowKit Go.Shelf
attribute [local go_sem] Oper.semAt_some
set_option linter.unusedSimpArgs false

theorem on_123 (w0 : World) : Calls Tryz.prog 27 #[.int .u8 123] w0 fun e w' => e = .returned (setV (ofS [123])) ∧ Below w0.heap.size w0 w' := ref_one 123 (by omega) w0
theorem at2 {L : Str} {i : Nat} (hi : i < L.length) (h : byt L i ≠ 40) : atP L i [40, 63] = false := by
  unfold atP
  have : ((40 : UInt8) == L[i]) = false := by
    rw [beq_eq_false_iff_ne]
    intro e
    exact h (by rw [byt_get hi, ← e]; rfl)
  rw [List.drop_eq_getElem_cons hi, List.isPrefixOf_cons_cons, this]
  rfl
theorem at2' {L : Str} {i : Nat} (hi : i < L.length) (h : byt L i = 40) : atP L i [40, 63] = atP L (i + 1) [63] := by
  unfold atP
  have : ((40 : UInt8) == L[i]) = true := by
    rw [beq_iff_eq]
    apply UInt8.toNat_inj.1
    rw [← byt_get hi, h]; rfl
  rw [List.drop_eq_getElem_cons hi, List.isPrefixOf_cons_cons, this, Bool.true_and]
theorem w_92 {L : Str} {i : Nat} (h : byt L i = 92) : wordP L i = orErr (slashP L i) := by unfold wordP; simp [h]
theorem w_91 {L : Str} {i : Nat} (h : byt L i = 91) : wordP L i = orErr (classP L i) := by unfold wordP; simp [h]
theorem w_40 {L : Str} {i : Nat} (h : byt L i = 40) : wordP L i = if atP L (i + 1) [63] then orErr (flagsP L i) else .ok ({ kind := 6, place := i }, i + 1) := by unfold wordP; simp [h]
theorem w_123 {L : Str} {i : Nat} (h : byt L i = 123) : wordP L i = match bracesP L i with | some (lo, hi, e) => repeatP L i lo hi e | none => .ok ({ kind := 1, place := i, set := ofS [123] }, i + 1) := by unfold wordP; simp [h]; cases bracesP L i <;> rfl
theorem w_42 {L : Str} {i : Nat} (h : byt L i = 42) : wordP L i = repeatP L i 0 (-1) (i + 1) := by unfold wordP; simp [h]
theorem w_43 {L : Str} {i : Nat} (h : byt L i = 43) : wordP L i = repeatP L i 1 (-1) (i + 1) := by unfold wordP; simp [h]
theorem w_63 {L : Str} {i : Nat} (h : byt L i = 63) : wordP L i = repeatP L i 0 1 (i + 1) := by unfold wordP; simp [h]
theorem w_46 {L : Str} {i : Nat} (h : byt L i = 46) : wordP L i = .ok ({ kind := 2, place := i }, i + 1) := by unfold wordP; simp [h, signP]
theorem w_94 {L : Str} {i : Nat} (h : byt L i = 94) : wordP L i = .ok ({ kind := 3, place := i }, i + 1) := by unfold wordP; simp [h, signP]
theorem w_36 {L : Str} {i : Nat} (h : byt L i = 36) : wordP L i = .ok ({ kind := 4, place := i }, i + 1) := by unfold wordP; simp [h, signP]
theorem w_41 {L : Str} {i : Nat} (h : byt L i = 41) : wordP L i = .ok ({ kind := 9, place := i }, i + 1) := by unfold wordP; simp [h, signP]
theorem w_124 {L : Str} {i : Nat} (h : byt L i = 124) : wordP L i = .ok ({ kind := 10, place := i }, i + 1) := by unfold wordP; simp [h, signP]
theorem w_no {L : Str} {i : Nat} (h92 : byt L i ≠ 92) (h91 : byt L i ≠ 91) (h40 : byt L i ≠ 40) (h123 : byt L i ≠ 123) (h42 : byt L i ≠ 42) (h43 : byt L i ≠ 43) (h63 : byt L i ≠ 63) (h46 : byt L i ≠ 46) (h94 : byt L i ≠ 94) (h36 : byt L i ≠ 36) (h41 : byt L i ≠ 41) (h124 : byt L i ≠ 124) : wordP L i = .ok ({ kind := 1, place := i, set := ofS [(byt L i : Int)] }, i + 1) := by unfold wordP; simp [signP, *]
theorem sign_no {c i : Nat} (h40 : c ≠ 40) (h42 : c ≠ 42) (h43 : c ≠ 43) (h63 : c ≠ 63) (h46 : c ≠ 46) (h94 : c ≠ 94) (h36 : c ≠ 36) (h41 : c ≠ 41) (h124 : c ≠ 124) : signD c i = { kind := 0, place := i } := by unfold signD; simp [*]
theorem bracesP_le {L : Str} {i lo e : Nat} {hi : Int} (h : bracesP L i = some (lo, hi, e)) (hi2 : i < L.length) : lo ≤ 101 ∧ -1 ≤ hi ∧ hi ≤ 101 ∧ i + 2 ≤ e ∧ e ≤ L.length := by
  unfold bracesP at h
  split at h
  · cases h
  · rename_i n k hn
    have h1 := numberP_le hn (by omega)
    split at h
    · rename_i ha
      have := at_le ha (by simp)
      simp at this
      cases h
      omega
    · split at h
      · rename_i ha
        have h2 := at_le ha (by simp)
        simp at h2
        split at h
        · cases h
        · rename_i m e' hm
          have h3 := numberP_le hm (by omega)
          split at h
          · rename_i hb
            have h4 := at_le hb (by simp)
            simp at h4
            cases h
            omega
          · cases h
      · split at h
        · rename_i hb
          have h4 := at_le hb (by simp)
          simp at h4
          cases h
          omega
        · cases h

theorem run_wset (i : Nat) (s : Nat → Nat) (W : World) : (Instr.build 53 #[(0, .int .i64 1), (1, .int .i64 i), (2, setV s)]).run Tryz.prog W = .ok (wordV { kind := 1, place := i, set := s }) W := by
  unfold setV; simp [go_sem]; rfl
theorem own_wset {ops : Array Oper} {rest : List Oper} {o : Oper} {a : Act} {w : World} {Q : Exit → Act → World → Prop} (hg : Region.wanted o (yielded ops a.tmps) = true) {x y : Operand} (ho : o.op = .build 53 #[(0, .const (.int .i64 1)), (1, x), (2, y)])
    {i : Nat} {s : Nat → Nat} (hx : a.eval x = .int .i64 i) (hy : a.eval y = setV s) (h : wpList Tryz.prog ops Q rest (a.put o.dst (wordV { kind := 1, place := i, set := s })) w) : wpList Tryz.prog ops Q (o :: rest) a w :=
  own_pure hg (by
    simp only [execOp, ho, List.map_toArray, List.map_cons, List.map_nil, hx, hy, ev_const, Sem.run_bind, run_wset]; rfl) h

set_option maxRecDepth 100000 in
set_option maxHeartbeats 32000000 in
theorem ref_word (L : Str) (i : Nat) (hL : L.length ≤ 2000) (hi : i < L.length) (w0 : World) : Calls Tryz.prog 13 #[.string ⟨L.toArray⟩, .int .i64 i] w0 fun e w' => RepR (wordP L i) e ∧ Below w0.heap.size w0 w' := by
  have H := Hold.start w0
  have hbl := byt_lt L i
  by_cases hc : byt L i = 92
  · have hf := fun w => ref_slash L i hL hi w
    have hw := w_92 hc
    have hsg : ∀ w, Calls Tryz.prog 20 #[.int .u8 92, .int .i64 i] w fun e w' => e = .returned (wordV { kind := 0, place := i }) ∧ Below w.heap.size w w' := fun w => ref_sign 92 i (by omega) w
    cases hs : slashP L i with
    | none =>
      rw [hs] at hf hw
      simp only [WordR] at hf
      have E := Lib.hid (show wordP L i = .error 4 by rw [hw]; rfl); clear hw hs
      go_enter Tryz.func13, Tryz.ntmps13
      go_wp2_with (first | ((with_reducible show @wpList _ _ _ ({ dst := _, op := Op.build _ #[(0, Operand.const (Value.int IntKind.i64 1)), (1, _), (2, _)], type := _, pos := _, after := _, guard := _ } :: _) _ _); refine own_wset (by first | rfl | exact wanted_g rfl (yielded_of rfl (by first | rfl | (simp only [put_lit, put_no, List.setIfInBounds_toArray, List.set_cons_succ, List.set_cons_zero, ev_tmp, ev_const, ev_glob, ev_func, List.getD_cons_succ, List.getD_cons_zero]; rfl)))) rfl rfl (by (try simp only [put_lit, put_no, List.setIfInBounds_toArray, List.set_cons_succ, List.set_cons_zero, ev_tmp, ev_const, ev_glob, ev_func, List.getD_cons_succ, List.getD_cons_zero]); with_reducible rfl) ?_) | (first | ((with_reducible refine gT ?_); (refine aT H ?_; clear H; intro w H; (try simp only [nrm, nrl, Value.cells] at H))) | ((with_reducible refine gL ?_); refine aD H ?_) | ((with_reducible refine gA ?_); (refine bA H ?_; clear H; intro b w H; (try simp only [nrm, nrl, Value.cells] at H))) | ((with_reducible refine gI ?_); refine aI ?_)) | (go_at_call 20; (with_reducible refine ch (hsg _) H ?_); clear H; intro w H) | (go_at_call 21; (with_reducible refine (hf _).mono ?_); rintro e w ⟨⟨wd, rfl⟩, hb⟩; replace H := H.call hb; clear hb))
      (refine ret_ctt Tryz.results13 rfl (by first | rfl | (simp only [put_lit, put_no, List.setIfInBounds_toArray, List.set_cons_succ, List.set_cons_zero]; rfl)) (by first | rfl | (simp only [put_lit, put_no, List.setIfInBounds_toArray, List.set_cons_succ, List.set_cons_zero]; rfl)) H (by repeat (first | (with_reducible exact At.zero) | apply At.succ)) (by first | (with_reducible exact row_Word) | (with_reducible exact row_Set)) (by rfl) rfl ?_)
      exact ⟨RepR.no (w := wd) E.out, H.below⟩
    | some p =>
      obtain ⟨d, k⟩ := p
      rw [hs] at hf hw
      simp only [WordR] at hf
      have E := Lib.hid (show wordP L i = .ok (d, k) by rw [hw]; rfl); clear hw hs
      have dk : decide ((k : Int) < 0) = false := by simp
      go_enter Tryz.func13, Tryz.ntmps13
      go_wp2_with (first | ((with_reducible show @wpList _ _ _ ({ dst := _, op := Op.build _ #[(0, Operand.const (Value.int IntKind.i64 1)), (1, _), (2, _)], type := _, pos := _, after := _, guard := _ } :: _) _ _); refine own_wset (by first | rfl | exact wanted_g rfl (yielded_of rfl (by first | rfl | (simp only [put_lit, put_no, List.setIfInBounds_toArray, List.set_cons_succ, List.set_cons_zero, ev_tmp, ev_const, ev_glob, ev_func, List.getD_cons_succ, List.getD_cons_zero]; rfl)))) rfl rfl (by (try simp only [put_lit, put_no, List.setIfInBounds_toArray, List.set_cons_succ, List.set_cons_zero, ev_tmp, ev_const, ev_glob, ev_func, List.getD_cons_succ, List.getD_cons_zero]); with_reducible rfl) ?_) | (first | ((with_reducible refine gT ?_); (refine aT H ?_; clear H; intro w H; (try simp only [nrm, nrl, Value.cells] at H))) | ((with_reducible refine gL ?_); refine aD H ?_) | ((with_reducible refine gA ?_); (refine bA H ?_; clear H; intro b w H; (try simp only [nrm, nrl, Value.cells] at H))) | ((with_reducible refine gI ?_); refine aI ?_)) | (go_at_call 20; (with_reducible refine ch (hsg _) H ?_); clear H; intro w H) | (go_at_call 21; (with_reducible refine ch (hf _) H ?_); clear H; intro w H))
      (refine ret_ctt Tryz.results13 rfl (by first | rfl | (simp only [put_lit, put_no, List.setIfInBounds_toArray, List.set_cons_succ, List.set_cons_zero]; rfl)) (by first | rfl | (simp only [put_lit, put_no, List.setIfInBounds_toArray, List.set_cons_succ, List.set_cons_zero]; rfl)) H (by repeat (first | (with_reducible exact At.zero) | apply At.succ)) (by first | (with_reducible exact row_Word) | (with_reducible exact row_Set)) (by rfl) rfl ?_)
      exact ⟨RepR.ok (w := d) E.out, H.below⟩
  · have n92 : ((byt L i : Int) == 92) = false := by rw [beq_eq_false_iff_ne]; omega
    have m92 := Lib.hid hc; clear hc
    by_cases hc : byt L i = 91
    · have hf := fun w => ref_class L i hL hi w
      have hw := w_91 hc
      have hsg : ∀ w, Calls Tryz.prog 20 #[.int .u8 91, .int .i64 i] w fun e w' => e = .returned (wordV { kind := 0, place := i }) ∧ Below w.heap.size w w' := fun w => ref_sign 91 i (by omega) w
      cases hs : classP L i with
      | none =>
        rw [hs] at hf hw
        simp only [WordR] at hf
        have E := Lib.hid (show wordP L i = .error 4 by rw [hw]; rfl); clear hw hs
        go_enter Tryz.func13, Tryz.ntmps13
        go_wp2_with (first | ((with_reducible show @wpList _ _ _ ({ dst := _, op := Op.build _ #[(0, Operand.const (Value.int IntKind.i64 1)), (1, _), (2, _)], type := _, pos := _, after := _, guard := _ } :: _) _ _); refine own_wset (by first | rfl | exact wanted_g rfl (yielded_of rfl (by first | rfl | (simp only [put_lit, put_no, List.setIfInBounds_toArray, List.set_cons_succ, List.set_cons_zero, ev_tmp, ev_const, ev_glob, ev_func, List.getD_cons_succ, List.getD_cons_zero]; rfl)))) rfl rfl (by (try simp only [put_lit, put_no, List.setIfInBounds_toArray, List.set_cons_succ, List.set_cons_zero, ev_tmp, ev_const, ev_glob, ev_func, List.getD_cons_succ, List.getD_cons_zero]); with_reducible rfl) ?_) | (first | ((with_reducible refine gT ?_); (refine aT H ?_; clear H; intro w H; (try simp only [nrm, nrl, Value.cells] at H))) | ((with_reducible refine gL ?_); refine aD H ?_) | ((with_reducible refine gA ?_); (refine bA H ?_; clear H; intro b w H; (try simp only [nrm, nrl, Value.cells] at H))) | ((with_reducible refine gI ?_); refine aI ?_)) | (go_at_call 20; (with_reducible refine ch (hsg _) H ?_); clear H; intro w H) | (go_at_call 22; (with_reducible refine (hf _).mono ?_); rintro e w ⟨⟨wd, rfl⟩, hb⟩; replace H := H.call hb; clear hb))
        (refine ret_ctt Tryz.results13 rfl (by first | rfl | (simp only [put_lit, put_no, List.setIfInBounds_toArray, List.set_cons_succ, List.set_cons_zero]; rfl)) (by first | rfl | (simp only [put_lit, put_no, List.setIfInBounds_toArray, List.set_cons_succ, List.set_cons_zero]; rfl)) H (by repeat (first | (with_reducible exact At.zero) | apply At.succ)) (by first | (with_reducible exact row_Word) | (with_reducible exact row_Set)) (by rfl) rfl ?_)
        exact ⟨RepR.no (w := wd) E.out, H.below⟩
      | some p =>
        obtain ⟨d, k⟩ := p
        rw [hs] at hf hw
        simp only [WordR] at hf
        have E := Lib.hid (show wordP L i = .ok (d, k) by rw [hw]; rfl); clear hw hs
        have dk : decide ((k : Int) < 0) = false := by simp
        go_enter Tryz.func13, Tryz.ntmps13
        go_wp2_with (first | ((with_reducible show @wpList _ _ _ ({ dst := _, op := Op.build _ #[(0, Operand.const (Value.int IntKind.i64 1)), (1, _), (2, _)], type := _, pos := _, after := _, guard := _ } :: _) _ _); refine own_wset (by first | rfl | exact wanted_g rfl (yielded_of rfl (by first | rfl | (simp only [put_lit, put_no, List.setIfInBounds_toArray, List.set_cons_succ, List.set_cons_zero, ev_tmp, ev_const, ev_glob, ev_func, List.getD_cons_succ, List.getD_cons_zero]; rfl)))) rfl rfl (by (try simp only [put_lit, put_no, List.setIfInBounds_toArray, List.set_cons_succ, List.set_cons_zero, ev_tmp, ev_const, ev_glob, ev_func, List.getD_cons_succ, List.getD_cons_zero]); with_reducible rfl) ?_) | (first | ((with_reducible refine gT ?_); (refine aT H ?_; clear H; intro w H; (try simp only [nrm, nrl, Value.cells] at H))) | ((with_reducible refine gL ?_); refine aD H ?_) | ((with_reducible refine gA ?_); (refine bA H ?_; clear H; intro b w H; (try simp only [nrm, nrl, Value.cells] at H))) | ((with_reducible refine gI ?_); refine aI ?_)) | (go_at_call 20; (with_reducible refine ch (hsg _) H ?_); clear H; intro w H) | (go_at_call 22; (with_reducible refine ch (hf _) H ?_); clear H; intro w H))
        (refine ret_ctt Tryz.results13 rfl (by first | rfl | (simp only [put_lit, put_no, List.setIfInBounds_toArray, List.set_cons_succ, List.set_cons_zero]; rfl)) (by first | rfl | (simp only [put_lit, put_no, List.setIfInBounds_toArray, List.set_cons_succ, List.set_cons_zero]; rfl)) H (by repeat (first | (with_reducible exact At.zero) | apply At.succ)) (by first | (with_reducible exact row_Word) | (with_reducible exact row_Set)) (by rfl) rfl ?_)
        exact ⟨RepR.ok (w := d) E.out, H.below⟩
    · have n91 : ((byt L i : Int) == 91) = false := by rw [beq_eq_false_iff_ne]; omega
      have m91 := Lib.hid hc; clear hc
      by_cases hc : byt L i = 40
      · have hat := fun w => ref_at L [40, 63] i hL (by simp) (by simp) (by omega) w
        rw [at2' hi hc] at hat
        cases ha : atP L (i + 1) [63] with
        | true =>
          have hl := at_le ha (by simp)
          simp only [List.length_cons, List.length_nil, Nat.zero_add] at hl
          rw [ha] at hat
          have hf := fun w => ref_flags L i hL (by omega) w
          have hw := w_40 hc
          rw [ha, if_pos rfl] at hw
          clear ha
          have hsg : ∀ w, Calls Tryz.prog 20 #[.int .u8 40, .int .i64 i] w fun e w' => e = .returned (wordV { kind := 6, place := i }) ∧ Below w.heap.size w w' := fun w => ref_sign 40 i (by omega) w
          -- hat
          cases hs : flagsP L i with
          | none =>
            rw [hs] at hf hw
            simp only [WordR] at hf
            have E := Lib.hid (show wordP L i = .error 4 by rw [hw]; rfl); clear hw hs
            go_enter Tryz.func13, Tryz.ntmps13
            go_wp2_with (first | ((with_reducible show @wpList _ _ _ ({ dst := _, op := Op.build _ #[(0, Operand.const (Value.int IntKind.i64 1)), (1, _), (2, _)], type := _, pos := _, after := _, guard := _ } :: _) _ _); refine own_wset (by first | rfl | exact wanted_g rfl (yielded_of rfl (by first | rfl | (simp only [put_lit, put_no, List.setIfInBounds_toArray, List.set_cons_succ, List.set_cons_zero, ev_tmp, ev_const, ev_glob, ev_func, List.getD_cons_succ, List.getD_cons_zero]; rfl)))) rfl rfl (by (try simp only [put_lit, put_no, List.setIfInBounds_toArray, List.set_cons_succ, List.set_cons_zero, ev_tmp, ev_const, ev_glob, ev_func, List.getD_cons_succ, List.getD_cons_zero]); with_reducible rfl) ?_) | (first | ((with_reducible refine gT ?_); (refine aT H ?_; clear H; intro w H; (try simp only [nrm, nrl, Value.cells] at H))) | ((with_reducible refine gL ?_); refine aD H ?_) | ((with_reducible refine gA ?_); (refine bA H ?_; clear H; intro b w H; (try simp only [nrm, nrl, Value.cells] at H))) | ((with_reducible refine gI ?_); refine aI ?_)) | (go_at_call 20; (with_reducible refine ch (hsg _) H ?_); clear H; intro w H) | (go_at_call 23; (with_reducible refine ch (hat _) H ?_); clear H; intro w H) | (go_at_call 24; (with_reducible refine (hf _).mono ?_); rintro e w ⟨⟨wd, rfl⟩, hb⟩; replace H := H.call hb; clear hb))
            (refine ret_ctt Tryz.results13 rfl (by first | rfl | (simp only [put_lit, put_no, List.setIfInBounds_toArray, List.set_cons_succ, List.set_cons_zero]; rfl)) (by first | rfl | (simp only [put_lit, put_no, List.setIfInBounds_toArray, List.set_cons_succ, List.set_cons_zero]; rfl)) H (by repeat (first | (with_reducible exact At.zero) | apply At.succ)) (by first | (with_reducible exact row_Word) | (with_reducible exact row_Set)) (by rfl) rfl ?_)
            exact ⟨RepR.no (w := wd) E.out, H.below⟩
          | some p =>
            obtain ⟨d, k⟩ := p
            rw [hs] at hf hw
            simp only [WordR] at hf
            have E := Lib.hid (show wordP L i = .ok (d, k) by rw [hw]; rfl); clear hw hs
            have dk : decide ((k : Int) < 0) = false := by simp
            go_enter Tryz.func13, Tryz.ntmps13
            go_wp2_with (first | ((with_reducible show @wpList _ _ _ ({ dst := _, op := Op.build _ #[(0, Operand.const (Value.int IntKind.i64 1)), (1, _), (2, _)], type := _, pos := _, after := _, guard := _ } :: _) _ _); refine own_wset (by first | rfl | exact wanted_g rfl (yielded_of rfl (by first | rfl | (simp only [put_lit, put_no, List.setIfInBounds_toArray, List.set_cons_succ, List.set_cons_zero, ev_tmp, ev_const, ev_glob, ev_func, List.getD_cons_succ, List.getD_cons_zero]; rfl)))) rfl rfl (by (try simp only [put_lit, put_no, List.setIfInBounds_toArray, List.set_cons_succ, List.set_cons_zero, ev_tmp, ev_const, ev_glob, ev_func, List.getD_cons_succ, List.getD_cons_zero]); with_reducible rfl) ?_) | (first | ((with_reducible refine gT ?_); (refine aT H ?_; clear H; intro w H; (try simp only [nrm, nrl, Value.cells] at H))) | ((with_reducible refine gL ?_); refine aD H ?_) | ((with_reducible refine gA ?_); (refine bA H ?_; clear H; intro b w H; (try simp only [nrm, nrl, Value.cells] at H))) | ((with_reducible refine gI ?_); refine aI ?_)) | (go_at_call 20; (with_reducible refine ch (hsg _) H ?_); clear H; intro w H) | (go_at_call 23; (with_reducible refine ch (hat _) H ?_); clear H; intro w H) | (go_at_call 24; (with_reducible refine ch (hf _) H ?_); clear H; intro w H))
            (refine ret_ctt Tryz.results13 rfl (by first | rfl | (simp only [put_lit, put_no, List.setIfInBounds_toArray, List.set_cons_succ, List.set_cons_zero]; rfl)) (by first | rfl | (simp only [put_lit, put_no, List.setIfInBounds_toArray, List.set_cons_succ, List.set_cons_zero]; rfl)) H (by repeat (first | (with_reducible exact At.zero) | apply At.succ)) (by first | (with_reducible exact row_Word) | (with_reducible exact row_Set)) (by rfl) rfl ?_)
            exact ⟨RepR.ok (w := d) E.out, H.below⟩
        | false =>
          rw [ha] at hat
          have hw := w_40 hc
          rw [ha, if_neg (by simp)] at hw
          have E := Lib.hid hw; clear hw ha
          have hsg : ∀ w, Calls Tryz.prog 20 #[.int .u8 40, .int .i64 i] w fun e w' => e = .returned (wordV { kind := 6, place := i }) ∧ Below w.heap.size w w' := fun w => ref_sign 40 i (by omega) w
          go_enter Tryz.func13, Tryz.ntmps13
          go_wp2_with (first | ((with_reducible show @wpList _ _ _ ({ dst := _, op := Op.build _ #[(0, Operand.const (Value.int IntKind.i64 1)), (1, _), (2, _)], type := _, pos := _, after := _, guard := _ } :: _) _ _); refine own_wset (by first | rfl | exact wanted_g rfl (yielded_of rfl (by first | rfl | (simp only [put_lit, put_no, List.setIfInBounds_toArray, List.set_cons_succ, List.set_cons_zero, ev_tmp, ev_const, ev_glob, ev_func, List.getD_cons_succ, List.getD_cons_zero]; rfl)))) rfl rfl (by (try simp only [put_lit, put_no, List.setIfInBounds_toArray, List.set_cons_succ, List.set_cons_zero, ev_tmp, ev_const, ev_glob, ev_func, List.getD_cons_succ, List.getD_cons_zero]); with_reducible rfl) ?_) | (first | ((with_reducible refine gT ?_); (refine aT H ?_; clear H; intro w H; (try simp only [nrm, nrl, Value.cells] at H))) | ((with_reducible refine gL ?_); (first | refine aG H ?_ | refine aD H ?_)) | ((with_reducible refine gA ?_); (refine bA H ?_; clear H; intro b w H; (try simp only [nrm, nrl, Value.cells] at H))) | ((with_reducible refine gI ?_); refine aI ?_)) | (go_at_call 20; (with_reducible refine ch (hsg _) H ?_); clear H; intro w H) | (go_at_call 23; (with_reducible refine ch (hat _) H ?_); clear H; intro w H))
          (refine ret_ctt Tryz.results13 rfl (by first | rfl | (simp only [put_lit, put_no, List.setIfInBounds_toArray, List.set_cons_succ, List.set_cons_zero]; rfl)) (by first | rfl | (simp only [put_lit, put_no, List.setIfInBounds_toArray, List.set_cons_succ, List.set_cons_zero]; rfl)) H (by repeat (first | (with_reducible exact At.zero) | apply At.succ)) (by first | (with_reducible exact row_Word) | (with_reducible exact row_Set)) (by rfl) rfl ?_)
          exact ⟨RepR.ok (w := { kind := 6, place := i }) E.out, H.below⟩
      · have n40 : ((byt L i : Int) == 40) = false := by rw [beq_eq_false_iff_ne]; omega
        have m40 := Lib.hid hc
        have ha : atP L i [40, 63] = false := at2 hi (fun h => by omega)
        have hat := fun w => ref_at L [40, 63] i hL (by simp) (by simp) (by omega) w
        rw [ha] at hat
        clear ha
        clear hc
        by_cases hc : byt L i = 123
        · have hf := fun w => ref_braces L i hL hi w
          have hw := w_123 hc
          have hsg : ∀ w, Calls Tryz.prog 20 #[.int .u8 123, .int .i64 i] w fun e w' => e = .returned (wordV { kind := 0, place := i }) ∧ Below w.heap.size w w' := fun w => ref_sign 123 i (by omega) w
          cases hs : bracesP L i with
          | none =>
            rw [hs] at hf hw
            simp only [brW, Option.map_none, WordR] at hf hw
            have E := Lib.hid hw; clear hw hs
            go_enter Tryz.func13, Tryz.ntmps13
            go_wp2_with (first | ((with_reducible show @wpList _ _ _ ({ dst := _, op := Op.build _ #[(0, Operand.const (Value.int IntKind.i64 1)), (1, _), (2, _)], type := _, pos := _, after := _, guard := _ } :: _) _ _); refine own_wset (by first | rfl | exact wanted_g rfl (yielded_of rfl (by first | rfl | (simp only [put_lit, put_no, List.setIfInBounds_toArray, List.set_cons_succ, List.set_cons_zero, ev_tmp, ev_const, ev_glob, ev_func, List.getD_cons_succ, List.getD_cons_zero]; rfl)))) rfl rfl (by (try simp only [put_lit, put_no, List.setIfInBounds_toArray, List.set_cons_succ, List.set_cons_zero, ev_tmp, ev_const, ev_glob, ev_func, List.getD_cons_succ, List.getD_cons_zero]); with_reducible rfl) ?_) | (first | ((with_reducible refine gT ?_); (refine aT H ?_; clear H; intro w H; (try simp only [nrm, nrl, Value.cells] at H))) | ((with_reducible refine gL ?_); refine aD H ?_) | ((with_reducible refine gA ?_); (refine bA H ?_; clear H; intro b w H; (try simp only [nrm, nrl, Value.cells] at H))) | ((with_reducible refine gI ?_); refine aI ?_)) | (go_at_call 20; (with_reducible refine ch (hsg _) H ?_); clear H; intro w H) | (go_at_call 23; (with_reducible refine ch (hat _) H ?_); clear H; intro w H) | (go_at_call 25; (with_reducible refine (hf _).mono ?_); rintro e w ⟨⟨wd, rfl⟩, hb⟩; replace H := H.call hb; clear hb) | (go_at_call 27; (with_reducible refine ch (on_123 _) H ?_); clear H; intro w H))
            (refine ret_ctt Tryz.results13 rfl (by first | rfl | (simp only [put_lit, put_no, List.setIfInBounds_toArray, List.set_cons_succ, List.set_cons_zero]; rfl)) (by first | rfl | (simp only [put_lit, put_no, List.setIfInBounds_toArray, List.set_cons_succ, List.set_cons_zero]; rfl)) H (by repeat (first | (with_reducible exact At.zero) | apply At.succ)) (by first | (with_reducible exact row_Word) | (with_reducible exact row_Set)) (by rfl) rfl ?_)
            exact ⟨RepR.ok (w := { kind := 1, place := i, set := ofS [123] }) E.out, H.below⟩
          | some p =>
            obtain ⟨lo, hi3, e⟩ := p
            have hk := bracesP_le hs hi
            rw [hs] at hf hw
            simp only [brW, Option.map_some, WordR] at hf hw
            clear hs
            have dk : decide (0 ≤ (e : Int)) = true := by simp
            have hw2 := hw
            clear hw
            have hw := hw2
            have hr := fun w => ref_repeat L i e lo hi3 hL (by omega) (by omega) (by omega) w
            cases hp : repeatP L i lo hi3 e with
            | error x =>
              rw [hp] at hr hw
              simp only [RepR] at hr
              have E := Lib.hid hw; clear hw hp
              go_enter Tryz.func13, Tryz.ntmps13
              go_wp2_with (first | ((with_reducible show @wpList _ _ _ ({ dst := _, op := Op.build _ #[(0, Operand.const (Value.int IntKind.i64 1)), (1, _), (2, _)], type := _, pos := _, after := _, guard := _ } :: _) _ _); refine own_wset (by first | rfl | exact wanted_g rfl (yielded_of rfl (by first | rfl | (simp only [put_lit, put_no, List.setIfInBounds_toArray, List.set_cons_succ, List.set_cons_zero, ev_tmp, ev_const, ev_glob, ev_func, List.getD_cons_succ, List.getD_cons_zero]; rfl)))) rfl rfl (by (try simp only [put_lit, put_no, List.setIfInBounds_toArray, List.set_cons_succ, List.set_cons_zero, ev_tmp, ev_const, ev_glob, ev_func, List.getD_cons_succ, List.getD_cons_zero]); with_reducible rfl) ?_) | (first | ((with_reducible refine gT ?_); (refine aT H ?_; clear H; intro w H; (try simp only [nrm, nrl, Value.cells] at H))) | ((with_reducible refine gL ?_); refine aD H ?_) | ((with_reducible refine gA ?_); (refine bA H ?_; clear H; intro b w H; (try simp only [nrm, nrl, Value.cells] at H))) | ((with_reducible refine gI ?_); refine aI ?_)) | (go_at_call 20; (with_reducible refine ch (hsg _) H ?_); clear H; intro w H) | (go_at_call 23; (with_reducible refine ch (hat _) H ?_); clear H; intro w H) | (go_at_call 25; (with_reducible refine ch (hf _) H ?_); clear H; intro w H) | (go_at_call 26; (with_reducible refine (hr _).mono ?_); rintro e w ⟨⟨wd, kk, rfl⟩, hb⟩; replace H := H.call hb; clear hb))
              (refine ret_ctt Tryz.results13 rfl (by first | rfl | (simp only [put_lit, put_no, List.setIfInBounds_toArray, List.set_cons_succ, List.set_cons_zero]; rfl)) (by first | rfl | (simp only [put_lit, put_no, List.setIfInBounds_toArray, List.set_cons_succ, List.set_cons_zero]; rfl)) H (by repeat (first | (with_reducible exact At.zero) | apply At.succ)) (by first | (with_reducible exact row_Word) | (with_reducible exact row_Set)) (by rfl) rfl ?_)
              exact ⟨RepR.no (w := wd) E.out, H.below⟩
            | ok p =>
              obtain ⟨d, k⟩ := p
              rw [hp] at hr hw
              simp only [RepR] at hr
              have E := Lib.hid hw; clear hw hp
              go_enter Tryz.func13, Tryz.ntmps13
              go_wp2_with (first | ((with_reducible show @wpList _ _ _ ({ dst := _, op := Op.build _ #[(0, Operand.const (Value.int IntKind.i64 1)), (1, _), (2, _)], type := _, pos := _, after := _, guard := _ } :: _) _ _); refine own_wset (by first | rfl | exact wanted_g rfl (yielded_of rfl (by first | rfl | (simp only [put_lit, put_no, List.setIfInBounds_toArray, List.set_cons_succ, List.set_cons_zero, ev_tmp, ev_const, ev_glob, ev_func, List.getD_cons_succ, List.getD_cons_zero]; rfl)))) rfl rfl (by (try simp only [put_lit, put_no, List.setIfInBounds_toArray, List.set_cons_succ, List.set_cons_zero, ev_tmp, ev_const, ev_glob, ev_func, List.getD_cons_succ, List.getD_cons_zero]); with_reducible rfl) ?_) | (first | ((with_reducible refine gT ?_); (refine aT H ?_; clear H; intro w H; (try simp only [nrm, nrl, Value.cells] at H))) | ((with_reducible refine gL ?_); refine aD H ?_) | ((with_reducible refine gA ?_); (refine bA H ?_; clear H; intro b w H; (try simp only [nrm, nrl, Value.cells] at H))) | ((with_reducible refine gI ?_); refine aI ?_)) | (go_at_call 20; (with_reducible refine ch (hsg _) H ?_); clear H; intro w H) | (go_at_call 23; (with_reducible refine ch (hat _) H ?_); clear H; intro w H) | (go_at_call 25; (with_reducible refine ch (hf _) H ?_); clear H; intro w H) | (go_at_call 26; (with_reducible refine ch (hr _) H ?_); clear H; intro w H))
              (refine ret_ctt Tryz.results13 rfl (by first | rfl | (simp only [put_lit, put_no, List.setIfInBounds_toArray, List.set_cons_succ, List.set_cons_zero]; rfl)) (by first | rfl | (simp only [put_lit, put_no, List.setIfInBounds_toArray, List.set_cons_succ, List.set_cons_zero]; rfl)) H (by repeat (first | (with_reducible exact At.zero) | apply At.succ)) (by first | (with_reducible exact row_Word) | (with_reducible exact row_Set)) (by rfl) rfl ?_)
              exact ⟨RepR.ok (w := d) E.out, H.below⟩
        · have n123 : ((byt L i : Int) == 123) = false := by rw [beq_eq_false_iff_ne]; omega
          have m123 := Lib.hid hc; clear hc
          by_cases hc : byt L i = 42
          · have hsg : ∀ w, Calls Tryz.prog 20 #[.int .u8 42, .int .i64 i] w fun e w' => e = .returned (wordV { kind := 11, place := i, lo := 0, hi := -1 }) ∧ Below w.heap.size w w' := fun w => ref_sign 42 i (by omega) w
            have hw := w_42 hc
            have hr := fun w => ref_repeat L i (i + 1) 0 (-1) hL (by omega) (by omega) (by omega) w
            simp only [Int.natCast_add, Int.cast_ofNat_Int] at hr
            cases hp : repeatP L i 0 (-1) (i + 1) with
            | error x =>
              rw [hp] at hr hw
              simp only [RepR] at hr
              have E := Lib.hid hw; clear hw hp
              go_enter Tryz.func13, Tryz.ntmps13
              go_wp2_with (first | ((with_reducible show @wpList _ _ _ ({ dst := _, op := Op.build _ #[(0, Operand.const (Value.int IntKind.i64 1)), (1, _), (2, _)], type := _, pos := _, after := _, guard := _ } :: _) _ _); refine own_wset (by first | rfl | exact wanted_g rfl (yielded_of rfl (by first | rfl | (simp only [put_lit, put_no, List.setIfInBounds_toArray, List.set_cons_succ, List.set_cons_zero, ev_tmp, ev_const, ev_glob, ev_func, List.getD_cons_succ, List.getD_cons_zero]; rfl)))) rfl rfl (by (try simp only [put_lit, put_no, List.setIfInBounds_toArray, List.set_cons_succ, List.set_cons_zero, ev_tmp, ev_const, ev_glob, ev_func, List.getD_cons_succ, List.getD_cons_zero]); with_reducible rfl) ?_) | (first | ((with_reducible refine gT ?_); (refine aT H ?_; clear H; intro w H; (try simp only [nrm, nrl, Value.cells] at H))) | ((with_reducible refine gL ?_); (first | refine aG H ?_ | refine aD H ?_)) | ((with_reducible refine gA ?_); (refine bA H ?_; clear H; intro b w H; (try simp only [nrm, nrl, Value.cells] at H))) | ((with_reducible refine gI ?_); refine aI ?_)) | (go_at_call 20; (with_reducible refine ch (hsg _) H ?_); clear H; intro w H) | (go_at_call 23; (with_reducible refine ch (hat _) H ?_); clear H; intro w H) | (go_at_call 26; (with_reducible refine (hr _).mono ?_); rintro e w ⟨⟨wd, kk, rfl⟩, hb⟩; replace H := H.call hb; clear hb))
              (refine ret_ctt Tryz.results13 rfl (by first | rfl | (simp only [put_lit, put_no, List.setIfInBounds_toArray, List.set_cons_succ, List.set_cons_zero]; rfl)) (by first | rfl | (simp only [put_lit, put_no, List.setIfInBounds_toArray, List.set_cons_succ, List.set_cons_zero]; rfl)) H (by repeat (first | (with_reducible exact At.zero) | apply At.succ)) (by first | (with_reducible exact row_Word) | (with_reducible exact row_Set)) (by rfl) rfl ?_)
              exact ⟨RepR.no (w := wd) E.out, H.below⟩
            | ok p =>
              obtain ⟨d, k⟩ := p
              rw [hp] at hr hw
              simp only [RepR] at hr
              have E := Lib.hid hw; clear hw hp
              go_enter Tryz.func13, Tryz.ntmps13
              go_wp2_with (first | ((with_reducible show @wpList _ _ _ ({ dst := _, op := Op.build _ #[(0, Operand.const (Value.int IntKind.i64 1)), (1, _), (2, _)], type := _, pos := _, after := _, guard := _ } :: _) _ _); refine own_wset (by first | rfl | exact wanted_g rfl (yielded_of rfl (by first | rfl | (simp only [put_lit, put_no, List.setIfInBounds_toArray, List.set_cons_succ, List.set_cons_zero, ev_tmp, ev_const, ev_glob, ev_func, List.getD_cons_succ, List.getD_cons_zero]; rfl)))) rfl rfl (by (try simp only [put_lit, put_no, List.setIfInBounds_toArray, List.set_cons_succ, List.set_cons_zero, ev_tmp, ev_const, ev_glob, ev_func, List.getD_cons_succ, List.getD_cons_zero]); with_reducible rfl) ?_) | (first | ((with_reducible refine gT ?_); (refine aT H ?_; clear H; intro w H; (try simp only [nrm, nrl, Value.cells] at H))) | ((with_reducible refine gL ?_); (first | refine aG H ?_ | refine aD H ?_)) | ((with_reducible refine gA ?_); (refine bA H ?_; clear H; intro b w H; (try simp only [nrm, nrl, Value.cells] at H))) | ((with_reducible refine gI ?_); refine aI ?_)) | (go_at_call 20; (with_reducible refine ch (hsg _) H ?_); clear H; intro w H) | (go_at_call 23; (with_reducible refine ch (hat _) H ?_); clear H; intro w H) | (go_at_call 26; (with_reducible refine ch (hr _) H ?_); clear H; intro w H))
              (refine ret_ctt Tryz.results13 rfl (by first | rfl | (simp only [put_lit, put_no, List.setIfInBounds_toArray, List.set_cons_succ, List.set_cons_zero]; rfl)) (by first | rfl | (simp only [put_lit, put_no, List.setIfInBounds_toArray, List.set_cons_succ, List.set_cons_zero]; rfl)) H (by repeat (first | (with_reducible exact At.zero) | apply At.succ)) (by first | (with_reducible exact row_Word) | (with_reducible exact row_Set)) (by rfl) rfl ?_)
              exact ⟨RepR.ok (w := d) E.out, H.below⟩
          · have n42 : ((byt L i : Int) == 42) = false := by rw [beq_eq_false_iff_ne]; omega
            have m42 := Lib.hid hc; clear hc
            by_cases hc : byt L i = 43
            · have hsg : ∀ w, Calls Tryz.prog 20 #[.int .u8 43, .int .i64 i] w fun e w' => e = .returned (wordV { kind := 11, place := i, lo := 1, hi := -1 }) ∧ Below w.heap.size w w' := fun w => ref_sign 43 i (by omega) w
              have hw := w_43 hc
              have hr := fun w => ref_repeat L i (i + 1) 1 (-1) hL (by omega) (by omega) (by omega) w
              simp only [Int.natCast_add, Int.cast_ofNat_Int] at hr
              cases hp : repeatP L i 1 (-1) (i + 1) with
              | error x =>
                rw [hp] at hr hw
                simp only [RepR] at hr
                have E := Lib.hid hw; clear hw hp
                go_enter Tryz.func13, Tryz.ntmps13
                go_wp2_with (first | ((with_reducible show @wpList _ _ _ ({ dst := _, op := Op.build _ #[(0, Operand.const (Value.int IntKind.i64 1)), (1, _), (2, _)], type := _, pos := _, after := _, guard := _ } :: _) _ _); refine own_wset (by first | rfl | exact wanted_g rfl (yielded_of rfl (by first | rfl | (simp only [put_lit, put_no, List.setIfInBounds_toArray, List.set_cons_succ, List.set_cons_zero, ev_tmp, ev_const, ev_glob, ev_func, List.getD_cons_succ, List.getD_cons_zero]; rfl)))) rfl rfl (by (try simp only [put_lit, put_no, List.setIfInBounds_toArray, List.set_cons_succ, List.set_cons_zero, ev_tmp, ev_const, ev_glob, ev_func, List.getD_cons_succ, List.getD_cons_zero]); with_reducible rfl) ?_) | (first | ((with_reducible refine gT ?_); (refine aT H ?_; clear H; intro w H; (try simp only [nrm, nrl, Value.cells] at H))) | ((with_reducible refine gL ?_); (first | refine aG H ?_ | refine aD H ?_)) | ((with_reducible refine gA ?_); (refine bA H ?_; clear H; intro b w H; (try simp only [nrm, nrl, Value.cells] at H))) | ((with_reducible refine gI ?_); refine aI ?_)) | (go_at_call 20; (with_reducible refine ch (hsg _) H ?_); clear H; intro w H) | (go_at_call 23; (with_reducible refine ch (hat _) H ?_); clear H; intro w H) | (go_at_call 26; (with_reducible refine (hr _).mono ?_); rintro e w ⟨⟨wd, kk, rfl⟩, hb⟩; replace H := H.call hb; clear hb))
                (refine ret_ctt Tryz.results13 rfl (by first | rfl | (simp only [put_lit, put_no, List.setIfInBounds_toArray, List.set_cons_succ, List.set_cons_zero]; rfl)) (by first | rfl | (simp only [put_lit, put_no, List.setIfInBounds_toArray, List.set_cons_succ, List.set_cons_zero]; rfl)) H (by repeat (first | (with_reducible exact At.zero) | apply At.succ)) (by first | (with_reducible exact row_Word) | (with_reducible exact row_Set)) (by rfl) rfl ?_)
                exact ⟨RepR.no (w := wd) E.out, H.below⟩
              | ok p =>
                obtain ⟨d, k⟩ := p
                rw [hp] at hr hw
                simp only [RepR] at hr
                have E := Lib.hid hw; clear hw hp
                go_enter Tryz.func13, Tryz.ntmps13
                go_wp2_with (first | ((with_reducible show @wpList _ _ _ ({ dst := _, op := Op.build _ #[(0, Operand.const (Value.int IntKind.i64 1)), (1, _), (2, _)], type := _, pos := _, after := _, guard := _ } :: _) _ _); refine own_wset (by first | rfl | exact wanted_g rfl (yielded_of rfl (by first | rfl | (simp only [put_lit, put_no, List.setIfInBounds_toArray, List.set_cons_succ, List.set_cons_zero, ev_tmp, ev_const, ev_glob, ev_func, List.getD_cons_succ, List.getD_cons_zero]; rfl)))) rfl rfl (by (try simp only [put_lit, put_no, List.setIfInBounds_toArray, List.set_cons_succ, List.set_cons_zero, ev_tmp, ev_const, ev_glob, ev_func, List.getD_cons_succ, List.getD_cons_zero]); with_reducible rfl) ?_) | (first | ((with_reducible refine gT ?_); (refine aT H ?_; clear H; intro w H; (try simp only [nrm, nrl, Value.cells] at H))) | ((with_reducible refine gL ?_); (first | refine aG H ?_ | refine aD H ?_)) | ((with_reducible refine gA ?_); (refine bA H ?_; clear H; intro b w H; (try simp only [nrm, nrl, Value.cells] at H))) | ((with_reducible refine gI ?_); refine aI ?_)) | (go_at_call 20; (with_reducible refine ch (hsg _) H ?_); clear H; intro w H) | (go_at_call 23; (with_reducible refine ch (hat _) H ?_); clear H; intro w H) | (go_at_call 26; (with_reducible refine ch (hr _) H ?_); clear H; intro w H))
                (refine ret_ctt Tryz.results13 rfl (by first | rfl | (simp only [put_lit, put_no, List.setIfInBounds_toArray, List.set_cons_succ, List.set_cons_zero]; rfl)) (by first | rfl | (simp only [put_lit, put_no, List.setIfInBounds_toArray, List.set_cons_succ, List.set_cons_zero]; rfl)) H (by repeat (first | (with_reducible exact At.zero) | apply At.succ)) (by first | (with_reducible exact row_Word) | (with_reducible exact row_Set)) (by rfl) rfl ?_)
                exact ⟨RepR.ok (w := d) E.out, H.below⟩
            · have n43 : ((byt L i : Int) == 43) = false := by rw [beq_eq_false_iff_ne]; omega
              have m43 := Lib.hid hc; clear hc
              by_cases hc : byt L i = 63
              · have hsg : ∀ w, Calls Tryz.prog 20 #[.int .u8 63, .int .i64 i] w fun e w' => e = .returned (wordV { kind := 11, place := i, lo := 0, hi := 1 }) ∧ Below w.heap.size w w' := fun w => ref_sign 63 i (by omega) w
                have hw := w_63 hc
                have hr := fun w => ref_repeat L i (i + 1) 0 1 hL (by omega) (by omega) (by omega) w
                simp only [Int.natCast_add, Int.cast_ofNat_Int] at hr
                cases hp : repeatP L i 0 1 (i + 1) with
                | error x =>
                  rw [hp] at hr hw
                  simp only [RepR] at hr
                  have E := Lib.hid hw; clear hw hp
                  go_enter Tryz.func13, Tryz.ntmps13
                  go_wp2_with (first | ((with_reducible show @wpList _ _ _ ({ dst := _, op := Op.build _ #[(0, Operand.const (Value.int IntKind.i64 1)), (1, _), (2, _)], type := _, pos := _, after := _, guard := _ } :: _) _ _); refine own_wset (by first | rfl | exact wanted_g rfl (yielded_of rfl (by first | rfl | (simp only [put_lit, put_no, List.setIfInBounds_toArray, List.set_cons_succ, List.set_cons_zero, ev_tmp, ev_const, ev_glob, ev_func, List.getD_cons_succ, List.getD_cons_zero]; rfl)))) rfl rfl (by (try simp only [put_lit, put_no, List.setIfInBounds_toArray, List.set_cons_succ, List.set_cons_zero, ev_tmp, ev_const, ev_glob, ev_func, List.getD_cons_succ, List.getD_cons_zero]); with_reducible rfl) ?_) | (first | ((with_reducible refine gT ?_); (refine aT H ?_; clear H; intro w H; (try simp only [nrm, nrl, Value.cells] at H))) | ((with_reducible refine gL ?_); (first | refine aG H ?_ | refine aD H ?_)) | ((with_reducible refine gA ?_); (refine bA H ?_; clear H; intro b w H; (try simp only [nrm, nrl, Value.cells] at H))) | ((with_reducible refine gI ?_); refine aI ?_)) | (go_at_call 20; (with_reducible refine ch (hsg _) H ?_); clear H; intro w H) | (go_at_call 23; (with_reducible refine ch (hat _) H ?_); clear H; intro w H) | (go_at_call 26; (with_reducible refine (hr _).mono ?_); rintro e w ⟨⟨wd, kk, rfl⟩, hb⟩; replace H := H.call hb; clear hb))
                  (refine ret_ctt Tryz.results13 rfl (by first | rfl | (simp only [put_lit, put_no, List.setIfInBounds_toArray, List.set_cons_succ, List.set_cons_zero]; rfl)) (by first | rfl | (simp only [put_lit, put_no, List.setIfInBounds_toArray, List.set_cons_succ, List.set_cons_zero]; rfl)) H (by repeat (first | (with_reducible exact At.zero) | apply At.succ)) (by first | (with_reducible exact row_Word) | (with_reducible exact row_Set)) (by rfl) rfl ?_)
                  exact ⟨RepR.no (w := wd) E.out, H.below⟩
                | ok p =>
                  obtain ⟨d, k⟩ := p
                  rw [hp] at hr hw
                  simp only [RepR] at hr
                  have E := Lib.hid hw; clear hw hp
                  go_enter Tryz.func13, Tryz.ntmps13
                  go_wp2_with (first | ((with_reducible show @wpList _ _ _ ({ dst := _, op := Op.build _ #[(0, Operand.const (Value.int IntKind.i64 1)), (1, _), (2, _)], type := _, pos := _, after := _, guard := _ } :: _) _ _); refine own_wset (by first | rfl | exact wanted_g rfl (yielded_of rfl (by first | rfl | (simp only [put_lit, put_no, List.setIfInBounds_toArray, List.set_cons_succ, List.set_cons_zero, ev_tmp, ev_const, ev_glob, ev_func, List.getD_cons_succ, List.getD_cons_zero]; rfl)))) rfl rfl (by (try simp only [put_lit, put_no, List.setIfInBounds_toArray, List.set_cons_succ, List.set_cons_zero, ev_tmp, ev_const, ev_glob, ev_func, List.getD_cons_succ, List.getD_cons_zero]); with_reducible rfl) ?_) | (first | ((with_reducible refine gT ?_); (refine aT H ?_; clear H; intro w H; (try simp only [nrm, nrl, Value.cells] at H))) | ((with_reducible refine gL ?_); (first | refine aG H ?_ | refine aD H ?_)) | ((with_reducible refine gA ?_); (refine bA H ?_; clear H; intro b w H; (try simp only [nrm, nrl, Value.cells] at H))) | ((with_reducible refine gI ?_); refine aI ?_)) | (go_at_call 20; (with_reducible refine ch (hsg _) H ?_); clear H; intro w H) | (go_at_call 23; (with_reducible refine ch (hat _) H ?_); clear H; intro w H) | (go_at_call 26; (with_reducible refine ch (hr _) H ?_); clear H; intro w H))
                  (refine ret_ctt Tryz.results13 rfl (by first | rfl | (simp only [put_lit, put_no, List.setIfInBounds_toArray, List.set_cons_succ, List.set_cons_zero]; rfl)) (by first | rfl | (simp only [put_lit, put_no, List.setIfInBounds_toArray, List.set_cons_succ, List.set_cons_zero]; rfl)) H (by repeat (first | (with_reducible exact At.zero) | apply At.succ)) (by first | (with_reducible exact row_Word) | (with_reducible exact row_Set)) (by rfl) rfl ?_)
                  exact ⟨RepR.ok (w := d) E.out, H.below⟩
              · have n63 : ((byt L i : Int) == 63) = false := by rw [beq_eq_false_iff_ne]; omega
                have m63 := Lib.hid hc; clear hc
                by_cases hc : byt L i = 46
                · have E := Lib.hid (w_46 hc)
                  have hsg : ∀ w, Calls Tryz.prog 20 #[.int .u8 46, .int .i64 i] w fun e w' => e = .returned (wordV { kind := 2, place := i }) ∧ Below w.heap.size w w' := fun w => ref_sign 46 i (by omega) w
                  go_enter Tryz.func13, Tryz.ntmps13
                  go_wp2_with (first | ((with_reducible show @wpList _ _ _ ({ dst := _, op := Op.build _ #[(0, Operand.const (Value.int IntKind.i64 1)), (1, _), (2, _)], type := _, pos := _, after := _, guard := _ } :: _) _ _); refine own_wset (by first | rfl | exact wanted_g rfl (yielded_of rfl (by first | rfl | (simp only [put_lit, put_no, List.setIfInBounds_toArray, List.set_cons_succ, List.set_cons_zero, ev_tmp, ev_const, ev_glob, ev_func, List.getD_cons_succ, List.getD_cons_zero]; rfl)))) rfl rfl (by (try simp only [put_lit, put_no, List.setIfInBounds_toArray, List.set_cons_succ, List.set_cons_zero, ev_tmp, ev_const, ev_glob, ev_func, List.getD_cons_succ, List.getD_cons_zero]); with_reducible rfl) ?_) | (first | ((with_reducible refine gT ?_); (refine aT H ?_; clear H; intro w H; (try simp only [nrm, nrl, Value.cells] at H))) | ((with_reducible refine gL ?_); (first | refine aG H ?_ | refine aD H ?_)) | ((with_reducible refine gA ?_); (refine bA H ?_; clear H; intro b w H; (try simp only [nrm, nrl, Value.cells] at H))) | ((with_reducible refine gI ?_); refine aI ?_)) | (go_at_call 20; (with_reducible refine ch (hsg _) H ?_); clear H; intro w H) | (go_at_call 23; (with_reducible refine ch (hat _) H ?_); clear H; intro w H))
                  (refine ret_ctt Tryz.results13 rfl (by first | rfl | (simp only [put_lit, put_no, List.setIfInBounds_toArray, List.set_cons_succ, List.set_cons_zero]; rfl)) (by first | rfl | (simp only [put_lit, put_no, List.setIfInBounds_toArray, List.set_cons_succ, List.set_cons_zero]; rfl)) H (by repeat (first | (with_reducible exact At.zero) | apply At.succ)) (by first | (with_reducible exact row_Word) | (with_reducible exact row_Set)) (by rfl) rfl ?_)
                  exact ⟨RepR.ok (w := { kind := 2, place := i }) E.out, H.below⟩
                · have n46 : ((byt L i : Int) == 46) = false := by rw [beq_eq_false_iff_ne]; omega
                  have m46 := Lib.hid hc; clear hc
                  by_cases hc : byt L i = 94
                  · have E := Lib.hid (w_94 hc)
                    have hsg : ∀ w, Calls Tryz.prog 20 #[.int .u8 94, .int .i64 i] w fun e w' => e = .returned (wordV { kind := 3, place := i }) ∧ Below w.heap.size w w' := fun w => ref_sign 94 i (by omega) w
                    go_enter Tryz.func13, Tryz.ntmps13
                    go_wp2_with (first | ((with_reducible show @wpList _ _ _ ({ dst := _, op := Op.build _ #[(0, Operand.const (Value.int IntKind.i64 1)), (1, _), (2, _)], type := _, pos := _, after := _, guard := _ } :: _) _ _); refine own_wset (by first | rfl | exact wanted_g rfl (yielded_of rfl (by first | rfl | (simp only [put_lit, put_no, List.setIfInBounds_toArray, List.set_cons_succ, List.set_cons_zero, ev_tmp, ev_const, ev_glob, ev_func, List.getD_cons_succ, List.getD_cons_zero]; rfl)))) rfl rfl (by (try simp only [put_lit, put_no, List.setIfInBounds_toArray, List.set_cons_succ, List.set_cons_zero, ev_tmp, ev_const, ev_glob, ev_func, List.getD_cons_succ, List.getD_cons_zero]); with_reducible rfl) ?_) | (first | ((with_reducible refine gT ?_); (refine aT H ?_; clear H; intro w H; (try simp only [nrm, nrl, Value.cells] at H))) | ((with_reducible refine gL ?_); (first | refine aG H ?_ | refine aD H ?_)) | ((with_reducible refine gA ?_); (refine bA H ?_; clear H; intro b w H; (try simp only [nrm, nrl, Value.cells] at H))) | ((with_reducible refine gI ?_); refine aI ?_)) | (go_at_call 20; (with_reducible refine ch (hsg _) H ?_); clear H; intro w H) | (go_at_call 23; (with_reducible refine ch (hat _) H ?_); clear H; intro w H))
                    (refine ret_ctt Tryz.results13 rfl (by first | rfl | (simp only [put_lit, put_no, List.setIfInBounds_toArray, List.set_cons_succ, List.set_cons_zero]; rfl)) (by first | rfl | (simp only [put_lit, put_no, List.setIfInBounds_toArray, List.set_cons_succ, List.set_cons_zero]; rfl)) H (by repeat (first | (with_reducible exact At.zero) | apply At.succ)) (by first | (with_reducible exact row_Word) | (with_reducible exact row_Set)) (by rfl) rfl ?_)
                    exact ⟨RepR.ok (w := { kind := 3, place := i }) E.out, H.below⟩
                  · have n94 : ((byt L i : Int) == 94) = false := by rw [beq_eq_false_iff_ne]; omega
                    have m94 := Lib.hid hc; clear hc
                    by_cases hc : byt L i = 36
                    · have E := Lib.hid (w_36 hc)
                      have hsg : ∀ w, Calls Tryz.prog 20 #[.int .u8 36, .int .i64 i] w fun e w' => e = .returned (wordV { kind := 4, place := i }) ∧ Below w.heap.size w w' := fun w => ref_sign 36 i (by omega) w
                      go_enter Tryz.func13, Tryz.ntmps13
                      go_wp2_with (first | ((with_reducible show @wpList _ _ _ ({ dst := _, op := Op.build _ #[(0, Operand.const (Value.int IntKind.i64 1)), (1, _), (2, _)], type := _, pos := _, after := _, guard := _ } :: _) _ _); refine own_wset (by first | rfl | exact wanted_g rfl (yielded_of rfl (by first | rfl | (simp only [put_lit, put_no, List.setIfInBounds_toArray, List.set_cons_succ, List.set_cons_zero, ev_tmp, ev_const, ev_glob, ev_func, List.getD_cons_succ, List.getD_cons_zero]; rfl)))) rfl rfl (by (try simp only [put_lit, put_no, List.setIfInBounds_toArray, List.set_cons_succ, List.set_cons_zero, ev_tmp, ev_const, ev_glob, ev_func, List.getD_cons_succ, List.getD_cons_zero]); with_reducible rfl) ?_) | (first | ((with_reducible refine gT ?_); (refine aT H ?_; clear H; intro w H; (try simp only [nrm, nrl, Value.cells] at H))) | ((with_reducible refine gL ?_); (first | refine aG H ?_ | refine aD H ?_)) | ((with_reducible refine gA ?_); (refine bA H ?_; clear H; intro b w H; (try simp only [nrm, nrl, Value.cells] at H))) | ((with_reducible refine gI ?_); refine aI ?_)) | (go_at_call 20; (with_reducible refine ch (hsg _) H ?_); clear H; intro w H) | (go_at_call 23; (with_reducible refine ch (hat _) H ?_); clear H; intro w H))
                      (refine ret_ctt Tryz.results13 rfl (by first | rfl | (simp only [put_lit, put_no, List.setIfInBounds_toArray, List.set_cons_succ, List.set_cons_zero]; rfl)) (by first | rfl | (simp only [put_lit, put_no, List.setIfInBounds_toArray, List.set_cons_succ, List.set_cons_zero]; rfl)) H (by repeat (first | (with_reducible exact At.zero) | apply At.succ)) (by first | (with_reducible exact row_Word) | (with_reducible exact row_Set)) (by rfl) rfl ?_)
                      exact ⟨RepR.ok (w := { kind := 4, place := i }) E.out, H.below⟩
                    · have n36 : ((byt L i : Int) == 36) = false := by rw [beq_eq_false_iff_ne]; omega
                      have m36 := Lib.hid hc; clear hc
                      by_cases hc : byt L i = 41
                      · have E := Lib.hid (w_41 hc)
                        have hsg : ∀ w, Calls Tryz.prog 20 #[.int .u8 41, .int .i64 i] w fun e w' => e = .returned (wordV { kind := 9, place := i }) ∧ Below w.heap.size w w' := fun w => ref_sign 41 i (by omega) w
                        go_enter Tryz.func13, Tryz.ntmps13
                        go_wp2_with (first | ((with_reducible show @wpList _ _ _ ({ dst := _, op := Op.build _ #[(0, Operand.const (Value.int IntKind.i64 1)), (1, _), (2, _)], type := _, pos := _, after := _, guard := _ } :: _) _ _); refine own_wset (by first | rfl | exact wanted_g rfl (yielded_of rfl (by first | rfl | (simp only [put_lit, put_no, List.setIfInBounds_toArray, List.set_cons_succ, List.set_cons_zero, ev_tmp, ev_const, ev_glob, ev_func, List.getD_cons_succ, List.getD_cons_zero]; rfl)))) rfl rfl (by (try simp only [put_lit, put_no, List.setIfInBounds_toArray, List.set_cons_succ, List.set_cons_zero, ev_tmp, ev_const, ev_glob, ev_func, List.getD_cons_succ, List.getD_cons_zero]); with_reducible rfl) ?_) | (first | ((with_reducible refine gT ?_); (refine aT H ?_; clear H; intro w H; (try simp only [nrm, nrl, Value.cells] at H))) | ((with_reducible refine gL ?_); (first | refine aG H ?_ | refine aD H ?_)) | ((with_reducible refine gA ?_); (refine bA H ?_; clear H; intro b w H; (try simp only [nrm, nrl, Value.cells] at H))) | ((with_reducible refine gI ?_); refine aI ?_)) | (go_at_call 20; (with_reducible refine ch (hsg _) H ?_); clear H; intro w H) | (go_at_call 23; (with_reducible refine ch (hat _) H ?_); clear H; intro w H))
                        (refine ret_ctt Tryz.results13 rfl (by first | rfl | (simp only [put_lit, put_no, List.setIfInBounds_toArray, List.set_cons_succ, List.set_cons_zero]; rfl)) (by first | rfl | (simp only [put_lit, put_no, List.setIfInBounds_toArray, List.set_cons_succ, List.set_cons_zero]; rfl)) H (by repeat (first | (with_reducible exact At.zero) | apply At.succ)) (by first | (with_reducible exact row_Word) | (with_reducible exact row_Set)) (by rfl) rfl ?_)
                        exact ⟨RepR.ok (w := { kind := 9, place := i }) E.out, H.below⟩
                      · have n41 : ((byt L i : Int) == 41) = false := by rw [beq_eq_false_iff_ne]; omega
                        have m41 := Lib.hid hc; clear hc
                        by_cases hc : byt L i = 124
                        · have E := Lib.hid (w_124 hc)
                          have hsg : ∀ w, Calls Tryz.prog 20 #[.int .u8 124, .int .i64 i] w fun e w' => e = .returned (wordV { kind := 10, place := i }) ∧ Below w.heap.size w w' := fun w => ref_sign 124 i (by omega) w
                          go_enter Tryz.func13, Tryz.ntmps13
                          go_wp2_with (first | ((with_reducible show @wpList _ _ _ ({ dst := _, op := Op.build _ #[(0, Operand.const (Value.int IntKind.i64 1)), (1, _), (2, _)], type := _, pos := _, after := _, guard := _ } :: _) _ _); refine own_wset (by first | rfl | exact wanted_g rfl (yielded_of rfl (by first | rfl | (simp only [put_lit, put_no, List.setIfInBounds_toArray, List.set_cons_succ, List.set_cons_zero, ev_tmp, ev_const, ev_glob, ev_func, List.getD_cons_succ, List.getD_cons_zero]; rfl)))) rfl rfl (by (try simp only [put_lit, put_no, List.setIfInBounds_toArray, List.set_cons_succ, List.set_cons_zero, ev_tmp, ev_const, ev_glob, ev_func, List.getD_cons_succ, List.getD_cons_zero]); with_reducible rfl) ?_) | (first | ((with_reducible refine gT ?_); (refine aT H ?_; clear H; intro w H; (try simp only [nrm, nrl, Value.cells] at H))) | ((with_reducible refine gL ?_); (first | refine aG H ?_ | refine aD H ?_)) | ((with_reducible refine gA ?_); (refine bA H ?_; clear H; intro b w H; (try simp only [nrm, nrl, Value.cells] at H))) | ((with_reducible refine gI ?_); refine aI ?_)) | (go_at_call 20; (with_reducible refine ch (hsg _) H ?_); clear H; intro w H) | (go_at_call 23; (with_reducible refine ch (hat _) H ?_); clear H; intro w H))
                          (refine ret_ctt Tryz.results13 rfl (by first | rfl | (simp only [put_lit, put_no, List.setIfInBounds_toArray, List.set_cons_succ, List.set_cons_zero]; rfl)) (by first | rfl | (simp only [put_lit, put_no, List.setIfInBounds_toArray, List.set_cons_succ, List.set_cons_zero]; rfl)) H (by repeat (first | (with_reducible exact At.zero) | apply At.succ)) (by first | (with_reducible exact row_Word) | (with_reducible exact row_Set)) (by rfl) rfl ?_)
                          exact ⟨RepR.ok (w := { kind := 10, place := i }) E.out, H.below⟩
                        · have n124 : ((byt L i : Int) == 124) = false := by rw [beq_eq_false_iff_ne]; omega
                          have m124 := Lib.hid hc; clear hc
                          have E := Lib.hid (w_no m92.out m91.out m40.out m123.out m42.out m43.out m63.out m46.out m94.out m36.out m41.out m124.out)
                          have hsg := fun w => ref_sign (byt L i) i hbl w
                          rw [sign_no m40.out m42.out m43.out m63.out m46.out m94.out m36.out m41.out m124.out] at hsg
                          have hon := fun w => ref_one (byt L i) hbl w
                          go_enter Tryz.func13, Tryz.ntmps13
                          go_wp2_with (first | ((with_reducible show @wpList _ _ _ ({ dst := _, op := Op.build _ #[(0, Operand.const (Value.int IntKind.i64 1)), (1, _), (2, _)], type := _, pos := _, after := _, guard := _ } :: _) _ _); refine own_wset (by first | rfl | exact wanted_g rfl (yielded_of rfl (by first | rfl | (simp only [put_lit, put_no, List.setIfInBounds_toArray, List.set_cons_succ, List.set_cons_zero, ev_tmp, ev_const, ev_glob, ev_func, List.getD_cons_succ, List.getD_cons_zero]; rfl)))) rfl rfl (by (try simp only [put_lit, put_no, List.setIfInBounds_toArray, List.set_cons_succ, List.set_cons_zero, ev_tmp, ev_const, ev_glob, ev_func, List.getD_cons_succ, List.getD_cons_zero]); with_reducible rfl) ?_) | (first | ((with_reducible refine gT ?_); (refine aT H ?_; clear H; intro w H; (try simp only [nrm, nrl, Value.cells] at H))) | ((with_reducible refine gL ?_); (first | refine aG H ?_ | refine aD H ?_)) | ((with_reducible refine gA ?_); (refine bA H ?_; clear H; intro b w H; (try simp only [nrm, nrl, Value.cells] at H))) | ((with_reducible refine gI ?_); refine aI ?_)) | (go_at_call 20; (with_reducible refine ch (hsg _) H ?_); clear H; intro w H) | (go_at_call 23; (with_reducible refine ch (hat _) H ?_); clear H; intro w H) | (go_at_call 27; (with_reducible refine ch (hon _) H ?_); clear H; intro w H))
                          (refine ret_ctt Tryz.results13 rfl (by first | rfl | (simp only [put_lit, put_no, List.setIfInBounds_toArray, List.set_cons_succ, List.set_cons_zero]; rfl)) (by first | rfl | (simp only [put_lit, put_no, List.setIfInBounds_toArray, List.set_cons_succ, List.set_cons_zero]; rfl)) H (by repeat (first | (with_reducible exact At.zero) | apply At.succ)) (by first | (with_reducible exact row_Word) | (with_reducible exact row_Set)) (by rfl) rfl ?_)
                          exact ⟨RepR.ok (w := { kind := 1, place := i, set := ofS [(byt L i : Int)] }) E.out, H.below⟩
end Go.Proofs.YtllmgmfihijejaaGreatDoor
/-
  The walk of the words' reference: Words.
-/
namespace Go.Proofs.YtllmgmfihijejaaGreatDoor
open Go.RowKit Go.Shelf
attribute [local go_sem] Oper.semAt_some
set_option linter.unusedSimpArgs false

/-- what Words of either package tells: T: the type of a word -/
def WordsR (T : TypeId) (base : Nat) (r : Except (Nat × Nat) (List WordD)) (e : Ending) (w' : World) : Prop := match r with
  | .ok ws => ∃ v, e = .returned (.tuple #[v, .int .i64 0, .int .i64 0]) ∧ w'.ownsRow base T 17 v ws.length (flatW ws)
  | .error (p, x) => e = .returned (.tuple #[.slice none 0 0, .int .i64 p, .int .i64 x])
theorem WordsR.ok {T : TypeId} {base : Nat} {r : Except (Nat × Nat) (List WordD)} {v : Value} {w' : World} {ws : List WordD} (h : r = .ok ws) (ho : w'.ownsRow base T 17 v ws.length (flatW ws)) : WordsR T base r (.returned (.tuple #[v, .int .i64 0, .int .i64 0])) w' := by subst h; exact ⟨v, rfl, ho⟩
theorem WordsR.no {T : TypeId} {base : Nat} {r : Except (Nat × Nat) (List WordD)} {w' : World} {p x : Nat} (h : r = .error (p, x)) : WordsR T base r (.returned (.tuple #[.slice none 0 0, .int .i64 p, .int .i64 x])) w' := by subst h; rfl
theorem info_Word : (Tryz.prog.info? 53).map (fun i => (i.zero, i.size, i.bytes)) = some (some (.agg (wordC { kind := 0, place := 0 })), 17, 88) := by kernel_rfl
/-- the words of a regex, its length looked at -/
def wordsF (L : Str) : Except (Nat × Nat) (List WordD) := if 1000 < L.length then .error (0, 3) else wordsP L
theorem run_word1 (d : WordD) (W : World) : (Instr.buildSlice 29 1 #[(0, wordV d)]).run Tryz.prog W = .ok (.slice (some ⟨W.heap.size, 0, none⟩) 1 1) (W.alloc (.cells (wordC d) 53)) := by kernel_rfl

set_option maxRecDepth 100000 in
set_option maxHeartbeats 16000000 in
theorem ref_Words (L : Str) (w0 : World) : Calls Tryz.prog 6 #[.string ⟨L.toArray⟩] w0 fun e w' => WordsR 53 w0.heap.size (wordsF L) e w' ∧ Below w0.heap.size w0 w' := by
  obtain ⟨i0, hi0, hz0, hz1, hz2⟩ := info_parts info_Word
  have H := Hold.start w0
  by_cases hlen : 1000 < L.length
  · have d0 : decide ((1000 : Int) < (L.length : Int)) = true := by simp; omega
    have E := Lib.hid (show wordsF L = .error (0, 3) by unfold wordsF; rw [if_pos hlen])
    go_enter Tryz.func6, Tryz.ntmps6
    go_wp2_with (first | fail)
    go_ret3
    exact ⟨WordsR.no E.out, H.below⟩
  · have d0 : decide ((1000 : Int) < (L.length : Int)) = false := by simp; omega
    have E := Lib.hid (show wordsF L = wordsP L by unfold wordsF; rw [if_neg hlen])
    go_enter Tryz.func6, Tryz.ntmps6
    go_wp2_with (first | fail)
    replace H := H.addNil 53 17
    simp only [List.nil_append] at H
    go_loopw [5, 6] (fun v k wr => ∃ (j f : Nat) (ws : List WordD), k = .int .i64 j ∧ j ≤ L.length ∧ ws.length ≤ j ∧ Hid (wordsP L = wcat ws (wordsGo L f j) ∧ L.length ≤ f + j) ∧ Hold w0 wr [.row v 53 17 ws.length (flatW ws)]) (fun _ k _ => L.length + 2 - (intOf k).toNat)
    case atStart => exact ⟨0, L.length, [], rfl, by omega, by simp, Lib.hid ⟨(wcat_nil _).symm, by omega⟩, H⟩
    case round =>
      clear H
      obtain ⟨j, f, ws, rfl, hj, hwl, G, H⟩ := hrel
      by_cases hlt : j < L.length
      · have dj : decide ((j : Int) < (L.length : Int)) = true := by simp; omega
        obtain ⟨f, rfl⟩ : ∃ f', f = f' + 1 := ⟨f - 1, by have := G.out.2; omega⟩
        have hr := fun w => ref_word L j (by omega) hlt w
        cases hw : wordP L j with
        | error x =>
          rw [hw] at hr
          simp only [RepR] at hr
          have E2 := Lib.hid (show wordsF L = .error (j, x) by rw [E.out, G.out.1, words_err hlt hw])
          have hx : ((x : Int) != 0) = true := by rw [bne_iff_ne]; have := wordP_err hw; omega
          clear hw
          go_wp2_with (first | (first | ((with_reducible refine gT ?_); (refine aT H ?_; clear H; intro w H; (try simp only [nrm, nrl, Value.cells] at H))) | ((with_reducible refine gA ?_); (refine bA H ?_; clear H; intro b w H; (try simp only [nrm, nrl, Value.cells] at H)))) | (go_at_call 13; (with_reducible refine (hr _).mono ?_); rintro e w ⟨⟨wd, kk, rfl⟩, hb⟩; replace H := H.call hb; clear hb))
          go_ret3
          exact ⟨WordsR.no E2.out, H.below⟩
        | ok p =>
          obtain ⟨d, k⟩ := p
          have hk := wordP_le hlt hw
          rw [hw] at hr
          simp only [RepR] at hr
          have G2 := Lib.hid (show wordsP L = wcat (ws ++ [d]) (wordsGo L f k) by rw [G.out.1, words_ok hlt hw])
          clear hw
          go_wp2_with (first | ((with_reducible show @wpList _ _ _ ({ dst := _, op := Op.buildSlice _ _ _, type := _, pos := _, after := _, guard := _ } :: _) _ _); refine own_build (by first | rfl | exact wanted_g rfl (yielded_of rfl (by first | rfl | (simp only [put_lit, put_no, List.setIfInBounds_toArray, List.set_cons_succ, List.set_cons_zero, ev_tmp, ev_const, ev_glob, ev_func, List.getD_cons_succ, List.getD_cons_zero]; rfl)))) _ _ _ rfl H (wordC d) 53 (by intro W; simp only [List.map_toArray, List.map_cons, List.map_nil]; (try simp only [put_lit, put_no, List.setIfInBounds_toArray, List.set_cons_succ, List.set_cons_zero, ev_tmp, ev_const, List.getD_cons_succ, List.getD_cons_zero]); exact run_word1 d W) ?_; clear H; intro b w H; (try simp only [nrm, nrl, Value.cells] at H)) | (at_builtin; refine own_append rfl _ _ 29 rfl H (by first | (simp only [put_lit, put_no, List.setIfInBounds_toArray, List.set_cons_succ, List.set_cons_zero, ev_tmp, ev_const, ev_glob, ev_func, List.getD_cons_succ, List.getD_cons_zero]; done) | (simp only [put_lit, put_no, List.setIfInBounds_toArray, List.set_cons_succ, List.set_cons_zero, ev_tmp, ev_const, ev_glob, ev_func, List.getD_cons_succ, List.getD_cons_zero]; rfl)) rfl (by repeat (first | (with_reducible exact At.zero) | apply At.succ)) (by repeat (first | (with_reducible exact At.zero) | apply At.succ)) Tryz.underlying29 hi0 hz0 hz1 hz2 rfl (by decide) rfl rfl (by unfold maxLen; omega) (by omega) ?_; clear H; intro v2 w H; (try simp only [nrm, nrl, Value.cells] at H)) | (first | ((with_reducible refine gT ?_); (refine aT H ?_; clear H; intro w H; (try simp only [nrm, nrl, Value.cells] at H))) | ((with_reducible refine gL ?_); refine aD H ?_) | ((with_reducible refine gA ?_); (refine bA H ?_; clear H; intro b w H; (try simp only [nrm, nrl, Value.cells] at H)))) | (go_at_call 13; (with_reducible refine ch (hr _) H ?_); clear H; intro w H))
          go_roundw
          case rel => exact ⟨k, f, ws ++ [d], rfl, hk.2, by simp; omega, Lib.hid ⟨G2.out, by have := G.out.2; omega⟩, by rw [flatW_snoc, List.length_append]; exact H.take 1⟩
          case measure => simp [intOf]; omega
      · have dj : decide ((j : Int) < (L.length : Int)) = false := by simp; omega
        have E2 := Lib.hid (show wordsF L = .ok ws by rw [E.out, G.out.1, words_end hlt])
        go_wp2_with (first | fail)
        go_ret3
        exact ⟨WordsR.ok E2.out (H.all 0 _ rfl), H.below⟩
end Go.Proofs.YtllmgmfihijejaaGreatDoor
