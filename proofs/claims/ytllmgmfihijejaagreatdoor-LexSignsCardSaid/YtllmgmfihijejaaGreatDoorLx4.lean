/-
  Laws of walks, and walks: Ref09e Ref09f Ref09h.
-/
import Derived.Test.YtllmgmfihijejaaGreatDoorLx2
import Derived.Test.YtllmgmfihijejaaGreatDoorLx3
set_option linter.unusedVariables false
set_option linter.unusedSimpArgs false
/-
  The walks of the words' reference: signs, repeats.
-/
namespace Go.Proofs.YtllmgmfihijejaaGreatDoor
open Go.RowKit Go.Shelf
attribute [local go_sem] Oper.semAt_some
set_option linter.unusedSimpArgs false

def signD (c i : Nat) : WordD :=
  if c = 46 then { kind := 2, place := i } else if c = 94 then { kind := 3, place := i } else if c = 36 then { kind := 4, place := i } else if c = 40 then { kind := 6, place := i }
  else if c = 41 then { kind := 9, place := i } else if c = 124 then { kind := 10, place := i } else if c = 42 then { kind := 11, place := i, lo := 0, hi := -1 }
  else if c = 43 then { kind := 11, place := i, lo := 1, hi := -1 } else if c = 63 then { kind := 11, place := i, lo := 0, hi := 1 } else { kind := 0, place := i }
theorem ieq (c n : Nat) : (c = n) = (((c : Int) == (n : Int)) = true) := by rw [beq_iff_eq]; exact propext ⟨fun h => by omega, fun h => by omega⟩

set_option maxRecDepth 100000 in
set_option maxHeartbeats 4000000 in
theorem ref_sign (c i : Nat) (hc : c < 256) (w0 : World) : Calls Tryz.prog 20 #[.int .u8 c, .int .i64 i] w0 fun e w' => e = .returned (wordV (signD c i)) ∧ Below w0.heap.size w0 w' := by
  have H := Hold.start w0
  go_enter Tryz.func20, Tryz.ntmps20
  go_wp2_with (first | (first | ((with_reducible refine gT ?_); ((first | refine aO H ?_ | refine aT H ?_); clear H; intro w H; (try simp only [nrm, nrl, Value.cells] at H))) | ((with_reducible refine gL ?_); refine aD H ?_) | ((with_reducible refine gA ?_); (refine bA H ?_; clear H; intro b w H; (try simp only [nrm, nrl, Value.cells] at H)))))
  all_goals
    (refine ret_c Tryz.results20 rfl H (by repeat (first | (with_reducible exact At.zero) | apply At.succ)) (by first | (with_reducible exact row_Word) | (with_reducible exact row_Set)) (by rfl) rfl ?_)
    refine ⟨congrArg Ending.returned ?_, H.below⟩
    clear H
    simp only [signD, ieq, Int.cast_ofNat_Int, *, Bool.false_eq_true, if_true, if_false]
    rfl

def RepR (o : Except Nat (WordD × Nat)) (e : Ending) : Prop := match o with
  | .ok (w, k) => e = .returned (.tuple #[wordV w, .int .i64 k, .int .i64 0])
  | .error x => ∃ w k, e = .returned (.tuple #[wordV w, .int .i64 k, .int .i64 x])
theorem RepR.ok {o : Except Nat (WordD × Nat)} {w : WordD} {k : Nat} (h : o = .ok (w, k)) : RepR o (.returned (.tuple #[wordV w, .int .i64 k, .int .i64 0])) := by subst h; rfl
theorem RepR.no {o : Except Nat (WordD × Nat)} {x : Nat} {w : WordD} {k : Int} (h : o = .error x) : RepR o (.returned (.tuple #[wordV w, .int .i64 k, .int .i64 x])) := by subst h; exact ⟨w, k, rfl⟩
set_option maxRecDepth 100000 in
set_option maxHeartbeats 8000000 in
theorem ref_repeat (L : Str) (i e : Nat) (lo hi : Int) (hL : L.length ≤ 2000) (hlo : 0 ≤ lo ∧ lo ≤ 200) (hhi : -1 ≤ hi ∧ hi ≤ 200) (hel : e ≤ L.length) (w0 : World) :
    Calls Tryz.prog 26 #[.string ⟨L.toArray⟩, wordV { kind := 11, place := i, lo := lo, hi := hi }, .int .i64 e] w0 fun e' w' => RepR (repeatP L i lo hi e) e' ∧ Below w0.heap.size w0 w' := by
  have H := Hold.start w0
  have hat := fun w => ref_at L [63] e hL (by simp) (by simp) (by omega) w
  by_cases c1 : 100 < lo
  · have d1 : decide (100 < lo) = true := by simp; omega
    have HE := Lib.hid (show repeatP L i lo hi e = .error 6 by unfold repeatP; rw [if_pos (.inl c1)])
    clear c1
    go_enter Tryz.func26, Tryz.ntmps26
    go_wp2_with (first | (first | ((with_reducible refine gT ?_); (refine aT H ?_; clear H; intro w H; (try simp only [nrm, nrl, Value.cells] at H))) | ((with_reducible refine gL ?_); (first | refine aG H ?_ | refine aD H ?_)) | ((with_reducible refine gX ?_); (refine bB H ?_; clear H; intro b w H; (try simp only [nrm, nrl, Value.cells] at H))) | ((with_reducible refine gA ?_); (refine bA H ?_; clear H; intro b w H; (try simp only [nrm, nrl, Value.cells] at H)))) | (go_at_call 23; (with_reducible refine ch (hat _) H ?_); clear H; intro w H))
    (refine ret_ctt Tryz.results26 rfl (by first | rfl | (simp only [put_lit, put_no, List.setIfInBounds_toArray, List.set_cons_succ, List.set_cons_zero]; rfl)) (by first | rfl | (simp only [put_lit, put_no, List.setIfInBounds_toArray, List.set_cons_succ, List.set_cons_zero]; rfl)) H (by repeat (first | (with_reducible exact At.zero) | apply At.succ)) (by first | (with_reducible exact row_Word) | (with_reducible exact row_Set)) (by rfl) rfl ?_)
    exact ⟨RepR.no (w := { kind := 11, place := i, lo := lo, hi := hi }) HE.out, H.below⟩
  · have d1 : decide (100 < lo) = false := by simp; omega
    by_cases c2 : 100 < hi
    · have d2 : decide (100 < hi) = true := by simp; omega
      have HE := Lib.hid (show repeatP L i lo hi e = .error 6 by unfold repeatP; rw [if_pos (.inr (.inl c2))])
      clear c2 c1
      go_enter Tryz.func26, Tryz.ntmps26
      go_wp2_with (first | (first | ((with_reducible refine gT ?_); (refine aT H ?_; clear H; intro w H; (try simp only [nrm, nrl, Value.cells] at H))) | ((with_reducible refine gL ?_); (first | refine aG H ?_ | refine aD H ?_)) | ((with_reducible refine gX ?_); (refine bB H ?_; clear H; intro b w H; (try simp only [nrm, nrl, Value.cells] at H))) | ((with_reducible refine gA ?_); (refine bA H ?_; clear H; intro b w H; (try simp only [nrm, nrl, Value.cells] at H)))) | (go_at_call 23; (with_reducible refine ch (hat _) H ?_); clear H; intro w H))
      (refine ret_ctt Tryz.results26 rfl (by first | rfl | (simp only [put_lit, put_no, List.setIfInBounds_toArray, List.set_cons_succ, List.set_cons_zero]; rfl)) (by first | rfl | (simp only [put_lit, put_no, List.setIfInBounds_toArray, List.set_cons_succ, List.set_cons_zero]; rfl)) H (by repeat (first | (with_reducible exact At.zero) | apply At.succ)) (by first | (with_reducible exact row_Word) | (with_reducible exact row_Set)) (by rfl) rfl ?_)
      exact ⟨RepR.no (w := { kind := 11, place := i, lo := lo, hi := hi }) HE.out, H.below⟩
    · have d2 : decide (100 < hi) = false := by simp; omega
      by_cases c3 : 0 ≤ hi
      · have d3 : decide (0 ≤ hi) = true := by simp; omega
        by_cases c4 : hi < lo
        · have d4 : decide (hi < lo) = true := by simp; omega
          have HE := Lib.hid (show repeatP L i lo hi e = .error 6 by unfold repeatP; rw [if_pos (.inr (.inr ⟨c3, c4⟩))])
          clear c4 c3 c2 c1
          go_enter Tryz.func26, Tryz.ntmps26
          go_wp2_with (first | (first | ((with_reducible refine gT ?_); (refine aT H ?_; clear H; intro w H; (try simp only [nrm, nrl, Value.cells] at H))) | ((with_reducible refine gL ?_); (first | refine aG H ?_ | refine aD H ?_)) | ((with_reducible refine gX ?_); (refine bB H ?_; clear H; intro b w H; (try simp only [nrm, nrl, Value.cells] at H))) | ((with_reducible refine gA ?_); (refine bA H ?_; clear H; intro b w H; (try simp only [nrm, nrl, Value.cells] at H)))) | (go_at_call 23; (with_reducible refine ch (hat _) H ?_); clear H; intro w H))
          (refine ret_ctt Tryz.results26 rfl (by first | rfl | (simp only [put_lit, put_no, List.setIfInBounds_toArray, List.set_cons_succ, List.set_cons_zero]; rfl)) (by first | rfl | (simp only [put_lit, put_no, List.setIfInBounds_toArray, List.set_cons_succ, List.set_cons_zero]; rfl)) H (by repeat (first | (with_reducible exact At.zero) | apply At.succ)) (by first | (with_reducible exact row_Word) | (with_reducible exact row_Set)) (by rfl) rfl ?_)
          exact ⟨RepR.no (w := { kind := 11, place := i, lo := lo, hi := hi }) HE.out, H.below⟩
        · have d4 : decide (hi < lo) = false := by simp; omega
          have hne : ¬ (100 < lo ∨ 100 < hi ∨ (0 ≤ hi ∧ hi < lo)) := by omega
          have he : repeatP L i lo hi e = repeatP L i lo hi e := rfl
          conv at he => rhs; unfold repeatP
          rw [if_neg hne] at he
          clear hne c1 c2 c3 c4
          cases ha : atP L e [63] with
          | true =>
            rw [ha] at hat
            rw [if_pos ha] at he
            have HE := Lib.hid he; clear he ha
            go_enter Tryz.func26, Tryz.ntmps26
            go_wp2_with (first | (first | ((with_reducible refine gT ?_); ((first | refine aO H ?_ | refine aT H ?_); clear H; intro w H; (try simp only [nrm, nrl, Value.cells] at H))) | ((with_reducible refine gL ?_); (first | refine aG H ?_ | refine aD H ?_)) | ((with_reducible refine gX ?_); (refine bB H ?_; clear H; intro b w H; (try simp only [nrm, nrl, Value.cells] at H))) | ((with_reducible refine gA ?_); (refine bA H ?_; clear H; intro b w H; (try simp only [nrm, nrl, Value.cells] at H)))) | (go_at_call 23; (with_reducible refine ch (hat _) H ?_); clear H; intro w H))
            (refine ret_ctt Tryz.results26 rfl (by first | rfl | (simp only [put_lit, put_no, List.setIfInBounds_toArray, List.set_cons_succ, List.set_cons_zero]; rfl)) (by first | rfl | (simp only [put_lit, put_no, List.setIfInBounds_toArray, List.set_cons_succ, List.set_cons_zero]; rfl)) H (by repeat (first | (with_reducible exact At.zero) | apply At.succ)) (by first | (with_reducible exact row_Word) | (with_reducible exact row_Set)) (by rfl) rfl ?_)
            exact ⟨RepR.ok (w := { kind := 11, place := i, lo := lo, hi := hi, lazy := true }) HE.out, H.below⟩
          | false =>
            rw [ha] at hat
            rw [if_neg (by rw [ha]; simp)] at he
            have HE := Lib.hid he; clear he ha
            go_enter Tryz.func26, Tryz.ntmps26
            go_wp2_with (first | (first | ((with_reducible refine gT ?_); (refine aT H ?_; clear H; intro w H; (try simp only [nrm, nrl, Value.cells] at H))) | ((with_reducible refine gL ?_); (first | refine aG H ?_ | refine aD H ?_)) | ((with_reducible refine gX ?_); (refine bB H ?_; clear H; intro b w H; (try simp only [nrm, nrl, Value.cells] at H))) | ((with_reducible refine gA ?_); (refine bA H ?_; clear H; intro b w H; (try simp only [nrm, nrl, Value.cells] at H)))) | (go_at_call 23; (with_reducible refine ch (hat _) H ?_); clear H; intro w H))
            (refine ret_ctt Tryz.results26 rfl (by first | rfl | (simp only [put_lit, put_no, List.setIfInBounds_toArray, List.set_cons_succ, List.set_cons_zero]; rfl)) (by first | rfl | (simp only [put_lit, put_no, List.setIfInBounds_toArray, List.set_cons_succ, List.set_cons_zero]; rfl)) H (by repeat (first | (with_reducible exact At.zero) | apply At.succ)) (by first | (with_reducible exact row_Word) | (with_reducible exact row_Set)) (by rfl) rfl ?_)
            exact ⟨RepR.ok (w := { kind := 11, place := i, lo := lo, hi := hi }) HE.out, H.below⟩
      · have d3 : decide (0 ≤ hi) = false := by simp; omega
        have hne : ¬ (100 < lo ∨ 100 < hi ∨ (0 ≤ hi ∧ hi < lo)) := by omega
        have he : repeatP L i lo hi e = repeatP L i lo hi e := rfl
        conv at he => rhs; unfold repeatP
        rw [if_neg hne] at he
        clear hne c1 c2 c3
        cases ha : atP L e [63] with
        | true =>
          rw [ha] at hat
          rw [if_pos ha] at he
          have HE := Lib.hid he; clear he ha
          go_enter Tryz.func26, Tryz.ntmps26
          go_wp2_with (first | (first | ((with_reducible refine gT ?_); ((first | refine aO H ?_ | refine aT H ?_); clear H; intro w H; (try simp only [nrm, nrl, Value.cells] at H))) | ((with_reducible refine gL ?_); (first | refine aG H ?_ | refine aD H ?_)) | ((with_reducible refine gX ?_); (refine bB H ?_; clear H; intro b w H; (try simp only [nrm, nrl, Value.cells] at H))) | ((with_reducible refine gA ?_); (refine bA H ?_; clear H; intro b w H; (try simp only [nrm, nrl, Value.cells] at H)))) | (go_at_call 23; (with_reducible refine ch (hat _) H ?_); clear H; intro w H))
          (refine ret_ctt Tryz.results26 rfl (by first | rfl | (simp only [put_lit, put_no, List.setIfInBounds_toArray, List.set_cons_succ, List.set_cons_zero]; rfl)) (by first | rfl | (simp only [put_lit, put_no, List.setIfInBounds_toArray, List.set_cons_succ, List.set_cons_zero]; rfl)) H (by repeat (first | (with_reducible exact At.zero) | apply At.succ)) (by first | (with_reducible exact row_Word) | (with_reducible exact row_Set)) (by rfl) rfl ?_)
          exact ⟨RepR.ok (w := { kind := 11, place := i, lo := lo, hi := hi, lazy := true }) HE.out, H.below⟩
        | false =>
          rw [ha] at hat
          rw [if_neg (by rw [ha]; simp)] at he
          have HE := Lib.hid he; clear he ha
          go_enter Tryz.func26, Tryz.ntmps26
          go_wp2_with (first | (first | ((with_reducible refine gT ?_); (refine aT H ?_; clear H; intro w H; (try simp only [nrm, nrl, Value.cells] at H))) | ((with_reducible refine gL ?_); (first | refine aG H ?_ | refine aD H ?_)) | ((with_reducible refine gX ?_); (refine bB H ?_; clear H; intro b w H; (try simp only [nrm, nrl, Value.cells] at H))) | ((with_reducible refine gA ?_); (refine bA H ?_; clear H; intro b w H; (try simp only [nrm, nrl, Value.cells] at H)))) | (go_at_call 23; (with_reducible refine ch (hat _) H ?_); clear H; intro w H))
          (refine ret_ctt Tryz.results26 rfl (by first | rfl | (simp only [put_lit, put_no, List.setIfInBounds_toArray, List.set_cons_succ, List.set_cons_zero]; rfl)) (by first | rfl | (simp only [put_lit, put_no, List.setIfInBounds_toArray, List.set_cons_succ, List.set_cons_zero]; rfl)) H (by repeat (first | (with_reducible exact At.zero) | apply At.succ)) (by first | (with_reducible exact row_Word) | (with_reducible exact row_Set)) (by rfl) rfl ?_)
          exact ⟨RepR.ok (w := { kind := 11, place := i, lo := lo, hi := hi }) HE.out, H.below⟩
end Go.Proofs.YtllmgmfihijejaaGreatDoor
/-
  The walks of the words' reference: braces, classes.
-/
namespace Go.Proofs.YtllmgmfihijejaaGreatDoor
open Go.RowKit Go.Shelf
attribute [local go_sem] Oper.semAt_some
set_option linter.unusedSimpArgs false

set_option maxRecDepth 100000 in
set_option maxHeartbeats 16000000 in
theorem ref_braces (L : Str) (i : Nat) (hL : L.length ≤ 2000) (hi : i < L.length) (w0 : World) : Calls Tryz.prog 25 #[.string ⟨L.toArray⟩, .int .i64 i] w0 fun e w' => WordR (brW i (bracesP L i)) e ∧ Below w0.heap.size w0 w' := by
  have H := Hold.start w0
  have hn1 := fun w => ref_number L (i + 1) hL (by omega) w
  simp only [Int.natCast_add, Int.cast_ofNat_Int] at hn1
  have en : bracesP L i = bracesP L i := rfl
  conv at en => rhs; unfold bracesP
  cases hnum : numberP L (i + 1) with
  | none =>
    rw [hnum] at hn1 en
    simp only [numV] at hn1 en
    have E := Lib.hid (show brW i (bracesP L i) = none by rw [en]; rfl); clear en hnum
    go_enter Tryz.func25, Tryz.ntmps25
    go_wp2_with (first | (first | ((with_reducible refine gT ?_); (refine aT H ?_; clear H; intro w H; (try simp only [nrm, nrl, Value.cells] at H))) | ((with_reducible refine gL ?_); refine aD H ?_) | ((with_reducible refine gA ?_); (refine bA H ?_; clear H; intro b w H; (try simp only [nrm, nrl, Value.cells] at H)))) | (go_at_call 50; (with_reducible refine ch (hn1 _) H ?_); clear H; intro w H))
    (refine ret_ct Tryz.results25 rfl (by first | rfl | (simp only [put_lit, put_no, List.setIfInBounds_toArray, List.set_cons_succ, List.set_cons_zero]; rfl)) H (by repeat (first | (with_reducible exact At.zero) | apply At.succ)) (by first | (with_reducible exact row_Word) | (with_reducible exact row_Set)) (by rfl) rfl ?_)
    exact ⟨WordR.no (w := { kind := 11, place := i }) E.out, H.below⟩
  | some p =>
    obtain ⟨n, k⟩ := p
    have hk := numberP_le hnum (by omega)
    rw [hnum] at hn1 en
    simp only [numV] at hn1 en
    clear hnum
    have dk : decide ((k : Int) < 0) = false := by simp
    have ha1 := fun w => ref_at L [44, 125] k hL (by simp) (by simp) (by omega) w
    cases h1 : atP L k [44, 125] with
    | true =>
      rw [h1] at ha1 en
      rw [if_pos rfl] at en
      have E := Lib.hid (show brW i (bracesP L i) = some ({ kind := 11, place := i, lo := n, hi := -1 }, k + 2) by rw [en]; rfl); clear en h1
      go_enter Tryz.func25, Tryz.ntmps25
      go_wp2_with (first | (first | ((with_reducible refine gT ?_); ((first | refine aO H ?_ | refine aT H ?_); clear H; intro w H; (try simp only [nrm, nrl, Value.cells] at H))) | ((with_reducible refine gL ?_); refine aD H ?_) | ((with_reducible refine gA ?_); (refine bA H ?_; clear H; intro b w H; (try simp only [nrm, nrl, Value.cells] at H)))) | (go_at_call 50; (with_reducible refine ch (hn1 _) H ?_); clear H; intro w H) | (go_at_call 23; (with_reducible refine ch (ha1 _) H ?_); clear H; intro w H))
      (refine ret_ct Tryz.results25 rfl (by first | rfl | (simp only [put_lit, put_no, List.setIfInBounds_toArray, List.set_cons_succ, List.set_cons_zero]; rfl)) H (by repeat (first | (with_reducible exact At.zero) | apply At.succ)) (by first | (with_reducible exact row_Word) | (with_reducible exact row_Set)) (by rfl) rfl ?_)
      exact ⟨WordR.ok (w := { kind := 11, place := i, lo := n, hi := -1 }) E.out, H.below⟩
    | false =>
      rw [h1] at ha1 en
      rw [if_neg (by simp)] at en
      clear h1
      have ha2 := fun w => ref_at L [44] k hL (by simp) (by simp) (by omega) w
      cases h2 : atP L k [44] with
      | true =>
        have hl := at_le h2 (by simp)
        simp only [List.length_cons, List.length_nil, Nat.zero_add] at hl
        rw [h2] at ha2 en
        rw [if_pos rfl] at en
        clear h2
        have hn2 := fun w => ref_number L (k + 1) hL (by omega) w
        simp only [Int.natCast_add, Int.cast_ofNat_Int] at hn2
        cases hnum2 : numberP L (k + 1) with
        | none =>
          rw [hnum2] at hn2 en
          simp only [numV] at hn2 en
          have E := Lib.hid (show brW i (bracesP L i) = none by rw [en]; rfl); clear en hnum2
          go_enter Tryz.func25, Tryz.ntmps25
          go_wp2_with (first | (first | ((with_reducible refine gT ?_); ((first | refine aO H ?_ | refine aT H ?_); clear H; intro w H; (try simp only [nrm, nrl, Value.cells] at H))) | ((with_reducible refine gL ?_); refine aD H ?_) | ((with_reducible refine gA ?_); (refine bA H ?_; clear H; intro b w H; (try simp only [nrm, nrl, Value.cells] at H)))) | (go_at_call 50; (with_reducible refine ch (hn1 _) H ?_); clear H; intro w H) | (go_at_call 23; (with_reducible refine ch (ha1 _) H ?_); clear H; intro w H) | (go_at_call 23; (with_reducible refine ch (ha2 _) H ?_); clear H; intro w H) | (go_at_call 50; (with_reducible refine ch (hn2 _) H ?_); clear H; intro w H))
          (refine ret_ct Tryz.results25 rfl (by first | rfl | (simp only [put_lit, put_no, List.setIfInBounds_toArray, List.set_cons_succ, List.set_cons_zero]; rfl)) H (by repeat (first | (with_reducible exact At.zero) | apply At.succ)) (by first | (with_reducible exact row_Word) | (with_reducible exact row_Set)) (by rfl) rfl ?_)
          exact ⟨WordR.no (w := { kind := 11, place := i, lo := n, hi := n }) E.out, H.below⟩
        | some q =>
          obtain ⟨m, e⟩ := q
          have hk2 := numberP_le hnum2 (by omega)
          rw [hnum2] at hn2 en
          simp only [numV] at hn2 en
          clear hnum2
          have de : decide ((e : Int) < 0) = false := by simp
          have ha3 := fun w => ref_at L [125] e hL (by simp) (by simp) (by omega) w
          cases h3 : atP L e [125] with
          | true =>
            rw [h3] at ha3 en
            rw [if_pos rfl] at en
            have E := Lib.hid (show brW i (bracesP L i) = some ({ kind := 11, place := i, lo := n, hi := m }, e + 1) by rw [en]; rfl); clear en h3
            go_enter Tryz.func25, Tryz.ntmps25
            go_wp2_with (first | (first | ((with_reducible refine gT ?_); ((first | refine aO H ?_ | refine aT H ?_); clear H; intro w H; (try simp only [nrm, nrl, Value.cells] at H))) | ((with_reducible refine gL ?_); refine aD H ?_) | ((with_reducible refine gA ?_); (refine bA H ?_; clear H; intro b w H; (try simp only [nrm, nrl, Value.cells] at H)))) | (go_at_call 50; (with_reducible refine ch (hn1 _) H ?_); clear H; intro w H) | (go_at_call 23; (with_reducible refine ch (ha1 _) H ?_); clear H; intro w H) | (go_at_call 23; (with_reducible refine ch (ha2 _) H ?_); clear H; intro w H) | (go_at_call 50; (with_reducible refine ch (hn2 _) H ?_); clear H; intro w H) | (go_at_call 23; (with_reducible refine ch (ha3 _) H ?_); clear H; intro w H))
            (refine ret_ct Tryz.results25 rfl (by first | rfl | (simp only [put_lit, put_no, List.setIfInBounds_toArray, List.set_cons_succ, List.set_cons_zero]; rfl)) H (by repeat (first | (with_reducible exact At.zero) | apply At.succ)) (by first | (with_reducible exact row_Word) | (with_reducible exact row_Set)) (by rfl) rfl ?_)
            exact ⟨WordR.ok (w := { kind := 11, place := i, lo := n, hi := m }) E.out, H.below⟩
          | false =>
            rw [h3] at ha3 en
            rw [if_neg (by simp)] at en
            have E := Lib.hid (show brW i (bracesP L i) = none by rw [en]; rfl); clear en h3
            go_enter Tryz.func25, Tryz.ntmps25
            go_wp2_with (first | (first | ((with_reducible refine gT ?_); ((first | refine aO H ?_ | refine aT H ?_); clear H; intro w H; (try simp only [nrm, nrl, Value.cells] at H))) | ((with_reducible refine gL ?_); refine aD H ?_) | ((with_reducible refine gA ?_); (refine bA H ?_; clear H; intro b w H; (try simp only [nrm, nrl, Value.cells] at H)))) | (go_at_call 50; (with_reducible refine ch (hn1 _) H ?_); clear H; intro w H) | (go_at_call 23; (with_reducible refine ch (ha1 _) H ?_); clear H; intro w H) | (go_at_call 23; (with_reducible refine ch (ha2 _) H ?_); clear H; intro w H) | (go_at_call 50; (with_reducible refine ch (hn2 _) H ?_); clear H; intro w H) | (go_at_call 23; (with_reducible refine ch (ha3 _) H ?_); clear H; intro w H))
            (refine ret_ct Tryz.results25 rfl (by first | rfl | (simp only [put_lit, put_no, List.setIfInBounds_toArray, List.set_cons_succ, List.set_cons_zero]; rfl)) H (by repeat (first | (with_reducible exact At.zero) | apply At.succ)) (by first | (with_reducible exact row_Word) | (with_reducible exact row_Set)) (by rfl) rfl ?_)
            exact ⟨WordR.no (w := { kind := 11, place := i, lo := n, hi := m }) E.out, H.below⟩
      | false =>
        rw [h2] at ha2 en
        rw [if_neg (by simp)] at en
        clear h2
        have ha3 := fun w => ref_at L [125] k hL (by simp) (by simp) (by omega) w
        cases h3 : atP L k [125] with
        | true =>
          rw [h3] at ha3 en
          rw [if_pos rfl] at en
          have E := Lib.hid (show brW i (bracesP L i) = some ({ kind := 11, place := i, lo := n, hi := n }, k + 1) by rw [en]; rfl); clear en h3
          go_enter Tryz.func25, Tryz.ntmps25
          go_wp2_with (first | (first | ((with_reducible refine gT ?_); ((first | refine aO H ?_ | refine aT H ?_); clear H; intro w H; (try simp only [nrm, nrl, Value.cells] at H))) | ((with_reducible refine gL ?_); refine aD H ?_) | ((with_reducible refine gA ?_); (refine bA H ?_; clear H; intro b w H; (try simp only [nrm, nrl, Value.cells] at H)))) | (go_at_call 50; (with_reducible refine ch (hn1 _) H ?_); clear H; intro w H) | (go_at_call 23; (with_reducible refine ch (ha1 _) H ?_); clear H; intro w H) | (go_at_call 23; (with_reducible refine ch (ha2 _) H ?_); clear H; intro w H) | (go_at_call 23; (with_reducible refine ch (ha3 _) H ?_); clear H; intro w H))
          (refine ret_ct Tryz.results25 rfl (by first | rfl | (simp only [put_lit, put_no, List.setIfInBounds_toArray, List.set_cons_succ, List.set_cons_zero]; rfl)) H (by repeat (first | (with_reducible exact At.zero) | apply At.succ)) (by first | (with_reducible exact row_Word) | (with_reducible exact row_Set)) (by rfl) rfl ?_)
          exact ⟨WordR.ok (w := { kind := 11, place := i, lo := n, hi := n }) E.out, H.below⟩
        | false =>
          rw [h3] at ha3 en
          rw [if_neg (by simp)] at en
          have E := Lib.hid (show brW i (bracesP L i) = none by rw [en]; rfl); clear en h3
          go_enter Tryz.func25, Tryz.ntmps25
          go_wp2_with (first | (first | ((with_reducible refine gT ?_); ((first | refine aO H ?_ | refine aT H ?_); clear H; intro w H; (try simp only [nrm, nrl, Value.cells] at H))) | ((with_reducible refine gL ?_); refine aD H ?_) | ((with_reducible refine gA ?_); (refine bA H ?_; clear H; intro b w H; (try simp only [nrm, nrl, Value.cells] at H)))) | (go_at_call 50; (with_reducible refine ch (hn1 _) H ?_); clear H; intro w H) | (go_at_call 23; (with_reducible refine ch (ha1 _) H ?_); clear H; intro w H) | (go_at_call 23; (with_reducible refine ch (ha2 _) H ?_); clear H; intro w H) | (go_at_call 23; (with_reducible refine ch (ha3 _) H ?_); clear H; intro w H))
          (refine ret_ct Tryz.results25 rfl (by first | rfl | (simp only [put_lit, put_no, List.setIfInBounds_toArray, List.set_cons_succ, List.set_cons_zero]; rfl)) H (by repeat (first | (with_reducible exact At.zero) | apply At.succ)) (by first | (with_reducible exact row_Word) | (with_reducible exact row_Set)) (by rfl) rfl ?_)
          exact ⟨WordR.no (w := { kind := 11, place := i, lo := n, hi := n }) E.out, H.below⟩
end Go.Proofs.YtllmgmfihijejaaGreatDoor
/-
  The walks of the words' reference: flags.
-/
namespace Go.Proofs.YtllmgmfihijejaaGreatDoor
open Go.RowKit Go.Shelf
attribute [local go_sem] Oper.semAt_some
set_option linter.unusedSimpArgs false
theorem fl_105f {L : Str} {f j : Nat} {op : Bool} {d : WordD} (h1 : j < L.length) (h2 : byt L j = 105) : flagsGo L (f + 1) j false op d = flagsGo L f (j + 1) false true { d with on := (true, d.on.2.1, d.on.2.2) } := by
  rw [flagsGo, if_pos h1]; simp [h2]
theorem fl_105t {L : Str} {f j : Nat} {op : Bool} {d : WordD} (h1 : j < L.length) (h2 : byt L j = 105) : flagsGo L (f + 1) j true op d = flagsGo L f (j + 1) true true { d with off := (true, d.off.2.1, d.off.2.2) } := by
  rw [flagsGo, if_pos h1]; simp [h2]
theorem fl_109f {L : Str} {f j : Nat} {op : Bool} {d : WordD} (h1 : j < L.length) (h2 : byt L j = 109) : flagsGo L (f + 1) j false op d = flagsGo L f (j + 1) false true { d with on := (d.on.1, true, d.on.2.2) } := by
  rw [flagsGo, if_pos h1]; simp [h2]
theorem fl_109t {L : Str} {f j : Nat} {op : Bool} {d : WordD} (h1 : j < L.length) (h2 : byt L j = 109) : flagsGo L (f + 1) j true op d = flagsGo L f (j + 1) true true { d with off := (d.off.1, true, d.off.2.2) } := by
  rw [flagsGo, if_pos h1]; simp [h2]
theorem fl_115f {L : Str} {f j : Nat} {op : Bool} {d : WordD} (h1 : j < L.length) (h2 : byt L j = 115) : flagsGo L (f + 1) j false op d = flagsGo L f (j + 1) false true { d with on := (d.on.1, d.on.2.1, true) } := by
  rw [flagsGo, if_pos h1]; simp [h2]
theorem fl_115t {L : Str} {f j : Nat} {op : Bool} {d : WordD} (h1 : j < L.length) (h2 : byt L j = 115) : flagsGo L (f + 1) j true op d = flagsGo L f (j + 1) true true { d with off := (d.off.1, d.off.2.1, true) } := by
  rw [flagsGo, if_pos h1]; simp [h2]
theorem fl_45f {L : Str} {f j : Nat} {op : Bool} {d : WordD} (h1 : j < L.length) (h2 : byt L j = 45) : flagsGo L (f + 1) j false op d = flagsGo L f (j + 1) true false d := by
  rw [flagsGo, if_pos h1]; simp [h2]
theorem fl_45t {L : Str} {f j : Nat} {op : Bool} {d : WordD} (h1 : j < L.length) (h2 : byt L j = 45) : flagsGo L (f + 1) j true op d = none := by
  rw [flagsGo, if_pos h1]; simp [h2]
theorem fl_58y {L : Str} {f j : Nat} {off : Bool} {d : WordD} (h1 : j < L.length) (h2 : byt L j = 58) : flagsGo L (f + 1) j off true d = some ({ d with kind := 7 }, j + 1) := by
  rw [flagsGo, if_pos h1]; simp [h2]
theorem fl_58n {L : Str} {f j : Nat} {off : Bool} {d : WordD} (h1 : j < L.length) (h2 : byt L j = 58) : flagsGo L (f + 1) j off false d = none := by
  rw [flagsGo, if_pos h1]; simp [h2]
theorem fl_41y {L : Str} {f j : Nat} {off : Bool} {d : WordD} (h1 : j < L.length) (h2 : byt L j = 41) : flagsGo L (f + 1) j off true d = some ({ d with kind := 8 }, j + 1) := by
  rw [flagsGo, if_pos h1]; simp [h2]
theorem fl_41n {L : Str} {f j : Nat} {off : Bool} {d : WordD} (h1 : j < L.length) (h2 : byt L j = 41) : flagsGo L (f + 1) j off false d = none := by
  rw [flagsGo, if_pos h1]; simp [h2]
theorem fl_no {L : Str} {f j : Nat} {off op : Bool} {d : WordD} (h1 : j < L.length) (h2 : byt L j ≠ 105) (h3 : byt L j ≠ 109) (h4 : byt L j ≠ 115) (h5 : byt L j ≠ 45) (h6 : byt L j ≠ 58) (h7 : byt L j ≠ 41) : flagsGo L (f + 1) j off op d = none := by
  rw [flagsGo, if_pos h1]; simp [h2, h3, h4, h5, h6, h7]
theorem fl_end {L : Str} {f j : Nat} {off op : Bool} {d : WordD} (h1 : ¬ j < L.length) : flagsGo L (f + 1) j off op d = none := by
  rw [flagsGo, if_neg h1]

set_option maxRecDepth 100000 in
set_option maxHeartbeats 32000000 in
theorem ref_flags (L : Str) (i : Nat) (hL : L.length ≤ 2000) (hi : i + 2 ≤ L.length) (w0 : World) : Calls Tryz.prog 24 #[.string ⟨L.toArray⟩, .int .i64 i] w0 fun e w' => WordR (flagsP L i) e ∧ Below w0.heap.size w0 w' := by
  have H := Hold.start w0
  go_enter Tryz.func24, Tryz.ntmps24
  go_wp2_with (first | ((first | ((with_reducible refine kgA 4 ?_); refine kA 4 H ?_) | ((with_reducible refine kgX 4 ?_); (first | refine kS 4 H ?_ | refine kB 4 H ?_))); clear H; intro b4 w H; (try simp only [nrm, nrl, Value.cells] at H)) | ((first | ((with_reducible refine kgA 6 ?_); refine kA 6 H ?_) | ((with_reducible refine kgX 6 ?_); (first | refine kS 6 H ?_ | refine kB 6 H ?_))); clear H; intro b6 w H; (try simp only [nrm, nrl, Value.cells] at H)) | ((with_reducible refine gT ?_); (refine aT H ?_; clear H; intro w H; (try simp only [nrm, nrl, Value.cells] at H))))
  go_loopw [7, 8, 9] (fun o sm k wr => ∃ (j f : Nat) (bo bs : Bool) (d : WordD), o = .bool bo ∧ sm = .bool bs ∧ k = .int .i64 j ∧ j ≤ L.length ∧ Hid (flagsP L i = flagsGo L f j bo (!bo || bs) d ∧ L.length < f + j) ∧ Hold w0 wr [.blk b4 (wordC { kind := 0, place := 0 }) 53, .blk b6 (wordC d) 53]) (fun _ _ k _ => L.length + 2 - (intOf k).toNat)
  case atStart => exact ⟨i + 2, L.length + 1, false, false, { kind := 0, place := i }, rfl, rfl, by first | rfl | (simp; done), hi, Lib.hid ⟨rfl, by omega⟩, H⟩
  case round =>
    clear H
    obtain ⟨j, f, bo, bs, d, rfl, rfl, rfl, hj, G, H⟩ := hrel
    obtain ⟨f, rfl⟩ : ∃ f', f = f' + 1 := ⟨f - 1, by have := G.out.2; omega⟩
    by_cases hlt : j < L.length
    · have dj : decide ((j : Int) < (L.length : Int)) = true := by simp; omega
      cases bo with
      | false =>
        simp only [Bool.not_false, Bool.true_or] at G
        by_cases hc : byt L j = 105
        · have G2 := Lib.hid (show flagsP L i = flagsGo L f (j + 1) false true { d with on := (true, d.on.2.1, d.on.2.2) } by rw [G.out.1, fl_105f hlt hc]); 
          have HC := Lib.hid hc
          go_wp2_with (first | (first | ((with_reducible refine gT ?_); (refine aO H ?_; clear H; intro w H; (try simp only [nrm, nrl, Value.cells] at H))) | ((with_reducible refine gI ?_); refine aI ?_)))
          clear hc
          go_roundw
          case rel => exact ⟨j + 1, f, false, true, { d with on := (true, d.on.2.1, d.on.2.2) }, by first | rfl | (simp; done), by first | rfl | (simp; done), by first | rfl | (simp; done), by omega, Lib.hid ⟨G2.out, by have := G.out.2; omega⟩, H⟩
          case measure => simp [intOf]; omega
        · have n105 : ((byt L j : Int) == 105) = false := by rw [beq_eq_false_iff_ne]; omega
          have m105 := Lib.hid hc; clear hc
          by_cases hc : byt L j = 109
          · have G2 := Lib.hid (show flagsP L i = flagsGo L f (j + 1) false true { d with on := (d.on.1, true, d.on.2.2) } by rw [G.out.1, fl_109f hlt hc]); 
            have HC := Lib.hid hc
            go_wp2_with (first | (first | ((with_reducible refine gT ?_); (refine aO H ?_; clear H; intro w H; (try simp only [nrm, nrl, Value.cells] at H))) | ((with_reducible refine gI ?_); refine aI ?_)))
            clear hc
            go_roundw
            case rel => exact ⟨j + 1, f, false, true, { d with on := (d.on.1, true, d.on.2.2) }, by first | rfl | (simp; done), by first | rfl | (simp; done), by first | rfl | (simp; done), by omega, Lib.hid ⟨G2.out, by have := G.out.2; omega⟩, H⟩
            case measure => simp [intOf]; omega
          · have n109 : ((byt L j : Int) == 109) = false := by rw [beq_eq_false_iff_ne]; omega
            have m109 := Lib.hid hc; clear hc
            by_cases hc : byt L j = 115
            · have G2 := Lib.hid (show flagsP L i = flagsGo L f (j + 1) false true { d with on := (d.on.1, d.on.2.1, true) } by rw [G.out.1, fl_115f hlt hc]); 
              have HC := Lib.hid hc
              go_wp2_with (first | (first | ((with_reducible refine gT ?_); (refine aO H ?_; clear H; intro w H; (try simp only [nrm, nrl, Value.cells] at H))) | ((with_reducible refine gI ?_); refine aI ?_)))
              clear hc
              go_roundw
              case rel => exact ⟨j + 1, f, false, true, { d with on := (d.on.1, d.on.2.1, true) }, by first | rfl | (simp; done), by first | rfl | (simp; done), by first | rfl | (simp; done), by omega, Lib.hid ⟨G2.out, by have := G.out.2; omega⟩, H⟩
              case measure => simp [intOf]; omega
            · have n115 : ((byt L j : Int) == 115) = false := by rw [beq_eq_false_iff_ne]; omega
              have m115 := Lib.hid hc; clear hc
              by_cases hc : byt L j = 45
              · have G2 := Lib.hid (show flagsP L i = flagsGo L f (j + 1) true false d by rw [G.out.1, fl_45f hlt hc]); 
                have HC := Lib.hid hc
                go_wp2_with (first | ((with_reducible refine gI ?_); refine aI ?_))
                clear hc
                go_roundw
                case rel => exact ⟨j + 1, f, true, false, d, by first | rfl | (simp; done), by first | rfl | (simp; done), by first | rfl | (simp; done), by omega, Lib.hid ⟨G2.out, by have := G.out.2; omega⟩, H⟩
                case measure => simp [intOf]; omega
              · have n45 : ((byt L j : Int) == 45) = false := by rw [beq_eq_false_iff_ne]; omega
                have m45 := Lib.hid hc; clear hc
                by_cases hc : byt L j = 58
                · have E3 := Lib.hid (show flagsP L i = some ({ d with kind := 7 }, j + 1) by rw [G.out.1]; exact fl_58y hlt hc)
                  go_wp2_with (first | (first | ((with_reducible refine gT ?_); ((first | refine aO H ?_ | refine aT H ?_); clear H; intro w H; (try simp only [nrm, nrl, Value.cells] at H))) | ((with_reducible refine gL ?_); refine aD H ?_) | ((with_reducible refine gI ?_); refine aI ?_)))
                  (refine ret_ct Tryz.results24 rfl (by first | rfl | (simp only [put_lit, put_no, List.setIfInBounds_toArray, List.set_cons_succ, List.set_cons_zero]; rfl)) H (by repeat (first | (with_reducible exact At.zero) | apply At.succ)) (by first | (with_reducible exact row_Word) | (with_reducible exact row_Set)) (by rfl) rfl ?_)
                  exact ⟨WordR.ok (w := { d with kind := 7 }) E3.out, H.below⟩
                · have n58 : ((byt L j : Int) == 58) = false := by rw [beq_eq_false_iff_ne]; omega
                  have m58 := Lib.hid hc; clear hc
                  by_cases hc : byt L j = 41
                  · have E3 := Lib.hid (show flagsP L i = some ({ d with kind := 8 }, j + 1) by rw [G.out.1]; exact fl_41y hlt hc)
                    go_wp2_with (first | (first | ((with_reducible refine gT ?_); ((first | refine aO H ?_ | refine aT H ?_); clear H; intro w H; (try simp only [nrm, nrl, Value.cells] at H))) | ((with_reducible refine gL ?_); refine aD H ?_) | ((with_reducible refine gI ?_); refine aI ?_)))
                    (refine ret_ct Tryz.results24 rfl (by first | rfl | (simp only [put_lit, put_no, List.setIfInBounds_toArray, List.set_cons_succ, List.set_cons_zero]; rfl)) H (by repeat (first | (with_reducible exact At.zero) | apply At.succ)) (by first | (with_reducible exact row_Word) | (with_reducible exact row_Set)) (by rfl) rfl ?_)
                    exact ⟨WordR.ok (w := { d with kind := 8 }) E3.out, H.below⟩
                  · have n41 : ((byt L j : Int) == 41) = false := by rw [beq_eq_false_iff_ne]; omega
                    have m41 := Lib.hid hc; clear hc
                    have E3 := Lib.hid (show flagsP L i = none by rw [G.out.1]; exact fl_no hlt m105.out m109.out m115.out m45.out m58.out m41.out)
                    go_wp2_with (first | (first | ((with_reducible refine gT ?_); (refine aT H ?_; clear H; intro w H; (try simp only [nrm, nrl, Value.cells] at H))) | ((with_reducible refine gL ?_); refine aD H ?_) | ((with_reducible refine gI ?_); refine aI ?_)))
                    (refine ret_ct Tryz.results24 rfl (by first | rfl | (simp only [put_lit, put_no, List.setIfInBounds_toArray, List.set_cons_succ, List.set_cons_zero]; rfl)) H (by repeat (first | (with_reducible exact At.zero) | apply At.succ)) (by first | (with_reducible exact row_Word) | (with_reducible exact row_Set)) (by rfl) rfl ?_)
                    exact ⟨WordR.no (w := d) E3.out, H.below⟩
      | true =>
        simp only [Bool.not_true, Bool.false_or] at G
        by_cases hc : byt L j = 105
        · have G2 := Lib.hid (show flagsP L i = flagsGo L f (j + 1) true true { d with off := (true, d.off.2.1, d.off.2.2) } by rw [G.out.1, fl_105t hlt hc]); 
          have HC := Lib.hid hc
          go_wp2_with (first | (first | ((with_reducible refine gT ?_); (refine aO H ?_; clear H; intro w H; (try simp only [nrm, nrl, Value.cells] at H))) | ((with_reducible refine gI ?_); refine aI ?_)))
          clear hc
          go_roundw
          case rel => exact ⟨j + 1, f, true, true, { d with off := (true, d.off.2.1, d.off.2.2) }, by first | rfl | (simp; done), by first | rfl | (simp; done), by first | rfl | (simp; done), by omega, Lib.hid ⟨G2.out, by have := G.out.2; omega⟩, H⟩
          case measure => simp [intOf]; omega
        · have n105 : ((byt L j : Int) == 105) = false := by rw [beq_eq_false_iff_ne]; omega
          have m105 := Lib.hid hc; clear hc
          by_cases hc : byt L j = 109
          · have G2 := Lib.hid (show flagsP L i = flagsGo L f (j + 1) true true { d with off := (d.off.1, true, d.off.2.2) } by rw [G.out.1, fl_109t hlt hc]); 
            have HC := Lib.hid hc
            go_wp2_with (first | (first | ((with_reducible refine gT ?_); (refine aO H ?_; clear H; intro w H; (try simp only [nrm, nrl, Value.cells] at H))) | ((with_reducible refine gI ?_); refine aI ?_)))
            clear hc
            go_roundw
            case rel => exact ⟨j + 1, f, true, true, { d with off := (d.off.1, true, d.off.2.2) }, by first | rfl | (simp; done), by first | rfl | (simp; done), by first | rfl | (simp; done), by omega, Lib.hid ⟨G2.out, by have := G.out.2; omega⟩, H⟩
            case measure => simp [intOf]; omega
          · have n109 : ((byt L j : Int) == 109) = false := by rw [beq_eq_false_iff_ne]; omega
            have m109 := Lib.hid hc; clear hc
            by_cases hc : byt L j = 115
            · have G2 := Lib.hid (show flagsP L i = flagsGo L f (j + 1) true true { d with off := (d.off.1, d.off.2.1, true) } by rw [G.out.1, fl_115t hlt hc]); 
              have HC := Lib.hid hc
              go_wp2_with (first | (first | ((with_reducible refine gT ?_); (refine aO H ?_; clear H; intro w H; (try simp only [nrm, nrl, Value.cells] at H))) | ((with_reducible refine gI ?_); refine aI ?_)))
              clear hc
              go_roundw
              case rel => exact ⟨j + 1, f, true, true, { d with off := (d.off.1, d.off.2.1, true) }, by first | rfl | (simp; done), by first | rfl | (simp; done), by first | rfl | (simp; done), by omega, Lib.hid ⟨G2.out, by have := G.out.2; omega⟩, H⟩
              case measure => simp [intOf]; omega
            · have n115 : ((byt L j : Int) == 115) = false := by rw [beq_eq_false_iff_ne]; omega
              have m115 := Lib.hid hc; clear hc
              by_cases hc : byt L j = 45
              · have E3 := Lib.hid (show flagsP L i = none by rw [G.out.1]; exact fl_45t hlt hc)
                go_wp2_with (first | (first | ((with_reducible refine gT ?_); (refine aT H ?_; clear H; intro w H; (try simp only [nrm, nrl, Value.cells] at H))) | ((with_reducible refine gL ?_); refine aD H ?_) | ((with_reducible refine gI ?_); refine aI ?_)))
                (refine ret_ct Tryz.results24 rfl (by first | rfl | (simp only [put_lit, put_no, List.setIfInBounds_toArray, List.set_cons_succ, List.set_cons_zero]; rfl)) H (by repeat (first | (with_reducible exact At.zero) | apply At.succ)) (by first | (with_reducible exact row_Word) | (with_reducible exact row_Set)) (by rfl) rfl ?_)
                exact ⟨WordR.no (w := d) E3.out, H.below⟩
              · have n45 : ((byt L j : Int) == 45) = false := by rw [beq_eq_false_iff_ne]; omega
                have m45 := Lib.hid hc; clear hc
                by_cases hc : byt L j = 58
                · cases bs with
                  | true =>
                    have E3 := Lib.hid (show flagsP L i = some ({ d with kind := 7 }, j + 1) by rw [G.out.1]; exact fl_58y hlt hc)
                    go_wp2_with (first | (first | ((with_reducible refine gT ?_); ((first | refine aO H ?_ | refine aT H ?_); clear H; intro w H; (try simp only [nrm, nrl, Value.cells] at H))) | ((with_reducible refine gL ?_); refine aD H ?_) | ((with_reducible refine gI ?_); refine aI ?_)))
                    (refine ret_ct Tryz.results24 rfl (by first | rfl | (simp only [put_lit, put_no, List.setIfInBounds_toArray, List.set_cons_succ, List.set_cons_zero]; rfl)) H (by repeat (first | (with_reducible exact At.zero) | apply At.succ)) (by first | (with_reducible exact row_Word) | (with_reducible exact row_Set)) (by rfl) rfl ?_)
                    exact ⟨WordR.ok (w := { d with kind := 7 }) E3.out, H.below⟩
                  | false =>
                    have E3 := Lib.hid (show flagsP L i = none by rw [G.out.1]; exact fl_58n hlt hc)
                    go_wp2_with (first | (first | ((with_reducible refine gT ?_); (refine aT H ?_; clear H; intro w H; (try simp only [nrm, nrl, Value.cells] at H))) | ((with_reducible refine gL ?_); refine aD H ?_) | ((with_reducible refine gI ?_); refine aI ?_)))
                    (refine ret_ct Tryz.results24 rfl (by first | rfl | (simp only [put_lit, put_no, List.setIfInBounds_toArray, List.set_cons_succ, List.set_cons_zero]; rfl)) H (by repeat (first | (with_reducible exact At.zero) | apply At.succ)) (by first | (with_reducible exact row_Word) | (with_reducible exact row_Set)) (by rfl) rfl ?_)
                    exact ⟨WordR.no (w := d) E3.out, H.below⟩
                · have n58 : ((byt L j : Int) == 58) = false := by rw [beq_eq_false_iff_ne]; omega
                  have m58 := Lib.hid hc; clear hc
                  by_cases hc : byt L j = 41
                  · cases bs with
                    | true =>
                      have E3 := Lib.hid (show flagsP L i = some ({ d with kind := 8 }, j + 1) by rw [G.out.1]; exact fl_41y hlt hc)
                      go_wp2_with (first | (first | ((with_reducible refine gT ?_); ((first | refine aO H ?_ | refine aT H ?_); clear H; intro w H; (try simp only [nrm, nrl, Value.cells] at H))) | ((with_reducible refine gL ?_); refine aD H ?_) | ((with_reducible refine gI ?_); refine aI ?_)))
                      (refine ret_ct Tryz.results24 rfl (by first | rfl | (simp only [put_lit, put_no, List.setIfInBounds_toArray, List.set_cons_succ, List.set_cons_zero]; rfl)) H (by repeat (first | (with_reducible exact At.zero) | apply At.succ)) (by first | (with_reducible exact row_Word) | (with_reducible exact row_Set)) (by rfl) rfl ?_)
                      exact ⟨WordR.ok (w := { d with kind := 8 }) E3.out, H.below⟩
                    | false =>
                      have E3 := Lib.hid (show flagsP L i = none by rw [G.out.1]; exact fl_41n hlt hc)
                      go_wp2_with (first | (first | ((with_reducible refine gT ?_); (refine aT H ?_; clear H; intro w H; (try simp only [nrm, nrl, Value.cells] at H))) | ((with_reducible refine gL ?_); refine aD H ?_) | ((with_reducible refine gI ?_); refine aI ?_)))
                      (refine ret_ct Tryz.results24 rfl (by first | rfl | (simp only [put_lit, put_no, List.setIfInBounds_toArray, List.set_cons_succ, List.set_cons_zero]; rfl)) H (by repeat (first | (with_reducible exact At.zero) | apply At.succ)) (by first | (with_reducible exact row_Word) | (with_reducible exact row_Set)) (by rfl) rfl ?_)
                      exact ⟨WordR.no (w := d) E3.out, H.below⟩
                  · have n41 : ((byt L j : Int) == 41) = false := by rw [beq_eq_false_iff_ne]; omega
                    have m41 := Lib.hid hc; clear hc
                    have E3 := Lib.hid (show flagsP L i = none by rw [G.out.1]; exact fl_no hlt m105.out m109.out m115.out m45.out m58.out m41.out)
                    go_wp2_with (first | (first | ((with_reducible refine gT ?_); (refine aT H ?_; clear H; intro w H; (try simp only [nrm, nrl, Value.cells] at H))) | ((with_reducible refine gL ?_); refine aD H ?_) | ((with_reducible refine gI ?_); refine aI ?_)))
                    (refine ret_ct Tryz.results24 rfl (by first | rfl | (simp only [put_lit, put_no, List.setIfInBounds_toArray, List.set_cons_succ, List.set_cons_zero]; rfl)) H (by repeat (first | (with_reducible exact At.zero) | apply At.succ)) (by first | (with_reducible exact row_Word) | (with_reducible exact row_Set)) (by rfl) rfl ?_)
                    exact ⟨WordR.no (w := d) E3.out, H.below⟩
    · have dj : decide ((j : Int) < (L.length : Int)) = false := by simp; omega
      have E3 := Lib.hid (show flagsP L i = none by rw [G.out.1]; exact fl_end hlt)
      go_wp2_with (first | (first | ((with_reducible refine gT ?_); (refine aT H ?_; clear H; intro w H; (try simp only [nrm, nrl, Value.cells] at H))) | ((with_reducible refine gL ?_); refine aD H ?_)))
      (refine ret_ct Tryz.results24 rfl (by first | rfl | (simp only [put_lit, put_no, List.setIfInBounds_toArray, List.set_cons_succ, List.set_cons_zero]; rfl)) H (by repeat (first | (with_reducible exact At.zero) | apply At.succ)) (by first | (with_reducible exact row_Word) | (with_reducible exact row_Set)) (by rfl) rfl ?_)
      exact ⟨WordR.no (w := d) E3.out, H.below⟩
end Go.Proofs.YtllmgmfihijejaaGreatDoor
