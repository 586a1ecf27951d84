/-
  Laws of walks, and walks: LexMust LexPlace LexSkip LexHex LexNames Reader.
-/
import Derived.Test.YtllmgmfihijejaaGreatDoorLx2
import Derived.WalkSmall
import Derived.Test.YtllmgmfihijejaaGreatDoorLx3
set_option linter.unusedVariables false
set_option linter.unusedSimpArgs false
/-
  The walks of package lex: what must be, and a reader's place.
-/
namespace Go.Proofs.YtllmgmfihijejaaGreatDoor
open Go.RowKit Go.Shelf
attribute [local go_sem] Oper.semAt_some
set_option linter.unusedSimpArgs false

/-- an error that is thrown -/
def thrown (n : Nat) : List PanicEntry := [{ v := .iface 26 (.int .i64 n), recovered := false }]
/-- a reader's cells -/
abbrev rdC (L : Str) (i : Nat) : Array Value := #[.string ⟨L.toArray⟩, .int .i64 i]
abbrev ptrV (b : Nat) : Value := .pointer (some ⟨b, 0, none⟩)
/-- what a call of a reader's ends in: it is thrown, or it answers and stands further on -/
def ReadsV (rb : Nat) (L : Str) (U : TypeId) (w : World) (r : Except Nat (Value × Nat)) (e : Ending) (w' : World) : Prop :=
  KeepBut (· = rb) w.heap.size w w' ∧ match r with
  | .ok (v, j) => e = .returned v ∧ w'.heap[rb]? = some (.cells (rdC L j) U (0, 0))
  | .error n => e = .panicked (thrown n)

set_option maxRecDepth 100000 in
theorem must_yes (n : Nat) (w0 : World) : Calls Tryz.prog 60 #[.bool true, .int .i64 n] w0 fun e w' => e = .returned (.tuple #[]) ∧ Below w0.heap.size w0 w' := by
  go_enter Tryz.func60, Tryz.ntmps60
  go_wp2
  exact ⟨rfl, .tuple #[], (by simp [results, Tryz.f60, go_sem]), rfl, Below.refl _ _⟩
set_option maxRecDepth 100000 in
theorem must_no (n : Nat) (w0 : World) : Calls Tryz.prog 60 #[.bool false, .int .i64 n] w0 fun e w' => e = .panicked (thrown n) ∧ Below w0.heap.size w0 w' := by
  go_enter Tryz.func60, Tryz.ntmps60
  go_wp2
  exact ⟨rfl, rfl, Below.refl _ _⟩
theorem must_yes4 (w0 : World) : Calls Tryz.prog 60 #[.bool true, .int .i64 4] w0 fun e w' => e = .returned (.tuple #[]) ∧ Below w0.heap.size w0 w' := must_yes 4 w0
theorem must_yes6 (w0 : World) : Calls Tryz.prog 60 #[.bool true, .int .i64 6] w0 fun e w' => e = .returned (.tuple #[]) ∧ Below w0.heap.size w0 w' := must_yes 6 w0
theorem must_no4 (w0 : World) : Calls Tryz.prog 60 #[.bool false, .int .i64 4] w0 fun e w' => e = .panicked (thrown 4) ∧ Below w0.heap.size w0 w' := must_no 4 w0
theorem must_no6 (w0 : World) : Calls Tryz.prog 60 #[.bool false, .int .i64 6] w0 fun e w' => e = .panicked (thrown 6) ∧ Below w0.heap.size w0 w' := must_no 6 w0
end Go.Proofs.YtllmgmfihijejaaGreatDoor
/-
  The walks of package lex: a reader's place.
-/
namespace Go.Proofs.YtllmgmfihijejaaGreatDoor
open Go.RowKit Go.Shelf
attribute [local go_sem] Oper.semAt_some
set_option linter.unusedSimpArgs false

section
variable {P : Program} {o : Oper} {a : Act} {w : World}
theorem load_run {T : TypeId} {x : Operand} (ho : o.op = .load T x) (hT : oneB P T = true) {b k : Nat} (hx : a.eval x = .pointer (some ⟨b, k, none⟩)) {v : Value} (hv : w.cell? ⟨b, k, none⟩ = some v) : (execOp a.eval o).run P w = .ok (.value v) w := by
  simp only [execOp, ho, hx, Instr.loadAt, Instr.sureAddr, Sem.run_bind, Sem.run_pure, Result.andThen_ok, run_loadVar_one hT hv]
theorem str_from_run {T : TypeId} {x lo : Operand} (ho : o.op = .slice T x (some lo) none none) (hT : P.underlying T = some .string) {L : Str} {y : Int} {i : Nat} (hx : a.eval x = .string ⟨L.toArray⟩) (hlo : a.eval lo = .int .i64 y) (hy : y = (i : Int))
    (h1 : i ≤ L.length) : (execOp a.eval o).run P w = .ok (.value (.string ⟨(L.drop i).toArray⟩)) w := by
  subst hy
  have hs : (⟨L.toArray⟩ : ByteArray).size = L.length := by simp [ByteArray.size]
  simp only [execOp, ho, hx, hlo, Option.map_some, Option.map_none, Sem.run_bind]
  rw [run_sliceAt_string _ T _ _ _ _ hT, run_slice_string_l w T ⟨L.toArray⟩ hT .i64 _ (by omega) (by rw [hs]; omega), sub_str, hs, List.take_length]
  rfl
theorem strlen_run {x : Operand} {t : TypeId} (hu : P.underlying t = some .string) {L : Str} (hop : o.op = Op.call { callee := Callee.builtin Builtin.len, args := #[x], argTypes := #[t] })
    (hx : a.eval x = .string ⟨L.toArray⟩) : (execOp a.eval o).run P w = .ok (.value (.int .i64 (L.length : Int))) w := by
  have hs : (⟨L.toArray⟩ : ByteArray).size = L.length := by simp [ByteArray.size]
  simp only [execOp, hop, resolve, invoke, builtin, List.map_toArray, List.map_cons, List.map_nil, hx]
  simp [go_sem, Builtin.len_, run_underlying hu, hs]
end

set_option maxRecDepth 100000 in
set_option maxHeartbeats 1000000 in
theorem rd_rest (rb : Nat) (L : Str) (i : Nat) (U : TypeId) (hi : i ≤ L.length) (w0 : World) (hr : w0.heap[rb]? = some (.cells (rdC L i) U (0, 0))) :
    Calls Tryz.prog 64 #[ptrV rb] w0 fun e w' => e = .returned (.string ⟨(L.drop i).toArray⟩) ∧ Below w0.heap.size w0 w' := by
  have H := HoldG.startB hr
  go_enter Tryz.func64, Tryz.ntmps64
  go_upto_region 1 with fail
  refine wp_region_spec 10 [fun v _ => v = ptrV rb, fun v _ => v = ptrV rb, fun v _ => v = ptrV rb, fun v _ => v = .string ⟨L.toArray⟩, fun v _ => v = ptrV rb, fun v _ => v = ptrV rb, fun v _ => v = .pointer (some ⟨rb, 1, none⟩), fun v _ => v = .int .i64 (i : Int), fun v _ => v = .string ⟨(L.drop i).toArray⟩, fun v _ => v = .string ⟨(L.drop i).toArray⟩] (fun _ => false) (by kernel_rfl) (by kernel_rfl) (by kernel_rfl) ⟨stable_eq _, stable_eq _, stable_eq _, stable_eq _, stable_eq _, stable_eq _, stable_eq _, stable_eq _, stable_eq _, stable_eq _, trivial⟩ (fun _ _ h => by cases h) ?ob ?en
  case ob =>
    refine ⟨?_, ?_, ?_, ?_, ?_, ?_, ?_, ?_, ?_, ?_, trivial⟩ <;> intro A W h
    · exact rs_move rfl rfl (h.frame 0 rfl) (by decide)
    · (have e3 : A.eval (.tmp 3) = ptrV rb := h.dep 0 3 rfl rfl; refine rs_pure rfl ?_ (by decide); simp only [execOp, e3]; (simp [go_sem] <;> first | done | omega | (rw [IntKind.wrap_i64]; omega) | (rw [IntKind.wrap_u8]; omega) | (rw [IntKind.wrap_u64]; omega)))
    · (have e4 : A.eval (.tmp 4) = ptrV rb := h.dep 1 4 rfl rfl; refine rs_pure rfl ?_ (by decide); simp only [execOp, e4]; (simp [go_sem] <;> first | done | omega | (rw [IntKind.wrap_i64]; omega) | (rw [IntKind.wrap_u8]; omega) | (rw [IntKind.wrap_u64]; omega)))
    · exact rs_pure rfl (load_run rfl one_str (h.dep 2 5 rfl rfl) (((H.call h.below).cell .zero 0).trans rfl)) (by decide)
    · exact rs_move rfl rfl (h.frame 0 rfl) (by decide)
    · (have e7 : A.eval (.tmp 7) = ptrV rb := h.dep 4 7 rfl rfl; refine rs_pure rfl ?_ (by decide); simp only [execOp, e7]; (simp [go_sem] <;> first | done | omega | (rw [IntKind.wrap_i64]; omega) | (rw [IntKind.wrap_u8]; omega) | (rw [IntKind.wrap_u64]; omega)))
    · (have e8 : A.eval (.tmp 8) = ptrV rb := h.dep 5 8 rfl rfl; refine rs_pure rfl ?_ (by decide); simp only [execOp, e8]; (simp [go_sem] <;> first | done | omega | (rw [IntKind.wrap_i64]; omega) | (rw [IntKind.wrap_u8]; omega) | (rw [IntKind.wrap_u64]; omega)))
    · exact rs_pure rfl (load_run rfl one_int (h.dep 6 9 rfl rfl) (((H.call h.below).cell .zero 1).trans rfl)) (by decide)
    · exact rs_pure rfl (str_from_run rfl Tryz.underlying9 (h.dep 3 6 rfl rfl) (h.dep 7 10 rfl rfl) rfl hi) (by decide)
    · exact rs_assign rfl rfl (h.dep 8 11 rfl rfl) (by decide)
  case en =>
    intro vals W hbw hv _
    have v0 : vals 0 = ptrV rb := hv 0 (by omega)
    have v1 : vals 1 = ptrV rb := hv 1 (by omega)
    have v2 : vals 2 = ptrV rb := hv 2 (by omega)
    have v3 : vals 3 = .string ⟨L.toArray⟩ := hv 3 (by omega)
    have v4 : vals 4 = ptrV rb := hv 4 (by omega)
    have v5 : vals 5 = ptrV rb := hv 5 (by omega)
    have v6 : vals 6 = .pointer (some ⟨rb, 1, none⟩) := hv 6 (by omega)
    have v7 : vals 7 = .int .i64 (i : Int) := hv 7 (by omega)
    have v8 : vals 8 = .string ⟨(L.drop i).toArray⟩ := hv 8 (by omega)
    have v9 : vals 9 = .string ⟨(L.drop i).toArray⟩ := hv 9 (by omega)
    simp only [List.take_succ_cons, List.take_zero, List.drop_succ_cons, List.drop_zero, List.drop_nil, List.take_nil, fillAll, Nat.zero_add, Nat.reduceAdd]
    rw [v0, v1, v2, v3, v4, v5, v6, v7, v8, v9]
    clear hv v0 v1 v2 v3 v4 v5 v6 v7 v8 v9
    try simp only [put_lit, List.setIfInBounds_toArray, List.set_cons_succ, List.set_cons_zero]
    go_wp2
    go_ret
    exact ⟨rfl, hbw⟩

set_option maxRecDepth 100000 in
set_option maxHeartbeats 1000000 in
theorem rd_next (rb : Nat) (L : Str) (i : Nat) (U : TypeId) (hL : L.length ≤ 2000) (hi : i ≤ L.length) (w0 : World) (hr : w0.heap[rb]? = some (.cells (rdC L i) U (0, 0))) :
    Calls Tryz.prog 37 #[ptrV rb] w0 (ReadsV rb L U w0 (if i < L.length then .ok (.int .u8 (byt L i), i + 1) else .error 4)) := by
  have H := HoldG.startB hr
  by_cases hlt : i < L.length
  · rw [if_pos hlt]
    have hd : decide ((i : Int) < (L.length : Int)) = true := by simp; omega
    have hb := byt_lt L i
    go_enter Tryz.func37, Tryz.ntmps37
    go_upto_region 1 with fail
    refine wp_region_spec 10 [fun v _ => v = ptrV rb, fun v _ => v = ptrV rb, fun v _ => v = .pointer (some ⟨rb, 1, none⟩), fun v _ => v = .int .i64 (i : Int), fun v _ => v = ptrV rb, fun v _ => v = ptrV rb, fun v _ => v = ptrV rb, fun v _ => v = .string ⟨L.toArray⟩, fun v _ => v = .int .i64 (L.length : Int), fun v _ => v = .bool true] (fun _ => false) (by kernel_rfl) (by kernel_rfl) (by kernel_rfl) ⟨stable_eq _, stable_eq _, stable_eq _, stable_eq _, stable_eq _, stable_eq _, stable_eq _, stable_eq _, stable_eq _, stable_eq _, trivial⟩ (fun _ _ h => by cases h) ?ob ?en
    case ob =>
      refine ⟨?_, ?_, ?_, ?_, ?_, ?_, ?_, ?_, ?_, ?_, trivial⟩ <;> intro A W h
      · exact rs_move rfl rfl (h.frame 0 rfl) (by decide)
      · (have e3 : A.eval (.tmp 3) = ptrV rb := h.dep 0 3 rfl rfl; refine rs_pure rfl ?_ (by decide); simp only [execOp, e3]; (simp [go_sem] <;> first | done | omega | (rw [IntKind.wrap_i64]; omega) | (rw [IntKind.wrap_u8]; omega) | (rw [IntKind.wrap_u64]; omega)))
      · (have e4 : A.eval (.tmp 4) = ptrV rb := h.dep 1 4 rfl rfl; refine rs_pure rfl ?_ (by decide); simp only [execOp, e4]; (simp [go_sem] <;> first | done | omega | (rw [IntKind.wrap_i64]; omega) | (rw [IntKind.wrap_u8]; omega) | (rw [IntKind.wrap_u64]; omega)))
      · exact rs_pure rfl (load_run rfl one_int (h.dep 2 5 rfl rfl) (((H.call h.below).cell .zero 1).trans rfl)) (by decide)
      · exact rs_move rfl rfl (h.frame 0 rfl) (by decide)
      · (have e7 : A.eval (.tmp 7) = ptrV rb := h.dep 4 7 rfl rfl; refine rs_pure rfl ?_ (by decide); simp only [execOp, e7]; (simp [go_sem] <;> first | done | omega | (rw [IntKind.wrap_i64]; omega) | (rw [IntKind.wrap_u8]; omega) | (rw [IntKind.wrap_u64]; omega)))
      · (have e8 : A.eval (.tmp 8) = ptrV rb := h.dep 5 8 rfl rfl; refine rs_pure rfl ?_ (by decide); simp only [execOp, e8]; (simp [go_sem] <;> first | done | omega | (rw [IntKind.wrap_i64]; omega) | (rw [IntKind.wrap_u8]; omega) | (rw [IntKind.wrap_u64]; omega)))
      · exact rs_pure rfl (load_run rfl one_str (h.dep 6 9 rfl rfl) (((H.call h.below).cell .zero 0).trans rfl)) (by decide)
      · exact rs_pure rfl (strlen_run Tryz.underlying9 rfl (h.dep 7 10 rfl rfl)) (by decide)
      · (have e6 : A.eval (.tmp 6) = .int .i64 (i : Int) := h.dep 3 6 rfl rfl; have e11 : A.eval (.tmp 11) = .int .i64 (L.length : Int) := h.dep 8 11 rfl rfl; refine rs_pure rfl ?_ (by decide); simp only [execOp, e6, e11]; (simp [go_sem]; exact hlt))
    case en =>
      intro vals W hbw hv _
      have v0 : vals 0 = ptrV rb := hv 0 (by omega)
      have v1 : vals 1 = ptrV rb := hv 1 (by omega)
      have v2 : vals 2 = .pointer (some ⟨rb, 1, none⟩) := hv 2 (by omega)
      have v3 : vals 3 = .int .i64 (i : Int) := hv 3 (by omega)
      have v4 : vals 4 = ptrV rb := hv 4 (by omega)
      have v5 : vals 5 = ptrV rb := hv 5 (by omega)
      have v6 : vals 6 = ptrV rb := hv 6 (by omega)
      have v7 : vals 7 = .string ⟨L.toArray⟩ := hv 7 (by omega)
      have v8 : vals 8 = .int .i64 (L.length : Int) := hv 8 (by omega)
      have v9 : vals 9 = .bool true := hv 9 (by omega)
      simp only [List.take_succ_cons, List.take_zero, List.drop_succ_cons, List.drop_zero, List.drop_nil, List.take_nil, fillAll, Nat.zero_add, Nat.reduceAdd]
      rw [v0, v1, v2, v3, v4, v5, v6, v7, v8, v9]
      clear hv v0 v1 v2 v3 v4 v5 v6 v7 v8 v9
      try simp only [put_lit, List.setIfInBounds_toArray, List.set_cons_succ, List.set_cons_zero]
      replace H := H.call hbw; clear hbw
      go_wp2_with (first | (first | ((with_reducible refine gT ?_); (refine aO H ?_; clear H; intro w H; (try simp only [nrm, nrl, Value.cells] at H))) | ((with_reducible refine gL ?_); refine aG H ?_)) | (go_at_call 60; (with_reducible refine ch (must_yes4 _) H ?_); clear H; intro w H))
      clear hd
      go_upto_region 3 with fail
      refine wp_region_spec 11 [fun v _ => v = ptrV rb, fun v _ => v = ptrV rb, fun v _ => v = ptrV rb, fun v _ => v = .string ⟨L.toArray⟩, fun v _ => v = ptrV rb, fun v _ => v = ptrV rb, fun v _ => v = .pointer (some ⟨rb, 1, none⟩), fun v _ => v = .int .i64 ((i : Int) + 1), fun v _ => v = .int .i64 (i : Int), fun v _ => v = .int .u8 (byt L i : Int), fun v _ => v = .int .u8 (byt L i : Int)] (fun _ => false) (by kernel_rfl) (by kernel_rfl) (by kernel_rfl) ⟨stable_eq _, stable_eq _, stable_eq _, stable_eq _, stable_eq _, stable_eq _, stable_eq _, stable_eq _, stable_eq _, stable_eq _, stable_eq _, trivial⟩ (fun _ _ h => by cases h) ?ob ?en
      case ob =>
        refine ⟨?_, ?_, ?_, ?_, ?_, ?_, ?_, ?_, ?_, ?_, ?_, trivial⟩ <;> intro A W h
        · exact rs_move rfl rfl (h.frame 0 rfl) (by decide)
        · (have e21 : A.eval (.tmp 21) = ptrV rb := h.dep 0 21 rfl rfl; refine rs_pure rfl ?_ (by decide); simp only [execOp, e21]; (simp [go_sem] <;> first | done | omega | (rw [IntKind.wrap_i64]; omega) | (rw [IntKind.wrap_u8]; omega) | (rw [IntKind.wrap_u64]; omega)))
        · (have e22 : A.eval (.tmp 22) = ptrV rb := h.dep 1 22 rfl rfl; refine rs_pure rfl ?_ (by decide); simp only [execOp, e22]; (simp [go_sem] <;> first | done | omega | (rw [IntKind.wrap_i64]; omega) | (rw [IntKind.wrap_u8]; omega) | (rw [IntKind.wrap_u64]; omega)))
        · exact rs_pure rfl (load_run rfl one_str (h.dep 2 23 rfl rfl) (((H.call h.below).cell .zero 0).trans rfl)) (by decide)
        · exact rs_move rfl rfl (h.frame 0 rfl) (by decide)
        · (have e25 : A.eval (.tmp 25) = ptrV rb := h.dep 4 25 rfl rfl; refine rs_pure rfl ?_ (by decide); simp only [execOp, e25]; (simp [go_sem] <;> first | done | omega | (rw [IntKind.wrap_i64]; omega) | (rw [IntKind.wrap_u8]; omega) | (rw [IntKind.wrap_u64]; omega)))
        · (have e26 : A.eval (.tmp 26) = ptrV rb := h.dep 5 26 rfl rfl; refine rs_pure rfl ?_ (by decide); simp only [execOp, e26]; (simp [go_sem] <;> first | done | omega | (rw [IntKind.wrap_i64]; omega) | (rw [IntKind.wrap_u8]; omega) | (rw [IntKind.wrap_u64]; omega)))
        · exact rs_pure rfl (load_run rfl one_int (h.dep 6 27 rfl rfl) (((H.call h.below).cell .zero 1).trans rfl)) (by decide)
        · (have e28 : A.eval (.tmp 28) = .int .i64 ((i : Int) + 1) := h.dep 7 28 rfl rfl; refine rs_pure rfl ?_ (by decide); simp only [execOp, e28]; (simp [go_sem] <;> first | done | omega | (rw [IntKind.wrap_i64]; omega) | (rw [IntKind.wrap_u8]; omega) | (rw [IntKind.wrap_u64]; omega)))
        · exact rs_pure rfl (str_index_run rfl Tryz.underlying9 (h.dep 3 24 rfl rfl) (h.dep 8 29 rfl rfl) rfl (by omega)) (by decide)
        · exact rs_assign rfl rfl (h.dep 9 30 rfl rfl) (by decide)
      case en =>
        intro vals W hbw hv _
        have v0 : vals 0 = ptrV rb := hv 0 (by omega)
        have v1 : vals 1 = ptrV rb := hv 1 (by omega)
        have v2 : vals 2 = ptrV rb := hv 2 (by omega)
        have v3 : vals 3 = .string ⟨L.toArray⟩ := hv 3 (by omega)
        have v4 : vals 4 = ptrV rb := hv 4 (by omega)
        have v5 : vals 5 = ptrV rb := hv 5 (by omega)
        have v6 : vals 6 = .pointer (some ⟨rb, 1, none⟩) := hv 6 (by omega)
        have v7 : vals 7 = .int .i64 ((i : Int) + 1) := hv 7 (by omega)
        have v8 : vals 8 = .int .i64 (i : Int) := hv 8 (by omega)
        have v9 : vals 9 = .int .u8 (byt L i : Int) := hv 9 (by omega)
        have v10 : vals 10 = .int .u8 (byt L i : Int) := hv 10 (by omega)
        simp only [List.take_succ_cons, List.take_zero, List.drop_succ_cons, List.drop_zero, List.drop_nil, List.take_nil, fillAll, Nat.zero_add, Nat.reduceAdd]
        rw [v0, v1, v2, v3, v4, v5, v6, v7, v8, v9, v10]
        clear hv v0 v1 v2 v3 v4 v5 v6 v7 v8 v9 v10
        try simp only [put_lit, List.setIfInBounds_toArray, List.set_cons_succ, List.set_cons_zero]
        simp only [put_no, put_lit, List.setIfInBounds_toArray, List.set_cons_succ, List.set_cons_zero]
        replace H := H.call hbw; clear hbw
        go_wp2
        go_ret
        exact ⟨H.keep, rfl, (H.blk .zero).2⟩
  · rw [if_neg hlt]
    go_enter Tryz.func37, Tryz.ntmps37
    go_upto_region 1 with fail
    refine wp_region_spec 10 [fun v _ => v = ptrV rb, fun v _ => v = ptrV rb, fun v _ => v = .pointer (some ⟨rb, 1, none⟩), fun v _ => v = .int .i64 (i : Int), fun v _ => v = ptrV rb, fun v _ => v = ptrV rb, fun v _ => v = ptrV rb, fun v _ => v = .string ⟨L.toArray⟩, fun v _ => v = .int .i64 (L.length : Int), fun v _ => v = .bool false] (fun _ => false) (by kernel_rfl) (by kernel_rfl) (by kernel_rfl) ⟨stable_eq _, stable_eq _, stable_eq _, stable_eq _, stable_eq _, stable_eq _, stable_eq _, stable_eq _, stable_eq _, stable_eq _, trivial⟩ (fun _ _ h => by cases h) ?ob ?en
    case ob =>
      refine ⟨?_, ?_, ?_, ?_, ?_, ?_, ?_, ?_, ?_, ?_, trivial⟩ <;> intro A W h
      · exact rs_move rfl rfl (h.frame 0 rfl) (by decide)
      · (have e3 : A.eval (.tmp 3) = ptrV rb := h.dep 0 3 rfl rfl; refine rs_pure rfl ?_ (by decide); simp only [execOp, e3]; (simp [go_sem] <;> first | done | omega | (rw [IntKind.wrap_i64]; omega) | (rw [IntKind.wrap_u8]; omega) | (rw [IntKind.wrap_u64]; omega)))
      · (have e4 : A.eval (.tmp 4) = ptrV rb := h.dep 1 4 rfl rfl; refine rs_pure rfl ?_ (by decide); simp only [execOp, e4]; (simp [go_sem] <;> first | done | omega | (rw [IntKind.wrap_i64]; omega) | (rw [IntKind.wrap_u8]; omega) | (rw [IntKind.wrap_u64]; omega)))
      · exact rs_pure rfl (load_run rfl one_int (h.dep 2 5 rfl rfl) (((H.call h.below).cell .zero 1).trans rfl)) (by decide)
      · exact rs_move rfl rfl (h.frame 0 rfl) (by decide)
      · (have e7 : A.eval (.tmp 7) = ptrV rb := h.dep 4 7 rfl rfl; refine rs_pure rfl ?_ (by decide); simp only [execOp, e7]; (simp [go_sem] <;> first | done | omega | (rw [IntKind.wrap_i64]; omega) | (rw [IntKind.wrap_u8]; omega) | (rw [IntKind.wrap_u64]; omega)))
      · (have e8 : A.eval (.tmp 8) = ptrV rb := h.dep 5 8 rfl rfl; refine rs_pure rfl ?_ (by decide); simp only [execOp, e8]; (simp [go_sem] <;> first | done | omega | (rw [IntKind.wrap_i64]; omega) | (rw [IntKind.wrap_u8]; omega) | (rw [IntKind.wrap_u64]; omega)))
      · exact rs_pure rfl (load_run rfl one_str (h.dep 6 9 rfl rfl) (((H.call h.below).cell .zero 0).trans rfl)) (by decide)
      · exact rs_pure rfl (strlen_run Tryz.underlying9 rfl (h.dep 7 10 rfl rfl)) (by decide)
      · (have e6 : A.eval (.tmp 6) = .int .i64 (i : Int) := h.dep 3 6 rfl rfl; have e11 : A.eval (.tmp 11) = .int .i64 (L.length : Int) := h.dep 8 11 rfl rfl; refine rs_pure rfl ?_ (by decide); simp only [execOp, e6, e11]; (simp [go_sem]; omega))
    case en =>
      intro vals W hbw hv _
      have v0 : vals 0 = ptrV rb := hv 0 (by omega)
      have v1 : vals 1 = ptrV rb := hv 1 (by omega)
      have v2 : vals 2 = .pointer (some ⟨rb, 1, none⟩) := hv 2 (by omega)
      have v3 : vals 3 = .int .i64 (i : Int) := hv 3 (by omega)
      have v4 : vals 4 = ptrV rb := hv 4 (by omega)
      have v5 : vals 5 = ptrV rb := hv 5 (by omega)
      have v6 : vals 6 = ptrV rb := hv 6 (by omega)
      have v7 : vals 7 = .string ⟨L.toArray⟩ := hv 7 (by omega)
      have v8 : vals 8 = .int .i64 (L.length : Int) := hv 8 (by omega)
      have v9 : vals 9 = .bool false := hv 9 (by omega)
      simp only [List.take_succ_cons, List.take_zero, List.drop_succ_cons, List.drop_zero, List.drop_nil, List.take_nil, fillAll, Nat.zero_add, Nat.reduceAdd]
      rw [v0, v1, v2, v3, v4, v5, v6, v7, v8, v9]
      clear hv v0 v1 v2 v3 v4 v5 v6 v7 v8 v9
      try simp only [put_lit, List.setIfInBounds_toArray, List.set_cons_succ, List.set_cons_zero]
      replace H := H.call hbw; clear hbw
      go_wp2_with (first | fail | (go_at_call 60; (with_reducible refine ch (must_no4 _) H ?_); clear H; intro w H))
      exact ⟨rfl, H.keep, rfl⟩
end Go.Proofs.YtllmgmfihijejaaGreatDoor
/-
  The walks of package lex: a reader goes past a text.
-/
namespace Go.Proofs.YtllmgmfihijejaaGreatDoor
open Go.RowKit Go.Shelf
attribute [local go_sem] Oper.semAt_some
set_option linter.unusedSimpArgs false

theorem sh_prefix (L t : Str) (w0 : World) : Calls Tryz.prog 30 #[.string ⟨L.toArray⟩, .string ⟨t.toArray⟩] w0 fun e w' => e = .returned (.bool (t.isPrefixOf L)) ∧ Below w0.heap.size w0 w' :=
  (Tryz.strings_HasPrefix ⟨L.toArray⟩ ⟨t.toArray⟩ w0).mono (by
    rintro e w ⟨rfl, rfl⟩
    exact ⟨by simp [Lib.hasPrefix], Below.refl _ _⟩)
set_option maxRecDepth 100000 in
set_option maxHeartbeats 1000000 in
theorem rd_skip (rb : Nat) (L : Str) (i : Nat) (t : Str) (ht : t.length ≤ 10) (U : TypeId) (hL : L.length ≤ 2000) (hi : i ≤ L.length) (w0 : World) (hr : w0.heap[rb]? = some (.cells (rdC L i) U (0, 0))) :
    Calls Tryz.prog 40 #[ptrV rb, .string ⟨t.toArray⟩] w0 (ReadsV rb L U w0 (.ok (.bool (atP L i t), if atP L i t then i + t.length else i))) := by
  have H := HoldG.startB hr
  have ea : t.isPrefixOf (L.drop i) = atP L i t := rfl
  cases hA : atP L i t
  · rw [hA] at ea
    go_enter Tryz.func40, Tryz.ntmps40
    go_wp2_with (first | fail | (go_at_call 64; (with_reducible refine ch (rd_rest rb L i U hi _ (H.blk .zero).2) H ?_); clear H; intro w H) | (go_at_call 30; (with_reducible refine ch (ea ▸ sh_prefix (L.drop i) t _) H ?_); clear H; intro w H))
    go_ret
    exact ⟨H.keep, rfl, (H.blk .zero).2⟩
  · rw [hA] at ea
    have hle : i + t.length ≤ L.length := by
      have := (List.isPrefixOf_iff_prefix.1 ea).length_le
      simp at this; omega
    go_enter Tryz.func40, Tryz.ntmps40
    go_wp2_with (first | (first | ((with_reducible refine gT ?_); (refine aO H ?_; clear H; intro w H; (try simp only [nrm, nrl, Value.cells] at H))) | ((with_reducible refine gL ?_); refine aG H ?_)) | (go_at_call 64; (with_reducible refine ch (rd_rest rb L i U hi _ (H.blk .zero).2) H ?_); clear H; intro w H) | (go_at_call 30; (with_reducible refine ch (ea ▸ sh_prefix (L.drop i) t _) H ?_); clear H; intro w H))
    go_ret
    exact ⟨H.keep, rfl, (H.blk .zero).2⟩
end Go.Proofs.YtllmgmfihijejaaGreatDoor
/-
  The walks of package lex: hex digits.
-/
namespace Go.Proofs.YtllmgmfihijejaaGreatDoor
open Go.RowKit Go.Shelf
attribute [local go_sem] Oper.semAt_some
set_option linter.unusedSimpArgs false

def lowP (c : Nat) : Nat := if 65 ≤ c ∧ c ≤ 90 then c + 32 else c
set_option maxRecDepth 100000 in
set_option maxHeartbeats 1000000 in
theorem lx_lower (c : Nat) (hc : c < 256) (w0 : World) : Calls Tryz.prog 99 #[.int .u8 c] w0 fun e w' => e = .returned (.int .u8 (lowP c)) ∧ Below w0.heap.size w0 w' := by
  go_enter Tryz.func99, Tryz.ntmps99
  go_wp2
  all_goals
    go_ret
    refine ⟨reti ?_, Below.refl _ _⟩
    unfold lowP
    (repeat' split) <;> omega
end Go.Proofs.YtllmgmfihijejaaGreatDoor
/-
  The walks of package lex: the sets of names, of escapes of many bytes.
-/
namespace Go.Proofs.YtllmgmfihijejaaGreatDoor
open Go.RowKit Go.Shelf Go.MapKept
attribute [local go_sem] Oper.semAt_some
set_option linter.unusedSimpArgs false

section
variable {ops : Array Oper} {o : Oper} {a : Act} {w w0 : World} {l : List Res} {M : Nat → Prop}
theorem loadS_run {P : Program} {T : TypeId} {x : Operand} (ho : o.op = .load T x) {b : Nat} (hx : a.eval x = .pointer (some ⟨b, 0, none⟩)) (H : HoldG M w0 w l) {i : Nat} {s : Nat → Nat} {U : TypeId} (hi : At l i (.blk b (setC s) U))
    (hT : rowB P T 4 = true) : (execOp a.eval o).run P w = .ok (.value (setV s)) w := by
  unfold execOp
  simp only [ho, hx, Instr.loadAt, Instr.sureAddr, Sem.run_bind, Sem.run_pure, Result.andThen_ok, H.run_row (T := T) hi hT (n := 4) rfl (fun j _ => by rw [Nat.zero_add])]
  rfl
theorem rs_bytes (n : Nat) (cs : List Value) {parts : Array (Nat × Operand)} (hn : cs.length = n) (hl : n ≤ maxLen) (hg : Region.wanted o (yielded ops a.tmps) = true) (ho : o.op = .buildSlice 22 n parts)
    (hr : ∀ W : World, (Instr.buildSlice 22 n (parts.map fun (i, x) => (i, a.eval x))).run Tryz.prog W = .ok (.slice (some ⟨W.heap.size, 0, none⟩) n n) (W.alloc (.cells cs.toArray 5))) :
    RStep Tryz.prog ops o a w (fun v w' => Rd w' w'.heap.size v cs) := by
  subst hn
  refine rs_val hg (v := .slice (some ⟨w.heap.size, 0, none⟩) cs.length cs.length) (w' := w.alloc (.cells cs.toArray 5)) ?_ ((Below.refl _ w).alloc (Nat.le_refl _) _)
    ((Rd.lit w cs 5 (0, 0) hl).up (by rw [World.size_alloc]; exact Nat.le_refl _))
  simp only [execOp, ho, Sem.run_bind, hr, Result.andThen_ok]
  rfl
theorem rs_bytesD (n : Nat) (cs : List Value) {parts : Array (Nat × Operand)} {D : Prop} (hn : cs.length = n) (hl : n ≤ maxLen) (hg : Region.wanted o (yielded ops a.tmps) = true) (ho : o.op = .buildSlice 22 n parts)
    (hr : ∀ W : World, (Instr.buildSlice 22 n (parts.map fun (i, x) => (i, a.eval x))).run Tryz.prog W = .ok (.slice (some ⟨W.heap.size, 0, none⟩) n n) (W.alloc (.cells cs.toArray 5))) (hD : ¬ D) :
    RStep Tryz.prog ops o a w (fun v w' => Rd w' w'.heap.size v cs ∧ (D → w.heap.size ≤ blk v)) := by
  subst hn
  refine rs_val hg (v := .slice (some ⟨w.heap.size, 0, none⟩) cs.length cs.length) (w' := w.alloc (.cells cs.toArray 5)) ?_ ((Below.refl _ w).alloc (Nat.le_refl _) _)
    ⟨(Rd.lit w cs 5 (0, 0) hl).up (by rw [World.size_alloc]; exact Nat.le_refl _), fun h => (hD h).elim⟩
  simp only [execOp, ho, Sem.run_bind, hr, Result.andThen_ok]
  rfl
end
section
variable {P : Program} {ops : Array Oper} {rest : List Oper} {o : Oper} {a : Act} {w w0 : World} {Q : Exit → Act → World → Prop} {l : List Res} {M : Nat → Prop} {kt et : TypeId} {d : TypeDesc} {F : Value → Option Value} {es : Array MapEntry} {c mb i : Nat} {kv v z : Value}
theorem HoldG.mp (H : HoldG M w0 w l) (hi : At l i (.mp mb es c)) : w0.heap.size ≤ mb ∧ w.heap[mb]? = some (.map es c) := H.all i _ hi.get
theorem own_lookup (hg : Region.wanted o (yielded ops a.tmps) = true) (T : TypeId) (x k : Operand) (ho : o.op = .lookup T x k false) (hT : P.underlying T = some (.map kt et)) (hd : P.underlying kt = some d)
    (hx : a.eval x = .map (some mb)) (hk : a.eval k = kv) (H : HoldG M w0 w l) (hi : At l i (.mp mb es c)) (hM : MapOf d F es) (hkey : IsKey d kv) (hF : F kv = some v) (h : wpList P ops Q rest (a.put o.dst v) w) : wpList P ops Q (o :: rest) a w :=
  own_pure hg (by simp only [execOp, ho, hx, hk, Sem.run_bind, run_lookup hT hd (H.mp hi).2 hM hkey hF, Result.andThen]; rfl) h
theorem own_lookup2 (hg : Region.wanted o (yielded ops a.tmps) = true) (T : TypeId) (x k : Operand) (ho : o.op = .lookup T x k true) (hT : P.underlying T = some (.map kt et)) (hd : P.underlying kt = some d)
    (hx : a.eval x = .map (some mb)) (hk : a.eval k = kv) (H : HoldG M w0 w l) (hi : At l i (.mp mb es c)) (hM : MapOf d F es) (hkey : IsKey d kv) (hF : F kv = some v) (h : wpList P ops Q rest (a.put o.dst (.tuple #[v, .bool true])) w) : wpList P ops Q (o :: rest) a w :=
  own_pure hg (by simp only [execOp, ho, hx, hk, Sem.run_bind, run_lookup2 hT hd (H.mp hi).2 hM hkey hF, Result.andThen]; rfl) h
theorem own_lookup2N (hg : Region.wanted o (yielded ops a.tmps) = true) (T : TypeId) (x k : Operand) (ho : o.op = .lookup T x k true) (hT : P.underlying T = some (.map kt et)) (hd : P.underlying kt = some d)
    (hx : a.eval x = .map (some mb)) (hk : a.eval k = kv) (H : HoldG M w0 w l) (hi : At l i (.mp mb es c)) (hM : MapOf d F es) (hkey : IsKey d kv) (hF : F kv = none ∧ ∀ W, (zeroValue et).run P W = .ok z W) (h : wpList P ops Q rest (a.put o.dst (.tuple #[z, .bool false])) w) : wpList P ops Q (o :: rest) a w :=
  own_pure hg (by simp only [execOp, ho, hx, hk, Sem.run_bind, run_lookup2_none hT hd (H.mp hi).2 hM hkey hF.1 hF.2, Result.andThen]; rfl) h
end
/-- the names of sets, as values -/
def namesF : Value → Option Value
  | .string s => (namedP s.data.toList).map setV
  | _ => none
abbrev strD : TypeDesc := .string
theorem namesF_str (L : Str) : namesF (.string ⟨L.toArray⟩) = (namedP L).map setV := by simp [namesF]
def keyV (L : Str) : Value := .string ⟨L.toArray⟩
theorem names_all (k v : Value) (h : namesF k = some v) : k ∈ namesL.map (fun p => keyV p.1) := by
  unfold namesF at h
  split at h
  · rename_i s
    cases hn : namedP s.data.toList with
    | none => rw [hn] at h; cases h
    | some t =>
      unfold namedP at hn
      cases hf : namesL.find? (fun p => s.data.toList == p.1) with
      | none => rw [hf] at hn; cases hn
      | some p =>
        have h1 := List.find?_some hf
        have h2 := List.mem_of_find?_eq_some hf
        have h3 : s.data.toList = p.1 := by simpa using h1
        refine List.mem_map.2 ⟨p, h2, ?_⟩
        unfold keyV
        rw [← h3]
  · cases h
/-- the sets of escapes of many bytes, as values -/
def sortsF : Value → Option Value
  | .int .u8 c => (sortP c.toNat).map setV
  | _ => none

theorem rg_48_57 (w0 : World) : Calls Tryz.prog 17 #[.int .u8 48, .int .u8 57] w0 fun e w' => e = .returned (setV digitS) ∧ Below w0.heap.size w0 w' := set_Range 48 57 (by omega) (by omega) w0
theorem rg_97_122 (w0 : World) : Calls Tryz.prog 17 #[.int .u8 97, .int .u8 122] w0 fun e w' => e = .returned (setV lowerS) ∧ Below w0.heap.size w0 w' := set_Range 97 122 (by omega) (by omega) w0
theorem rg_65_90 (w0 : World) : Calls Tryz.prog 17 #[.int .u8 65, .int .u8 90] w0 fun e w' => e = .returned (setV upperS) ∧ Below w0.heap.size w0 w' := set_Range 65 90 (by omega) (by omega) w0
theorem rg_33_126 (w0 : World) : Calls Tryz.prog 17 #[.int .u8 33, .int .u8 126] w0 fun e w' => e = .returned (setV graphS) ∧ Below w0.heap.size w0 w' := set_Range 33 126 (by omega) (by omega) w0

theorem un_alnum (v : Value) (w : World) (h : RdS w w.heap.size v [digitS, lowerS, upperS]) : Calls Tryz.prog 16 #[v] w fun e w' => e = .returned (setV alnumS) ∧ Below w.heap.size w w' := set_Union v _ (ok3 digitS_ok lowerS_ok upperS_ok) w h
/-- a map that answers as F tells -/
def MapR (d : TypeDesc) (F : Value → Option Value) (n0 : Nat) (e : Ending) (w' : World) : Prop := ∃ mb es c, e = .returned (.map (some mb)) ∧ n0 ≤ mb ∧ w'.heap[mb]? = some (.map es c) ∧ MapOf d F es

set_option maxRecDepth 100000 in
set_option maxHeartbeats 4000000 in
theorem lx_names (w0 : World) : Calls Tryz.prog 86 #[] w0 fun e w' => MapR strD namesF w0.heap.size e w' ∧ Below w0.heap.size w0 w' := by
  have H := Hold.start w0
  go_enter Tryz.func86, Tryz.ntmps86
  go_upto_region 3 with (first | ((first | ((with_reducible refine kgA 1 ?_); refine kA 1 H ?_) | ((with_reducible refine kgX 1 ?_); (first | refine kS 1 H ?_ | refine kB 1 H ?_))); clear H; intro b1 w H; (try simp only [nrm, nrl, Value.cells] at H)) | ((first | ((with_reducible refine kgA 2 ?_); refine kA 2 H ?_) | ((with_reducible refine kgX 2 ?_); (first | refine kS 2 H ?_ | refine kB 2 H ?_))); clear H; intro b2 w H; (try simp only [nrm, nrl, Value.cells] at H)) | ((first | ((with_reducible refine kgA 3 ?_); refine kA 3 H ?_) | ((with_reducible refine kgX 3 ?_); (first | refine kS 3 H ?_ | refine kB 3 H ?_))); clear H; intro b3 w H; (try simp only [nrm, nrl, Value.cells] at H)) | ((first | ((with_reducible refine kgA 4 ?_); refine kA 4 H ?_) | ((with_reducible refine kgX 4 ?_); (first | refine kS 4 H ?_ | refine kB 4 H ?_))); clear H; intro b4 w H; (try simp only [nrm, nrl, Value.cells] at H)) | ((first | ((with_reducible refine kgA 5 ?_); refine kA 5 H ?_) | ((with_reducible refine kgX 5 ?_); (first | refine kS 5 H ?_ | refine kB 5 H ?_))); clear H; intro b5 w H; (try simp only [nrm, nrl, Value.cells] at H)) | (first | ((with_reducible refine gT ?_); (refine aS H ?_; clear H; intro w H; (try simp only [nrm, nrl, Value.cells] at H))) | ((with_reducible refine gL ?_); refine aL H ?_)) | (go_at_call 17; (with_reducible refine ch (rg_48_57 _) H ?_); clear H; intro w H) | (go_at_call 17; (with_reducible refine ch (rg_97_122 _) H ?_); clear H; intro w H) | (go_at_call 17; (with_reducible refine ch (rg_65_90 _) H ?_); clear H; intro w H) | (go_at_call 17; (with_reducible refine ch (rg_33_126 _) H ?_); clear H; intro w H) | (go_at_call 16; (with_reducible refine ch (un_alnum _ _ (H.rdsn (L := [digitS, lowerS, upperS]) (by repeat (first | (with_reducible exact At.zero) | apply At.succ)) (by simp) (by simp [maxLen]))) H ?_); clear H; intro w H) | ((with_reducible show @wpList _ _ _ ({ dst := _, op := Op.buildSlice _ _ _, type := _, pos := _, after := _, guard := _ } :: _) _ _); refine own_build (by first | rfl | exact wanted_g rfl (yielded_of rfl (by first | rfl | (simp only [put_lit, put_no, List.setIfInBounds_toArray, List.set_cons_succ, List.set_cons_zero, ev_tmp, ev_const, ev_glob, ev_func, List.getD_cons_succ, List.getD_cons_zero]; rfl)))) _ _ _ rfl H (rowC [digitS, lowerS, upperS]).toArray 37 (by intro W; simp only [List.map_toArray, List.map_cons, List.map_nil]; (try simp only [put_lit, put_no, List.setIfInBounds_toArray, List.set_cons_succ, List.set_cons_zero, ev_tmp, ev_const, ev_glob, ev_func, List.getD_cons_succ, List.getD_cons_zero]); (with_reducible exact run_sets3 (digitS) (lowerS) (upperS) W)) ?_; clear H; intro b w H; (try simp only [nrm, nrl, Value.cells] at H)))
  refine wp_region_specM (RelM strD namesF w.heap.size) RelM.refl RelM.trans RelM.drew 53 [InMap strD namesF w.heap.size [], fun v _ => v = setV alnumS, InMap strD namesF w.heap.size [.string ⟨#[97, 108, 110, 117, 109]⟩], fun v _ => v = setV lowerS, fun v _ => v = setV upperS, fun v w => RdS w w.heap.size v [lowerS, upperS], fun v _ => v = setV (unionS [lowerS, upperS]), InMap strD namesF w.heap.size [.string ⟨#[97, 108, 112, 104, 97]⟩], fun v _ => v = setV (rangeS 0 128), InMap strD namesF w.heap.size [.string ⟨#[97, 115, 99, 105, 105]⟩], fun v w => Rd w w.heap.size v [.int .u8 9, .int .u8 32], fun v _ => v = setV (ofS [9, 32]), InMap strD namesF w.heap.size [.string ⟨#[98, 108, 97, 110, 107]⟩], fun v _ => v = setV (rangeS 0 32), fun v w => Rd w w.heap.size v [.int .u8 127], fun v _ => v = setV (ofS [127]), fun v w => RdS w w.heap.size v [(rangeS 0 32), (ofS [127])], fun v _ => v = setV (unionS [(rangeS 0 32), (ofS [127])]), InMap strD namesF w.heap.size [.string ⟨#[99, 110, 116, 114, 108]⟩], fun v _ => v = setV digitS, InMap strD namesF w.heap.size [.string ⟨#[100, 105, 103, 105, 116]⟩], fun v _ => v = setV graphS, InMap strD namesF w.heap.size [.string ⟨#[103, 114, 97, 112, 104]⟩], fun v _ => v = setV lowerS, InMap strD namesF w.heap.size [.string ⟨#[108, 111, 119, 101, 114]⟩], fun v _ => v = setV (rangeS 32 95), InMap strD namesF w.heap.size [.string ⟨#[112, 114, 105, 110, 116]⟩], fun v _ => v = setV graphS, fun v _ => v = setV alnumS, fun v _ => v = setV (notS alnumS), fun v w => RdS w w.heap.size v [graphS, (notS alnumS)], fun v _ => v = setV (meetS [graphS, (notS alnumS)]), InMap strD namesF w.heap.size [.string ⟨#[112, 117, 110, 99, 116]⟩], fun v _ => v = setV (rangeS 9 5), fun v w => Rd w w.heap.size v [.int .u8 32], fun v _ => v = setV (ofS [32]), fun v w => RdS w w.heap.size v [(rangeS 9 5), (ofS [32])], fun v _ => v = setV (unionS [(rangeS 9 5), (ofS [32])]), InMap strD namesF w.heap.size [.string ⟨#[115, 112, 97, 99, 101]⟩], fun v _ => v = setV upperS, InMap strD namesF w.heap.size [.string ⟨#[117, 112, 112, 101, 114]⟩], fun v _ => v = setV alnumS, fun v w => Rd w w.heap.size v [.int .u8 95], fun v _ => v = setV (ofS [95]), fun v w => RdS w w.heap.size v [alnumS, (ofS [95])], fun v _ => v = setV (unionS [alnumS, (ofS [95])]), InMap strD namesF w.heap.size [.string ⟨#[119, 111, 114, 100]⟩], fun v _ => v = setV digitS, fun v _ => v = setV (rangeS 97 6), fun v _ => v = setV (rangeS 65 6), fun v w => RdS w w.heap.size v [digitS, (rangeS 97 6), (rangeS 65 6)], fun v _ => v = setV (unionS [digitS, (rangeS 97 6), (rangeS 65 6)]), InMap strD namesF w.heap.size [.string ⟨#[120, 100, 105, 103, 105, 116]⟩]] ⟨stable_inMap _, stableR_eq _, stable_inMap _, stableR_eq _, stableR_eq _, stable_rdsM _, stableR_eq _, stable_inMap _, stableR_eq _, stable_inMap _, stable_rdM _, stableR_eq _, stable_inMap _, stableR_eq _, stable_rdM _, stableR_eq _, stable_rdsM _, stableR_eq _, stable_inMap _, stableR_eq _, stable_inMap _, stableR_eq _, stable_inMap _, stableR_eq _, stable_inMap _, stableR_eq _, stable_inMap _, stableR_eq _, stableR_eq _, stableR_eq _, stable_rdsM _, stableR_eq _, stable_inMap _, stableR_eq _, stable_rdM _, stableR_eq _, stable_rdsM _, stableR_eq _, stable_inMap _, stableR_eq _, stable_inMap _, stableR_eq _, stable_rdM _, stableR_eq _, stable_rdsM _, stableR_eq _, stable_inMap _, stableR_eq _, stableR_eq _, stableR_eq _, stable_rdsM _, stableR_eq _, stable_inMap _, trivial⟩ (by kernel_rfl) (by kernel_rfl) (by kernel_rfl) ?ob ?en
  case ob =>
    refine ⟨?_, ?_, ?_, ?_, ?_, ?_, ?_, ?_, ?_, ?_, ?_, ?_, ?_, ?_, ?_, ?_, ?_, ?_, ?_, ?_, ?_, ?_, ?_, ?_, ?_, ?_, ?_, ?_, ?_, ?_, ?_, ?_, ?_, ?_, ?_, ?_, ?_, ?_, ?_, ?_, ?_, ?_, ?_, ?_, ?_, ?_, ?_, ?_, ?_, ?_, ?_, ?_, ?_, trivial⟩ <;> intro A W h
    · exact rm_of rfl (rm_makeMap rfl rfl h.rel.size)
    · exact rm_of rfl (rq_pure RelM.refl rfl (loadS_run rfl (h.frame 4 rfl) (H.call h.rel.below) (by repeat (first | (with_reducible exact At.zero) | apply At.succ)) row_Set))
    · exact rm_insert (k := .string ⟨#[97, 108, 110, 117, 109]⟩) (v := setV alnumS) rfl rfl rfl Tryz.underlying137 Tryz.underlying9 (h.dep 0 15 rfl rfl) rfl (h.dep 1 16 rfl rfl) (by first | trivial | rfl) (by kernel_rfl)
    · exact rm_of rfl (rq_pure RelM.refl rfl (loadS_run rfl (h.frame 2 rfl) (H.call h.rel.below) (by repeat (first | (with_reducible exact At.zero) | apply At.succ)) row_Set))
    · exact rm_of rfl (rq_pure RelM.refl rfl (loadS_run rfl (h.frame 3 rfl) (H.call h.rel.below) (by repeat (first | (with_reducible exact At.zero) | apply At.succ)) row_Set))
    · exact rm_of rfl (rq_rs (fun w' => RelM.of_below) (fun _ _ h => h.1) (rs_build2 (D := False) rfl rfl (h.dep 3 17 rfl rfl) (h.dep 4 18 rfl rfl) (fun h => h)))
    · exact rm_of rfl (rq_calln rfl rfl (enters_of Tryz.func16 (by kernel_rfl) rfl) (args1 rfl) ((set_Union _ [lowerS, upperS] ((ok2 lowerS_ok upperS_ok)) W (h.dep 5 19 rfl rfl)).mono fun _ _ h => ⟨h.1, RelM.of_below h.2⟩))
    · exact rm_insert (k := .string ⟨#[97, 108, 112, 104, 97]⟩) (v := setV (unionS [lowerS, upperS])) rfl rfl rfl Tryz.underlying137 Tryz.underlying9 (h.dep 0 15 rfl rfl) rfl (h.dep 6 20 rfl rfl) (by first | trivial | rfl) (by kernel_rfl)
    · exact rm_of rfl (rq_calln rfl rfl (enters_of Tryz.func17 (by kernel_rfl) rfl) (args2 ⟨rfl, rfl⟩) ((set_Range 0 127 (by omega) (by omega) W).mono fun _ _ h => ⟨h.1, RelM.of_below h.2⟩))
    · exact rm_insert (k := .string ⟨#[97, 115, 99, 105, 105]⟩) (v := setV (rangeS 0 128)) rfl rfl rfl Tryz.underlying137 Tryz.underlying9 (h.dep 0 15 rfl rfl) rfl (h.dep 8 21 rfl rfl) (by first | trivial | rfl) (by kernel_rfl)
    · exact rm_of rfl (rq_rs (fun w' => RelM.of_below) (fun _ _ h => h) (rs_bytes 2 [.int .u8 9, .int .u8 32] rfl (by decide) rfl rfl (fun W => by simp [go_sem])))
    · exact rm_of rfl (rq_calln rfl rfl (enters_of Tryz.func45 (by kernel_rfl) rfl) (args1 rfl) ((set_Of _ [9, 32] (by decide) W (h.dep 10 22 rfl rfl)).mono fun _ _ h => ⟨h.1, RelM.of_below h.2⟩))
    · exact rm_insert (k := .string ⟨#[98, 108, 97, 110, 107]⟩) (v := setV (ofS [9, 32])) rfl rfl rfl Tryz.underlying137 Tryz.underlying9 (h.dep 0 15 rfl rfl) rfl (h.dep 11 23 rfl rfl) (by first | trivial | rfl) (by kernel_rfl)
    · exact rm_of rfl (rq_calln rfl rfl (enters_of Tryz.func17 (by kernel_rfl) rfl) (args2 ⟨rfl, rfl⟩) ((set_Range 0 31 (by omega) (by omega) W).mono fun _ _ h => ⟨h.1, RelM.of_below h.2⟩))
    · exact rm_of rfl (rq_rs (fun w' => RelM.of_below) (fun _ _ h => h) (rs_bytes 1 [.int .u8 127] rfl (by decide) rfl rfl (fun W => by simp [go_sem])))
    · exact rm_of rfl (rq_calln rfl rfl (enters_of Tryz.func45 (by kernel_rfl) rfl) (args1 rfl) ((set_Of _ [127] (by decide) W (h.dep 14 25 rfl rfl)).mono fun _ _ h => ⟨h.1, RelM.of_below h.2⟩))
    · exact rm_of rfl (rq_rs (fun w' => RelM.of_below) (fun _ _ h => h.1) (rs_build2 (D := False) rfl rfl (h.dep 13 24 rfl rfl) (h.dep 15 26 rfl rfl) (fun h => h)))
    · exact rm_of rfl (rq_calln rfl rfl (enters_of Tryz.func16 (by kernel_rfl) rfl) (args1 rfl) ((set_Union _ [(rangeS 0 32), (ofS [127])] ((ok2 (rangeS_ok _ _) (ofS_ok _))) W (h.dep 16 27 rfl rfl)).mono fun _ _ h => ⟨h.1, RelM.of_below h.2⟩))
    · exact rm_insert (k := .string ⟨#[99, 110, 116, 114, 108]⟩) (v := setV (unionS [(rangeS 0 32), (ofS [127])])) rfl rfl rfl Tryz.underlying137 Tryz.underlying9 (h.dep 0 15 rfl rfl) rfl (h.dep 17 28 rfl rfl) (by first | trivial | rfl) (by kernel_rfl)
    · exact rm_of rfl (rq_pure RelM.refl rfl (loadS_run rfl (h.frame 1 rfl) (H.call h.rel.below) (by repeat (first | (with_reducible exact At.zero) | apply At.succ)) row_Set))
    · exact rm_insert (k := .string ⟨#[100, 105, 103, 105, 116]⟩) (v := setV digitS) rfl rfl rfl Tryz.underlying137 Tryz.underlying9 (h.dep 0 15 rfl rfl) rfl (h.dep 19 29 rfl rfl) (by first | trivial | rfl) (by kernel_rfl)
    · exact rm_of rfl (rq_pure RelM.refl rfl (loadS_run rfl (h.frame 5 rfl) (H.call h.rel.below) (by repeat (first | (with_reducible exact At.zero) | apply At.succ)) row_Set))
    · exact rm_insert (k := .string ⟨#[103, 114, 97, 112, 104]⟩) (v := setV graphS) rfl rfl rfl Tryz.underlying137 Tryz.underlying9 (h.dep 0 15 rfl rfl) rfl (h.dep 21 30 rfl rfl) (by first | trivial | rfl) (by kernel_rfl)
    · exact rm_of rfl (rq_pure RelM.refl rfl (loadS_run rfl (h.frame 2 rfl) (H.call h.rel.below) (by repeat (first | (with_reducible exact At.zero) | apply At.succ)) row_Set))
    · exact rm_insert (k := .string ⟨#[108, 111, 119, 101, 114]⟩) (v := setV lowerS) rfl rfl rfl Tryz.underlying137 Tryz.underlying9 (h.dep 0 15 rfl rfl) rfl (h.dep 23 31 rfl rfl) (by first | trivial | rfl) (by kernel_rfl)
    · exact rm_of rfl (rq_calln rfl rfl (enters_of Tryz.func17 (by kernel_rfl) rfl) (args2 ⟨rfl, rfl⟩) ((set_Range 32 126 (by omega) (by omega) W).mono fun _ _ h => ⟨h.1, RelM.of_below h.2⟩))
    · exact rm_insert (k := .string ⟨#[112, 114, 105, 110, 116]⟩) (v := setV (rangeS 32 95)) rfl rfl rfl Tryz.underlying137 Tryz.underlying9 (h.dep 0 15 rfl rfl) rfl (h.dep 25 32 rfl rfl) (by first | trivial | rfl) (by kernel_rfl)
    · exact rm_of rfl (rq_pure RelM.refl rfl (loadS_run rfl (h.frame 5 rfl) (H.call h.rel.below) (by repeat (first | (with_reducible exact At.zero) | apply At.succ)) row_Set))
    · exact rm_of rfl (rq_pure RelM.refl rfl (loadS_run rfl (h.frame 4 rfl) (H.call h.rel.below) (by repeat (first | (with_reducible exact At.zero) | apply At.succ)) row_Set))
    · exact rm_of rfl (rq_calln rfl rfl (enters_of Tryz.func98 (by kernel_rfl) rfl) (args1 (h.dep 28 34 rfl rfl)) ((set_Not alnumS alnumS_ok W).mono fun _ _ h => ⟨h.1, RelM.of_below h.2⟩))
    · exact rm_of rfl (rq_rs (fun w' => RelM.of_below) (fun _ _ h => h.1) (rs_build2 (D := False) rfl rfl (h.dep 27 33 rfl rfl) (h.dep 29 35 rfl rfl) (fun h => h)))
    · exact rm_of rfl (rq_calln rfl rfl (enters_of Tryz.func100 (by kernel_rfl) rfl) (args1 rfl) ((set_Meet _ [graphS, (notS alnumS)] ((ok2 graphS_ok (notS_ok _))) W (h.dep 30 36 rfl rfl)).mono fun _ _ h => ⟨h.1, RelM.of_below h.2⟩))
    · exact rm_insert (k := .string ⟨#[112, 117, 110, 99, 116]⟩) (v := setV (meetS [graphS, (notS alnumS)])) rfl rfl rfl Tryz.underlying137 Tryz.underlying9 (h.dep 0 15 rfl rfl) rfl (h.dep 31 37 rfl rfl) (by first | trivial | rfl) (by kernel_rfl)
    · exact rm_of rfl (rq_calln rfl rfl (enters_of Tryz.func17 (by kernel_rfl) rfl) (args2 ⟨rfl, rfl⟩) ((set_Range 9 13 (by omega) (by omega) W).mono fun _ _ h => ⟨h.1, RelM.of_below h.2⟩))
    · exact rm_of rfl (rq_rs (fun w' => RelM.of_below) (fun _ _ h => h) (rs_bytes 1 [.int .u8 32] rfl (by decide) rfl rfl (fun W => by simp [go_sem])))
    · exact rm_of rfl (rq_calln rfl rfl (enters_of Tryz.func45 (by kernel_rfl) rfl) (args1 rfl) ((set_Of _ [32] (by decide) W (h.dep 34 39 rfl rfl)).mono fun _ _ h => ⟨h.1, RelM.of_below h.2⟩))
    · exact rm_of rfl (rq_rs (fun w' => RelM.of_below) (fun _ _ h => h.1) (rs_build2 (D := False) rfl rfl (h.dep 33 38 rfl rfl) (h.dep 35 40 rfl rfl) (fun h => h)))
    · exact rm_of rfl (rq_calln rfl rfl (enters_of Tryz.func16 (by kernel_rfl) rfl) (args1 rfl) ((set_Union _ [(rangeS 9 5), (ofS [32])] ((ok2 (rangeS_ok _ _) (ofS_ok _))) W (h.dep 36 41 rfl rfl)).mono fun _ _ h => ⟨h.1, RelM.of_below h.2⟩))
    · exact rm_insert (k := .string ⟨#[115, 112, 97, 99, 101]⟩) (v := setV (unionS [(rangeS 9 5), (ofS [32])])) rfl rfl rfl Tryz.underlying137 Tryz.underlying9 (h.dep 0 15 rfl rfl) rfl (h.dep 37 42 rfl rfl) (by first | trivial | rfl) (by kernel_rfl)
    · exact rm_of rfl (rq_pure RelM.refl rfl (loadS_run rfl (h.frame 3 rfl) (H.call h.rel.below) (by repeat (first | (with_reducible exact At.zero) | apply At.succ)) row_Set))
    · exact rm_insert (k := .string ⟨#[117, 112, 112, 101, 114]⟩) (v := setV upperS) rfl rfl rfl Tryz.underlying137 Tryz.underlying9 (h.dep 0 15 rfl rfl) rfl (h.dep 39 43 rfl rfl) (by first | trivial | rfl) (by kernel_rfl)
    · exact rm_of rfl (rq_pure RelM.refl rfl (loadS_run rfl (h.frame 4 rfl) (H.call h.rel.below) (by repeat (first | (with_reducible exact At.zero) | apply At.succ)) row_Set))
    · exact rm_of rfl (rq_rs (fun w' => RelM.of_below) (fun _ _ h => h) (rs_bytes 1 [.int .u8 95] rfl (by decide) rfl rfl (fun W => by simp [go_sem])))
    · exact rm_of rfl (rq_calln rfl rfl (enters_of Tryz.func45 (by kernel_rfl) rfl) (args1 rfl) ((set_Of _ [95] (by decide) W (h.dep 42 45 rfl rfl)).mono fun _ _ h => ⟨h.1, RelM.of_below h.2⟩))
    · exact rm_of rfl (rq_rs (fun w' => RelM.of_below) (fun _ _ h => h.1) (rs_build2 (D := False) rfl rfl (h.dep 41 44 rfl rfl) (h.dep 43 46 rfl rfl) (fun h => h)))
    · exact rm_of rfl (rq_calln rfl rfl (enters_of Tryz.func16 (by kernel_rfl) rfl) (args1 rfl) ((set_Union _ [alnumS, (ofS [95])] ((ok2 alnumS_ok (ofS_ok _))) W (h.dep 44 47 rfl rfl)).mono fun _ _ h => ⟨h.1, RelM.of_below h.2⟩))
    · exact rm_insert (k := .string ⟨#[119, 111, 114, 100]⟩) (v := setV (unionS [alnumS, (ofS [95])])) rfl rfl rfl Tryz.underlying137 Tryz.underlying9 (h.dep 0 15 rfl rfl) rfl (h.dep 45 48 rfl rfl) (by first | trivial | rfl) (by kernel_rfl)
    · exact rm_of rfl (rq_pure RelM.refl rfl (loadS_run rfl (h.frame 1 rfl) (H.call h.rel.below) (by repeat (first | (with_reducible exact At.zero) | apply At.succ)) row_Set))
    · exact rm_of rfl (rq_calln rfl rfl (enters_of Tryz.func17 (by kernel_rfl) rfl) (args2 ⟨rfl, rfl⟩) ((set_Range 97 102 (by omega) (by omega) W).mono fun _ _ h => ⟨h.1, RelM.of_below h.2⟩))
    · exact rm_of rfl (rq_calln rfl rfl (enters_of Tryz.func17 (by kernel_rfl) rfl) (args2 ⟨rfl, rfl⟩) ((set_Range 65 70 (by omega) (by omega) W).mono fun _ _ h => ⟨h.1, RelM.of_below h.2⟩))
    · exact rm_of rfl (rq_rs (fun w' => RelM.of_below) (fun _ _ h => h.1) (rs_build3 (D := False) rfl rfl (h.dep 47 49 rfl rfl) (h.dep 48 50 rfl rfl) (h.dep 49 51 rfl rfl) (fun h => h)))
    · exact rm_of rfl (rq_calln rfl rfl (enters_of Tryz.func16 (by kernel_rfl) rfl) (args1 rfl) ((set_Union _ [digitS, (rangeS 97 6), (rangeS 65 6)] ((ok3 digitS_ok (rangeS_ok _ _) (rangeS_ok _ _))) W (h.dep 50 52 rfl rfl)).mono fun _ _ h => ⟨h.1, RelM.of_below h.2⟩))
    · exact rm_insert (k := .string ⟨#[120, 100, 105, 103, 105, 116]⟩) (v := setV (unionS [digitS, (rangeS 97 6), (rangeS 65 6)])) rfl rfl rfl Tryz.underlying137 Tryz.underlying9 (h.dep 0 15 rfl rfl) rfl (h.dep 51 53 rfl rfl) (by first | trivial | rfl) (by kernel_rfl)
  case en =>
    intro vals w1 hrel hv hlk
    have hb1 := hrel.below
    have m0 : InMap strD namesF w.heap.size [] (vals 0) w1 := hv 0 (by omega)
    have l2 : vals 2 = vals 0 := hlk 2 _ _ 0 _ rfl rfl rfl rfl rfl rfl rfl
    have x2 := hv 2 (by omega); rw [l2] at x2
    have m1 := m0.both x2
    have l7 : vals 7 = vals 0 := hlk 7 _ _ 0 _ rfl rfl rfl rfl rfl rfl rfl
    have x7 := hv 7 (by omega); rw [l7] at x7
    have m2 := m1.both x7
    have l9 : vals 9 = vals 0 := hlk 9 _ _ 0 _ rfl rfl rfl rfl rfl rfl rfl
    have x9 := hv 9 (by omega); rw [l9] at x9
    have m3 := m2.both x9
    have l12 : vals 12 = vals 0 := hlk 12 _ _ 0 _ rfl rfl rfl rfl rfl rfl rfl
    have x12 := hv 12 (by omega); rw [l12] at x12
    have m4 := m3.both x12
    have l18 : vals 18 = vals 0 := hlk 18 _ _ 0 _ rfl rfl rfl rfl rfl rfl rfl
    have x18 := hv 18 (by omega); rw [l18] at x18
    have m5 := m4.both x18
    have l20 : vals 20 = vals 0 := hlk 20 _ _ 0 _ rfl rfl rfl rfl rfl rfl rfl
    have x20 := hv 20 (by omega); rw [l20] at x20
    have m6 := m5.both x20
    have l22 : vals 22 = vals 0 := hlk 22 _ _ 0 _ rfl rfl rfl rfl rfl rfl rfl
    have x22 := hv 22 (by omega); rw [l22] at x22
    have m7 := m6.both x22
    have l24 : vals 24 = vals 0 := hlk 24 _ _ 0 _ rfl rfl rfl rfl rfl rfl rfl
    have x24 := hv 24 (by omega); rw [l24] at x24
    have m8 := m7.both x24
    have l26 : vals 26 = vals 0 := hlk 26 _ _ 0 _ rfl rfl rfl rfl rfl rfl rfl
    have x26 := hv 26 (by omega); rw [l26] at x26
    have m9 := m8.both x26
    have l32 : vals 32 = vals 0 := hlk 32 _ _ 0 _ rfl rfl rfl rfl rfl rfl rfl
    have x32 := hv 32 (by omega); rw [l32] at x32
    have m10 := m9.both x32
    have l38 : vals 38 = vals 0 := hlk 38 _ _ 0 _ rfl rfl rfl rfl rfl rfl rfl
    have x38 := hv 38 (by omega); rw [l38] at x38
    have m11 := m10.both x38
    have l40 : vals 40 = vals 0 := hlk 40 _ _ 0 _ rfl rfl rfl rfl rfl rfl rfl
    have x40 := hv 40 (by omega); rw [l40] at x40
    have m12 := m11.both x40
    have l46 : vals 46 = vals 0 := hlk 46 _ _ 0 _ rfl rfl rfl rfl rfl rfl rfl
    have x46 := hv 46 (by omega); rw [l46] at x46
    have m13 := m12.both x46
    have l52 : vals 52 = vals 0 := hlk 52 _ _ 0 _ rfl rfl rfl rfl rfl rfl rfl
    have x52 := hv 52 (by omega); rw [l52] at x52
    have m14 := m13.both x52
    have hm := m14
    obtain ⟨mb, es, c, hv0, hn0, hmb, hsub, hks⟩ := hm
    simp only [List.append, List.take_succ_cons, List.take_zero, List.drop_succ_cons, List.drop_zero, List.drop_nil, List.take_nil, fillAll, Nat.zero_add, Nat.reduceAdd, put_no]
    rw [hv0]
    go_wp2
    go_ret
    refine ⟨⟨mb, es, c, rfl, Nat.le_trans H.below.size hn0, hmb, hsub, fun k v hF => hks k ?_⟩, H.below.trans (hrel.below.mono H.below.size)⟩
    exact names_all k v hF

theorem sorts_all (k v : Value) (h : sortsF k = some v) : k ∈ sortsL.map (fun p => Value.int .u8 p.1) := by
  unfold sortsF at h
  split at h
  · rename_i c
    cases hn : sortP c.toNat with
    | none => rw [hn] at h; cases h
    | some t =>
      unfold sortP at hn
      cases hf : sortsL.find? (fun p => c.toNat == p.1) with
      | none => rw [hf] at hn; cases hn
      | some p =>
        have h1 := List.find?_some hf
        have h2 := List.mem_of_find?_eq_some hf
        have h3 : c.toNat = p.1 := by simpa using h1
        refine List.mem_map.2 ⟨p, h2, ?_⟩
        have h4 : 0 < p.1 := by
          simp [sortsL] at h2
          rcases h2 with rfl | rfl | rfl | rfl | rfl | rfl <;> simp
        rw [show c = ((p.1 : Nat) : Int) from by omega]
  · cases h
def IsNames (n0 : Nat) (v : Value) (w : World) : Prop := ∃ mb es c, v = .map (some mb) ∧ n0 ≤ mb ∧ w.heap[mb]? = some (.map es c) ∧ MapOf strD namesF es
theorem stable_names (n0 : Nat) : Stable (IsNames n0) := fun _ _ _ ⟨mb, es, c, e, h0, h1, h2⟩ hb => ⟨mb, es, c, e, h0, (hb.block mb (Array.getElem?_eq_some_iff.1 h1).1).trans h1, h2⟩
theorem rs_names {ops : Array Oper} {o : Oper} {a : Act} {w : World} {ts : Array TypeId} {n0 : Nat} (hn : n0 ≤ w.heap.size) (hg : Region.wanted o (yielded ops a.tmps) = true)
    (hop : o.op = Op.call { callee := Callee.value (Operand.func 86), args := #[], argTypes := ts }) {D : Prop} (hD : ¬ D) : RStep Tryz.prog ops o a w (fun v w' => IsNames n0 v w' ∧ (D → w.heap.size ≤ blk v)) :=
  rs_calln' hg hop (enters_of Tryz.func86 (by kernel_rfl) rfl) args0 ((lx_names w).mono fun _ _ ⟨⟨mb, es, c, e, h0, h1, h2⟩, hb⟩ => ⟨_, e, hb, ⟨mb, es, c, rfl, Nat.le_trans hn h0, h1, h2⟩, fun h => (hD h).elim⟩)
theorem rs_lookname {ops : Array Oper} {o : Oper} {a : Act} {w : World} {x y : Operand} {k : Value} {s : Nat → Nat} {D : Prop} {n0 : Nat} (hg : Region.wanted o (yielded ops a.tmps) = true) (hop : o.op = Op.lookup 137 x y false)
    (hx : IsNames n0 (a.eval x) w) (hy : a.eval y = k) (hk : IsKey strD k) (hF : namesF k = some (setV s)) (hD : ¬ D) : RStep Tryz.prog ops o a w (fun v _ => v = setV s ∧ (D → w.heap.size ≤ blk v)) := by
  obtain ⟨mb, es, c, e, _, h1, h2⟩ := hx
  refine rs_pure hg ?_ hD
  simp only [execOp, hop, hy, e, Sem.run_bind, run_lookup Tryz.underlying137 Tryz.underlying9 h1 h2 hk hF, Result.andThen]
  rfl
theorem HoldG.gain {M : Nat → Prop} {w0 w w' : World} {l : List Res} (H : HoldG M w0 w l) (hb : Below w.heap.size w w') : ∀ (rs : List Res), (∀ r ∈ rs, r.Holds M w0.heap.size w' ∧ ∀ b, r.place = some b → w.heap.size ≤ b) → rs.Pairwise Apart → HoldG M w0 w' (l ++ rs) := by
  intro rs hrs hp
  have H' := H.call hb
  have hi : ∀ i r, (l ++ rs)[i]? = some r → (i < l.length ∧ l[i]? = some r) ∨ (l.length ≤ i ∧ rs[i - l.length]? = some r ∧ r ∈ rs) := by
    intro i r h
    rw [List.getElem?_append] at h
    split at h
    · exact .inl ⟨by assumption, h⟩
    · exact .inr ⟨by omega, h, List.mem_of_getElem? h⟩
  refine ⟨H'.keep, fun i r h => ?_, fun i j r s hij h1 h2 => ?_⟩
  · rcases hi i r h with ⟨_, h⟩ | ⟨_, _, h⟩
    · exact H'.all i r h
    · exact (hrs r h).1
  · rcases hi i r h1 with ⟨_, g1⟩ | ⟨l1, g1, m1⟩ <;> rcases hi j s h2 with ⟨_, g2⟩ | ⟨l2, g2, m2⟩
    · exact H'.apart i j r s hij g1 g2
    · intro b hb1 hb2
      have := ((H.all i r g1).lt b hb1).2
      have := (hrs s m2).2 b hb2; omega
    · intro b hb1 hb2
      have := ((H.all j s g2).lt b hb2).2
      have := (hrs r m1).2 b hb1; omega
    · intro b hb1 hb2
      have hne : i - l.length ≠ j - l.length := by omega
      rcases Nat.lt_or_gt_of_ne hne with hlt | hlt
      · have := List.pairwise_iff_getElem.1 hp _ _ (List.getElem?_eq_some_iff.1 g1).1 (List.getElem?_eq_some_iff.1 g2).1 hlt
        rw [(List.getElem?_eq_some_iff.1 g1).2, (List.getElem?_eq_some_iff.1 g2).2] at this
        exact this b hb1 hb2
      · have := List.pairwise_iff_getElem.1 hp _ _ (List.getElem?_eq_some_iff.1 g2).1 (List.getElem?_eq_some_iff.1 g1).1 hlt
        rw [(List.getElem?_eq_some_iff.1 g1).2, (List.getElem?_eq_some_iff.1 g2).2] at this
        exact this b hb2 hb1

theorem of_space (v : Value) (w : World) (h : Rd w w.heap.size v [.int .u8 9, .int .u8 10, .int .u8 12, .int .u8 13, .int .u8 32]) : Calls Tryz.prog 45 #[v] w fun e w' => e = .returned (setV spaceS) ∧ Below w.heap.size w w' := set_Of v [9, 10, 12, 13, 32] (by decide) w h

set_option maxRecDepth 100000 in
set_option maxHeartbeats 4000000 in
theorem lx_sorts (w0 : World) : Calls Tryz.prog 82 #[] w0 fun e w' => MapR (.int .u8) sortsF w0.heap.size e w' ∧ Below w0.heap.size w0 w' := by
  have H := Hold.start w0
  go_enter Tryz.func82, Tryz.ntmps82
  go_upto_region 1 with (first | fail)
  refine wp_region_late 9 3 [IsNames w0.heap.size, fun v _ => v = setV digitS, IsNames w0.heap.size, fun v _ => v = setV wordS, fun v w => Rd w w.heap.size v [.int .u8 9, .int .u8 10, .int .u8 12, .int .u8 13, .int .u8 32], fun v _ => v = setV spaceS, IsBox w0.heap.size emptyS, IsBox w0.heap.size emptyS, IsBox w0.heap.size emptyS] (fun i => decide (6 ≤ i)) (by kernel_rfl) (by kernel_rfl) (by kernel_rfl) ⟨stable_names _, stable_eq _, stable_names _, stable_eq _, stable_rd _, stable_eq _, stable_box _ _, stable_box _ _, stable_box _ _, trivial⟩ ?dl ?ob ?en ?en2
  case dl =>
    intro i hi hD v w hs
    have : 6 ≤ i := by simpa using hD
    rcases (show i = 6 ∨ i = 7 ∨ i = 8 by omega) with rfl | rfl | rfl <;> exact IsBox.lt hs
  case ob =>
    refine ⟨?_, ?_, ?_, ?_, ?_, ?_, ?_, ?_, ?_, trivial⟩ <;> intro A W h
    · exact rs_names h.below.size rfl rfl (by decide)
    · exact rs_lookname rfl rfl (h.dep 0 4 rfl rfl) rfl trivial (by kernel_rfl) (by decide)
    · exact rs_names h.below.size rfl rfl (by decide)
    · exact rs_lookname rfl rfl (h.dep 2 6 rfl rfl) rfl trivial (by kernel_rfl) (by decide)
    · exact rs_bytesD 5 [.int .u8 9, .int .u8 10, .int .u8 12, .int .u8 13, .int .u8 32] rfl (by decide) rfl rfl (fun W => by simp [go_sem]) (by decide)
    · exact rs_calln rfl rfl (enters_of Tryz.func45 (by kernel_rfl) rfl) (args1 rfl) (of_space _ W (h.dep 4 8 rfl rfl)) (by decide)
    · exact rs_alloc rfl rfl h.below.size
    · exact rs_alloc rfl rfl h.below.size
    · exact rs_alloc rfl rfl h.below.size
  case en =>
    intro vals w1 hb1 hv hD
    have v1 : vals 1 = setV digitS := hv 1 (by omega)
    have v3 : vals 3 = setV wordS := hv 3 (by omega)
    have v5 : vals 5 = setV spaceS := hv 5 (by omega)
    obtain ⟨b1, e1, n1, x1⟩ := hv 6 (by omega)
    obtain ⟨b2, e2, n2, x2⟩ := hv 7 (by omega)
    obtain ⟨b3, e3, n3, x3⟩ := hv 8 (by omega)
    have d12 : b1 ≠ b2 := fun e => hD 6 7 (by omega) (by omega) (by omega) rfl rfl (by rw [e1, e2, e])
    have d13 : b1 ≠ b3 := fun e => hD 6 8 (by omega) (by omega) (by omega) rfl rfl (by rw [e1, e3, e])
    have d23 : b2 ≠ b3 := fun e => hD 7 8 (by omega) (by omega) (by omega) rfl rfl (by rw [e2, e3, e])
    have H1 := H.gain hb1 [.blk b1 (setC emptyS) 37, .blk b2 (setC emptyS) 37, .blk b3 (setC emptyS) 37] (by
      intro r hr
      simp only [List.mem_cons, List.not_mem_nil, or_false] at hr
      rcases hr with rfl | rfl | rfl
      · exact ⟨⟨.inl n1, x1⟩, fun b e => by cases e; exact n1⟩
      · exact ⟨⟨.inl n2, x2⟩, fun b e => by cases e; exact n2⟩
      · exact ⟨⟨.inl n3, x3⟩, fun b e => by cases e; exact n3⟩) (by
      refine List.Pairwise.cons (fun r hr => ?_) (List.Pairwise.cons (fun r hr => ?_) (List.Pairwise.cons (fun r hr => by cases hr) .nil))
      · simp only [List.mem_cons, List.not_mem_nil, or_false] at hr
        rcases hr with rfl | rfl
        · intro b e f; cases e; cases f; exact d12 rfl
        · intro b e f; cases e; cases f; exact d13 rfl
      · simp only [List.mem_cons, List.not_mem_nil, or_false] at hr
        subst hr
        intro b e f; cases e; cases f; exact d23 rfl)
    simp only [List.nil_append] at H1
    replace H := H1; clear H1
    simp only [List.append, List.take_succ_cons, List.take_zero, List.drop_succ_cons, List.drop_zero, List.drop_nil, List.take_nil, fillAll, Nat.zero_add, Nat.reduceAdd, put_no]
    rw [v1, v3, v5, e1, e2, e3]
    clear hv v1 v3 v5 e1 e2 e3 x1 x2 x3 hD
    try simp only [put_lit, List.setIfInBounds_toArray, List.set_cons_succ, List.set_cons_zero]
    generalize vals 0 = q0; generalize vals 2 = q2; generalize vals 4 = q4
    go_upto_region 2 with (first | ((with_reducible refine gT ?_); (refine aS H ?_; clear H; intro w H; (try simp only [nrm, nrl, Value.cells] at H))))
    refine wp_region_specM (RelM (.int .u8) sortsF w.heap.size) RelM.refl RelM.trans RelM.drew 16 [InMap (.int .u8) sortsF w.heap.size [], fun v _ => v = setV digitS, InMap (.int .u8) sortsF w.heap.size [.int .u8 100], fun v _ => v = setV wordS, InMap (.int .u8) sortsF w.heap.size [.int .u8 119], fun v _ => v = setV spaceS, InMap (.int .u8) sortsF w.heap.size [.int .u8 115], fun v _ => v = setV digitS, fun v _ => v = setV (notS digitS), InMap (.int .u8) sortsF w.heap.size [.int .u8 68], fun v _ => v = setV wordS, fun v _ => v = setV (notS wordS), InMap (.int .u8) sortsF w.heap.size [.int .u8 87], fun v _ => v = setV spaceS, fun v _ => v = setV (notS spaceS), InMap (.int .u8) sortsF w.heap.size [.int .u8 83]] ⟨stable_inMap _, stableR_eq _, stable_inMap _, stableR_eq _, stable_inMap _, stableR_eq _, stable_inMap _, stableR_eq _, stableR_eq _, stable_inMap _, stableR_eq _, stableR_eq _, stable_inMap _, stableR_eq _, stableR_eq _, stable_inMap _, trivial⟩ (by kernel_rfl) (by kernel_rfl) (by kernel_rfl) ?ob ?en
    case ob =>
      refine ⟨?_, ?_, ?_, ?_, ?_, ?_, ?_, ?_, ?_, ?_, ?_, ?_, ?_, ?_, ?_, ?_, trivial⟩ <;> intro A W h
      · exact rm_of rfl (rm_makeMap rfl rfl h.rel.size)
      · exact rm_of rfl (rq_pure RelM.refl rfl (loadS_run rfl (h.frame 1 rfl) (H.call h.rel.below) (by repeat (first | (with_reducible exact At.zero) | apply At.succ)) row_Set))
      · exact rm_insert (k := .int .u8 100) (v := setV digitS) rfl rfl rfl Tryz.underlying135 Tryz.underlying5 (h.dep 0 10 rfl rfl) rfl (h.dep 1 11 rfl rfl) (by first | trivial | rfl) (by kernel_rfl)
      · exact rm_of rfl (rq_pure RelM.refl rfl (loadS_run rfl (h.frame 2 rfl) (H.call h.rel.below) (by repeat (first | (with_reducible exact At.zero) | apply At.succ)) row_Set))
      · exact rm_insert (k := .int .u8 119) (v := setV wordS) rfl rfl rfl Tryz.underlying135 Tryz.underlying5 (h.dep 0 10 rfl rfl) rfl (h.dep 3 12 rfl rfl) (by first | trivial | rfl) (by kernel_rfl)
      · exact rm_of rfl (rq_pure RelM.refl rfl (loadS_run rfl (h.frame 3 rfl) (H.call h.rel.below) (by repeat (first | (with_reducible exact At.zero) | apply At.succ)) row_Set))
      · exact rm_insert (k := .int .u8 115) (v := setV spaceS) rfl rfl rfl Tryz.underlying135 Tryz.underlying5 (h.dep 0 10 rfl rfl) rfl (h.dep 5 13 rfl rfl) (by first | trivial | rfl) (by kernel_rfl)
      · exact rm_of rfl (rq_pure RelM.refl rfl (loadS_run rfl (h.frame 1 rfl) (H.call h.rel.below) (by repeat (first | (with_reducible exact At.zero) | apply At.succ)) row_Set))
      · exact rm_of rfl (rq_calln rfl rfl (enters_of Tryz.func98 (by kernel_rfl) rfl) (args1 (h.dep 7 14 rfl rfl)) ((set_Not digitS digitS_ok W).mono fun _ _ h => ⟨h.1, RelM.of_below h.2⟩))
      · exact rm_insert (k := .int .u8 68) (v := setV (notS digitS)) rfl rfl rfl Tryz.underlying135 Tryz.underlying5 (h.dep 0 10 rfl rfl) rfl (h.dep 8 15 rfl rfl) (by first | trivial | rfl) (by kernel_rfl)
      · exact rm_of rfl (rq_pure RelM.refl rfl (loadS_run rfl (h.frame 2 rfl) (H.call h.rel.below) (by repeat (first | (with_reducible exact At.zero) | apply At.succ)) row_Set))
      · exact rm_of rfl (rq_calln rfl rfl (enters_of Tryz.func98 (by kernel_rfl) rfl) (args1 (h.dep 10 16 rfl rfl)) ((set_Not wordS wordS_ok W).mono fun _ _ h => ⟨h.1, RelM.of_below h.2⟩))
      · exact rm_insert (k := .int .u8 87) (v := setV (notS wordS)) rfl rfl rfl Tryz.underlying135 Tryz.underlying5 (h.dep 0 10 rfl rfl) rfl (h.dep 11 17 rfl rfl) (by first | trivial | rfl) (by kernel_rfl)
      · exact rm_of rfl (rq_pure RelM.refl rfl (loadS_run rfl (h.frame 3 rfl) (H.call h.rel.below) (by repeat (first | (with_reducible exact At.zero) | apply At.succ)) row_Set))
      · exact rm_of rfl (rq_calln rfl rfl (enters_of Tryz.func98 (by kernel_rfl) rfl) (args1 (h.dep 13 18 rfl rfl)) ((set_Not spaceS (ofS_ok _) W).mono fun _ _ h => ⟨h.1, RelM.of_below h.2⟩))
      · exact rm_insert (k := .int .u8 83) (v := setV (notS spaceS)) rfl rfl rfl Tryz.underlying135 Tryz.underlying5 (h.dep 0 10 rfl rfl) rfl (h.dep 14 19 rfl rfl) (by first | trivial | rfl) (by kernel_rfl)
    case en =>
      intro vals w1 hrel hv hlk
      have hb1 := hrel.below
      have m0 : InMap (.int .u8) sortsF w.heap.size [] (vals 0) w1 := hv 0 (by omega)
      have l2 : vals 2 = vals 0 := hlk 2 _ _ 0 _ rfl rfl rfl rfl rfl rfl rfl
      have x2 := hv 2 (by omega); rw [l2] at x2
      have m1 := m0.both x2
      have l4 : vals 4 = vals 0 := hlk 4 _ _ 0 _ rfl rfl rfl rfl rfl rfl rfl
      have x4 := hv 4 (by omega); rw [l4] at x4
      have m2 := m1.both x4
      have l6 : vals 6 = vals 0 := hlk 6 _ _ 0 _ rfl rfl rfl rfl rfl rfl rfl
      have x6 := hv 6 (by omega); rw [l6] at x6
      have m3 := m2.both x6
      have l9 : vals 9 = vals 0 := hlk 9 _ _ 0 _ rfl rfl rfl rfl rfl rfl rfl
      have x9 := hv 9 (by omega); rw [l9] at x9
      have m4 := m3.both x9
      have l12 : vals 12 = vals 0 := hlk 12 _ _ 0 _ rfl rfl rfl rfl rfl rfl rfl
      have x12 := hv 12 (by omega); rw [l12] at x12
      have m5 := m4.both x12
      have l15 : vals 15 = vals 0 := hlk 15 _ _ 0 _ rfl rfl rfl rfl rfl rfl rfl
      have x15 := hv 15 (by omega); rw [l15] at x15
      have m6 := m5.both x15
      have hm := m6
      obtain ⟨mb, es, c, hv0, hn0, hmb, hsub, hks⟩ := hm
      simp only [List.append, List.take_succ_cons, List.take_zero, List.drop_succ_cons, List.drop_zero, List.drop_nil, List.take_nil, fillAll, Nat.zero_add, Nat.reduceAdd, put_no]
      rw [hv0]
      go_wp2
      go_ret
      refine ⟨⟨mb, es, c, rfl, Nat.le_trans H.below.size hn0, hmb, hsub, fun k v hF => hks k ?_⟩, H.below.trans (hrel.below.mono H.below.size)⟩
      have := sorts_all k v hF
      simp only [sortsL, List.map_cons, List.map_nil, List.mem_cons, List.not_mem_nil, or_false] at this
      simp only [List.nil_append, List.cons_append, List.mem_cons, List.not_mem_nil, or_false]
      rcases this with rfl | rfl | rfl | rfl | rfl | rfl <;> simp
  case en2 =>
    intro vals w1 hb1 hv hD
    obtain ⟨mb, es, c, e0, n0, x0, hM⟩ := hv 2 (by omega) (by omega)
    have v1 : vals 1 = setV digitS := hv 1 (by omega) (by omega)
    have v5 : vals 5 = setV spaceS := hv 5 (by omega) (by omega)
    obtain ⟨b1, e1, n1, x1⟩ := hv 6 (by omega) (by omega)
    obtain ⟨b2, e2, n2, x2⟩ := hv 7 (by omega) (by omega)
    obtain ⟨b3, e3, n3, x3⟩ := hv 8 (by omega) (by omega)
    have d12 : b1 ≠ b2 := fun e => hD 6 7 (by omega) (by omega) (by omega) (by omega) (by omega) rfl rfl (by rw [e1, e2, e])
    have d13 : b1 ≠ b3 := fun e => hD 6 8 (by omega) (by omega) (by omega) (by omega) (by omega) rfl rfl (by rw [e1, e3, e])
    have d23 : b2 ≠ b3 := fun e => hD 7 8 (by omega) (by omega) (by omega) (by omega) (by omega) rfl rfl (by rw [e2, e3, e])
    have H1 := H.gain hb1 [.blk b1 (setC emptyS) 37, .blk b2 (setC emptyS) 37, .blk b3 (setC emptyS) 37, .mp mb es c] (by
      intro r hr
      simp only [List.mem_cons, List.not_mem_nil, or_false] at hr
      rcases hr with rfl | rfl | rfl | rfl
      · exact ⟨⟨.inl n1, x1⟩, fun b e => by cases e; exact n1⟩
      · exact ⟨⟨.inl n2, x2⟩, fun b e => by cases e; exact n2⟩
      · exact ⟨⟨.inl n3, x3⟩, fun b e => by cases e; exact n3⟩
      · exact ⟨⟨n0, x0⟩, fun b e => by cases e; exact n0⟩) (by
      have dm : ∀ g, SBox w1 g 37 emptyS → g ≠ mb := fun g hg e => by subst e; unfold SBox at hg; rw [x0] at hg; cases hg
      refine List.Pairwise.cons (fun r hr => ?_) (List.Pairwise.cons (fun r hr => ?_) (List.Pairwise.cons (fun r hr => ?_) (List.Pairwise.cons (fun r hr => by cases hr) .nil)))
      · simp only [List.mem_cons, List.not_mem_nil, or_false] at hr
        rcases hr with rfl | rfl | rfl
        · intro b e f; cases e; cases f; exact d12 rfl
        · intro b e f; cases e; cases f; exact d13 rfl
        · intro b e f; cases e; cases f; exact dm _ x1 rfl
      · simp only [List.mem_cons, List.not_mem_nil, or_false] at hr
        rcases hr with rfl | rfl
        · intro b e f; cases e; cases f; exact d23 rfl
        · intro b e f; cases e; cases f; exact dm _ x2 rfl
      · simp only [List.mem_cons, List.not_mem_nil, or_false] at hr
        subst hr
        intro b e f; cases e; cases f; exact dm _ x3 rfl)
    simp only [List.nil_append] at H1
    replace H := H1; clear H1
    simp only [List.append, List.take_succ_cons, List.take_zero, List.drop_succ_cons, List.drop_zero, List.drop_nil, List.take_nil, fillBut, lateL, List.cons_append, List.nil_append, Nat.reduceEqDiff, if_true, if_false, reduceCtorEq, Nat.zero_add, Nat.reduceAdd, put_no]
    rw [v1, v5, e0, e1, e2, e3]
    clear hv v1 v5 e0 e1 e2 e3 x1 x2 x3 hD
    try simp only [put_lit, List.setIfInBounds_toArray, List.set_cons_succ, List.set_cons_zero]
    generalize vals 0 = q0; generalize vals 4 = q4
    go_upto_region 2 with (first | ((with_reducible refine gT ?_); (refine aS H ?_; clear H; intro w H; (try simp only [nrm, nrl, Value.cells] at H))) | ((with_reducible show @wpList _ _ _ ({ dst := _, op := Op.lookup _ _ _ false, type := _, pos := _, after := _, guard := _ } :: _) _ _); refine own_lookup (by first | rfl | exact wanted_g rfl (yielded_of rfl (by first | rfl | (simp only [put_lit, put_no, List.setIfInBounds_toArray, List.set_cons_succ, List.set_cons_zero, ev_tmp, ev_const, ev_glob, ev_func, List.getD_cons_succ, List.getD_cons_zero]; rfl)))) _ _ _ rfl Tryz.underlying137 Tryz.underlying9 rfl (by first | (simp only [put_lit, put_no, List.setIfInBounds_toArray, List.set_cons_succ, List.set_cons_zero, ev_tmp, ev_const, ev_glob, ev_func, List.getD_cons_succ, List.getD_cons_zero]; done) | (simp only [put_lit, put_no, List.setIfInBounds_toArray, List.set_cons_succ, List.set_cons_zero, ev_tmp, ev_const, ev_glob, ev_func, List.getD_cons_succ, List.getD_cons_zero]; rfl)) H (by repeat (first | (with_reducible exact At.zero) | apply At.succ)) hM (by first | trivial | rfl) (show namesF _ = some (setV wordS) by kernel_rfl) ?_))
    refine wp_region_specM (RelM (.int .u8) sortsF w.heap.size) RelM.refl RelM.trans RelM.drew 16 [InMap (.int .u8) sortsF w.heap.size [], fun v _ => v = setV digitS, InMap (.int .u8) sortsF w.heap.size [.int .u8 100], fun v _ => v = setV wordS, InMap (.int .u8) sortsF w.heap.size [.int .u8 119], fun v _ => v = setV spaceS, InMap (.int .u8) sortsF w.heap.size [.int .u8 115], fun v _ => v = setV digitS, fun v _ => v = setV (notS digitS), InMap (.int .u8) sortsF w.heap.size [.int .u8 68], fun v _ => v = setV wordS, fun v _ => v = setV (notS wordS), InMap (.int .u8) sortsF w.heap.size [.int .u8 87], fun v _ => v = setV spaceS, fun v _ => v = setV (notS spaceS), InMap (.int .u8) sortsF w.heap.size [.int .u8 83]] ⟨stable_inMap _, stableR_eq _, stable_inMap _, stableR_eq _, stable_inMap _, stableR_eq _, stable_inMap _, stableR_eq _, stableR_eq _, stable_inMap _, stableR_eq _, stableR_eq _, stable_inMap _, stableR_eq _, stableR_eq _, stable_inMap _, trivial⟩ (by kernel_rfl) (by kernel_rfl) (by kernel_rfl) ?ob ?en
    case ob =>
      refine ⟨?_, ?_, ?_, ?_, ?_, ?_, ?_, ?_, ?_, ?_, ?_, ?_, ?_, ?_, ?_, ?_, trivial⟩ <;> intro A W h
      · exact rm_of rfl (rm_makeMap rfl rfl h.rel.size)
      · exact rm_of rfl (rq_pure RelM.refl rfl (loadS_run rfl (h.frame 1 rfl) (H.call h.rel.below) (by repeat (first | (with_reducible exact At.zero) | apply At.succ)) row_Set))
      · exact rm_insert (k := .int .u8 100) (v := setV digitS) rfl rfl rfl Tryz.underlying135 Tryz.underlying5 (h.dep 0 10 rfl rfl) rfl (h.dep 1 11 rfl rfl) (by first | trivial | rfl) (by kernel_rfl)
      · exact rm_of rfl (rq_pure RelM.refl rfl (loadS_run rfl (h.frame 2 rfl) (H.call h.rel.below) (by repeat (first | (with_reducible exact At.zero) | apply At.succ)) row_Set))
      · exact rm_insert (k := .int .u8 119) (v := setV wordS) rfl rfl rfl Tryz.underlying135 Tryz.underlying5 (h.dep 0 10 rfl rfl) rfl (h.dep 3 12 rfl rfl) (by first | trivial | rfl) (by kernel_rfl)
      · exact rm_of rfl (rq_pure RelM.refl rfl (loadS_run rfl (h.frame 3 rfl) (H.call h.rel.below) (by repeat (first | (with_reducible exact At.zero) | apply At.succ)) row_Set))
      · exact rm_insert (k := .int .u8 115) (v := setV spaceS) rfl rfl rfl Tryz.underlying135 Tryz.underlying5 (h.dep 0 10 rfl rfl) rfl (h.dep 5 13 rfl rfl) (by first | trivial | rfl) (by kernel_rfl)
      · exact rm_of rfl (rq_pure RelM.refl rfl (loadS_run rfl (h.frame 1 rfl) (H.call h.rel.below) (by repeat (first | (with_reducible exact At.zero) | apply At.succ)) row_Set))
      · exact rm_of rfl (rq_calln rfl rfl (enters_of Tryz.func98 (by kernel_rfl) rfl) (args1 (h.dep 7 14 rfl rfl)) ((set_Not digitS digitS_ok W).mono fun _ _ h => ⟨h.1, RelM.of_below h.2⟩))
      · exact rm_insert (k := .int .u8 68) (v := setV (notS digitS)) rfl rfl rfl Tryz.underlying135 Tryz.underlying5 (h.dep 0 10 rfl rfl) rfl (h.dep 8 15 rfl rfl) (by first | trivial | rfl) (by kernel_rfl)
      · exact rm_of rfl (rq_pure RelM.refl rfl (loadS_run rfl (h.frame 2 rfl) (H.call h.rel.below) (by repeat (first | (with_reducible exact At.zero) | apply At.succ)) row_Set))
      · exact rm_of rfl (rq_calln rfl rfl (enters_of Tryz.func98 (by kernel_rfl) rfl) (args1 (h.dep 10 16 rfl rfl)) ((set_Not wordS wordS_ok W).mono fun _ _ h => ⟨h.1, RelM.of_below h.2⟩))
      · exact rm_insert (k := .int .u8 87) (v := setV (notS wordS)) rfl rfl rfl Tryz.underlying135 Tryz.underlying5 (h.dep 0 10 rfl rfl) rfl (h.dep 11 17 rfl rfl) (by first | trivial | rfl) (by kernel_rfl)
      · exact rm_of rfl (rq_pure RelM.refl rfl (loadS_run rfl (h.frame 3 rfl) (H.call h.rel.below) (by repeat (first | (with_reducible exact At.zero) | apply At.succ)) row_Set))
      · exact rm_of rfl (rq_calln rfl rfl (enters_of Tryz.func98 (by kernel_rfl) rfl) (args1 (h.dep 13 18 rfl rfl)) ((set_Not spaceS (ofS_ok _) W).mono fun _ _ h => ⟨h.1, RelM.of_below h.2⟩))
      · exact rm_insert (k := .int .u8 83) (v := setV (notS spaceS)) rfl rfl rfl Tryz.underlying135 Tryz.underlying5 (h.dep 0 10 rfl rfl) rfl (h.dep 14 19 rfl rfl) (by first | trivial | rfl) (by kernel_rfl)
    case en =>
      intro vals w1 hrel hv hlk
      have hb1 := hrel.below
      have m0 : InMap (.int .u8) sortsF w.heap.size [] (vals 0) w1 := hv 0 (by omega)
      have l2 : vals 2 = vals 0 := hlk 2 _ _ 0 _ rfl rfl rfl rfl rfl rfl rfl
      have x2 := hv 2 (by omega); rw [l2] at x2
      have m1 := m0.both x2
      have l4 : vals 4 = vals 0 := hlk 4 _ _ 0 _ rfl rfl rfl rfl rfl rfl rfl
      have x4 := hv 4 (by omega); rw [l4] at x4
      have m2 := m1.both x4
      have l6 : vals 6 = vals 0 := hlk 6 _ _ 0 _ rfl rfl rfl rfl rfl rfl rfl
      have x6 := hv 6 (by omega); rw [l6] at x6
      have m3 := m2.both x6
      have l9 : vals 9 = vals 0 := hlk 9 _ _ 0 _ rfl rfl rfl rfl rfl rfl rfl
      have x9 := hv 9 (by omega); rw [l9] at x9
      have m4 := m3.both x9
      have l12 : vals 12 = vals 0 := hlk 12 _ _ 0 _ rfl rfl rfl rfl rfl rfl rfl
      have x12 := hv 12 (by omega); rw [l12] at x12
      have m5 := m4.both x12
      have l15 : vals 15 = vals 0 := hlk 15 _ _ 0 _ rfl rfl rfl rfl rfl rfl rfl
      have x15 := hv 15 (by omega); rw [l15] at x15
      have m6 := m5.both x15
      have hm := m6
      obtain ⟨mb, es, c, hv0, hn0, hmb, hsub, hks⟩ := hm
      simp only [List.append, List.take_succ_cons, List.take_zero, List.drop_succ_cons, List.drop_zero, List.drop_nil, List.take_nil, fillAll, Nat.zero_add, Nat.reduceAdd, put_no]
      rw [hv0]
      go_wp2
      go_ret
      refine ⟨⟨mb, es, c, rfl, Nat.le_trans H.below.size hn0, hmb, hsub, fun k v hF => hks k ?_⟩, H.below.trans (hrel.below.mono H.below.size)⟩
      have := sorts_all k v hF
      simp only [sortsL, List.map_cons, List.map_nil, List.mem_cons, List.not_mem_nil, or_false] at this
      simp only [List.nil_append, List.cons_append, List.mem_cons, List.not_mem_nil, or_false]
      rcases this with rfl | rfl | rfl | rfl | rfl | rfl <;> simp

end Go.Proofs.YtllmgmfihijejaaGreatDoor
/-
  A reader's calls in regions that draw their order.
-/
namespace Go.Proofs.YtllmgmfihijejaaGreatDoor
open Go.RowKit

def BelR (w w' : World) : Prop := Below w.heap.size w w'
theorem BelR.refl (w : World) : BelR w w := Below.refl _ w
theorem BelR.trans (u v w : World) (h : BelR u v) (k : BelR v w) : BelR u w := Below.trans h (k.mono h.size)
theorem BelR.drew (w : World) : BelR w { w with drawn := w.drawn + 1 } := ⟨rfl, rfl, rfl, Nat.le_refl _, fun _ _ => rfl⟩
def ButR (rb : Nat) (w w' : World) : Prop := KeepBut (· = rb) w.heap.size w w'
theorem BelR.but (rb : Nat) (u v : World) (h : BelR u v) : ButR rb u v := KeepBut.of_below h
theorem ButR.trans (rb : Nat) (u v w : World) (h : ButR rb u v) (k : ButR rb v w) : ButR rb u w := KeepBut.trans h (k.mono h.size (fun _ _ m => m))
def stR (rb : Nat) (U : TypeId) (F : Nat → Array Value) (r : Nat) (w : World) : Prop := w.heap[rb]? = some (.cells (F r) U (0, 0))
theorem stR_bel (rb : Nat) (U : TypeId) (F : Nat → Array Value) (r : Nat) (u v : World) (h : stR rb U F r u) (k : BelR u v) : stR rb U F r v := (k.block rb (Array.getElem?_eq_some_iff.1 h).1).trans h

section
variable {P : Program} {ops : Array Oper} {o : Oper} {a : Act} {w : World} {Q : Exit → Act → World → Prop} {S : Value → World → Prop}
theorem rx_reads {rb : Nat} {L : Str} {U : TypeId} {f : FuncId} {xs : Array Operand} {ts : Array TypeId} {vs : Array Value} {v : Value} {j : Nat} (hg : Region.wanted o (yielded ops a.tmps) = true)
    (hop : o.op = Op.call { callee := Callee.value (Operand.func f), args := xs, argTypes := ts }) (hf : ∀ args w, (callFunc f args).run P w = .ok (.enter f args) w) (hx : xs.map a.eval = vs)
    (hc : Calls P f vs w (ReadsV rb L U w (.ok (v, j)))) : QStepX P ops (ButR rb) Q o a w (fun v' w' => v' = v ∧ w'.heap[rb]? = some (.cells (rdC L j) U (0, 0))) := by
  unfold QStepX; rw [if_pos hg]
  unfold Oper.wp
  have hr : (execOp a.eval o).run P w = .ok (.enter f vs) w := by
    simp only [execOp, hop]
    simp [resolve, hx]
    rw [show a.eval (Operand.func f) = .func (.func f) #[] #[] from rfl]
    simp [go_sem]
    exact hf _ _
  rw [hr]
  simp only [Oper.upon]
  refine hc.mono ?_
  rintro e w' ⟨hk, rfl, hr'⟩
  exact ⟨v, rfl, hk, rfl, hr'⟩
theorem rx_throws {rb n : Nat} {L : Str} {U : TypeId} {f : FuncId} {xs : Array Operand} {ts : Array TypeId} {vs : Array Value} (hg : Region.wanted o (yielded ops a.tmps) = true)
    (hop : o.op = Op.call { callee := Callee.value (Operand.func f), args := xs, argTypes := ts }) (hf : ∀ args w, (callFunc f args).run P w = .ok (.enter f args) w) (hx : xs.map a.eval = vs)
    (hc : Calls P f vs w (ReadsV rb L U w (.error n))) (hQ : ∀ w', KeepBut (· = rb) w.heap.size w w' → Q (.panic (thrown n)) a w') : QStepX P ops (ButR rb) Q o a w S := by
  unfold QStepX; rw [if_pos hg]
  unfold Oper.wp
  have hr : (execOp a.eval o).run P w = .ok (.enter f vs) w := by
    simp only [execOp, hop]
    simp [resolve, hx]
    rw [show a.eval (Operand.func f) = .func (.func f) #[] #[] from rfl]
    simp [go_sem]
    exact hf _ _
  rw [hr]
  simp only [Oper.upon]
  refine hc.mono ?_
  rintro e w' ⟨hk, rfl⟩
  exact hQ w' hk
end
/-- a row of sets in memory of the call's own -/
def RdB (rb : Nat) (L : List (Nat → Nat)) (v : Value) (w : World) : Prop := ∃ g, v = .slice (some ⟨g, 0, none⟩) L.length L.length ∧ rb < g ∧ w.heap[g]? = some (.cells (rowC L).toArray 37 (0, 0))
theorem stable_rdb (rb : Nat) (L : List (Nat → Nat)) : StableR (ButR rb) (RdB rb L) := by
  rintro v w w' ⟨g, rfl, h1, h2⟩ hk
  exact ⟨g, rfl, h1, (hk.old g (Array.getElem?_eq_some_iff.1 h2).1 (by omega)).trans h2⟩
theorem RdB.rds {rb : Nat} {L : List (Nat → Nat)} {v : Value} {w : World} (h : RdB rb L v w) (hl : L.length ≤ maxLen) : RdS w w.heap.size v L := by
  obtain ⟨g, rfl, _, h2⟩ := h
  refine .inr ⟨g, 0, L.length, rfl, (Array.getElem?_eq_some_iff.1 h2).1, Nat.le_refl _, hl, fun j hj k hk => ?_⟩
  rw [cell_of_row w g _ _ _ _ h2]
  simp only [Nat.zero_add, List.getElem?_toArray]
  exact rowC_get hj hk
theorem rq_build2B {ops : Array Oper} {o : Oper} {a : Act} {w : World} {x y : Operand} {s t : Nat → Nat} {rb : Nat} (hrb : rb < w.heap.size) (hg : Region.wanted o (yielded ops a.tmps) = true)
    (hop : o.op = Op.buildSlice 83 2 #[(0, x), (1, y)]) (hx : a.eval x = setV s) (hy : a.eval y = setV t) : QStep Tryz.prog ops BelR o a w (RdB rb [s, t]) := by
  unfold QStep; rw [if_pos hg]
  unfold Oper.wp
  have hr : (execOp a.eval o).run Tryz.prog w = .ok (.value (.slice (some ⟨w.heap.size, 0, none⟩) 2 2)) (w.alloc (.cells (rowC [s, t]).toArray 37)) := by
    simp only [execOp, hop]
    simp only [List.map_toArray, List.map_cons, List.map_nil, hx, hy]
    unfold setV
    simp [go_sem]
    rfl
  rw [hr]
  exact ⟨_, rfl, (Below.refl _ w).alloc (Nat.le_refl _) _, w.heap.size, rfl, hrb, World.alloc_heap_new w _⟩
/-- a member that is not the reader stays -/
theorem HoldG.other {M : Nat → Prop} {w0 W w : World} {l : List Res} (H : HoldG M w0 W l) {rb : Nat} (hk : ButR rb W w) {i b : Nat} {cs : Array Value} {T : TypeId} (hi : At l i (.blk b cs T)) (hb : b ≠ rb) : w.heap[b]? = some (.cells cs T (0, 0)) :=
  (hk.old b (Array.getElem?_eq_some_iff.1 (H.blk hi).2).1 hb).trans (H.blk hi).2
theorem HoldG.ne {M : Nat → Prop} {w0 W : World} {l : List Res} (H : HoldG M w0 W l) {i j b c : Nat} {cs ds : Array Value} {T U : TypeId} (hi : At l i (.blk b cs T)) (hj : At l j (.blk c ds U)) (hij : i ≠ j) : b ≠ c :=
  fun e => H.apart i j _ _ hij hi.get hj.get b rfl (by rw [e]; rfl)
theorem loadW_run {P : Program} {o : Oper} {a : Act} {w : World} {T : TypeId} {x : Operand} (ho : o.op = .load T x) {b k n : Nat} (hx : a.eval x = .pointer (some ⟨b, k, none⟩)) {cs vs : Array Value} {U : TypeId} (hb : w.heap[b]? = some (.cells cs U (0, 0)))
    (hT : rowB P T n = true) (hn : vs.size = n) (hv : ∀ j, j < n → cs[k + j]? = vs[j]?) : (execOp a.eval o).run P w = .ok (.value (.agg vs)) w := by
  obtain ⟨d, hu, hd, hs⟩ := rowB_parts hT
  have := run_loadVar_mid (P := P) w b k T vs.toList d (fun j v hj => by
    have hlt : j < n := by have := (List.getElem?_eq_some_iff.1 hj).1; simp at this; omega
    rw [cell_of_row w b _ _ _ _ hb, hv j hlt]; simpa using hj) hu hd (by rw [hs]; simp [hn])
  unfold execOp
  simp only [ho, hx, Instr.loadAt, Instr.sureAddr, Sem.run_bind, Sem.run_pure, Result.andThen_ok]
  rw [show (loadVar T ⟨b, k, none⟩).run P w = .ok (.agg vs) w by simpa using this]
  rfl
theorem readsV_err {rb n : Nat} {L : Str} {U : TypeId} {w w' : World} {r : Except Nat (Value × Nat)} (h : r = .error n) (hk : KeepBut (· = rb) w.heap.size w w') : ReadsV rb L U w r (.panicked (thrown n)) w' := by subst h; exact ⟨hk, rfl⟩
theorem readsV_ok {rb j : Nat} {L : Str} {U : TypeId} {w w' : World} {v : Value} {r : Except Nat (Value × Nat)} (h : r = .ok (v, j)) (hk : KeepBut (· = rb) w.heap.size w w') (hc : w'.heap[rb]? = some (.cells (rdC L j) U (0, 0))) : ReadsV rb L U w r (.returned v) w' := by subst h; exact ⟨hk, rfl, hc⟩
theorem HoldG.keepR {rb : Nat} {w0 W w : World} {l : List Res} (H : HoldG (· = rb) w0 W l) (h : ButR rb W w) : KeepBut (· = rb) w0.heap.size w0 w := H.keep.trans (h.mono H.keep.size (fun _ _ m => m))
end Go.Proofs.YtllmgmfihijejaaGreatDoor
