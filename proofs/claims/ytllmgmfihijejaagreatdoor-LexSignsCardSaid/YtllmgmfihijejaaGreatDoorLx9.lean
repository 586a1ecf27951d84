/-
  Laws of walks, and walks: LexRep LexWord LexIter2 LexWordsA LexWords LexTells LexAwake LexStrs.
-/
import Derived.Test.YtllmgmfihijejaaGreatDoorLx8
import Derived.Test.YtllmgmfihijejaaGreatDoorLx3
import Derived.Recover
import Derived.RecoverIn
import Derived.Laws.Pointers
import Derived.Test.YtllmgmfihijejaaGreatDoorLx6
set_option linter.unusedVariables false
set_option linter.unusedSimpArgs false
/-
  The walks of package lex: repeats' words.
-/
namespace Go.Proofs.YtllmgmfihijejaaGreatDoor
open Go.RowKit Go.Shelf Go.MapKept
attribute [local go_sem] Oper.semAt_some
set_option linter.unusedSimpArgs false

set_option maxRecDepth 100000 in
set_option maxHeartbeats 4000000 in
theorem rd_repeat (rb : Nat) (L : Str) (i : Nat) (lo hi : Int) (k : Nat) (U : TypeId) (hL : L.length ≤ 2000) (hk : k ≤ L.length) (hlo : 0 ≤ lo ∧ lo ≤ 101) (hhi : -1 ≤ hi ∧ hi ≤ 101) (w0 : World) (hr : w0.heap[rb]? = some (.cells (rdC L k) U (0, 0))) :
    Calls Tryz.prog 43 #[ptrV rb, wordV { kind := 0, place := i }, .int .i64 lo, .int .i64 hi] w0 (ReadsV rb L U w0 (wordR (repeatP L i lo hi k))) := by
  have H := HoldG.startB hr
  have E : repeatP L i lo hi k = repeatP L i lo hi k := rfl
  conv at E => rhs; unfold repeatP
  obtain ⟨m, hm⟩ : ∃ m : Int, max lo hi = m := ⟨_, rfl⟩
  by_cases h1 : max lo hi ≤ 100
  · have d1 : decide (max lo hi ≤ 100) = true := by simpa using h1
    cases hs : atP L k [63] with
    | true =>
      have SK := fun w h => skip_of rb (by simp) U hL hk hs w h
      simp only [if_true, List.length_cons, List.length_nil, Nat.zero_add] at SK
      by_cases h2 : hi < 0
      · have d2 : decide (hi < 0) = true := by simpa using h2
        rw [if_neg (by omega), hs, if_pos rfl] at E
        have E3 := Lib.hid (show wordR (repeatP L i lo hi k) = .ok (wordV { kind := 11, place := i, lo := lo, hi := hi, lazy := true }, k + 1) by rw [E]; rfl)
        clear E hs hm h1 h2
        go_enter Tryz.func43, Tryz.ntmps43
        go_wp2_with (first | ((first | ((with_reducible refine kgA 5 ?_); refine kA 5 H ?_) | ((with_reducible refine kgX 5 ?_); (first | refine kS 5 H ?_ | refine kB 5 H ?_))); clear H; intro b5 w H; (try simp only [nrm, nrl, Value.cells] at H)) | ((first | ((with_reducible refine kgA 8 ?_); refine kA 8 H ?_) | ((with_reducible refine kgX 8 ?_); (first | refine kS 8 H ?_ | refine kB 8 H ?_))); clear H; intro b8 w H; (try simp only [nrm, nrl, Value.cells] at H)) | (first | ((with_reducible refine gT ?_); ((first | refine aO H ?_ | refine aT H ?_); clear H; intro w H; (try simp only [nrm, nrl, Value.cells] at H))) | ((with_reducible refine gL ?_); refine aD H ?_)) | (go_at_call 60; (with_reducible refine ch (must_yes6 _) H ?_); clear H; intro w H) | (go_at_call 40; (with_reducible refine (SK _ (H.blk .zero).2).mono ?_); rintro e w ⟨hk, rfl, hr⟩; replace H := H.callBut (by repeat (first | (with_reducible exact At.zero) | apply At.succ)) hk hr; clear hk hr; (try simp only [nrm, nrl, Value.cells] at H)))
        (refine ret_c Tryz.results43 rfl H (by repeat (first | (with_reducible exact At.zero) | apply At.succ)) (by first | (with_reducible exact row_LWord) | (with_reducible exact row_Set)) (by rfl) rfl ?_)
        exact readsV_ok E3.out H.keep (H.blk .zero).2
      · have d2 : decide (hi < 0) = false := by simp; omega
        by_cases h3 : lo ≤ hi
        · have d3 : decide (lo ≤ hi) = true := by simpa using h3
          rw [if_neg (by omega), hs, if_pos rfl] at E
          have E3 := Lib.hid (show wordR (repeatP L i lo hi k) = .ok (wordV { kind := 11, place := i, lo := lo, hi := hi, lazy := true }, k + 1) by rw [E]; rfl)
          clear E hs hm h1 h2 h3
          go_enter Tryz.func43, Tryz.ntmps43
          go_wp2_with (first | ((first | ((with_reducible refine kgA 5 ?_); refine kA 5 H ?_) | ((with_reducible refine kgX 5 ?_); (first | refine kS 5 H ?_ | refine kB 5 H ?_))); clear H; intro b5 w H; (try simp only [nrm, nrl, Value.cells] at H)) | ((first | ((with_reducible refine kgA 8 ?_); refine kA 8 H ?_) | ((with_reducible refine kgX 8 ?_); (first | refine kS 8 H ?_ | refine kB 8 H ?_))); clear H; intro b8 w H; (try simp only [nrm, nrl, Value.cells] at H)) | (first | ((with_reducible refine gT ?_); ((first | refine aO H ?_ | refine aT H ?_); clear H; intro w H; (try simp only [nrm, nrl, Value.cells] at H))) | ((with_reducible refine gL ?_); refine aD H ?_)) | (go_at_call 60; (with_reducible refine ch (must_yes6 _) H ?_); clear H; intro w H) | (go_at_call 40; (with_reducible refine (SK _ (H.blk .zero).2).mono ?_); rintro e w ⟨hk, rfl, hr⟩; replace H := H.callBut (by repeat (first | (with_reducible exact At.zero) | apply At.succ)) hk hr; clear hk hr; (try simp only [nrm, nrl, Value.cells] at H)))
          (refine ret_c Tryz.results43 rfl H (by repeat (first | (with_reducible exact At.zero) | apply At.succ)) (by first | (with_reducible exact row_LWord) | (with_reducible exact row_Set)) (by rfl) rfl ?_)
          exact readsV_ok E3.out H.keep (H.blk .zero).2
        · have d3 : decide (lo ≤ hi) = false := by simp; omega
          rw [if_pos (by omega)] at E
          have E3 := Lib.hid (show wordR (repeatP L i lo hi k) = .error 6 by rw [E]; rfl)
          clear E hs hm h1 h2 h3
          go_enter Tryz.func43, Tryz.ntmps43
          go_wp2_with (first | ((first | ((with_reducible refine kgA 5 ?_); refine kA 5 H ?_) | ((with_reducible refine kgX 5 ?_); (first | refine kS 5 H ?_ | refine kB 5 H ?_))); clear H; intro b5 w H; (try simp only [nrm, nrl, Value.cells] at H)) | ((first | ((with_reducible refine kgA 8 ?_); refine kA 8 H ?_) | ((with_reducible refine kgX 8 ?_); (first | refine kS 8 H ?_ | refine kB 8 H ?_))); clear H; intro b8 w H; (try simp only [nrm, nrl, Value.cells] at H)) | fail | (go_at_call 60; (with_reducible refine ch (must_no6 _) H ?_); clear H; intro w H))
          exact ⟨rfl, readsV_err E3.out H.keep⟩
    | false =>
      have SK := fun w h => skip_of rb (by simp) U hL hk hs w h
      simp only [Bool.false_eq_true, if_false] at SK
      by_cases h2 : hi < 0
      · have d2 : decide (hi < 0) = true := by simpa using h2
        rw [if_neg (by omega), hs, if_neg (by simp)] at E
        have E3 := Lib.hid (show wordR (repeatP L i lo hi k) = .ok (wordV { kind := 11, place := i, lo := lo, hi := hi }, k) by rw [E]; rfl)
        clear E hs hm h1 h2
        go_enter Tryz.func43, Tryz.ntmps43
        go_wp2_with (first | ((first | ((with_reducible refine kgA 5 ?_); refine kA 5 H ?_) | ((with_reducible refine kgX 5 ?_); (first | refine kS 5 H ?_ | refine kB 5 H ?_))); clear H; intro b5 w H; (try simp only [nrm, nrl, Value.cells] at H)) | ((first | ((with_reducible refine kgA 8 ?_); refine kA 8 H ?_) | ((with_reducible refine kgX 8 ?_); (first | refine kS 8 H ?_ | refine kB 8 H ?_))); clear H; intro b8 w H; (try simp only [nrm, nrl, Value.cells] at H)) | (first | ((with_reducible refine gT ?_); ((first | refine aO H ?_ | refine aT H ?_); clear H; intro w H; (try simp only [nrm, nrl, Value.cells] at H))) | ((with_reducible refine gL ?_); refine aD H ?_)) | (go_at_call 60; (with_reducible refine ch (must_yes6 _) H ?_); clear H; intro w H) | (go_at_call 40; (with_reducible refine (SK _ (H.blk .zero).2).mono ?_); rintro e w ⟨hk, rfl, hr⟩; replace H := H.callBut (by repeat (first | (with_reducible exact At.zero) | apply At.succ)) hk hr; clear hk hr; (try simp only [nrm, nrl, Value.cells] at H)))
        (refine ret_c Tryz.results43 rfl H (by repeat (first | (with_reducible exact At.zero) | apply At.succ)) (by first | (with_reducible exact row_LWord) | (with_reducible exact row_Set)) (by rfl) rfl ?_)
        exact readsV_ok E3.out H.keep (H.blk .zero).2
      · have d2 : decide (hi < 0) = false := by simp; omega
        by_cases h3 : lo ≤ hi
        · have d3 : decide (lo ≤ hi) = true := by simpa using h3
          rw [if_neg (by omega), hs, if_neg (by simp)] at E
          have E3 := Lib.hid (show wordR (repeatP L i lo hi k) = .ok (wordV { kind := 11, place := i, lo := lo, hi := hi }, k) by rw [E]; rfl)
          clear E hs hm h1 h2 h3
          go_enter Tryz.func43, Tryz.ntmps43
          go_wp2_with (first | ((first | ((with_reducible refine kgA 5 ?_); refine kA 5 H ?_) | ((with_reducible refine kgX 5 ?_); (first | refine kS 5 H ?_ | refine kB 5 H ?_))); clear H; intro b5 w H; (try simp only [nrm, nrl, Value.cells] at H)) | ((first | ((with_reducible refine kgA 8 ?_); refine kA 8 H ?_) | ((with_reducible refine kgX 8 ?_); (first | refine kS 8 H ?_ | refine kB 8 H ?_))); clear H; intro b8 w H; (try simp only [nrm, nrl, Value.cells] at H)) | (first | ((with_reducible refine gT ?_); ((first | refine aO H ?_ | refine aT H ?_); clear H; intro w H; (try simp only [nrm, nrl, Value.cells] at H))) | ((with_reducible refine gL ?_); refine aD H ?_)) | (go_at_call 60; (with_reducible refine ch (must_yes6 _) H ?_); clear H; intro w H) | (go_at_call 40; (with_reducible refine (SK _ (H.blk .zero).2).mono ?_); rintro e w ⟨hk, rfl, hr⟩; replace H := H.callBut (by repeat (first | (with_reducible exact At.zero) | apply At.succ)) hk hr; clear hk hr; (try simp only [nrm, nrl, Value.cells] at H)))
          (refine ret_c Tryz.results43 rfl H (by repeat (first | (with_reducible exact At.zero) | apply At.succ)) (by first | (with_reducible exact row_LWord) | (with_reducible exact row_Set)) (by rfl) rfl ?_)
          exact readsV_ok E3.out H.keep (H.blk .zero).2
        · have d3 : decide (lo ≤ hi) = false := by simp; omega
          rw [if_pos (by omega)] at E
          have E3 := Lib.hid (show wordR (repeatP L i lo hi k) = .error 6 by rw [E]; rfl)
          clear E hs hm h1 h2 h3
          go_enter Tryz.func43, Tryz.ntmps43
          go_wp2_with (first | ((first | ((with_reducible refine kgA 5 ?_); refine kA 5 H ?_) | ((with_reducible refine kgX 5 ?_); (first | refine kS 5 H ?_ | refine kB 5 H ?_))); clear H; intro b5 w H; (try simp only [nrm, nrl, Value.cells] at H)) | ((first | ((with_reducible refine kgA 8 ?_); refine kA 8 H ?_) | ((with_reducible refine kgX 8 ?_); (first | refine kS 8 H ?_ | refine kB 8 H ?_))); clear H; intro b8 w H; (try simp only [nrm, nrl, Value.cells] at H)) | fail | (go_at_call 60; (with_reducible refine ch (must_no6 _) H ?_); clear H; intro w H))
          exact ⟨rfl, readsV_err E3.out H.keep⟩
  · have d1 : decide (max lo hi ≤ 100) = false := by simp; omega
    rw [if_pos (by omega)] at E
    have E3 := Lib.hid (show wordR (repeatP L i lo hi k) = .error 6 by rw [E]; rfl)
    clear E hm h1
    go_enter Tryz.func43, Tryz.ntmps43
    go_wp2_with (first | ((first | ((with_reducible refine kgA 5 ?_); refine kA 5 H ?_) | ((with_reducible refine kgX 5 ?_); (first | refine kS 5 H ?_ | refine kB 5 H ?_))); clear H; intro b5 w H; (try simp only [nrm, nrl, Value.cells] at H)) | ((first | ((with_reducible refine kgA 8 ?_); refine kA 8 H ?_) | ((with_reducible refine kgX 8 ?_); (first | refine kS 8 H ?_ | refine kB 8 H ?_))); clear H; intro b8 w H; (try simp only [nrm, nrl, Value.cells] at H)) | fail | (go_at_call 60; (with_reducible refine ch (must_no6 _) H ?_); clear H; intro w H))
    exact ⟨rfl, readsV_err E3.out H.keep⟩
end Go.Proofs.YtllmgmfihijejaaGreatDoor
/-
  The walks of package lex: words.
-/
namespace Go.Proofs.YtllmgmfihijejaaGreatDoor
open Go.RowKit Go.Shelf Go.MapKept
open Go.ChangeMaps (setBlock)
attribute [local go_sem] Oper.semAt_some
set_option linter.unusedSimpArgs false


def signsL : List (Nat × Nat) := [(46, 2), (94, 3), (36, 4), (41, 9), (124, 10)]
def signsF : Value → Option Value
  | .int .u8 c => (signP c.toNat).map (fun k : Nat => Value.int .i64 (k : Int))
  | _ => none
def signsE : Array MapEntry := #[{ key := .int .u8 46, val := .int .i64 2, born := 0 }, { key := .int .u8 94, val := .int .i64 3, born := 1 }, { key := .int .u8 36, val := .int .i64 4, born := 2 }, { key := .int .u8 41, val := .int .i64 9, born := 3 }, { key := .int .u8 124, val := .int .i64 10, born := 4 }]
theorem signs_map : MapOf (.int .u8) signsF signsE := by
  constructor
  · intro e he
    simp [signsE] at he
    rcases he with rfl | rfl | rfl | rfl | rfl <;> exact ⟨rfl, rfl⟩
  · intro k v hF
    unfold signsF at hF
    split at hF
    · rename_i c
      have hcs : c.toNat = 46 ∨ c.toNat = 94 ∨ c.toNat = 36 ∨ c.toNat = 41 ∨ c.toNat = 124 := by
        unfold signP at hF
        split at hF
        · omega
        · split at hF
          · omega
          · split at hF
            · omega
            · split at hF
              · omega
              · split at hF
                · omega
                · cases hF
      have hc : c = 46 ∨ c = 94 ∨ c = 36 ∨ c = 41 ∨ c = 124 := by omega
      rcases hc with rfl | rfl | rfl | rfl | rfl
      · exact ⟨signsE[0], by simp [signsE], rfl⟩
      · exact ⟨signsE[1], by simp [signsE], rfl⟩
      · exact ⟨signsE[2], by simp [signsE], rfl⟩
      · exact ⟨signsE[3], by simp [signsE], rfl⟩
      · exact ⟨signsE[4], by simp [signsE], rfl⟩
    · cases hF
theorem signsF_at (c : Nat) : signsF (.int .u8 c) = (signP c).map (fun k : Nat => Value.int .i64 (k : Int)) := by simp [signsF]
theorem zero_Kind (W : World) : (zeroValue 34).run Tryz.prog W = .ok (.int .i64 0) W := by kernel_rfl
set_option maxRecDepth 100000 in
set_option maxHeartbeats 1000000 in
theorem lx_signs (w0 : World) : Calls Tryz.prog 44 #[] w0 fun e w' => MapR (.int .u8) signsF w0.heap.size e w' ∧ Below w0.heap.size w0 w' := by
  have H := Hold.start w0
  go_enter Tryz.func44, Tryz.ntmps44
  go_wp2_with (first | fail | ((with_reducible show @wpList _ _ _ ({ dst := _, op := Op.makeMap _ _, type := _, pos := _, after := _, guard := _ } :: _) _ _); refine own_makeMap (by first | rfl | exact wanted_g rfl (yielded_of rfl (by first | rfl | (simp only [put_lit, put_no, List.setIfInBounds_toArray, List.set_cons_succ, List.set_cons_zero, ev_tmp, ev_const, ev_glob, ev_func, List.getD_cons_succ, List.getD_cons_zero]; rfl)))) _ rfl H ?_; clear H; intro mb w H; (try simp only [nrm, nrl, Value.cells] at H)) | ((with_reducible show @wpList _ _ _ ({ dst := _, op := Op.insert _ _ _ _, type := _, pos := _, after := _, guard := _ } :: _) _ _); refine own_insert (by first | rfl | exact wanted_g rfl (yielded_of rfl (by first | rfl | (simp only [put_lit, put_no, List.setIfInBounds_toArray, List.set_cons_succ, List.set_cons_zero, ev_tmp, ev_const, ev_glob, ev_func, List.getD_cons_succ, List.getD_cons_zero]; rfl)))) _ _ _ _ rfl Tryz.underlying92 Tryz.underlying5 rfl rfl rfl H (by repeat (first | (with_reducible exact At.zero) | apply At.succ)) rfl (by kernel_rfl) ?_; clear H; intro w H; (try simp only [nrm, nrl, Value.cells] at H)))
  go_ret
  replace H : Hold w0 w [.mp mb signsE 5] := H
  exact ⟨⟨mb, signsE, 5, rfl, (H.mp .zero).1, (H.mp .zero).2, signs_map⟩, H.below⟩

theorem run_word0 (x : Int) (W : World) : (Instr.build 42 #[(1, .int .i64 x)]).run Tryz.prog W = .ok (.agg #[.int .i64 0, .int .i64 x, .int .u64 0, .int .u64 0, .int .u64 0, .int .u64 0, .bool false, .int .i64 0, .int .i64 0, .int .i64 0, .bool false, .bool false, .bool false, .bool false, .bool false, .bool false, .bool false]) W := by
  simp [go_sem]
theorem own_word0 {ops : Array Oper} {rest : List Oper} {o : Oper} {a : Act} {w : World} {Q : Exit → Act → World → Prop} (hg : Region.wanted o (yielded ops a.tmps) = true) (x : Operand) (ho : o.op = .build 42 #[(1, x)]) {i : Nat} (hx : a.eval x = .int .i64 i)
    (h : wpList Tryz.prog ops Q rest (a.put o.dst (wordV { kind := 0, place := i })) w) : wpList Tryz.prog ops Q (o :: rest) a w :=
  own_pure hg (by simp only [execOp, ho, List.map_toArray, List.map_cons, List.map_nil, hx, Sem.run_bind, run_word0]; rfl) h
theorem rd_slash_of (rb : Nat) (L : Str) (i : Nat) (U : TypeId) (hL : L.length ≤ 2000) (hi : i + 1 ≤ L.length) (h92 : byt L i = 92) {r : Except Nat (Value × Nat)} (hx : wordR (orErr (slashP L i)) = r) (w0 : World) (hr : w0.heap[rb]? = some (.cells (rdC L (i + 1)) U (0, 0))) :
    Calls Tryz.prog 38 #[ptrV rb, wordV { kind := 0, place := i }] w0 (ReadsV rb L U w0 r) := hx ▸ rd_slash rb L i U hL hi h92 w0 hr
theorem rd_class_of (rb : Nat) (L : Str) (i : Nat) (U : TypeId) (hL : L.length ≤ 2000) (hi : i < L.length) (hrb : rb ≠ 0) {r : Except Nat (Value × Nat)} (hx : wordR (orErr (classP L i)) = r) (w0 : World) (hz : MaxL w0) (hr : w0.heap[rb]? = some (.cells (rdC L (i + 1)) U (0, 0))) :
    Calls Tryz.prog 39 #[ptrV rb, wordV { kind := 0, place := i }] w0 (ReadsV rb L U w0 r) := hx ▸ rd_class rb L i U hL hi hrb w0 hz hr
theorem rd_flags_of (rb : Nat) (L : Str) (i : Nat) (U : TypeId) (hL : L.length ≤ 2000) (hi : i + 2 ≤ L.length) {r : Except Nat (Value × Nat)} (hx : wordR (orErr (flagsP L i)) = r) (w0 : World) (hr : w0.heap[rb]? = some (.cells (rdC L (i + 2)) U (0, 0))) :
    Calls Tryz.prog 41 #[ptrV rb, wordV { kind := 0, place := i }] w0 (ReadsV rb L U w0 r) := hx ▸ rd_flags rb L i U hL hi w0 hr
theorem rd_repeat_of (rb : Nat) (L : Str) (i : Nat) (lo hi : Int) (k : Nat) (U : TypeId) (hL : L.length ≤ 2000) (hk : k ≤ L.length) (hlo : 0 ≤ lo ∧ lo ≤ 101) (hhi : -1 ≤ hi ∧ hi ≤ 101) {r : Except Nat (Value × Nat)} (hx : wordR (repeatP L i lo hi k) = r) (w0 : World) (hr : w0.heap[rb]? = some (.cells (rdC L k) U (0, 0))) :
    Calls Tryz.prog 43 #[ptrV rb, wordV { kind := 0, place := i }, .int .i64 lo, .int .i64 hi] w0 (ReadsV rb L U w0 r) := hx ▸ rd_repeat rb L i lo hi k U hL hk hlo hhi w0 hr

theorem bracesP_bd {L : Str} {i lo e : Nat} {hi : Int} (h : bracesP L i = some (lo, hi, e)) (hi2 : i < L.length) : (0 ≤ (lo : Int) ∧ (lo : Int) ≤ 101) ∧ (-1 ≤ hi ∧ hi ≤ 101) := by
  unfold bracesP at h
  cases hn : numberP L (i + 1) with
  | none => rw [hn] at h; cases h
  | some p =>
    obtain ⟨n, k⟩ := p
    have h1 := numberP_le hn hi2
    rw [hn] at h; simp only [] at h
    split at h
    · cases h; omega
    · split at h
      · rename_i h44
        have hle := at_le h44 (by simp)
        simp only [List.length_cons, List.length_nil, Nat.zero_add] at hle
        cases hm : numberP L (k + 1) with
        | none => rw [hm] at h; cases h
        | some q =>
          obtain ⟨m, e'⟩ := q
          have h2 := numberP_le hm hle
          rw [hm] at h; simp only [] at h
          split at h
          · cases h; omega
          · cases h
      · split at h
        · cases h; omega
        · cases h
set_option maxRecDepth 100000 in
set_option maxHeartbeats 64000000 in
theorem rd_word (rb : Nat) (L : Str) (i : Nat) (U : TypeId) (hL : L.length ≤ 2000) (hi : i < L.length) (hrb : rb ≠ 0) (w0 : World) (hz : MaxL w0) (hr : w0.heap[rb]? = some (.cells (rdC L i) U (0, 0))) :
    Calls Tryz.prog 19 #[ptrV rb] w0 (ReadsV rb L U w0 (wordR (wordP L i))) := by
  have H := HoldG.startB hr
  have ZZ : ∀ W, KeepBut (· = rb) w0.heap.size w0 W → MaxL W := fun W hk => hz.keep hrb hk
  have hb := byt_lt L i
  have hi1 : i + 1 ≤ L.length := hi
  have E : wordP L i = wordP L i := rfl
  conv at E => rhs; unfold wordP
  simp only [] at E
  by_cases hc : byt L i = 92
  · rw [if_pos hc] at E
    have e92 : ((byt L i : Int) == 92) = true := by rw [beq_iff_eq]; omega
    cases hx : orErr (slashP L i) with
    | error n =>
      have E3 := Lib.hid (show wordR (wordP L i) = .error n by rw [E, hx]; rfl)
      have hx2 : wordR (orErr (slashP L i)) = .error n := by rw [hx]; rfl
      clear E hx
      go_enter Tryz.func19, Tryz.ntmps19
      go_wp2_with (first | ((first | ((with_reducible refine kgA 2 ?_); refine kA 2 H ?_) | ((with_reducible refine kgX 2 ?_); (first | refine kS 2 H ?_ | refine kB 2 H ?_))); clear H; intro b2 w H; (try simp only [nrm, nrl, Value.cells] at H)) | ((first | ((with_reducible refine kgA 3 ?_); refine kA 3 H ?_) | ((with_reducible refine kgX 3 ?_); (first | refine kS 3 H ?_ | refine kB 3 H ?_))); clear H; intro b3 w H; (try simp only [nrm, nrl, Value.cells] at H)) | (first | ((with_reducible refine gT ?_); (refine aT H ?_; clear H; intro w H; (try simp only [nrm, nrl, Value.cells] at H))) | ((with_reducible refine gL ?_); (first | refine aG H ?_ | refine aD H ?_))) | ((with_reducible show @wpList _ _ _ ({ dst := _, op := Op.build _ _, type := _, pos := _, after := _, guard := _ } :: _) _ _); refine own_word0 (by first | rfl | exact wanted_g rfl (yielded_of rfl (by first | rfl | (simp only [put_lit, put_no, List.setIfInBounds_toArray, List.set_cons_succ, List.set_cons_zero, ev_tmp, ev_const, ev_glob, ev_func, List.getD_cons_succ, List.getD_cons_zero]; rfl)))) _ rfl rfl ?_) | (go_at_call 37; (with_reducible refine (rd_next_ok rb L i U hL hi _ (H.blk .zero).2).mono ?_); rintro e w ⟨hk, rfl, hr⟩; replace H := H.callBut (by repeat (first | (with_reducible exact At.zero) | apply At.succ)) hk hr; clear hk hr; (try simp only [nrm, nrl, Value.cells] at H)) | (go_at_call 38; (with_reducible refine (rd_slash_of rb L i U hL hi1 hc hx2 _ (H.blk .zero).2).mono ?_); rintro e w ⟨hk, rfl⟩; exact ⟨rfl, readsV_err E3.out (H.keep.trans (hk.mono H.keep.size (fun _ _ m => m)))⟩))
    | ok p =>
      obtain ⟨d, e⟩ := p
      have E3 := Lib.hid (show wordR (wordP L i) = .ok (wordV d, e) by rw [E, hx]; rfl)
      have hx2 : wordR (orErr (slashP L i)) = .ok (wordV d, e) := by rw [hx]; rfl
      clear E hx
      go_enter Tryz.func19, Tryz.ntmps19
      go_wp2_with (first | ((first | ((with_reducible refine kgA 2 ?_); refine kA 2 H ?_) | ((with_reducible refine kgX 2 ?_); (first | refine kS 2 H ?_ | refine kB 2 H ?_))); clear H; intro b2 w H; (try simp only [nrm, nrl, Value.cells] at H)) | ((first | ((with_reducible refine kgA 3 ?_); refine kA 3 H ?_) | ((with_reducible refine kgX 3 ?_); (first | refine kS 3 H ?_ | refine kB 3 H ?_))); clear H; intro b3 w H; (try simp only [nrm, nrl, Value.cells] at H)) | (first | ((with_reducible refine gT ?_); (refine aT H ?_; clear H; intro w H; (try simp only [nrm, nrl, Value.cells] at H))) | ((with_reducible refine gL ?_); (first | refine aG H ?_ | refine aD H ?_))) | ((with_reducible show @wpList _ _ _ ({ dst := _, op := Op.build _ _, type := _, pos := _, after := _, guard := _ } :: _) _ _); refine own_word0 (by first | rfl | exact wanted_g rfl (yielded_of rfl (by first | rfl | (simp only [put_lit, put_no, List.setIfInBounds_toArray, List.set_cons_succ, List.set_cons_zero, ev_tmp, ev_const, ev_glob, ev_func, List.getD_cons_succ, List.getD_cons_zero]; rfl)))) _ rfl rfl ?_) | (go_at_call 37; (with_reducible refine (rd_next_ok rb L i U hL hi _ (H.blk .zero).2).mono ?_); rintro e w ⟨hk, rfl, hr⟩; replace H := H.callBut (by repeat (first | (with_reducible exact At.zero) | apply At.succ)) hk hr; clear hk hr; (try simp only [nrm, nrl, Value.cells] at H)) | (go_at_call 38; (with_reducible refine (rd_slash_of rb L i U hL hi1 hc hx2 _ (H.blk .zero).2).mono ?_); rintro e w ⟨hk, rfl, hr⟩; replace H := H.callBut (by repeat (first | (with_reducible exact At.zero) | apply At.succ)) hk hr; clear hk hr; (try simp only [nrm, nrl, Value.cells] at H)))
      (refine ret_c Tryz.results19 rfl H (by repeat (first | (with_reducible exact At.zero) | apply At.succ)) (by first | (with_reducible exact row_LWord) | (with_reducible exact row_Set)) (by rfl) rfl ?_)
      exact readsV_ok E3.out H.keep (H.blk .zero).2
  · rw [if_neg hc] at E
    have n92 : ((byt L i : Int) == 92) = false := by rw [beq_eq_false_iff_ne]; omega
    have m92 := Lib.hid hc; clear hc
    by_cases hc : byt L i = 91
    · rw [if_pos hc] at E
      have e91 : ((byt L i : Int) == 91) = true := by rw [beq_iff_eq]; omega
      have n92 : ((byt L i : Int) == 92) = false := by rw [beq_eq_false_iff_ne]; omega
      cases hx : orErr (classP L i) with
      | error n =>
        have E3 := Lib.hid (show wordR (wordP L i) = .error n by rw [E, hx]; rfl)
        have hx2 : wordR (orErr (classP L i)) = .error n := by rw [hx]; rfl
        clear E hx
        go_enter Tryz.func19, Tryz.ntmps19
        go_wp2_with (first | ((first | ((with_reducible refine kgA 2 ?_); refine kA 2 H ?_) | ((with_reducible refine kgX 2 ?_); (first | refine kS 2 H ?_ | refine kB 2 H ?_))); clear H; intro b2 w H; (try simp only [nrm, nrl, Value.cells] at H)) | ((first | ((with_reducible refine kgA 3 ?_); refine kA 3 H ?_) | ((with_reducible refine kgX 3 ?_); (first | refine kS 3 H ?_ | refine kB 3 H ?_))); clear H; intro b3 w H; (try simp only [nrm, nrl, Value.cells] at H)) | (first | ((with_reducible refine gT ?_); (refine aT H ?_; clear H; intro w H; (try simp only [nrm, nrl, Value.cells] at H))) | ((with_reducible refine gL ?_); (first | refine aG H ?_ | refine aD H ?_))) | ((with_reducible show @wpList _ _ _ ({ dst := _, op := Op.build _ _, type := _, pos := _, after := _, guard := _ } :: _) _ _); refine own_word0 (by first | rfl | exact wanted_g rfl (yielded_of rfl (by first | rfl | (simp only [put_lit, put_no, List.setIfInBounds_toArray, List.set_cons_succ, List.set_cons_zero, ev_tmp, ev_const, ev_glob, ev_func, List.getD_cons_succ, List.getD_cons_zero]; rfl)))) _ rfl rfl ?_) | (go_at_call 37; (with_reducible refine (rd_next_ok rb L i U hL hi _ (H.blk .zero).2).mono ?_); rintro e w ⟨hk, rfl, hr⟩; replace H := H.callBut (by repeat (first | (with_reducible exact At.zero) | apply At.succ)) hk hr; clear hk hr; (try simp only [nrm, nrl, Value.cells] at H)) | (go_at_call 39; (with_reducible refine (rd_class_of rb L i U hL hi hrb hx2 _ (ZZ _ H.keep) (H.blk .zero).2).mono ?_); rintro e w ⟨hk, rfl⟩; exact ⟨rfl, readsV_err E3.out (H.keep.trans (hk.mono H.keep.size (fun _ _ m => m)))⟩))
      | ok p =>
        obtain ⟨d, e⟩ := p
        have E3 := Lib.hid (show wordR (wordP L i) = .ok (wordV d, e) by rw [E, hx]; rfl)
        have hx2 : wordR (orErr (classP L i)) = .ok (wordV d, e) := by rw [hx]; rfl
        clear E hx
        go_enter Tryz.func19, Tryz.ntmps19
        go_wp2_with (first | ((first | ((with_reducible refine kgA 2 ?_); refine kA 2 H ?_) | ((with_reducible refine kgX 2 ?_); (first | refine kS 2 H ?_ | refine kB 2 H ?_))); clear H; intro b2 w H; (try simp only [nrm, nrl, Value.cells] at H)) | ((first | ((with_reducible refine kgA 3 ?_); refine kA 3 H ?_) | ((with_reducible refine kgX 3 ?_); (first | refine kS 3 H ?_ | refine kB 3 H ?_))); clear H; intro b3 w H; (try simp only [nrm, nrl, Value.cells] at H)) | (first | ((with_reducible refine gT ?_); (refine aT H ?_; clear H; intro w H; (try simp only [nrm, nrl, Value.cells] at H))) | ((with_reducible refine gL ?_); (first | refine aG H ?_ | refine aD H ?_))) | ((with_reducible show @wpList _ _ _ ({ dst := _, op := Op.build _ _, type := _, pos := _, after := _, guard := _ } :: _) _ _); refine own_word0 (by first | rfl | exact wanted_g rfl (yielded_of rfl (by first | rfl | (simp only [put_lit, put_no, List.setIfInBounds_toArray, List.set_cons_succ, List.set_cons_zero, ev_tmp, ev_const, ev_glob, ev_func, List.getD_cons_succ, List.getD_cons_zero]; rfl)))) _ rfl rfl ?_) | (go_at_call 37; (with_reducible refine (rd_next_ok rb L i U hL hi _ (H.blk .zero).2).mono ?_); rintro e w ⟨hk, rfl, hr⟩; replace H := H.callBut (by repeat (first | (with_reducible exact At.zero) | apply At.succ)) hk hr; clear hk hr; (try simp only [nrm, nrl, Value.cells] at H)) | (go_at_call 39; (with_reducible refine (rd_class_of rb L i U hL hi hrb hx2 _ (ZZ _ H.keep) (H.blk .zero).2).mono ?_); rintro e w ⟨hk, rfl, hr⟩; replace H := H.callBut (by repeat (first | (with_reducible exact At.zero) | apply At.succ)) hk hr; clear hk hr; (try simp only [nrm, nrl, Value.cells] at H)))
        (refine ret_c Tryz.results19 rfl H (by repeat (first | (with_reducible exact At.zero) | apply At.succ)) (by first | (with_reducible exact row_LWord) | (with_reducible exact row_Set)) (by rfl) rfl ?_)
        exact readsV_ok E3.out H.keep (H.blk .zero).2
    · rw [if_neg hc] at E
      have n91 : ((byt L i : Int) == 91) = false := by rw [beq_eq_false_iff_ne]; omega
      have m91 := Lib.hid hc; clear hc
      by_cases hc : byt L i = 40
      · rw [if_pos hc] at E
        have e40 : ((byt L i : Int) == 40) = true := by rw [beq_iff_eq]; omega
        have n92 : ((byt L i : Int) == 92) = false := by rw [beq_eq_false_iff_ne]; omega
        have n91 : ((byt L i : Int) == 91) = false := by rw [beq_eq_false_iff_ne]; omega
        cases hq : atP L (i + 1) [63] with
        | true =>
          rw [hq, if_pos rfl] at E
          have hle := at_le hq (by simp)
          simp only [List.length_cons, List.length_nil, Nat.zero_add] at hle
          have SK := fun w h => skip_of rb (by simp) U hL hi1 hq w h
          simp only [if_true, List.length_cons, List.length_nil, Nat.zero_add] at SK
          clear hq hc
          cases hx : orErr (flagsP L i) with
          | error n =>
            have E3 := Lib.hid (show wordR (wordP L i) = .error n by rw [E, hx]; rfl)
            have hx2 : wordR (orErr (flagsP L i)) = .error n := by rw [hx]; rfl
            clear E hx
            go_enter Tryz.func19, Tryz.ntmps19
            go_wp2_with (first | ((first | ((with_reducible refine kgA 2 ?_); refine kA 2 H ?_) | ((with_reducible refine kgX 2 ?_); (first | refine kS 2 H ?_ | refine kB 2 H ?_))); clear H; intro b2 w H; (try simp only [nrm, nrl, Value.cells] at H)) | ((first | ((with_reducible refine kgA 3 ?_); refine kA 3 H ?_) | ((with_reducible refine kgX 3 ?_); (first | refine kS 3 H ?_ | refine kB 3 H ?_))); clear H; intro b3 w H; (try simp only [nrm, nrl, Value.cells] at H)) | (first | ((with_reducible refine gT ?_); (refine aT H ?_; clear H; intro w H; (try simp only [nrm, nrl, Value.cells] at H))) | ((with_reducible refine gL ?_); (first | refine aG H ?_ | refine aD H ?_))) | ((with_reducible show @wpList _ _ _ ({ dst := _, op := Op.build _ _, type := _, pos := _, after := _, guard := _ } :: _) _ _); refine own_word0 (by first | rfl | exact wanted_g rfl (yielded_of rfl (by first | rfl | (simp only [put_lit, put_no, List.setIfInBounds_toArray, List.set_cons_succ, List.set_cons_zero, ev_tmp, ev_const, ev_glob, ev_func, List.getD_cons_succ, List.getD_cons_zero]; rfl)))) _ rfl rfl ?_) | (go_at_call 37; (with_reducible refine (rd_next_ok rb L i U hL hi _ (H.blk .zero).2).mono ?_); rintro e w ⟨hk, rfl, hr⟩; replace H := H.callBut (by repeat (first | (with_reducible exact At.zero) | apply At.succ)) hk hr; clear hk hr; (try simp only [nrm, nrl, Value.cells] at H)) | (go_at_call 40; (with_reducible refine (SK _ (H.blk .zero).2).mono ?_); rintro e w ⟨hk, rfl, hr⟩; replace H := H.callBut (by repeat (first | (with_reducible exact At.zero) | apply At.succ)) hk hr; clear hk hr; (try simp only [nrm, nrl, Value.cells] at H)) | (go_at_call 41; (with_reducible refine (rd_flags_of rb L i U hL hle hx2 _ (H.blk .zero).2).mono ?_); rintro e w ⟨hk, rfl⟩; exact ⟨rfl, readsV_err E3.out (H.keep.trans (hk.mono H.keep.size (fun _ _ m => m)))⟩))
          | ok p =>
            obtain ⟨d, e⟩ := p
            have E3 := Lib.hid (show wordR (wordP L i) = .ok (wordV d, e) by rw [E, hx]; rfl)
            have hx2 : wordR (orErr (flagsP L i)) = .ok (wordV d, e) := by rw [hx]; rfl
            clear E hx
            go_enter Tryz.func19, Tryz.ntmps19
            go_wp2_with (first | ((first | ((with_reducible refine kgA 2 ?_); refine kA 2 H ?_) | ((with_reducible refine kgX 2 ?_); (first | refine kS 2 H ?_ | refine kB 2 H ?_))); clear H; intro b2 w H; (try simp only [nrm, nrl, Value.cells] at H)) | ((first | ((with_reducible refine kgA 3 ?_); refine kA 3 H ?_) | ((with_reducible refine kgX 3 ?_); (first | refine kS 3 H ?_ | refine kB 3 H ?_))); clear H; intro b3 w H; (try simp only [nrm, nrl, Value.cells] at H)) | (first | ((with_reducible refine gT ?_); (refine aT H ?_; clear H; intro w H; (try simp only [nrm, nrl, Value.cells] at H))) | ((with_reducible refine gL ?_); (first | refine aG H ?_ | refine aD H ?_))) | ((with_reducible show @wpList _ _ _ ({ dst := _, op := Op.build _ _, type := _, pos := _, after := _, guard := _ } :: _) _ _); refine own_word0 (by first | rfl | exact wanted_g rfl (yielded_of rfl (by first | rfl | (simp only [put_lit, put_no, List.setIfInBounds_toArray, List.set_cons_succ, List.set_cons_zero, ev_tmp, ev_const, ev_glob, ev_func, List.getD_cons_succ, List.getD_cons_zero]; rfl)))) _ rfl rfl ?_) | (go_at_call 37; (with_reducible refine (rd_next_ok rb L i U hL hi _ (H.blk .zero).2).mono ?_); rintro e w ⟨hk, rfl, hr⟩; replace H := H.callBut (by repeat (first | (with_reducible exact At.zero) | apply At.succ)) hk hr; clear hk hr; (try simp only [nrm, nrl, Value.cells] at H)) | (go_at_call 40; (with_reducible refine (SK _ (H.blk .zero).2).mono ?_); rintro e w ⟨hk, rfl, hr⟩; replace H := H.callBut (by repeat (first | (with_reducible exact At.zero) | apply At.succ)) hk hr; clear hk hr; (try simp only [nrm, nrl, Value.cells] at H)) | (go_at_call 41; (with_reducible refine (rd_flags_of rb L i U hL hle hx2 _ (H.blk .zero).2).mono ?_); rintro e w ⟨hk, rfl, hr⟩; replace H := H.callBut (by repeat (first | (with_reducible exact At.zero) | apply At.succ)) hk hr; clear hk hr; (try simp only [nrm, nrl, Value.cells] at H)))
            (refine ret_c Tryz.results19 rfl H (by repeat (first | (with_reducible exact At.zero) | apply At.succ)) (by first | (with_reducible exact row_LWord) | (with_reducible exact row_Set)) (by rfl) rfl ?_)
            exact readsV_ok E3.out H.keep (H.blk .zero).2
        | false =>
          rw [hq, if_neg (by simp)] at E
          have SK := fun w h => skip_of rb (by simp) U hL hi1 hq w h
          simp only [Bool.false_eq_true, if_false] at SK
          have E3 := Lib.hid (show wordR (wordP L i) = .ok (wordV { kind := 6, place := i }, i + 1) by rw [E]; rfl)
          clear hq hc E
          go_enter Tryz.func19, Tryz.ntmps19
          go_wp2_with (first | ((first | ((with_reducible refine kgA 2 ?_); refine kA 2 H ?_) | ((with_reducible refine kgX 2 ?_); (first | refine kS 2 H ?_ | refine kB 2 H ?_))); clear H; intro b2 w H; (try simp only [nrm, nrl, Value.cells] at H)) | ((first | ((with_reducible refine kgA 3 ?_); refine kA 3 H ?_) | ((with_reducible refine kgX 3 ?_); (first | refine kS 3 H ?_ | refine kB 3 H ?_))); clear H; intro b3 w H; (try simp only [nrm, nrl, Value.cells] at H)) | (first | ((with_reducible refine gT ?_); ((first | refine aO H ?_ | refine aT H ?_); clear H; intro w H; (try simp only [nrm, nrl, Value.cells] at H))) | ((with_reducible refine gL ?_); (first | refine aG H ?_ | refine aD H ?_))) | ((with_reducible show @wpList _ _ _ ({ dst := _, op := Op.build _ _, type := _, pos := _, after := _, guard := _ } :: _) _ _); refine own_word0 (by first | rfl | exact wanted_g rfl (yielded_of rfl (by first | rfl | (simp only [put_lit, put_no, List.setIfInBounds_toArray, List.set_cons_succ, List.set_cons_zero, ev_tmp, ev_const, ev_glob, ev_func, List.getD_cons_succ, List.getD_cons_zero]; rfl)))) _ rfl rfl ?_) | (go_at_call 37; (with_reducible refine (rd_next_ok rb L i U hL hi _ (H.blk .zero).2).mono ?_); rintro e w ⟨hk, rfl, hr⟩; replace H := H.callBut (by repeat (first | (with_reducible exact At.zero) | apply At.succ)) hk hr; clear hk hr; (try simp only [nrm, nrl, Value.cells] at H)) | (go_at_call 40; (with_reducible refine (SK _ (H.blk .zero).2).mono ?_); rintro e w ⟨hk, rfl, hr⟩; replace H := H.callBut (by repeat (first | (with_reducible exact At.zero) | apply At.succ)) hk hr; clear hk hr; (try simp only [nrm, nrl, Value.cells] at H)))
          (refine ret_c Tryz.results19 rfl H (by repeat (first | (with_reducible exact At.zero) | apply At.succ)) (by first | (with_reducible exact row_LWord) | (with_reducible exact row_Set)) (by rfl) rfl ?_)
          exact readsV_ok E3.out H.keep (H.blk .zero).2
      · rw [if_neg hc] at E
        have n40 : ((byt L i : Int) == 40) = false := by rw [beq_eq_false_iff_ne]; omega
        have m40 := Lib.hid hc; clear hc
        by_cases hc : byt L i = 123
        · rw [if_pos hc] at E
          have e123 : ((byt L i : Int) == 123) = true := by rw [beq_iff_eq]; omega
          have n92 : ((byt L i : Int) == 92) = false := by rw [beq_eq_false_iff_ne]; omega
          have n91 : ((byt L i : Int) == 91) = false := by rw [beq_eq_false_iff_ne]; omega
          have n40 : ((byt L i : Int) == 40) = false := by rw [beq_eq_false_iff_ne]; omega
          have n42 : ((byt L i : Int) == 42) = false := by rw [beq_eq_false_iff_ne]; omega
          have n43 : ((byt L i : Int) == 43) = false := by rw [beq_eq_false_iff_ne]; omega
          have n63 : ((byt L i : Int) == 63) = false := by rw [beq_eq_false_iff_ne]; omega
          cases hbr : bracesP L i with
          | some p =>
            obtain ⟨lo, hh, k⟩ := p
            rw [hbr] at E; simp only [] at E
            have hbi := bracesP_in hbr hi
            have hbb := bracesP_bd hbr hi
            clear hc
            cases hx : repeatP L i lo hh k with
            | error n =>
              have E3 := Lib.hid (show wordR (wordP L i) = .error n by rw [E, hx]; rfl)
              have hx2 : wordR (repeatP L i lo hh k) = .error n := by rw [hx]; rfl
              clear E hx
              go_enter Tryz.func19, Tryz.ntmps19
              go_wp2_with (first | ((first | ((with_reducible refine kgA 2 ?_); refine kA 2 H ?_) | ((with_reducible refine kgX 2 ?_); (first | refine kS 2 H ?_ | refine kB 2 H ?_))); clear H; intro b2 w H; (try simp only [nrm, nrl, Value.cells] at H)) | ((first | ((with_reducible refine kgA 3 ?_); refine kA 3 H ?_) | ((with_reducible refine kgX 3 ?_); (first | refine kS 3 H ?_ | refine kB 3 H ?_))); clear H; intro b3 w H; (try simp only [nrm, nrl, Value.cells] at H)) | (first | ((with_reducible refine gT ?_); (refine aT H ?_; clear H; intro w H; (try simp only [nrm, nrl, Value.cells] at H))) | ((with_reducible refine gL ?_); (first | refine aG H ?_ | refine aD H ?_))) | ((with_reducible show @wpList _ _ _ ({ dst := _, op := Op.build _ _, type := _, pos := _, after := _, guard := _ } :: _) _ _); refine own_word0 (by first | rfl | exact wanted_g rfl (yielded_of rfl (by first | rfl | (simp only [put_lit, put_no, List.setIfInBounds_toArray, List.set_cons_succ, List.set_cons_zero, ev_tmp, ev_const, ev_glob, ev_func, List.getD_cons_succ, List.getD_cons_zero]; rfl)))) _ rfl rfl ?_) | (go_at_call 37; (with_reducible refine (rd_next_ok rb L i U hL hi _ (H.blk .zero).2).mono ?_); rintro e w ⟨hk, rfl, hr⟩; replace H := H.callBut (by repeat (first | (with_reducible exact At.zero) | apply At.succ)) hk hr; clear hk hr; (try simp only [nrm, nrl, Value.cells] at H)) | ((go_at_call 42; (with_reducible refine (rd_braces rb L i U hL hi1 _ (H.blk .zero).2).mono ?_); rintro e w ⟨v, j, hv, hk, rfl, hr2⟩; unfold bracesR at hv; rw [hbr] at hv; obtain ⟨rfl, hj⟩ := hv; rw [hj] at hr2; clear hj; replace H := H.callBut (by repeat (first | (with_reducible exact At.zero) | apply At.succ)) hk hr2; clear hk hr2; (try simp only [nrm, nrl, Value.cells] at H))) | (go_at_call 43; (with_reducible refine (rd_repeat_of rb L i lo hh k U hL hbi.2 hbb.1 hbb.2 hx2 _ (H.blk .zero).2).mono ?_); rintro e w ⟨hk, rfl⟩; exact ⟨rfl, readsV_err E3.out (H.keep.trans (hk.mono H.keep.size (fun _ _ m => m)))⟩))
            | ok p =>
              obtain ⟨d, e⟩ := p
              have E3 := Lib.hid (show wordR (wordP L i) = .ok (wordV d, e) by rw [E, hx]; rfl)
              have hx2 : wordR (repeatP L i lo hh k) = .ok (wordV d, e) := by rw [hx]; rfl
              clear E hx
              go_enter Tryz.func19, Tryz.ntmps19
              go_wp2_with (first | ((first | ((with_reducible refine kgA 2 ?_); refine kA 2 H ?_) | ((with_reducible refine kgX 2 ?_); (first | refine kS 2 H ?_ | refine kB 2 H ?_))); clear H; intro b2 w H; (try simp only [nrm, nrl, Value.cells] at H)) | ((first | ((with_reducible refine kgA 3 ?_); refine kA 3 H ?_) | ((with_reducible refine kgX 3 ?_); (first | refine kS 3 H ?_ | refine kB 3 H ?_))); clear H; intro b3 w H; (try simp only [nrm, nrl, Value.cells] at H)) | (first | ((with_reducible refine gT ?_); (refine aT H ?_; clear H; intro w H; (try simp only [nrm, nrl, Value.cells] at H))) | ((with_reducible refine gL ?_); (first | refine aG H ?_ | refine aD H ?_))) | ((with_reducible show @wpList _ _ _ ({ dst := _, op := Op.build _ _, type := _, pos := _, after := _, guard := _ } :: _) _ _); refine own_word0 (by first | rfl | exact wanted_g rfl (yielded_of rfl (by first | rfl | (simp only [put_lit, put_no, List.setIfInBounds_toArray, List.set_cons_succ, List.set_cons_zero, ev_tmp, ev_const, ev_glob, ev_func, List.getD_cons_succ, List.getD_cons_zero]; rfl)))) _ rfl rfl ?_) | (go_at_call 37; (with_reducible refine (rd_next_ok rb L i U hL hi _ (H.blk .zero).2).mono ?_); rintro e w ⟨hk, rfl, hr⟩; replace H := H.callBut (by repeat (first | (with_reducible exact At.zero) | apply At.succ)) hk hr; clear hk hr; (try simp only [nrm, nrl, Value.cells] at H)) | ((go_at_call 42; (with_reducible refine (rd_braces rb L i U hL hi1 _ (H.blk .zero).2).mono ?_); rintro e w ⟨v, j, hv, hk, rfl, hr2⟩; unfold bracesR at hv; rw [hbr] at hv; obtain ⟨rfl, hj⟩ := hv; rw [hj] at hr2; clear hj; replace H := H.callBut (by repeat (first | (with_reducible exact At.zero) | apply At.succ)) hk hr2; clear hk hr2; (try simp only [nrm, nrl, Value.cells] at H))) | (go_at_call 43; (with_reducible refine (rd_repeat_of rb L i lo hh k U hL hbi.2 hbb.1 hbb.2 hx2 _ (H.blk .zero).2).mono ?_); rintro e w ⟨hk, rfl, hr⟩; replace H := H.callBut (by repeat (first | (with_reducible exact At.zero) | apply At.succ)) hk hr; clear hk hr; (try simp only [nrm, nrl, Value.cells] at H)))
              (refine ret_c Tryz.results19 rfl H (by repeat (first | (with_reducible exact At.zero) | apply At.succ)) (by first | (with_reducible exact row_LWord) | (with_reducible exact row_Set)) (by rfl) rfl ?_)
              exact readsV_ok E3.out H.keep (H.blk .zero).2
          | none =>
            rw [hbr] at E; simp only [] at E
            have hF : signsF (.int .u8 (byt L i : Nat)) = none := by rw [signsF_at, hc]; rfl
            have E3 := Lib.hid (show wordR (wordP L i) = .ok (wordV { kind := 1, place := i, set := ofS [((byt L i : Nat) : Int)] }, i + 1) by rw [E, hc]; rfl)
            clear E hc
            go_enter Tryz.func19, Tryz.ntmps19
            go_wp2_with (first | ((first | ((with_reducible refine kgA 2 ?_); refine kA 2 H ?_) | ((with_reducible refine kgX 2 ?_); (first | refine kS 2 H ?_ | refine kB 2 H ?_))); clear H; intro b2 w H; (try simp only [nrm, nrl, Value.cells] at H)) | ((first | ((with_reducible refine kgA 3 ?_); refine kA 3 H ?_) | ((with_reducible refine kgX 3 ?_); (first | refine kS 3 H ?_ | refine kB 3 H ?_))); clear H; intro b3 w H; (try simp only [nrm, nrl, Value.cells] at H)) | (first | ((with_reducible refine gT ?_); (first | ((first | refine aO H ?_ | refine aT H ?_); clear H; intro w H; (try simp only [nrm, nrl, Value.cells] at H)) | (refine aN H ?_; clear H; intro w H; (try simp only [nrm, nrl, Value.cells] at H); (try simp only [setSeg, nrl] at H)))) | ((with_reducible refine gL ?_); (first | refine aG H ?_ | refine aD H ?_))) | ((with_reducible show @wpList _ _ _ ({ dst := _, op := Op.build _ _, type := _, pos := _, after := _, guard := _ } :: _) _ _); refine own_word0 (by first | rfl | exact wanted_g rfl (yielded_of rfl (by first | rfl | (simp only [put_lit, put_no, List.setIfInBounds_toArray, List.set_cons_succ, List.set_cons_zero, ev_tmp, ev_const, ev_glob, ev_func, List.getD_cons_succ, List.getD_cons_zero]; rfl)))) _ rfl rfl ?_) | (go_at_call 37; (with_reducible refine (rd_next_ok rb L i U hL hi _ (H.blk .zero).2).mono ?_); rintro e w ⟨hk, rfl, hr⟩; replace H := H.callBut (by repeat (first | (with_reducible exact At.zero) | apply At.succ)) hk hr; clear hk hr; (try simp only [nrm, nrl, Value.cells] at H)) | ((go_at_call 42; (with_reducible refine (rd_braces rb L i U hL hi1 _ (H.blk .zero).2).mono ?_); rintro e w ⟨v, j, hv, hk, rfl, hr2⟩; unfold bracesR at hv; rw [hbr] at hv; obtain ⟨⟨lo, hh, rfl⟩, hj⟩ := hv; rw [hj] at hr2; clear hj; replace H := H.callBut (by repeat (first | (with_reducible exact At.zero) | apply At.succ)) hk hr2; clear hk hr2; (try simp only [nrm, nrl, Value.cells] at H))) | (go_at_call 44; (with_reducible refine (lx_signs _).mono ?_); rintro e w ⟨⟨mb, es, mc, rfl, hmn, hmh, hM⟩, hb⟩; replace H := H.gainMp hb hmn hmh; clear hb hmn hmh; (try simp only [nrm, nrl, Value.cells] at H)) | ((with_reducible show @wpList _ _ _ ({ dst := _, op := Op.lookup _ _ _ true, type := _, pos := _, after := _, guard := _ } :: _) _ _); refine own_lookup2N (by first | rfl | exact wanted_g rfl (yielded_of rfl (by first | rfl | (simp only [put_lit, put_no, List.setIfInBounds_toArray, List.set_cons_succ, List.set_cons_zero, ev_tmp, ev_const, ev_glob, ev_func, List.getD_cons_succ, List.getD_cons_zero]; rfl)))) _ _ _ rfl Tryz.underlying92 Tryz.underlying5 rfl (by first | (simp only [put_lit, put_no, List.setIfInBounds_toArray, List.set_cons_succ, List.set_cons_zero, ev_tmp, ev_const, ev_glob, ev_func, List.getD_cons_succ, List.getD_cons_zero]; done) | (simp only [put_lit, put_no, List.setIfInBounds_toArray, List.set_cons_succ, List.set_cons_zero, ev_tmp, ev_const, ev_glob, ev_func, List.getD_cons_succ, List.getD_cons_zero]; rfl)) H (by repeat (first | (with_reducible exact At.zero) | apply At.succ)) hM (by first | trivial | rfl) ⟨hF, zero_Kind⟩ ?_) | ((with_reducible show @wpList _ _ _ ({ dst := _, op := Op.buildSlice _ _ _, type := _, pos := _, after := _, guard := _ } :: _) _ _); refine own_build (by first | rfl | exact wanted_g rfl (yielded_of rfl (by first | rfl | (simp only [put_lit, put_no, List.setIfInBounds_toArray, List.set_cons_succ, List.set_cons_zero, ev_tmp, ev_const, ev_glob, ev_func, List.getD_cons_succ, List.getD_cons_zero]; rfl)))) _ _ _ rfl H (#[.int .u8 (byt L i)]) 5 (by intro W; simp only [List.map_toArray, List.map_cons, List.map_nil]; (try simp only [put_lit, put_no, List.setIfInBounds_toArray, List.set_cons_succ, List.set_cons_zero, ev_tmp, ev_const, ev_glob, ev_func, List.getD_cons_succ, List.getD_cons_zero]); (try unfold setV); simp [go_sem] <;> rfl) ?_; clear H; intro b w H; (try simp only [nrm, nrl, Value.cells] at H)) | (go_at_call 45; (with_reducible refine ch (of_1 (byt L i) hb _ _ (H.rdn (cs := [.int .u8 (byt L i)]) (by repeat (first | (with_reducible exact At.zero) | apply At.succ)) (by simp) (by simp [maxLen]))) H ?_); clear H; intro w H))
            (refine ret_c Tryz.results19 rfl H (by repeat (first | (with_reducible exact At.zero) | apply At.succ)) (by first | (with_reducible exact row_LWord) | (with_reducible exact row_Set)) (by rfl) rfl ?_)
            exact readsV_ok E3.out H.keep (H.blk .zero).2
        · rw [if_neg hc] at E
          have n123 : ((byt L i : Int) == 123) = false := by rw [beq_eq_false_iff_ne]; omega
          have m123 := Lib.hid hc; clear hc
          by_cases hc : byt L i = 42
          · rw [if_pos hc] at E
            have e42 : ((byt L i : Int) == 42) = true := by rw [beq_iff_eq]; omega
            have n92 : ((byt L i : Int) == 92) = false := by rw [beq_eq_false_iff_ne]; omega
            have n91 : ((byt L i : Int) == 91) = false := by rw [beq_eq_false_iff_ne]; omega
            have n40 : ((byt L i : Int) == 40) = false := by rw [beq_eq_false_iff_ne]; omega
            have n123 : ((byt L i : Int) == 123) = false := by rw [beq_eq_false_iff_ne]; omega
            cases hx : repeatP L i 0 (-1) (i + 1) with
            | error n =>
              have E3 := Lib.hid (show wordR (wordP L i) = .error n by rw [E, hx]; rfl)
              have hx2 : wordR (repeatP L i 0 (-1) (i + 1)) = .error n := by rw [hx]; rfl
              clear E hx
              go_enter Tryz.func19, Tryz.ntmps19
              go_wp2_with (first | ((first | ((with_reducible refine kgA 2 ?_); refine kA 2 H ?_) | ((with_reducible refine kgX 2 ?_); (first | refine kS 2 H ?_ | refine kB 2 H ?_))); clear H; intro b2 w H; (try simp only [nrm, nrl, Value.cells] at H)) | ((first | ((with_reducible refine kgA 3 ?_); refine kA 3 H ?_) | ((with_reducible refine kgX 3 ?_); (first | refine kS 3 H ?_ | refine kB 3 H ?_))); clear H; intro b3 w H; (try simp only [nrm, nrl, Value.cells] at H)) | (first | ((with_reducible refine gT ?_); (refine aT H ?_; clear H; intro w H; (try simp only [nrm, nrl, Value.cells] at H))) | ((with_reducible refine gL ?_); (first | refine aG H ?_ | refine aD H ?_))) | ((with_reducible show @wpList _ _ _ ({ dst := _, op := Op.build _ _, type := _, pos := _, after := _, guard := _ } :: _) _ _); refine own_word0 (by first | rfl | exact wanted_g rfl (yielded_of rfl (by first | rfl | (simp only [put_lit, put_no, List.setIfInBounds_toArray, List.set_cons_succ, List.set_cons_zero, ev_tmp, ev_const, ev_glob, ev_func, List.getD_cons_succ, List.getD_cons_zero]; rfl)))) _ rfl rfl ?_) | (go_at_call 37; (with_reducible refine (rd_next_ok rb L i U hL hi _ (H.blk .zero).2).mono ?_); rintro e w ⟨hk, rfl, hr⟩; replace H := H.callBut (by repeat (first | (with_reducible exact At.zero) | apply At.succ)) hk hr; clear hk hr; (try simp only [nrm, nrl, Value.cells] at H)) | (go_at_call 43; (with_reducible refine (rd_repeat_of rb L i 0 (-1) (i + 1) U hL hi1 (by omega) (by omega) hx2 _ (H.blk .zero).2).mono ?_); rintro e w ⟨hk, rfl⟩; exact ⟨rfl, readsV_err E3.out (H.keep.trans (hk.mono H.keep.size (fun _ _ m => m)))⟩))
            | ok p =>
              obtain ⟨d, e⟩ := p
              have E3 := Lib.hid (show wordR (wordP L i) = .ok (wordV d, e) by rw [E, hx]; rfl)
              have hx2 : wordR (repeatP L i 0 (-1) (i + 1)) = .ok (wordV d, e) := by rw [hx]; rfl
              clear E hx
              go_enter Tryz.func19, Tryz.ntmps19
              go_wp2_with (first | ((first | ((with_reducible refine kgA 2 ?_); refine kA 2 H ?_) | ((with_reducible refine kgX 2 ?_); (first | refine kS 2 H ?_ | refine kB 2 H ?_))); clear H; intro b2 w H; (try simp only [nrm, nrl, Value.cells] at H)) | ((first | ((with_reducible refine kgA 3 ?_); refine kA 3 H ?_) | ((with_reducible refine kgX 3 ?_); (first | refine kS 3 H ?_ | refine kB 3 H ?_))); clear H; intro b3 w H; (try simp only [nrm, nrl, Value.cells] at H)) | (first | ((with_reducible refine gT ?_); (refine aT H ?_; clear H; intro w H; (try simp only [nrm, nrl, Value.cells] at H))) | ((with_reducible refine gL ?_); (first | refine aG H ?_ | refine aD H ?_))) | ((with_reducible show @wpList _ _ _ ({ dst := _, op := Op.build _ _, type := _, pos := _, after := _, guard := _ } :: _) _ _); refine own_word0 (by first | rfl | exact wanted_g rfl (yielded_of rfl (by first | rfl | (simp only [put_lit, put_no, List.setIfInBounds_toArray, List.set_cons_succ, List.set_cons_zero, ev_tmp, ev_const, ev_glob, ev_func, List.getD_cons_succ, List.getD_cons_zero]; rfl)))) _ rfl rfl ?_) | (go_at_call 37; (with_reducible refine (rd_next_ok rb L i U hL hi _ (H.blk .zero).2).mono ?_); rintro e w ⟨hk, rfl, hr⟩; replace H := H.callBut (by repeat (first | (with_reducible exact At.zero) | apply At.succ)) hk hr; clear hk hr; (try simp only [nrm, nrl, Value.cells] at H)) | (go_at_call 43; (with_reducible refine (rd_repeat_of rb L i 0 (-1) (i + 1) U hL hi1 (by omega) (by omega) hx2 _ (H.blk .zero).2).mono ?_); rintro e w ⟨hk, rfl, hr⟩; replace H := H.callBut (by repeat (first | (with_reducible exact At.zero) | apply At.succ)) hk hr; clear hk hr; (try simp only [nrm, nrl, Value.cells] at H)))
              (refine ret_c Tryz.results19 rfl H (by repeat (first | (with_reducible exact At.zero) | apply At.succ)) (by first | (with_reducible exact row_LWord) | (with_reducible exact row_Set)) (by rfl) rfl ?_)
              exact readsV_ok E3.out H.keep (H.blk .zero).2
          · rw [if_neg hc] at E
            have n42 : ((byt L i : Int) == 42) = false := by rw [beq_eq_false_iff_ne]; omega
            have m42 := Lib.hid hc; clear hc
            by_cases hc : byt L i = 43
            · rw [if_pos hc] at E
              have e43 : ((byt L i : Int) == 43) = true := by rw [beq_iff_eq]; omega
              have n92 : ((byt L i : Int) == 92) = false := by rw [beq_eq_false_iff_ne]; omega
              have n91 : ((byt L i : Int) == 91) = false := by rw [beq_eq_false_iff_ne]; omega
              have n40 : ((byt L i : Int) == 40) = false := by rw [beq_eq_false_iff_ne]; omega
              have n123 : ((byt L i : Int) == 123) = false := by rw [beq_eq_false_iff_ne]; omega
              have n42 : ((byt L i : Int) == 42) = false := by rw [beq_eq_false_iff_ne]; omega
              cases hx : repeatP L i 1 (-1) (i + 1) with
              | error n =>
                have E3 := Lib.hid (show wordR (wordP L i) = .error n by rw [E, hx]; rfl)
                have hx2 : wordR (repeatP L i 1 (-1) (i + 1)) = .error n := by rw [hx]; rfl
                clear E hx
                go_enter Tryz.func19, Tryz.ntmps19
                go_wp2_with (first | ((first | ((with_reducible refine kgA 2 ?_); refine kA 2 H ?_) | ((with_reducible refine kgX 2 ?_); (first | refine kS 2 H ?_ | refine kB 2 H ?_))); clear H; intro b2 w H; (try simp only [nrm, nrl, Value.cells] at H)) | ((first | ((with_reducible refine kgA 3 ?_); refine kA 3 H ?_) | ((with_reducible refine kgX 3 ?_); (first | refine kS 3 H ?_ | refine kB 3 H ?_))); clear H; intro b3 w H; (try simp only [nrm, nrl, Value.cells] at H)) | (first | ((with_reducible refine gT ?_); (refine aT H ?_; clear H; intro w H; (try simp only [nrm, nrl, Value.cells] at H))) | ((with_reducible refine gL ?_); (first | refine aG H ?_ | refine aD H ?_))) | ((with_reducible show @wpList _ _ _ ({ dst := _, op := Op.build _ _, type := _, pos := _, after := _, guard := _ } :: _) _ _); refine own_word0 (by first | rfl | exact wanted_g rfl (yielded_of rfl (by first | rfl | (simp only [put_lit, put_no, List.setIfInBounds_toArray, List.set_cons_succ, List.set_cons_zero, ev_tmp, ev_const, ev_glob, ev_func, List.getD_cons_succ, List.getD_cons_zero]; rfl)))) _ rfl rfl ?_) | (go_at_call 37; (with_reducible refine (rd_next_ok rb L i U hL hi _ (H.blk .zero).2).mono ?_); rintro e w ⟨hk, rfl, hr⟩; replace H := H.callBut (by repeat (first | (with_reducible exact At.zero) | apply At.succ)) hk hr; clear hk hr; (try simp only [nrm, nrl, Value.cells] at H)) | (go_at_call 43; (with_reducible refine (rd_repeat_of rb L i 1 (-1) (i + 1) U hL hi1 (by omega) (by omega) hx2 _ (H.blk .zero).2).mono ?_); rintro e w ⟨hk, rfl⟩; exact ⟨rfl, readsV_err E3.out (H.keep.trans (hk.mono H.keep.size (fun _ _ m => m)))⟩))
              | ok p =>
                obtain ⟨d, e⟩ := p
                have E3 := Lib.hid (show wordR (wordP L i) = .ok (wordV d, e) by rw [E, hx]; rfl)
                have hx2 : wordR (repeatP L i 1 (-1) (i + 1)) = .ok (wordV d, e) := by rw [hx]; rfl
                clear E hx
                go_enter Tryz.func19, Tryz.ntmps19
                go_wp2_with (first | ((first | ((with_reducible refine kgA 2 ?_); refine kA 2 H ?_) | ((with_reducible refine kgX 2 ?_); (first | refine kS 2 H ?_ | refine kB 2 H ?_))); clear H; intro b2 w H; (try simp only [nrm, nrl, Value.cells] at H)) | ((first | ((with_reducible refine kgA 3 ?_); refine kA 3 H ?_) | ((with_reducible refine kgX 3 ?_); (first | refine kS 3 H ?_ | refine kB 3 H ?_))); clear H; intro b3 w H; (try simp only [nrm, nrl, Value.cells] at H)) | (first | ((with_reducible refine gT ?_); (refine aT H ?_; clear H; intro w H; (try simp only [nrm, nrl, Value.cells] at H))) | ((with_reducible refine gL ?_); (first | refine aG H ?_ | refine aD H ?_))) | ((with_reducible show @wpList _ _ _ ({ dst := _, op := Op.build _ _, type := _, pos := _, after := _, guard := _ } :: _) _ _); refine own_word0 (by first | rfl | exact wanted_g rfl (yielded_of rfl (by first | rfl | (simp only [put_lit, put_no, List.setIfInBounds_toArray, List.set_cons_succ, List.set_cons_zero, ev_tmp, ev_const, ev_glob, ev_func, List.getD_cons_succ, List.getD_cons_zero]; rfl)))) _ rfl rfl ?_) | (go_at_call 37; (with_reducible refine (rd_next_ok rb L i U hL hi _ (H.blk .zero).2).mono ?_); rintro e w ⟨hk, rfl, hr⟩; replace H := H.callBut (by repeat (first | (with_reducible exact At.zero) | apply At.succ)) hk hr; clear hk hr; (try simp only [nrm, nrl, Value.cells] at H)) | (go_at_call 43; (with_reducible refine (rd_repeat_of rb L i 1 (-1) (i + 1) U hL hi1 (by omega) (by omega) hx2 _ (H.blk .zero).2).mono ?_); rintro e w ⟨hk, rfl, hr⟩; replace H := H.callBut (by repeat (first | (with_reducible exact At.zero) | apply At.succ)) hk hr; clear hk hr; (try simp only [nrm, nrl, Value.cells] at H)))
                (refine ret_c Tryz.results19 rfl H (by repeat (first | (with_reducible exact At.zero) | apply At.succ)) (by first | (with_reducible exact row_LWord) | (with_reducible exact row_Set)) (by rfl) rfl ?_)
                exact readsV_ok E3.out H.keep (H.blk .zero).2
            · rw [if_neg hc] at E
              have n43 : ((byt L i : Int) == 43) = false := by rw [beq_eq_false_iff_ne]; omega
              have m43 := Lib.hid hc; clear hc
              by_cases hc : byt L i = 63
              · rw [if_pos hc] at E
                have e63 : ((byt L i : Int) == 63) = true := by rw [beq_iff_eq]; omega
                have n92 : ((byt L i : Int) == 92) = false := by rw [beq_eq_false_iff_ne]; omega
                have n91 : ((byt L i : Int) == 91) = false := by rw [beq_eq_false_iff_ne]; omega
                have n40 : ((byt L i : Int) == 40) = false := by rw [beq_eq_false_iff_ne]; omega
                have n123 : ((byt L i : Int) == 123) = false := by rw [beq_eq_false_iff_ne]; omega
                have n42 : ((byt L i : Int) == 42) = false := by rw [beq_eq_false_iff_ne]; omega
                have n43 : ((byt L i : Int) == 43) = false := by rw [beq_eq_false_iff_ne]; omega
                cases hx : repeatP L i 0 1 (i + 1) with
                | error n =>
                  have E3 := Lib.hid (show wordR (wordP L i) = .error n by rw [E, hx]; rfl)
                  have hx2 : wordR (repeatP L i 0 1 (i + 1)) = .error n := by rw [hx]; rfl
                  clear E hx
                  go_enter Tryz.func19, Tryz.ntmps19
                  go_wp2_with (first | ((first | ((with_reducible refine kgA 2 ?_); refine kA 2 H ?_) | ((with_reducible refine kgX 2 ?_); (first | refine kS 2 H ?_ | refine kB 2 H ?_))); clear H; intro b2 w H; (try simp only [nrm, nrl, Value.cells] at H)) | ((first | ((with_reducible refine kgA 3 ?_); refine kA 3 H ?_) | ((with_reducible refine kgX 3 ?_); (first | refine kS 3 H ?_ | refine kB 3 H ?_))); clear H; intro b3 w H; (try simp only [nrm, nrl, Value.cells] at H)) | (first | ((with_reducible refine gT ?_); (refine aT H ?_; clear H; intro w H; (try simp only [nrm, nrl, Value.cells] at H))) | ((with_reducible refine gL ?_); (first | refine aG H ?_ | refine aD H ?_))) | ((with_reducible show @wpList _ _ _ ({ dst := _, op := Op.build _ _, type := _, pos := _, after := _, guard := _ } :: _) _ _); refine own_word0 (by first | rfl | exact wanted_g rfl (yielded_of rfl (by first | rfl | (simp only [put_lit, put_no, List.setIfInBounds_toArray, List.set_cons_succ, List.set_cons_zero, ev_tmp, ev_const, ev_glob, ev_func, List.getD_cons_succ, List.getD_cons_zero]; rfl)))) _ rfl rfl ?_) | (go_at_call 37; (with_reducible refine (rd_next_ok rb L i U hL hi _ (H.blk .zero).2).mono ?_); rintro e w ⟨hk, rfl, hr⟩; replace H := H.callBut (by repeat (first | (with_reducible exact At.zero) | apply At.succ)) hk hr; clear hk hr; (try simp only [nrm, nrl, Value.cells] at H)) | (go_at_call 43; (with_reducible refine (rd_repeat_of rb L i 0 1 (i + 1) U hL hi1 (by omega) (by omega) hx2 _ (H.blk .zero).2).mono ?_); rintro e w ⟨hk, rfl⟩; exact ⟨rfl, readsV_err E3.out (H.keep.trans (hk.mono H.keep.size (fun _ _ m => m)))⟩))
                | ok p =>
                  obtain ⟨d, e⟩ := p
                  have E3 := Lib.hid (show wordR (wordP L i) = .ok (wordV d, e) by rw [E, hx]; rfl)
                  have hx2 : wordR (repeatP L i 0 1 (i + 1)) = .ok (wordV d, e) := by rw [hx]; rfl
                  clear E hx
                  go_enter Tryz.func19, Tryz.ntmps19
                  go_wp2_with (first | ((first | ((with_reducible refine kgA 2 ?_); refine kA 2 H ?_) | ((with_reducible refine kgX 2 ?_); (first | refine kS 2 H ?_ | refine kB 2 H ?_))); clear H; intro b2 w H; (try simp only [nrm, nrl, Value.cells] at H)) | ((first | ((with_reducible refine kgA 3 ?_); refine kA 3 H ?_) | ((with_reducible refine kgX 3 ?_); (first | refine kS 3 H ?_ | refine kB 3 H ?_))); clear H; intro b3 w H; (try simp only [nrm, nrl, Value.cells] at H)) | (first | ((with_reducible refine gT ?_); (refine aT H ?_; clear H; intro w H; (try simp only [nrm, nrl, Value.cells] at H))) | ((with_reducible refine gL ?_); (first | refine aG H ?_ | refine aD H ?_))) | ((with_reducible show @wpList _ _ _ ({ dst := _, op := Op.build _ _, type := _, pos := _, after := _, guard := _ } :: _) _ _); refine own_word0 (by first | rfl | exact wanted_g rfl (yielded_of rfl (by first | rfl | (simp only [put_lit, put_no, List.setIfInBounds_toArray, List.set_cons_succ, List.set_cons_zero, ev_tmp, ev_const, ev_glob, ev_func, List.getD_cons_succ, List.getD_cons_zero]; rfl)))) _ rfl rfl ?_) | (go_at_call 37; (with_reducible refine (rd_next_ok rb L i U hL hi _ (H.blk .zero).2).mono ?_); rintro e w ⟨hk, rfl, hr⟩; replace H := H.callBut (by repeat (first | (with_reducible exact At.zero) | apply At.succ)) hk hr; clear hk hr; (try simp only [nrm, nrl, Value.cells] at H)) | (go_at_call 43; (with_reducible refine (rd_repeat_of rb L i 0 1 (i + 1) U hL hi1 (by omega) (by omega) hx2 _ (H.blk .zero).2).mono ?_); rintro e w ⟨hk, rfl, hr⟩; replace H := H.callBut (by repeat (first | (with_reducible exact At.zero) | apply At.succ)) hk hr; clear hk hr; (try simp only [nrm, nrl, Value.cells] at H)))
                  (refine ret_c Tryz.results19 rfl H (by repeat (first | (with_reducible exact At.zero) | apply At.succ)) (by first | (with_reducible exact row_LWord) | (with_reducible exact row_Set)) (by rfl) rfl ?_)
                  exact readsV_ok E3.out H.keep (H.blk .zero).2
              · rw [if_neg hc] at E
                have n63 : ((byt L i : Int) == 63) = false := by rw [beq_eq_false_iff_ne]; omega
                have m63 := Lib.hid hc; clear hc
                cases hs : signP (byt L i) with
                | some k =>
                  have hF : signsF (.int .u8 (byt L i : Nat)) = some (.int .i64 (k : Int)) := by rw [signsF_at, hs]; rfl
                  have E3 := Lib.hid (show wordR (wordP L i) = .ok (wordV { kind := k, place := i }, i + 1) by rw [E, hs]; rfl)
                  clear E hs
                  go_enter Tryz.func19, Tryz.ntmps19
                  go_wp2_with (first | ((first | ((with_reducible refine kgA 2 ?_); refine kA 2 H ?_) | ((with_reducible refine kgX 2 ?_); (first | refine kS 2 H ?_ | refine kB 2 H ?_))); clear H; intro b2 w H; (try simp only [nrm, nrl, Value.cells] at H)) | ((first | ((with_reducible refine kgA 3 ?_); refine kA 3 H ?_) | ((with_reducible refine kgX 3 ?_); (first | refine kS 3 H ?_ | refine kB 3 H ?_))); clear H; intro b3 w H; (try simp only [nrm, nrl, Value.cells] at H)) | (first | ((with_reducible refine gT ?_); ((first | refine aO H ?_ | refine aT H ?_); clear H; intro w H; (try simp only [nrm, nrl, Value.cells] at H))) | ((with_reducible refine gL ?_); (first | refine aG H ?_ | refine aD H ?_))) | ((with_reducible show @wpList _ _ _ ({ dst := _, op := Op.build _ _, type := _, pos := _, after := _, guard := _ } :: _) _ _); refine own_word0 (by first | rfl | exact wanted_g rfl (yielded_of rfl (by first | rfl | (simp only [put_lit, put_no, List.setIfInBounds_toArray, List.set_cons_succ, List.set_cons_zero, ev_tmp, ev_const, ev_glob, ev_func, List.getD_cons_succ, List.getD_cons_zero]; rfl)))) _ rfl rfl ?_) | (go_at_call 37; (with_reducible refine (rd_next_ok rb L i U hL hi _ (H.blk .zero).2).mono ?_); rintro e w ⟨hk, rfl, hr⟩; replace H := H.callBut (by repeat (first | (with_reducible exact At.zero) | apply At.succ)) hk hr; clear hk hr; (try simp only [nrm, nrl, Value.cells] at H)) | (go_at_call 44; (with_reducible refine (lx_signs _).mono ?_); rintro e w ⟨⟨mb, es, mc, rfl, hmn, hmh, hM⟩, hb⟩; replace H := H.gainMp hb hmn hmh; clear hb hmn hmh; (try simp only [nrm, nrl, Value.cells] at H)) | ((with_reducible show @wpList _ _ _ ({ dst := _, op := Op.lookup _ _ _ true, type := _, pos := _, after := _, guard := _ } :: _) _ _); refine own_lookup2 (by first | rfl | exact wanted_g rfl (yielded_of rfl (by first | rfl | (simp only [put_lit, put_no, List.setIfInBounds_toArray, List.set_cons_succ, List.set_cons_zero, ev_tmp, ev_const, ev_glob, ev_func, List.getD_cons_succ, List.getD_cons_zero]; rfl)))) _ _ _ rfl Tryz.underlying92 Tryz.underlying5 rfl (by first | (simp only [put_lit, put_no, List.setIfInBounds_toArray, List.set_cons_succ, List.set_cons_zero, ev_tmp, ev_const, ev_glob, ev_func, List.getD_cons_succ, List.getD_cons_zero]; done) | (simp only [put_lit, put_no, List.setIfInBounds_toArray, List.set_cons_succ, List.set_cons_zero, ev_tmp, ev_const, ev_glob, ev_func, List.getD_cons_succ, List.getD_cons_zero]; rfl)) H (by repeat (first | (with_reducible exact At.zero) | apply At.succ)) hM (by first | trivial | rfl) hF ?_))
                  (refine ret_c Tryz.results19 rfl H (by repeat (first | (with_reducible exact At.zero) | apply At.succ)) (by first | (with_reducible exact row_LWord) | (with_reducible exact row_Set)) (by rfl) rfl ?_)
                  exact readsV_ok E3.out H.keep (H.blk .zero).2
                | none =>
                  have hF : signsF (.int .u8 (byt L i : Nat)) = none := by rw [signsF_at, hs]; rfl
                  have E3 := Lib.hid (show wordR (wordP L i) = .ok (wordV { kind := 1, place := i, set := ofS [((byt L i : Nat) : Int)] }, i + 1) by rw [E, hs]; rfl)
                  clear E hs
                  go_enter Tryz.func19, Tryz.ntmps19
                  go_wp2_with (first | ((first | ((with_reducible refine kgA 2 ?_); refine kA 2 H ?_) | ((with_reducible refine kgX 2 ?_); (first | refine kS 2 H ?_ | refine kB 2 H ?_))); clear H; intro b2 w H; (try simp only [nrm, nrl, Value.cells] at H)) | ((first | ((with_reducible refine kgA 3 ?_); refine kA 3 H ?_) | ((with_reducible refine kgX 3 ?_); (first | refine kS 3 H ?_ | refine kB 3 H ?_))); clear H; intro b3 w H; (try simp only [nrm, nrl, Value.cells] at H)) | (first | ((with_reducible refine gT ?_); (first | ((first | refine aO H ?_ | refine aT H ?_); clear H; intro w H; (try simp only [nrm, nrl, Value.cells] at H)) | (refine aN H ?_; clear H; intro w H; (try simp only [nrm, nrl, Value.cells] at H); (try simp only [setSeg, nrl] at H)))) | ((with_reducible refine gL ?_); (first | refine aG H ?_ | refine aD H ?_))) | ((with_reducible show @wpList _ _ _ ({ dst := _, op := Op.build _ _, type := _, pos := _, after := _, guard := _ } :: _) _ _); refine own_word0 (by first | rfl | exact wanted_g rfl (yielded_of rfl (by first | rfl | (simp only [put_lit, put_no, List.setIfInBounds_toArray, List.set_cons_succ, List.set_cons_zero, ev_tmp, ev_const, ev_glob, ev_func, List.getD_cons_succ, List.getD_cons_zero]; rfl)))) _ rfl rfl ?_) | (go_at_call 37; (with_reducible refine (rd_next_ok rb L i U hL hi _ (H.blk .zero).2).mono ?_); rintro e w ⟨hk, rfl, hr⟩; replace H := H.callBut (by repeat (first | (with_reducible exact At.zero) | apply At.succ)) hk hr; clear hk hr; (try simp only [nrm, nrl, Value.cells] at H)) | (go_at_call 44; (with_reducible refine (lx_signs _).mono ?_); rintro e w ⟨⟨mb, es, mc, rfl, hmn, hmh, hM⟩, hb⟩; replace H := H.gainMp hb hmn hmh; clear hb hmn hmh; (try simp only [nrm, nrl, Value.cells] at H)) | ((with_reducible show @wpList _ _ _ ({ dst := _, op := Op.lookup _ _ _ true, type := _, pos := _, after := _, guard := _ } :: _) _ _); refine own_lookup2N (by first | rfl | exact wanted_g rfl (yielded_of rfl (by first | rfl | (simp only [put_lit, put_no, List.setIfInBounds_toArray, List.set_cons_succ, List.set_cons_zero, ev_tmp, ev_const, ev_glob, ev_func, List.getD_cons_succ, List.getD_cons_zero]; rfl)))) _ _ _ rfl Tryz.underlying92 Tryz.underlying5 rfl (by first | (simp only [put_lit, put_no, List.setIfInBounds_toArray, List.set_cons_succ, List.set_cons_zero, ev_tmp, ev_const, ev_glob, ev_func, List.getD_cons_succ, List.getD_cons_zero]; done) | (simp only [put_lit, put_no, List.setIfInBounds_toArray, List.set_cons_succ, List.set_cons_zero, ev_tmp, ev_const, ev_glob, ev_func, List.getD_cons_succ, List.getD_cons_zero]; rfl)) H (by repeat (first | (with_reducible exact At.zero) | apply At.succ)) hM (by first | trivial | rfl) ⟨hF, zero_Kind⟩ ?_) | ((with_reducible show @wpList _ _ _ ({ dst := _, op := Op.buildSlice _ _ _, type := _, pos := _, after := _, guard := _ } :: _) _ _); refine own_build (by first | rfl | exact wanted_g rfl (yielded_of rfl (by first | rfl | (simp only [put_lit, put_no, List.setIfInBounds_toArray, List.set_cons_succ, List.set_cons_zero, ev_tmp, ev_const, ev_glob, ev_func, List.getD_cons_succ, List.getD_cons_zero]; rfl)))) _ _ _ rfl H (#[.int .u8 (byt L i)]) 5 (by intro W; simp only [List.map_toArray, List.map_cons, List.map_nil]; (try simp only [put_lit, put_no, List.setIfInBounds_toArray, List.set_cons_succ, List.set_cons_zero, ev_tmp, ev_const, ev_glob, ev_func, List.getD_cons_succ, List.getD_cons_zero]); (try unfold setV); simp [go_sem] <;> rfl) ?_; clear H; intro b w H; (try simp only [nrm, nrl, Value.cells] at H)) | (go_at_call 45; (with_reducible refine ch (of_1 (byt L i) hb _ _ (H.rdn (cs := [.int .u8 (byt L i)]) (by repeat (first | (with_reducible exact At.zero) | apply At.succ)) (by simp) (by simp [maxLen]))) H ?_); clear H; intro w H))
                  (refine ret_c Tryz.results19 rfl H (by repeat (first | (with_reducible exact At.zero) | apply At.succ)) (by first | (with_reducible exact row_LWord) | (with_reducible exact row_Set)) (by rfl) rfl ?_)
                  exact readsV_ok E3.out H.keep (H.blk .zero).2
end Go.Proofs.YtllmgmfihijejaaGreatDoor
/-
  The walks of package lex: the words, one behind the other.
-/
namespace Go.Proofs.YtllmgmfihijejaaGreatDoor
open Go.RowKit Go.Shelf Go.MapKept
attribute [local go_sem] Oper.semAt_some
set_option linter.unusedSimpArgs false

/-- what Words owns while it goes through the words -/
def HdL (L : Str) (U : TypeId) (b2 b3 b4 b5 rb pb : Nat) (v : Value) (ws : List WordD) (p i : Nat) : List Res :=
  [.blk rb (rdC L i) U, .blk pb #[ptrV rb] 44, .blk b2 #[v] 25, .blk b3 #[.int .i64 p] 3, .blk b4 #[.int .i64 0] 26, .blk b5 #[ptrV rb] 44, .row v 42 17 ws.length (flatW ws)]
def Hd (w0 : World) (L : Str) (U : TypeId) (b2 b3 b4 b5 rb pb : Nat) (ws : List WordD) (p i : Nat) (W : World) : Prop := ∃ v, Hold w0 W (HdL L U b2 b3 b4 b5 rb pb v ws p i)
/-- where the words stand -/
def WInv (L : Str) (ws : List WordD) (i : Nat) : Prop := i ≤ L.length ∧ ws.length ≤ i ∧ ∃ f, wordsP L = wcat ws (wordsGo L f i) ∧ L.length ≤ f + i


theorem keepsFrom_of_below {B : Nat} {W W' : World} (h : Below W.heap.size W W') : KeepsFrom B W W' := ⟨h.size, fun k o _ hk _ => (h.block k (Array.getElem?_eq_some_iff.1 hk).1).trans hk⟩
theorem keepsFrom_of_but {rb B : Nat} {W W' : World} (hb : rb < B) (h : KeepBut (· = rb) W.heap.size W W') : KeepsFrom B W W' := ⟨h.size, fun k o hB hk _ => (h.old k (Array.getElem?_eq_some_iff.1 hk).1 (by omega)).trans hk⟩
section
variable {P : Program} {ops : Array Oper} {o : Oper} {a : Act} {w : World} {Q : Exit → Act → World → Prop} {T : World → Prop}
theorem rx_readsT {rb : Nat} {L : Str} {U : TypeId} {f : FuncId} {xs : Array Operand} {ts : Array TypeId} {vs : Array Value} {v : Value} {j : Nat} (hg : Region.wanted o (yielded ops a.tmps) = true)
    (hop : o.op = Op.call { callee := Callee.value (Operand.func f), args := xs, argTypes := ts }) (hf : ∀ args w, (callFunc f args).run P w = .ok (.enter f args) w) (hx : xs.map a.eval = vs)
    (hc : Calls P f vs w (ReadsV rb L U w (.ok (v, j)))) (hT : ∀ w', KeepBut (· = rb) w.heap.size w w' → w'.heap[rb]? = some (.cells (rdC L j) U (0, 0)) → T w') : QStepX P ops (fun _ _ => True) Q o a w (fun v' w' => v' = v ∧ T w') := by
  unfold QStepX; rw [if_pos hg]
  unfold Oper.wp
  have hr : (execOp a.eval o).run P w = .ok (.enter f vs) w := by
    simp only [execOp, hop]
    simp [resolve, hx]
    rw [show a.eval (Operand.func f) = .func (.func f) #[] #[] from rfl]
    simp [go_sem]
    exact hf _ _
  rw [hr]
  simp only [Oper.upon]
  refine hc.mono ?_
  rintro e w' ⟨hk, rfl, hr'⟩
  exact ⟨v, rfl, trivial, rfl, hT w' hk hr'⟩
theorem rx_throwsT {rb n : Nat} {L : Str} {U : TypeId} {f : FuncId} {xs : Array Operand} {ts : Array TypeId} {vs : Array Value} {S : Value → World → Prop} (hg : Region.wanted o (yielded ops a.tmps) = true)
    (hop : o.op = Op.call { callee := Callee.value (Operand.func f), args := xs, argTypes := ts }) (hf : ∀ args w, (callFunc f args).run P w = .ok (.enter f args) w) (hx : xs.map a.eval = vs)
    (hc : Calls P f vs w (ReadsV rb L U w (.error n))) (hQ : ∀ w', KeepBut (· = rb) w.heap.size w w' → Q (.panic (thrown n)) a w') : QStepX P ops (fun _ _ => True) Q o a w S := by
  unfold QStepX; rw [if_pos hg]
  unfold Oper.wp
  have hr : (execOp a.eval o).run P w = .ok (.enter f vs) w := by
    simp only [execOp, hop]
    simp [resolve, hx]
    rw [show a.eval (Operand.func f) = .func (.func f) #[] #[] from rfl]
    simp [go_sem]
    exact hf _ _
  rw [hr]
  simp only [Oper.upon]
  refine hc.mono ?_
  rintro e w' ⟨hk, rfl⟩
  exact hQ w' hk
theorem ri_yield {m l : Nat} {x y : Operand} {ts : Array TypeId} {v : Value} (hg : Region.wanted o (yielded ops a.tmps) = true) (hop : o.op = Op.call { callee := Callee.value x, args := #[y], argTypes := ts })
    (hx : a.eval x = .func (.yield l) #[] #[]) (hy : a.eval y = v) (hY : YieldAt Fence.wide (m - 1) P l #[v] w fun e W' => e = .returned (.bool true) ∧ T W') : QStepI m P ops (fun _ _ => True) Q o a w (fun v' w' => v' = .bool true ∧ T w') := by
  obtain ⟨fn, tmps, assign, body, hyr, hR⟩ := hY
  unfold QStepI; rw [if_pos hg]
  refine ⟨fun _ _ => trivial, ?_⟩
  rw [show o.semAt Fence.wide.round a.eval = execOp a.eval o from rfl]
  have hr : (execOp a.eval o).run P w = .ok (.round l fn tmps assign body) w := by
    simp only [execOp, hop]
    simp only [resolve, hx, List.map_toArray, List.map_cons, List.map_nil, hy, Sem.run_bind, Sem.run_pure, Result.andThen_ok, invoke]
    exact hyr
  rw [hr]
  simp only [Oper.uponIn]
  refine ⟨fun h => by simp [Fence.wide] at h, hR.mono ?_⟩
  rintro e w' ⟨rfl, hT⟩
  exact ⟨_, rfl, trivial, rfl, hT⟩
end
/-- the reader is gone -/
theorem HoldG.tailBut {M : Nat → Prop} {w0 W W' : World} {rb : Nat} {cs : Array Value} {U : TypeId} {l : List Res} (H : HoldG M w0 W (.blk rb cs U :: l)) (hk : KeepBut (· = rb) W.heap.size W W') : HoldG M w0 W' l := by
  have h0 := H.blk .zero
  refine ⟨H.keep.trans ⟨hk.os, hk.tape, hk.output, hk.size, fun k h1 h2 => hk.old k (Nat.lt_of_lt_of_le h1 H.keep.size) (fun e => ?_)⟩, fun i r h => ?_, fun i j r s hij h1 h2 => H.apart (i + 1) (j + 1) r s (by omega) (by simpa using h1) (by simpa using h2)⟩
  · subst e
    rcases h0.1 with h | h
    · omega
    · exact h2 h
  · have h' : (Res.blk rb cs U :: l)[i + 1]? = some r := by simpa using h
    refine (H.all (i + 1) r h').kept (fun b hb => hk.old b ((H.all (i + 1) r h').lt b hb).2 (fun e => ?_))
    subst e
    exact H.apart (i + 1) 0 r _ (by omega) h' rfl b hb rfl
def wsS (ws : List WordD) (d : WordD) : Nat → List WordD | 0 => ws | 1 => ws | _ => ws ++ [d]
def pS (i j : Nat) : Nat → Nat | 0 => i | 1 => i | _ => j
def iS (i j : Nat) : Nat → Nat | 0 => i | 1 => j | _ => j
theorem BelR.any (u v : World) (_ : BelR u v) : True := trivial
set_option maxRecDepth 100000 in
set_option maxHeartbeats 8000000 in
theorem words_in (w0 : World) (L : Str) (U : TypeId) (b2 b3 b4 b5 rb pb : Nat) (hL : L.length ≤ 1000)  (hrb : rb ≠ 0) (hz : MaxL w0) (l : Nat) (B : World → Prop) (base : Nat) (hb : rb < base) (hB : ∀ W W', KeepsFrom base W W' → B W → B W')
    (hY : ∀ (ws : List WordD) (i j : Nat) (d : WordD) W1, i < L.length → WInv L ws i → wordP L i = .ok (d, j) → Hd w0 L U b2 b3 b4 b5 rb pb ws i j W1 → B W1 → YieldAt Fence.wide 7 Tryz.prog l #[wordV d] W1 fun e W' => e = .returned (.bool true) ∧ Hd w0 L U b2 b3 b4 b5 rb pb (ws ++ [d]) j j W' ∧ B W')
    (W : World) (h0 : Hd w0 L U b2 b3 b4 b5 rb pb [] 0 0 W) (hB0 : B W) :
    CallsIn Fence.wide 8 Tryz.prog 18 #[.func (.yield l) #[] #[], .pointer (some ⟨pb, 0, none⟩)] W fun e W' => B W' ∧ ((∃ v, e = .returned v ∧ ∃ ws p, wordsP L = .ok ws ∧ Hd w0 L U b2 b3 b4 b5 rb pb ws p p W') ∨
      ∃ ch, e = .panicked ch ∧ ∃ ws p x v, ch = thrown x ∧ wordsP L = .error (p, x) ∧ (x = 4 ∨ x = 6) ∧ Hold w0 W' (HdL L U b2 b3 b4 b5 rb pb v ws p 0).tail) := by
  refine callsIn_of_wp Tryz.func18 rfl trivial ?_ rfl
  simp only [Tryz.ntmps18, List.size_toArray, List.length_cons, List.length_nil, Nat.reduceAdd, Nat.reduceSub, Array.replicate_succ, Array.replicate_zero, List.push_toArray, List.append_toArray, List.nil_append, List.cons_append]
  gi_wp2
  have HY := Lib.hid hY; clear hY
  have HB := Lib.hid hB; clear hB
  gi_loopw [3] (fun _ wr => ∃ (ws : List WordD) (i : Nat), Hid (WInv L ws i ∧ Hd w0 L U b2 b3 b4 b5 rb pb ws i i wr ∧ B wr)) (fun _ wr => L.length + 1 - rdPos rb wr)
  case atStart => exact ⟨[], 0, Lib.hid ⟨⟨Nat.zero_le _, Nat.le_refl _, L.length, (wcat_nil _).symm, by omega⟩, h0, hB0⟩⟩
  case round =>
    clear h0 hB0
    obtain ⟨ws, i, G⟩ := hrel
    have HZ := Lib.hid hz; clear hz
    have hpos : rdPos rb wr = i := by obtain ⟨_, ⟨v, H⟩, _⟩ := G.out; exact rdPos_of (H.blk .zero).2
    by_cases hlt : i < L.length
    · cases hw : wordP L i with
      | error x =>
        have hwd := fun w hz hr => (by have := rd_word rb L i U (by omega) hlt hrb w hz hr; rw [hw] at this; exact this : Calls Tryz.prog 19 #[ptrV rb] w (ReadsV rb L U w (.error x)))
        have HX := Lib.hid (wordP_err hw)
        have HE := Lib.hid (show wordsP L = .error (i, x) by
          obtain ⟨⟨_, _, f, e, hf⟩, _⟩ := G.out
          obtain ⟨f', rfl⟩ : ∃ f', f = f' + 1 := ⟨f - 1, by omega⟩
          rw [e, words_err hlt hw])
        clear hw
        gi_wp2_with fail
        refine wpIn_region_specS BelR (fun _ _ => True) [15, 16] (fun _ W => Hd w0 L U b2 b3 b4 b5 rb pb ws i i W ∧ B W) (fun _ _ _ => trivial) (fun r u v ⟨⟨x, H⟩, hBW⟩ hbel => ⟨⟨x, H.call hbel⟩, HB.out _ _ (keepsFrom_of_below hbel) hBW⟩) BelR.drew BelR.refl (fun _ _ _ _ _ => trivial) 8 18 rfl [fun v _ => v = ptrV rb, fun v _ => v = ptrV rb, fun v _ => v = ptrV rb, fun v _ => v = .pointer (some ⟨rb, 1, none⟩), fun v _ => v = .int .i64 (i : Int), fun v _ => v = ptrV rb, fun v _ => v = ptrV rb, fun v _ => v = ptrV rb, fun v _ => v = ptrV rb, fun v _ => v = .string ⟨L.toArray⟩, fun v _ => v = .int .i64 (L.length : Int), fun v _ => v = .bool true, fun v _ => v = .bool true, fun v _ => v = .func (.yield l) #[] #[], fun v _ => v = ptrV rb, fun _ _ => False, fun _ _ => False, fun _ _ => False] ⟨stableR_eq _, stableR_eq _, stableR_eq _, stableR_eq _, stableR_eq _, stableR_eq _, stableR_eq _, stableR_eq _, stableR_eq _, stableR_eq _, stableR_eq _, stableR_eq _, stableR_eq _, stableR_eq _, stableR_eq _, fun _ _ _ h _ => h, fun _ _ _ h _ => h, fun _ _ _ h _ => h, trivial⟩ (by kernel_rfl) ⟨G.out.2.1, G.out.2.2⟩ (by kernel_rfl) (by kernel_rfl) (by kernel_rfl) ?ob ?en
        case ob =>
          refine ⟨?_, ?_, ?_, ?_, ?_, ?_, ?_, ?_, ?_, ?_, ?_, ?_, ?_, ?_, ?_, ?_, ?_, ?_, trivial⟩
          · intro A W h r hS hr; have hr0 : r = 0 := Nat.le_zero.1 (hr 0 15 rfl (by kernel_rfl)); subst hr0; obtain ⟨⟨x, H⟩, _⟩ := hS; exact rq_pure BelR.refl rfl (load_run rfl one_ptr (h.frame 1 rfl) ((H.cell (.succ .zero) 0).trans rfl))
          · intro A W h r hS hr; have e3 : A.eval (.tmp 3) = ptrV rb := h.dep 0 3 rfl rfl; refine rq_pure BelR.refl rfl ?_; simp only [execOp, e3]; (simp [go_sem])
          · intro A W h r hS hr; have e4 : A.eval (.tmp 4) = ptrV rb := h.dep 1 4 rfl rfl; refine rq_pure BelR.refl rfl ?_; simp only [execOp, e4]; (simp [go_sem])
          · intro A W h r hS hr; have e5 : A.eval (.tmp 5) = ptrV rb := h.dep 2 5 rfl rfl; refine rq_pure BelR.refl rfl ?_; simp only [execOp, e5]; (simp [go_sem])
          · intro A W h r hS hr; have hr0 : r = 0 := Nat.le_zero.1 (hr 0 15 rfl (by kernel_rfl)); subst hr0; obtain ⟨⟨x, H⟩, _⟩ := hS; exact rq_pure BelR.refl rfl (load_run rfl one_int (h.dep 3 6 rfl rfl) ((H.cell .zero 1).trans rfl))
          · intro A W h r hS hr; have hr0 : r = 0 := Nat.le_zero.1 (hr 0 15 rfl (by kernel_rfl)); subst hr0; obtain ⟨⟨x, H⟩, _⟩ := hS; exact rq_pure BelR.refl rfl (load_run rfl one_ptr (h.frame 1 rfl) ((H.cell (.succ .zero) 0).trans rfl))
          · intro A W h r hS hr; have e8 : A.eval (.tmp 8) = ptrV rb := h.dep 5 8 rfl rfl; refine rq_pure BelR.refl rfl ?_; simp only [execOp, e8]; (simp [go_sem])
          · intro A W h r hS hr; have e9 : A.eval (.tmp 9) = ptrV rb := h.dep 6 9 rfl rfl; refine rq_pure BelR.refl rfl ?_; simp only [execOp, e9]; (simp [go_sem])
          · intro A W h r hS hr; have e10 : A.eval (.tmp 10) = ptrV rb := h.dep 7 10 rfl rfl; refine rq_pure BelR.refl rfl ?_; simp only [execOp, e10]; (simp [go_sem])
          · intro A W h r hS hr; have hr0 : r = 0 := Nat.le_zero.1 (hr 0 15 rfl (by kernel_rfl)); subst hr0; obtain ⟨⟨x, H⟩, _⟩ := hS; exact rq_pure BelR.refl rfl (load_run rfl one_str (h.dep 8 11 rfl rfl) ((H.cell .zero 0).trans rfl))
          · intro A W h r hS hr; exact rq_pure BelR.refl rfl (strlen_run Tryz.underlying9 rfl (h.dep 9 12 rfl rfl))
          · intro A W h r hS hr; have e7 : A.eval (.tmp 7) = .int .i64 (i : Int) := h.dep 4 7 rfl rfl; have e13 : A.eval (.tmp 13) = .int .i64 (L.length : Int) := h.dep 10 13 rfl rfl; refine rq_pure BelR.refl rfl ?_; simp only [execOp, e7, e13]; (simp [go_sem]; omega)
          · intro A W h r hS hr; exact rq_move BelR.refl rfl rfl (h.dep 11 14 rfl rfl)
          · intro A W h r hS hr; exact rq_move BelR.refl (wanted_g rfl (yielded_of (d := 15) rfl (h.dep 12 15 rfl rfl))) rfl (h.frame 0 rfl)
          · intro A W h r hS hr; have hr0 : r = 0 := Nat.le_zero.1 (hr 0 15 rfl (by kernel_rfl)); subst hr0; obtain ⟨⟨x, H⟩, _⟩ := hS; exact rq_pure BelR.refl (wanted_g rfl (yielded_of (d := 15) rfl (h.dep 12 15 rfl rfl))) (load_run rfl one_ptr (h.frame 1 rfl) ((H.cell (.succ .zero) 0).trans rfl))
          · intro A W h hst; obtain ⟨⟨x2, H⟩, hBW⟩ := hst; exact (rx_throwsT (wanted_g rfl (yielded_of (d := 15) rfl (h.dep 12 15 rfl rfl))) rfl (enters_of Tryz.func19 (by kernel_rfl) rfl) (args1 (h.dep 14 17 rfl rfl)) (hwd W (HZ.out.below H.below) (H.blk .zero).2) (fun w' hk => ⟨h.defers, HB.out _ _ (keepsFrom_of_but hb hk) hBW, .inr ⟨_, rfl, ws, i, x, x2, rfl, HE.out, HX.out, H.tailBut hk⟩⟩)).toI
          · intro A W h hst; exact (show False from h.dep 15 18 rfl rfl).elim
          · intro A W h r hS hr; exact (show False from h.dep 16 19 rfl rfl).elim
        case en =>
          intro vals W1 _ hv hst
          exact (show False from hv 15 (by omega)).elim
      | ok p =>
        obtain ⟨d, j⟩ := p
        have hwd := fun w hz hr => (by have := rd_word rb L i U (by omega) hlt hrb w hz hr; rw [hw] at this; exact this : Calls Tryz.prog 19 #[ptrV rb] w (ReadsV rb L U w (.ok (wordV d, j))))
        have hj := wordP_le hlt hw
        have HW := Lib.hid hw
        have HI := Lib.hid (show WInv L (ws ++ [d]) j by
          obtain ⟨⟨h1, h2, f, e, hf⟩, _⟩ := G.out
          obtain ⟨f', rfl⟩ : ∃ f', f = f' + 1 := ⟨f - 1, by omega⟩
          exact ⟨hj.2, by simp; omega, f', by rw [e, words_ok hlt hw], by omega⟩)
        clear hw
        gi_wp2_with fail
        refine wpIn_region_specS BelR (fun _ _ => True) [15, 16] (fun r W => Hd w0 L U b2 b3 b4 b5 rb pb (wsS ws d r) (pS i j r) (iS i j r) W ∧ B W) (fun _ _ _ => trivial) (fun r u v ⟨⟨x, H⟩, hBW⟩ hbel => ⟨⟨x, H.call hbel⟩, HB.out _ _ (keepsFrom_of_below hbel) hBW⟩) BelR.drew BelR.refl (fun _ _ _ _ _ => trivial) 8 18 rfl [fun v _ => v = ptrV rb, fun v _ => v = ptrV rb, fun v _ => v = ptrV rb, fun v _ => v = .pointer (some ⟨rb, 1, none⟩), fun v _ => v = .int .i64 (i : Int), fun v _ => v = ptrV rb, fun v _ => v = ptrV rb, fun v _ => v = ptrV rb, fun v _ => v = ptrV rb, fun v _ => v = .string ⟨L.toArray⟩, fun v _ => v = .int .i64 (L.length : Int), fun v _ => v = .bool true, fun v _ => v = .bool true, fun v _ => v = .func (.yield l) #[] #[], fun v _ => v = ptrV rb, fun v _ => v = wordV d, fun v _ => v = .bool true, fun v _ => v = .bool true] ⟨stableR_eq _, stableR_eq _, stableR_eq _, stableR_eq _, stableR_eq _, stableR_eq _, stableR_eq _, stableR_eq _, stableR_eq _, stableR_eq _, stableR_eq _, stableR_eq _, stableR_eq _, stableR_eq _, stableR_eq _, stableR_eq _, stableR_eq _, stableR_eq _, trivial⟩ (by kernel_rfl) ⟨G.out.2.1, G.out.2.2⟩ (by kernel_rfl) (by kernel_rfl) (by kernel_rfl) ?ob ?en
        case ob =>
          refine ⟨?_, ?_, ?_, ?_, ?_, ?_, ?_, ?_, ?_, ?_, ?_, ?_, ?_, ?_, ?_, ?_, ?_, ?_, trivial⟩
          · intro A W h r hS hr; have hr0 : r = 0 := Nat.le_zero.1 (hr 0 15 rfl (by kernel_rfl)); subst hr0; obtain ⟨⟨x, H⟩, _⟩ := hS; exact rq_pure BelR.refl rfl (load_run rfl one_ptr (h.frame 1 rfl) ((H.cell (.succ .zero) 0).trans rfl))
          · intro A W h r hS hr; have e3 : A.eval (.tmp 3) = ptrV rb := h.dep 0 3 rfl rfl; refine rq_pure BelR.refl rfl ?_; simp only [execOp, e3]; (simp [go_sem])
          · intro A W h r hS hr; have e4 : A.eval (.tmp 4) = ptrV rb := h.dep 1 4 rfl rfl; refine rq_pure BelR.refl rfl ?_; simp only [execOp, e4]; (simp [go_sem])
          · intro A W h r hS hr; have e5 : A.eval (.tmp 5) = ptrV rb := h.dep 2 5 rfl rfl; refine rq_pure BelR.refl rfl ?_; simp only [execOp, e5]; (simp [go_sem])
          · intro A W h r hS hr; have hr0 : r = 0 := Nat.le_zero.1 (hr 0 15 rfl (by kernel_rfl)); subst hr0; obtain ⟨⟨x, H⟩, _⟩ := hS; exact rq_pure BelR.refl rfl (load_run rfl one_int (h.dep 3 6 rfl rfl) ((H.cell .zero 1).trans rfl))
          · intro A W h r hS hr; have hr0 : r = 0 := Nat.le_zero.1 (hr 0 15 rfl (by kernel_rfl)); subst hr0; obtain ⟨⟨x, H⟩, _⟩ := hS; exact rq_pure BelR.refl rfl (load_run rfl one_ptr (h.frame 1 rfl) ((H.cell (.succ .zero) 0).trans rfl))
          · intro A W h r hS hr; have e8 : A.eval (.tmp 8) = ptrV rb := h.dep 5 8 rfl rfl; refine rq_pure BelR.refl rfl ?_; simp only [execOp, e8]; (simp [go_sem])
          · intro A W h r hS hr; have e9 : A.eval (.tmp 9) = ptrV rb := h.dep 6 9 rfl rfl; refine rq_pure BelR.refl rfl ?_; simp only [execOp, e9]; (simp [go_sem])
          · intro A W h r hS hr; have e10 : A.eval (.tmp 10) = ptrV rb := h.dep 7 10 rfl rfl; refine rq_pure BelR.refl rfl ?_; simp only [execOp, e10]; (simp [go_sem])
          · intro A W h r hS hr; have hr0 : r = 0 := Nat.le_zero.1 (hr 0 15 rfl (by kernel_rfl)); subst hr0; obtain ⟨⟨x, H⟩, _⟩ := hS; exact rq_pure BelR.refl rfl (load_run rfl one_str (h.dep 8 11 rfl rfl) ((H.cell .zero 0).trans rfl))
          · intro A W h r hS hr; exact rq_pure BelR.refl rfl (strlen_run Tryz.underlying9 rfl (h.dep 9 12 rfl rfl))
          · intro A W h r hS hr; have e7 : A.eval (.tmp 7) = .int .i64 (i : Int) := h.dep 4 7 rfl rfl; have e13 : A.eval (.tmp 13) = .int .i64 (L.length : Int) := h.dep 10 13 rfl rfl; refine rq_pure BelR.refl rfl ?_; simp only [execOp, e7, e13]; (simp [go_sem]; omega)
          · intro A W h r hS hr; exact rq_move BelR.refl rfl rfl (h.dep 11 14 rfl rfl)
          · intro A W h r hS hr; exact rq_move BelR.refl (wanted_g rfl (yielded_of (d := 15) rfl (h.dep 12 15 rfl rfl))) rfl (h.frame 0 rfl)
          · intro A W h r hS hr; have hr0 : r = 0 := Nat.le_zero.1 (hr 0 15 rfl (by kernel_rfl)); subst hr0; obtain ⟨⟨x, H⟩, _⟩ := hS; exact rq_pure BelR.refl (wanted_g rfl (yielded_of (d := 15) rfl (h.dep 12 15 rfl rfl))) (load_run rfl one_ptr (h.frame 1 rfl) ((H.cell (.succ .zero) 0).trans rfl))
          · intro A W h hst; obtain ⟨⟨x, H⟩, hBW⟩ := hst; exact (rx_readsT (wanted_g rfl (yielded_of (d := 15) rfl (h.dep 12 15 rfl rfl))) rfl (enters_of Tryz.func19 (by kernel_rfl) rfl) (args1 (h.dep 14 17 rfl rfl)) (hwd W (HZ.out.below H.below) (H.blk .zero).2) (fun w' hk hr => ⟨⟨x, H.callBut .zero hk hr⟩, HB.out _ _ (keepsFrom_of_but hb hk) hBW⟩)).toI
          · intro A W h hst; obtain ⟨hH, hBW⟩ := hst; exact ri_yield (wanted_g rfl (yielded_of (d := 15) rfl (h.dep 12 15 rfl rfl))) rfl (h.dep 13 16 rfl rfl) (h.dep 15 18 rfl rfl) (HY.out ws i j d W hlt G.out.1 HW.out hH hBW)
          · intro A W h r hS hr; exact rq_pick BelR.refl rfl rfl (h.dep 12 15 rfl rfl) (h.dep 16 19 rfl rfl)
        case en =>
          intro vals W1 _ hv hst
          have v0 : vals 0 = ptrV rb := hv 0 (by omega)
          have v1 : vals 1 = ptrV rb := hv 1 (by omega)
          have v2 : vals 2 = ptrV rb := hv 2 (by omega)
          have v3 : vals 3 = .pointer (some ⟨rb, 1, none⟩) := hv 3 (by omega)
          have v4 : vals 4 = .int .i64 (i : Int) := hv 4 (by omega)
          have v5 : vals 5 = ptrV rb := hv 5 (by omega)
          have v6 : vals 6 = ptrV rb := hv 6 (by omega)
          have v7 : vals 7 = ptrV rb := hv 7 (by omega)
          have v8 : vals 8 = ptrV rb := hv 8 (by omega)
          have v9 : vals 9 = .string ⟨L.toArray⟩ := hv 9 (by omega)
          have v10 : vals 10 = .int .i64 (L.length : Int) := hv 10 (by omega)
          have v11 : vals 11 = .bool true := hv 11 (by omega)
          have v12 : vals 12 = .bool true := hv 12 (by omega)
          have v13 : vals 13 = .func (.yield l) #[] #[] := hv 13 (by omega)
          have v14 : vals 14 = ptrV rb := hv 14 (by omega)
          have v15 : vals 15 = wordV d := hv 15 (by omega)
          have v16 : vals 16 = .bool true := hv 16 (by omega)
          have v17 : vals 17 = .bool true := hv 17 (by omega)
          simp only [List.append, List.take_succ_cons, List.take_zero, List.take_nil, fillAll, Nat.zero_add, Nat.reduceAdd]
          rw [v0, v1, v2, v3, v4, v5, v6, v7, v8, v9, v10, v11, v12, v13, v14, v15, v16, v17]
          clear hv v0 v1 v2 v3 v4 v5 v6 v7 v8 v9 v10 v11 v12 v13 v14 v15 v16 v17
          try simp only [put_lit, List.setIfInBounds_toArray, List.set_cons_succ, List.set_cons_zero]
          gi_wp2
          go_roundw
          case rel => exact ⟨ws ++ [d], j, Lib.hid ⟨HI.out, hst.1, hst.2⟩⟩
          case measure =>
            obtain ⟨⟨v, H⟩, _⟩ := hst
            rw [rdPos_of (show W1.heap[rb]? = some (.cells (rdC L j) U (0, 0)) from (H.blk .zero).2), hpos]; omega
    · gi_wp2_with fail
      refine wpIn_region_specS BelR (fun _ _ => True) [] (fun _ W => Hd w0 L U b2 b3 b4 b5 rb pb ws i i W ∧ B W) (fun _ _ _ => trivial) (fun r u v ⟨⟨x, H⟩, hBW⟩ hbel => ⟨⟨x, H.call hbel⟩, HB.out _ _ (keepsFrom_of_below hbel) hBW⟩) BelR.drew BelR.refl (fun _ _ _ _ _ => trivial) 8 18 rfl [fun v _ => v = ptrV rb, fun v _ => v = ptrV rb, fun v _ => v = ptrV rb, fun v _ => v = .pointer (some ⟨rb, 1, none⟩), fun v _ => v = .int .i64 (i : Int), fun v _ => v = ptrV rb, fun v _ => v = ptrV rb, fun v _ => v = ptrV rb, fun v _ => v = ptrV rb, fun v _ => v = .string ⟨L.toArray⟩, fun v _ => v = .int .i64 (L.length : Int), fun v _ => v = .bool false, fun v _ => v = .bool false, fun v _ => v = undef, fun v _ => v = undef, fun v _ => v = undef, fun v _ => v = undef, fun v _ => v = .bool false] ⟨stableR_eq _, stableR_eq _, stableR_eq _, stableR_eq _, stableR_eq _, stableR_eq _, stableR_eq _, stableR_eq _, stableR_eq _, stableR_eq _, stableR_eq _, stableR_eq _, stableR_eq _, stableR_eq _, stableR_eq _, stableR_eq _, stableR_eq _, stableR_eq _, trivial⟩ (by kernel_rfl) ⟨G.out.2.1, G.out.2.2⟩ (by kernel_rfl) (by kernel_rfl) (by kernel_rfl) ?ob ?en
      case ob =>
        refine ⟨?_, ?_, ?_, ?_, ?_, ?_, ?_, ?_, ?_, ?_, ?_, ?_, ?_, ?_, ?_, ?_, ?_, ?_, trivial⟩
        · intro A W h r hS hr; obtain ⟨⟨x, H⟩, _⟩ := hS; exact rq_pure BelR.refl rfl (load_run rfl one_ptr (h.frame 1 rfl) ((H.cell (.succ .zero) 0).trans rfl))
        · intro A W h r hS hr; have e3 : A.eval (.tmp 3) = ptrV rb := h.dep 0 3 rfl rfl; refine rq_pure BelR.refl rfl ?_; simp only [execOp, e3]; (simp [go_sem])
        · intro A W h r hS hr; have e4 : A.eval (.tmp 4) = ptrV rb := h.dep 1 4 rfl rfl; refine rq_pure BelR.refl rfl ?_; simp only [execOp, e4]; (simp [go_sem])
        · intro A W h r hS hr; have e5 : A.eval (.tmp 5) = ptrV rb := h.dep 2 5 rfl rfl; refine rq_pure BelR.refl rfl ?_; simp only [execOp, e5]; (simp [go_sem])
        · intro A W h r hS hr; obtain ⟨⟨x, H⟩, _⟩ := hS; exact rq_pure BelR.refl rfl (load_run rfl one_int (h.dep 3 6 rfl rfl) ((H.cell .zero 1).trans rfl))
        · intro A W h r hS hr; obtain ⟨⟨x, H⟩, _⟩ := hS; exact rq_pure BelR.refl rfl (load_run rfl one_ptr (h.frame 1 rfl) ((H.cell (.succ .zero) 0).trans rfl))
        · intro A W h r hS hr; have e8 : A.eval (.tmp 8) = ptrV rb := h.dep 5 8 rfl rfl; refine rq_pure BelR.refl rfl ?_; simp only [execOp, e8]; (simp [go_sem])
        · intro A W h r hS hr; have e9 : A.eval (.tmp 9) = ptrV rb := h.dep 6 9 rfl rfl; refine rq_pure BelR.refl rfl ?_; simp only [execOp, e9]; (simp [go_sem])
        · intro A W h r hS hr; have e10 : A.eval (.tmp 10) = ptrV rb := h.dep 7 10 rfl rfl; refine rq_pure BelR.refl rfl ?_; simp only [execOp, e10]; (simp [go_sem])
        · intro A W h r hS hr; obtain ⟨⟨x, H⟩, _⟩ := hS; exact rq_pure BelR.refl rfl (load_run rfl one_str (h.dep 8 11 rfl rfl) ((H.cell .zero 0).trans rfl))
        · intro A W h r hS hr; exact rq_pure BelR.refl rfl (strlen_run Tryz.underlying9 rfl (h.dep 9 12 rfl rfl))
        · intro A W h r hS hr; have e7 : A.eval (.tmp 7) = .int .i64 (i : Int) := h.dep 4 7 rfl rfl; have e13 : A.eval (.tmp 13) = .int .i64 (L.length : Int) := h.dep 10 13 rfl rfl; refine rq_pure BelR.refl rfl ?_; simp only [execOp, e7, e13]; (simp [go_sem]; omega)
        · intro A W h r hS hr; exact rq_move BelR.refl rfl rfl (h.dep 11 14 rfl rfl)
        · intro A W h r hS hr; exact rq_skip (not_wanted_g rfl (yielded_of (d := 15) rfl (h.dep 12 15 rfl rfl)) (by decide)) rfl
        · intro A W h r hS hr; exact rq_skip (not_wanted_g rfl (yielded_of (d := 15) rfl (h.dep 12 15 rfl rfl)) (by decide)) rfl
        · intro A W h r hS hr; exact rq_skip (not_wanted_g rfl (yielded_of (d := 15) rfl (h.dep 12 15 rfl rfl)) (by decide)) rfl
        · intro A W h r hS hr; exact rq_skip (not_wanted_g rfl (yielded_of (d := 15) rfl (h.dep 12 15 rfl rfl)) (by decide)) rfl
        · intro A W h r hS hr; exact rq_pick BelR.refl rfl rfl (h.dep 12 15 rfl rfl) rfl
      case en =>
        intro vals W1 _ hv hst
        have v0 : vals 0 = ptrV rb := hv 0 (by omega)
        have v1 : vals 1 = ptrV rb := hv 1 (by omega)
        have v2 : vals 2 = ptrV rb := hv 2 (by omega)
        have v3 : vals 3 = .pointer (some ⟨rb, 1, none⟩) := hv 3 (by omega)
        have v4 : vals 4 = .int .i64 (i : Int) := hv 4 (by omega)
        have v5 : vals 5 = ptrV rb := hv 5 (by omega)
        have v6 : vals 6 = ptrV rb := hv 6 (by omega)
        have v7 : vals 7 = ptrV rb := hv 7 (by omega)
        have v8 : vals 8 = ptrV rb := hv 8 (by omega)
        have v9 : vals 9 = .string ⟨L.toArray⟩ := hv 9 (by omega)
        have v10 : vals 10 = .int .i64 (L.length : Int) := hv 10 (by omega)
        have v11 : vals 11 = .bool false := hv 11 (by omega)
        have v12 : vals 12 = .bool false := hv 12 (by omega)
        have v13 : vals 13 = undef := hv 13 (by omega)
        have v14 : vals 14 = undef := hv 14 (by omega)
        have v15 : vals 15 = undef := hv 15 (by omega)
        have v16 : vals 16 = undef := hv 16 (by omega)
        have v17 : vals 17 = .bool false := hv 17 (by omega)
        simp only [List.append, List.take_succ_cons, List.take_zero, List.take_nil, fillAll, Nat.zero_add, Nat.reduceAdd]
        rw [v0, v1, v2, v3, v4, v5, v6, v7, v8, v9, v10, v11, v12, v13, v14, v15, v16, v17]
        clear hv v0 v1 v2 v3 v4 v5 v6 v7 v8 v9 v10 v11 v12 v13 v14 v15 v16 v17
        try simp only [put_lit, List.setIfInBounds_toArray, List.set_cons_succ, List.set_cons_zero]
        gi_wp2
        go_end0
        obtain ⟨hH, hBW⟩ := hst
        obtain ⟨⟨h1, h2, f, e, hf⟩, _⟩ := G.out
        exact ⟨hBW, .inl ⟨_, rfl, ws, i, by rw [e, words_end hlt], hH⟩⟩
end Go.Proofs.YtllmgmfihijejaaGreatDoor
/-
  The walk of package lex: Words.
-/
namespace Go.Proofs.YtllmgmfihijejaaGreatDoor
open Go.RowKit Go.Shelf Go.MapKept
attribute [local go_sem] Oper.semAt_some
set_option linter.unusedSimpArgs false

theorem mkf (fn : Fn) (first cap : Array Value) (w : World) : (Instr.makeFunc fn first cap).run Tryz.prog w = .ok (.func fn first cap) w := rfl
theorem lx_words (rb : Nat) (w0 : World) : Calls Tryz.prog 12 #[ptrV rb] w0 fun e w' => (∃ pb, e = .returned (.func (.func 18) #[] #[.pointer (some ⟨pb, 0, none⟩)]) ∧ w0.heap.size ≤ pb ∧ w'.heap[pb]? = some (.cells #[ptrV rb] 44 (0, 0))) ∧ Below w0.heap.size w0 w' := by
  have H := Hold.start w0
  have hmf := mkf
  go_enter Tryz.func12, Tryz.ntmps12
  go_wp2_with (first | ((first | ((with_reducible refine kgA 1 ?_); refine kA 1 H ?_) | ((with_reducible refine kgX 1 ?_); (first | refine kS 1 H ?_ | refine kB 1 H ?_))); clear H; intro b1 w H; (try simp only [nrm, nrl, Value.cells] at H)) | fail)
  go_ret
  exact ⟨⟨b1, rfl, by have := (H.blk .zero).1; simpa using this, (H.blk .zero).2⟩, H.below⟩

theorem catch_idle (n b4 b2 : Nat) (w : World) : CallsDIn Fence.wide n Tryz.prog 11 #[.pointer (some ⟨b4, 0, none⟩), .pointer (some ⟨b2, 0, none⟩)] .returning w fun e u' w' => e = .returned (.tuple #[]) ∧ u' = .returning ∧ w' = w := by
  refine callsDIn_of_wpSIn Tryz.func11 rfl trivial fun c₀ cs hu => ?_
  apply wpSIn_seq
  apply wpSIn_region
  simp [wpOpsSIn, go_sem, recoverD, hu, Tryz.ntmps11, Exit.thenS]
  apply wpSIn_seq
  apply wpSIn_region
  simp [wpOpsSIn, go_sem, Exit.thenS]
  refine wpSIn_cond (t := false) (by simp [Act.eval, Array.replicate]) ?_
  simp only [Bool.false_eq_true, if_false]
  refine wpSIn_of_wpIn rfl (wpIn_skip ?_)
  cases c₀
  simp_all [bodyPostS, results, Tryz.results11]

theorem assert_errno (x : Int) (w : World) : (Instr.typeAssert (.iface 26 (.int .i64 x)) 20 26 true).run Tryz.prog w = .ok (.tuple #[.int .i64 x, .bool true]) w := by kernel_rfl
set_option maxRecDepth 100000 in
set_option maxHeartbeats 4000000 in
theorem catch_thrown (n b4 b2 : Nat) (x : Nat) (v4 v2 : Value) (w : World) (hne : b4 ≠ b2) (h4 : w.heap[b4]? = some (.cells #[v4] 26 (0, 0))) (h2 : w.heap[b2]? = some (.cells #[v2] 25 (0, 0))) :
    CallsDIn Fence.wide n Tryz.prog 11 #[.pointer (some ⟨b4, 0, none⟩), .pointer (some ⟨b2, 0, none⟩)] (.panicking (thrown x)) w fun e u' w' => e = .returned (.tuple #[]) ∧
      u' = .panicking [{ v := .iface 26 (.int .i64 x), recovered := true }] ∧ w' = (w.setCell ⟨b4, 0, none⟩ (.int .i64 x)).setCell ⟨b2, 0, none⟩ (.slice none 0 0) := by
  have c4 : w.cell? ⟨b4, 0, none⟩ = some v4 := cell_of_row w b4 0 _ _ _ h4
  have f4 : w.frozen? ⟨b4, 0, none⟩ = false := by simp [World.frozen?, h4]
  have c2 : (w.setCell ⟨b4, 0, none⟩ (.int .i64 x)).cell? ⟨b2, 0, none⟩ = some v2 := by
    rw [cell_of_row _ b2 0 _ _ _ ((Below.heap_setCell w _ _ b2 (fun e => hne e.symm)).trans h2)]; rfl
  have f2 : (w.setCell ⟨b4, 0, none⟩ (.int .i64 x)).frozen? ⟨b2, 0, none⟩ = false := by
    simp [World.frozen?, (Below.heap_setCell w ⟨b4, 0, none⟩ (.int .i64 x) b2 (fun e => hne e.symm)).trans h2]
  have hta := assert_errno x
  refine callsDIn_of_wpSIn Tryz.func11 rfl trivial fun c₀ cs hu => ?_
  unfold thrown at hu
  apply wpSIn_seq
  apply wpSIn_region
  simp [wpOpsSIn, go_sem, recoverD, hu, Tryz.ntmps11, Exit.thenS]
  apply wpSIn_seq
  apply wpSIn_region
  simp [wpOpsSIn, go_sem, Exit.thenS]
  refine wpSIn_cond (t := true) (by simp [Act.eval, Array.replicate]) ?_
  simp only [if_true]
  refine wpSIn_of_wpIn rfl ?_
  rw [wpIn_wide]
  simp only [Array.replicate_succ, Array.replicate_zero, List.push_toArray, List.append_toArray, List.nil_append, List.cons_append, List.setIfInBounds_toArray, List.set_cons_succ, List.set_cons_zero]
  go_wp2
  simp [bodyPostS, results, Tryz.results11]

/-! ### three results in memory -/
theorem results3 {P : Program} {fn : Func} {p q r : Tmp} {T2 T3 T4 : TypeId} (hres : fn.results = #[.cell p T2, .cell q T3, .cell r T4]) {tmps : Array Value} {w : World} {b2 b3 b4 : Nat}
    (h2 : tmps.getD p undef = .pointer (some ⟨b2, 0, none⟩)) (h3 : tmps.getD q undef = .pointer (some ⟨b3, 0, none⟩)) (h4 : tmps.getD r undef = .pointer (some ⟨b4, 0, none⟩)) (t2 : oneB P T2 = true) (t3 : oneB P T3 = true) (t4 : oneB P T4 = true)
    {v2 v3 v4 : Value} (c2 : w.cell? ⟨b2, 0, none⟩ = some v2) (c3 : w.cell? ⟨b3, 0, none⟩ = some v3) (c4 : w.cell? ⟨b4, 0, none⟩ = some v4) : (results fn tmps).run P w = .ok (.tuple #[v2, v3, v4]) w := by
  have e2 : tmps[p]?.getD undef = .pointer (some ⟨b2, 0, none⟩) := by simpa using h2
  have e3 : tmps[q]?.getD undef = .pointer (some ⟨b3, 0, none⟩) := by simpa using h3
  have e4 : tmps[r]?.getD undef = .pointer (some ⟨b4, 0, none⟩) := by simpa using h4
  simp [results, hres, e2, e3, e4, asAddr, run_loadVar_one t2 c2, run_loadVar_one t3 c3, run_loadVar_one t4 c4]


theorem HoldG.perm {M : Nat → Prop} {w0 w : World} {l l' : List Res} (H : HoldG M w0 w l) (f : Nat → Nat) (h : ∀ i, i < l'.length → l'[i]? = l[f i]?) (hf : ∀ i j, i < l'.length → j < l'.length → i ≠ j → f i ≠ f j) : HoldG M w0 w l' := by
  refine ⟨H.keep, fun i r hi => H.all (f i) r ((h i (List.getElem?_eq_some_iff.1 hi).1) ▸ hi), fun i j r s hij h1 h2 => ?_⟩
  have l1 := (List.getElem?_eq_some_iff.1 h1).1
  have l2 := (List.getElem?_eq_some_iff.1 h2).1
  exact H.apart (f i) (f j) r s (hf i j l1 l2 hij) ((h i l1) ▸ h1) ((h j l2) ▸ h2)
def isCellR : Res → Bool | .mp _ _ _ => false | _ => true
/-- what is no cells may be turned: what the call owns stays -/
theorem HoldG.stay {M : Nat → Prop} {w0 : World} {l : List Res} (hl : l.all isCellR = true) {B : Nat} (hB : w0.heap.size ≤ B) : Stay B (fun W => HoldG M w0 W l) := by
  intro W W' row H hg hr
  refine ⟨H.keep.trans ⟨hg.os, hg.tape, hg.output, hg.size, fun k h1 h2 => hg.block k (Nat.lt_of_lt_of_le h1 H.keep.size) (fun e => by have := (hr k e.symm).1; omega)⟩, fun i s hs => ?_, H.apart⟩
  have hA := H.all i s hs
  have hc : isCellR s = true := List.all_eq_true.1 hl s (List.mem_of_getElem? hs)
  refine hA.kept (fun b hb => hg.block b (hA.lt b hb).2 (fun e => ?_))
  obtain ⟨_, o, ho, hcell⟩ := hr b e.symm
  cases s with
  | blk b' cs T =>
    cases hb
    rw [hA.2] at ho; cases ho; cases hcell
  | row v e sz n xs =>
    obtain ⟨_, ⟨hv, _⟩ | ⟨g, cap, cur, rfl, _, hg', _⟩⟩ := hA
    · have h2 : v.ownBlock = some b := hb
      rw [hv] at h2; cases h2
    · have : g = b := by simpa [Res.place, Value.ownBlock] using hb
      subst this
      rw [hg'] at ho; cases ho; cases hcell
  | mp b' es c => cases hc
theorem Stay.ex {α : Type} {B : Nat} {I : α → World → Prop} (h : ∀ x, Stay B (I x)) : Stay B (fun W => ∃ x, I x W) := fun W W' row ⟨x, hx⟩ hg hr => ⟨x, h x W W' row hx hg hr⟩
theorem Stay.and {B : Nat} {p : Prop} {I : World → Prop} (h : Stay B I) : Stay B (fun W => p ∧ I W) := fun W W' row ⟨hp, hx⟩ hg hr => ⟨hp, h W W' row hx hg hr⟩
theorem info_LWord : (Tryz.prog.info? 42).map (fun i => (i.zero, i.size, i.bytes)) = some (some (.agg (wordC { kind := 0, place := 0 })), 17, 88) := by kernel_rfl
theorem run_lword1 (d : WordD) (W : World) : (Instr.buildSlice 25 1 #[(0, wordV d)]).run Tryz.prog W = .ok (.slice (some ⟨W.heap.size, 0, none⟩) 1 1) (W.alloc (.cells (wordC d) 42)) := by kernel_rfl

/-! ### arms that also thread what the loop keeps -/
section
variable {M : Nat → Prop} {P : Program} {ops : Array Oper} {o : Oper} {rest : List Oper} {a : Act} {w w0 : World} {l : List Res} {Q : Exit → Act → World → Prop} {B : Nat} {W0 : World}
theorem own_build' (hg : Region.wanted o (yielded ops a.tmps) = true) (TS : TypeId) (n : Nat) (parts : Array (Nat × Operand)) (ho : o.op = .buildSlice TS n parts) (H : HoldG M w0 w l) (N : KeepsFrom B W0 w) (cs : Array Value) (T : TypeId)
    (hr : ∀ W : World, (Instr.buildSlice TS n (parts.map fun (i, x) => (i, a.eval x))).run P W = .ok (.slice (some ⟨W.heap.size, 0, none⟩) n n) (W.alloc (.cells cs T)))
    (h : ∀ b w', HoldG M w0 w' (l ++ [.blk b cs T]) → KeepsFrom B W0 w' → wpList P ops Q rest (a.put o.dst (.slice (some ⟨b, 0, none⟩) n n)) w') : wpList P ops Q (o :: rest) a w :=
  wpList_wanted hg fun _ hK => by
    unfold Oper.wp execOp
    simp only [ho, Sem.run_bind, hr, Result.andThen_ok]
    exact hK _ _ (h _ _ (H.alloc cs T) (N.trans (KeepsFrom.of_grownBy (World.grownBy_alloc w _ none) (fun j e => by cases e))))
theorem keepsFrom_cells {W W' : World} {b : Nat} {cs : Array Value} {T : TypeId} {f : Nat × Nat} (hb : W.heap[b]? = some (.cells cs T f)) (hg : W.grownBy W' (some b)) : KeepsFrom B W W' :=
  ⟨hg.size, fun k o _ hk ho => (hg.block k (Array.getElem?_eq_some_iff.1 hk).1 (fun e => by cases e; rw [hb] at hk; cases hk; cases ho)).trans hk⟩
theorem own_store1' (hg : Region.wanted o (yielded ops a.tmps) = true) (T : TypeId) (x y : Operand) (ho : o.op = .store T x y) {b k : Nat} (hx : a.eval x = .pointer (some ⟨b, k, none⟩)) {v : Value} (hy : a.eval y = v) (H : HoldG M w0 w l) (N : KeepsFrom B W0 w) {i : Nat} {cs : Array Value} {U : TypeId} (hi : At l i (.blk b cs U))
    (h1 : v.oneCell' = true) (hk : k < cs.size) (hT : sizeB P T 1 = true) (h : ∀ w', HoldG M w0 w' (l.set i (.blk b (cs.setIfInBounds k v) U)) → KeepsFrom B W0 w' → wpList P ops Q rest (a.put o.dst undef) w') : wpList P ops Q (o :: rest) a w :=
  wpList_wanted hg fun _ hK => by
    unfold Oper.wp execOp
    have hs : (⟨b, k, none⟩ : Addr).add 0 = ⟨b, k, none⟩ := by rw [Addr.add_mid]; rfl
    simp only [ho, hx, hy, Instr.storeAt, Instr.sureAddr, Sem.run_bind, Sem.run_pure, Result.andThen_ok, run_storeVar_one1 (P := P) (w := w) hT h1 (by rw [H.cell hi]; simp [hk]) (H.frozen hi k) hs]
    exact hK _ _ (h _ (H.setCell hi v) (N.trans (keepsFrom_cells (H.blk hi).2 (grownBy_setCellK w b k v))))
theorem own_append' (hg : o.guard = none) (s x : Operand) (T : TypeId) (ho : o.op = .call { callee := .builtin .append, args := #[s, x], argTypes := #[T, T] }) (H : HoldG M w0 w l) (N : KeepsFrom B W0 w) {i j b : Nat} {v : Value} {e : TypeId} {sz n m c : Nat} {xs : List Value} {cs : Array Value} {U : TypeId}
    (hs : a.eval s = v) (hx : a.eval x = .slice (some ⟨b, 0, none⟩) m c) (hi : At l i (.row v e sz n xs)) (hj : At l j (.blk b cs U)) {it : TypeInfo} {z : Value} {bytes : Nat}
    (h1 : P.underlying T = some (.slice e)) (h2 : P.info? e = some it) (h3 : it.zero = some z) (h4 : it.size = sz) (h5 : it.bytes = bytes) (h6 : z.cells.size = sz) (h7 : 0 < sz) (hcs : cs.size = m * sz) (h1c : cs.toList.all (·.oneCell') = true)
    (b1 : n + m ≤ maxLen) (b2 : (n + m) * bytes ≤ 140737488355328)
    (h : ∀ v' w', v'.oneCell' = true → HoldG M w0 w' (l.set i (.row v' e sz (n + m) (xs ++ cs.toList))) → KeepsFrom B W0 w' → wpList P ops Q rest (a.put o.dst v') w') : wpList P ops Q (o :: rest) a w := by
  refine wpList_append_own_at w hg s x T ho w0.heap.size e it z sz bytes h1 h2 h3 h4 h5 h6 h7 v n xs hs (H.all i _ hi.get) ⟨b, 0, none⟩ m c cs.toList hx (by simpa using hcs) (fun q u hq => ?_) (fun u hu => List.all_eq_true.1 h1c u hu) b1 b2 H.keep.size (fun v' w' r1 r2 _ r4 => h v' w' ?_ ?_ ?_)
  · rw [Addr.add_mid, H.cell hj]
    simpa using hq
  · obtain ⟨_, ⟨hv, _⟩ | ⟨g, cap, cur, hv, _⟩⟩ := r1 <;> rw [hv] <;> rfl
  · refine H.upd hi.get (by exact r2) r1 (fun b' hb' => ?_)
    rcases r4 with r4 | r4
    · left; show v.ownBlock = some b'; rw [← r4]; exact hb'
    · right
      have : v'.ownBlock = some b' := hb'
      rw [r4] at this
      cases this; exact Nat.le_refl _
  · refine N.trans ?_
    obtain ⟨_, ⟨hv, _⟩ | ⟨g, cap, cur, hv, _, hg', _⟩⟩ := H.all i _ hi.get
    · rw [hv] at r2; exact KeepsFrom.of_grownBy r2 (fun j e => by cases e)
    · rw [hv] at r2; exact keepsFrom_cells hg' r2
end
end Go.Proofs.YtllmgmfihijejaaGreatDoor
/-
  The walk of package lex: Words.
-/
namespace Go.Proofs.YtllmgmfihijejaaGreatDoor
open Go.RowKit Go.Shelf Go.MapKept
attribute [local go_sem] Oper.semAt_some
set_option linter.unusedSimpArgs false

def frW (L : Str) (b2 b3 b4 b5 rb pb : Nat) (v6 v17 : Value) : Array Value := #[.string ⟨L.toArray⟩, undef, .pointer (some ⟨b2, 0, none⟩), .pointer (some ⟨b3, 0, none⟩), .pointer (some ⟨b4, 0, none⟩), .pointer (some ⟨b5, 0, none⟩), v6, .string ⟨L.toArray⟩, .int .i64 (L.length : Int), .bool false,
  .func (.func 11) #[] #[.pointer (some ⟨b4, 0, none⟩), .pointer (some ⟨b2, 0, none⟩)], .string ⟨L.toArray⟩, .agg #[.string ⟨L.toArray⟩, .int .i64 0], .agg #[.string ⟨L.toArray⟩, .int .i64 0], .pointer (some ⟨rb, 0, none⟩), .pointer (some ⟨rb, 0, none⟩),
  .func (.func 18) #[] #[.pointer (some ⟨pb, 0, none⟩)], v17, undef, undef, undef, undef, undef, undef, undef, undef, undef, undef]

set_option maxRecDepth 100000 in
set_option maxHeartbeats 8000000 in
theorem lx_Words (L : Str) (w0 : World) (hz : MaxL w0) : Calls Tryz.prog 5 #[.string ⟨L.toArray⟩] w0 fun e w' => WordsR 42 w0.heap.size (wordsF L) e w' ∧ Below w0.heap.size w0 w' := by
  have H := Hold.start w0
  by_cases hlen : 1000 < L.length
  · have d0 : decide ((1000 : Int) < (L.length : Int)) = true := by simp; omega
    have E := Lib.hid (show wordsF L = .error (0, 3) by unfold wordsF; rw [if_pos hlen])
    go_enter Tryz.func5, Tryz.ntmps5
    go_wp2_with (first | ((first | ((with_reducible refine kgA 2 ?_); refine kA 2 H ?_) | ((with_reducible refine kgX 2 ?_); (first | refine kS 2 H ?_ | refine kB 2 H ?_))); clear H; intro b2 w H; (try simp only [nrm, nrl, Value.cells] at H)) | ((first | ((with_reducible refine kgA 3 ?_); refine kA 3 H ?_) | ((with_reducible refine kgX 3 ?_); (first | refine kS 3 H ?_ | refine kB 3 H ?_))); clear H; intro b3 w H; (try simp only [nrm, nrl, Value.cells] at H)) | ((first | ((with_reducible refine kgA 4 ?_); refine kA 4 H ?_) | ((with_reducible refine kgX 4 ?_); (first | refine kS 4 H ?_ | refine kB 4 H ?_))); clear H; intro b4 w H; (try simp only [nrm, nrl, Value.cells] at H)) | ((with_reducible refine gT ?_); (refine aO H ?_; clear H; intro w H; (try simp only [nrm, nrl, Value.cells] at H))))
    refine bodyPost_ret (results3 Tryz.results5 rfl rfl rfl one_words one_int one_errno ((H.cell .zero 0).trans rfl) ((H.cell (.succ .zero) 0).trans rfl) ((H.cell (.succ (.succ .zero)) 0).trans rfl)) rfl ?_
    exact ⟨WordsR.no E.out, H.below⟩
  · have d0 : decide ((1000 : Int) < (L.length : Int)) = false := by simp; omega
    have E := Lib.hid (show wordsF L = wordsP L by unfold wordsF; rw [if_neg hlen])
    have hmf := mkf
    refine calls_of_wide ?_
    refine callsIn_of_wp_marks Tryz.func5 rfl trivial ?_ rfl
    simp only [Tryz.ntmps5, List.size_toArray, List.length_cons, List.length_nil, Nat.reduceAdd, Nat.reduceSub, Array.replicate_succ, Array.replicate_zero, List.push_toArray, List.append_toArray, List.nil_append, List.cons_append]
    rw [wpIn_wide]
    go_wp2_with (first | ((first | ((with_reducible refine kgA 2 ?_); refine kA 2 H ?_) | ((with_reducible refine kgX 2 ?_); (first | refine kS 2 H ?_ | refine kB 2 H ?_))); clear H; intro b2 w H; (try simp only [nrm, nrl, Value.cells] at H)) | ((first | ((with_reducible refine kgA 3 ?_); refine kA 3 H ?_) | ((with_reducible refine kgX 3 ?_); (first | refine kS 3 H ?_ | refine kB 3 H ?_))); clear H; intro b3 w H; (try simp only [nrm, nrl, Value.cells] at H)) | ((first | ((with_reducible refine kgA 4 ?_); refine kA 4 H ?_) | ((with_reducible refine kgX 4 ?_); (first | refine kS 4 H ?_ | refine kB 4 H ?_))); clear H; intro b4 w H; (try simp only [nrm, nrl, Value.cells] at H)) | ((first | ((with_reducible refine kgA 5 ?_); refine kA 5 H ?_) | ((with_reducible refine kgX 5 ?_); (first | refine kS 5 H ?_ | refine kB 5 H ?_))); clear H; intro b5 w H; (try simp only [nrm, nrl, Value.cells] at H)) | ((first | ((with_reducible refine kgA 14 ?_); refine kA 14 H ?_) | ((with_reducible refine kgX 14 ?_); (first | refine kS 14 H ?_ | refine kB 14 H ?_))); clear H; intro b14 w H; (try simp only [nrm, nrl, Value.cells] at H)) | (first | ((with_reducible refine gT ?_); (refine aO H ?_; clear H; intro w H; (try simp only [nrm, nrl, Value.cells] at H))) | ((with_reducible refine gL ?_); refine aG H ?_)) | (go_at_call 12; (with_reducible refine (lx_words b14 _).mono ?_); rintro e w ⟨⟨pb, rfl, hpn, hpb⟩, hb⟩; replace H := H.gain hb [.blk pb #[ptrV b14] 44] (by intro r hr; simp only [List.mem_cons, List.not_mem_nil, or_false] at hr; subst hr; exact ⟨⟨.inl (Nat.le_trans H.keep.size hpn), hpb⟩, fun b e => by cases e; exact hpn⟩) (List.pairwise_singleton _ _); clear hb hpn hpb; (try simp only [nrm, nrl, Value.cells] at H)))
    rename_i Kc hKc
    replace H := H.addNil 42 17
    simp only [List.cons_append, List.nil_append] at H
    have hpm : ∀ i, i < 7 → ∀ j, j < 7 → i ≠ j → [3, 5, 0, 1, 2, 4, 6].getD i 0 ≠ [3, 5, 0, 1, 2, 4, 6].getD j 0 := by decide
    have H0 : Hd w0 L 48 b2 b3 b4 b5 b14 pb [] 0 0 w := ⟨.slice none 0 0, H.perm (fun i => [3, 5, 0, 1, 2, 4, 6].getD i 0) (fun i hi => by
      match i, hi with
      | 0, _ => rfl | 1, _ => rfl | 2, _ => rfl | 3, _ => rfl | 4, _ => rfl | 5, _ => rfl | 6, _ => rfl
      | k + 7, h => exact absurd h (by simp [HdL])) (fun i j hi hj => hpm i hi j hj)⟩
    have hB : w0.heap.size ≤ w.heap.size := H.keep.size
    have hrb : b14 < w.heap.size := (Array.getElem?_eq_some_iff.1 (H.blk (.succ (.succ (.succ .zero)))).2).1
    have hr0 : b14 ≠ 0 := by
      rintro rfl
      rcases (H.blk (.succ (.succ (.succ .zero)))).1 with h | h
      · obtain ⟨m, hm⟩ := hz
        have : w0.heap[0]? = none := Array.getElem?_eq_none (by omega)
        simp [World.cell?, this] at hm
      · exact h
    clear H
    rw [← wpIn_wide (n := 9)]
    refine wpIn_rangeFunc_state (σ := List WordD × Nat) (α := WordD) rfl (by omega) (gf := 18) (lb := #[.pointer (some ⟨pb, 0, none⟩)]) rfl trivial (enters_of Tryz.func18 (by kernel_rfl) rfl) (encs := fun d => #[wordV d]) (fun _ => rfl)
      (Hd w0 L 48 b2 b3 b4 b5 b14 pb [] 0 0)
      (fun W => ∃ ws p, wordsP L = .ok ws ∧ Hd w0 L 48 b2 b3 b4 b5 b14 pb ws p p W)
      (fun ch W => ∃ ws p x v, ch = thrown x ∧ wordsP L = .error (p, x) ∧ (x = 4 ∨ x = 6) ∧ Hold w0 W (HdL L 48 b2 b3 b4 b5 b14 pb v ws p 0).tail)
      (fun s d W => ∃ j, s.2 < L.length ∧ WInv L s.1 s.2 ∧ wordP L s.2 = .ok (d, j) ∧ Hd w0 L 48 b2 b3 b4 b5 b14 pb s.1 s.2 j W)
      (fun s d W => ∃ j, wordP L s.2 = .ok (d, j) ∧ Hd w0 L 48 b2 b3 b4 b5 b14 pb (s.1 ++ [d]) j j W)
      (fun s d a1 W => ∃ b6 j v, a1 = { tmps := frW L b2 b3 b4 b5 b14 pb (.pointer (some ⟨b6, 0, none⟩)) (wordV d), defers := [] } ∧ (s.2 < L.length ∧ WInv L s.1 s.2 ∧ wordP L s.2 = .ok (d, j)) ∧ Hold w0 W (HdL L 48 b2 b3 b4 b5 b14 pb v s.1 s.2 j ++ [.blk b6 (wordC d) 42]))
      (Stay.ex fun v => HoldG.stay rfl hB)
      (Stay.ex fun ws => Stay.ex fun p => Stay.and (Stay.ex fun v => HoldG.stay rfl hB))
      (fun ch => Stay.ex fun ws => Stay.ex fun p => Stay.ex fun x => Stay.ex fun v => Stay.and (Stay.and (Stay.and (HoldG.stay rfl hB))))
      (fun s d => Stay.ex fun j => Stay.and (Stay.ex fun v => HoldG.stay rfl hB))
      (fun s d a1 => Stay.ex fun b6 => Stay.ex fun j => Stay.ex fun v => Stay.and (Stay.and (HoldG.stay rfl hB)))
      ?iter H0 ?assign ?body ?done ?pan
    case iter =>
      intro l B hB' hY W hI hBW
      refine (words_in w0 L 48 b2 b3 b4 b5 b14 pb (by omega) hr0 hz l B w.heap.size hrb hB' ?_ W hI hBW).mono (fun e W' h => h)
      intro ws i j d W1 hi hw hp hH hBW1
      exact (hY (ws, i) d W1 ⟨j, hi, hw, hp, hH⟩ hBW1).mono (fun e W' h => ⟨h.1, by obtain ⟨j', hj', hd⟩ := h.2.1; rw [hp] at hj'; cases hj'; exact hd, h.2.2⟩)
    case assign =>
      rintro l ⟨ws, i⟩ d W ⟨j, hi, hw, hp, v, HW⟩
      simp only [List.zip_toArray, List.foldl_toArray, List.zip_cons_cons, List.zip_nil_right, List.zip_nil_left, List.foldl_cons, List.foldl_nil, List.setIfInBounds_toArray, List.set_cons_succ, List.set_cons_zero]
      unfold frW
      refine wpIn_region_lit (list_inRound (by rintro ⟨_, _, h⟩; exact h) _ _ _ rfl ?_)
      have H := Hold.start W
      go_wp2_with (first | ((first | ((with_reducible refine kgA 6 ?_); refine kA 6 H ?_) | ((with_reducible refine kgX 6 ?_); (first | refine kS 6 H ?_ | refine kB 6 H ?_))); clear H; intro b6 w H; (try simp only [nrm, nrl, Value.cells] at H)) | ((with_reducible refine gT ?_); (refine aT H ?_; clear H; intro w H; (try simp only [nrm, nrl, Value.cells] at H))))
      refine ⟨keepsFrom_of_below H.below, v, HW.gain H.below [.blk b6 (wordC d) 42] (fun r hr => ?_) (List.pairwise_singleton _ _)⟩
      simp only [List.mem_cons, List.not_mem_nil, or_false] at hr
      subst hr
      have hb6 : W.heap.size ≤ b6 := by rcases (H.blk .zero).1 with h | h; exact h; exact h.elim
      exact ⟨⟨.inl (Nat.le_trans HW.keep.size hb6), (H.blk .zero).2⟩, fun b e => by cases e; exact hb6⟩
    case body =>
      rintro l ⟨ws, i⟩ d a1 W ⟨b6, j, v, rfl, ⟨hi, hw, hp⟩, H⟩
      have N := KeepsFrom.refl w.heap.size W
      have hwl : ws.length ≤ i := by obtain ⟨_, h, _⟩ := hw; exact h
      unfold HdL at H
      simp only [List.cons_append, List.nil_append] at H
      unfold frW
      obtain ⟨i0, hi0, hz0, hz1, hz2⟩ := info_parts info_LWord
      refine wpIn_block (wpIn_seq (wpIn_region_lit (list_inRound (by rintro ⟨_, _, h⟩; exact h) _ _ _ rfl ?_)))
      go_wp2_with (first | ((with_reducible show @wpList _ _ _ ({ dst := _, op := Op.store _ _ _, type := _, pos := _, after := _, guard := _ } :: _) _ _); refine own_store1' (by first | rfl | exact wanted_g rfl (yielded_of rfl (by first | rfl | (simp only [put_lit, put_no, List.setIfInBounds_toArray, List.set_cons_succ, List.set_cons_zero, ev_tmp, ev_const, ev_glob, ev_func, List.getD_cons_succ, List.getD_cons_zero]; rfl)))) _ _ _ rfl rfl (by first | (simp only [put_lit, put_no, List.setIfInBounds_toArray, List.set_cons_succ, List.set_cons_zero, ev_tmp, ev_const, ev_glob, ev_func, List.getD_cons_succ, List.getD_cons_zero]; done) | (simp only [put_lit, put_no, List.setIfInBounds_toArray, List.set_cons_succ, List.set_cons_zero, ev_tmp, ev_const, ev_glob, ev_func, List.getD_cons_succ, List.getD_cons_zero]; rfl)) H N (by repeat (first | (with_reducible exact At.zero) | apply At.succ)) (by first | rfl | assumption) (by first | (simp; done) | (simp [wordC]; done)) (by first | (with_reducible exact one_size one_words) | (with_reducible exact one_size one_errno) | (with_reducible exact one_size one_ptr) | (with_reducible exact one_size one_kind) | (with_reducible exact one_size one_int) | (with_reducible exact one_size one_u8) | (with_reducible exact one_size one_bool) | (with_reducible exact one_size one_str) | (with_reducible exact one_size one_spot) | (with_reducible exact one_size one_u64)) ?_; clear H N; intro w H N; (try simp only [nrm, nrl, Value.cells] at H)) | ((with_reducible show @wpList _ _ _ ({ dst := _, op := Op.buildSlice _ _ _, type := _, pos := _, after := _, guard := _ } :: _) _ _); refine own_build' (by first | rfl | exact wanted_g rfl (yielded_of rfl (by first | rfl | (simp only [put_lit, put_no, List.setIfInBounds_toArray, List.set_cons_succ, List.set_cons_zero, ev_tmp, ev_const, ev_glob, ev_func, List.getD_cons_succ, List.getD_cons_zero]; rfl)))) _ _ _ rfl H N (wordC d) 42 (by intro W; simp only [List.map_toArray, List.map_cons, List.map_nil]; (try simp only [put_lit, put_no, List.setIfInBounds_toArray, List.set_cons_succ, List.set_cons_zero, ev_tmp, ev_const, List.getD_cons_succ, List.getD_cons_zero]); exact run_lword1 d W) ?_; clear H N; intro b w H N; (try simp only [nrm, nrl, Value.cells] at H)) | (at_builtin; refine Hid.out ?_) | ((with_reducible refine gL ?_); (first | refine aG H ?_ | refine aD H ?_)))
      refine Lib.hid ?_
      refine own_append' rfl _ _ 25 rfl H N (by first | (simp only [put_lit, put_no, List.setIfInBounds_toArray, List.set_cons_succ, List.set_cons_zero, ev_tmp, ev_const, ev_glob, ev_func, List.getD_cons_succ, List.getD_cons_zero]; done) | (simp only [put_lit, put_no, List.setIfInBounds_toArray, List.set_cons_succ, List.set_cons_zero, ev_tmp, ev_const, ev_glob, ev_func, List.getD_cons_succ, List.getD_cons_zero]; rfl)) rfl (by repeat (first | (with_reducible exact At.zero) | apply At.succ)) (by repeat (first | (with_reducible exact At.zero) | apply At.succ)) Tryz.underlying25 hi0 hz0 hz1 hz2 rfl (by decide) rfl rfl (by unfold maxLen; omega) (by omega) ?_
      clear H N
      intro v2 w hv2 H N
      simp only [nrm, nrl, Value.cells] at H
      go_wp2_with (first | ((with_reducible show @wpList _ _ _ ({ dst := _, op := Op.store _ _ _, type := _, pos := _, after := _, guard := _ } :: _) _ _); refine own_store1' (by first | rfl | exact wanted_g rfl (yielded_of rfl (by first | rfl | (simp only [put_lit, put_no, List.setIfInBounds_toArray, List.set_cons_succ, List.set_cons_zero, ev_tmp, ev_const, ev_glob, ev_func, List.getD_cons_succ, List.getD_cons_zero]; rfl)))) _ _ _ rfl rfl (by first | (simp only [put_lit, put_no, List.setIfInBounds_toArray, List.set_cons_succ, List.set_cons_zero, ev_tmp, ev_const, ev_glob, ev_func, List.getD_cons_succ, List.getD_cons_zero]; done) | (simp only [put_lit, put_no, List.setIfInBounds_toArray, List.set_cons_succ, List.set_cons_zero, ev_tmp, ev_const, ev_glob, ev_func, List.getD_cons_succ, List.getD_cons_zero]; rfl)) H N (by repeat (first | (with_reducible exact At.zero) | apply At.succ)) (by first | rfl | assumption) (by first | (simp; done) | (simp [wordC]; done)) (by first | (with_reducible exact one_size one_words) | (with_reducible exact one_size one_errno) | (with_reducible exact one_size one_ptr) | (with_reducible exact one_size one_kind) | (with_reducible exact one_size one_int) | (with_reducible exact one_size one_u8) | (with_reducible exact one_size one_bool) | (with_reducible exact one_size one_str) | (with_reducible exact one_size one_spot) | (with_reducible exact one_size one_u64)) ?_; clear H N; intro w H N; (try simp only [nrm, nrl, Value.cells] at H)) | fail)
      refine wpIn_region_lit (list_inRound (by rintro ⟨_, _, h⟩; exact h) _ _ _ rfl ?_)
      go_wp2_with (first | ((with_reducible show @wpList _ _ _ ({ dst := _, op := Op.store _ _ _, type := _, pos := _, after := _, guard := _ } :: _) _ _); refine own_store1' (by first | rfl | exact wanted_g rfl (yielded_of rfl (by first | rfl | (simp only [put_lit, put_no, List.setIfInBounds_toArray, List.set_cons_succ, List.set_cons_zero, ev_tmp, ev_const, ev_glob, ev_func, List.getD_cons_succ, List.getD_cons_zero]; rfl)))) _ _ _ rfl rfl (by first | (simp only [put_lit, put_no, List.setIfInBounds_toArray, List.set_cons_succ, List.set_cons_zero, ev_tmp, ev_const, ev_glob, ev_func, List.getD_cons_succ, List.getD_cons_zero]; done) | (simp only [put_lit, put_no, List.setIfInBounds_toArray, List.set_cons_succ, List.set_cons_zero, ev_tmp, ev_const, ev_glob, ev_func, List.getD_cons_succ, List.getD_cons_zero]; rfl)) H N (by repeat (first | (with_reducible exact At.zero) | apply At.succ)) (by first | rfl | assumption) (by first | (simp; done) | (simp [wordC]; done)) (by first | (with_reducible exact one_size one_words) | (with_reducible exact one_size one_errno) | (with_reducible exact one_size one_ptr) | (with_reducible exact one_size one_kind) | (with_reducible exact one_size one_int) | (with_reducible exact one_size one_u8) | (with_reducible exact one_size one_bool) | (with_reducible exact one_size one_str) | (with_reducible exact one_size one_spot) | (with_reducible exact one_size one_u64)) ?_; clear H N; intro w H N; (try simp only [nrm, nrl, Value.cells] at H)) | ((with_reducible refine gL ?_); refine aG H ?_))
      refine ⟨N, v2, ?_⟩
      unfold HdL
      rw [flatW_snoc, List.length_append]
      exact H.take 7
    case done =>
      rintro D W hD ⟨ws, p, hok, v, H⟩ hK
      have E2 := Lib.hid (show wordsF L = .ok ws by rw [E.out, hok])
      have N := KeepsFrom.refl D W
      have hD2 : w0.heap.size ≤ D := Nat.le_trans hB hD
      have hv1 : v.oneCell' = true := by obtain ⟨_, ⟨hv, _⟩ | ⟨g, cap, cur, hv, _⟩⟩ := H.all 6 _ rfl <;> rw [hv] <;> rfl
      unfold HdL at H
      refine hKc _ _ ?_
      go_wp2_with (first | ((with_reducible show @wpList _ _ _ ({ dst := _, op := Op.store _ _ _, type := _, pos := _, after := _, guard := _ } :: _) _ _); refine own_store1' (by first | rfl | exact wanted_g rfl (yielded_of rfl (by first | rfl | (simp only [put_lit, put_no, List.setIfInBounds_toArray, List.set_cons_succ, List.set_cons_zero, ev_tmp, ev_const, ev_glob, ev_func, List.getD_cons_succ, List.getD_cons_zero]; rfl)))) _ _ _ rfl rfl (by first | (simp only [put_lit, put_no, List.setIfInBounds_toArray, List.set_cons_succ, List.set_cons_zero, ev_tmp, ev_const, ev_glob, ev_func, List.getD_cons_succ, List.getD_cons_zero]; done) | (simp only [put_lit, put_no, List.setIfInBounds_toArray, List.set_cons_succ, List.set_cons_zero, ev_tmp, ev_const, ev_glob, ev_func, List.getD_cons_succ, List.getD_cons_zero]; rfl)) H N (by repeat (first | (with_reducible exact At.zero) | apply At.succ)) (by first | rfl | assumption) (by first | (simp; done) | (simp [wordC]; done)) (by first | (with_reducible exact one_size one_words) | (with_reducible exact one_size one_errno) | (with_reducible exact one_size one_ptr) | (with_reducible exact one_size one_kind) | (with_reducible exact one_size one_int) | (with_reducible exact one_size one_u8) | (with_reducible exact one_size one_bool) | (with_reducible exact one_size one_str) | (with_reducible exact one_size one_spot) | (with_reducible exact one_size one_u64)) ?_; clear H N; intro w H N; (try simp only [nrm, nrl, Value.cells] at H)) | ((with_reducible refine gL ?_); refine aG H ?_))
      have hK2 := N.same D _ (Nat.le_refl _) hK rfl
      refine ⟨by simp, .inl ⟨D, _, rfl, run_takeDeferred hK2, ?_⟩⟩
      have H2 := Stay.putObj (HoldG.stay rfl (Nat.le_refl _)) (.deferred none) H hD2 hK2 rfl
      refine ⟨by simp, .inr ⟨fun _ => by omega, _, _, _, _, rfl, by simp [go_sem], fun g hg => trivial, (catch_idle 8 b4 b2 _).mono ?_⟩⟩
      rintro e u' W' ⟨rfl, rfl, rfl⟩
      refine ⟨_, results3 Tryz.results5 rfl rfl rfl one_words one_int one_errno ((H2.cell (.succ (.succ .zero)) 0).trans rfl) ((H2.cell (.succ (.succ (.succ .zero))) 0).trans rfl) ((H2.cell (.succ (.succ (.succ (.succ .zero)))) 0).trans rfl), ?_⟩
      exact ⟨WordsR.ok E2.out (H2.all 6 _ rfl), H2.below⟩
    case pan =>
      rintro D ch W hD ⟨ws, p, x, v, rfl, herr, hx, H⟩ hK
      have E2 := Lib.hid (show wordsF L = .error (p, x) by rw [E.out, herr])
      have hD2 : w0.heap.size ≤ D := Nat.le_trans hB hD
      unfold HdL at H
      simp only [List.tail_cons] at H
      refine ⟨by simp, .inl ⟨D, _, rfl, run_takeDeferred hK, ?_⟩⟩
      have H2 := Stay.putObj (HoldG.stay rfl (Nat.le_refl _)) (.deferred none) H hD2 hK rfl
      have hne : b4 ≠ b2 := fun e => H2.apart 3 1 _ _ (by decide) rfl rfl b4 rfl (by rw [e]; rfl)
      refine ⟨by simp, .inr ⟨fun _ => by omega, _, _, _, _, rfl, by simp [go_sem], fun g hg => trivial, (catch_thrown 8 b4 b2 x _ _ _ hne (H2.blk (.succ (.succ (.succ .zero)))).2 (H2.blk (.succ .zero)).2).mono ?_⟩⟩
      rintro e u' W' ⟨rfl, rfl, rfl⟩
      replace H2 := (H2.setCell (k := 0) (.succ (.succ (.succ .zero))) (.int .i64 x)).setCell (k := 0) (.succ .zero) (.slice none 0 0)
      refine ⟨_, results3 Tryz.results5 rfl rfl rfl one_words one_int one_errno ((H2.cell (.succ .zero) 0).trans rfl) ((H2.cell (.succ (.succ .zero)) 0).trans rfl) ((H2.cell (.succ (.succ (.succ .zero))) 0).trans rfl), ?_⟩
      exact ⟨WordsR.no E2.out, H2.below⟩
end Go.Proofs.YtllmgmfihijejaaGreatDoor
/-
  The walk of mudlarklaw09: LexTells, over awake.
-/
namespace Go.Proofs.YtllmgmfihijejaaGreatDoor
open Go.RowKit Go.Shelf Go.MapKept
attribute [local go_sem] Oper.semAt_some
set_option linter.unusedSimpArgs false

theorem setSeg_size : ∀ (vs : List Value) (cs : Array Value) (k : Nat), (setSeg cs k vs).size = cs.size
  | [], _, _ => rfl
  | v :: r, cs, k => by
    show (setSeg (cs.setIfInBounds k v) (k + 1) r).size = _
    rw [setSeg_size r]; simp
section
variable {M : Nat → Prop} {P : Program} {ops : Array Oper} {o : Oper} {rest : List Oper} {a : Act} {w w0 : World} {l : List Res} {Q : Exit → Act → World → Prop}
/-- a struct is stored in a row of the call's own -/
theorem own_storeRow (hg : Region.wanted o (yielded ops a.tmps) = true) (T : TypeId) (x y : Operand) (ho : o.op = .store T x y) {g i sz n cap : Nat} (hx : a.eval x = .pointer (some ⟨g, i * sz, none⟩)) {vs : Array Value} (hy : a.eval y = .agg vs) (H : HoldG M w0 w l) {j : Nat} {e : TypeId} {xs : List Value} (hi : At l j (.row (.slice (some ⟨g, 0, none⟩) n cap) e sz n xs))
    (hT : sizeB P T sz = true) (hv : vs.size = sz) (h1 : vs.all (·.oneCell') = true) (hin : i < n) (h : ∀ w' xs', HoldG M w0 w' (l.set j (.row (.slice (some ⟨g, 0, none⟩) n cap) e sz n xs')) → wpList P ops Q rest (a.put o.dst undef) w') : wpList P ops Q (o :: rest) a w :=
  wpList_wanted hg fun _ hK => by
    obtain ⟨hlen, ⟨hv', _⟩ | ⟨g', cap', cur, hv', hb, hg', hn, hc, hs, ht⟩⟩ := H.all j _ hi.get
    · cases hv'
    · cases hv'
      have hm1 : (i + 1) * sz ≤ n * sz := Nat.mul_le_mul_right _ hin
      have hm2 : n * sz ≤ cap * sz := Nat.mul_le_mul_right _ hn
      have hm3 : (i + 1) * sz = i * sz + sz := Nat.succ_mul i sz
      have hth : w.there g (i * sz) vs.size := fun q hq => by
        rw [cell_of_row w g (i * sz + q) cur e (0, 0) hg']
        simp [World.frozen?, hg']; omega
      unfold Oper.wp execOp
      simp only [ho, hx, hy, Instr.storeAt, Instr.sureAddr, Sem.run_bind, Sem.run_pure, Result.andThen_ok, run_storeVar_mid (P := P) w g (i * sz) T vs hth (by subst hv; simpa [sizeB] using hT) h1]
      have hh := heap_setCells vs.toList (i * sz) w g cur e _ hg'
      refine hK _ _ (h _ ((setSeg cur (i * sz) vs.toList).toList.take (n * sz)) (H.upd hi.get (setCells_grown vs.toList (i * sz) w g) ⟨?_, .inr ⟨g, cap, _, rfl, hb, hh, hn, hc, ?_, rfl⟩⟩ (fun _ e => .inl e)))
      · have := setSeg_size vs.toList cur (i * sz)
        rw [List.length_take, Array.length_toList, this, hs]; omega
      · rw [setSeg_size, hs]
theorem idx_run {T e : TypeId} {sz g off n c i q : Nat} {k : IntKind} {x y : Operand} (hu : P.underlying T = some (.slice e)) (hs : ∀ w, (sizeOf e).run P w = .ok sz w)
    (hop : o.op = Op.indexAddr T x y) (hx : a.eval x = .slice (some ⟨g, off, none⟩) n c) (hy : a.eval y = .int k (i : Int)) (hi : i < n) (hq : off + i * sz = q) : (execOp a.eval o).run P w = .ok (.value (.pointer (some ⟨g, q, none⟩))) w := by
  subst hq
  simp only [execOp, hop, hx, hy]
  simp [Instr.indexAt, asIntOf, go_sem, run_underlying hu, hs]
  intro hc
  omega
end
theorem ownsRow_slice {w : World} {base : Nat} {e : TypeId} {sz : Nat} {v : Value} {n : Nat} {xs : List Value} (h : w.ownsRow base e sz v n xs) : ∃ q cap, v = .slice q n cap ∧ (0 < n → ∃ g, q = some ⟨g, 0, none⟩) := by
  obtain ⟨_, ⟨hv, hn⟩ | ⟨g, cap, cur, hv, _⟩⟩ := h
  · exact ⟨none, 0, by rw [hv, hn], fun h => by omega⟩
  · exact ⟨_, cap, hv, fun _ => ⟨g, rfl⟩⟩
theorem ownsRow_lower {w : World} {b0 b1 : Nat} {e : TypeId} {sz : Nat} {v : Value} {n : Nat} {xs : List Value} (h : w.ownsRow b1 e sz v n xs) (hb : b0 ≤ b1) : w.ownsRow b0 e sz v n xs := by
  obtain ⟨hl, h | ⟨g, cap, cur, hv, hg, r⟩⟩ := h
  · exact ⟨hl, .inl h⟩
  · exact ⟨hl, .inr ⟨g, cap, cur, hv, Nat.le_trans hb hg, r⟩⟩
theorem HoldG.gainRow {M : Nat → Prop} {w0 w w' : World} {l : List Res} (H : HoldG M w0 w l) (hb : Below w.heap.size w w') {e : TypeId} {sz n : Nat} {v : Value} {xs : List Value} (ho : w'.ownsRow w.heap.size e sz v n xs) : HoldG M w0 w' (l ++ [.row v e sz n xs]) :=
  H.gain hb [.row v e sz n xs] (by
    intro r hr
    simp only [List.mem_cons, List.not_mem_nil, or_false] at hr
    subst hr
    refine ⟨ownsRow_lower ho H.keep.size, fun b hb => ?_⟩
    obtain ⟨_, ⟨hv, _⟩ | ⟨g, cap, cur, hv, hg, _⟩⟩ := ho
    · subst hv; cases hb
    · subst hv; cases hb; exact hg) (List.pairwise_singleton _ _)
theorem HoldG.rdw {M : Nat → Prop} {w0 w : World} {l : List Res} (H : HoldG M w0 w l) {i : Nat} {v : Value} {e : TypeId} {ws : List WordD} (hi : At l i (.row v e 17 ws.length (flatW ws))) (hl : ws.length ≤ 1000) : RdW w w.heap.size v ws := RdW.of_own (H.all i _ hi.get) hl
theorem wordsGo_len {L : Str} : ∀ (f i : Nat) (ws : List WordD), i ≤ L.length → wordsGo L f i = .ok ws → ws.length + i ≤ L.length
  | 0, i, ws, hi, h => by
    unfold wordsGo at h
    split at h
    · cases h
    · cases h; simpa using hi
  | f + 1, i, ws, hi, h => by
    unfold wordsGo at h
    split at h
    · rename_i hlt
      cases hw : wordP L i with
      | error e => rw [hw] at h; cases h
      | ok p =>
        obtain ⟨d, j⟩ := p
        rw [hw] at h
        simp only at h
        have hj := wordP_le hlt hw
        cases hg : wordsGo L f j with
        | error x => rw [hg] at h; cases h
        | ok l =>
          rw [hg] at h
          cases h
          have := wordsGo_len f j l hj.2 hg
          simp only [List.length_cons]; omega
    · cases h; simpa using hi
theorem wordsF_len {L : Str} {ws : List WordD} (h : wordsF L = .ok ws) : ws.length ≤ 1000 := by
  unfold wordsF at h
  split at h
  · cases h
  · have := wordsGo_len L.length 0 ws (by omega) h
    omega
theorem RdW.nil (w : World) : RdW w w.heap.size (.slice none 0 0) [] := ⟨none, 0, rfl, by simp, fun j d h => by simp at h⟩

set_option maxRecDepth 100000 in
set_option maxHeartbeats 16000000 in
theorem law_LexTells_of (hAw : ∀ w, MaxL w → Calls Tryz.prog 10 #[] w fun e w' => e = .returned (.bool true) ∧ Below w.heap.size w w') (L : Str) (w0 : World) (hz : MaxL w0) : Calls Tryz.prog 4 #[.string ⟨L.toArray⟩] w0 fun e w' => e = .returned (.bool true) ∧ Below w0.heap.size w0 w' := by
  have H := Hold.start w0
  have hx := fun w (hb : Below w0.heap.size w0 w) => lx_Words L w (hz.block (hb.block 0 hz.lt))
  have hy := fun w => ref_Words L w
  have hA := fun w (hb : Below w0.heap.size w0 w) => hAw w (hz.block (hb.block 0 hz.lt))
  clear hAw hz
  cases hw : wordsF L with
  | error x =>
    obtain ⟨p, x⟩ := x
    rw [hw] at hx hy
    simp only [WordsR] at hx hy
    clear hw
    have hs := fun w => law_same (.slice none 0 0) (.slice none 0 0) [] w (RdW.nil w) (RdW.nil w)
    go_enter Tryz.func4, Tryz.ntmps4
    go_wp2_with (first | fail | (go_at_call 5; (with_reducible refine (hx _ H.below).mono ?_); rintro e w ⟨rfl, hb⟩; replace H := H.call hb; clear hb) | (go_at_call 6; (with_reducible refine (hy _).mono ?_); rintro e w ⟨rfl, hb⟩; replace H := H.call hb; clear hb) | (go_at_call 7; (with_reducible refine (hs _).mono ?_); rintro e w ⟨rfl, hb⟩; replace H := H.call hb; clear hb) | (go_at_call 10; (with_reducible refine (hA _ H.below).mono ?_); rintro e w ⟨rfl, hb⟩; replace H := H.call hb; clear hb))
    go_loopw [12] (fun k wr => k = .int .i64 0 ∧ Hold w0 wr []) (fun _ _ => 0)
    case atStart => exact ⟨rfl, H⟩
    case round =>
      clear H
      obtain ⟨rfl, H⟩ := hrel
      go_wp2_with (first | fail | (go_at_call 5; (with_reducible refine (hx _ H.below).mono ?_); rintro e w ⟨rfl, hb⟩; replace H := H.call hb; clear hb) | (go_at_call 6; (with_reducible refine (hy _).mono ?_); rintro e w ⟨rfl, hb⟩; replace H := H.call hb; clear hb) | (go_at_call 7; (with_reducible refine (hs _).mono ?_); rintro e w ⟨rfl, hb⟩; replace H := H.call hb; clear hb) | (go_at_call 10; (with_reducible refine (hA _ H.below).mono ?_); rintro e w ⟨rfl, hb⟩; replace H := H.call hb; clear hb))
      go_ret
      exact ⟨rfl, H.below⟩
  | ok ws =>
    have hl := wordsF_len hw
    rw [hw] at hx hy
    simp only [WordsR] at hx hy
    clear hw
    have hne : decide ((0 : Int) = 0) = true := rfl
    go_enter Tryz.func4, Tryz.ntmps4
    go_wp2_with (first | fail | (go_at_call 5; (with_reducible refine (hx _ H.below).mono ?_); rintro e w ⟨⟨v, rfl, ho⟩, hb⟩; replace H := H.gainRow hb ho; obtain ⟨q, cap, rfl, hq⟩ := ownsRow_slice ho; clear hb ho; (try simp only [nrm, nrl, Value.cells] at H)) | (go_at_call 6; (with_reducible refine (hy _).mono ?_); rintro e w ⟨⟨v, rfl, ho⟩, hb⟩; replace H := H.gainRow hb ho; obtain ⟨q2, cap2, rfl, _⟩ := ownsRow_slice ho; clear hb ho; (try simp only [nrm, nrl, Value.cells] at H)) | (go_at_call 7; (with_reducible refine (law_same _ _ ws _ (H.rdw .zero hl) (H.rdw (.succ .zero) hl)).mono ?_); rintro e w ⟨rfl, hb⟩; replace H := H.call hb; clear hb))
    rename_i qa capa hqa w2 r2 w3 w4 w5
    clear hne
    go_loopw [12] (fun k wr => ∃ (i : Nat) (xs : List Value), k = .int .i64 i ∧ i ≤ ws.length ∧ Hold w0 wr [.row (.slice qa ws.length capa) 42 17 ws.length xs, .row (.slice q2 ws.length cap2) 53 17 ws.length (flatW ws), .row (.slice q ws.length cap) 42 17 ws.length (flatW ws)]) (fun k _ => ws.length + 1 - (intOf k).toNat)
    case atStart => exact ⟨0, _, rfl, by omega, H⟩
    case round =>
      clear H
      obtain ⟨i, xs, rfl, hi, H⟩ := hrel
      by_cases hlt : i < ws.length
      · have di : decide ((i : Int) < (ws.length : Int)) = true := by simp; omega
        obtain ⟨g, rfl⟩ := hqa (by omega)
        go_wp2_with (first | ((with_reducible show @wpList _ _ _ ({ dst := _, op := Op.store _ _ _, type := _, pos := _, after := _, guard := _ } :: _) _ _); refine own_storeRow (vs := wordC { kind := 0, place := 0, lo := -7 }) (by first | rfl | exact wanted_g rfl (yielded_of rfl (by first | rfl | (simp only [put_lit, put_no, List.setIfInBounds_toArray, List.set_cons_succ, List.set_cons_zero, ev_tmp, ev_const, ev_glob, ev_func, List.getD_cons_succ, List.getD_cons_zero]; rfl)))) _ _ _ rfl (by first | (simp only [put_lit, put_no, List.setIfInBounds_toArray, List.set_cons_succ, List.set_cons_zero, ev_tmp, ev_const, ev_glob, ev_func, List.getD_cons_succ, List.getD_cons_zero]; done) | (simp only [put_lit, put_no, List.setIfInBounds_toArray, List.set_cons_succ, List.set_cons_zero, ev_tmp, ev_const, ev_glob, ev_func, List.getD_cons_succ, List.getD_cons_zero]; rfl)) rfl H .zero (row_size (n := 17) row_LWord) rfl (wordOne _) hlt ?_; clear H; intro w xs2 H; (try simp only [nrm, nrl, Value.cells] at H)) | ((with_reducible show @wpList _ _ _ ({ dst := _, op := Op.indexAddr _ _ _, type := _, pos := _, after := _, guard := _ } :: _) _ _); refine own_pure (by first | rfl | exact wanted_g rfl (yielded_of rfl (by first | rfl | (simp only [put_lit, put_no, List.setIfInBounds_toArray, List.set_cons_succ, List.set_cons_zero, ev_tmp, ev_const, ev_glob, ev_func, List.getD_cons_succ, List.getD_cons_zero]; rfl)))) (idx_run (sz := 17) Tryz.underlying25 (fun W => by kernel_rfl) rfl (by first | (simp only [put_lit, put_no, List.setIfInBounds_toArray, List.set_cons_succ, List.set_cons_zero, ev_tmp, ev_const, ev_glob, ev_func, List.getD_cons_succ, List.getD_cons_zero]; done) | (simp only [put_lit, put_no, List.setIfInBounds_toArray, List.set_cons_succ, List.set_cons_zero, ev_tmp, ev_const, ev_glob, ev_func, List.getD_cons_succ, List.getD_cons_zero]; rfl)) (by first | (simp only [put_lit, put_no, List.setIfInBounds_toArray, List.set_cons_succ, List.set_cons_zero, ev_tmp, ev_const, ev_glob, ev_func, List.getD_cons_succ, List.getD_cons_zero]; done) | (simp only [put_lit, put_no, List.setIfInBounds_toArray, List.set_cons_succ, List.set_cons_zero, ev_tmp, ev_const, ev_glob, ev_func, List.getD_cons_succ, List.getD_cons_zero]; rfl)) hlt (Nat.zero_add _)) ?_) | fail)
        go_roundw
        case rel => exact ⟨i + 1, _, rfl, by omega, H⟩
        case measure => simp [intOf]; omega
      · have di : decide ((i : Int) < (ws.length : Int)) = false := by simp; omega
        go_wp2_with (first | fail | (go_at_call 7; (with_reducible refine (law_same _ _ ws _ (H.rdw (.succ (.succ .zero)) hl) (H.rdw (.succ .zero) hl)).mono ?_); rintro e w ⟨rfl, hb⟩; replace H := H.call hb; clear hb) | (go_at_call 10; (with_reducible refine (hA _ H.below).mono ?_); rintro e w ⟨rfl, hb⟩; replace H := H.call hb; clear hb))
        go_ret
        exact ⟨rfl, H.below⟩
end Go.Proofs.YtllmgmfihijejaaGreatDoor
/-
  The walk of mudlarklaw09: awake, and LexTells whole.
-/
namespace Go.Proofs.YtllmgmfihijejaaGreatDoor
open Go.RowKit Go.Shelf Go.MapKept
attribute [local go_sem] Oper.semAt_some
set_option linter.unusedSimpArgs false

def awakeL : Str := [97, 123, 50, 44, 125, 63, 91, 94, 98, 45, 100, 92, 100, 93]
def awakeS : Nat → Nat := unionS [rangeS 98 3, rangeS 48 10]
def awakeB : Except (Nat × Nat) (List WordD) → Bool
  | .ok [_, b, c] => b.kind == 11 && b.lo == 2 && b.hi == -1 && b.lazy && c.neg && c.place == 6 && c.set 0 == awakeS 0 && c.set 1 == awakeS 1 && c.set 2 == awakeS 2 && c.set 3 == awakeS 3
  | _ => false
theorem awake_words : awakeB (wordsF awakeL) = true := by decide +kernel
theorem awakeB_spec {r : Except (Nat × Nat) (List WordD)} (h : awakeB r = true) : ∃ d0 d1 d2, r = .ok [d0, d1, d2] ∧ d1.kind = 11 ∧ d1.lo = 2 ∧ d1.hi = -1 ∧ d1.lazy = true ∧ d2.neg = true ∧ d2.place = 6 ∧ setV d2.set = setV awakeS := by
  unfold awakeB at h
  split at h
  · rename_i d0 d1 d2
    simp only [Bool.and_eq_true, beq_iff_eq] at h
    obtain ⟨⟨⟨⟨⟨⟨⟨⟨⟨h1, h2⟩, h3⟩, h4⟩, h5⟩, h6⟩, h7⟩, h8⟩, h9⟩, h10⟩ := h
    refine ⟨d0, d1, d2, rfl, h1, h2, h3, h4, h5, h6, ?_⟩
    unfold setV
    rw [h7, h8, h9, h10]
  · cases h

theorem loadS4_run {o : Oper} {a : Act} {w : World} {x : Operand} (ho : o.op = .load 37 x) {b k : Nat} {s : Nat → Nat} (hx : a.eval x = .pointer (some ⟨b, k, none⟩)) (hv : ∀ j, j < 4 → w.cell? ⟨b, k + j, none⟩ = (setC s)[j]?) : (execOp a.eval o).run Tryz.prog w = .ok (.value (setV s)) w := by
  obtain ⟨d, hu, hd, hs⟩ := rowB_parts row_Set
  have := run_loadVar_mid (P := Tryz.prog) w b k 37 (setC s).toList d (fun j v hj => by
    have hlt : j < 4 := by have := (List.getElem?_eq_some_iff.1 hj).1; exact this
    rw [hv j hlt]; simpa using hj) hu hd (by rw [hs]; rfl)
  unfold execOp
  simp only [ho, hx, Instr.loadAt, Instr.sureAddr, Sem.run_bind, Sem.run_pure, Result.andThen_ok]
  rw [show (loadVar 37 ⟨b, k, none⟩).run Tryz.prog w = .ok (setV s) w by rw [setV_agg]; simpa using this]
  rfl

set_option maxRecDepth 100000 in
set_option maxHeartbeats 16000000 in
theorem law_awake (w0 : World) (hz : MaxL w0) : Calls Tryz.prog 10 #[] w0 fun e w' => e = .returned (.bool true) ∧ Below w0.heap.size w0 w' := by
  have H := Hold.start w0
  have hx := lx_Words awakeL w0 hz
  obtain ⟨d0, d1, d2, hw, k1, k2, k3, k4, k5, k6, hset⟩ := awakeB_spec awake_words
  rw [hw] at hx
  simp only [WordsR] at hx
  have g0 : (wordC d1)[0]? = some (.int .i64 11) := (wg0 d1).trans (by rw [k1]; rfl)
  have g8 : (wordC d1)[8]? = some (.int .i64 2) := (wg8 d1).trans (by rw [k2])
  have g9 : (wordC d1)[9]? = some (.int .i64 (-1)) := (wg9 d1).trans (by rw [k3])
  have g10 : (wordC d1)[10]? = some (.bool true) := (wg10 d1).trans (by rw [k4])
  have g6 : (wordC d2)[6]? = some (.bool true) := (wg6 d2).trans (by rw [k5])
  have g1 : (wordC d2)[1]? = some (.int .i64 6) := (wg1 d2).trans (by rw [k6]; rfl)
  clear k1 k2 k3 k4 k5 k6 hw hz
  have HS := Lib.hid hset
  clear hset
  have G0 := Lib.hid g0; have G8 := Lib.hid g8; have G9 := Lib.hid g9; have G10 := Lib.hid g10; have G6 := Lib.hid g6; have G1 := Lib.hid g1
  clear g0 g8 g9 g10 g6 g1
  go_enter Tryz.func10, Tryz.ntmps10
  go_upto_region 2 with (first | fail | (go_at_call 5; refine hx.mono ?_; rintro e w ⟨⟨v, rfl, ho⟩, hb⟩; replace H := H.gainRow hb ho; obtain ⟨q, cap, rfl, hq⟩ := ownsRow_slice ho; obtain ⟨g, rfl⟩ := hq (by simp); clear hb ho; (try simp only [nrm, nrl, Value.cells] at H)))
  clear hx
  obtain ⟨q, c2, e, _, hcell⟩ := H.rdw (ws := [d0, d1, d2]) .zero (by simp)
  cases e
  have hc : ∀ W, Below w.heap.size w W → ∀ (j : Nat) (d : WordD) (k : Nat), [d0, d1, d2][j]? = some d → k < 17 → W.cell? ⟨g, j * 17 + k, none⟩ = (wordC d)[k]? := fun W hb j d k hj hk => by
    obtain ⟨g', cs, T, e, hg, hh, hkk⟩ := hcell j d hj
    cases e
    rw [cell_of_row W g (j * 17 + k) cs T (0, 0) ((hb.block g hg).trans hh), hkk k hk]
  clear hcell
  refine wp_region_spec 63 [fun v _ => v = .int .i64 0, fun v _ => v = .bool true, fun v _ => v = .bool true, fun v _ => v = .int .i64 0, fun v _ => v = .bool true, fun v _ => v = .bool true, fun v _ => v = .bool true, fun v _ => v = .slice (some ⟨g, 0, none⟩) 3 cap, fun v _ => v = .int .i64 3, fun v _ => v = .bool true, fun v _ => v = .bool true, fun v _ => v = .bool true, fun v _ => v = .slice (some ⟨g, 0, none⟩) 3 cap, fun v _ => v = .pointer (some ⟨g, 17, none⟩), fun v _ => v = .pointer (some ⟨g, 17, none⟩), fun v _ => v = .int .i64 11, fun v _ => v = .bool true, fun v _ => v = .bool true, fun v _ => v = .bool true, fun v _ => v = .slice (some ⟨g, 0, none⟩) 3 cap, fun v _ => v = .pointer (some ⟨g, 17, none⟩), fun v _ => v = .pointer (some ⟨g, 25, none⟩), fun v _ => v = .int .i64 2, fun v _ => v = .bool true, fun v _ => v = .bool true, fun v _ => v = .bool true, fun v _ => v = .slice (some ⟨g, 0, none⟩) 3 cap, fun v _ => v = .pointer (some ⟨g, 17, none⟩), fun v _ => v = .pointer (some ⟨g, 26, none⟩), fun v _ => v = .int .i64 (-1), fun v _ => v = .bool true, fun v _ => v = .bool true, fun v _ => v = .bool true, fun v _ => v = .slice (some ⟨g, 0, none⟩) 3 cap, fun v _ => v = .pointer (some ⟨g, 17, none⟩), fun v _ => v = .pointer (some ⟨g, 27, none⟩), fun v _ => v = .bool true, fun v _ => v = .bool true, fun v _ => v = .bool true, fun v _ => v = .slice (some ⟨g, 0, none⟩) 3 cap, fun v _ => v = .pointer (some ⟨g, 34, none⟩), fun v _ => v = .pointer (some ⟨g, 40, none⟩), fun v _ => v = .bool true, fun v _ => v = .bool true, fun v _ => v = .bool true, fun v _ => v = .slice (some ⟨g, 0, none⟩) 3 cap, fun v _ => v = .pointer (some ⟨g, 34, none⟩), fun v _ => v = .pointer (some ⟨g, 36, none⟩), fun v _ => v = setV d2.set, fun v _ => v = setV (rangeS 98 3), fun v _ => v = setV (rangeS 48 10), fun v w => RdS w w.heap.size v [rangeS 98 3, rangeS 48 10], fun v _ => v = setV awakeS, fun v _ => v = .bool true, fun v _ => v = .bool true, fun v _ => v = .bool true, fun v _ => v = .slice (some ⟨g, 0, none⟩) 3 cap, fun v _ => v = .pointer (some ⟨g, 34, none⟩), fun v _ => v = .pointer (some ⟨g, 35, none⟩), fun v _ => v = .int .i64 6, fun v _ => v = .bool true, fun v _ => v = .bool true, fun v _ => v = .bool true] (fun _ => false) (by kernel_rfl) (by kernel_rfl) (by kernel_rfl) ⟨stable_eq _, stable_eq _, stable_eq _, stable_eq _, stable_eq _, stable_eq _, stable_eq _, stable_eq _, stable_eq _, stable_eq _, stable_eq _, stable_eq _, stable_eq _, stable_eq _, stable_eq _, stable_eq _, stable_eq _, stable_eq _, stable_eq _, stable_eq _, stable_eq _, stable_eq _, stable_eq _, stable_eq _, stable_eq _, stable_eq _, stable_eq _, stable_eq _, stable_eq _, stable_eq _, stable_eq _, stable_eq _, stable_eq _, stable_eq _, stable_eq _, stable_eq _, stable_eq _, stable_eq _, stable_eq _, stable_eq _, stable_eq _, stable_eq _, stable_eq _, stable_eq _, stable_eq _, stable_eq _, stable_eq _, stable_eq _, stable_eq _, stable_eq _, stable_eq _, stable_rds _, stable_eq _, stable_eq _, stable_eq _, stable_eq _, stable_eq _, stable_eq _, stable_eq _, stable_eq _, stable_eq _, stable_eq _, stable_eq _, trivial⟩ (fun _ _ h => by cases h) ?ob ?en
  case ob =>
    refine ⟨?_, ?_, ?_, ?_, ?_, ?_, ?_, ?_, ?_, ?_, ?_, ?_, ?_, ?_, ?_, ?_, ?_, ?_, ?_, ?_, ?_, ?_, ?_, ?_, ?_, ?_, ?_, ?_, ?_, ?_, ?_, ?_, ?_, ?_, ?_, ?_, ?_, ?_, ?_, ?_, ?_, ?_, ?_, ?_, ?_, ?_, ?_, ?_, ?_, ?_, ?_, ?_, ?_, ?_, ?_, ?_, ?_, ?_, ?_, ?_, ?_, ?_, ?_, trivial⟩ <;> intro A W h
    · exact rs_move rfl rfl (h.frame 3 rfl) (by decide)
    · (have e9 : A.eval (.tmp 9) = .int .i64 0 := h.dep 0 9 rfl rfl; refine rs_pure rfl ?_ (by decide); simp only [execOp, e9]; (simp [go_sem] <;> first | done | omega | (rw [IntKind.wrap_i64]; omega) | (rw [IntKind.wrap_u8]; omega) | (rw [IntKind.wrap_u64]; omega)))
    · exact rs_move rfl rfl (h.dep 1 10 rfl rfl) (by decide)
    · exact rs_move (wanted_g rfl (yielded_of (d := 11) rfl (h.dep 2 11 rfl rfl))) rfl (h.frame 2 rfl) (by decide)
    · (have e12 : A.eval (.tmp 12) = .int .i64 0 := h.dep 3 12 rfl rfl; refine rs_pure (wanted_g rfl (yielded_of (d := 11) rfl (h.dep 2 11 rfl rfl))) ?_ (by decide); simp only [execOp, e12]; (simp [go_sem] <;> first | done | omega | (rw [IntKind.wrap_i64]; omega) | (rw [IntKind.wrap_u8]; omega) | (rw [IntKind.wrap_u64]; omega)))
    · exact rs_pick rfl rfl (h.dep 2 11 rfl rfl) (h.dep 4 13 rfl rfl) (by decide)
    · exact rs_move rfl rfl (h.dep 5 14 rfl rfl) (by decide)
    · exact rs_move (wanted_g rfl (yielded_of (d := 15) rfl (h.dep 6 15 rfl rfl))) rfl (h.frame 1 rfl) (by decide)
    · exact rs_len Tryz.underlying25 (wanted_g rfl (yielded_of (d := 15) rfl (h.dep 6 15 rfl rfl))) rfl (h.dep 7 16 rfl rfl) (by decide)
    · (have e17 : A.eval (.tmp 17) = .int .i64 3 := h.dep 8 17 rfl rfl; refine rs_pure (wanted_g rfl (yielded_of (d := 15) rfl (h.dep 6 15 rfl rfl))) ?_ (by decide); simp only [execOp, e17]; (simp [go_sem] <;> first | done | omega | (rw [IntKind.wrap_i64]; omega) | (rw [IntKind.wrap_u8]; omega) | (rw [IntKind.wrap_u64]; omega)))
    · exact rs_pick rfl rfl (h.dep 6 15 rfl rfl) (h.dep 9 18 rfl rfl) (by decide)
    · exact rs_move rfl rfl (h.dep 10 19 rfl rfl) (by decide)
    · exact rs_move (wanted_g rfl (yielded_of (d := 20) rfl (h.dep 11 20 rfl rfl))) rfl (h.frame 1 rfl) (by decide)
    · exact rs_pure (wanted_g rfl (yielded_of (d := 20) rfl (h.dep 11 20 rfl rfl))) (idx_run (sz := 17) (i := 1) Tryz.underlying25 (fun W => by kernel_rfl) rfl (h.dep 12 21 rfl rfl) rfl (by omega) rfl) (by decide)
    · (have e22 : A.eval (.tmp 22) = .pointer (some ⟨g, 17, none⟩) := h.dep 13 22 rfl rfl; refine rs_pure (wanted_g rfl (yielded_of (d := 20) rfl (h.dep 11 20 rfl rfl))) ?_ (by decide); simp only [execOp, e22]; (simp [go_sem] <;> first | done | omega | (rw [IntKind.wrap_i64]; omega) | (rw [IntKind.wrap_u8]; omega) | (rw [IntKind.wrap_u64]; omega)))
    · exact rs_pure (wanted_g rfl (yielded_of (d := 20) rfl (h.dep 11 20 rfl rfl))) (load_run rfl one_kind (h.dep 14 23 rfl rfl) ((hc W h.below 1 d1 0 rfl (by omega)).trans G0.out)) (by decide)
    · (have e24 : A.eval (.tmp 24) = .int .i64 11 := h.dep 15 24 rfl rfl; refine rs_pure (wanted_g rfl (yielded_of (d := 20) rfl (h.dep 11 20 rfl rfl))) ?_ (by decide); simp only [execOp, e24]; (simp [go_sem] <;> first | done | omega | (rw [IntKind.wrap_i64]; omega) | (rw [IntKind.wrap_u8]; omega) | (rw [IntKind.wrap_u64]; omega)))
    · exact rs_pick rfl rfl (h.dep 11 20 rfl rfl) (h.dep 16 25 rfl rfl) (by decide)
    · exact rs_move rfl rfl (h.dep 17 26 rfl rfl) (by decide)
    · exact rs_move (wanted_g rfl (yielded_of (d := 27) rfl (h.dep 18 27 rfl rfl))) rfl (h.frame 1 rfl) (by decide)
    · exact rs_pure (wanted_g rfl (yielded_of (d := 27) rfl (h.dep 18 27 rfl rfl))) (idx_run (sz := 17) (i := 1) Tryz.underlying25 (fun W => by kernel_rfl) rfl (h.dep 19 28 rfl rfl) rfl (by omega) rfl) (by decide)
    · (have e29 : A.eval (.tmp 29) = .pointer (some ⟨g, 17, none⟩) := h.dep 20 29 rfl rfl; refine rs_pure (wanted_g rfl (yielded_of (d := 27) rfl (h.dep 18 27 rfl rfl))) ?_ (by decide); simp only [execOp, e29]; (simp [go_sem] <;> first | done | omega | (rw [IntKind.wrap_i64]; omega) | (rw [IntKind.wrap_u8]; omega) | (rw [IntKind.wrap_u64]; omega)))
    · exact rs_pure (wanted_g rfl (yielded_of (d := 27) rfl (h.dep 18 27 rfl rfl))) (load_run rfl one_int (h.dep 21 30 rfl rfl) ((hc W h.below 1 d1 8 rfl (by omega)).trans G8.out)) (by decide)
    · (have e31 : A.eval (.tmp 31) = .int .i64 2 := h.dep 22 31 rfl rfl; refine rs_pure (wanted_g rfl (yielded_of (d := 27) rfl (h.dep 18 27 rfl rfl))) ?_ (by decide); simp only [execOp, e31]; (simp [go_sem] <;> first | done | omega | (rw [IntKind.wrap_i64]; omega) | (rw [IntKind.wrap_u8]; omega) | (rw [IntKind.wrap_u64]; omega)))
    · exact rs_pick rfl rfl (h.dep 18 27 rfl rfl) (h.dep 23 32 rfl rfl) (by decide)
    · exact rs_move rfl rfl (h.dep 24 33 rfl rfl) (by decide)
    · exact rs_move (wanted_g rfl (yielded_of (d := 34) rfl (h.dep 25 34 rfl rfl))) rfl (h.frame 1 rfl) (by decide)
    · exact rs_pure (wanted_g rfl (yielded_of (d := 34) rfl (h.dep 25 34 rfl rfl))) (idx_run (sz := 17) (i := 1) Tryz.underlying25 (fun W => by kernel_rfl) rfl (h.dep 26 35 rfl rfl) rfl (by omega) rfl) (by decide)
    · (have e36 : A.eval (.tmp 36) = .pointer (some ⟨g, 17, none⟩) := h.dep 27 36 rfl rfl; refine rs_pure (wanted_g rfl (yielded_of (d := 34) rfl (h.dep 25 34 rfl rfl))) ?_ (by decide); simp only [execOp, e36]; (simp [go_sem] <;> first | done | omega | (rw [IntKind.wrap_i64]; omega) | (rw [IntKind.wrap_u8]; omega) | (rw [IntKind.wrap_u64]; omega)))
    · exact rs_pure (wanted_g rfl (yielded_of (d := 34) rfl (h.dep 25 34 rfl rfl))) (load_run rfl one_int (h.dep 28 37 rfl rfl) ((hc W h.below 1 d1 9 rfl (by omega)).trans G9.out)) (by decide)
    · (have e38 : A.eval (.tmp 38) = .int .i64 (-1) := h.dep 29 38 rfl rfl; refine rs_pure (wanted_g rfl (yielded_of (d := 34) rfl (h.dep 25 34 rfl rfl))) ?_ (by decide); simp only [execOp, e38]; (simp [go_sem] <;> first | done | omega | (rw [IntKind.wrap_i64]; omega) | (rw [IntKind.wrap_u8]; omega) | (rw [IntKind.wrap_u64]; omega)))
    · exact rs_pick rfl rfl (h.dep 25 34 rfl rfl) (h.dep 30 39 rfl rfl) (by decide)
    · exact rs_move rfl rfl (h.dep 31 40 rfl rfl) (by decide)
    · exact rs_move (wanted_g rfl (yielded_of (d := 41) rfl (h.dep 32 41 rfl rfl))) rfl (h.frame 1 rfl) (by decide)
    · exact rs_pure (wanted_g rfl (yielded_of (d := 41) rfl (h.dep 32 41 rfl rfl))) (idx_run (sz := 17) (i := 1) Tryz.underlying25 (fun W => by kernel_rfl) rfl (h.dep 33 42 rfl rfl) rfl (by omega) rfl) (by decide)
    · (have e43 : A.eval (.tmp 43) = .pointer (some ⟨g, 17, none⟩) := h.dep 34 43 rfl rfl; refine rs_pure (wanted_g rfl (yielded_of (d := 41) rfl (h.dep 32 41 rfl rfl))) ?_ (by decide); simp only [execOp, e43]; (simp [go_sem] <;> first | done | omega | (rw [IntKind.wrap_i64]; omega) | (rw [IntKind.wrap_u8]; omega) | (rw [IntKind.wrap_u64]; omega)))
    · exact rs_pure (wanted_g rfl (yielded_of (d := 41) rfl (h.dep 32 41 rfl rfl))) (load_run rfl one_bool (h.dep 35 44 rfl rfl) ((hc W h.below 1 d1 10 rfl (by omega)).trans G10.out)) (by decide)
    · exact rs_pick rfl rfl (h.dep 32 41 rfl rfl) (h.dep 36 45 rfl rfl) (by decide)
    · exact rs_move rfl rfl (h.dep 37 46 rfl rfl) (by decide)
    · exact rs_move (wanted_g rfl (yielded_of (d := 47) rfl (h.dep 38 47 rfl rfl))) rfl (h.frame 1 rfl) (by decide)
    · exact rs_pure (wanted_g rfl (yielded_of (d := 47) rfl (h.dep 38 47 rfl rfl))) (idx_run (sz := 17) (i := 2) Tryz.underlying25 (fun W => by kernel_rfl) rfl (h.dep 39 48 rfl rfl) rfl (by omega) rfl) (by decide)
    · (have e49 : A.eval (.tmp 49) = .pointer (some ⟨g, 34, none⟩) := h.dep 40 49 rfl rfl; refine rs_pure (wanted_g rfl (yielded_of (d := 47) rfl (h.dep 38 47 rfl rfl))) ?_ (by decide); simp only [execOp, e49]; (simp [go_sem] <;> first | done | omega | (rw [IntKind.wrap_i64]; omega) | (rw [IntKind.wrap_u8]; omega) | (rw [IntKind.wrap_u64]; omega)))
    · exact rs_pure (wanted_g rfl (yielded_of (d := 47) rfl (h.dep 38 47 rfl rfl))) (load_run rfl one_bool (h.dep 41 50 rfl rfl) ((hc W h.below 2 d2 6 rfl (by omega)).trans G6.out)) (by decide)
    · exact rs_pick rfl rfl (h.dep 38 47 rfl rfl) (h.dep 42 51 rfl rfl) (by decide)
    · exact rs_move rfl rfl (h.dep 43 52 rfl rfl) (by decide)
    · exact rs_move (wanted_g rfl (yielded_of (d := 53) rfl (h.dep 44 53 rfl rfl))) rfl (h.frame 1 rfl) (by decide)
    · exact rs_pure (wanted_g rfl (yielded_of (d := 53) rfl (h.dep 44 53 rfl rfl))) (idx_run (sz := 17) (i := 2) Tryz.underlying25 (fun W => by kernel_rfl) rfl (h.dep 45 54 rfl rfl) rfl (by omega) rfl) (by decide)
    · (have e55 : A.eval (.tmp 55) = .pointer (some ⟨g, 34, none⟩) := h.dep 46 55 rfl rfl; refine rs_pure (wanted_g rfl (yielded_of (d := 53) rfl (h.dep 44 53 rfl rfl))) ?_ (by decide); simp only [execOp, e55]; (simp [go_sem] <;> first | done | omega | (rw [IntKind.wrap_i64]; omega) | (rw [IntKind.wrap_u8]; omega) | (rw [IntKind.wrap_u64]; omega)))
    · exact rs_pure (wanted_g rfl (yielded_of (d := 53) rfl (h.dep 44 53 rfl rfl))) (loadS4_run rfl (h.dep 47 56 rfl rfl) (fun j hj => by have e := hc W h.below 2 d2 (2 + j) rfl (by omega); rw [wordSet d2 j hj] at e; rw [show 36 + j = 2 * 17 + (2 + j) from by omega]; exact e)) (by decide)
    · exact rs_calln (wanted_g rfl (yielded_of (d := 53) rfl (h.dep 44 53 rfl rfl))) rfl (enters_of Tryz.func17 (by kernel_rfl) rfl) (args2 ⟨rfl, rfl⟩) (set_Range 98 100 (by omega) (by omega) W) (by decide)
    · exact rs_calln (wanted_g rfl (yielded_of (d := 53) rfl (h.dep 44 53 rfl rfl))) rfl (enters_of Tryz.func17 (by kernel_rfl) rfl) (args2 ⟨rfl, rfl⟩) (set_Range 48 57 (by omega) (by omega) W) (by decide)
    · exact rs_build2 (wanted_g rfl (yielded_of (d := 53) rfl (h.dep 44 53 rfl rfl))) rfl (h.dep 49 58 rfl rfl) (h.dep 50 59 rfl rfl) (by decide)
    · exact rs_calln (wanted_g rfl (yielded_of (d := 53) rfl (h.dep 44 53 rfl rfl))) rfl (enters_of Tryz.func16 (by kernel_rfl) rfl) (args1 rfl) (set_Union _ [rangeS 98 3, rangeS 48 10] (ok2 (rangeS_ok _ _) (rangeS_ok _ _)) W (h.dep 51 60 rfl rfl)) (by decide)
    · exact rs_eqlset (wanted_g rfl (yielded_of (d := 53) rfl (h.dep 44 53 rfl rfl))) rfl (h.dep 48 57 rfl rfl) (h.dep 52 61 rfl rfl) HS.out (by decide)
    · exact rs_pick rfl rfl (h.dep 44 53 rfl rfl) (h.dep 53 62 rfl rfl) (by decide)
    · exact rs_move rfl rfl (h.dep 54 63 rfl rfl) (by decide)
    · exact rs_move (wanted_g rfl (yielded_of (d := 64) rfl (h.dep 55 64 rfl rfl))) rfl (h.frame 1 rfl) (by decide)
    · exact rs_pure (wanted_g rfl (yielded_of (d := 64) rfl (h.dep 55 64 rfl rfl))) (idx_run (sz := 17) (i := 2) Tryz.underlying25 (fun W => by kernel_rfl) rfl (h.dep 56 65 rfl rfl) rfl (by omega) rfl) (by decide)
    · (have e66 : A.eval (.tmp 66) = .pointer (some ⟨g, 34, none⟩) := h.dep 57 66 rfl rfl; refine rs_pure (wanted_g rfl (yielded_of (d := 64) rfl (h.dep 55 64 rfl rfl))) ?_ (by decide); simp only [execOp, e66]; (simp [go_sem] <;> first | done | omega | (rw [IntKind.wrap_i64]; omega) | (rw [IntKind.wrap_u8]; omega) | (rw [IntKind.wrap_u64]; omega)))
    · exact rs_pure (wanted_g rfl (yielded_of (d := 64) rfl (h.dep 55 64 rfl rfl))) (load_run rfl one_int (h.dep 58 67 rfl rfl) ((hc W h.below 2 d2 1 rfl (by omega)).trans G1.out)) (by decide)
    · (have e68 : A.eval (.tmp 68) = .int .i64 6 := h.dep 59 68 rfl rfl; refine rs_pure (wanted_g rfl (yielded_of (d := 64) rfl (h.dep 55 64 rfl rfl))) ?_ (by decide); simp only [execOp, e68]; (simp [go_sem] <;> first | done | omega | (rw [IntKind.wrap_i64]; omega) | (rw [IntKind.wrap_u8]; omega) | (rw [IntKind.wrap_u64]; omega)))
    · exact rs_pick rfl rfl (h.dep 55 64 rfl rfl) (h.dep 60 69 rfl rfl) (by decide)
    · exact rs_assign rfl rfl (h.dep 61 70 rfl rfl) (by decide)
  case en =>
    intro vals W hbw hv _
    have v0 : vals 0 = .int .i64 0 := hv 0 (by omega)
    have v1 : vals 1 = .bool true := hv 1 (by omega)
    have v2 : vals 2 = .bool true := hv 2 (by omega)
    have v3 : vals 3 = .int .i64 0 := hv 3 (by omega)
    have v4 : vals 4 = .bool true := hv 4 (by omega)
    have v5 : vals 5 = .bool true := hv 5 (by omega)
    have v6 : vals 6 = .bool true := hv 6 (by omega)
    have v7 : vals 7 = .slice (some ⟨g, 0, none⟩) 3 cap := hv 7 (by omega)
    have v8 : vals 8 = .int .i64 3 := hv 8 (by omega)
    have v9 : vals 9 = .bool true := hv 9 (by omega)
    have v10 : vals 10 = .bool true := hv 10 (by omega)
    have v11 : vals 11 = .bool true := hv 11 (by omega)
    have v12 : vals 12 = .slice (some ⟨g, 0, none⟩) 3 cap := hv 12 (by omega)
    have v13 : vals 13 = .pointer (some ⟨g, 17, none⟩) := hv 13 (by omega)
    have v14 : vals 14 = .pointer (some ⟨g, 17, none⟩) := hv 14 (by omega)
    have v15 : vals 15 = .int .i64 11 := hv 15 (by omega)
    have v16 : vals 16 = .bool true := hv 16 (by omega)
    have v17 : vals 17 = .bool true := hv 17 (by omega)
    have v18 : vals 18 = .bool true := hv 18 (by omega)
    have v19 : vals 19 = .slice (some ⟨g, 0, none⟩) 3 cap := hv 19 (by omega)
    have v20 : vals 20 = .pointer (some ⟨g, 17, none⟩) := hv 20 (by omega)
    have v21 : vals 21 = .pointer (some ⟨g, 25, none⟩) := hv 21 (by omega)
    have v22 : vals 22 = .int .i64 2 := hv 22 (by omega)
    have v23 : vals 23 = .bool true := hv 23 (by omega)
    have v24 : vals 24 = .bool true := hv 24 (by omega)
    have v25 : vals 25 = .bool true := hv 25 (by omega)
    have v26 : vals 26 = .slice (some ⟨g, 0, none⟩) 3 cap := hv 26 (by omega)
    have v27 : vals 27 = .pointer (some ⟨g, 17, none⟩) := hv 27 (by omega)
    have v28 : vals 28 = .pointer (some ⟨g, 26, none⟩) := hv 28 (by omega)
    have v29 : vals 29 = .int .i64 (-1) := hv 29 (by omega)
    have v30 : vals 30 = .bool true := hv 30 (by omega)
    have v31 : vals 31 = .bool true := hv 31 (by omega)
    have v32 : vals 32 = .bool true := hv 32 (by omega)
    have v33 : vals 33 = .slice (some ⟨g, 0, none⟩) 3 cap := hv 33 (by omega)
    have v34 : vals 34 = .pointer (some ⟨g, 17, none⟩) := hv 34 (by omega)
    have v35 : vals 35 = .pointer (some ⟨g, 27, none⟩) := hv 35 (by omega)
    have v36 : vals 36 = .bool true := hv 36 (by omega)
    have v37 : vals 37 = .bool true := hv 37 (by omega)
    have v38 : vals 38 = .bool true := hv 38 (by omega)
    have v39 : vals 39 = .slice (some ⟨g, 0, none⟩) 3 cap := hv 39 (by omega)
    have v40 : vals 40 = .pointer (some ⟨g, 34, none⟩) := hv 40 (by omega)
    have v41 : vals 41 = .pointer (some ⟨g, 40, none⟩) := hv 41 (by omega)
    have v42 : vals 42 = .bool true := hv 42 (by omega)
    have v43 : vals 43 = .bool true := hv 43 (by omega)
    have v44 : vals 44 = .bool true := hv 44 (by omega)
    have v45 : vals 45 = .slice (some ⟨g, 0, none⟩) 3 cap := hv 45 (by omega)
    have v46 : vals 46 = .pointer (some ⟨g, 34, none⟩) := hv 46 (by omega)
    have v47 : vals 47 = .pointer (some ⟨g, 36, none⟩) := hv 47 (by omega)
    have v48 : vals 48 = setV d2.set := hv 48 (by omega)
    have v49 : vals 49 = setV (rangeS 98 3) := hv 49 (by omega)
    have v50 : vals 50 = setV (rangeS 48 10) := hv 50 (by omega)
    have v52 : vals 52 = setV awakeS := hv 52 (by omega)
    have v53 : vals 53 = .bool true := hv 53 (by omega)
    have v54 : vals 54 = .bool true := hv 54 (by omega)
    have v55 : vals 55 = .bool true := hv 55 (by omega)
    have v56 : vals 56 = .slice (some ⟨g, 0, none⟩) 3 cap := hv 56 (by omega)
    have v57 : vals 57 = .pointer (some ⟨g, 34, none⟩) := hv 57 (by omega)
    have v58 : vals 58 = .pointer (some ⟨g, 35, none⟩) := hv 58 (by omega)
    have v59 : vals 59 = .int .i64 6 := hv 59 (by omega)
    have v60 : vals 60 = .bool true := hv 60 (by omega)
    have v61 : vals 61 = .bool true := hv 61 (by omega)
    have v62 : vals 62 = .bool true := hv 62 (by omega)
    have x51 := hv 51 (by omega); simp only [lookS] at x51
    simp only [List.take_succ_cons, List.take_zero, List.drop_succ_cons, List.drop_zero, List.drop_nil, List.take_nil, fillAll, Nat.zero_add, Nat.reduceAdd]
    rw [v0, v1, v2, v3, v4, v5, v6, v7, v8, v9, v10, v11, v12, v13, v14, v15, v16, v17, v18, v19, v20, v21, v22, v23, v24, v25, v26, v27, v28, v29, v30, v31, v32, v33, v34, v35, v36, v37, v38, v39, v40, v41, v42, v43, v44, v45, v46, v47, v48, v49, v50, v52, v53, v54, v55, v56, v57, v58, v59, v60, v61, v62]
    clear hv v0 v1 v2 v3 v4 v5 v6 v7 v8 v9 v10 v11 v12 v13 v14 v15 v16 v17 v18 v19 v20 v21 v22 v23 v24 v25 v26 v27 v28 v29 v30 v31 v32 v33 v34 v35 v36 v37 v38 v39 v40 v41 v42 v43 v44 v45 v46 v47 v48 v49 v50 v52 v53 v54 v55 v56 v57 v58 v59 v60 v61 v62
    try simp only [put_lit, List.setIfInBounds_toArray, List.set_cons_succ, List.set_cons_zero]
    go_wp2
    go_ret
    exact ⟨rfl, (H.call hbw).below⟩

theorem law_LexTells (L : Str) (w0 : World) (hz : MaxL w0) : Calls Tryz.prog 4 #[.string ⟨L.toArray⟩] w0 fun e w' => e = .returned (.bool true) ∧ Below w0.heap.size w0 w' := law_LexTells_of law_awake L w0 hz
end Go.Proofs.YtllmgmfihijejaaGreatDoor
/-
  Rows of strings in memory, strings put together, strings of bytes.
-/
namespace Go.Proofs.YtllmgmfihijejaaGreatDoor
open Go.RowKit Go.Shelf Go.MapKept
attribute [local go_sem] Oper.semAt_some
set_option linter.unusedSimpArgs false

def strRow (l : List Str) : Array Value := (l.map (fun s => Value.string ⟨s.toArray⟩)).toArray
/-- a block of n strings, each of at most K bytes -/
def StrB (cs : Array Value) (n K : Nat) : Prop := ∀ i, i < n → ∃ S : Str, cs[i]? = some (.string ⟨S.toArray⟩) ∧ S.length ≤ K
theorem strB_mk (l : List Str) (K : Nat) (h : l.all (fun s => s.length ≤ K) = true) {n : Nat} (hn : n = l.length) : StrB (strRow l) n K := by
  subst hn
  intro i hi
  refine ⟨l[i], ?_, ?_⟩
  · unfold strRow
    rw [List.getElem?_toArray, List.getElem?_map, List.getElem?_eq_getElem hi]; rfl
  · have := List.all_eq_true.1 h _ (List.getElem_mem hi)
    simpa using this
theorem strB_of (l : List Str) (K : Nat) (h : ∀ s ∈ l, s.length ≤ K) {n : Nat} (hn : n = l.length) : StrB (strRow l) n K := strB_mk l K (List.all_eq_true.2 fun s hs => by simpa using h s hs) hn
section
variable {ops : Array Oper} {o : Oper} {a : Act} {w : World} {x y : Operand} {t : TypeId}
theorem str_addB_run {A B : Str} (hn : A.length + B.length ≤ 100000) (ho : o.op = Op.binOp .add 9 x y t) (hx : a.eval x = .string ⟨A.toArray⟩) (hy : a.eval y = .string ⟨B.toArray⟩) : (execOp a.eval o).run Tryz.prog w = .ok (.value (.string ⟨(A ++ B).toArray⟩)) w := by
  have e : ((⟨A.toArray⟩ : ByteArray) ++ ⟨B.toArray⟩) = ⟨(A ++ B).toArray⟩ := by apply ByteArray.ext; simp
  simp only [execOp, ho, hx, hy]
  simp [go_sem, e]
  omega
theorem str_addZ_run {A B Z : Str} (hZ : Z = A ++ B) (hn : A.length + B.length ≤ 100000) (ho : o.op = Op.binOp .add 9 x y t) (hx : a.eval x = .string ⟨A.toArray⟩) (hy : a.eval y = .string ⟨B.toArray⟩) : (execOp a.eval o).run Tryz.prog w = .ok (.value (.string ⟨Z.toArray⟩)) w := by
  subst hZ; exact str_addB_run hn ho hx hy
theorem idx1v_run {P : Program} {T e : TypeId} {g n c i : Nat} {v : Int} {k : IntKind} (hu : P.underlying T = some (.slice e)) (hs : ∀ w, (sizeOf e).run P w = .ok 1 w)
    (hop : o.op = Op.indexAddr T x y) (hx : a.eval x = .slice (some ⟨g, 0, none⟩) n c) (hy : a.eval y = .int k v) (hv : v = (i : Int)) (hi : i < n) : (execOp a.eval o).run P w = .ok (.value (.pointer (some ⟨g, i, none⟩))) w := by
  subst hv
  simp only [execOp, hop, hx, hy]
  simp [Instr.indexAt, asIntOf, go_sem, run_underlying hu, hs]
  intro hc
  omega
theorem idx1_run {P : Program} {T e : TypeId} {g n c i : Nat} {k : IntKind} (hu : P.underlying T = some (.slice e)) (hs : ∀ w, (sizeOf e).run P w = .ok 1 w)
    (hop : o.op = Op.indexAddr T x y) (hx : a.eval x = .slice (some ⟨g, 0, none⟩) n c) (hy : a.eval y = .int k (i : Int)) (hi : i < n) : (execOp a.eval o).run P w = .ok (.value (.pointer (some ⟨g, i, none⟩))) w := by
  simp only [execOp, hop, hx, hy]
  simp [Instr.indexAt, asIntOf, go_sem, run_underlying hu, hs]
  intro hc
  omega
end
section
variable {M : Nat → Prop} {P : Program} {ops : Array Oper} {o : Oper} {rest : List Oper} {a : Act} {w w0 : World} {l : List Res} {Q : Exit → Act → World → Prop}
theorem own_sadd (hg : Region.wanted o (yielded ops a.tmps) = true) {x y : Operand} {t : TypeId} (ho : o.op = Op.binOp .add 9 x y t) {A B : Str} (hx : a.eval x = .string ⟨A.toArray⟩) (hy : a.eval y = .string ⟨B.toArray⟩) (hn : A.length + B.length ≤ 100000)
    (h : ∀ Z : Str, Z.length = A.length + B.length → wpList Tryz.prog ops Q rest (a.put o.dst (.string ⟨Z.toArray⟩)) w) : wpList Tryz.prog ops Q (o :: rest) a w :=
  own_pure hg (str_addB_run hn ho hx hy) (h _ (by simp))
/-- bytes to a string -/
theorem own_bytesStr (hg : Region.wanted o (yielded ops a.tmps) = true) (TS T : TypeId) (x : Operand) (ho : o.op = .convert TS 9 x) (ht : Tryz.prog.underlying TS = some (.slice T)) (he : Tryz.prog.underlying T = some (.int .u8)) (H : HoldG M w0 w l) {i b n : Nat} (xs : List Int)
    (hx : a.eval x = .slice (some ⟨b, 0, none⟩) n n) (hi : At l i (.blk b (xs.map (.int .u8)).toArray T)) (hc : xs.length = n) (hn : n ≤ maxLen) (h : ∀ S : Str, S.length = n → wpList Tryz.prog ops Q rest (a.put o.dst (.string ⟨S.toArray⟩)) w) : wpList Tryz.prog ops Q (o :: rest) a w := by
  have hr := run_convert_rd (P := Tryz.prog) w TS T 9 ht he Tryz.underlying9 (H.rdn hi (by simpa using hc) hn)
  refine own_pure hg (v := .string ⟨(strOfNums xs).data.toList.toArray⟩) ?_ (h _ (by rw [← hc]; simp [strOfNums]))
  simp only [execOp, ho, hx, Sem.run_bind, hr, Result.andThen]
  rfl
end
/-- a slice of n strings, each of at most K bytes, in a block made at or behind base -/
def StrW (n K base : Nat) (v : Value) (w : World) : Prop := ∃ (b : Nat) (cs : Array Value), v = .slice (some ⟨b, 0, none⟩) n n ∧ base ≤ b ∧ w.heap[b]? = some (.cells cs 9 (0, 0)) ∧ StrB cs n K
theorem stable_strW (n K base : Nat) : Stable (StrW n K base) := fun _ _ _ ⟨b, cs, e, h1, h2, h3⟩ hb => ⟨b, cs, e, h1, (hb.block b (Array.getElem?_eq_some_iff.1 h2).1).trans h2, h3⟩
theorem rs_strs {ops : Array Oper} {o : Oper} {a : Act} {w : World} {TS : TypeId} {n K base : Nat} {parts : Array (Nat × Operand)} {cs : Array Value} {D : Prop} (hg : Region.wanted o (yielded ops a.tmps) = true) (hop : o.op = Op.buildSlice TS n parts)
    (hr : ∀ W : World, (Instr.buildSlice TS n (parts.map fun (i, x) => (i, a.eval x))).run Tryz.prog W = .ok (.slice (some ⟨W.heap.size, 0, none⟩) n n) (W.alloc (.cells cs 9))) (hb : base ≤ w.heap.size) (hS : StrB cs n K) (hD : ¬ D) :
    RStep Tryz.prog ops o a w (fun v w' => StrW n K base v w' ∧ (D → w.heap.size ≤ blk v)) := by
  refine rs_val hg (v := .slice (some ⟨w.heap.size, 0, none⟩) n n) (w' := w.alloc (.cells cs 9)) ?_ ((Below.refl _ w).alloc (Nat.le_refl _) _) ⟨⟨w.heap.size, cs, rfl, hb, by show (w.heap.push _)[w.heap.size]? = _; simp, hS⟩, fun h => (hD h).elim⟩
  unfold execOp
  simp only [hop, Sem.run_bind, hr, Result.andThen_ok]
  rfl
theorem HoldG.gainStr {M : Nat → Prop} {w0 w w' : World} {l : List Res} (H : HoldG M w0 w l) (hb : Below w.heap.size w w') {b : Nat} {cs : Array Value} (h1 : w.heap.size ≤ b) (h2 : w'.heap[b]? = some (.cells cs 9 (0, 0))) : HoldG M w0 w' (l ++ [.blk b cs 9]) :=
  H.gain hb [.blk b cs 9] (by
    intro r hr
    simp only [List.mem_cons, List.not_mem_nil, or_false] at hr
    subst hr
    exact ⟨⟨.inl (Nat.le_trans H.keep.size h1), h2⟩, fun b e => by cases e; exact h1⟩) (List.pairwise_singleton _ _)
theorem build_strs3 (s0 s1 s2 : Str) (W : World) : (Instr.buildSlice 23 3 #[(0, .string ⟨s0.toArray⟩), (1, .string ⟨s1.toArray⟩), (2, .string ⟨s2.toArray⟩)]).run Tryz.prog W = .ok (.slice (some ⟨W.heap.size, 0, none⟩) 3 3) (W.alloc (.cells (strRow [s0, s1, s2]) 9)) := by kernel_rfl
theorem build_strs6 (s0 s1 s2 s3 s4 s5 : Str) (W : World) : (Instr.buildSlice 23 6 #[(0, .string ⟨s0.toArray⟩), (1, .string ⟨s1.toArray⟩), (2, .string ⟨s2.toArray⟩), (3, .string ⟨s3.toArray⟩), (4, .string ⟨s4.toArray⟩), (5, .string ⟨s5.toArray⟩)]).run Tryz.prog W = .ok (.slice (some ⟨W.heap.size, 0, none⟩) 6 6) (W.alloc (.cells (strRow [s0, s1, s2, s3, s4, s5]) 9)) := by kernel_rfl
theorem build_strs8 (s0 s1 s2 s3 s4 s5 s6 s7 : Str) (W : World) : (Instr.buildSlice 23 8 #[(0, .string ⟨s0.toArray⟩), (1, .string ⟨s1.toArray⟩), (2, .string ⟨s2.toArray⟩), (3, .string ⟨s3.toArray⟩), (4, .string ⟨s4.toArray⟩), (5, .string ⟨s5.toArray⟩), (6, .string ⟨s6.toArray⟩), (7, .string ⟨s7.toArray⟩)]).run Tryz.prog W = .ok (.slice (some ⟨W.heap.size, 0, none⟩) 8 8) (W.alloc (.cells (strRow [s0, s1, s2, s3, s4, s5, s6, s7]) 9)) := by kernel_rfl
theorem build_strs10 (s0 s1 s2 s3 s4 s5 s6 s7 s8 s9 : Str) (W : World) : (Instr.buildSlice 23 10 #[(0, .string ⟨s0.toArray⟩), (1, .string ⟨s1.toArray⟩), (2, .string ⟨s2.toArray⟩), (3, .string ⟨s3.toArray⟩), (4, .string ⟨s4.toArray⟩), (5, .string ⟨s5.toArray⟩), (6, .string ⟨s6.toArray⟩), (7, .string ⟨s7.toArray⟩), (8, .string ⟨s8.toArray⟩), (9, .string ⟨s9.toArray⟩)]).run Tryz.prog W = .ok (.slice (some ⟨W.heap.size, 0, none⟩) 10 10) (W.alloc (.cells (strRow [s0, s1, s2, s3, s4, s5, s6, s7, s8, s9]) 9)) := by kernel_rfl
theorem build_strs16 (s0 s1 s2 s3 s4 s5 s6 s7 s8 s9 s10 s11 s12 s13 s14 s15 : Str) (W : World) : (Instr.buildSlice 23 16 #[(0, .string ⟨s0.toArray⟩), (1, .string ⟨s1.toArray⟩), (2, .string ⟨s2.toArray⟩), (3, .string ⟨s3.toArray⟩), (4, .string ⟨s4.toArray⟩), (5, .string ⟨s5.toArray⟩), (6, .string ⟨s6.toArray⟩), (7, .string ⟨s7.toArray⟩), (8, .string ⟨s8.toArray⟩), (9, .string ⟨s9.toArray⟩), (10, .string ⟨s10.toArray⟩), (11, .string ⟨s11.toArray⟩), (12, .string ⟨s12.toArray⟩), (13, .string ⟨s13.toArray⟩), (14, .string ⟨s14.toArray⟩), (15, .string ⟨s15.toArray⟩)]).run Tryz.prog W = .ok (.slice (some ⟨W.heap.size, 0, none⟩) 16 16) (W.alloc (.cells (strRow [s0, s1, s2, s3, s4, s5, s6, s7, s8, s9, s10, s11, s12, s13, s14, s15]) 9)) := by kernel_rfl
theorem build_strs18 (s0 s1 s2 s3 s4 s5 s6 s7 s8 s9 s10 s11 s12 s13 s14 s15 s16 s17 : Str) (W : World) : (Instr.buildSlice 23 18 #[(0, .string ⟨s0.toArray⟩), (1, .string ⟨s1.toArray⟩), (2, .string ⟨s2.toArray⟩), (3, .string ⟨s3.toArray⟩), (4, .string ⟨s4.toArray⟩), (5, .string ⟨s5.toArray⟩), (6, .string ⟨s6.toArray⟩), (7, .string ⟨s7.toArray⟩), (8, .string ⟨s8.toArray⟩), (9, .string ⟨s9.toArray⟩), (10, .string ⟨s10.toArray⟩), (11, .string ⟨s11.toArray⟩), (12, .string ⟨s12.toArray⟩), (13, .string ⟨s13.toArray⟩), (14, .string ⟨s14.toArray⟩), (15, .string ⟨s15.toArray⟩), (16, .string ⟨s16.toArray⟩), (17, .string ⟨s17.toArray⟩)]).run Tryz.prog W = .ok (.slice (some ⟨W.heap.size, 0, none⟩) 18 18) (W.alloc (.cells (strRow [s0, s1, s2, s3, s4, s5, s6, s7, s8, s9, s10, s11, s12, s13, s14, s15, s16, s17]) 9)) := by kernel_rfl
section
variable {M : Nat → Prop} {ops : Array Oper} {o : Oper} {rest : List Oper} {a : Act} {w w0 : World} {l : List Res} {Q : Exit → Act → World → Prop}
theorem own_strs6 (K : Nat) (hg : Region.wanted o (yielded ops a.tmps) = true) {x0 x1 x2 x3 x4 x5 : Operand} (ho : o.op = .buildSlice 23 6 #[(0, x0), (1, x1), (2, x2), (3, x3), (4, x4), (5, x5)]) (H : HoldG M w0 w l) (h0 : ∃ s : Str, a.eval x0 = .string ⟨s.toArray⟩ ∧ s.length ≤ K) (h1 : ∃ s : Str, a.eval x1 = .string ⟨s.toArray⟩ ∧ s.length ≤ K) (h2 : ∃ s : Str, a.eval x2 = .string ⟨s.toArray⟩ ∧ s.length ≤ K) (h3 : ∃ s : Str, a.eval x3 = .string ⟨s.toArray⟩ ∧ s.length ≤ K) (h4 : ∃ s : Str, a.eval x4 = .string ⟨s.toArray⟩ ∧ s.length ≤ K) (h5 : ∃ s : Str, a.eval x5 = .string ⟨s.toArray⟩ ∧ s.length ≤ K)
    (h : ∀ b cs w', StrB cs 6 K → HoldG M w0 w' (l ++ [.blk b cs 9]) → wpList Tryz.prog ops Q rest (a.put o.dst (.slice (some ⟨b, 0, none⟩) 6 6)) w') : wpList Tryz.prog ops Q (o :: rest) a w := by
  obtain ⟨s0, e0, l0⟩ := h0
  obtain ⟨s1, e1, l1⟩ := h1
  obtain ⟨s2, e2, l2⟩ := h2
  obtain ⟨s3, e3, l3⟩ := h3
  obtain ⟨s4, e4, l4⟩ := h4
  obtain ⟨s5, e5, l5⟩ := h5
  refine own_build hg _ _ _ ho H (strRow [s0, s1, s2, s3, s4, s5]) 9 (fun W => ?_) (fun b w' H' => h b _ w' (strB_of _ _ (by intro s hs; simp only [List.mem_cons, List.not_mem_nil, or_false] at hs; rcases hs with rfl | rfl | rfl | rfl | rfl | rfl <;> assumption) rfl) H')
  simp only [List.map_toArray, List.map_cons, List.map_nil, e0, e1, e2, e3, e4, e5]
  exact build_strs6 s0 s1 s2 s3 s4 s5 W
theorem own_strs10 (K : Nat) (hg : Region.wanted o (yielded ops a.tmps) = true) {x0 x1 x2 x3 x4 x5 x6 x7 x8 x9 : Operand} (ho : o.op = .buildSlice 23 10 #[(0, x0), (1, x1), (2, x2), (3, x3), (4, x4), (5, x5), (6, x6), (7, x7), (8, x8), (9, x9)]) (H : HoldG M w0 w l) (h0 : ∃ s : Str, a.eval x0 = .string ⟨s.toArray⟩ ∧ s.length ≤ K) (h1 : ∃ s : Str, a.eval x1 = .string ⟨s.toArray⟩ ∧ s.length ≤ K) (h2 : ∃ s : Str, a.eval x2 = .string ⟨s.toArray⟩ ∧ s.length ≤ K) (h3 : ∃ s : Str, a.eval x3 = .string ⟨s.toArray⟩ ∧ s.length ≤ K) (h4 : ∃ s : Str, a.eval x4 = .string ⟨s.toArray⟩ ∧ s.length ≤ K) (h5 : ∃ s : Str, a.eval x5 = .string ⟨s.toArray⟩ ∧ s.length ≤ K) (h6 : ∃ s : Str, a.eval x6 = .string ⟨s.toArray⟩ ∧ s.length ≤ K) (h7 : ∃ s : Str, a.eval x7 = .string ⟨s.toArray⟩ ∧ s.length ≤ K) (h8 : ∃ s : Str, a.eval x8 = .string ⟨s.toArray⟩ ∧ s.length ≤ K) (h9 : ∃ s : Str, a.eval x9 = .string ⟨s.toArray⟩ ∧ s.length ≤ K)
    (h : ∀ b cs w', StrB cs 10 K → HoldG M w0 w' (l ++ [.blk b cs 9]) → wpList Tryz.prog ops Q rest (a.put o.dst (.slice (some ⟨b, 0, none⟩) 10 10)) w') : wpList Tryz.prog ops Q (o :: rest) a w := by
  obtain ⟨s0, e0, l0⟩ := h0
  obtain ⟨s1, e1, l1⟩ := h1
  obtain ⟨s2, e2, l2⟩ := h2
  obtain ⟨s3, e3, l3⟩ := h3
  obtain ⟨s4, e4, l4⟩ := h4
  obtain ⟨s5, e5, l5⟩ := h5
  obtain ⟨s6, e6, l6⟩ := h6
  obtain ⟨s7, e7, l7⟩ := h7
  obtain ⟨s8, e8, l8⟩ := h8
  obtain ⟨s9, e9, l9⟩ := h9
  refine own_build hg _ _ _ ho H (strRow [s0, s1, s2, s3, s4, s5, s6, s7, s8, s9]) 9 (fun W => ?_) (fun b w' H' => h b _ w' (strB_of _ _ (by intro s hs; simp only [List.mem_cons, List.not_mem_nil, or_false] at hs; rcases hs with rfl | rfl | rfl | rfl | rfl | rfl | rfl | rfl | rfl | rfl <;> assumption) rfl) H')
  simp only [List.map_toArray, List.map_cons, List.map_nil, e0, e1, e2, e3, e4, e5, e6, e7, e8, e9]
  exact build_strs10 s0 s1 s2 s3 s4 s5 s6 s7 s8 s9 W
theorem own_strs16 (K : Nat) (hg : Region.wanted o (yielded ops a.tmps) = true) {x0 x1 x2 x3 x4 x5 x6 x7 x8 x9 x10 x11 x12 x13 x14 x15 : Operand} (ho : o.op = .buildSlice 23 16 #[(0, x0), (1, x1), (2, x2), (3, x3), (4, x4), (5, x5), (6, x6), (7, x7), (8, x8), (9, x9), (10, x10), (11, x11), (12, x12), (13, x13), (14, x14), (15, x15)]) (H : HoldG M w0 w l) (h0 : ∃ s : Str, a.eval x0 = .string ⟨s.toArray⟩ ∧ s.length ≤ K) (h1 : ∃ s : Str, a.eval x1 = .string ⟨s.toArray⟩ ∧ s.length ≤ K) (h2 : ∃ s : Str, a.eval x2 = .string ⟨s.toArray⟩ ∧ s.length ≤ K) (h3 : ∃ s : Str, a.eval x3 = .string ⟨s.toArray⟩ ∧ s.length ≤ K) (h4 : ∃ s : Str, a.eval x4 = .string ⟨s.toArray⟩ ∧ s.length ≤ K) (h5 : ∃ s : Str, a.eval x5 = .string ⟨s.toArray⟩ ∧ s.length ≤ K) (h6 : ∃ s : Str, a.eval x6 = .string ⟨s.toArray⟩ ∧ s.length ≤ K) (h7 : ∃ s : Str, a.eval x7 = .string ⟨s.toArray⟩ ∧ s.length ≤ K) (h8 : ∃ s : Str, a.eval x8 = .string ⟨s.toArray⟩ ∧ s.length ≤ K) (h9 : ∃ s : Str, a.eval x9 = .string ⟨s.toArray⟩ ∧ s.length ≤ K) (h10 : ∃ s : Str, a.eval x10 = .string ⟨s.toArray⟩ ∧ s.length ≤ K) (h11 : ∃ s : Str, a.eval x11 = .string ⟨s.toArray⟩ ∧ s.length ≤ K) (h12 : ∃ s : Str, a.eval x12 = .string ⟨s.toArray⟩ ∧ s.length ≤ K) (h13 : ∃ s : Str, a.eval x13 = .string ⟨s.toArray⟩ ∧ s.length ≤ K) (h14 : ∃ s : Str, a.eval x14 = .string ⟨s.toArray⟩ ∧ s.length ≤ K) (h15 : ∃ s : Str, a.eval x15 = .string ⟨s.toArray⟩ ∧ s.length ≤ K)
    (h : ∀ b cs w', StrB cs 16 K → HoldG M w0 w' (l ++ [.blk b cs 9]) → wpList Tryz.prog ops Q rest (a.put o.dst (.slice (some ⟨b, 0, none⟩) 16 16)) w') : wpList Tryz.prog ops Q (o :: rest) a w := by
  obtain ⟨s0, e0, l0⟩ := h0
  obtain ⟨s1, e1, l1⟩ := h1
  obtain ⟨s2, e2, l2⟩ := h2
  obtain ⟨s3, e3, l3⟩ := h3
  obtain ⟨s4, e4, l4⟩ := h4
  obtain ⟨s5, e5, l5⟩ := h5
  obtain ⟨s6, e6, l6⟩ := h6
  obtain ⟨s7, e7, l7⟩ := h7
  obtain ⟨s8, e8, l8⟩ := h8
  obtain ⟨s9, e9, l9⟩ := h9
  obtain ⟨s10, e10, l10⟩ := h10
  obtain ⟨s11, e11, l11⟩ := h11
  obtain ⟨s12, e12, l12⟩ := h12
  obtain ⟨s13, e13, l13⟩ := h13
  obtain ⟨s14, e14, l14⟩ := h14
  obtain ⟨s15, e15, l15⟩ := h15
  refine own_build hg _ _ _ ho H (strRow [s0, s1, s2, s3, s4, s5, s6, s7, s8, s9, s10, s11, s12, s13, s14, s15]) 9 (fun W => ?_) (fun b w' H' => h b _ w' (strB_of _ _ (by intro s hs; simp only [List.mem_cons, List.not_mem_nil, or_false] at hs; rcases hs with rfl | rfl | rfl | rfl | rfl | rfl | rfl | rfl | rfl | rfl | rfl | rfl | rfl | rfl | rfl | rfl <;> assumption) rfl) H')
  simp only [List.map_toArray, List.map_cons, List.map_nil, e0, e1, e2, e3, e4, e5, e6, e7, e8, e9, e10, e11, e12, e13, e14, e15]
  exact build_strs16 s0 s1 s2 s3 s4 s5 s6 s7 s8 s9 s10 s11 s12 s13 s14 s15 W
theorem own_strs18 (K : Nat) (hg : Region.wanted o (yielded ops a.tmps) = true) {x0 x1 x2 x3 x4 x5 x6 x7 x8 x9 x10 x11 x12 x13 x14 x15 x16 x17 : Operand} (ho : o.op = .buildSlice 23 18 #[(0, x0), (1, x1), (2, x2), (3, x3), (4, x4), (5, x5), (6, x6), (7, x7), (8, x8), (9, x9), (10, x10), (11, x11), (12, x12), (13, x13), (14, x14), (15, x15), (16, x16), (17, x17)]) (H : HoldG M w0 w l) (h0 : ∃ s : Str, a.eval x0 = .string ⟨s.toArray⟩ ∧ s.length ≤ K) (h1 : ∃ s : Str, a.eval x1 = .string ⟨s.toArray⟩ ∧ s.length ≤ K) (h2 : ∃ s : Str, a.eval x2 = .string ⟨s.toArray⟩ ∧ s.length ≤ K) (h3 : ∃ s : Str, a.eval x3 = .string ⟨s.toArray⟩ ∧ s.length ≤ K) (h4 : ∃ s : Str, a.eval x4 = .string ⟨s.toArray⟩ ∧ s.length ≤ K) (h5 : ∃ s : Str, a.eval x5 = .string ⟨s.toArray⟩ ∧ s.length ≤ K) (h6 : ∃ s : Str, a.eval x6 = .string ⟨s.toArray⟩ ∧ s.length ≤ K) (h7 : ∃ s : Str, a.eval x7 = .string ⟨s.toArray⟩ ∧ s.length ≤ K) (h8 : ∃ s : Str, a.eval x8 = .string ⟨s.toArray⟩ ∧ s.length ≤ K) (h9 : ∃ s : Str, a.eval x9 = .string ⟨s.toArray⟩ ∧ s.length ≤ K) (h10 : ∃ s : Str, a.eval x10 = .string ⟨s.toArray⟩ ∧ s.length ≤ K) (h11 : ∃ s : Str, a.eval x11 = .string ⟨s.toArray⟩ ∧ s.length ≤ K) (h12 : ∃ s : Str, a.eval x12 = .string ⟨s.toArray⟩ ∧ s.length ≤ K) (h13 : ∃ s : Str, a.eval x13 = .string ⟨s.toArray⟩ ∧ s.length ≤ K) (h14 : ∃ s : Str, a.eval x14 = .string ⟨s.toArray⟩ ∧ s.length ≤ K) (h15 : ∃ s : Str, a.eval x15 = .string ⟨s.toArray⟩ ∧ s.length ≤ K) (h16 : ∃ s : Str, a.eval x16 = .string ⟨s.toArray⟩ ∧ s.length ≤ K) (h17 : ∃ s : Str, a.eval x17 = .string ⟨s.toArray⟩ ∧ s.length ≤ K)
    (h : ∀ b cs w', StrB cs 18 K → HoldG M w0 w' (l ++ [.blk b cs 9]) → wpList Tryz.prog ops Q rest (a.put o.dst (.slice (some ⟨b, 0, none⟩) 18 18)) w') : wpList Tryz.prog ops Q (o :: rest) a w := by
  obtain ⟨s0, e0, l0⟩ := h0
  obtain ⟨s1, e1, l1⟩ := h1
  obtain ⟨s2, e2, l2⟩ := h2
  obtain ⟨s3, e3, l3⟩ := h3
  obtain ⟨s4, e4, l4⟩ := h4
  obtain ⟨s5, e5, l5⟩ := h5
  obtain ⟨s6, e6, l6⟩ := h6
  obtain ⟨s7, e7, l7⟩ := h7
  obtain ⟨s8, e8, l8⟩ := h8
  obtain ⟨s9, e9, l9⟩ := h9
  obtain ⟨s10, e10, l10⟩ := h10
  obtain ⟨s11, e11, l11⟩ := h11
  obtain ⟨s12, e12, l12⟩ := h12
  obtain ⟨s13, e13, l13⟩ := h13
  obtain ⟨s14, e14, l14⟩ := h14
  obtain ⟨s15, e15, l15⟩ := h15
  obtain ⟨s16, e16, l16⟩ := h16
  obtain ⟨s17, e17, l17⟩ := h17
  refine own_build hg _ _ _ ho H (strRow [s0, s1, s2, s3, s4, s5, s6, s7, s8, s9, s10, s11, s12, s13, s14, s15, s16, s17]) 9 (fun W => ?_) (fun b w' H' => h b _ w' (strB_of _ _ (by intro s hs; simp only [List.mem_cons, List.not_mem_nil, or_false] at hs; rcases hs with rfl | rfl | rfl | rfl | rfl | rfl | rfl | rfl | rfl | rfl | rfl | rfl | rfl | rfl | rfl | rfl | rfl | rfl <;> assumption) rfl) H')
  simp only [List.map_toArray, List.map_cons, List.map_nil, e0, e1, e2, e3, e4, e5, e6, e7, e8, e9, e10, e11, e12, e13, e14, e15, e16, e17]
  exact build_strs18 s0 s1 s2 s3 s4 s5 s6 s7 s8 s9 s10 s11 s12 s13 s14 s15 s16 s17 W
end
end Go.Proofs.YtllmgmfihijejaaGreatDoor
