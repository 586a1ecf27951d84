/-
  Laws of walks, and walks: LexPlaces.
-/
import Derived.Test.YtllmgmfihijejaaDoorLy1
set_option linter.unusedVariables false
set_option linter.unusedSimpArgs false
/-
  The walk of mudlarklaw09: LexPlaces.
-/
namespace Go.Proofs.YtllmgmfihijejaaDoor
open Go.RowKit Go.Shelf Go.MapKept
attribute [local go_sem] Oper.semAt_some
set_option linter.unusedSimpArgs false

/-- a word in its row, and what follows it -/
structure WordIn (L : Str) (ws : List WordD) (i : Nat) (d : WordD) (e : Nat) : Prop where
  get : ws[i]? = some d
  lt : d.place < e
  le : e ≤ L.length
  rd : wordP L d.place = .ok (d, e)
  first : i = 0 → d.place = 0
  last : ¬ i + 1 < ws.length → e = L.length
  next : ∀ d', ws[i + 1]? = some d' → e = d'.place
theorem wordIn {L : Str} {ws : List WordD} (h : wordsP L = .ok ws) {i : Nat} (hi : i < ws.length) : ∃ d e, WordIn L ws i d e := by
  have hs : ws = ws.take i ++ ws[i] :: ws.drop (i + 1) := by rw [← List.drop_eq_getElem_cons hi, List.take_append_drop]
  obtain ⟨h1, h2⟩ := wordsAt_each ws 0 (by omega) h _ _ _ hs
  have h3 := wordP_le h1 h2
  refine ⟨ws[i], nextAt L (ws.drop (i + 1)), List.getElem?_eq_getElem hi, by omega, h3.2, h2, ?_, ?_, ?_⟩
  · rintro rfl
    have := wordsAt_next (Nat.zero_le _) (show wordsAt L 0 = .ok ws from h)
    cases ws with
    | nil => simp at hi
    | cons a l => exact this
  · intro hn
    rw [List.drop_of_length_le (by omega)]
    rfl
  · intro d' hd
    have hlt : i + 1 < ws.length := (List.getElem?_eq_some_iff.1 hd).1
    rw [List.drop_eq_getElem_cons hlt]
    rw [List.getElem?_eq_getElem hlt] at hd
    cases hd
    rfl
theorem take_code {L : Str} {p x : Nat} (h : wordsP L = .error (p, x)) : NoB L → ∃ m, wordsP (L.take p) = .ok m := fun hB => by
  obtain ⟨m, hm⟩ := wordsAt_ahead hB _ 0 p x (Nat.le_refl _) h
  refine ⟨m, ?_⟩
  have := wordsAt_err _ 0 p x (Nat.le_refl _) h
  exact hm
theorem wordC_zero (d : WordD) : (wordC d).setIfInBounds 1 (.int .i64 0) = wordC { d with place := 0 } := by
  unfold wordC
  simp only [List.setIfInBounds_toArray, List.set_cons_succ, List.set_cons_zero]
  rfl

set_option maxRecDepth 100000 in
set_option maxHeartbeats 16000000 in
theorem law_LexPlaces (L : Str) (w0 : World) (hz : MaxL w0) : Calls Tryd.prog 5 #[.string ⟨L.toArray⟩] w0 fun e w' => e = .returned (.bool true) ∧ Below w0.heap.size w0 w' := by
  have H := Hold.start w0
  have hx := fun w (hb : Below w0.heap.size w0 w) => lx_Words L w (hz.block (hb.block 0 hz.lt))
  have hAw := fun w (hb : Below w0.heap.size w0 w) => law_awake w (hz.block (hb.block 0 hz.lt))
  by_cases hlen : 1000 < L.length
  · have d0 : decide ((1000 : Int) < (L.length : Int)) = true := by simp; omega
    have hcL : True := trivial
    go_enter Tryd.func5, Tryd.ntmps5
    go_wp2_with (first | fail | (go_at_call 9; (with_reducible refine ch (hAw _ H.below) H ?_); clear H; intro w H))
    go_ret
    exact ⟨rfl, H.below⟩
  · have d0 : decide ((1000 : Int) < (L.length : Int)) = false := by simp; omega
    obtain ⟨b, hcb, hNB⟩ : ∃ b, Lib.contains L [91, 58] = b ∧ (b = false → NoB L) := ⟨_, rfl, noB_of⟩
    have hcL := fun w (hb : Below w0.heap.size w0 w) => sh_contains L [91, 58] (by omega) w (hz.block (hb.block 0 hz.lt))
    rw [hcb] at hcL
    clear hcb
    cases hwx : wordsF L with
    | error x =>
      obtain ⟨p, x⟩ := x
      have hwx' := (wordsF_short (by omega)).symm.trans hwx
      have hx4 := wordsP_code hwx'
      have hpl := (wordsAt_err _ 0 p x (Nat.le_refl _) hwx').2
      have ht := fun w (hb : Below w0.heap.size w0 w) => lx_Words (L.take p) w (hz.block (hb.block 0 hz.lt))
      rw [hwx] at hx
      clear hwx
      simp only [WordsR] at hx
      have d1 : decide ((p : Int) < (L.length : Int)) = true := by simp; omega
      cases hwt : wordsF (L.take p) with
      | error y =>
        obtain ⟨p2, y⟩ := y
        have hwt' := (wordsF_short (by simp; omega)).symm.trans hwt
        have hy4 := wordsP_code hwt'
        have hb : b = true := by
          cases b with
          | true => rfl
          | false => obtain ⟨m, hm⟩ := take_code hwx' (hNB rfl); rw [hm] at hwt'; cases hwt'
        have hp0 : ((p : Int) == 0) = false := by
          have : p ≠ 0 := by rintro rfl; cases hwt'
          simp; omega
        subst hb
        rw [hwt] at ht
        simp only [WordsR] at ht
        clear hwt hwt' hNB hwx' hz
        rcases hx4 with rfl | rfl <;> rcases hy4 with rfl | rfl
        all_goals
          go_enter Tryd.func5, Tryd.ntmps5
          go_wp2_with (first | ((with_reducible refine gU ?_); refine aU ?_) | (go_at_call 9; (with_reducible refine ch (hAw _ H.below) H ?_); clear H; intro w H) | (go_at_call 10; (with_reducible refine ch (hcL _ H.below) H ?_); clear H; intro w H) | (go_at_call 6; (with_reducible refine (hx _ H.below).mono ?_); rintro e w ⟨rfl, hb⟩; replace H := H.call hb; clear hb) | (go_at_call 6; (with_reducible refine (ht _ H.below).mono ?_); rintro e w ⟨rfl, hb⟩; replace H := H.call hb; clear hb))
          go_ret
          exact ⟨rfl, H.below⟩
      | ok m =>
        have hwt' := (wordsF_short (by simp; omega)).symm.trans hwt
        have hm : p = 0 ∧ m = [] ∨ ((p : Int) == 0) = false ∧ ¬ m = [] := by
          by_cases hp : p = 0
          · subst hp
            have : wordsP (L.take 0) = .ok [] := rfl
            rw [this] at hwt'
            cases hwt'
            exact .inl ⟨rfl, rfl⟩
          · have := wordsP_some hwt' (by intro hc; have := congrArg List.length hc; simp at this; rcases this with h | h; exact hp h; subst h; simp at hpl)
            exact .inr ⟨by simp; omega, this⟩
        rw [hwt] at ht
        simp only [WordsR] at ht
        clear hwt hwt' hNB hwx' hz
        have hm3 : ((p : Int) == 0) = false → ¬ p = 0 := by rintro h rfl; cases h
        rcases hm with ⟨rfl, rfl⟩ | ⟨hm1, hm2⟩
        · rw [List.take_zero] at ht
          clear hm3
          rcases hx4 with rfl | rfl
          all_goals
            go_enter Tryd.func5, Tryd.ntmps5
            go_wp2_with (first | ((with_reducible refine gU ?_); refine aU ?_) | (go_at_call 9; (with_reducible refine ch (hAw _ H.below) H ?_); clear H; intro w H) | (go_at_call 10; (with_reducible refine ch (hcL _ H.below) H ?_); clear H; intro w H) | (go_at_call 6; (with_reducible refine (hx _ H.below).mono ?_); rintro e w ⟨rfl, hb⟩; replace H := H.call hb; clear hb) | (go_at_call 6; (with_reducible refine (ht _ H.below).mono ?_); rintro e w ⟨⟨v, rfl, ho⟩, hb⟩; replace H := H.gainRow hb ho; obtain ⟨qt, capt, rfl, hqt⟩ := ownsRow_slice ho; clear hb ho; (try simp only [nrm, nrl, Value.cells] at H)))
            go_ret
            exact ⟨rfl, H.below⟩
        · replace hm3 := hm3 hm1
          have hm4 : 0 < m.length := List.length_pos_iff.2 hm2
          have hm5 : decide (0 < m.length) = true := by simpa using hm4
          rcases hx4 with rfl | rfl
          all_goals
            go_enter Tryd.func5, Tryd.ntmps5
            go_wp2_with (first | ((with_reducible refine gU ?_); refine aU ?_) | (go_at_call 9; (with_reducible refine ch (hAw _ H.below) H ?_); clear H; intro w H) | (go_at_call 10; (with_reducible refine ch (hcL _ H.below) H ?_); clear H; intro w H) | (go_at_call 6; (with_reducible refine (hx _ H.below).mono ?_); rintro e w ⟨rfl, hb⟩; replace H := H.call hb; clear hb) | (go_at_call 6; (with_reducible refine (ht _ H.below).mono ?_); rintro e w ⟨⟨v, rfl, ho⟩, hb⟩; replace H := H.gainRow hb ho; obtain ⟨qt, capt, rfl, hqt⟩ := ownsRow_slice ho; clear hb ho; (try simp only [nrm, nrl, Value.cells] at H)))
            go_ret
            exact ⟨rfl, H.below⟩
    | ok ws =>
      have hwx' := (wordsF_short (by omega)).symm.trans hwx
      have hlw := wordsF_len hwx
      have hin := fun i (hi : i < ws.length) => wordIn hwx' hi
      have hpc := fun (i j : Nat) w (hb : Below w0.heap.size w0 w) => lx_Words ((L.take j).drop i) w (hz.block (hb.block 0 hz.lt))
      rw [hwx] at hx
      simp only [WordsR] at hx
      by_cases hL : L = []
      · subst hL
        have hw0 : wordsP [] = .ok [] := rfl
        rw [hw0] at hwx'
        cases hwx'
        clear hwx hz hin hpc hNB hcL hlw hlen d0
        go_enter Tryd.func5, Tryd.ntmps5
        go_wp2_with (first | fail | (go_at_call 9; (with_reducible refine ch (hAw _ H.below) H ?_); clear H; intro w H) | (go_at_call 6; (with_reducible refine (hx _ H.below).mono ?_); rintro e w ⟨⟨v, rfl, ho⟩, hb⟩; replace H := H.gainRow hb ho; obtain ⟨qx, capx, rfl, hqx⟩ := ownsRow_slice ho; clear hb ho; (try simp only [nrm, nrl, Value.cells] at H)))
        replace H := H.take 0
        go_loopw [9] (fun k wr => k = .int .i64 0 ∧ Hold w0 wr []) (fun k _ => 0)
        case atStart => exact ⟨rfl, H⟩
        case round =>
          clear H
          obtain ⟨rfl, H⟩ := hrel
          go_wp2_with (first | ((with_reducible refine gE ?_); refine aE ?_))
          go_ret
          exact ⟨rfl, H.below⟩
      have hne := wordsP_some hwx' hL
      have hne4 : 0 < ws.length := List.length_pos_iff.2 hne
      have hne5 : decide (0 < ws.length) = true := by simpa using hne4
      clear hwx hwx' hz hL
      go_enter Tryd.func5, Tryd.ntmps5
      go_wp2_with (first | fail | (go_at_call 9; (with_reducible refine ch (hAw _ H.below) H ?_); clear H; intro w H) | (go_at_call 10; (with_reducible refine ch (hcL _ H.below) H ?_); clear H; intro w H) | (go_at_call 6; (with_reducible refine (hx _ H.below).mono ?_); rintro e w ⟨⟨v, rfl, ho⟩, hb⟩; replace H := H.gainRow hb ho; obtain ⟨qx, capx, rfl, hqx⟩ := ownsRow_slice ho; clear hb ho; (try simp only [nrm, nrl, Value.cells] at H)))
      clear hx d0
      go_loopw [9] (fun k wr => ∃ i : Nat, k = .int .i64 i ∧ i ≤ ws.length ∧ Hold w0 wr [.row (.slice qx ws.length capx) 38 17 ws.length (flatW ws)]) (fun k _ => ws.length + 1 - (intOf k).toNat)
      case atStart => exact ⟨0, rfl, by omega, H⟩
      case round =>
        clear H
        obtain ⟨i, rfl, hi, H⟩ := hrel
        by_cases hlt : i < ws.length
        · have di : decide ((i : Int) < (ws.length : Int)) = true := by simp; omega
          obtain ⟨d, e, I⟩ := hin i hlt
          obtain ⟨g, cs, T, rfl, hg, hh, hk⟩ := (H.rdw .zero hlw).form I.get
          have cpl : wr.cell? ⟨g, i * 17 + 1, none⟩ = some (.int .i64 (d.place : Int)) := (cell_of_row wr g (i * 17 + 1) cs T (0, 0) hh).trans ((hk 1 (by omega)).trans (wg1 d))
          go_upto_if 82 with (first | fail | (go_at_call 9; (with_reducible refine ch (hAw _ H.below) H ?_); clear H; intro w H) | (go_at_call 10; (with_reducible refine ch (hcL _ H.below) H ?_); clear H; intro w H))
          go_cut [10] from 70 to 144 (fun v wx => v = .int .i64 (e : Int) ∧ wx = wr)
          case first =>
            have hs1 : IntKind.wrap .i64 ((i : Int) + 1) = ((i + 1 : Nat) : Int) := by rw [IntKind.wrap_i64]; omega
            by_cases hn1 : i + 1 < ws.length
            · have dn : decide (((i + 1 : Nat) : Int) < (ws.length : Int)) = true := by simp; omega
              have dn2 : decide ((i : Int) + 1 < (ws.length : Int)) = true := by simp; omega
              obtain ⟨d', hd'⟩ : ∃ d', ws[i + 1]? = some d' := ⟨_, List.getElem?_eq_getElem hn1⟩
              have he := Lib.hid (I.next d' hd')
              obtain ⟨g', cs', T', e', hg', hh', hk'⟩ := (H.rdw .zero hlw).form hd'
              cases e'
              have cpn : wr.cell? ⟨g, (i + 1) * 17 + 1, none⟩ = some (.int .i64 (d'.place : Int)) := (cell_of_row wr g ((i + 1) * 17 + 1) cs' T' (0, 0) hh').trans ((hk' 1 (by omega)).trans (wg1 d'))
              clear hd' hk hk' hh hh' hg' hin
              go_wp2_with (first | ((with_reducible show wpList _ _ _ ({ op := Op.indexAddr .., .. } :: _) _ _); refine own_pure (by first | rfl | exact wanted_g rfl (yielded_of rfl (by first | rfl | (simp only [put_lit, put_no, List.setIfInBounds_toArray, List.set_cons_succ, List.set_cons_zero, ev_tmp, ev_const, ev_glob, ev_func, List.getD_cons_succ, List.getD_cons_zero]; rfl)))) (idx_run (sz := 17) Tryd.underlying22 (fun W => by kernel_rfl) rfl (by first | (simp only [put_lit, put_no, List.setIfInBounds_toArray, List.set_cons_succ, List.set_cons_zero, ev_tmp, ev_const, ev_glob, ev_func, List.getD_cons_succ, List.getD_cons_zero]; done) | (simp only [put_lit, put_no, List.setIfInBounds_toArray, List.set_cons_succ, List.set_cons_zero, ev_tmp, ev_const, ev_glob, ev_func, List.getD_cons_succ, List.getD_cons_zero]; rfl)) (by first | (simp only [put_lit, put_no, List.setIfInBounds_toArray, List.set_cons_succ, List.set_cons_zero, ev_tmp, ev_const, ev_glob, ev_func, List.getD_cons_succ, List.getD_cons_zero]; done) | (simp only [put_lit, put_no, List.setIfInBounds_toArray, List.set_cons_succ, List.set_cons_zero, ev_tmp, ev_const, ev_glob, ev_func, List.getD_cons_succ, List.getD_cons_zero]; rfl)) (by first | exact hlt | exact hn1) (Nat.zero_add _)) ?_) | ((with_reducible show wpList _ _ _ ({ op := Op.load 3 .., .. } :: _) _ _); refine own_pure (by first | rfl | exact wanted_g rfl (yielded_of rfl (by first | rfl | (simp only [put_lit, put_no, List.setIfInBounds_toArray, List.set_cons_succ, List.set_cons_zero, ev_tmp, ev_const, ev_glob, ev_func, List.getD_cons_succ, List.getD_cons_zero]; rfl)))) (load_run rfl one_int (by first | (simp only [put_lit, put_no, List.setIfInBounds_toArray, List.set_cons_succ, List.set_cons_zero, ev_tmp, ev_const, ev_glob, ev_func, List.getD_cons_succ, List.getD_cons_zero]; done) | (simp only [put_lit, put_no, List.setIfInBounds_toArray, List.set_cons_succ, List.set_cons_zero, ev_tmp, ev_const, ev_glob, ev_func, List.getD_cons_succ, List.getD_cons_zero]; rfl)) (by first | exact cpl | exact cpn)) ?_) | fail | (go_at_call 9; (with_reducible refine ch (hAw _ H.below) H ?_); clear H; intro w H) | (go_at_call 10; (with_reducible refine ch (hcL _ H.below) H ?_); clear H; intro w H))
              go_meet
              case rel => exact ⟨by rw [he.out], rfl⟩
            · have dn : decide (((i + 1 : Nat) : Int) < (ws.length : Int)) = false := by simp; omega
              have dn2 : decide ((i : Int) + 1 < (ws.length : Int)) = false := by simp; omega
              have he := Lib.hid (I.last hn1)
              clear hk hh hin
              go_wp2_with (first | fail | (go_at_call 9; (with_reducible refine ch (hAw _ H.below) H ?_); clear H; intro w H) | (go_at_call 10; (with_reducible refine ch (hcL _ H.below) H ?_); clear H; intro w H))
              go_meet
              case rel => exact ⟨by rw [he.out], rfl⟩
          case rest =>
            obtain ⟨rfl, hwc⟩ := hcut
            subst wc
            have hlt2 := I.lt
            have hle2 := I.le
            clear hin
            go_upto_region 15 with (first | fail | (go_at_call 9; (with_reducible refine ch (hAw _ H.below) H ?_); clear H; intro w H) | (go_at_call 10; (with_reducible refine ch (hcL _ H.below) H ?_); clear H; intro w H))
            go_cut [107] from 70 to 144 (fun v wx => v = .bool false ∧ Hid (Below wr.heap.size wr wx))
            case first =>
              by_cases h0 : i = 0
              · have dp := I.first h0
                refine wp_region_seq 19 [fun v _ => v = .slice (some ⟨g, 0, none⟩) ws.length capx, fun v _ => v = .int .i64 (i : Int), fun v _ => v = .pointer (some ⟨g, i * 17, none⟩), fun v _ => v = .pointer (some ⟨g, i * 17 + 1, none⟩), fun v _ => v = .int .i64 (d.place : Int), fun v _ => v = .int .i64 (e : Int), fun v _ => v = .bool false, fun v _ => v = .bool false, fun v _ => v = .int .i64 (i : Int), fun v _ => v = .bool true, fun v _ => v = .bool true, fun v _ => v = .slice (some ⟨g, 0, none⟩) ws.length capx, fun v _ => v = .int .i64 (i : Int), fun v _ => v = .pointer (some ⟨g, i * 17, none⟩), fun v _ => v = .pointer (some ⟨g, i * 17 + 1, none⟩), fun v _ => v = .int .i64 (d.place : Int), fun v _ => v = .bool false, fun v _ => v = .bool false, fun v _ => v = .bool false] (fun _ => false) (by kernel_rfl) (by kernel_rfl) ⟨stable_eq _, stable_eq _, stable_eq _, stable_eq _, stable_eq _, stable_eq _, stable_eq _, stable_eq _, stable_eq _, stable_eq _, stable_eq _, stable_eq _, stable_eq _, stable_eq _, stable_eq _, stable_eq _, stable_eq _, stable_eq _, stable_eq _, trivial⟩ (fun _ _ h => by cases h) ?ob ?en
                case ob =>
                  refine ⟨?_, ?_, ?_, ?_, ?_, ?_, ?_, ?_, ?_, ?_, ?_, ?_, ?_, ?_, ?_, ?_, ?_, ?_, ?_, trivial⟩ <;> intro A W h
                  · exact rs_move rfl rfl (h.frame 3 rfl) (by decide)
                  · exact rs_move rfl rfl (h.frame 9 rfl) (by decide)
                  · exact rs_pure rfl (idx_run (sz := 17) Tryd.underlying22 (fun W => by kernel_rfl) rfl (h.dep 0 89 rfl rfl) (h.dep 1 90 rfl rfl) hlt (Nat.zero_add _)) (by decide)
                  · (have e91 : A.eval (.tmp 91) = .pointer (some ⟨g, i * 17, none⟩) := h.dep 2 91 rfl rfl; refine rs_pure rfl ?_ (by decide); simp only [execOp, e91]; (simp [go_sem] <;> first | done | omega | (rw [IntKind.wrap_i64]; omega) | (rw [IntKind.wrap_u8]; omega) | (rw [IntKind.wrap_u64]; omega)))
                  · exact rs_pure rfl (load_run rfl one_int (h.dep 3 92 rfl rfl) ((h.below.cell (p := ⟨g, i * 17 + 1, none⟩) hg).trans cpl)) (by decide)
                  · exact rs_move rfl rfl (h.frame 10 rfl) (by decide)
                  · (have e93 : A.eval (.tmp 93) = .int .i64 (d.place : Int) := h.dep 4 93 rfl rfl; have e94 : A.eval (.tmp 94) = .int .i64 (e : Int) := h.dep 5 94 rfl rfl; refine rs_pure rfl ?_ (by decide); simp only [execOp, e93, e94]; (simp [go_sem] <;> first | done | omega | (rw [IntKind.wrap_i64]; omega) | (rw [IntKind.wrap_u8]; omega) | (rw [IntKind.wrap_u64]; omega)))
                  · exact rs_move rfl rfl (h.dep 6 95 rfl rfl) (by decide)
                  · exact rs_move (wanted_g rfl (yielded_of (d := 96) rfl (h.dep 7 96 rfl rfl))) rfl (h.frame 9 rfl) (by decide)
                  · (have e97 : A.eval (.tmp 97) = .int .i64 (i : Int) := h.dep 8 97 rfl rfl; refine rs_pure (wanted_g rfl (yielded_of (d := 96) rfl (h.dep 7 96 rfl rfl))) ?_ (by decide); simp only [execOp, e97]; (simp [go_sem] <;> first | done | omega | (rw [IntKind.wrap_i64]; omega) | (rw [IntKind.wrap_u8]; omega) | (rw [IntKind.wrap_u64]; omega)))
                  · exact rs_move (wanted_g rfl (yielded_of (d := 96) rfl (h.dep 7 96 rfl rfl))) rfl (h.dep 9 98 rfl rfl) (by decide)
                  · exact rs_move (wanted_g rfl (yielded_of (d := 99) rfl (h.dep 10 99 rfl rfl))) rfl (h.frame 3 rfl) (by decide)
                  · exact rs_move (wanted_g rfl (yielded_of (d := 99) rfl (h.dep 10 99 rfl rfl))) rfl (h.frame 9 rfl) (by decide)
                  · exact rs_pure (wanted_g rfl (yielded_of (d := 99) rfl (h.dep 10 99 rfl rfl))) (idx_run (sz := 17) Tryd.underlying22 (fun W => by kernel_rfl) rfl (h.dep 11 100 rfl rfl) (h.dep 12 101 rfl rfl) hlt (Nat.zero_add _)) (by decide)
                  · (have e102 : A.eval (.tmp 102) = .pointer (some ⟨g, i * 17, none⟩) := h.dep 13 102 rfl rfl; refine rs_pure (wanted_g rfl (yielded_of (d := 99) rfl (h.dep 10 99 rfl rfl))) ?_ (by decide); simp only [execOp, e102]; (simp [go_sem] <;> first | done | omega | (rw [IntKind.wrap_i64]; omega) | (rw [IntKind.wrap_u8]; omega) | (rw [IntKind.wrap_u64]; omega)))
                  · exact rs_pure (wanted_g rfl (yielded_of (d := 99) rfl (h.dep 10 99 rfl rfl))) (load_run rfl one_int (h.dep 14 103 rfl rfl) ((h.below.cell (p := ⟨g, i * 17 + 1, none⟩) hg).trans cpl)) (by decide)
                  · (have e104 : A.eval (.tmp 104) = .int .i64 (d.place : Int) := h.dep 15 104 rfl rfl; refine rs_pure (wanted_g rfl (yielded_of (d := 99) rfl (h.dep 10 99 rfl rfl))) ?_ (by decide); simp only [execOp, e104]; (simp [go_sem] <;> first | done | omega | (rw [IntKind.wrap_i64]; omega) | (rw [IntKind.wrap_u8]; omega) | (rw [IntKind.wrap_u64]; omega)))
                  · exact rs_pick (wanted_g rfl (yielded_of (d := 96) rfl (h.dep 7 96 rfl rfl))) rfl (h.dep 10 99 rfl rfl) (h.dep 16 105 rfl rfl) (by decide)
                  · exact rs_pick rfl rfl (h.dep 7 96 rfl rfl) (h.dep 17 106 rfl rfl) (by decide)
                case en =>
                  intro vals W hbw hv _
                  have v0 : vals 0 = .slice (some ⟨g, 0, none⟩) ws.length capx := hv 0 (by omega)
                  have v1 : vals 1 = .int .i64 (i : Int) := hv 1 (by omega)
                  have v2 : vals 2 = .pointer (some ⟨g, i * 17, none⟩) := hv 2 (by omega)
                  have v3 : vals 3 = .pointer (some ⟨g, i * 17 + 1, none⟩) := hv 3 (by omega)
                  have v4 : vals 4 = .int .i64 (d.place : Int) := hv 4 (by omega)
                  have v5 : vals 5 = .int .i64 (e : Int) := hv 5 (by omega)
                  have v6 : vals 6 = .bool false := hv 6 (by omega)
                  have v7 : vals 7 = .bool false := hv 7 (by omega)
                  have v8 : vals 8 = .int .i64 (i : Int) := hv 8 (by omega)
                  have v9 : vals 9 = .bool true := hv 9 (by omega)
                  have v10 : vals 10 = .bool true := hv 10 (by omega)
                  have v11 : vals 11 = .slice (some ⟨g, 0, none⟩) ws.length capx := hv 11 (by omega)
                  have v12 : vals 12 = .int .i64 (i : Int) := hv 12 (by omega)
                  have v13 : vals 13 = .pointer (some ⟨g, i * 17, none⟩) := hv 13 (by omega)
                  have v14 : vals 14 = .pointer (some ⟨g, i * 17 + 1, none⟩) := hv 14 (by omega)
                  have v15 : vals 15 = .int .i64 (d.place : Int) := hv 15 (by omega)
                  have v16 : vals 16 = .bool false := hv 16 (by omega)
                  have v17 : vals 17 = .bool false := hv 17 (by omega)
                  have v18 : vals 18 = .bool false := hv 18 (by omega)
                  simp only [List.take_succ_cons, List.take_zero, List.drop_succ_cons, List.drop_zero, List.drop_nil, List.take_nil, fillAll, Nat.zero_add, Nat.reduceAdd]
                  rw [v0, v1, v2, v3, v4, v5, v6, v7, v8, v9, v10, v11, v12, v13, v14, v15, v16, v17, v18]
                  clear hv v0 v1 v2 v3 v4 v5 v6 v7 v8 v9 v10 v11 v12 v13 v14 v15 v16 v17 v18
                  try simp only [put_lit, List.setIfInBounds_toArray, List.set_cons_succ, List.set_cons_zero]
                  go_wp2_with fail
                  go_meet
                  case rel => exact ⟨rfl, Lib.hid hbw⟩
              · --
                refine wp_region_seq 19 [fun v _ => v = .slice (some ⟨g, 0, none⟩) ws.length capx, fun v _ => v = .int .i64 (i : Int), fun v _ => v = .pointer (some ⟨g, i * 17, none⟩), fun v _ => v = .pointer (some ⟨g, i * 17 + 1, none⟩), fun v _ => v = .int .i64 (d.place : Int), fun v _ => v = .int .i64 (e : Int), fun v _ => v = .bool false, fun v _ => v = .bool false, fun v _ => v = .int .i64 (i : Int), fun v _ => v = .bool false, fun v _ => v = .bool false, fun v _ => v = undef, fun v _ => v = undef, fun v _ => v = undef, fun v _ => v = undef, fun v _ => v = undef, fun v _ => v = undef, fun v _ => v = Value.bool false, fun v _ => v = .bool false] (fun _ => false) (by kernel_rfl) (by kernel_rfl) ⟨stable_eq _, stable_eq _, stable_eq _, stable_eq _, stable_eq _, stable_eq _, stable_eq _, stable_eq _, stable_eq _, stable_eq _, stable_eq _, stable_eq _, stable_eq _, stable_eq _, stable_eq _, stable_eq _, stable_eq _, stable_eq _, stable_eq _, trivial⟩ (fun _ _ h => by cases h) ?ob ?en
                case ob =>
                  refine ⟨?_, ?_, ?_, ?_, ?_, ?_, ?_, ?_, ?_, ?_, ?_, ?_, ?_, ?_, ?_, ?_, ?_, ?_, ?_, trivial⟩ <;> intro A W h
                  · exact rs_move rfl rfl (h.frame 3 rfl) (by decide)
                  · exact rs_move rfl rfl (h.frame 9 rfl) (by decide)
                  · exact rs_pure rfl (idx_run (sz := 17) Tryd.underlying22 (fun W => by kernel_rfl) rfl (h.dep 0 89 rfl rfl) (h.dep 1 90 rfl rfl) hlt (Nat.zero_add _)) (by decide)
                  · (have e91 : A.eval (.tmp 91) = .pointer (some ⟨g, i * 17, none⟩) := h.dep 2 91 rfl rfl; refine rs_pure rfl ?_ (by decide); simp only [execOp, e91]; (simp [go_sem] <;> first | done | omega | (rw [IntKind.wrap_i64]; omega) | (rw [IntKind.wrap_u8]; omega) | (rw [IntKind.wrap_u64]; omega)))
                  · exact rs_pure rfl (load_run rfl one_int (h.dep 3 92 rfl rfl) ((h.below.cell (p := ⟨g, i * 17 + 1, none⟩) hg).trans cpl)) (by decide)
                  · exact rs_move rfl rfl (h.frame 10 rfl) (by decide)
                  · (have e93 : A.eval (.tmp 93) = .int .i64 (d.place : Int) := h.dep 4 93 rfl rfl; have e94 : A.eval (.tmp 94) = .int .i64 (e : Int) := h.dep 5 94 rfl rfl; refine rs_pure rfl ?_ (by decide); simp only [execOp, e93, e94]; (simp [go_sem] <;> first | done | omega | (rw [IntKind.wrap_i64]; omega) | (rw [IntKind.wrap_u8]; omega) | (rw [IntKind.wrap_u64]; omega)))
                  · exact rs_move rfl rfl (h.dep 6 95 rfl rfl) (by decide)
                  · exact rs_move (wanted_g rfl (yielded_of (d := 96) rfl (h.dep 7 96 rfl rfl))) rfl (h.frame 9 rfl) (by decide)
                  · (have e97 : A.eval (.tmp 97) = .int .i64 (i : Int) := h.dep 8 97 rfl rfl; refine rs_pure (wanted_g rfl (yielded_of (d := 96) rfl (h.dep 7 96 rfl rfl))) ?_ (by decide); simp only [execOp, e97]; (simp [go_sem] <;> first | done | omega | (rw [IntKind.wrap_i64]; omega) | (rw [IntKind.wrap_u8]; omega) | (rw [IntKind.wrap_u64]; omega)))
                  · exact rs_move (wanted_g rfl (yielded_of (d := 96) rfl (h.dep 7 96 rfl rfl))) rfl (h.dep 9 98 rfl rfl) (by decide)
                  · exact rs_skip (not_wanted_g rfl (yielded_of (d := 99) rfl (h.dep 10 99 rfl rfl)) (by decide)) ⟨rfl, fun h => by cases h⟩
                  · exact rs_skip (not_wanted_g rfl (yielded_of (d := 99) rfl (h.dep 10 99 rfl rfl)) (by decide)) ⟨rfl, fun h => by cases h⟩
                  · exact rs_skip (not_wanted_g rfl (yielded_of (d := 99) rfl (h.dep 10 99 rfl rfl)) (by decide)) ⟨rfl, fun h => by cases h⟩
                  · exact rs_skip (not_wanted_g rfl (yielded_of (d := 99) rfl (h.dep 10 99 rfl rfl)) (by decide)) ⟨rfl, fun h => by cases h⟩
                  · exact rs_skip (not_wanted_g rfl (yielded_of (d := 99) rfl (h.dep 10 99 rfl rfl)) (by decide)) ⟨rfl, fun h => by cases h⟩
                  · exact rs_skip (not_wanted_g rfl (yielded_of (d := 99) rfl (h.dep 10 99 rfl rfl)) (by decide)) ⟨rfl, fun h => by cases h⟩
                  · exact rs_pick (wanted_g rfl (yielded_of (d := 96) rfl (h.dep 7 96 rfl rfl))) rfl (h.dep 10 99 rfl rfl) (rfl) (by decide)
                  · exact rs_pick rfl rfl (h.dep 7 96 rfl rfl) (h.dep 17 106 rfl rfl) (by decide)
                case en =>
                  intro vals W hbw hv _
                  have v0 : vals 0 = .slice (some ⟨g, 0, none⟩) ws.length capx := hv 0 (by omega)
                  have v1 : vals 1 = .int .i64 (i : Int) := hv 1 (by omega)
                  have v2 : vals 2 = .pointer (some ⟨g, i * 17, none⟩) := hv 2 (by omega)
                  have v3 : vals 3 = .pointer (some ⟨g, i * 17 + 1, none⟩) := hv 3 (by omega)
                  have v4 : vals 4 = .int .i64 (d.place : Int) := hv 4 (by omega)
                  have v5 : vals 5 = .int .i64 (e : Int) := hv 5 (by omega)
                  have v6 : vals 6 = .bool false := hv 6 (by omega)
                  have v7 : vals 7 = .bool false := hv 7 (by omega)
                  have v8 : vals 8 = .int .i64 (i : Int) := hv 8 (by omega)
                  have v9 : vals 9 = .bool false := hv 9 (by omega)
                  have v10 : vals 10 = .bool false := hv 10 (by omega)
                  have v11 : vals 11 = undef := hv 11 (by omega)
                  have v12 : vals 12 = undef := hv 12 (by omega)
                  have v13 : vals 13 = undef := hv 13 (by omega)
                  have v14 : vals 14 = undef := hv 14 (by omega)
                  have v15 : vals 15 = undef := hv 15 (by omega)
                  have v16 : vals 16 = undef := hv 16 (by omega)
                  have v17 : vals 17 = Value.bool false := hv 17 (by omega)
                  have v18 : vals 18 = .bool false := hv 18 (by omega)
                  simp only [List.take_succ_cons, List.take_zero, List.drop_succ_cons, List.drop_zero, List.drop_nil, List.take_nil, fillAll, Nat.zero_add, Nat.reduceAdd]
                  rw [v0, v1, v2, v3, v4, v5, v6, v7, v8, v9, v10, v11, v12, v13, v14, v15, v16, v17, v18]
                  clear hv v0 v1 v2 v3 v4 v5 v6 v7 v8 v9 v10 v11 v12 v13 v14 v15 v16 v17 v18
                  try simp only [put_lit, List.setIfInBounds_toArray, List.set_cons_succ, List.set_cons_zero]
                  go_wp2_with fail
                  go_meet
                  case rel => exact ⟨rfl, Lib.hid hbw⟩
            case rest =>
              obtain ⟨rfl, hbw⟩ := hcut
              replace H := H.call hbw.out
              replace cpl := (hbw.out.cell (p := ⟨g, i * 17 + 1, none⟩) hg).trans cpl
              have hpw : b = false → wordsF ((L.take e).drop d.place) = .ok [{ d with place := 0 }] := fun hb => by
                rw [wordsF_short (by simp; omega)]
                exact word_alone (hNB hb) (by omega) I.rd
              have IG := Lib.hid I.get
              have hp := hpc d.place e
              have cpn : True := trivial
              clear hbw hh hk hg hpc hNB I
              cases b with
              | true =>
                clear hpw
                go_upto_region 18 with (first | ((with_reducible show wpList _ _ _ ({ op := Op.indexAddr .., .. } :: _) _ _); refine own_pure (by first | rfl | exact wanted_g rfl (yielded_of rfl (by first | rfl | (simp only [put_lit, put_no, List.setIfInBounds_toArray, List.set_cons_succ, List.set_cons_zero, ev_tmp, ev_const, ev_glob, ev_func, List.getD_cons_succ, List.getD_cons_zero]; rfl)))) (idx_run (sz := 17) Tryd.underlying22 (fun W => by kernel_rfl) rfl (by first | (simp only [put_lit, put_no, List.setIfInBounds_toArray, List.set_cons_succ, List.set_cons_zero, ev_tmp, ev_const, ev_glob, ev_func, List.getD_cons_succ, List.getD_cons_zero]; done) | (simp only [put_lit, put_no, List.setIfInBounds_toArray, List.set_cons_succ, List.set_cons_zero, ev_tmp, ev_const, ev_glob, ev_func, List.getD_cons_succ, List.getD_cons_zero]; rfl)) (by first | (simp only [put_lit, put_no, List.setIfInBounds_toArray, List.set_cons_succ, List.set_cons_zero, ev_tmp, ev_const, ev_glob, ev_func, List.getD_cons_succ, List.getD_cons_zero]; done) | (simp only [put_lit, put_no, List.setIfInBounds_toArray, List.set_cons_succ, List.set_cons_zero, ev_tmp, ev_const, ev_glob, ev_func, List.getD_cons_succ, List.getD_cons_zero]; rfl)) (by first | exact hlt | exact hn1) (Nat.zero_add _)) ?_) | ((with_reducible show wpList _ _ _ ({ op := Op.load 3 .., .. } :: _) _ _); refine own_pure (by first | rfl | exact wanted_g rfl (yielded_of rfl (by first | rfl | (simp only [put_lit, put_no, List.setIfInBounds_toArray, List.set_cons_succ, List.set_cons_zero, ev_tmp, ev_const, ev_glob, ev_func, List.getD_cons_succ, List.getD_cons_zero]; rfl)))) (load_run rfl one_int (by first | (simp only [put_lit, put_no, List.setIfInBounds_toArray, List.set_cons_succ, List.set_cons_zero, ev_tmp, ev_const, ev_glob, ev_func, List.getD_cons_succ, List.getD_cons_zero]; done) | (simp only [put_lit, put_no, List.setIfInBounds_toArray, List.set_cons_succ, List.set_cons_zero, ev_tmp, ev_const, ev_glob, ev_func, List.getD_cons_succ, List.getD_cons_zero]; rfl)) (by first | exact cpl | exact cpn)) ?_) | ((with_reducible refine gC ?_); refine aC ?_) | (go_at_call 9; (with_reducible refine ch (hAw _ H.below) H ?_); clear H; intro w H) | (go_at_call 10; (with_reducible refine ch (hcL _ H.below) H ?_); clear H; intro w H) | (go_at_call 6; (with_reducible refine (hp _ H.below).mono ?_); rintro e w ⟨hR, hb⟩; obtain ⟨V, p2, x2, rfl⟩ := wordsR_any hR; replace H := H.call hb; clear hb hR))
                obtain ⟨g', cs', T', e', hg', hh', hk'⟩ := (H.rdw .zero hlw).form IG.out
                cases e'
                go_upto_region 20 with (first | ((first | ((with_reducible refine kgA 14 ?_); refine kA 14 H ?_) | ((with_reducible refine kgX 14 ?_); (first | refine kS 14 H ?_ | refine kB 14 H ?_))); clear H; intro b14 w H; (try simp only [nrm, nrl, Value.cells] at H)) | ((with_reducible refine gT ?_); ((first | refine aO H ?_ | refine aT H ?_); clear H; intro w H; (try simp only [nrm, nrl, Value.cells] at H))) | ((with_reducible show wpList _ _ _ ({ op := Op.indexAddr .., .. } :: _) _ _); refine own_pure (by first | rfl | exact wanted_g rfl (yielded_of rfl (by first | rfl | (simp only [put_lit, put_no, List.setIfInBounds_toArray, List.set_cons_succ, List.set_cons_zero, ev_tmp, ev_const, ev_glob, ev_func, List.getD_cons_succ, List.getD_cons_zero]; rfl)))) (idx_run (sz := 17) Tryd.underlying22 (fun W => by kernel_rfl) rfl (by first | (simp only [put_lit, put_no, List.setIfInBounds_toArray, List.set_cons_succ, List.set_cons_zero, ev_tmp, ev_const, ev_glob, ev_func, List.getD_cons_succ, List.getD_cons_zero]; done) | (simp only [put_lit, put_no, List.setIfInBounds_toArray, List.set_cons_succ, List.set_cons_zero, ev_tmp, ev_const, ev_glob, ev_func, List.getD_cons_succ, List.getD_cons_zero]; rfl)) (by first | (simp only [put_lit, put_no, List.setIfInBounds_toArray, List.set_cons_succ, List.set_cons_zero, ev_tmp, ev_const, ev_glob, ev_func, List.getD_cons_succ, List.getD_cons_zero]; done) | (simp only [put_lit, put_no, List.setIfInBounds_toArray, List.set_cons_succ, List.set_cons_zero, ev_tmp, ev_const, ev_glob, ev_func, List.getD_cons_succ, List.getD_cons_zero]; rfl)) (by first | exact hlt | exact hn1) (Nat.zero_add _)) ?_) | ((with_reducible show wpList _ _ _ ({ op := Op.load 38 .., .. } :: _) _ _); refine own_pure (by first | rfl | exact wanted_g rfl (yielded_of rfl (by first | rfl | (simp only [put_lit, put_no, List.setIfInBounds_toArray, List.set_cons_succ, List.set_cons_zero, ev_tmp, ev_const, ev_glob, ev_func, List.getD_cons_succ, List.getD_cons_zero]; rfl)))) (loadW_run rfl (by first | (simp only [put_lit, put_no, List.setIfInBounds_toArray, List.set_cons_succ, List.set_cons_zero, ev_tmp, ev_const, ev_glob, ev_func, List.getD_cons_succ, List.getD_cons_zero]; done) | (simp only [put_lit, put_no, List.setIfInBounds_toArray, List.set_cons_succ, List.set_cons_zero, ev_tmp, ev_const, ev_glob, ev_func, List.getD_cons_succ, List.getD_cons_zero]; rfl)) hh' row_LWord rfl hk') ?_) | fail | (go_at_call 9; (with_reducible refine ch (hAw _ H.below) H ?_); clear H; intro w H) | (go_at_call 10; (with_reducible refine ch (hcL _ H.below) H ?_); clear H; intro w H))
                refine wp_region_spec 19 [fun v _ => v = .string ⟨L.toArray⟩, fun v _ => v = .bool true, fun v _ => v = .bool false, fun v _ => v = .bool false, fun v _ => v = undef, fun v _ => v = undef, fun v _ => v = undef, fun v _ => v = undef, fun v _ => v = undef, fun v _ => v = undef, fun v _ => v = undef, fun v _ => v = undef, fun v _ => v = undef, fun v _ => v = undef, fun v _ => v = undef, fun v _ => v = undef, fun v _ => v = undef, fun v _ => v = undef, fun v _ => v = .bool false] (fun _ => false) (by kernel_rfl) (by kernel_rfl) (by kernel_rfl) ⟨stable_eq _, stable_eq _, stable_eq _, stable_eq _, stable_eq _, stable_eq _, stable_eq _, stable_eq _, stable_eq _, stable_eq _, stable_eq _, stable_eq _, stable_eq _, stable_eq _, stable_eq _, stable_eq _, stable_eq _, stable_eq _, stable_eq _, trivial⟩ (fun _ _ h => by cases h) ?ob ?en
                case ob =>
                  refine ⟨?_, ?_, ?_, ?_, ?_, ?_, ?_, ?_, ?_, ?_, ?_, ?_, ?_, ?_, ?_, ?_, ?_, ?_, ?_, trivial⟩ <;> intro A W h
                  · exact rs_move rfl rfl (h.frame 0 rfl) (by decide)
                  · exact rs_calln rfl rfl (enters_of Tryd.func10 (by kernel_rfl) rfl) (args2 ⟨(h.dep 0 126 rfl rfl), rfl⟩) (hcL W (H.call h.below).below) (by decide)
                  · (have e127 : A.eval (.tmp 127) = .bool true := h.dep 1 127 rfl rfl; refine rs_pure rfl ?_ (by decide); simp only [execOp, e127]; (simp [go_sem] <;> first | done | omega | (rw [IntKind.wrap_i64]; omega) | (rw [IntKind.wrap_u8]; omega) | (rw [IntKind.wrap_u64]; omega)))
                  · exact rs_move rfl rfl (h.dep 2 128 rfl rfl) (by decide)
                  · exact rs_skip (not_wanted_g rfl (yielded_of (d := 129) rfl (h.dep 3 129 rfl rfl)) (by decide)) ⟨rfl, fun h => by cases h⟩
                  · exact rs_skip (not_wanted_g rfl (yielded_of (d := 129) rfl (h.dep 3 129 rfl rfl)) (by decide)) ⟨rfl, fun h => by cases h⟩
                  · exact rs_skip (not_wanted_g rfl (yielded_of (d := 129) rfl (h.dep 3 129 rfl rfl)) (by decide)) ⟨rfl, fun h => by cases h⟩
                  · exact rs_skip (not_wanted_u rfl (yielded_undef (d := 132) rfl (h.dep 6 132 rfl rfl))) ⟨rfl, fun h => by cases h⟩
                  · exact rs_skip (not_wanted_u rfl (yielded_undef (d := 132) rfl (h.dep 6 132 rfl rfl))) ⟨rfl, fun h => by cases h⟩
                  · exact rs_skip (not_wanted_u rfl (yielded_undef (d := 132) rfl (h.dep 6 132 rfl rfl))) ⟨rfl, fun h => by cases h⟩
                  · exact rs_skip (not_wanted_g rfl (yielded_of (d := 129) rfl (h.dep 3 129 rfl rfl)) (by decide)) ⟨rfl, fun h => by cases h⟩
                  · exact rs_skip (not_wanted_g rfl (yielded_of (d := 129) rfl (h.dep 3 129 rfl rfl)) (by decide)) ⟨rfl, fun h => by cases h⟩
                  · exact rs_skip (not_wanted_u rfl (yielded_undef (d := 137) rfl (h.dep 11 137 rfl rfl))) ⟨rfl, fun h => by cases h⟩
                  · exact rs_skip (not_wanted_u rfl (yielded_undef (d := 137) rfl (h.dep 11 137 rfl rfl))) ⟨rfl, fun h => by cases h⟩
                  · exact rs_skip (not_wanted_u rfl (yielded_undef (d := 137) rfl (h.dep 11 137 rfl rfl))) ⟨rfl, fun h => by cases h⟩
                  · exact rs_skip (not_wanted_u rfl (yielded_undef (d := 137) rfl (h.dep 11 137 rfl rfl))) ⟨rfl, fun h => by cases h⟩
                  · exact rs_skip (not_wanted_u rfl (yielded_undef (d := 137) rfl (h.dep 11 137 rfl rfl))) ⟨rfl, fun h => by cases h⟩
                  · exact rs_skip (not_wanted_g rfl (yielded_of (d := 129) rfl (h.dep 3 129 rfl rfl)) (by decide)) ⟨rfl, fun h => by cases h⟩
                  · exact rs_pick rfl rfl (h.dep 3 129 rfl rfl) (rfl) (by decide)
                case en =>
                  intro vals W hbw hv _
                  have v0 : vals 0 = .string ⟨L.toArray⟩ := hv 0 (by omega)
                  have v1 : vals 1 = .bool true := hv 1 (by omega)
                  have v2 : vals 2 = .bool false := hv 2 (by omega)
                  have v3 : vals 3 = .bool false := hv 3 (by omega)
                  have v4 : vals 4 = undef := hv 4 (by omega)
                  have v5 : vals 5 = undef := hv 5 (by omega)
                  have v6 : vals 6 = undef := hv 6 (by omega)
                  have v7 : vals 7 = undef := hv 7 (by omega)
                  have v8 : vals 8 = undef := hv 8 (by omega)
                  have v9 : vals 9 = undef := hv 9 (by omega)
                  have v10 : vals 10 = undef := hv 10 (by omega)
                  have v11 : vals 11 = undef := hv 11 (by omega)
                  have v12 : vals 12 = undef := hv 12 (by omega)
                  have v13 : vals 13 = undef := hv 13 (by omega)
                  have v14 : vals 14 = undef := hv 14 (by omega)
                  have v15 : vals 15 = undef := hv 15 (by omega)
                  have v16 : vals 16 = undef := hv 16 (by omega)
                  have v17 : vals 17 = undef := hv 17 (by omega)
                  have v18 : vals 18 = .bool false := hv 18 (by omega)
                  simp only [List.take_succ_cons, List.take_zero, List.drop_succ_cons, List.drop_zero, List.drop_nil, List.take_nil, fillAll, Nat.zero_add, Nat.reduceAdd]
                  rw [v0, v1, v2, v3, v4, v5, v6, v7, v8, v9, v10, v11, v12, v13, v14, v15, v16, v17, v18]
                  clear hv v0 v1 v2 v3 v4 v5 v6 v7 v8 v9 v10 v11 v12 v13 v14 v15 v16 v17 v18
                  try simp only [put_lit, List.setIfInBounds_toArray, List.set_cons_succ, List.set_cons_zero]
                  simp only [put_no, put_lit, List.setIfInBounds_toArray, List.set_cons_succ, List.set_cons_zero]
                  replace H := (H.call hbw).take 1
                  go_wp2_with (first | fail)
                  go_roundw
                  case rel => exact ⟨i + 1, rfl, by omega, H⟩
                  case measure => simp [intOf]; omega
              | false =>
                rw [hpw rfl] at hp
                simp only [WordsR] at hp
                clear hpw
                go_upto_region 18 with (first | ((with_reducible show wpList _ _ _ ({ op := Op.indexAddr .., .. } :: _) _ _); refine own_pure (by first | rfl | exact wanted_g rfl (yielded_of rfl (by first | rfl | (simp only [put_lit, put_no, List.setIfInBounds_toArray, List.set_cons_succ, List.set_cons_zero, ev_tmp, ev_const, ev_glob, ev_func, List.getD_cons_succ, List.getD_cons_zero]; rfl)))) (idx_run (sz := 17) Tryd.underlying22 (fun W => by kernel_rfl) rfl (by first | (simp only [put_lit, put_no, List.setIfInBounds_toArray, List.set_cons_succ, List.set_cons_zero, ev_tmp, ev_const, ev_glob, ev_func, List.getD_cons_succ, List.getD_cons_zero]; done) | (simp only [put_lit, put_no, List.setIfInBounds_toArray, List.set_cons_succ, List.set_cons_zero, ev_tmp, ev_const, ev_glob, ev_func, List.getD_cons_succ, List.getD_cons_zero]; rfl)) (by first | (simp only [put_lit, put_no, List.setIfInBounds_toArray, List.set_cons_succ, List.set_cons_zero, ev_tmp, ev_const, ev_glob, ev_func, List.getD_cons_succ, List.getD_cons_zero]; done) | (simp only [put_lit, put_no, List.setIfInBounds_toArray, List.set_cons_succ, List.set_cons_zero, ev_tmp, ev_const, ev_glob, ev_func, List.getD_cons_succ, List.getD_cons_zero]; rfl)) (by first | exact hlt | exact hn1) (Nat.zero_add _)) ?_) | ((with_reducible show wpList _ _ _ ({ op := Op.load 3 .., .. } :: _) _ _); refine own_pure (by first | rfl | exact wanted_g rfl (yielded_of rfl (by first | rfl | (simp only [put_lit, put_no, List.setIfInBounds_toArray, List.set_cons_succ, List.set_cons_zero, ev_tmp, ev_const, ev_glob, ev_func, List.getD_cons_succ, List.getD_cons_zero]; rfl)))) (load_run rfl one_int (by first | (simp only [put_lit, put_no, List.setIfInBounds_toArray, List.set_cons_succ, List.set_cons_zero, ev_tmp, ev_const, ev_glob, ev_func, List.getD_cons_succ, List.getD_cons_zero]; done) | (simp only [put_lit, put_no, List.setIfInBounds_toArray, List.set_cons_succ, List.set_cons_zero, ev_tmp, ev_const, ev_glob, ev_func, List.getD_cons_succ, List.getD_cons_zero]; rfl)) (by first | exact cpl | exact cpn)) ?_) | ((with_reducible refine gC ?_); refine aC ?_) | (go_at_call 9; (with_reducible refine ch (hAw _ H.below) H ?_); clear H; intro w H) | (go_at_call 10; (with_reducible refine ch (hcL _ H.below) H ?_); clear H; intro w H) | (go_at_call 6; (with_reducible refine (hp _ H.below).mono ?_); rintro e w ⟨⟨v, rfl, ho⟩, hb⟩; replace H := H.gainRow hb ho; obtain ⟨qp, capp, rfl, hqp⟩ := ownsRow_slice ho; clear hb ho; (try simp only [nrm, nrl, Value.cells] at H)))
                obtain ⟨g', cs', T', e', hg', hh', hk'⟩ := (H.rdw .zero hlw).form IG.out
                cases e'
                go_upto_region 20 with (first | ((first | ((with_reducible refine kgA 14 ?_); refine kA 14 H ?_) | ((with_reducible refine kgX 14 ?_); (first | refine kS 14 H ?_ | refine kB 14 H ?_))); clear H; intro b14 w H; (try simp only [nrm, nrl, Value.cells] at H)) | ((with_reducible refine gT ?_); ((first | refine aO H ?_ | refine aT H ?_); clear H; intro w H; (try simp only [nrm, nrl, Value.cells] at H))) | ((with_reducible show wpList _ _ _ ({ op := Op.indexAddr .., .. } :: _) _ _); refine own_pure (by first | rfl | exact wanted_g rfl (yielded_of rfl (by first | rfl | (simp only [put_lit, put_no, List.setIfInBounds_toArray, List.set_cons_succ, List.set_cons_zero, ev_tmp, ev_const, ev_glob, ev_func, List.getD_cons_succ, List.getD_cons_zero]; rfl)))) (idx_run (sz := 17) Tryd.underlying22 (fun W => by kernel_rfl) rfl (by first | (simp only [put_lit, put_no, List.setIfInBounds_toArray, List.set_cons_succ, List.set_cons_zero, ev_tmp, ev_const, ev_glob, ev_func, List.getD_cons_succ, List.getD_cons_zero]; done) | (simp only [put_lit, put_no, List.setIfInBounds_toArray, List.set_cons_succ, List.set_cons_zero, ev_tmp, ev_const, ev_glob, ev_func, List.getD_cons_succ, List.getD_cons_zero]; rfl)) (by first | (simp only [put_lit, put_no, List.setIfInBounds_toArray, List.set_cons_succ, List.set_cons_zero, ev_tmp, ev_const, ev_glob, ev_func, List.getD_cons_succ, List.getD_cons_zero]; done) | (simp only [put_lit, put_no, List.setIfInBounds_toArray, List.set_cons_succ, List.set_cons_zero, ev_tmp, ev_const, ev_glob, ev_func, List.getD_cons_succ, List.getD_cons_zero]; rfl)) (by first | exact hlt | exact hn1) (Nat.zero_add _)) ?_) | ((with_reducible show wpList _ _ _ ({ op := Op.load 38 .., .. } :: _) _ _); refine own_pure (by first | rfl | exact wanted_g rfl (yielded_of rfl (by first | rfl | (simp only [put_lit, put_no, List.setIfInBounds_toArray, List.set_cons_succ, List.set_cons_zero, ev_tmp, ev_const, ev_glob, ev_func, List.getD_cons_succ, List.getD_cons_zero]; rfl)))) (loadW_run rfl (by first | (simp only [put_lit, put_no, List.setIfInBounds_toArray, List.set_cons_succ, List.set_cons_zero, ev_tmp, ev_const, ev_glob, ev_func, List.getD_cons_succ, List.getD_cons_zero]; done) | (simp only [put_lit, put_no, List.setIfInBounds_toArray, List.set_cons_succ, List.set_cons_zero, ev_tmp, ev_const, ev_glob, ev_func, List.getD_cons_succ, List.getD_cons_zero]; rfl)) hh' row_LWord rfl hk') ?_) | fail | (go_at_call 9; (with_reducible refine ch (hAw _ H.below) H ?_); clear H; intro w H) | (go_at_call 10; (with_reducible refine ch (hcL _ H.below) H ?_); clear H; intro w H))
                rw [wordC_zero] at H
                obtain ⟨gp, csp, Tp, rfl, hgp, hhp, hkp⟩ := (H.rdwn (n := 1) (.succ .zero) rfl (by simp)).form (j := 0) (d := { d with place := 0 }) rfl
                refine wp_region_spec 19 [fun v _ => v = .string ⟨L.toArray⟩, fun v _ => v = .bool false, fun v _ => v = .bool true, fun v _ => v = .bool true, fun v _ => v = .int .i64 0, fun v _ => v = .bool false, fun v _ => v = .bool false, fun v _ => v = .slice (some ⟨gp, 0, none⟩) 1 capp, fun v _ => v = .int .i64 ((1 : Nat) : Int), fun v _ => v = .bool false, fun v _ => v = .bool false, fun v _ => v = .bool false, fun v _ => v = .slice (some ⟨gp, 0, none⟩) 1 capp, fun v _ => v = .pointer (some ⟨gp, 0, none⟩), fun v _ => v = wordV { d with place := 0 }, fun v _ => v = wordV { d with place := 0 }, fun v _ => v = .bool false, fun v _ => v = .bool false, fun v _ => v = .bool false] (fun _ => false) (by kernel_rfl) (by kernel_rfl) (by kernel_rfl) ⟨stable_eq _, stable_eq _, stable_eq _, stable_eq _, stable_eq _, stable_eq _, stable_eq _, stable_eq _, stable_eq _, stable_eq _, stable_eq _, stable_eq _, stable_eq _, stable_eq _, stable_eq _, stable_eq _, stable_eq _, stable_eq _, stable_eq _, trivial⟩ (fun _ _ h => by cases h) ?ob ?en
                case ob =>
                  refine ⟨?_, ?_, ?_, ?_, ?_, ?_, ?_, ?_, ?_, ?_, ?_, ?_, ?_, ?_, ?_, ?_, ?_, ?_, ?_, trivial⟩ <;> intro A W h
                  · exact rs_move rfl rfl (h.frame 0 rfl) (by decide)
                  · exact rs_calln rfl rfl (enters_of Tryd.func10 (by kernel_rfl) rfl) (args2 ⟨(h.dep 0 126 rfl rfl), rfl⟩) (hcL W (H.call h.below).below) (by decide)
                  · (have e127 : A.eval (.tmp 127) = .bool false := h.dep 1 127 rfl rfl; refine rs_pure rfl ?_ (by decide); simp only [execOp, e127]; (simp [go_sem] <;> first | done | omega | (rw [IntKind.wrap_i64]; omega) | (rw [IntKind.wrap_u8]; omega) | (rw [IntKind.wrap_u64]; omega)))
                  · exact rs_move rfl rfl (h.dep 2 128 rfl rfl) (by decide)
                  · exact rs_move (wanted_g rfl (yielded_of (d := 129) rfl (h.dep 3 129 rfl rfl))) rfl (h.frame 13 rfl) (by decide)
                  · (have e130 : A.eval (.tmp 130) = .int .i64 0 := h.dep 4 130 rfl rfl; refine rs_pure (wanted_g rfl (yielded_of (d := 129) rfl (h.dep 3 129 rfl rfl))) ?_ (by decide); simp only [execOp, e130]; (simp [go_sem] <;> first | done | omega | (rw [IntKind.wrap_i64]; omega) | (rw [IntKind.wrap_u8]; omega) | (rw [IntKind.wrap_u64]; omega)))
                  · exact rs_move (wanted_g rfl (yielded_of (d := 129) rfl (h.dep 3 129 rfl rfl))) rfl (h.dep 5 131 rfl rfl) (by decide)
                  · exact rs_move (wanted_g rfl (yielded_of (d := 132) rfl (h.dep 6 132 rfl rfl))) rfl (h.frame 11 rfl) (by decide)
                  · exact rs_len Tryd.underlying22 (wanted_g rfl (yielded_of (d := 132) rfl (h.dep 6 132 rfl rfl))) rfl (h.dep 7 133 rfl rfl) (by decide)
                  · (have e134 : A.eval (.tmp 134) = .int .i64 ((1 : Nat) : Int) := h.dep 8 134 rfl rfl; refine rs_pure (wanted_g rfl (yielded_of (d := 132) rfl (h.dep 6 132 rfl rfl))) ?_ (by decide); simp only [execOp, e134]; (simp [go_sem] <;> first | done | omega | (rw [IntKind.wrap_i64]; omega) | (rw [IntKind.wrap_u8]; omega) | (rw [IntKind.wrap_u64]; omega)))
                  · exact rs_pick (wanted_g rfl (yielded_of (d := 129) rfl (h.dep 3 129 rfl rfl))) rfl (h.dep 6 132 rfl rfl) (h.dep 9 135 rfl rfl) (by decide)
                  · exact rs_move (wanted_g rfl (yielded_of (d := 129) rfl (h.dep 3 129 rfl rfl))) rfl (h.dep 10 136 rfl rfl) (by decide)
                  · exact rs_move (wanted_g rfl (yielded_of (d := 137) rfl (h.dep 11 137 rfl rfl))) rfl (h.frame 11 rfl) (by decide)
                  · exact rs_pure (wanted_g rfl (yielded_of (d := 137) rfl (h.dep 11 137 rfl rfl))) (idx_run (sz := 17) (i := 0) Tryd.underlying22 (fun W => by kernel_rfl) rfl (h.dep 12 138 rfl rfl) rfl (by omega) rfl) (by decide)
                  · exact rs_pure (wanted_g rfl (yielded_of (d := 137) rfl (h.dep 11 137 rfl rfl))) (loadW_run rfl (h.dep 13 139 rfl rfl) ((h.below.block gp hgp).trans hhp) row_LWord rfl (fun j hj => by rw [← hkp j hj, Nat.zero_mul])) (by decide)
                  · exact rs_pure (wanted_g rfl (yielded_of (d := 137) rfl (h.dep 11 137 rfl rfl))) (loadW_run rfl (h.frame 14 rfl) (((H.call h.below).blk (.succ (.succ .zero))).2) row_LWord rfl (fun j hj => by rw [Nat.zero_add])) (by decide)
                  · exact rs_pure (wanted_g rfl (yielded_of (d := 137) rfl (h.dep 11 137 rfl rfl))) (neq_run_W rfl (h.dep 14 140 rfl rfl) (h.dep 15 141 rfl rfl)) (by decide)
                  · exact rs_pick (wanted_g rfl (yielded_of (d := 129) rfl (h.dep 3 129 rfl rfl))) rfl (h.dep 11 137 rfl rfl) (h.dep 16 142 rfl rfl) (by decide)
                  · exact rs_pick rfl rfl (h.dep 3 129 rfl rfl) (h.dep 17 143 rfl rfl) (by decide)
                case en =>
                  intro vals W hbw hv _
                  have v0 : vals 0 = .string ⟨L.toArray⟩ := hv 0 (by omega)
                  have v1 : vals 1 = .bool false := hv 1 (by omega)
                  have v2 : vals 2 = .bool true := hv 2 (by omega)
                  have v3 : vals 3 = .bool true := hv 3 (by omega)
                  have v4 : vals 4 = .int .i64 0 := hv 4 (by omega)
                  have v5 : vals 5 = .bool false := hv 5 (by omega)
                  have v6 : vals 6 = .bool false := hv 6 (by omega)
                  have v7 : vals 7 = .slice (some ⟨gp, 0, none⟩) 1 capp := hv 7 (by omega)
                  have v8 : vals 8 = .int .i64 ((1 : Nat) : Int) := hv 8 (by omega)
                  have v9 : vals 9 = .bool false := hv 9 (by omega)
                  have v10 : vals 10 = .bool false := hv 10 (by omega)
                  have v11 : vals 11 = .bool false := hv 11 (by omega)
                  have v12 : vals 12 = .slice (some ⟨gp, 0, none⟩) 1 capp := hv 12 (by omega)
                  have v13 : vals 13 = .pointer (some ⟨gp, 0, none⟩) := hv 13 (by omega)
                  have v14 : vals 14 = wordV { d with place := 0 } := hv 14 (by omega)
                  have v15 : vals 15 = wordV { d with place := 0 } := hv 15 (by omega)
                  have v16 : vals 16 = .bool false := hv 16 (by omega)
                  have v17 : vals 17 = .bool false := hv 17 (by omega)
                  have v18 : vals 18 = .bool false := hv 18 (by omega)
                  simp only [List.take_succ_cons, List.take_zero, List.drop_succ_cons, List.drop_zero, List.drop_nil, List.take_nil, fillAll, Nat.zero_add, Nat.reduceAdd]
                  rw [v0, v1, v2, v3, v4, v5, v6, v7, v8, v9, v10, v11, v12, v13, v14, v15, v16, v17, v18]
                  clear hv v0 v1 v2 v3 v4 v5 v6 v7 v8 v9 v10 v11 v12 v13 v14 v15 v16 v17 v18
                  try simp only [put_lit, List.setIfInBounds_toArray, List.set_cons_succ, List.set_cons_zero]
                  simp only [put_no, put_lit, List.setIfInBounds_toArray, List.set_cons_succ, List.set_cons_zero]
                  replace H := (H.call hbw).take 1
                  go_wp2_with (first | fail)
                  go_roundw
                  case rel => exact ⟨i + 1, rfl, by omega, H⟩
                  case measure => simp [intOf]; omega
        · have di : decide ((i : Int) < (ws.length : Int)) = false := by simp; omega
          clear hin
          go_wp2_with (first | fail | (go_at_call 9; (with_reducible refine ch (hAw _ H.below) H ?_); clear H; intro w H) | (go_at_call 10; (with_reducible refine ch (hcL _ H.below) H ?_); clear H; intro w H))
          go_ret
          exact ⟨rfl, H.below⟩
end Go.Proofs.YtllmgmfihijejaaDoor
