/-
  TextTells: the walk.
-/
import Derived.Test.YtkkilngihkdnaaaTextLaw
import Derived.Test.YtkkilngihkdnaaaKitB
import Derived.Test.YtkkilngihkdnaaaApartInts2
namespace Go.Proofs.Ytkkilngihkdnaaa
open Go.RowKit Go.Shelf
attribute [local go_sem] Oper.semAt_some
set_option linter.unusedSimpArgs false

set_option maxRecDepth 100000 in
set_option maxHeartbeats 2000000 in
theorem kit_SameInts (v v2 : Value) (xs : List Int) (w : World) (h1 : Rd w w.heap.size v (i64s xs)) (h2 : Rd w w.heap.size v2 (i64s xs)) :
    Calls Try.prog 14 #[v, v2] w fun e w' => e = .returned (.bool true) ∧ Below w.heap.size w w' := by
  have hl : xs.length ≤ 9223372036854775807 := by simpa [i64s] using h1.len
  obtain ⟨p, cap, rfl⟩ : ∃ p cap, v = .slice p xs.length cap := by rcases h1.i64 with ⟨⟨q, h'⟩, rfl⟩ | ⟨b, off, cap, h', _⟩ <;> exact ⟨_, _, h'⟩
  obtain ⟨p2, cap2, rfl⟩ : ∃ p cap, v2 = .slice p xs.length cap := by rcases h2.i64 with ⟨⟨q, h'⟩, rfl⟩ | ⟨b, off, cap, h', _⟩ <;> exact ⟨_, _, h'⟩
  have H1 := Lib.hid h1; clear h1
  have H2 := Lib.hid h2; clear h2
  have hne : ((xs.length : Int) != (xs.length : Int)) = false := by simp
  go_enter Try.func14, Try.ntmps14
  go_wp2_with fail
  go_loopw [5] (fun i wr => ∃ k : Nat, k ≤ xs.length ∧ i = .int .i64 k ∧ Hid (Below w.heap.size w wr)) (fun i _ => xs.length - (intOf i).toNat)
  case atStart => exact ⟨0, by omega, rfl, Below.refl _ _⟩
  case round =>
    obtain ⟨k, hk, rfl, B⟩ := hrel
    by_cases hlt : k < xs.length
    · obtain ⟨b1, o1, rfl, hb1, hc1⟩ : ∃ b off, p = some ⟨b, off, none⟩ ∧ b < w.heap.size ∧ w.cell? ⟨b, off + k, none⟩ = some (.int .i64 xs[k]) := by
        rcases H1.out.i64 with ⟨_, h'⟩ | ⟨b, off, cap', h, h1, _, _, h4⟩
        · subst h'; simp at hlt
        · injection h with h2 _ _; exact ⟨b, off, h2, h1, h4 k hlt⟩
      obtain ⟨b2, o2, rfl, hb2, hc2⟩ : ∃ b off, p2 = some ⟨b, off, none⟩ ∧ b < w.heap.size ∧ w.cell? ⟨b, off + k, none⟩ = some (.int .i64 xs[k]) := by
        rcases H2.out.i64 with ⟨_, h'⟩ | ⟨b, off, cap', h, h1, _, _, h4⟩
        · subst h'; simp at hlt
        · injection h with h2 _ _; exact ⟨b, off, h2, h1, h4 k hlt⟩
      generalize xs[k] = x at hc1 hc2
      have C1 := Lib.hid hc1; clear hc1
      have C2 := Lib.hid hc2; clear hc2
      go_upto_region 6 with fail
      refine wp_region_spec 9 [fun v _ => v = .slice (some ⟨b1, o1, none⟩) xs.length cap, fun v _ => v = .int .i64 (k : Int), fun v _ => v = .pointer (some ⟨b1, o1 + k, none⟩), fun v _ => v = .int .i64 x, fun v _ => v = .slice (some ⟨b2, o2, none⟩) xs.length cap2, fun v _ => v = .int .i64 (k : Int), fun v _ => v = .pointer (some ⟨b2, o2 + k, none⟩), fun v _ => v = .int .i64 x, fun v _ => v = .bool false] (fun _ => false) (by kernel_rfl) (by kernel_rfl) (by kernel_rfl) ⟨stable_eq _, stable_eq _, stable_eq _, stable_eq _, stable_eq _, stable_eq _, stable_eq _, stable_eq _, stable_eq _, trivial⟩ (fun _ _ h => by cases h) ?ob ?en
      case ob =>
        refine ⟨?_, ?_, ?_, ?_, ?_, ?_, ?_, ?_, ?_, trivial⟩ <;> intro A W h
        · exact rs_move rfl rfl (h.frame 0 rfl) (by decide)
        · exact rs_move rfl rfl (h.frame 5 rfl) (by decide)
        · exact rs_idx (sz := 1) Try.underlying23 (fun w => by kernel_rfl) rfl rfl (h.dep 0 17 rfl rfl) (h.dep 1 18 rfl rfl) (by omega) (by omega) (by decide)
        · (have e19 : A.eval (.tmp 19) = .pointer (some ⟨b1, o1 + k, none⟩) := h.dep 2 19 rfl rfl; refine rs_pure rfl ?_ (by decide); simp only [execOp, e19]; (have q := ((B.out.trans (h.below.mono B.out.size)).cell (p := ⟨b1, o1 + k, none⟩) hb1).trans C1.out; simp [go_sem, q]))
        · exact rs_move rfl rfl (h.frame 1 rfl) (by decide)
        · exact rs_move rfl rfl (h.frame 5 rfl) (by decide)
        · exact rs_idx (sz := 1) Try.underlying23 (fun w => by kernel_rfl) rfl rfl (h.dep 4 21 rfl rfl) (h.dep 5 22 rfl rfl) (by omega) (by omega) (by decide)
        · (have e23 : A.eval (.tmp 23) = .pointer (some ⟨b2, o2 + k, none⟩) := h.dep 6 23 rfl rfl; refine rs_pure rfl ?_ (by decide); simp only [execOp, e23]; (have q := ((B.out.trans (h.below.mono B.out.size)).cell (p := ⟨b2, o2 + k, none⟩) hb2).trans C2.out; simp [go_sem, q]))
        · (have e20 : A.eval (.tmp 20) = .int .i64 x := h.dep 3 20 rfl rfl; have e24 : A.eval (.tmp 24) = .int .i64 x := h.dep 7 24 rfl rfl; refine rs_pure rfl ?_ (by decide); simp only [execOp, e20, e24]; (simp [go_sem] <;> first | done | omega | (rw [IntKind.wrap_i64]; omega) | (rw [IntKind.wrap_u8]; omega) | (rw [IntKind.wrap_u64]; omega)))
      case en =>
        intro vals W hbw hv _
        have v0 : vals 0 = .slice (some ⟨b1, o1, none⟩) xs.length cap := hv 0 (by omega)
        have v1 : vals 1 = .int .i64 (k : Int) := hv 1 (by omega)
        have v2 : vals 2 = .pointer (some ⟨b1, o1 + k, none⟩) := hv 2 (by omega)
        have v3 : vals 3 = .int .i64 x := hv 3 (by omega)
        have v4 : vals 4 = .slice (some ⟨b2, o2, none⟩) xs.length cap2 := hv 4 (by omega)
        have v5 : vals 5 = .int .i64 (k : Int) := hv 5 (by omega)
        have v6 : vals 6 = .pointer (some ⟨b2, o2 + k, none⟩) := hv 6 (by omega)
        have v7 : vals 7 = .int .i64 x := hv 7 (by omega)
        have v8 : vals 8 = .bool false := hv 8 (by omega)
        simp only [List.take_succ_cons, List.take_zero, List.drop_succ_cons, List.drop_zero, List.drop_nil, List.take_nil, fillAll, Nat.zero_add, Nat.reduceAdd]
        rw [v0, v1, v2, v3, v4, v5, v6, v7, v8]
        clear hv v0 v1 v2 v3 v4 v5 v6 v7 v8
        simp only [put_lit, List.setIfInBounds_toArray, List.set_cons_succ, List.set_cons_zero]
        have B2 := Lib.hid (B.out.trans (hbw.mono B.out.size)); clear hbw B
        go_wp2_with fail
        go_roundw
        case rel => exact ⟨k + 1, by omega, by go_num, B2.out⟩
        case measure => simp [intOf]; omega
    · obtain rfl : k = xs.length := by omega
      go_wp2
      go_ret
      exact ⟨rfl, B.out⟩

/-- what Lines hands back, as a word -/
def LinesW (B : List Int) (v : Value) (w : World) : Prop := Rd w w.heap.size v (i64s (lines B))
theorem stable_linesW (B : List Int) : Stable (LinesW B) := fun _ _ _ h hb => (h.below hb).up hb.size
theorem ref_Lines_w (v : Value) (B : List Int) (W : World) (hB : B.length ≤ 4194304) (h : Rd W W.heap.size v (u8s B)) : Calls Try.prog 15 #[v] W fun e w' => ∃ r, e = .returned r ∧ Below W.heap.size W w' ∧ LinesW B r w' ∧ (false = true → W.heap.size ≤ blk r) := by
  refine (ref_Lines v B W hB h).mono ?_
  rintro e w' ⟨r, rfl, hown, hb⟩
  exact ⟨r, rfl, hb, Rd.of_own hown, fun h => by cases h⟩
theorem same_line {g : FuncId} {args : Array Value} {v : Value} {W : World} (h : Calls Try.prog g args W fun e w' => e = .returned v ∧ W = w') : Calls Try.prog g args W fun e w' => e = .returned v ∧ Below W.heap.size W w' :=
  h.mono fun _ _ ⟨he, hw⟩ => ⟨he, hw ▸ Below.refl _ _⟩

/-- the two lists of lines, as rows -/
def two (l m : Value) (j : Nat) : Value := if j = 0 then l else m
def RowsT (base : Nat) (l m : Value) (n : Nat) (w : World) : Prop := ∃ X, Fam 3 1 base w 2 (two l m) (two l m) (fun _ => n) (fun _ => n) X X
def RelT (base : Nat) (l m : Value) (n : Nat) (u v : World) : Prop := KeepBut (Mine 2 (two l m)) u.heap.size u v ∧ (RowsT base l m n u → RowsT base l m n v)
section
variable {base : Nat} {l m : Value} {n : Nat}
theorem RelT.refl (w : World) : RelT base l m n w w := ⟨KeepBut.refl _ _ _, id⟩
theorem RelT.trans (u v w : World) (h1 : RelT base l m n u v) (h2 : RelT base l m n v w) : RelT base l m n u w := ⟨h1.1.trans (h2.1.mono h1.1.size (fun _ _ h => h)), fun h => h2.2 (h1.2 h)⟩
theorem RelT.of_below {u v : World} (hb : Below u.heap.size u v) : RelT base l m n u v := ⟨KeepBut.of_below hb, fun ⟨X, h⟩ => ⟨X, h.below hb⟩⟩
theorem RelT.call {f : FuncId} {args : Array Value} {W : World} {v : Value} (h : Calls Try.prog f args W fun e w' => e = .returned v ∧ Below W.heap.size W w') :
    Calls Try.prog f args W fun e w' => e = .returned v ∧ RelT base l m n W w' := h.mono fun _ _ ⟨he, hb⟩ => ⟨he, RelT.of_below hb⟩
/-- what lay below the rows lies as it lay -/
theorem RelT.below {u v : World} (h : RelT base l m n u v) (hr : RowsT base l m n u) (hs : base ≤ u.heap.size) : Below base u v := by
  obtain ⟨X, hf⟩ := hr
  refine h.1.below hs (fun k hk => ?_)
  rintro ⟨j, hj, hb⟩
  have := (own_block (hf.v j hj) hb).2.1
  omega
end
def TwoW (l m : Value) (v : Value) (w : World) : Prop := ∃ g, v = .slice (some ⟨g, 0, none⟩) 2 2 ∧ w.heap[g]? = some (.cells #[l, m] 23 (0, 0)) ∧ ¬ Mine 2 (two l m) g
theorem stable_twoW {base : Nat} {l m : Value} {n : Nat} : StableR (RelT base l m n) (TwoW l m) := fun _ _ _ ⟨g, e, h1, h2⟩ hr => ⟨g, e, (hr.1.old g (Array.getElem?_eq_some_iff.1 h1).1 h2).trans h1, h2⟩
theorem rq_two {base : Nat} {p1 p2 : Option Addr} {n c1 c2 : Nat} {ops : Array Oper} {o : Oper} {a : Act} {w : World} {x y : Operand} (hg : Region.wanted o (yielded ops a.tmps) = true) (hop : o.op = Op.buildSlice 33 2 #[(0, x), (1, y)])
    (hx : a.eval x = .slice p1 n c1) (hy : a.eval y = .slice p2 n c2) (hr : RowsT base (.slice p1 n c1) (.slice p2 n c2) n w) :
    QStep Try.prog ops (RelT base (.slice p1 n c1) (.slice p2 n c2) n) o a w (TwoW (.slice p1 n c1) (.slice p2 n c2)) := by
  refine rq_below (fun w' hb => RelT.of_below hb) ?_
  refine rs_val hg (v := .slice (some ⟨w.heap.size, 0, none⟩) 2 2) (w' := w.alloc (.cells #[.slice p1 n c1, .slice p2 n c2] 23)) ?_ ((Below.refl _ w).alloc (Nat.le_refl _) _) ⟨w.heap.size, rfl, World.alloc_heap_new w _, ?_⟩
  · simp only [execOp, hop]
    simp only [List.map_toArray, List.map_cons, List.map_nil, hx, hy]
    simp [go_sem]
  · rintro ⟨j, hj, hb⟩
    obtain ⟨X, hf⟩ := hr
    have := (own_block (hf.v j hj) hb).1
    omega
theorem call_two {base : Nat} {p1 p2 : Option Addr} {n c1 c2 : Nat} {v : Value} {W : World} (hn : n ≤ 4194304) (hv : TwoW (.slice p1 n c1) (.slice p2 n c2) v W) (hr : RowsT base (.slice p1 n c1) (.slice p2 n c2) n W) (hb : base ≤ W.heap.size) :
    Calls Try.prog 22 #[v] W fun e w' => e = .returned (.bool true) ∧ RelT base (.slice p1 n c1) (.slice p2 n c2) n W w' := by
  obtain ⟨g, rfl, hg, _⟩ := hv
  obtain ⟨X, hf⟩ := hr
  refine (kit_ApartInts g 2 2 base (two (.slice p1 n c1) (.slice p2 n c2)) (fun _ => n) X W (by omega) (by omega) (fun _ _ => hn) (Array.getElem?_eq_some_iff.1 hg).1 (fun k hk => ?_) hb hf).mono fun e w' ⟨he, h1, h2⟩ => ⟨he, h1, fun _ => h2⟩
  rw [cell_of_row W g k _ _ _ hg]
  match k, hk with
  | 0, _ => rfl
  | 1, _ => rfl

set_option maxRecDepth 100000 in
set_option maxHeartbeats 8000000 in
theorem law_TextTells (v v2 : Value) (B S : List Int) (at_ line : Int) (w : World) (hB : Rd w w.heap.size v (u8s B)) (hS : Rd w w.heap.size v2 (i64s S)) :
    Calls Try.prog 3 #[v, v2, .int .i64 at_, .int .i64 line] w fun e w' => e = .returned (.bool true) ∧ Below w.heap.size w w' := by
  have hl : B.length ≤ 9223372036854775807 := by simpa [u8s] using hB.len
  have hl2 : S.length ≤ 9223372036854775807 := by simpa [i64s] using hS.len
  obtain ⟨p, cap, rfl⟩ : ∃ p cap, v = .slice p B.length cap := by rcases hB.u8 with ⟨⟨q, h'⟩, rfl⟩ | ⟨b, off, cap, h', _⟩ <;> exact ⟨_, _, h'⟩
  obtain ⟨p2, cap2, rfl⟩ : ∃ p cap, v2 = .slice p S.length cap := by rcases hS.i64 with ⟨⟨q, h'⟩, rfl⟩ | ⟨b, off, cap, h', _⟩ <;> exact ⟨_, _, h'⟩
  have HB := Lib.hid hB; clear hB
  have HS := Lib.hid hS; clear hS
  by_cases hbig : 4000 < B.length
  · go_enter Try.func3, Try.ntmps3
    go_wp2_with fail
    refine (law05_awake _).mono ?_
    rintro e w1 ⟨rfl, b1⟩
    go_wp2
    go_ret
    exact ⟨rfl, b1⟩
  · by_cases hbig2 : 4000 < S.length
    · go_enter Try.func3, Try.ntmps3
      go_wp2_with fail
      refine (law05_awake _).mono ?_
      rintro e w1 ⟨rfl, b1⟩
      go_wp2
      go_ret
      exact ⟨rfl, b1⟩
    · go_enter Try.func3, Try.ntmps3
      go_wp2_with fail
      refine (kit_LentBytes (.slice p B.length cap) B _ (by omega) HB.out).mono ?_
      rintro e w1 ⟨x, rfl, lx, bel1⟩
      have B1 := Lib.hid bel1
      have LX := Lib.hid lx
      have hx : ∃ g c, x = .slice (some ⟨g, 0, none⟩) B.length c := by obtain ⟨g, c, e, _⟩ := lx; exact ⟨g, c, by simpa [u8s] using e⟩
      obtain ⟨gx, cx, rfl⟩ := hx
      clear lx bel1
      go_wp2_with fail
      refine (kit_LentInts (.slice p2 S.length cap2) S w1 (by omega) ((HS.out.below B1.out).up B1.out.size)).mono ?_
      rintro e w2 ⟨y, rfl, ly, bel2⟩
      have B2 := Lib.hid (B1.out.trans (bel2.mono B1.out.size))
      have LX2 := Lib.hid (LX.out.below bel2)
      have LY := Lib.hid ly
      have hy : ∃ g c, y = .slice (some ⟨g, 0, none⟩) S.length c := by obtain ⟨g, c, e, _⟩ := ly; exact ⟨g, c, by simpa [i64s] using e⟩
      obtain ⟨gy, cy, rfl⟩ := hy
      clear ly bel2 LX
      go_wp2_with fail
      refine (text_Lines _ B w2 (by omega) LX2.out.rd).mono ?_
      rintro e w3 ⟨l, rfl, ol, bel3⟩
      obtain ⟨pl, cl, rfl⟩ := own_form ol
      have OL := Lib.hid ol; clear ol
      have BL3 := Lib.hid bel3; clear bel3
      go_wp2_with fail
      refine (text_Lines _ B w3 (by omega) ((LX2.out.rd.below BL3.out).up BL3.out.size)).mono ?_
      rintro e w4 ⟨m, rfl, om, bel4⟩
      obtain ⟨pm, cm, rfl⟩ := own_form om
      have hN := lines_length_le B
      have hrows : RowsT w2.heap.size (.slice pl (lines B).length cl) (.slice pm (lines B).length cm) (lines B).length w4 := by
        have o1 := own_below OL.out bel4
        have o2 := own_base om (base' := w2.heap.size) BL3.out.size
        have key : ∀ j, j < 2 → w4.ownsRow w2.heap.size 3 1 (two (.slice pl (lines B).length cl) (.slice pm (lines B).length cm) j) (lines B).length (i64s (lines B)) := by
          intro j hj
          match j, hj with
          | 0, _ => exact o1
          | 1, _ => exact o2
        refine ⟨fun _ => i64s (lines B), key, key, fun j _ g n c m d h1 h2 => by rw [h1] at h2; cases h2; exact ⟨Nat.le_refl _, rfl⟩, ?_⟩
        have hne : ∀ g, (Value.slice pl (lines B).length cl).ownBlock = some g → (Value.slice pm (lines B).length cm).ownBlock ≠ some g := fun g h1 h2 => by
          have a1 := (own_block OL.out h1).1
          have a2 := (own_block om h2).2.1
          omega
        intro i j hi hj hij g h1 h2
        match i, j, hi, hj with
        | 0, 0, _, _ => exact hij rfl
        | 1, 1, _, _ => exact hij rfl
        | 0, 1, _, _ => exact hne g (h1.elim id id) (h2.elim id id)
        | 1, 0, _, _ => exact hne g (h2.elim id id) (h1.elim id id)
      have hrl : Rd w4 w4.heap.size (.slice pl (lines B).length cl) (i64s (lines B)) := Rd.of_own (own_below OL.out bel4)
      have B4' : Below w2.heap.size w2 w4 := BL3.out.trans (bel4.mono BL3.out.size)
      have B4 := Lib.hid (B2.out.trans (B4'.mono B2.out.size))
      have LX4 := Lib.hid (LX2.out.below B4')
      have LY4 := Lib.hid (LY.out.below B4')
      have RL := Lib.hid hrl; clear hrl
      have RW := Lib.hid hrows; clear hrows
      have hb2s := B4'.size
      have B24 := Lib.hid B4'; clear B4'
      clear om bel4 OL BL3
      obtain ⟨N, hNN⟩ : ∃ N, (lines B).length = N := ⟨_, rfl⟩
      rw [hNN] at hN RL RW ⊢
      clear hNN
      go_upto_region 5 with fail
      refine wp_region_seq 25 [fun v _ => v = .slice pl N cl, fun v _ => v = .slice p B.length cap, LinesW B, fun v _ => v = .bool true, fun v _ => v = .bool false, fun v _ => v = .bool false, fun v _ => v = .slice (some ⟨gy, 0, none⟩) S.length cy, fun v _ => v = .int .i64 at_, fun v _ => v = .int .i64 (lineN S at_), fun v _ => v = .slice p2 S.length cap2, fun v _ => v = .int .i64 at_, fun v _ => v = .int .i64 (lineN S at_), fun v _ => v = .bool false, fun v _ => v = .bool false, fun v _ => v = .bool false, fun v _ => v = .slice (some ⟨gx, 0, none⟩) B.length cx, fun v _ => v = .slice (some ⟨gy, 0, none⟩) S.length cy, fun v _ => v = .int .i64 line, fun v _ => v = .string (strOfNums (textN B S line)), fun v _ => v = .slice p B.length cap, fun v _ => v = .slice p2 S.length cap2, fun v _ => v = .int .i64 line, fun v _ => v = .string (strOfNums (textN B S line)), fun v _ => v = .bool false, fun v _ => v = .bool false] (fun _ => false) (by kernel_rfl) (by kernel_rfl) ⟨stable_eq _, stable_eq _, stable_linesW B, stable_eq _, stable_eq _, stable_eq _, stable_eq _, stable_eq _, stable_eq _, stable_eq _, stable_eq _, stable_eq _, stable_eq _, stable_eq _, stable_eq _, stable_eq _, stable_eq _, stable_eq _, stable_eq _, stable_eq _, stable_eq _, stable_eq _, stable_eq _, stable_eq _, stable_eq _, trivial⟩ (fun _ _ h => by cases h) ?ob ?en
      case ob =>
        refine ⟨?_, ?_, ?_, ?_, ?_, ?_, ?_, ?_, ?_, ?_, ?_, ?_, ?_, ?_, ?_, ?_, ?_, ?_, ?_, ?_, ?_, ?_, ?_, ?_, ?_, trivial⟩ <;> intro A W h
        · exact rs_move rfl rfl (h.frame 11 rfl) (by decide)
        · exact rs_move rfl rfl (h.frame 0 rfl) (by decide)
        · exact rs_calln' rfl rfl (enters_of Try.func15 (by kernel_rfl) rfl) (args1 (h.dep 1 31 rfl rfl)) (ref_Lines_w _ B W (by omega) (((HB.out.below B4.out).up B4.out.size).below h.below |>.up h.below.size))
        · exact rs_calln rfl rfl (enters_of Try.func14 (by kernel_rfl) rfl) (args2 ⟨(h.dep 0 30 rfl rfl), rfl⟩) (kit_SameInts _ _ (lines B) W ((RL.out.below h.below).up h.below.size) (h.dep 2 32 rfl rfl)) (by decide)
        · (have e33 : A.eval (.tmp 33) = .bool true := h.dep 3 33 rfl rfl; refine rs_pure rfl ?_ (by decide); simp only [execOp, e33]; (simp [go_sem] <;> first | done | omega | (rw [IntKind.wrap_i64]; omega) | (rw [IntKind.wrap_u8]; omega) | (rw [IntKind.wrap_u64]; omega)))
        · exact rs_move rfl rfl (h.dep 4 34 rfl rfl) (by decide)
        · exact rs_move (wanted_g rfl (yielded_of (d := 35) rfl (h.dep 5 35 rfl rfl))) rfl (h.frame 10 rfl) (by decide)
        · exact rs_move (wanted_g rfl (yielded_of (d := 35) rfl (h.dep 5 35 rfl rfl))) rfl (h.frame 2 rfl) (by decide)
        · exact rs_calln (wanted_g rfl (yielded_of (d := 35) rfl (h.dep 5 35 rfl rfl))) rfl (enters_of Try.func16 (by kernel_rfl) rfl) (args2 ⟨(h.dep 6 36 rfl rfl), (h.dep 7 37 rfl rfl)⟩) (same_line (text_Line _ S at_ W ((LY4.out.rd.below h.below).up h.below.size))) (by decide)
        · exact rs_move (wanted_g rfl (yielded_of (d := 35) rfl (h.dep 5 35 rfl rfl))) rfl (h.frame 1 rfl) (by decide)
        · exact rs_move (wanted_g rfl (yielded_of (d := 35) rfl (h.dep 5 35 rfl rfl))) rfl (h.frame 2 rfl) (by decide)
        · exact rs_calln (wanted_g rfl (yielded_of (d := 35) rfl (h.dep 5 35 rfl rfl))) rfl (enters_of Try.func17 (by kernel_rfl) rfl) (args2 ⟨(h.dep 9 39 rfl rfl), (h.dep 10 40 rfl rfl)⟩) (same_line (ref_Line _ S at_ W (((HS.out.below B4.out).up B4.out.size).below h.below |>.up h.below.size))) (by decide)
        · (have e38 : A.eval (.tmp 38) = .int .i64 (lineN S at_) := h.dep 8 38 rfl rfl; have e41 : A.eval (.tmp 41) = .int .i64 (lineN S at_) := h.dep 11 41 rfl rfl; refine rs_pure (wanted_g rfl (yielded_of (d := 35) rfl (h.dep 5 35 rfl rfl))) ?_ (by decide); simp only [execOp, e38, e41]; (simp [go_sem] <;> first | done | omega | (rw [IntKind.wrap_i64]; omega) | (rw [IntKind.wrap_u8]; omega) | (rw [IntKind.wrap_u64]; omega)))
        · exact rs_pick rfl rfl (h.dep 5 35 rfl rfl) (h.dep 12 42 rfl rfl) (by decide)
        · exact rs_move rfl rfl (h.dep 13 43 rfl rfl) (by decide)
        · exact rs_move (wanted_g rfl (yielded_of (d := 44) rfl (h.dep 14 44 rfl rfl))) rfl (h.frame 9 rfl) (by decide)
        · exact rs_move (wanted_g rfl (yielded_of (d := 44) rfl (h.dep 14 44 rfl rfl))) rfl (h.frame 10 rfl) (by decide)
        · exact rs_move (wanted_g rfl (yielded_of (d := 44) rfl (h.dep 14 44 rfl rfl))) rfl (h.frame 3 rfl) (by decide)
        · exact rs_calln (wanted_g rfl (yielded_of (d := 44) rfl (h.dep 14 44 rfl rfl))) rfl (enters_of Try.func18 (by kernel_rfl) rfl) (args3 ⟨(h.dep 15 45 rfl rfl), (h.dep 16 46 rfl rfl), (h.dep 17 47 rfl rfl)⟩) (text_Text _ _ B S line W ((LX4.out.rd.below h.below).up h.below.size) ((LY4.out.rd.below h.below).up h.below.size)) (by decide)
        · exact rs_move (wanted_g rfl (yielded_of (d := 44) rfl (h.dep 14 44 rfl rfl))) rfl (h.frame 0 rfl) (by decide)
        · exact rs_move (wanted_g rfl (yielded_of (d := 44) rfl (h.dep 14 44 rfl rfl))) rfl (h.frame 1 rfl) (by decide)
        · exact rs_move (wanted_g rfl (yielded_of (d := 44) rfl (h.dep 14 44 rfl rfl))) rfl (h.frame 3 rfl) (by decide)
        · exact rs_calln (wanted_g rfl (yielded_of (d := 44) rfl (h.dep 14 44 rfl rfl))) rfl (enters_of Try.func19 (by kernel_rfl) rfl) (args3 ⟨(h.dep 19 49 rfl rfl), (h.dep 20 50 rfl rfl), (h.dep 21 51 rfl rfl)⟩) (same_line (ref_Text _ _ B S line W (((HB.out.below B4.out).up B4.out.size).below h.below |>.up h.below.size) (((HS.out.below B4.out).up B4.out.size).below h.below |>.up h.below.size))) (by decide)
        · (have e48 : A.eval (.tmp 48) = .string (strOfNums (textN B S line)) := h.dep 18 48 rfl rfl; have e52 : A.eval (.tmp 52) = .string (strOfNums (textN B S line)) := h.dep 22 52 rfl rfl; refine rs_pure (wanted_g rfl (yielded_of (d := 44) rfl (h.dep 14 44 rfl rfl))) ?_ (by decide); simp only [execOp, e48, e52]; simp [go_sem])
        · exact rs_pick rfl rfl (h.dep 14 44 rfl rfl) (h.dep 23 53 rfl rfl) (by decide)
      case en =>
        intro vals W5 hbw hv _
        have v0 : vals 0 = .slice pl N cl := hv 0 (by omega)
        have v1 : vals 1 = .slice p B.length cap := hv 1 (by omega)
        have v3 : vals 3 = .bool true := hv 3 (by omega)
        have v4 : vals 4 = .bool false := hv 4 (by omega)
        have v5 : vals 5 = .bool false := hv 5 (by omega)
        have v6 : vals 6 = .slice (some ⟨gy, 0, none⟩) S.length cy := hv 6 (by omega)
        have v7 : vals 7 = .int .i64 at_ := hv 7 (by omega)
        have v8 : vals 8 = .int .i64 (lineN S at_) := hv 8 (by omega)
        have v9 : vals 9 = .slice p2 S.length cap2 := hv 9 (by omega)
        have v10 : vals 10 = .int .i64 at_ := hv 10 (by omega)
        have v11 : vals 11 = .int .i64 (lineN S at_) := hv 11 (by omega)
        have v12 : vals 12 = .bool false := hv 12 (by omega)
        have v13 : vals 13 = .bool false := hv 13 (by omega)
        have v14 : vals 14 = .bool false := hv 14 (by omega)
        have v15 : vals 15 = .slice (some ⟨gx, 0, none⟩) B.length cx := hv 15 (by omega)
        have v16 : vals 16 = .slice (some ⟨gy, 0, none⟩) S.length cy := hv 16 (by omega)
        have v17 : vals 17 = .int .i64 line := hv 17 (by omega)
        have v18 : vals 18 = .string (strOfNums (textN B S line)) := hv 18 (by omega)
        have v19 : vals 19 = .slice p B.length cap := hv 19 (by omega)
        have v20 : vals 20 = .slice p2 S.length cap2 := hv 20 (by omega)
        have v21 : vals 21 = .int .i64 line := hv 21 (by omega)
        have v22 : vals 22 = .string (strOfNums (textN B S line)) := hv 22 (by omega)
        have v23 : vals 23 = .bool false := hv 23 (by omega)
        have v24 : vals 24 = .bool false := hv 24 (by omega)
        have x2 := hv 2 (by omega); simp only [lookS] at x2
        simp only [List.take_succ_cons, List.take_zero, List.drop_succ_cons, List.drop_zero, List.drop_nil, List.take_nil, fillAll, Nat.zero_add, Nat.reduceAdd]
        rw [v0, v1, v3, v4, v5, v6, v7, v8, v9, v10, v11, v12, v13, v14, v15, v16, v17, v18, v19, v20, v21, v22, v23, v24]
        clear hv v0 v1 v3 v4 v5 v6 v7 v8 v9 v10 v11 v12 v13 v14 v15 v16 v17 v18 v19 v20 v21 v22 v23 v24
        simp only [put_lit, List.setIfInBounds_toArray, List.set_cons_succ, List.set_cons_zero]
        clear x2
        generalize vals 2 = x2v
        have B5 := Lib.hid hbw; clear hbw
        go_upto_region 7 with fail
        refine wp_region_seq 18 [fun v _ => v = .slice pl N cl, fun v _ => v = .int .i64 at_, fun v _ => v = .int .i64 (lineN (lines B) at_), fun v _ => v = .slice pl N cl, fun v _ => v = .int .i64 at_, fun v _ => v = .int .i64 (lineN (lines B) at_), fun v _ => v = .bool false, fun v _ => v = .bool false, fun v _ => v = .slice (some ⟨gx, 0, none⟩) B.length cx, fun v _ => v = .slice pl N cl, fun v _ => v = .int .i64 line, fun v _ => v = .string (strOfNums (textN B (lines B) line)), fun v _ => v = .slice p B.length cap, fun v _ => v = .slice pl N cl, fun v _ => v = .int .i64 line, fun v _ => v = .string (strOfNums (textN B (lines B) line)), fun v _ => v = .bool false, fun v _ => v = .bool false] (fun _ => false) (by kernel_rfl) (by kernel_rfl) ⟨stable_eq _, stable_eq _, stable_eq _, stable_eq _, stable_eq _, stable_eq _, stable_eq _, stable_eq _, stable_eq _, stable_eq _, stable_eq _, stable_eq _, stable_eq _, stable_eq _, stable_eq _, stable_eq _, stable_eq _, stable_eq _, trivial⟩ (fun _ _ h => by cases h) ?ob ?en
        case ob =>
          refine ⟨?_, ?_, ?_, ?_, ?_, ?_, ?_, ?_, ?_, ?_, ?_, ?_, ?_, ?_, ?_, ?_, ?_, ?_, trivial⟩ <;> intro A W h
          · exact rs_move rfl rfl (h.frame 11 rfl) (by decide)
          · exact rs_move rfl rfl (h.frame 2 rfl) (by decide)
          · exact rs_calln rfl rfl (enters_of Try.func16 (by kernel_rfl) rfl) (args2 ⟨(h.dep 0 55 rfl rfl), (h.dep 1 56 rfl rfl)⟩) (same_line (text_Line _ (lines B) at_ W (((RL.out.below B5.out).up B5.out.size).below h.below |>.up h.below.size))) (by decide)
          · exact rs_move rfl rfl (h.frame 11 rfl) (by decide)
          · exact rs_move rfl rfl (h.frame 2 rfl) (by decide)
          · exact rs_calln rfl rfl (enters_of Try.func17 (by kernel_rfl) rfl) (args2 ⟨(h.dep 3 58 rfl rfl), (h.dep 4 59 rfl rfl)⟩) (same_line (ref_Line _ (lines B) at_ W (((RL.out.below B5.out).up B5.out.size).below h.below |>.up h.below.size))) (by decide)
          · (have e57 : A.eval (.tmp 57) = .int .i64 (lineN (lines B) at_) := h.dep 2 57 rfl rfl; have e60 : A.eval (.tmp 60) = .int .i64 (lineN (lines B) at_) := h.dep 5 60 rfl rfl; refine rs_pure rfl ?_ (by decide); simp only [execOp, e57, e60]; (simp [go_sem] <;> first | done | omega | (rw [IntKind.wrap_i64]; omega) | (rw [IntKind.wrap_u8]; omega) | (rw [IntKind.wrap_u64]; omega)))
          · exact rs_move rfl rfl (h.dep 6 61 rfl rfl) (by decide)
          · exact rs_move (wanted_g rfl (yielded_of (d := 62) rfl (h.dep 7 62 rfl rfl))) rfl (h.frame 9 rfl) (by decide)
          · exact rs_move (wanted_g rfl (yielded_of (d := 62) rfl (h.dep 7 62 rfl rfl))) rfl (h.frame 11 rfl) (by decide)
          · exact rs_move (wanted_g rfl (yielded_of (d := 62) rfl (h.dep 7 62 rfl rfl))) rfl (h.frame 3 rfl) (by decide)
          · exact rs_calln (wanted_g rfl (yielded_of (d := 62) rfl (h.dep 7 62 rfl rfl))) rfl (enters_of Try.func18 (by kernel_rfl) rfl) (args3 ⟨(h.dep 8 63 rfl rfl), (h.dep 9 64 rfl rfl), (h.dep 10 65 rfl rfl)⟩) (text_Text _ _ B (lines B) line W (((LX4.out.rd.below B5.out).up B5.out.size).below h.below |>.up h.below.size) (((RL.out.below B5.out).up B5.out.size).below h.below |>.up h.below.size)) (by decide)
          · exact rs_move (wanted_g rfl (yielded_of (d := 62) rfl (h.dep 7 62 rfl rfl))) rfl (h.frame 0 rfl) (by decide)
          · exact rs_move (wanted_g rfl (yielded_of (d := 62) rfl (h.dep 7 62 rfl rfl))) rfl (h.frame 11 rfl) (by decide)
          · exact rs_move (wanted_g rfl (yielded_of (d := 62) rfl (h.dep 7 62 rfl rfl))) rfl (h.frame 3 rfl) (by decide)
          · exact rs_calln (wanted_g rfl (yielded_of (d := 62) rfl (h.dep 7 62 rfl rfl))) rfl (enters_of Try.func19 (by kernel_rfl) rfl) (args3 ⟨(h.dep 12 67 rfl rfl), (h.dep 13 68 rfl rfl), (h.dep 14 69 rfl rfl)⟩) (same_line (ref_Text _ _ B (lines B) line W ((((HB.out.below B4.out).up B4.out.size).below (B5.out.trans (h.below.mono B5.out.size))).up (B5.out.trans (h.below.mono B5.out.size)).size) (((RL.out.below B5.out).up B5.out.size).below h.below |>.up h.below.size))) (by decide)
          · (have e66 : A.eval (.tmp 66) = .string (strOfNums (textN B (lines B) line)) := h.dep 11 66 rfl rfl; have e70 : A.eval (.tmp 70) = .string (strOfNums (textN B (lines B) line)) := h.dep 15 70 rfl rfl; refine rs_pure (wanted_g rfl (yielded_of (d := 62) rfl (h.dep 7 62 rfl rfl))) ?_ (by decide); simp only [execOp, e66, e70]; simp [go_sem])
          · exact rs_pick rfl rfl (h.dep 7 62 rfl rfl) (h.dep 16 71 rfl rfl) (by decide)
        case en =>
          intro vals W6 hbw hv _
          have v0 : vals 0 = .slice pl N cl := hv 0 (by omega)
          have v1 : vals 1 = .int .i64 at_ := hv 1 (by omega)
          have v2 : vals 2 = .int .i64 (lineN (lines B) at_) := hv 2 (by omega)
          have v3 : vals 3 = .slice pl N cl := hv 3 (by omega)
          have v4 : vals 4 = .int .i64 at_ := hv 4 (by omega)
          have v5 : vals 5 = .int .i64 (lineN (lines B) at_) := hv 5 (by omega)
          have v6 : vals 6 = .bool false := hv 6 (by omega)
          have v7 : vals 7 = .bool false := hv 7 (by omega)
          have v8 : vals 8 = .slice (some ⟨gx, 0, none⟩) B.length cx := hv 8 (by omega)
          have v9 : vals 9 = .slice pl N cl := hv 9 (by omega)
          have v10 : vals 10 = .int .i64 line := hv 10 (by omega)
          have v11 : vals 11 = .string (strOfNums (textN B (lines B) line)) := hv 11 (by omega)
          have v12 : vals 12 = .slice p B.length cap := hv 12 (by omega)
          have v13 : vals 13 = .slice pl N cl := hv 13 (by omega)
          have v14 : vals 14 = .int .i64 line := hv 14 (by omega)
          have v15 : vals 15 = .string (strOfNums (textN B (lines B) line)) := hv 15 (by omega)
          have v16 : vals 16 = .bool false := hv 16 (by omega)
          have v17 : vals 17 = .bool false := hv 17 (by omega)
          simp only [List.take_succ_cons, List.take_zero, List.drop_succ_cons, List.drop_zero, List.drop_nil, List.take_nil, fillAll, Nat.zero_add, Nat.reduceAdd]
          rw [v0, v1, v2, v3, v4, v5, v6, v7, v8, v9, v10, v11, v12, v13, v14, v15, v16, v17]
          clear hv v0 v1 v2 v3 v4 v5 v6 v7 v8 v9 v10 v11 v12 v13 v14 v15 v16 v17
          simp only [put_lit, List.setIfInBounds_toArray, List.set_cons_succ, List.set_cons_zero]
          have B6 := Lib.hid (B5.out.trans (hbw.mono B5.out.size)); clear hbw
          have hrw : RowsT w2.heap.size (.slice pl N cl) (.slice pm N cm) N W6 := by obtain ⟨X, hf⟩ := RW.out; exact ⟨X, hf.below B6.out⟩
          have hs6 : w2.heap.size ≤ W6.heap.size := Nat.le_trans hb2s B6.out.size
          have HRW := Lib.hid hrw; clear hrw
          have T6 := Lib.hid (B24.out.trans (B6.out.mono hb2s))
          have KB : Hid (∀ W, RelT w2.heap.size (.slice pl N cl) (.slice pm N cm) N W6 W → Below w2.heap.size w2 W) := fun W hr => T6.out.trans (hr.below HRW.out hs6)
          have KA : Hid (∀ W, RelT w2.heap.size (.slice pl N cl) (.slice pm N cm) N W6 W → Below w.heap.size w W) := fun W hr => B2.out.trans ((KB.out W hr).mono B2.out.size)
          go_upto_region 9 with fail
          have hrefl : ∀ W, (RelT w2.heap.size (.slice pl N cl) (.slice pm N cm) N) W W := RelT.refl
          refine wp_region_seqR (RelT w2.heap.size (.slice pl N cl) (.slice pm N cm) N) RelT.refl RelT.trans 23 [fun v _ => v = .slice (some ⟨gx, 0, none⟩) B.length cx, fun v _ => v = .slice p B.length cap, fun v _ => v = .bool true, fun v _ => v = .bool true, fun v _ => v = .slice (some ⟨gy, 0, none⟩) S.length cy, fun v _ => v = .slice p2 S.length cap2, fun v _ => v = .bool true, fun v _ => v = .bool true, fun v _ => v = .bool true, fun v _ => v = .slice pl N cl, fun v _ => v = .slice pm N cm, TwoW (.slice pl N cl) (.slice pm N cm), fun v _ => v = .bool true, fun v _ => v = .bool true, fun v _ => v = .bool true, fun v _ => v = .slice (some ⟨gx, 0, none⟩) B.length cx, fun v _ => v = .slice p B.length cap, fun v _ => v = .bool true, fun v _ => v = .bool true, fun v _ => v = .bool true, fun v _ => v = .bool true, fun v _ => v = .bool true, fun v _ => v = .bool true] ⟨stableR_eq _, stableR_eq _, stableR_eq _, stableR_eq _, stableR_eq _, stableR_eq _, stableR_eq _, stableR_eq _, stableR_eq _, stableR_eq _, stableR_eq _, stable_twoW, stableR_eq _, stableR_eq _, stableR_eq _, stableR_eq _, stableR_eq _, stableR_eq _, stableR_eq _, stableR_eq _, stableR_eq _, stableR_eq _, stableR_eq _, trivial⟩ (by kernel_rfl) (by kernel_rfl) ?ob ?en
          case ob =>
            refine ⟨?_, ?_, ?_, ?_, ?_, ?_, ?_, ?_, ?_, ?_, ?_, ?_, ?_, ?_, ?_, ?_, ?_, ?_, ?_, ?_, ?_, ?_, ?_, trivial⟩ <;> intro A W h
            · exact rq_move hrefl rfl rfl (h.frame 9 rfl)
            · exact rq_move hrefl rfl rfl (h.frame 0 rfl)
            · exact rq_calln rfl rfl (enters_of Try.func20 (by kernel_rfl) rfl) (args2 ⟨(h.dep 0 73 rfl rfl), (h.dep 1 74 rfl rfl)⟩) (RelT.call (kit_KeptBytes _ _ B w.heap.size W (by omega) (LX2.out.below (KB.out W h.rel)) ((HB.out.below (KA.out W h.rel)).up (KA.out W h.rel).size)))
            · exact rq_move hrefl rfl rfl (h.dep 2 75 rfl rfl)
            · exact rq_move hrefl (wanted_g rfl (yielded_of (d := 76) rfl (h.dep 3 76 rfl rfl))) rfl (h.frame 10 rfl)
            · exact rq_move hrefl (wanted_g rfl (yielded_of (d := 76) rfl (h.dep 3 76 rfl rfl))) rfl (h.frame 1 rfl)
            · exact rq_calln (wanted_g rfl (yielded_of (d := 76) rfl (h.dep 3 76 rfl rfl))) rfl (enters_of Try.func21 (by kernel_rfl) rfl) (args2 ⟨(h.dep 4 77 rfl rfl), (h.dep 5 78 rfl rfl)⟩) (RelT.call (kit_KeptInts _ _ S w1.heap.size W (by omega) (LY.out.below (KB.out W h.rel)) ((HS.out.below (KA.out W h.rel)).up (KA.out W h.rel).size)))
            · exact rq_pick hrefl rfl rfl (h.dep 3 76 rfl rfl) (h.dep 6 79 rfl rfl)
            · exact rq_move hrefl rfl rfl (h.dep 7 80 rfl rfl)
            · exact rq_move hrefl (wanted_g rfl (yielded_of (d := 81) rfl (h.dep 8 81 rfl rfl))) rfl (h.frame 11 rfl)
            · exact rq_move hrefl (wanted_g rfl (yielded_of (d := 81) rfl (h.dep 8 81 rfl rfl))) rfl (h.frame 12 rfl)
            · exact rq_two (wanted_g rfl (yielded_of (d := 81) rfl (h.dep 8 81 rfl rfl))) rfl (h.dep 9 82 rfl rfl) (h.dep 10 83 rfl rfl) (h.rel.2 HRW.out)
            · exact rq_calln (wanted_g rfl (yielded_of (d := 81) rfl (h.dep 8 81 rfl rfl))) rfl (enters_of Try.func22 (by kernel_rfl) rfl) (args1 rfl) (call_two (by omega) (h.dep 11 84 rfl rfl) (h.rel.2 HRW.out) (KB.out W h.rel).size)
            · exact rq_pick hrefl rfl rfl (h.dep 8 81 rfl rfl) (h.dep 12 85 rfl rfl)
            · exact rq_move hrefl rfl rfl (h.dep 13 86 rfl rfl)
            · exact rq_move hrefl (wanted_g rfl (yielded_of (d := 87) rfl (h.dep 14 87 rfl rfl))) rfl (h.frame 9 rfl)
            · exact rq_move hrefl (wanted_g rfl (yielded_of (d := 87) rfl (h.dep 14 87 rfl rfl))) rfl (h.frame 0 rfl)
            · exact rq_calln (wanted_g rfl (yielded_of (d := 87) rfl (h.dep 14 87 rfl rfl))) rfl (enters_of Try.func20 (by kernel_rfl) rfl) (args2 ⟨(h.dep 15 88 rfl rfl), (h.dep 16 89 rfl rfl)⟩) (RelT.call (kit_KeptBytes _ _ B w.heap.size W (by omega) (LX2.out.below (KB.out W h.rel)) ((HB.out.below (KA.out W h.rel)).up (KA.out W h.rel).size)))
            · exact rq_pick hrefl rfl rfl (h.dep 14 87 rfl rfl) (h.dep 17 90 rfl rfl)
            · exact rq_move hrefl rfl rfl (h.dep 18 91 rfl rfl)
            · exact rq_calln (wanted_g rfl (yielded_of (d := 92) rfl (h.dep 19 92 rfl rfl))) rfl (enters_of Try.func10 (by kernel_rfl) rfl) (args0) (RelT.call (law05_awake W))
            · exact rq_pick hrefl rfl rfl (h.dep 19 92 rfl rfl) (h.dep 20 93 rfl rfl)
            · exact rq_assign hrefl rfl rfl (h.dep 21 94 rfl rfl)
          case en =>
            intro vals W hbw hv
            have v0 : vals 0 = .slice (some ⟨gx, 0, none⟩) B.length cx := hv 0 (by omega)
            have v1 : vals 1 = .slice p B.length cap := hv 1 (by omega)
            have v2 : vals 2 = .bool true := hv 2 (by omega)
            have v3 : vals 3 = .bool true := hv 3 (by omega)
            have v4 : vals 4 = .slice (some ⟨gy, 0, none⟩) S.length cy := hv 4 (by omega)
            have v5 : vals 5 = .slice p2 S.length cap2 := hv 5 (by omega)
            have v6 : vals 6 = .bool true := hv 6 (by omega)
            have v7 : vals 7 = .bool true := hv 7 (by omega)
            have v8 : vals 8 = .bool true := hv 8 (by omega)
            have v9 : vals 9 = .slice pl N cl := hv 9 (by omega)
            have v10 : vals 10 = .slice pm N cm := hv 10 (by omega)
            have v12 : vals 12 = .bool true := hv 12 (by omega)
            have v13 : vals 13 = .bool true := hv 13 (by omega)
            have v14 : vals 14 = .bool true := hv 14 (by omega)
            have v15 : vals 15 = .slice (some ⟨gx, 0, none⟩) B.length cx := hv 15 (by omega)
            have v16 : vals 16 = .slice p B.length cap := hv 16 (by omega)
            have v17 : vals 17 = .bool true := hv 17 (by omega)
            have v18 : vals 18 = .bool true := hv 18 (by omega)
            have v19 : vals 19 = .bool true := hv 19 (by omega)
            have v20 : vals 20 = .bool true := hv 20 (by omega)
            have v21 : vals 21 = .bool true := hv 21 (by omega)
            have v22 : vals 22 = .bool true := hv 22 (by omega)
            have x11 := hv 11 (by omega); simp only [lookS] at x11
            simp only [List.take_succ_cons, List.take_zero, List.drop_succ_cons, List.drop_zero, List.drop_nil, List.take_nil, fillAll, Nat.zero_add, Nat.reduceAdd]
            rw [v0, v1, v2, v3, v4, v5, v6, v7, v8, v9, v10, v12, v13, v14, v15, v16, v17, v18, v19, v20, v21, v22]
            clear hv v0 v1 v2 v3 v4 v5 v6 v7 v8 v9 v10 v12 v13 v14 v15 v16 v17 v18 v19 v20 v21 v22
            simp only [put_lit, List.setIfInBounds_toArray, List.set_cons_succ, List.set_cons_zero]
            clear x11
            generalize vals 11 = x11v
            have R := Lib.hid hbw; clear hbw
            go_wp2
            go_ret
            exact ⟨rfl, KA.out _ R.out⟩

theorem walk_TextTells (v : Value) (B : List Int) (v2 : Value) (S : List Int) (at_ line : Int) (w : World) (hB : Rd w w.heap.size v (u8s B)) (_ : ∀ x ∈ B, (Lit.int .u8 x).wf = true) (_ : B.length ≤ 140737488351232)
    (hS : Rd w w.heap.size v2 (i64s S)) (_ : ∀ x ∈ S, (Lit.int .i64 x).wf = true) (_ : S.length ≤ 140737488351232) (_ : (Lit.int .i64 at_).wf = true) (_ : (Lit.int .i64 line).wf = true) :
    Calls Try.prog 3 #[v, v2, .int .i64 at_, .int .i64 line] w fun e w' => e = .returned (.bool true) ∧ Below w.heap.size w w' := law_TextTells v v2 B S at_ line w hB hS

end Go.Proofs.Ytkkilngihkdnaaa
