/-
  Laws of walks, and walks: LexSame LexEsc LexItem LexNum LexBrace LexName LexClass LexClass2 LexSlash LexFlags.
-/
import Derived.Test.YtllmgmfihijejaaGreatDoorLx2
import Derived.Test.YtllmgmfihijejaaGreatDoorLx7
import Derived.Test.YtllmgmfihijejaaGreatDoorLx3
import Derived.Shelf.Strings.SlTrimAscii
import Derived.Laws.IdiomStrings
import Derived.Test.YtllmgmfihijejaaGreatDoorLx1
import Derived.Maps.RangeWalk
import Derived.WalkMore
import Derived.Test.YtllmgmfihijejaaGreatDoorLx4
set_option linter.unusedVariables false
set_option linter.unusedSimpArgs false
/-
  The walk of mudlarklaw09: same.
-/
namespace Go.Proofs.YtllmgmfihijejaaGreatDoor
open Go.RowKit Go.Shelf Go.MapKept
attribute [local go_sem] Oper.semAt_some
set_option linter.unusedSimpArgs false

def flagsC (f : Bool × Bool × Bool) : Array Value := #[.bool f.1, .bool f.2.1, .bool f.2.2]
abbrev flagsV (f : Bool × Bool × Bool) : Value := .agg (flagsC f)
theorem row_Flags : rowB Tryz.prog 40 3 = true := by kernel_rfl
theorem wordSet (d : WordD) (j : Nat) (hj : j < 4) : (wordC d)[2 + j]? = (setC d.set)[j]? := by
  match j, hj with | 0, _ => rfl | 1, _ => rfl | 2, _ => rfl | 3, _ => rfl
theorem wordFl11 (d : WordD) (j : Nat) (hj : j < 3) : (wordC d)[11 + j]? = (flagsC d.on)[j]? := by
  match j, hj with | 0, _ => rfl | 1, _ => rfl | 2, _ => rfl
theorem wordFl14 (d : WordD) (j : Nat) (hj : j < 3) : (wordC d)[14 + j]? = (flagsC d.off)[j]? := by
  match j, hj with | 0, _ => rfl | 1, _ => rfl | 2, _ => rfl
theorem wordOne (d : WordD) : (wordC d).all (·.oneCell') = true := by rw [← Array.all_toList]; rfl
section
variable {ops : Array Oper} {o : Oper} {a : Act} {w : World} {x y : Operand} {t : TypeId}
theorem neq_run_K {v : Int} (ho : o.op = Op.binOp .neq 3 x y t) (hx : a.eval x = .int .i64 v) (hy : a.eval y = .int .i64 v) : (execOp a.eval o).run Tryz.prog w = .ok (.value (.bool false)) w := by
  simp only [execOp, ho, hx, hy]; simp [go_sem]
theorem neq_run_I {v : Int} (ho : o.op = Op.binOp .neq 3 x y t) (hx : a.eval x = .int .i64 v) (hy : a.eval y = .int .i64 v) : (execOp a.eval o).run Tryz.prog w = .ok (.value (.bool false)) w := neq_run_K ho hx hy
theorem neq_run_P {v : Int} (ho : o.op = Op.binOp .neq 38 x y t) (hx : a.eval x = .int .i64 v) (hy : a.eval y = .int .i64 v) : (execOp a.eval o).run Tryz.prog w = .ok (.value (.bool false)) w := by
  simp only [execOp, ho, hx, hy]; simp [go_sem]
theorem neq_run_B {v : Bool} (ho : o.op = Op.binOp .neq 4 x y t) (hx : a.eval x = .bool v) (hy : a.eval y = .bool v) : (execOp a.eval o).run Tryz.prog w = .ok (.value (.bool false)) w := by
  simp only [execOp, ho, hx, hy]; cases v <;> simp [go_sem]
theorem neq_run_S {s : Nat → Nat} (ho : o.op = Op.binOp .neq 37 x y t) (hx : a.eval x = setV s) (hy : a.eval y = setV s) : (execOp a.eval o).run Tryz.prog w = .ok (.value (.bool false)) w := by
  have he := run_eqSet s s w
  rw [eqS_refl] at he
  simp only [execOp, ho, hx, hy]
  unfold setV
  simp [go_sem, he]
theorem neq_run_F {f : Bool × Bool × Bool} (ho : o.op = Op.binOp .neq 40 x y t) (hx : a.eval x = flagsV f) (hy : a.eval y = flagsV f) : (execOp a.eval o).run Tryz.prog w = .ok (.value (.bool false)) w := by
  obtain ⟨f1, f2, f3⟩ := f
  simp only [execOp, ho, hx, hy]; cases f1 <;> cases f2 <;> cases f3 <;> kernel_rfl
theorem rq_idx17 {P : Program} {R : World → World → Prop} {T e : TypeId} {sz g off n c i q : Nat} {k : IntKind} (hrefl : ∀ w, R w w) (hu : P.underlying T = some (.slice e)) (hs : ∀ w, (sizeOf e).run P w = .ok sz w) (hg : Region.wanted o (yielded ops a.tmps) = true)
    (hop : o.op = Op.indexAddr T x y) (hx : a.eval x = .slice (some ⟨g, off, none⟩) n c) (hy : a.eval y = .int k (i : Int)) (hi : i < n) (hq : off + i * sz = q) : QStep P ops R o a w (fun v' _ => v' = .pointer (some ⟨g, q, none⟩)) := by
  subst hq
  refine rq_pure hrefl hg ?_
  simp only [execOp, hop, hx, hy]
  simp [Instr.indexAt, asIntOf, go_sem, run_underlying hu, hs]
  intro hc
  omega
end

set_option maxRecDepth 100000 in
set_option maxHeartbeats 16000000 in
theorem law_same (va vb : Value) (ws : List WordD) (w : World) (hA : RdW w w.heap.size va ws) (hB : RdW w w.heap.size vb ws) : Calls Tryz.prog 7 #[va, vb] w fun e w' => e = .returned (.bool true) ∧ Below w.heap.size w w' := by
  have H := Hold.start w
  obtain ⟨qa, ca, rfl, hl, hA⟩ := hA
  obtain ⟨qb, cb, rfl, _, hB⟩ := hB
  go_enter Tryz.func7, Tryz.ntmps7
  go_wp2_with (first | fail)
  go_loopw [5] (fun k wr => ∃ i : Nat, k = .int .i64 i ∧ i ≤ ws.length ∧ Hold w wr []) (fun k _ => ws.length + 1 - (intOf k).toNat)
  case atStart => exact ⟨0, rfl, by omega, H⟩
  case round =>
    clear H
    obtain ⟨i, rfl, hi, H⟩ := hrel
    by_cases hlt : i < ws.length
    · have di : decide ((i : Int) < (ws.length : Int)) = true := by simp; omega
      obtain ⟨d, hd⟩ : ∃ d, ws[i]? = some d := ⟨_, List.getElem?_eq_getElem hlt⟩
      obtain ⟨ga, csa, Ta, rfl, hga, hha, hka⟩ := hA i d hd
      obtain ⟨gb, csb, Tb, rfl, hgb, hhb, hkb⟩ := hB i d hd
      clear hA hB
      go_wp2_with fail
      refine wp_region_specM (RelC (wordC d) wr.heap.size) RelC.refl RelC.trans RelC.drew 12 [fun v _ => v = .slice (some ⟨ga, 0, none⟩) ws.length ca, fun v _ => v = .int .i64 (i : Int), fun v _ => v = .pointer (some ⟨ga, i * 17, none⟩), fun v _ => v = wordV d,
        fun v _ => v = .slice (some ⟨gb, 0, none⟩) ws.length cb, fun v _ => v = .int .i64 (i : Int), fun v _ => v = .pointer (some ⟨gb, i * 17, none⟩), fun v _ => v = wordV d, InBlk (wordC d) wr.heap.size 42, InBlk (wordC d) wr.heap.size 53,
        IsBlk (wordC d) wr.heap.size 42, IsBlk (wordC d) wr.heap.size 53]
        ⟨stableR_eq _, stableR_eq _, stableR_eq _, stableR_eq _, stableR_eq _, stableR_eq _, stableR_eq _, stableR_eq _, stable_inBlk _, stable_inBlk _, stable_isBlk _, stable_isBlk _, trivial⟩ (by kernel_rfl) (by kernel_rfl) (by kernel_rfl) ?ob ?en
      case ob =>
        refine ⟨?_, ?_, ?_, ?_, ?_, ?_, ?_, ?_, ?_, ?_, ?_, ?_, trivial⟩ <;> intro A W h
        · exact rm_of rfl (rq_move RelC.refl rfl rfl (h.frame 0 rfl))
        · exact rm_of rfl (rq_move RelC.refl rfl rfl (h.frame 5 rfl))
        · exact rm_of rfl (rq_idx17 RelC.refl Tryz.underlying25 (fun W => by kernel_rfl) rfl rfl (h.dep 0 19 rfl rfl) (h.dep 1 20 rfl rfl) hlt (Nat.zero_add _))
        · exact rm_of rfl (rq_pure RelC.refl rfl (loadW_run rfl (h.dep 2 21 rfl rfl) ((h.rel.below.block ga (Nat.lt_of_lt_of_le hga H.below.size)).trans ((H.below.block ga hga).trans hha)) row_LWord rfl hka))
        · exact rm_of rfl (rq_move RelC.refl rfl rfl (h.frame 1 rfl))
        · exact rm_of rfl (rq_move RelC.refl rfl rfl (h.frame 5 rfl))
        · exact rm_of rfl (rq_idx17 RelC.refl Tryz.underlying29 (fun W => by kernel_rfl) rfl rfl (h.dep 4 23 rfl rfl) (h.dep 5 24 rfl rfl) hlt (Nat.zero_add _))
        · exact rm_of rfl (rq_pure RelC.refl rfl (loadW_run rfl (h.dep 6 25 rfl rfl) ((h.rel.below.block gb (Nat.lt_of_lt_of_le hgb H.below.size)).trans ((H.below.block gb hgb).trans hhb)) row_Word rfl hkb))
        · exact rm_of rfl (rc_alloc rfl rfl (by kernel_rfl) (by rw [zLWord]; rfl) h.rel.size)
        · exact rm_of rfl (rc_alloc rfl rfl (by kernel_rfl) (by rw [zWord]; rfl) h.rel.size)
        · exact rc_store rfl rfl rfl (h.dep 8 6 rfl rfl) (h.dep 3 22 rfl rfl) (row_size (n := 17) row_LWord) (wordOne d)
        · exact rc_store rfl rfl rfl (h.dep 9 7 rfl rfl) (h.dep 7 26 rfl rfl) (row_size (n := 17) row_Word) (wordOne d)
      case en =>
        intro vals W1 hrel hv hlk
        have v0 : vals 0 = .slice (some ⟨ga, 0, none⟩) ws.length ca := hv 0 (by omega)
        have v1 : vals 1 = .int .i64 (i : Int) := hv 1 (by omega)
        have v2 : vals 2 = .pointer (some ⟨ga, i * 17, none⟩) := hv 2 (by omega)
        have v3 : vals 3 = wordV d := hv 3 (by omega)
        have v4 : vals 4 = .slice (some ⟨gb, 0, none⟩) ws.length cb := hv 4 (by omega)
        have v5 : vals 5 = .int .i64 (i : Int) := hv 5 (by omega)
        have v6 : vals 6 = .pointer (some ⟨gb, i * 17, none⟩) := hv 6 (by omega)
        have v7 : vals 7 = wordV d := hv 7 (by omega)
        have l10 : vals 10 = vals 8 := hlk 10 _ _ 8 _ rfl rfl rfl rfl rfl rfl rfl
        have l11 : vals 11 = vals 9 := hlk 11 _ _ 9 _ rfl rfl rfl rfl rfl rfl rfl
        obtain ⟨b6, e6, n6, x6⟩ := hv 10 (by omega)
        obtain ⟨b7, e7, n7, x7⟩ := hv 11 (by omega)
        rw [l10] at e6
        rw [l11] at e7
        have hne : b6 ≠ b7 := fun e => by subst e; rw [x6] at x7; simp at x7
        replace H := H.gain hrel.below [.blk b6 (wordC d) 42, .blk b7 (wordC d) 53] (by
          intro r hr
          simp only [List.mem_cons, List.not_mem_nil, or_false] at hr
          rcases hr with rfl | rfl
          · exact ⟨⟨.inl (Nat.le_trans H.keep.size n6), x6⟩, fun b e => by cases e; exact n6⟩
          · exact ⟨⟨.inl (Nat.le_trans H.keep.size n7), x7⟩, fun b e => by cases e; exact n7⟩) (by
          refine List.pairwise_cons.2 ⟨fun r hr => ?_, List.pairwise_singleton _ _⟩
          simp only [List.mem_cons, List.not_mem_nil, or_false] at hr
          subst hr
          intro b h1 h2; cases h1; cases h2; exact hne rfl)
        simp only [List.nil_append] at H
        simp only [List.append, List.take_succ_cons, List.take_zero, List.take_nil, fillAll, Nat.zero_add, Nat.reduceAdd]
        rw [v0, v1, v2, v3, v4, v5, v6, v7, e6, e7]
        clear hv hlk v0 v1 v2 v3 v4 v5 v6 v7 l10 l11 e6 e7
        try simp only [put_lit, put_no, List.setIfInBounds_toArray, List.set_cons_succ, List.set_cons_zero]
        simp only [List.drop_succ_cons, List.drop_zero, List.drop_nil]
        go_upto_region 7 with fail
        refine wp_region_seq 68 [fun v _ => v = .pointer (some ⟨b6, 0, none⟩), fun v _ => v = .int .i64 (d.kind : Int), fun v _ => v = .pointer (some ⟨b7, 0, none⟩), fun v _ => v = .int .i64 (d.kind : Int), fun v _ => v = .bool false, fun v _ => v = .bool false, fun v _ => v = .pointer (some ⟨b6, 1, none⟩), fun v _ => v = .int .i64 (d.place : Int), fun v _ => v = .pointer (some ⟨b7, 1, none⟩), fun v _ => v = .int .i64 (d.place : Int), fun v _ => v = .bool false, fun v _ => v = .bool false, fun v _ => v = .bool false, fun v _ => v = .pointer (some ⟨b6, 2, none⟩), fun v _ => v = setV d.set, fun v _ => v = .pointer (some ⟨b7, 2, none⟩), fun v _ => v = setV d.set, fun v _ => v = .bool false, fun v _ => v = .bool false, fun v _ => v = .bool false, fun v _ => v = .pointer (some ⟨b6, 6, none⟩), fun v _ => v = .bool d.neg, fun v _ => v = .pointer (some ⟨b7, 6, none⟩), fun v _ => v = .bool d.neg, fun v _ => v = .bool false, fun v _ => v = .bool false, fun v _ => v = .bool false, fun v _ => v = .pointer (some ⟨b6, 7, none⟩), fun v _ => v = .int .i64 (d.spot : Int), fun v _ => v = .pointer (some ⟨b7, 7, none⟩), fun v _ => v = .int .i64 (d.spot : Int), fun v _ => v = .bool false, fun v _ => v = .bool false, fun v _ => v = .bool false, fun v _ => v = .pointer (some ⟨b6, 8, none⟩), fun v _ => v = .int .i64 d.lo, fun v _ => v = .pointer (some ⟨b7, 8, none⟩), fun v _ => v = .int .i64 d.lo, fun v _ => v = .bool false, fun v _ => v = .bool false, fun v _ => v = .bool false, fun v _ => v = .pointer (some ⟨b6, 9, none⟩), fun v _ => v = .int .i64 d.hi, fun v _ => v = .pointer (some ⟨b7, 9, none⟩), fun v _ => v = .int .i64 d.hi, fun v _ => v = .bool false, fun v _ => v = .bool false, fun v _ => v = .bool false, fun v _ => v = .pointer (some ⟨b6, 10, none⟩), fun v _ => v = .bool d.lazy, fun v _ => v = .pointer (some ⟨b7, 10, none⟩), fun v _ => v = .bool d.lazy, fun v _ => v = .bool false, fun v _ => v = .bool false, fun v _ => v = .bool false, fun v _ => v = .pointer (some ⟨b6, 11, none⟩), fun v _ => v = flagsV d.on, fun v _ => v = .pointer (some ⟨b7, 11, none⟩), fun v _ => v = flagsV d.on, fun v _ => v = .bool false, fun v _ => v = .bool false, fun v _ => v = .bool false, fun v _ => v = .pointer (some ⟨b6, 14, none⟩), fun v _ => v = flagsV d.off, fun v _ => v = .pointer (some ⟨b7, 14, none⟩), fun v _ => v = flagsV d.off, fun v _ => v = .bool false, fun v _ => v = .bool false] (fun _ => false) (by kernel_rfl) (by kernel_rfl) ⟨stable_eq _, stable_eq _, stable_eq _, stable_eq _, stable_eq _, stable_eq _, stable_eq _, stable_eq _, stable_eq _, stable_eq _, stable_eq _, stable_eq _, stable_eq _, stable_eq _, stable_eq _, stable_eq _, stable_eq _, stable_eq _, stable_eq _, stable_eq _, stable_eq _, stable_eq _, stable_eq _, stable_eq _, stable_eq _, stable_eq _, stable_eq _, stable_eq _, stable_eq _, stable_eq _, stable_eq _, stable_eq _, stable_eq _, stable_eq _, stable_eq _, stable_eq _, stable_eq _, stable_eq _, stable_eq _, stable_eq _, stable_eq _, stable_eq _, stable_eq _, stable_eq _, stable_eq _, stable_eq _, stable_eq _, stable_eq _, stable_eq _, stable_eq _, stable_eq _, stable_eq _, stable_eq _, stable_eq _, stable_eq _, stable_eq _, stable_eq _, stable_eq _, stable_eq _, stable_eq _, stable_eq _, stable_eq _, stable_eq _, stable_eq _, stable_eq _, stable_eq _, stable_eq _, stable_eq _, trivial⟩ (fun _ _ h => by cases h) ?ob ?en
        case ob =>
          refine ⟨?_, ?_, ?_, ?_, ?_, ?_, ?_, ?_, ?_, ?_, ?_, ?_, ?_, ?_, ?_, ?_, ?_, ?_, ?_, ?_, ?_, ?_, ?_, ?_, ?_, ?_, ?_, ?_, ?_, ?_, ?_, ?_, ?_, ?_, ?_, ?_, ?_, ?_, ?_, ?_, ?_, ?_, ?_, ?_, ?_, ?_, ?_, ?_, ?_, ?_, ?_, ?_, ?_, ?_, ?_, ?_, ?_, ?_, ?_, ?_, ?_, ?_, ?_, ?_, ?_, ?_, ?_, ?_, trivial⟩ <;> intro A W h
          · (have e6 : A.eval (.tmp 6) = .pointer (some ⟨b6, 0, none⟩) := h.frame 6 rfl; refine rs_pure rfl ?_ (by decide); simp only [execOp, e6]; (simp [go_sem] <;> first | done | omega | (rw [IntKind.wrap_i64]; omega) | (rw [IntKind.wrap_u8]; omega) | (rw [IntKind.wrap_u64]; omega)))
          · exact rs_pure rfl (load_run rfl one_kind (h.dep 0 27 rfl rfl) (((H.call h.below).cell .zero 0).trans (wg0 d))) (by decide)
          · (have e7 : A.eval (.tmp 7) = .pointer (some ⟨b7, 0, none⟩) := h.frame 7 rfl; refine rs_pure rfl ?_ (by decide); simp only [execOp, e7]; (simp [go_sem] <;> first | done | omega | (rw [IntKind.wrap_i64]; omega) | (rw [IntKind.wrap_u8]; omega) | (rw [IntKind.wrap_u64]; omega)))
          · exact rs_pure rfl (load_run rfl one_int (h.dep 2 29 rfl rfl) (((H.call h.below).cell (.succ .zero) 0).trans (wg0 d))) (by decide)
          · exact rs_pure rfl (neq_run_K rfl (h.dep 1 28 rfl rfl) (h.dep 3 30 rfl rfl)) (by decide)
          · exact rs_move rfl rfl (h.dep 4 31 rfl rfl) (by decide)
          · (have e6 : A.eval (.tmp 6) = .pointer (some ⟨b6, 0, none⟩) := h.frame 6 rfl; refine rs_pure (wanted_g rfl (yielded_of (d := 32) rfl (h.dep 5 32 rfl rfl))) ?_ (by decide); simp only [execOp, e6]; (simp [go_sem] <;> first | done | omega | (rw [IntKind.wrap_i64]; omega) | (rw [IntKind.wrap_u8]; omega) | (rw [IntKind.wrap_u64]; omega)))
          · exact rs_pure (wanted_g rfl (yielded_of (d := 32) rfl (h.dep 5 32 rfl rfl))) (load_run rfl one_int (h.dep 6 33 rfl rfl) (((H.call h.below).cell .zero 1).trans (wg1 d))) (by decide)
          · (have e7 : A.eval (.tmp 7) = .pointer (some ⟨b7, 0, none⟩) := h.frame 7 rfl; refine rs_pure (wanted_g rfl (yielded_of (d := 32) rfl (h.dep 5 32 rfl rfl))) ?_ (by decide); simp only [execOp, e7]; (simp [go_sem] <;> first | done | omega | (rw [IntKind.wrap_i64]; omega) | (rw [IntKind.wrap_u8]; omega) | (rw [IntKind.wrap_u64]; omega)))
          · exact rs_pure (wanted_g rfl (yielded_of (d := 32) rfl (h.dep 5 32 rfl rfl))) (load_run rfl one_int (h.dep 8 35 rfl rfl) (((H.call h.below).cell (.succ .zero) 1).trans (wg1 d))) (by decide)
          · exact rs_pure (wanted_g rfl (yielded_of (d := 32) rfl (h.dep 5 32 rfl rfl))) (neq_run_I rfl (h.dep 7 34 rfl rfl) (h.dep 9 36 rfl rfl)) (by decide)
          · exact rs_pick rfl rfl (h.dep 5 32 rfl rfl) (h.dep 10 37 rfl rfl) (by decide)
          · exact rs_move rfl rfl (h.dep 11 38 rfl rfl) (by decide)
          · (have e6 : A.eval (.tmp 6) = .pointer (some ⟨b6, 0, none⟩) := h.frame 6 rfl; refine rs_pure (wanted_g rfl (yielded_of (d := 39) rfl (h.dep 12 39 rfl rfl))) ?_ (by decide); simp only [execOp, e6]; (simp [go_sem] <;> first | done | omega | (rw [IntKind.wrap_i64]; omega) | (rw [IntKind.wrap_u8]; omega) | (rw [IntKind.wrap_u64]; omega)))
          · exact rs_pure (wanted_g rfl (yielded_of (d := 39) rfl (h.dep 12 39 rfl rfl))) (loadW_run (vs := setC d.set) rfl (h.dep 13 40 rfl rfl) ((H.call h.below).blk .zero).2 row_Set rfl (fun j hj => wordSet d j hj)) (by decide)
          · (have e7 : A.eval (.tmp 7) = .pointer (some ⟨b7, 0, none⟩) := h.frame 7 rfl; refine rs_pure (wanted_g rfl (yielded_of (d := 39) rfl (h.dep 12 39 rfl rfl))) ?_ (by decide); simp only [execOp, e7]; (simp [go_sem] <;> first | done | omega | (rw [IntKind.wrap_i64]; omega) | (rw [IntKind.wrap_u8]; omega) | (rw [IntKind.wrap_u64]; omega)))
          · exact rs_pure (wanted_g rfl (yielded_of (d := 39) rfl (h.dep 12 39 rfl rfl))) (loadW_run (vs := setC d.set) rfl (h.dep 15 42 rfl rfl) ((H.call h.below).blk (.succ .zero)).2 row_Set rfl (fun j hj => wordSet d j hj)) (by decide)
          · exact rs_pure (wanted_g rfl (yielded_of (d := 39) rfl (h.dep 12 39 rfl rfl))) (neq_run_S rfl (h.dep 14 41 rfl rfl) (h.dep 16 43 rfl rfl)) (by decide)
          · exact rs_pick rfl rfl (h.dep 12 39 rfl rfl) (h.dep 17 44 rfl rfl) (by decide)
          · exact rs_move rfl rfl (h.dep 18 45 rfl rfl) (by decide)
          · (have e6 : A.eval (.tmp 6) = .pointer (some ⟨b6, 0, none⟩) := h.frame 6 rfl; refine rs_pure (wanted_g rfl (yielded_of (d := 46) rfl (h.dep 19 46 rfl rfl))) ?_ (by decide); simp only [execOp, e6]; (simp [go_sem] <;> first | done | omega | (rw [IntKind.wrap_i64]; omega) | (rw [IntKind.wrap_u8]; omega) | (rw [IntKind.wrap_u64]; omega)))
          · exact rs_pure (wanted_g rfl (yielded_of (d := 46) rfl (h.dep 19 46 rfl rfl))) (load_run rfl one_bool (h.dep 20 47 rfl rfl) (((H.call h.below).cell .zero 6).trans (wg6 d))) (by decide)
          · (have e7 : A.eval (.tmp 7) = .pointer (some ⟨b7, 0, none⟩) := h.frame 7 rfl; refine rs_pure (wanted_g rfl (yielded_of (d := 46) rfl (h.dep 19 46 rfl rfl))) ?_ (by decide); simp only [execOp, e7]; (simp [go_sem] <;> first | done | omega | (rw [IntKind.wrap_i64]; omega) | (rw [IntKind.wrap_u8]; omega) | (rw [IntKind.wrap_u64]; omega)))
          · exact rs_pure (wanted_g rfl (yielded_of (d := 46) rfl (h.dep 19 46 rfl rfl))) (load_run rfl one_bool (h.dep 22 49 rfl rfl) (((H.call h.below).cell (.succ .zero) 6).trans (wg6 d))) (by decide)
          · exact rs_pure (wanted_g rfl (yielded_of (d := 46) rfl (h.dep 19 46 rfl rfl))) (neq_run_B rfl (h.dep 21 48 rfl rfl) (h.dep 23 50 rfl rfl)) (by decide)
          · exact rs_pick rfl rfl (h.dep 19 46 rfl rfl) (h.dep 24 51 rfl rfl) (by decide)
          · exact rs_move rfl rfl (h.dep 25 52 rfl rfl) (by decide)
          · (have e6 : A.eval (.tmp 6) = .pointer (some ⟨b6, 0, none⟩) := h.frame 6 rfl; refine rs_pure (wanted_g rfl (yielded_of (d := 53) rfl (h.dep 26 53 rfl rfl))) ?_ (by decide); simp only [execOp, e6]; (simp [go_sem] <;> first | done | omega | (rw [IntKind.wrap_i64]; omega) | (rw [IntKind.wrap_u8]; omega) | (rw [IntKind.wrap_u64]; omega)))
          · exact rs_pure (wanted_g rfl (yielded_of (d := 53) rfl (h.dep 26 53 rfl rfl))) (load_run rfl one_spot (h.dep 27 54 rfl rfl) (((H.call h.below).cell .zero 7).trans (wg7 d))) (by decide)
          · (have e7 : A.eval (.tmp 7) = .pointer (some ⟨b7, 0, none⟩) := h.frame 7 rfl; refine rs_pure (wanted_g rfl (yielded_of (d := 53) rfl (h.dep 26 53 rfl rfl))) ?_ (by decide); simp only [execOp, e7]; (simp [go_sem] <;> first | done | omega | (rw [IntKind.wrap_i64]; omega) | (rw [IntKind.wrap_u8]; omega) | (rw [IntKind.wrap_u64]; omega)))
          · exact rs_pure (wanted_g rfl (yielded_of (d := 53) rfl (h.dep 26 53 rfl rfl))) (load_run rfl one_spot (h.dep 29 56 rfl rfl) (((H.call h.below).cell (.succ .zero) 7).trans (wg7 d))) (by decide)
          · exact rs_pure (wanted_g rfl (yielded_of (d := 53) rfl (h.dep 26 53 rfl rfl))) (neq_run_P rfl (h.dep 28 55 rfl rfl) (h.dep 30 57 rfl rfl)) (by decide)
          · exact rs_pick rfl rfl (h.dep 26 53 rfl rfl) (h.dep 31 58 rfl rfl) (by decide)
          · exact rs_move rfl rfl (h.dep 32 59 rfl rfl) (by decide)
          · (have e6 : A.eval (.tmp 6) = .pointer (some ⟨b6, 0, none⟩) := h.frame 6 rfl; refine rs_pure (wanted_g rfl (yielded_of (d := 60) rfl (h.dep 33 60 rfl rfl))) ?_ (by decide); simp only [execOp, e6]; (simp [go_sem] <;> first | done | omega | (rw [IntKind.wrap_i64]; omega) | (rw [IntKind.wrap_u8]; omega) | (rw [IntKind.wrap_u64]; omega)))
          · exact rs_pure (wanted_g rfl (yielded_of (d := 60) rfl (h.dep 33 60 rfl rfl))) (load_run rfl one_int (h.dep 34 61 rfl rfl) (((H.call h.below).cell .zero 8).trans (wg8 d))) (by decide)
          · (have e7 : A.eval (.tmp 7) = .pointer (some ⟨b7, 0, none⟩) := h.frame 7 rfl; refine rs_pure (wanted_g rfl (yielded_of (d := 60) rfl (h.dep 33 60 rfl rfl))) ?_ (by decide); simp only [execOp, e7]; (simp [go_sem] <;> first | done | omega | (rw [IntKind.wrap_i64]; omega) | (rw [IntKind.wrap_u8]; omega) | (rw [IntKind.wrap_u64]; omega)))
          · exact rs_pure (wanted_g rfl (yielded_of (d := 60) rfl (h.dep 33 60 rfl rfl))) (load_run rfl one_int (h.dep 36 63 rfl rfl) (((H.call h.below).cell (.succ .zero) 8).trans (wg8 d))) (by decide)
          · exact rs_pure (wanted_g rfl (yielded_of (d := 60) rfl (h.dep 33 60 rfl rfl))) (neq_run_I rfl (h.dep 35 62 rfl rfl) (h.dep 37 64 rfl rfl)) (by decide)
          · exact rs_pick rfl rfl (h.dep 33 60 rfl rfl) (h.dep 38 65 rfl rfl) (by decide)
          · exact rs_move rfl rfl (h.dep 39 66 rfl rfl) (by decide)
          · (have e6 : A.eval (.tmp 6) = .pointer (some ⟨b6, 0, none⟩) := h.frame 6 rfl; refine rs_pure (wanted_g rfl (yielded_of (d := 67) rfl (h.dep 40 67 rfl rfl))) ?_ (by decide); simp only [execOp, e6]; (simp [go_sem] <;> first | done | omega | (rw [IntKind.wrap_i64]; omega) | (rw [IntKind.wrap_u8]; omega) | (rw [IntKind.wrap_u64]; omega)))
          · exact rs_pure (wanted_g rfl (yielded_of (d := 67) rfl (h.dep 40 67 rfl rfl))) (load_run rfl one_int (h.dep 41 68 rfl rfl) (((H.call h.below).cell .zero 9).trans (wg9 d))) (by decide)
          · (have e7 : A.eval (.tmp 7) = .pointer (some ⟨b7, 0, none⟩) := h.frame 7 rfl; refine rs_pure (wanted_g rfl (yielded_of (d := 67) rfl (h.dep 40 67 rfl rfl))) ?_ (by decide); simp only [execOp, e7]; (simp [go_sem] <;> first | done | omega | (rw [IntKind.wrap_i64]; omega) | (rw [IntKind.wrap_u8]; omega) | (rw [IntKind.wrap_u64]; omega)))
          · exact rs_pure (wanted_g rfl (yielded_of (d := 67) rfl (h.dep 40 67 rfl rfl))) (load_run rfl one_int (h.dep 43 70 rfl rfl) (((H.call h.below).cell (.succ .zero) 9).trans (wg9 d))) (by decide)
          · exact rs_pure (wanted_g rfl (yielded_of (d := 67) rfl (h.dep 40 67 rfl rfl))) (neq_run_I rfl (h.dep 42 69 rfl rfl) (h.dep 44 71 rfl rfl)) (by decide)
          · exact rs_pick rfl rfl (h.dep 40 67 rfl rfl) (h.dep 45 72 rfl rfl) (by decide)
          · exact rs_move rfl rfl (h.dep 46 73 rfl rfl) (by decide)
          · (have e6 : A.eval (.tmp 6) = .pointer (some ⟨b6, 0, none⟩) := h.frame 6 rfl; refine rs_pure (wanted_g rfl (yielded_of (d := 74) rfl (h.dep 47 74 rfl rfl))) ?_ (by decide); simp only [execOp, e6]; (simp [go_sem] <;> first | done | omega | (rw [IntKind.wrap_i64]; omega) | (rw [IntKind.wrap_u8]; omega) | (rw [IntKind.wrap_u64]; omega)))
          · exact rs_pure (wanted_g rfl (yielded_of (d := 74) rfl (h.dep 47 74 rfl rfl))) (load_run rfl one_bool (h.dep 48 75 rfl rfl) (((H.call h.below).cell .zero 10).trans (wg10 d))) (by decide)
          · (have e7 : A.eval (.tmp 7) = .pointer (some ⟨b7, 0, none⟩) := h.frame 7 rfl; refine rs_pure (wanted_g rfl (yielded_of (d := 74) rfl (h.dep 47 74 rfl rfl))) ?_ (by decide); simp only [execOp, e7]; (simp [go_sem] <;> first | done | omega | (rw [IntKind.wrap_i64]; omega) | (rw [IntKind.wrap_u8]; omega) | (rw [IntKind.wrap_u64]; omega)))
          · exact rs_pure (wanted_g rfl (yielded_of (d := 74) rfl (h.dep 47 74 rfl rfl))) (load_run rfl one_bool (h.dep 50 77 rfl rfl) (((H.call h.below).cell (.succ .zero) 10).trans (wg10 d))) (by decide)
          · exact rs_pure (wanted_g rfl (yielded_of (d := 74) rfl (h.dep 47 74 rfl rfl))) (neq_run_B rfl (h.dep 49 76 rfl rfl) (h.dep 51 78 rfl rfl)) (by decide)
          · exact rs_pick rfl rfl (h.dep 47 74 rfl rfl) (h.dep 52 79 rfl rfl) (by decide)
          · exact rs_move rfl rfl (h.dep 53 80 rfl rfl) (by decide)
          · (have e6 : A.eval (.tmp 6) = .pointer (some ⟨b6, 0, none⟩) := h.frame 6 rfl; refine rs_pure (wanted_g rfl (yielded_of (d := 81) rfl (h.dep 54 81 rfl rfl))) ?_ (by decide); simp only [execOp, e6]; (simp [go_sem] <;> first | done | omega | (rw [IntKind.wrap_i64]; omega) | (rw [IntKind.wrap_u8]; omega) | (rw [IntKind.wrap_u64]; omega)))
          · exact rs_pure (wanted_g rfl (yielded_of (d := 81) rfl (h.dep 54 81 rfl rfl))) (loadW_run (vs := flagsC d.on) rfl (h.dep 55 82 rfl rfl) ((H.call h.below).blk .zero).2 row_Flags rfl (fun j hj => wordFl11 d j hj)) (by decide)
          · (have e7 : A.eval (.tmp 7) = .pointer (some ⟨b7, 0, none⟩) := h.frame 7 rfl; refine rs_pure (wanted_g rfl (yielded_of (d := 81) rfl (h.dep 54 81 rfl rfl))) ?_ (by decide); simp only [execOp, e7]; (simp [go_sem] <;> first | done | omega | (rw [IntKind.wrap_i64]; omega) | (rw [IntKind.wrap_u8]; omega) | (rw [IntKind.wrap_u64]; omega)))
          · exact rs_pure (wanted_g rfl (yielded_of (d := 81) rfl (h.dep 54 81 rfl rfl))) (loadW_run (vs := flagsC d.on) rfl (h.dep 57 84 rfl rfl) ((H.call h.below).blk (.succ .zero)).2 row_Flags rfl (fun j hj => wordFl11 d j hj)) (by decide)
          · exact rs_pure (wanted_g rfl (yielded_of (d := 81) rfl (h.dep 54 81 rfl rfl))) (neq_run_F rfl (h.dep 56 83 rfl rfl) (h.dep 58 85 rfl rfl)) (by decide)
          · exact rs_pick rfl rfl (h.dep 54 81 rfl rfl) (h.dep 59 86 rfl rfl) (by decide)
          · exact rs_move rfl rfl (h.dep 60 87 rfl rfl) (by decide)
          · (have e6 : A.eval (.tmp 6) = .pointer (some ⟨b6, 0, none⟩) := h.frame 6 rfl; refine rs_pure (wanted_g rfl (yielded_of (d := 88) rfl (h.dep 61 88 rfl rfl))) ?_ (by decide); simp only [execOp, e6]; (simp [go_sem] <;> first | done | omega | (rw [IntKind.wrap_i64]; omega) | (rw [IntKind.wrap_u8]; omega) | (rw [IntKind.wrap_u64]; omega)))
          · exact rs_pure (wanted_g rfl (yielded_of (d := 88) rfl (h.dep 61 88 rfl rfl))) (loadW_run (vs := flagsC d.off) rfl (h.dep 62 89 rfl rfl) ((H.call h.below).blk .zero).2 row_Flags rfl (fun j hj => wordFl14 d j hj)) (by decide)
          · (have e7 : A.eval (.tmp 7) = .pointer (some ⟨b7, 0, none⟩) := h.frame 7 rfl; refine rs_pure (wanted_g rfl (yielded_of (d := 88) rfl (h.dep 61 88 rfl rfl))) ?_ (by decide); simp only [execOp, e7]; (simp [go_sem] <;> first | done | omega | (rw [IntKind.wrap_i64]; omega) | (rw [IntKind.wrap_u8]; omega) | (rw [IntKind.wrap_u64]; omega)))
          · exact rs_pure (wanted_g rfl (yielded_of (d := 88) rfl (h.dep 61 88 rfl rfl))) (loadW_run (vs := flagsC d.off) rfl (h.dep 64 91 rfl rfl) ((H.call h.below).blk (.succ .zero)).2 row_Flags rfl (fun j hj => wordFl14 d j hj)) (by decide)
          · exact rs_pure (wanted_g rfl (yielded_of (d := 88) rfl (h.dep 61 88 rfl rfl))) (neq_run_F rfl (h.dep 63 90 rfl rfl) (h.dep 65 92 rfl rfl)) (by decide)
          · exact rs_pick rfl rfl (h.dep 61 88 rfl rfl) (h.dep 66 93 rfl rfl) (by decide)
        case en =>
          intro vals W hbw hv _
          have v0 : vals 0 = .pointer (some ⟨b6, 0, none⟩) := hv 0 (by omega)
          have v1 : vals 1 = .int .i64 (d.kind : Int) := hv 1 (by omega)
          have v2 : vals 2 = .pointer (some ⟨b7, 0, none⟩) := hv 2 (by omega)
          have v3 : vals 3 = .int .i64 (d.kind : Int) := hv 3 (by omega)
          have v4 : vals 4 = .bool false := hv 4 (by omega)
          have v5 : vals 5 = .bool false := hv 5 (by omega)
          have v6 : vals 6 = .pointer (some ⟨b6, 1, none⟩) := hv 6 (by omega)
          have v7 : vals 7 = .int .i64 (d.place : Int) := hv 7 (by omega)
          have v8 : vals 8 = .pointer (some ⟨b7, 1, none⟩) := hv 8 (by omega)
          have v9 : vals 9 = .int .i64 (d.place : Int) := hv 9 (by omega)
          have v10 : vals 10 = .bool false := hv 10 (by omega)
          have v11 : vals 11 = .bool false := hv 11 (by omega)
          have v12 : vals 12 = .bool false := hv 12 (by omega)
          have v13 : vals 13 = .pointer (some ⟨b6, 2, none⟩) := hv 13 (by omega)
          have v14 : vals 14 = setV d.set := hv 14 (by omega)
          have v15 : vals 15 = .pointer (some ⟨b7, 2, none⟩) := hv 15 (by omega)
          have v16 : vals 16 = setV d.set := hv 16 (by omega)
          have v17 : vals 17 = .bool false := hv 17 (by omega)
          have v18 : vals 18 = .bool false := hv 18 (by omega)
          have v19 : vals 19 = .bool false := hv 19 (by omega)
          have v20 : vals 20 = .pointer (some ⟨b6, 6, none⟩) := hv 20 (by omega)
          have v21 : vals 21 = .bool d.neg := hv 21 (by omega)
          have v22 : vals 22 = .pointer (some ⟨b7, 6, none⟩) := hv 22 (by omega)
          have v23 : vals 23 = .bool d.neg := hv 23 (by omega)
          have v24 : vals 24 = .bool false := hv 24 (by omega)
          have v25 : vals 25 = .bool false := hv 25 (by omega)
          have v26 : vals 26 = .bool false := hv 26 (by omega)
          have v27 : vals 27 = .pointer (some ⟨b6, 7, none⟩) := hv 27 (by omega)
          have v28 : vals 28 = .int .i64 (d.spot : Int) := hv 28 (by omega)
          have v29 : vals 29 = .pointer (some ⟨b7, 7, none⟩) := hv 29 (by omega)
          have v30 : vals 30 = .int .i64 (d.spot : Int) := hv 30 (by omega)
          have v31 : vals 31 = .bool false := hv 31 (by omega)
          have v32 : vals 32 = .bool false := hv 32 (by omega)
          have v33 : vals 33 = .bool false := hv 33 (by omega)
          have v34 : vals 34 = .pointer (some ⟨b6, 8, none⟩) := hv 34 (by omega)
          have v35 : vals 35 = .int .i64 d.lo := hv 35 (by omega)
          have v36 : vals 36 = .pointer (some ⟨b7, 8, none⟩) := hv 36 (by omega)
          have v37 : vals 37 = .int .i64 d.lo := hv 37 (by omega)
          have v38 : vals 38 = .bool false := hv 38 (by omega)
          have v39 : vals 39 = .bool false := hv 39 (by omega)
          have v40 : vals 40 = .bool false := hv 40 (by omega)
          have v41 : vals 41 = .pointer (some ⟨b6, 9, none⟩) := hv 41 (by omega)
          have v42 : vals 42 = .int .i64 d.hi := hv 42 (by omega)
          have v43 : vals 43 = .pointer (some ⟨b7, 9, none⟩) := hv 43 (by omega)
          have v44 : vals 44 = .int .i64 d.hi := hv 44 (by omega)
          have v45 : vals 45 = .bool false := hv 45 (by omega)
          have v46 : vals 46 = .bool false := hv 46 (by omega)
          have v47 : vals 47 = .bool false := hv 47 (by omega)
          have v48 : vals 48 = .pointer (some ⟨b6, 10, none⟩) := hv 48 (by omega)
          have v49 : vals 49 = .bool d.lazy := hv 49 (by omega)
          have v50 : vals 50 = .pointer (some ⟨b7, 10, none⟩) := hv 50 (by omega)
          have v51 : vals 51 = .bool d.lazy := hv 51 (by omega)
          have v52 : vals 52 = .bool false := hv 52 (by omega)
          have v53 : vals 53 = .bool false := hv 53 (by omega)
          have v54 : vals 54 = .bool false := hv 54 (by omega)
          have v55 : vals 55 = .pointer (some ⟨b6, 11, none⟩) := hv 55 (by omega)
          have v56 : vals 56 = flagsV d.on := hv 56 (by omega)
          have v57 : vals 57 = .pointer (some ⟨b7, 11, none⟩) := hv 57 (by omega)
          have v58 : vals 58 = flagsV d.on := hv 58 (by omega)
          have v59 : vals 59 = .bool false := hv 59 (by omega)
          have v60 : vals 60 = .bool false := hv 60 (by omega)
          have v61 : vals 61 = .bool false := hv 61 (by omega)
          have v62 : vals 62 = .pointer (some ⟨b6, 14, none⟩) := hv 62 (by omega)
          have v63 : vals 63 = flagsV d.off := hv 63 (by omega)
          have v64 : vals 64 = .pointer (some ⟨b7, 14, none⟩) := hv 64 (by omega)
          have v65 : vals 65 = flagsV d.off := hv 65 (by omega)
          have v66 : vals 66 = .bool false := hv 66 (by omega)
          have v67 : vals 67 = .bool false := hv 67 (by omega)
          simp only [List.append, List.take_succ_cons, List.take_zero, List.drop_succ_cons, List.drop_zero, List.drop_nil, List.take_nil, fillAll, Nat.zero_add, Nat.reduceAdd]
          rw [v0, v1, v2, v3, v4, v5, v6, v7, v8, v9, v10, v11, v12, v13, v14, v15, v16, v17, v18, v19, v20, v21, v22, v23, v24, v25, v26, v27, v28, v29, v30, v31, v32, v33, v34, v35, v36, v37, v38, v39, v40, v41, v42, v43, v44, v45, v46, v47, v48, v49, v50, v51, v52, v53, v54, v55, v56, v57, v58, v59, v60, v61, v62, v63, v64, v65, v66, v67]
          clear hv v0 v1 v2 v3 v4 v5 v6 v7 v8 v9 v10 v11 v12 v13 v14 v15 v16 v17 v18 v19 v20 v21 v22 v23 v24 v25 v26 v27 v28 v29 v30 v31 v32 v33 v34 v35 v36 v37 v38 v39 v40 v41 v42 v43 v44 v45 v46 v47 v48 v49 v50 v51 v52 v53 v54 v55 v56 v57 v58 v59 v60 v61 v62 v63 v64 v65 v66 v67
          try simp only [put_lit, List.setIfInBounds_toArray, List.set_cons_succ, List.set_cons_zero]
          go_wp2
          go_roundw
          case rel => exact ⟨i + 1, rfl, by omega, (H.call hbw).take 0⟩
          case measure => simp [intOf]; omega
    · have di : decide ((i : Int) < (ws.length : Int)) = false := by simp; omega
      go_wp2_with (first | fail)
      go_ret
      exact ⟨rfl, H.below⟩
end Go.Proofs.YtllmgmfihijejaaGreatDoor
/-
  The walks of package lex: hex digits, escapes of one byte, bytes of classes.
-/
namespace Go.Proofs.YtllmgmfihijejaaGreatDoor
open Go.RowKit Go.Shelf Go.MapKept
attribute [local go_sem] Oper.semAt_some
set_option linter.unusedSimpArgs false

theorem rd_next_ok (rb : Nat) (L : Str) (i : Nat) (U : TypeId) (hL : L.length ≤ 2000) (h : i < L.length) (w0 : World) (hr : w0.heap[rb]? = some (.cells (rdC L i) U (0, 0))) :
    Calls Tryz.prog 37 #[ptrV rb] w0 (ReadsV rb L U w0 (.ok (.int .u8 (byt L i), i + 1))) := by
  have := rd_next rb L i U hL (by omega) w0 hr
  rwa [if_pos h] at this
theorem rd_next_no (rb : Nat) (L : Str) (i : Nat) (U : TypeId) (hL : L.length ≤ 2000) (hi : i ≤ L.length) (h : ¬ i < L.length) (w0 : World) (hr : w0.heap[rb]? = some (.cells (rdC L i) U (0, 0))) :
    Calls Tryz.prog 37 #[ptrV rb] w0 (ReadsV rb L U w0 (.error 4)) := by
  have := rd_next rb L i U hL hi w0 hr
  rwa [if_neg h] at this
def hexI (c : Nat) : Int := match hexP c with | some h => h | none => -1
theorem hex_index : ∀ c, c < 256 → Lib.indexByte [48, 49, 50, 51, 52, 53, 54, 55, 56, 57, 97, 98, 99, 100, 101, 102] (Int.toNat (lowP c : Nat)).toUInt8 = hexI c := by decide +kernel
theorem sh_hex (c : Nat) (hc : c < 256) (v : Int) (hv : hexI c = v) (w0 : World) : Calls Tryz.prog 83 #[.string ⟨#[48, 49, 50, 51, 52, 53, 54, 55, 56, 57, 97, 98, 99, 100, 101, 102]⟩, .int .u8 (lowP c)] w0 fun e w' => e = .returned (.int .i64 v) ∧ Below w0.heap.size w0 w' :=
  (Tryz.strings_IndexByte ⟨#[48, 49, 50, 51, 52, 53, 54, 55, 56, 57, 97, 98, 99, 100, 101, 102]⟩ (lowP c) w0).mono (by
    rintro e w ⟨rfl, rfl⟩
    refine ⟨?_, Below.refl _ _⟩
    rw [← hv, ← hex_index c hc])
def hexR (L : Str) (i : Nat) : Except Nat (Value × Nat) := if i < L.length then (match hexP (byt L i) with | some h => .ok (.int .u8 h, i + 1) | none => .error 4) else .error 4

set_option maxRecDepth 100000 in
set_option maxHeartbeats 1000000 in
theorem rd_hex (rb : Nat) (L : Str) (i : Nat) (U : TypeId) (hL : L.length ≤ 2000) (hi : i ≤ L.length) (w0 : World) (hr : w0.heap[rb]? = some (.cells (rdC L i) U (0, 0))) :
    Calls Tryz.prog 84 #[ptrV rb] w0 (ReadsV rb L U w0 (hexR L i)) := by
  have H := HoldG.startB hr
  unfold hexR
  by_cases hlt : i < L.length
  · rw [if_pos hlt]
    have hb := byt_lt L i
    cases hx : hexP (byt L i) with
    | some h =>
      have hI : hexI (byt L i) = h := by unfold hexI; rw [hx]
      have h15 := hexP_le hx
      have hd : decide ((0 : Int) ≤ (h : Int)) = true := by simp
      clear hx
      go_enter Tryz.func84, Tryz.ntmps84
      go_wp2_with (first | fail | (go_at_call 37; (with_reducible refine (rd_next_ok rb L i U hL hlt _ (H.blk .zero).2).mono ?_); rintro e w ⟨hk, rfl, hr⟩; replace H := H.callBut (by repeat (first | (with_reducible exact At.zero) | apply At.succ)) hk hr; clear hk hr; (try simp only [nrm, nrl, Value.cells] at H)) | (go_at_call 99; (with_reducible refine ch (lx_lower (byt L i) hb _) H ?_); clear H; intro w H) | (go_at_call 83; (with_reducible refine ch (sh_hex (byt L i) hb h hI _) H ?_); clear H; intro w H) | (go_at_call 60; (with_reducible refine ch (must_yes4 _) H ?_); clear H; intro w H))
      go_ret
      refine ⟨H.keep, reti ?_, (H.blk .zero).2⟩
      rfl
    | none =>
      have hI : hexI (byt L i) = -1 := by unfold hexI; rw [hx]
      clear hx
      go_enter Tryz.func84, Tryz.ntmps84
      go_wp2_with (first | fail | (go_at_call 37; (with_reducible refine (rd_next_ok rb L i U hL hlt _ (H.blk .zero).2).mono ?_); rintro e w ⟨hk, rfl, hr⟩; replace H := H.callBut (by repeat (first | (with_reducible exact At.zero) | apply At.succ)) hk hr; clear hk hr; (try simp only [nrm, nrl, Value.cells] at H)) | (go_at_call 99; (with_reducible refine ch (lx_lower (byt L i) hb _) H ?_); clear H; intro w H) | (go_at_call 83; (with_reducible refine ch (sh_hex (byt L i) hb (-1) hI _) H ?_); clear H; intro w H) | (go_at_call 60; (with_reducible refine ch (must_no4 _) H ?_); clear H; intro w H))
      exact ⟨rfl, H.keep, rfl⟩
  · rw [if_neg hlt]
    go_enter Tryz.func84, Tryz.ntmps84
    go_wp2_with (first | fail | (go_at_call 37; (with_reducible refine (rd_next_no rb L i U hL hi hlt _ (H.blk .zero).2).mono ?_); rintro e w ⟨hk, rfl⟩; exact ⟨rfl, H.keep.trans (hk.mono H.keep.size (fun _ _ m => m)), rfl⟩))

theorem rd_hex_ok (rb : Nat) (L : Str) (i : Nat) (U : TypeId) (hL : L.length ≤ 2000) (hi : i ≤ L.length) {h j : Nat} (hx : hexR L i = .ok (.int .u8 h, j)) (w0 : World) (hr : w0.heap[rb]? = some (.cells (rdC L i) U (0, 0))) :
    Calls Tryz.prog 84 #[ptrV rb] w0 (ReadsV rb L U w0 (.ok (.int .u8 h, j))) := by
  have := rd_hex rb L i U hL hi w0 hr
  rwa [hx] at this
theorem rd_hex_no (rb : Nat) (L : Str) (i : Nat) (U : TypeId) (hL : L.length ≤ 2000) (hi : i ≤ L.length) (hx : hexR L i = .error 4) (w0 : World) (hr : w0.heap[rb]? = some (.cells (rdC L i) U (0, 0))) :
    Calls Tryz.prog 84 #[ptrV rb] w0 (ReadsV rb L U w0 (.error 4)) := by
  have := rd_hex rb L i U hL hi w0 hr
  rwa [hx] at this
theorem hexR_cases (L : Str) (i : Nat) : hexR L i = .error 4 ∨ ∃ h, h ≤ 15 ∧ i < L.length ∧ hexP (byt L i) = some h ∧ hexR L i = .ok (.int .u8 h, i + 1) := by
  unfold hexR
  by_cases hlt : i < L.length
  · rw [if_pos hlt]
    cases hx : hexP (byt L i) with
    | none => exact .inl rfl
    | some h => exact .inr ⟨h, hexP_le hx, hlt, rfl, rfl⟩
  · rw [if_neg hlt]; exact .inl rfl
theorem hexR_no {L : Str} {i : Nat} (h : hexR L i = .error 4) : ¬ i < L.length ∨ (i < L.length ∧ hexP (byt L i) = none) := by
  unfold hexR at h
  by_cases hlt : i < L.length
  · rw [if_pos hlt] at h
    cases hx : hexP (byt L i) with
    | none => exact .inr ⟨hlt, rfl⟩
    | some x => rw [hx] at h; cases h
  · exact .inl hlt
theorem plain_index : ∀ c, c < 256 → (plainP c = none ∧ Lib.indexByte [110, 116, 114, 102, 118, 97] (Int.toNat (c : Nat)).toUInt8 = -1) ∨ ∃ j : Nat, j < 6 ∧ Lib.indexByte [110, 116, 114, 102, 118, 97] (Int.toNat (c : Nat)).toUInt8 = (j : Int) ∧ plainP c = some (byt [10, 9, 13, 12, 11, 7] j) := by
  have key : ∀ c, c < 256 → (plainP c = none && Lib.indexByte [110, 116, 114, 102, 118, 97] (Int.toNat (c : Nat)).toUInt8 == -1) || (List.range 6).any (fun j : Nat => Lib.indexByte [110, 116, 114, 102, 118, 97] (Int.toNat (c : Nat)).toUInt8 == (j : Int) && plainP c = some (byt [10, 9, 13, 12, 11, 7] j)) = true := by decide +kernel
  intro c hc
  have := key c hc
  simp only [Bool.or_eq_true, Bool.and_eq_true, decide_eq_true_eq, beq_iff_eq, List.any_eq_true, List.mem_range] at this
  rcases this with h | ⟨j, h1, h2, h3⟩
  · exact .inl h
  · exact .inr ⟨j, h1, h2, h3⟩
theorem sh_plain (c : Nat) (v : Int) (hv : Lib.indexByte [110, 116, 114, 102, 118, 97] (Int.toNat (c : Nat)).toUInt8 = v) (w0 : World) : Calls Tryz.prog 83 #[.string ⟨#[110, 116, 114, 102, 118, 97]⟩, .int .u8 c] w0 fun e w' => e = .returned (.int .i64 v) ∧ Below w0.heap.size w0 w' :=
  (Tryz.strings_IndexByte ⟨#[110, 116, 114, 102, 118, 97]⟩ c w0).mono (by
    rintro e w ⟨rfl, rfl⟩
    refine ⟨?_, Below.refl _ _⟩
    rw [← hv])
theorem HoldG.gainMp {M : Nat → Prop} {w0 w w' : World} {l : List Res} (H : HoldG M w0 w l) (hb : Below w.heap.size w w') {mb c : Nat} {es : Array MapEntry} (hn : w.heap.size ≤ mb) (hm : w'.heap[mb]? = some (.map es c)) : HoldG M w0 w' (l ++ [.mp mb es c]) :=
  H.gain hb [.mp mb es c] (by
    intro r hr
    simp only [List.mem_cons, List.not_mem_nil, or_false] at hr
    subst hr
    exact ⟨⟨Nat.le_trans H.keep.size hn, hm⟩, fun b e => by cases e; exact hn⟩) (List.pairwise_singleton _ _)
def escR (L : Str) (k : Nat) : Except Nat (Value × Nat) := match escP L k with | some (b, e) => .ok (.int .u8 b, e) | none => .error 4

set_option maxRecDepth 100000 in
set_option maxHeartbeats 4000000 in
theorem rd_escape (rb : Nat) (L : Str) (k : Nat) (U : TypeId) (hL : L.length ≤ 2000) (hi : k + 1 ≤ L.length) (w0 : World) (hr : w0.heap[rb]? = some (.cells (rdC L (k + 1)) U (0, 0))) :
    Calls Tryz.prog 62 #[ptrV rb] w0 (ReadsV rb L U w0 (escR L k)) := by
  have H := HoldG.startB hr
  have E : escR L k = escR L k := rfl
  conv at E => rhs; unfold escR escP
  by_cases hlt : k + 1 < L.length
  · rw [if_pos hlt] at E
    have hb := byt_lt L (k + 1)
    rcases plain_index (byt L (k + 1)) hb with ⟨hp, hx⟩ | ⟨j, hj, hx, hp⟩
    · have hs := fun w => sh_plain (byt L (k + 1)) (-1) hx w
      rw [hp] at E; simp only [] at E
      clear hx hp
      by_cases h120 : byt L (k + 1) = 120
      · rw [if_pos h120] at E
        have d120 : (((byt L (k + 1) : Nat) : Int) == 120) = true := by rw [beq_iff_eq]; omega
        clear h120
        rcases hexR_cases L (k + 2) with h1 | ⟨h, hh, h1, h2, h3⟩
        · have E2 : escR L k = .error 4 := by
            rw [E]
            rcases hexR_no h1 with h | ⟨h, g⟩
            · rw [if_neg h]
            · rw [if_pos h, g]
          rw [E2]; clear E E2
          go_enter Tryz.func62, Tryz.ntmps62
          go_wp2_with (first | fail | (go_at_call 37; (with_reducible refine (rd_next_ok rb L (k + 1) U hL hlt _ (H.blk .zero).2).mono ?_); rintro e w ⟨hk, rfl, hr⟩; replace H := H.callBut (by repeat (first | (with_reducible exact At.zero) | apply At.succ)) hk hr; clear hk hr; (try simp only [nrm, nrl, Value.cells] at H)) | (go_at_call 83; (with_reducible refine ch (hs _) H ?_); clear H; intro w H) | (go_at_call 84; (with_reducible refine (rd_hex_no rb L (k + 2) U hL (by omega) h1 _ (H.blk .zero).2).mono ?_); rintro e w ⟨hk, rfl⟩; exact ⟨rfl, H.keep.trans (hk.mono H.keep.size (fun _ _ m => m)), rfl⟩))
        · rcases hexR_cases L (k + 3) with g1 | ⟨g, hg, g1, g2, g3⟩
          · have E2 : escR L k = .error 4 := by
              rw [E, if_pos h1, h2]
              simp only []
              rcases hexR_no g1 with h | ⟨h, g⟩
              · rw [if_neg h]
              · rw [if_pos h, g]
            rw [E2]; clear E E2 h2
            go_enter Tryz.func62, Tryz.ntmps62
            go_wp2_with (first | fail | (go_at_call 37; (with_reducible refine (rd_next_ok rb L (k + 1) U hL hlt _ (H.blk .zero).2).mono ?_); rintro e w ⟨hk, rfl, hr⟩; replace H := H.callBut (by repeat (first | (with_reducible exact At.zero) | apply At.succ)) hk hr; clear hk hr; (try simp only [nrm, nrl, Value.cells] at H)) | (go_at_call 83; (with_reducible refine ch (hs _) H ?_); clear H; intro w H) | (go_at_call 84; (with_reducible refine (rd_hex_ok rb L (k + 2) U hL (by omega) h3 _ (H.blk .zero).2).mono ?_); rintro e w ⟨hk, rfl, hr⟩; replace H := H.callBut (by repeat (first | (with_reducible exact At.zero) | apply At.succ)) hk hr; clear hk hr; (try simp only [nrm, nrl, Value.cells] at H)) | (go_at_call 84; (with_reducible refine (rd_hex_no rb L (k + 3) U hL (by omega) g1 _ (H.blk .zero).2).mono ?_); rintro e w ⟨hk, rfl⟩; exact ⟨rfl, H.keep.trans (hk.mono H.keep.size (fun _ _ m => m)), rfl⟩))
          · have E2 : escR L k = .ok (.int .u8 (16 * h + g : Nat), k + 4) := by
              rw [E, if_pos h1, h2]
              simp only []
              rw [if_pos g1, g2]
            rw [E2]; clear E E2 h2 g2
            go_enter Tryz.func62, Tryz.ntmps62
            go_wp2_with (first | fail | (go_at_call 37; (with_reducible refine (rd_next_ok rb L (k + 1) U hL hlt _ (H.blk .zero).2).mono ?_); rintro e w ⟨hk, rfl, hr⟩; replace H := H.callBut (by repeat (first | (with_reducible exact At.zero) | apply At.succ)) hk hr; clear hk hr; (try simp only [nrm, nrl, Value.cells] at H)) | (go_at_call 83; (with_reducible refine ch (hs _) H ?_); clear H; intro w H) | (go_at_call 84; (with_reducible refine (rd_hex_ok rb L (k + 2) U hL (by omega) h3 _ (H.blk .zero).2).mono ?_); rintro e w ⟨hk, rfl, hr⟩; replace H := H.callBut (by repeat (first | (with_reducible exact At.zero) | apply At.succ)) hk hr; clear hk hr; (try simp only [nrm, nrl, Value.cells] at H)) | (go_at_call 84; (with_reducible refine (rd_hex_ok rb L (k + 3) U hL (by omega) g3 _ (H.blk .zero).2).mono ?_); rintro e w ⟨hk, rfl, hr⟩; replace H := H.callBut (by repeat (first | (with_reducible exact At.zero) | apply At.succ)) hk hr; clear hk hr; (try simp only [nrm, nrl, Value.cells] at H)))
            go_ret
            refine ⟨H.keep, reti ?_, (H.blk .zero).2⟩
            omega
      · rw [if_neg h120] at E
        have d120 : (((byt L (k + 1) : Nat) : Int) == 120) = false := by rw [beq_eq_false_iff_ne]; omega
        clear h120
        by_cases h128 : 128 ≤ byt L (k + 1)
        · rw [if_pos h128] at E
          rw [E]; clear E
          have d128 : decide (((byt L (k + 1) : Nat) : Int) < 128) = false := by simp; omega
          go_enter Tryz.func62, Tryz.ntmps62
          go_wp2_with (first | fail | (go_at_call 37; (with_reducible refine (rd_next_ok rb L (k + 1) U hL hlt _ (H.blk .zero).2).mono ?_); rintro e w ⟨hk, rfl, hr⟩; replace H := H.callBut (by repeat (first | (with_reducible exact At.zero) | apply At.succ)) hk hr; clear hk hr; (try simp only [nrm, nrl, Value.cells] at H)) | (go_at_call 83; (with_reducible refine ch (hs _) H ?_); clear H; intro w H) | (go_at_call 60; (with_reducible refine ch (must_no4 _) H ?_); clear H; intro w H))
          exact ⟨rfl, H.keep, rfl⟩
        · rw [if_neg h128] at E
          have d128 : decide (((byt L (k + 1) : Nat) : Int) < 128) = true := by simp; omega
          clear h128
          have hH := fun w => set_Has alnumS alnumS_ok (byt L (k + 1)) hb w
          cases hA : hasB alnumS (byt L (k + 1))
          · rw [hA] at E hH
            simp only [Bool.false_eq_true, if_false] at E
            rw [E]; clear E hA
            go_enter Tryz.func62, Tryz.ntmps62
            go_wp2_with (first | fail | (go_at_call 37; (with_reducible refine (rd_next_ok rb L (k + 1) U hL hlt _ (H.blk .zero).2).mono ?_); rintro e w ⟨hk, rfl, hr⟩; replace H := H.callBut (by repeat (first | (with_reducible exact At.zero) | apply At.succ)) hk hr; clear hk hr; (try simp only [nrm, nrl, Value.cells] at H)) | (go_at_call 83; (with_reducible refine ch (hs _) H ?_); clear H; intro w H) | (go_at_call 86; (with_reducible refine (lx_names _).mono ?_); rintro e w ⟨⟨mb, es, mc, rfl, hmn, hmh, hM⟩, hb⟩; replace H := H.gainMp hb hmn hmh; clear hb hmn hmh; (try simp only [nrm, nrl, Value.cells] at H)) | ((with_reducible show @wpList _ _ _ ({ dst := _, op := Op.lookup _ _ _ false, type := _, pos := _, after := _, guard := _ } :: _) _ _); refine own_lookup (by first | rfl | exact wanted_g rfl (yielded_of rfl (by first | rfl | (simp only [put_lit, put_no, List.setIfInBounds_toArray, List.set_cons_succ, List.set_cons_zero, ev_tmp, ev_const, ev_glob, ev_func, List.getD_cons_succ, List.getD_cons_zero]; rfl)))) _ _ _ rfl Tryz.underlying137 Tryz.underlying9 rfl (by first | (simp only [put_lit, put_no, List.setIfInBounds_toArray, List.set_cons_succ, List.set_cons_zero, ev_tmp, ev_const, ev_glob, ev_func, List.getD_cons_succ, List.getD_cons_zero]; done) | (simp only [put_lit, put_no, List.setIfInBounds_toArray, List.set_cons_succ, List.set_cons_zero, ev_tmp, ev_const, ev_glob, ev_func, List.getD_cons_succ, List.getD_cons_zero]; rfl)) H (by repeat (first | (with_reducible exact At.zero) | apply At.succ)) hM (by first | trivial | rfl) (show namesF _ = some (setV alnumS) by kernel_rfl) ?_) | (go_at_call 85; (with_reducible refine ch (hH _) H ?_); clear H; intro w H) | (go_at_call 60; (with_reducible refine ch (must_yes4 _) H ?_); clear H; intro w H))
            go_ret
            refine ⟨H.keep, rfl, (H.blk .zero).2⟩
          · rw [hA] at E hH
            simp only [if_true] at E
            rw [E]; clear E hA
            go_enter Tryz.func62, Tryz.ntmps62
            go_wp2_with (first | fail | (go_at_call 37; (with_reducible refine (rd_next_ok rb L (k + 1) U hL hlt _ (H.blk .zero).2).mono ?_); rintro e w ⟨hk, rfl, hr⟩; replace H := H.callBut (by repeat (first | (with_reducible exact At.zero) | apply At.succ)) hk hr; clear hk hr; (try simp only [nrm, nrl, Value.cells] at H)) | (go_at_call 83; (with_reducible refine ch (hs _) H ?_); clear H; intro w H) | (go_at_call 86; (with_reducible refine (lx_names _).mono ?_); rintro e w ⟨⟨mb, es, mc, rfl, hmn, hmh, hM⟩, hb⟩; replace H := H.gainMp hb hmn hmh; clear hb hmn hmh; (try simp only [nrm, nrl, Value.cells] at H)) | ((with_reducible show @wpList _ _ _ ({ dst := _, op := Op.lookup _ _ _ false, type := _, pos := _, after := _, guard := _ } :: _) _ _); refine own_lookup (by first | rfl | exact wanted_g rfl (yielded_of rfl (by first | rfl | (simp only [put_lit, put_no, List.setIfInBounds_toArray, List.set_cons_succ, List.set_cons_zero, ev_tmp, ev_const, ev_glob, ev_func, List.getD_cons_succ, List.getD_cons_zero]; rfl)))) _ _ _ rfl Tryz.underlying137 Tryz.underlying9 rfl (by first | (simp only [put_lit, put_no, List.setIfInBounds_toArray, List.set_cons_succ, List.set_cons_zero, ev_tmp, ev_const, ev_glob, ev_func, List.getD_cons_succ, List.getD_cons_zero]; done) | (simp only [put_lit, put_no, List.setIfInBounds_toArray, List.set_cons_succ, List.set_cons_zero, ev_tmp, ev_const, ev_glob, ev_func, List.getD_cons_succ, List.getD_cons_zero]; rfl)) H (by repeat (first | (with_reducible exact At.zero) | apply At.succ)) hM (by first | trivial | rfl) (show namesF _ = some (setV alnumS) by kernel_rfl) ?_) | (go_at_call 85; (with_reducible refine ch (hH _) H ?_); clear H; intro w H) | (go_at_call 60; (with_reducible refine ch (must_no4 _) H ?_); clear H; intro w H))
            exact ⟨rfl, H.keep, rfl⟩
    · have hs := fun w => sh_plain (byt L (k + 1)) j hx w
      rw [hp] at E; simp only [] at E
      rw [E]; clear E hx hp
      have dj : decide ((0 : Int) ≤ (j : Int)) = true := by simp
      go_enter Tryz.func62, Tryz.ntmps62
      go_wp2_with (first | ((with_reducible refine gI ?_); refine aI ?_) | (go_at_call 37; (with_reducible refine (rd_next_ok rb L (k + 1) U hL hlt _ (H.blk .zero).2).mono ?_); rintro e w ⟨hk, rfl, hr⟩; replace H := H.callBut (by repeat (first | (with_reducible exact At.zero) | apply At.succ)) hk hr; clear hk hr; (try simp only [nrm, nrl, Value.cells] at H)) | (go_at_call 83; (with_reducible refine ch (hs _) H ?_); clear H; intro w H))
      go_ret
      refine ⟨H.keep, rfl, (H.blk .zero).2⟩
  · rw [if_neg hlt] at E
    rw [E]; clear E
    go_enter Tryz.func62, Tryz.ntmps62
    go_wp2_with (first | fail | (go_at_call 37; (with_reducible refine (rd_next_no rb L (k + 1) U hL hi hlt _ (H.blk .zero).2).mono ?_); rintro e w ⟨hk, rfl⟩; exact ⟨rfl, H.keep.trans (hk.mono H.keep.size (fun _ _ m => m)), rfl⟩))
end Go.Proofs.YtllmgmfihijejaaGreatDoor
/-
  The walks of package lex: what stands in a class.
-/
namespace Go.Proofs.YtllmgmfihijejaaGreatDoor
open Go.RowKit Go.Shelf Go.MapKept
attribute [local go_sem] Oper.semAt_some
set_option linter.unusedSimpArgs false

/-! ### one -/
def thR (L : Str) (i : Nat) : Except Nat (Value × Nat) := match thingP L i with | some (b, e) => .ok (.int .u8 b, e) | none => .error 4
theorem rd_escape_ok (rb : Nat) (L : Str) (k : Nat) (U : TypeId) (hL : L.length ≤ 2000) (hi : k + 1 ≤ L.length) {b j : Nat} (hx : escP L k = some (b, j)) (w0 : World) (hr : w0.heap[rb]? = some (.cells (rdC L (k + 1)) U (0, 0))) :
    Calls Tryz.prog 62 #[ptrV rb] w0 (ReadsV rb L U w0 (.ok (.int .u8 b, j))) := by
  have := rd_escape rb L k U hL hi w0 hr
  unfold escR at this
  rwa [hx] at this
theorem rd_escape_no (rb : Nat) (L : Str) (k : Nat) (U : TypeId) (hL : L.length ≤ 2000) (hi : k + 1 ≤ L.length) (hx : escP L k = none) (w0 : World) (hr : w0.heap[rb]? = some (.cells (rdC L (k + 1)) U (0, 0))) :
    Calls Tryz.prog 62 #[ptrV rb] w0 (ReadsV rb L U w0 (.error 4)) := by
  have := rd_escape rb L k U hL hi w0 hr
  unfold escR at this
  rwa [hx] at this
set_option maxRecDepth 100000 in
set_option maxHeartbeats 1000000 in
theorem rd_one (rb : Nat) (L : Str) (i : Nat) (U : TypeId) (hL : L.length ≤ 2000) (hi : i ≤ L.length) (w0 : World) (hr : w0.heap[rb]? = some (.cells (rdC L i) U (0, 0))) :
    Calls Tryz.prog 88 #[ptrV rb] w0 (ReadsV rb L U w0 (thR L i)) := by
  have H := HoldG.startB hr
  unfold thR thingP
  by_cases hlt : i < L.length
  · rw [if_pos hlt]
    have hb := byt_lt L i
    by_cases h92 : byt L i = 92
    · rw [if_pos h92]
      have d92 : (((byt L i : Nat) : Int) == 92) = true := by rw [beq_iff_eq]; omega
      clear h92
      cases hx : escP L i with
      | none =>
        go_enter Tryz.func88, Tryz.ntmps88
        go_wp2_with (first | fail | (go_at_call 37; (with_reducible refine (rd_next_ok rb L i U hL hlt _ (H.blk .zero).2).mono ?_); rintro e w ⟨hk, rfl, hr⟩; replace H := H.callBut (by repeat (first | (with_reducible exact At.zero) | apply At.succ)) hk hr; clear hk hr; (try simp only [nrm, nrl, Value.cells] at H)) | (go_at_call 62; (with_reducible refine (rd_escape_no rb L i U hL (by omega) hx _ (H.blk .zero).2).mono ?_); rintro e w ⟨hk, rfl⟩; exact ⟨rfl, H.keep.trans (hk.mono H.keep.size (fun _ _ m => m)), rfl⟩))
      | some p =>
        obtain ⟨b, j⟩ := p
        go_enter Tryz.func88, Tryz.ntmps88
        go_wp2_with (first | fail | (go_at_call 37; (with_reducible refine (rd_next_ok rb L i U hL hlt _ (H.blk .zero).2).mono ?_); rintro e w ⟨hk, rfl, hr⟩; replace H := H.callBut (by repeat (first | (with_reducible exact At.zero) | apply At.succ)) hk hr; clear hk hr; (try simp only [nrm, nrl, Value.cells] at H)) | (go_at_call 62; (with_reducible refine (rd_escape_ok rb L i U hL (by omega) hx _ (H.blk .zero).2).mono ?_); rintro e w ⟨hk, rfl, hr⟩; replace H := H.callBut (by repeat (first | (with_reducible exact At.zero) | apply At.succ)) hk hr; clear hk hr; (try simp only [nrm, nrl, Value.cells] at H)))
        go_ret
        exact ⟨H.keep, rfl, (H.blk .zero).2⟩
    · rw [if_neg h92]
      have d92 : (((byt L i : Nat) : Int) == 92) = false := by rw [beq_eq_false_iff_ne]; omega
      clear h92
      go_enter Tryz.func88, Tryz.ntmps88
      go_wp2_with (first | fail | (go_at_call 37; (with_reducible refine (rd_next_ok rb L i U hL hlt _ (H.blk .zero).2).mono ?_); rintro e w ⟨hk, rfl, hr⟩; replace H := H.callBut (by repeat (first | (with_reducible exact At.zero) | apply At.succ)) hk hr; clear hk hr; (try simp only [nrm, nrl, Value.cells] at H)))
      go_ret
      exact ⟨H.keep, rfl, (H.blk .zero).2⟩
  · rw [if_neg hlt]
    go_enter Tryz.func88, Tryz.ntmps88
    go_wp2_with (first | fail | (go_at_call 37; (with_reducible refine (rd_next_no rb L i U hL hi hlt _ (H.blk .zero).2).mono ?_); rintro e w ⟨hk, rfl⟩; exact ⟨rfl, H.keep.trans (hk.mono H.keep.size (fun _ _ m => m)), rfl⟩))
theorem rd_one_ok (rb : Nat) (L : Str) (i : Nat) (U : TypeId) (hL : L.length ≤ 2000) (hi : i ≤ L.length) {b j : Nat} (hx : thingP L i = some (b, j)) (w0 : World) (hr : w0.heap[rb]? = some (.cells (rdC L i) U (0, 0))) :
    Calls Tryz.prog 88 #[ptrV rb] w0 (ReadsV rb L U w0 (.ok (.int .u8 b, j))) := by
  have := rd_one rb L i U hL hi w0 hr
  unfold thR at this
  rwa [hx] at this
theorem rd_one_no (rb : Nat) (L : Str) (i : Nat) (U : TypeId) (hL : L.length ≤ 2000) (hi : i ≤ L.length) (hx : thingP L i = none) (w0 : World) (hr : w0.heap[rb]? = some (.cells (rdC L i) U (0, 0))) :
    Calls Tryz.prog 88 #[ptrV rb] w0 (ReadsV rb L U w0 (.error 4)) := by
  have := rd_one rb L i U hL hi w0 hr
  unfold thR at this
  rwa [hx] at this

/-! ### many -/
def manyP (L : Str) (i : Nat) : Option (Nat → Nat) := if byt L i = 92 ∧ i + 1 < L.length then sortP (byt L (i + 1)) else none
def manyR (L : Str) (i : Nat) : Value × Nat := match manyP L i with | some s => (.tuple #[setV s, .bool true], i + 2) | none => (.tuple #[setV emptyS, .bool false], i)
theorem drop_at {L T : Str} {i : Nat} (hT : L.drop i = T) (j : Nat) : byt T j = byt L (i + j) := by
  subst hT; unfold byt; simp [List.getD_eq_getElem?_getD]
theorem drop_len {L T : Str} {i : Nat} (hT : L.drop i = T) : T.length = L.length - i := by subst hT; simp
def IsSorts (n0 : Nat) (v : Value) (w : World) : Prop := ∃ mb es c, v = .map (some mb) ∧ n0 ≤ mb ∧ w.heap[mb]? = some (.map es c) ∧ MapOf (.int .u8) sortsF es
theorem stable_sorts (n0 : Nat) : Stable (IsSorts n0) := fun _ _ _ ⟨mb, es, c, e, h0, h1, h2⟩ hb => ⟨mb, es, c, e, h0, (hb.block mb (Array.getElem?_eq_some_iff.1 h1).1).trans h1, h2⟩
theorem rs_sorts {ops : Array Oper} {o : Oper} {a : Act} {w : World} {ts : Array TypeId} {n0 : Nat} (hn : n0 ≤ w.heap.size) (hg : Region.wanted o (yielded ops a.tmps) = true)
    (hop : o.op = Op.call { callee := Callee.value (Operand.func 82), args := #[], argTypes := ts }) {D : Prop} (hD : ¬ D) : RStep Tryz.prog ops o a w (fun v w' => IsSorts n0 v w' ∧ (D → w.heap.size ≤ blk v)) :=
  rs_calln' hg hop (enters_of Tryz.func82 (by kernel_rfl) rfl) args0 ((lx_sorts w).mono fun _ _ ⟨⟨mb, es, c, e, h0, h1, h2⟩, hb⟩ => ⟨_, e, hb, ⟨mb, es, c, rfl, Nat.le_trans hn h0, h1, h2⟩, fun h => (hD h).elim⟩)
def optSV : Option (Nat → Nat) → Value | some s => .tuple #[setV s, .bool true] | none => .tuple #[setV emptyS, .bool false]
theorem zero_Set (W : World) : (zeroValue 37).run Tryz.prog W = .ok (setV emptyS) W := by kernel_rfl
theorem sortsF_at (c : Nat) : sortsF (.int .u8 c) = (sortP c).map setV := by simp [sortsF]
theorem rs_looksort {ops : Array Oper} {o : Oper} {a : Act} {w : World} {x y : Operand} {c : Nat} {D : Prop} {n0 : Nat} (hg : Region.wanted o (yielded ops a.tmps) = true) (hop : o.op = Op.lookup 135 x y true)
    (hx : IsSorts n0 (a.eval x) w) (hy : a.eval y = .int .u8 c) {u : Value} (hu : optSV (sortP c) = u) (hD : ¬ D) : RStep Tryz.prog ops o a w (fun v _ => v = u ∧ (D → w.heap.size ≤ blk v)) := by
  subst hu
  obtain ⟨mb, es, c', e, _, h1, h2⟩ := hx
  refine rs_pure hg ?_ hD
  cases hs : sortP c with
  | some s =>
    simp only [execOp, hop, hy, e, Sem.run_bind, run_lookup2 Tryz.underlying135 Tryz.underlying5 h1 h2 (show IsKey (.int .u8) (.int .u8 (c : Int)) from rfl) (show sortsF (.int .u8 (c : Int)) = some (setV s) by rw [sortsF_at, hs]; rfl), Result.andThen]
    rfl
  | none =>
    simp only [execOp, hop, hy, e, Sem.run_bind, run_lookup2_none Tryz.underlying135 Tryz.underlying5 h1 h2 (show IsKey (.int .u8) (.int .u8 (c : Int)) from rfl) (show sortsF (.int .u8 (c : Int)) = none by rw [sortsF_at, hs]; rfl) zero_Set, Result.andThen]
    rfl

set_option maxRecDepth 100000 in
set_option maxHeartbeats 4000000 in
theorem rd_many (rb : Nat) (L : Str) (i : Nat) (U : TypeId) (hL : L.length ≤ 2000) (hi : i ≤ L.length) (w0 : World) (hr : w0.heap[rb]? = some (.cells (rdC L i) U (0, 0))) :
    Calls Tryz.prog 61 #[ptrV rb] w0 (ReadsV rb L U w0 (.ok (manyR L i))) := by
  have H := HoldG.startB hr
  unfold manyR manyP
  have hrest := fun w h => rd_rest rb L i U hi w h
  generalize hT : L.drop i = T at hrest
  have hT0 := drop_at hT 0
  have hT1 := drop_at hT 1
  have hTl := drop_len hT
  rw [Nat.add_zero] at hT0
  rw [← hT0, ← hT1]
  clear hT
  by_cases h2 : i + 1 < L.length
  · have d1 : decide ((1 : Int) < (T.length : Int)) = true := by simp; omega
    have hb := byt_lt T 0
    have hb1 := byt_lt T 1
    have hlen : 1 < T.length := by omega
    by_cases h92 : byt T 0 = 92
    · rw [if_pos ⟨h92, h2⟩]
      have d92 : (((byt T 0 : Nat) : Int) == 92) = true := by rw [beq_iff_eq]; omega
      clear h92 hT0 hT1 hTl
      cases hs : sortP (byt T 1) with
      | some s =>
        go_enter Tryz.func61, Tryz.ntmps61
        go_upto_region 3 with (first | ((first | ((with_reducible refine kgA 2 ?_); refine kA 2 H ?_) | ((with_reducible refine kgX 2 ?_); (first | refine kS 2 H ?_ | refine kB 2 H ?_))); clear H; intro b2 w H; (try simp only [nrm, nrl, Value.cells] at H)) | ((with_reducible refine gI ?_); refine aI ?_) | (go_at_call 64; (with_reducible refine ch (hrest _ (H.blk .zero).2) H ?_); clear H; intro w H))
        refine wp_region_late 7 6 [IsSorts w.heap.size, fun v _ => v = .string ⟨T.toArray⟩, fun v _ => v = .int .u8 (byt T 1), fun v _ => v = .tuple #[setV s, .bool true], fun v _ => v = .tuple #[setV s, .bool true], fun v _ => v = setV s, fun v _ => v = .bool true] (fun _ => false) (by kernel_rfl) (by kernel_rfl) (by kernel_rfl) ⟨stable_sorts _, stable_eq _, stable_eq _, stable_eq _, stable_eq _, stable_eq _, stable_eq _, trivial⟩ (fun _ _ h => by cases h) ?ob ?en ?en2
        case ob =>
          refine ⟨?_, ?_, ?_, ?_, ?_, ?_, ?_, trivial⟩ <;> intro A W h
          · exact rs_sorts h.below.size rfl rfl (by decide)
          · exact rs_move rfl rfl (h.frame 4 rfl) (by decide)
          · exact rs_pure rfl (str_index_run rfl Tryz.underlying9 (h.dep 1 19 rfl rfl) rfl rfl hlen) (by decide)
          · exact rs_looksort rfl rfl (h.dep 0 18 rfl rfl) (h.dep 2 20 rfl rfl) (by rw [hs]; rfl) (by decide)
          · exact rs_move rfl rfl (h.dep 3 21 rfl rfl) (by decide)
          · (have e17 : A.eval (.tmp 17) = .tuple #[setV s, .bool true] := h.dep 4 17 rfl rfl; refine rs_pure rfl ?_ (by decide); simp only [execOp, e17]; (simp [go_sem] <;> first | done | omega | (rw [IntKind.wrap_i64]; omega) | (rw [IntKind.wrap_u8]; omega) | (rw [IntKind.wrap_u64]; omega)))
          · (have e17 : A.eval (.tmp 17) = .tuple #[setV s, .bool true] := h.dep 4 17 rfl rfl; refine rs_pure rfl ?_ (by decide); simp only [execOp, e17]; (simp [go_sem] <;> first | done | omega | (rw [IntKind.wrap_i64]; omega) | (rw [IntKind.wrap_u8]; omega) | (rw [IntKind.wrap_u64]; omega)))
        case en =>
          intro vals W hbw hv _
          have v1 : vals 1 = .string ⟨T.toArray⟩ := hv 1 (by omega)
          have v2 : vals 2 = .int .u8 (byt T 1) := hv 2 (by omega)
          have v3 : vals 3 = .tuple #[setV s, .bool true] := hv 3 (by omega)
          have v4 : vals 4 = .tuple #[setV s, .bool true] := hv 4 (by omega)
          have v5 : vals 5 = setV s := hv 5 (by omega)
          have v6 : vals 6 = .bool true := hv 6 (by omega)
          have x0 := hv 0 (by omega); simp only [lookS] at x0
          simp only [List.take_succ_cons, List.take_zero, List.drop_succ_cons, List.drop_zero, List.drop_nil, List.take_nil, fillAll, Nat.zero_add, Nat.reduceAdd]
          rw [v1, v2, v3, v4, v5, v6]
          clear hv v1 v2 v3 v4 v5 v6
          try simp only [put_lit, List.setIfInBounds_toArray, List.set_cons_succ, List.set_cons_zero]
          replace H := H.call hbw; clear hbw
          go_wp2_with (first | (first | ((with_reducible refine gT ?_); ((first | refine aS H ?_ | refine aO H ?_); clear H; intro w H; (try simp only [nrm, nrl, Value.cells] at H))) | ((with_reducible refine gL ?_); (first | refine aL H ?_ | refine aG H ?_))))
          (refine ret_ctS Tryz.results61 rfl (by first | rfl | (simp only [put_lit, put_no, List.setIfInBounds_toArray, List.set_cons_succ, List.set_cons_zero]; rfl)) H (by repeat (first | (with_reducible exact At.zero) | apply At.succ)) (by with_reducible exact row_Set) rfl ?_)
          exact ⟨H.keep, rfl, (H.blk .zero).2⟩
        case en2 =>
          intro vals W hbw hv _
          have v1 : vals 1 = .string ⟨T.toArray⟩ := hv 1 (by omega) (by omega)
          have v2 : vals 2 = .int .u8 (byt T 1) := hv 2 (by omega) (by omega)
          have v3 : vals 3 = .tuple #[setV s, .bool true] := hv 3 (by omega) (by omega)
          have v4 : vals 4 = .tuple #[setV s, .bool true] := hv 4 (by omega) (by omega)
          have v5 : vals 5 = setV s := hv 5 (by omega) (by omega)
          have x0 := hv 0 (by omega) (by omega); simp only [lookS] at x0
          simp only [List.take_succ_cons, List.take_zero, List.drop_succ_cons, List.drop_zero, List.drop_nil, List.take_nil, fillBut, lateL, List.cons_append, List.nil_append, Nat.reduceEqDiff, if_true, if_false, reduceCtorEq, Nat.zero_add, Nat.reduceAdd]
          rw [v1, v2, v3, v4, v5]
          clear hv v1 v2 v3 v4 v5
          try simp only [put_lit, List.setIfInBounds_toArray, List.set_cons_succ, List.set_cons_zero]
          replace H := H.call hbw; clear hbw
          go_wp2_with (first | (first | ((with_reducible refine gT ?_); ((first | refine aS H ?_ | refine aO H ?_); clear H; intro w H; (try simp only [nrm, nrl, Value.cells] at H))) | ((with_reducible refine gL ?_); (first | refine aL H ?_ | refine aG H ?_))))
          (refine ret_ctS Tryz.results61 rfl (by first | rfl | (simp only [put_lit, put_no, List.setIfInBounds_toArray, List.set_cons_succ, List.set_cons_zero]; rfl)) H (by repeat (first | (with_reducible exact At.zero) | apply At.succ)) (by with_reducible exact row_Set) rfl ?_)
          exact ⟨H.keep, rfl, (H.blk .zero).2⟩
      | none =>
        go_enter Tryz.func61, Tryz.ntmps61
        go_upto_region 3 with (first | ((first | ((with_reducible refine kgA 2 ?_); refine kA 2 H ?_) | ((with_reducible refine kgX 2 ?_); (first | refine kS 2 H ?_ | refine kB 2 H ?_))); clear H; intro b2 w H; (try simp only [nrm, nrl, Value.cells] at H)) | ((with_reducible refine gI ?_); refine aI ?_) | (go_at_call 64; (with_reducible refine ch (hrest _ (H.blk .zero).2) H ?_); clear H; intro w H))
        refine wp_region_late 7 6 [IsSorts w.heap.size, fun v _ => v = .string ⟨T.toArray⟩, fun v _ => v = .int .u8 (byt T 1), fun v _ => v = .tuple #[setV emptyS, .bool false], fun v _ => v = .tuple #[setV emptyS, .bool false], fun v _ => v = setV emptyS, fun v _ => v = .bool false] (fun _ => false) (by kernel_rfl) (by kernel_rfl) (by kernel_rfl) ⟨stable_sorts _, stable_eq _, stable_eq _, stable_eq _, stable_eq _, stable_eq _, stable_eq _, trivial⟩ (fun _ _ h => by cases h) ?ob ?en ?en2
        case ob =>
          refine ⟨?_, ?_, ?_, ?_, ?_, ?_, ?_, trivial⟩ <;> intro A W h
          · exact rs_sorts h.below.size rfl rfl (by decide)
          · exact rs_move rfl rfl (h.frame 4 rfl) (by decide)
          · exact rs_pure rfl (str_index_run rfl Tryz.underlying9 (h.dep 1 19 rfl rfl) rfl rfl hlen) (by decide)
          · exact rs_looksort rfl rfl (h.dep 0 18 rfl rfl) (h.dep 2 20 rfl rfl) (by rw [hs]; rfl) (by decide)
          · exact rs_move rfl rfl (h.dep 3 21 rfl rfl) (by decide)
          · (have e17 : A.eval (.tmp 17) = .tuple #[setV emptyS, .bool false] := h.dep 4 17 rfl rfl; refine rs_pure rfl ?_ (by decide); simp only [execOp, e17]; (simp [go_sem] <;> first | done | omega | (rw [IntKind.wrap_i64]; omega) | (rw [IntKind.wrap_u8]; omega) | (rw [IntKind.wrap_u64]; omega)))
          · (have e17 : A.eval (.tmp 17) = .tuple #[setV emptyS, .bool false] := h.dep 4 17 rfl rfl; refine rs_pure rfl ?_ (by decide); simp only [execOp, e17]; (simp [go_sem] <;> first | done | omega | (rw [IntKind.wrap_i64]; omega) | (rw [IntKind.wrap_u8]; omega) | (rw [IntKind.wrap_u64]; omega)))
        case en =>
          intro vals W hbw hv _
          have v1 : vals 1 = .string ⟨T.toArray⟩ := hv 1 (by omega)
          have v2 : vals 2 = .int .u8 (byt T 1) := hv 2 (by omega)
          have v3 : vals 3 = .tuple #[setV emptyS, .bool false] := hv 3 (by omega)
          have v4 : vals 4 = .tuple #[setV emptyS, .bool false] := hv 4 (by omega)
          have v5 : vals 5 = setV emptyS := hv 5 (by omega)
          have v6 : vals 6 = .bool false := hv 6 (by omega)
          have x0 := hv 0 (by omega); simp only [lookS] at x0
          simp only [List.take_succ_cons, List.take_zero, List.drop_succ_cons, List.drop_zero, List.drop_nil, List.take_nil, fillAll, Nat.zero_add, Nat.reduceAdd]
          rw [v1, v2, v3, v4, v5, v6]
          clear hv v1 v2 v3 v4 v5 v6
          try simp only [put_lit, List.setIfInBounds_toArray, List.set_cons_succ, List.set_cons_zero]
          replace H := H.call hbw; clear hbw
          go_wp2_with (first | (first | ((with_reducible refine gT ?_); (refine aS H ?_; clear H; intro w H; (try simp only [nrm, nrl, Value.cells] at H))) | ((with_reducible refine gL ?_); refine aL H ?_)))
          (refine ret_ctS Tryz.results61 rfl (by first | rfl | (simp only [put_lit, put_no, List.setIfInBounds_toArray, List.set_cons_succ, List.set_cons_zero]; rfl)) H (by repeat (first | (with_reducible exact At.zero) | apply At.succ)) (by with_reducible exact row_Set) rfl ?_)
          exact ⟨H.keep, rfl, (H.blk .zero).2⟩
        case en2 =>
          intro vals W hbw hv _
          have v1 : vals 1 = .string ⟨T.toArray⟩ := hv 1 (by omega) (by omega)
          have v2 : vals 2 = .int .u8 (byt T 1) := hv 2 (by omega) (by omega)
          have v3 : vals 3 = .tuple #[setV emptyS, .bool false] := hv 3 (by omega) (by omega)
          have v4 : vals 4 = .tuple #[setV emptyS, .bool false] := hv 4 (by omega) (by omega)
          have v5 : vals 5 = setV emptyS := hv 5 (by omega) (by omega)
          have x0 := hv 0 (by omega) (by omega); simp only [lookS] at x0
          simp only [List.take_succ_cons, List.take_zero, List.drop_succ_cons, List.drop_zero, List.drop_nil, List.take_nil, fillBut, lateL, List.cons_append, List.nil_append, Nat.reduceEqDiff, if_true, if_false, reduceCtorEq, Nat.zero_add, Nat.reduceAdd]
          rw [v1, v2, v3, v4, v5]
          clear hv v1 v2 v3 v4 v5
          try simp only [put_lit, List.setIfInBounds_toArray, List.set_cons_succ, List.set_cons_zero]
          replace H := H.call hbw; clear hbw
          go_wp2_with (first | (first | ((with_reducible refine gT ?_); (refine aS H ?_; clear H; intro w H; (try simp only [nrm, nrl, Value.cells] at H))) | ((with_reducible refine gL ?_); refine aL H ?_)))
          (refine ret_ctS Tryz.results61 rfl (by first | rfl | (simp only [put_lit, put_no, List.setIfInBounds_toArray, List.set_cons_succ, List.set_cons_zero]; rfl)) H (by repeat (first | (with_reducible exact At.zero) | apply At.succ)) (by with_reducible exact row_Set) rfl ?_)
          exact ⟨H.keep, rfl, (H.blk .zero).2⟩
    · rw [if_neg (fun h => h92 h.1)]
      have d92 : (((byt T 0 : Nat) : Int) == 92) = false := by rw [beq_eq_false_iff_ne]; omega
      clear h92 hT0 hT1 hTl
      go_enter Tryz.func61, Tryz.ntmps61
      go_wp2_with (first | ((first | ((with_reducible refine kgA 2 ?_); refine kA 2 H ?_) | ((with_reducible refine kgX 2 ?_); (first | refine kS 2 H ?_ | refine kB 2 H ?_))); clear H; intro b2 w H; (try simp only [nrm, nrl, Value.cells] at H)) | (first | ((with_reducible refine gT ?_); (refine aS H ?_; clear H; intro w H; (try simp only [nrm, nrl, Value.cells] at H))) | ((with_reducible refine gL ?_); refine aL H ?_) | ((with_reducible refine gI ?_); refine aI ?_)) | (go_at_call 64; (with_reducible refine ch (hrest _ (H.blk .zero).2) H ?_); clear H; intro w H))
      (refine ret_ctS Tryz.results61 rfl (by first | rfl | (simp only [put_lit, put_no, List.setIfInBounds_toArray, List.set_cons_succ, List.set_cons_zero]; rfl)) H (by repeat (first | (with_reducible exact At.zero) | apply At.succ)) (by with_reducible exact row_Set) rfl ?_)
      exact ⟨H.keep, rfl, (H.blk .zero).2⟩
  · rw [if_neg (fun h => h2 h.2)]
    have d1 : decide ((1 : Int) < (T.length : Int)) = false := by simp; omega
    clear hT0 hT1 hTl
    go_enter Tryz.func61, Tryz.ntmps61
    go_wp2_with (first | ((first | ((with_reducible refine kgA 2 ?_); refine kA 2 H ?_) | ((with_reducible refine kgX 2 ?_); (first | refine kS 2 H ?_ | refine kB 2 H ?_))); clear H; intro b2 w H; (try simp only [nrm, nrl, Value.cells] at H)) | (first | ((with_reducible refine gT ?_); (refine aS H ?_; clear H; intro w H; (try simp only [nrm, nrl, Value.cells] at H))) | ((with_reducible refine gL ?_); refine aL H ?_)) | (go_at_call 64; (with_reducible refine ch (hrest _ (H.blk .zero).2) H ?_); clear H; intro w H))
    (refine ret_ctS Tryz.results61 rfl (by first | rfl | (simp only [put_lit, put_no, List.setIfInBounds_toArray, List.set_cons_succ, List.set_cons_zero]; rfl)) H (by repeat (first | (with_reducible exact At.zero) | apply At.succ)) (by with_reducible exact row_Set) rfl ?_)
    exact ⟨H.keep, rfl, (H.blk .zero).2⟩
end Go.Proofs.YtllmgmfihijejaaGreatDoor
/-
  The walks of package lex: numbers of repeats.
-/
namespace Go.Proofs.YtllmgmfihijejaaGreatDoor
open Go.RowKit Go.Shelf Go.MapKept
attribute [local go_sem] Oper.semAt_some
set_option linter.unusedSimpArgs false

theorem digit_contains (c : UInt8) : ([48, 49, 50, 51, 52, 53, 54, 55, 56, 57] : List UInt8).contains c = isDigit c := by
  have key : ∀ n, n < 256 → ([48, 49, 50, 51, 52, 53, 54, 55, 56, 57] : List UInt8).contains (UInt8.ofNat n) = isDigit (UInt8.ofNat n) := by decide +kernel
  have := key c.toNat (UInt8.toNat_lt c)
  rwa [UInt8.ofNat_toNat] at this
theorem sh_trim (T : Str) (w0 : World) : Calls Tryz.prog 89 #[.string ⟨T.toArray⟩, .string ⟨#[48, 49, 50, 51, 52, 53, 54, 55, 56, 57]⟩] w0 fun e w' => e = .returned (.string ⟨(T.dropWhile isDigit).toArray⟩) ∧ Below w0.heap.size w0 w' :=
  (Go.Proofs.Any.strings_TrimLeft_laid Tryz.lays161 (by kernel_rfl) ⟨T.toArray⟩ ⟨#[48, 49, 50, 51, 52, 53, 54, 55, 56, 57]⟩ w0 (by decide) (by
    intro j b hb
    have := List.mem_of_getElem? hb
    simp only [List.mem_cons, List.not_mem_nil, or_false] at this
    rcases this with rfl | rfl | rfl | rfl | rfl | rfl | rfl | rfl | rfl | rfl <;> decide)).mono (by
    rintro e w ⟨rfl, hb⟩
    refine ⟨?_, hb⟩
    show Ending.returned (.string ⟨(T.dropWhile (fun x => ([48, 49, 50, 51, 52, 53, 54, 55, 56, 57] : List UInt8).contains x)).toArray⟩) = _
    rw [show (fun x => ([48, 49, 50, 51, 52, 53, 54, 55, 56, 57] : List UInt8).contains x) = isDigit from funext digit_contains])
section
variable {P : Program} {ops : Array Oper} {rest : List Oper} {o : Oper} {a : Act} {w w0 : World} {Q : Exit → Act → World → Prop} {l : List Res} {M : Nat → Prop}
theorem own_conv (hg : Region.wanted o (yielded ops a.tmps) = true) (S TS T : TypeId) (x : Operand) (ho : o.op = .convert S TS x) (hs : P.underlying S = some .string) (ht : P.underlying TS = some (.slice T)) (he : P.underlying T = some (.int .u8)) {L : Str} (hx : a.eval x = .string ⟨L.toArray⟩) (H : HoldG M w0 w l)
    (h : ∀ g cap w', HoldG M w0 w' l → (∀ j, j < L.length → w'.cell? ⟨g, j, none⟩ = some (.int .u8 (byt L j))) → wpList P ops Q rest (a.put o.dst (.slice (some ⟨g, 0, none⟩) L.length cap)) w') : wpList P ops Q (o :: rest) a w :=
  wpList_wanted hg fun _ hK => by
    unfold Oper.wp
    have hr := run_bytes_of_string (P := P) w S TS T ⟨L.toArray⟩ hs ht he
    have hsz : (⟨L.toArray⟩ : ByteArray).size = L.length := by simp [ByteArray.size]
    have hex : (execOp a.eval o).run P w = .ok (.value (.slice (some ⟨w.heap.size, 0, none⟩) L.length (grownCap w L.length 0 T))) (w.drew.alloc (.cells (bytesRow ⟨L.toArray⟩ (grownCap w L.length 0 T)) T ((bytesRow ⟨L.toArray⟩ (grownCap w L.length 0 T)).size, (bytesRow ⟨L.toArray⟩ (grownCap w L.length 0 T)).size + 1))) := by
      rw [hsz] at hr
      simp only [execOp, ho, hx, Sem.run_bind, hr, Result.andThen]
      rfl
    rw [hex]
    simp only [Oper.upon]
    refine hK _ _ (h _ _ _ (H.call ((Below.refl _ w).drew.alloc (Nat.le_refl _) _)) (fun j hj => ?_))
    rw [cell_of_row _ w.heap.size j _ _ _ (World.alloc_heap_new w.drew _)]
    rw [bytesRow_at ⟨L.toArray⟩ _ j (by simpa using hj)]
    unfold byt
    rw [List.getD_eq_getElem?_getD, List.getElem?_eq_getElem hj]
    simp
end

def numR (L : Str) (i : Nat) : Value × Nat := match numberP L i with | some (n, k) => (.tuple #[.int .i64 n, .bool true], k) | none => (.tuple #[.int .i64 0, .bool false], i)
theorem numF_step {ds : Str} {k : Nat} (hk : k < ds.length) : numF (ds.take (k + 1)) = min (10 * numF (ds.take k) + (byt ds k - 48)) 101 := by
  have e : ds.take (k + 1) = ds.take k ++ [ds[k]] := by simp
  rw [e, numF_snoc, byt_get hk]
theorem takeWhile_all {p : UInt8 → Bool} {l : Str} {k : Nat} (hk : k < (l.takeWhile p).length) : p (l.takeWhile p)[k] = true := by
  have := List.all_takeWhile (p := p) (l := l)
  exact List.all_eq_true.1 this _ (List.getElem_mem hk)

set_option maxRecDepth 100000 in
set_option maxHeartbeats 4000000 in
theorem rd_number (rb : Nat) (L : Str) (i : Nat) (U : TypeId) (hL : L.length ≤ 2000) (hi : i ≤ L.length) (w0 : World) (hr : w0.heap[rb]? = some (.cells (rdC L i) U (0, 0))) :
    Calls Tryz.prog 65 #[ptrV rb] w0 (ReadsV rb L U w0 (.ok (numR L i))) := by
  have H := HoldG.startB hr
  have E : numR L i = numR L i := rfl
  conv at E => rhs; unfold numR numberP
  have hrest := fun w h => rd_rest rb L i U hi w h
  have hb48 : ∀ k, (hk : k < ((L.drop i).takeWhile isDigit).length) → 48 ≤ byt ((L.drop i).takeWhile isDigit) k ∧ byt ((L.drop i).takeWhile isDigit) k ≤ 57 := by
    intro k hk
    have := takeWhile_all hk
    rw [byt_get hk]
    simpa [isDigit] using this
  have hsum : ((L.drop i).takeWhile isDigit).length + ((L.drop i).dropWhile isDigit).length = (L.drop i).length := by
    rw [← List.length_append, List.takeWhile_append_dropWhile]
  have htk : (L.drop i).take ((L.drop i).takeWhile isDigit).length = (L.drop i).takeWhile isDigit := by
    have h1 := List.takeWhile_append_dropWhile (p := isDigit) (l := L.drop i)
    have h2 : ((L.drop i).takeWhile isDigit ++ (L.drop i).dropWhile isDigit).take ((L.drop i).takeWhile isDigit).length = (L.drop i).takeWhile isDigit := List.take_left
    rwa [h1] at h2
  have hlen : ((L.drop i).takeWhile isDigit).length ≤ L.length - i := by
    have := (List.takeWhile_prefix isDigit (l := L.drop i)).length_le; simpa using this
  have hfirst : ((L.drop i).takeWhile isDigit) ≠ [] → byt ((L.drop i).takeWhile isDigit) 0 = byt L i := by
    intro hne
    have h0 : 0 < ((L.drop i).takeWhile isDigit).length := List.length_pos_iff.2 hne
    have := drop_at (L := L) (T := L.drop i) (i := i) rfl 0
    rw [Nat.add_zero] at this
    rw [← this]
    unfold byt
    conv => rhs; rw [← List.takeWhile_append_dropWhile (p := isDigit) (l := L.drop i)]
    rw [List.getD_eq_getElem?_getD, List.getD_eq_getElem?_getD, List.getElem?_append_left h0]
  have htrim := fun w => sh_trim (L.drop i) w
  generalize hT : L.drop i = T at hrest hb48 hsum htk hlen hfirst htrim E
  generalize hds : T.takeWhile isDigit = ds at hb48 hsum htk hlen hfirst E
  generalize hrs : T.dropWhile isDigit = rs at hsum htrim
  have hNC : (T.length : Int) - (rs.length : Int) = ((ds.length : Nat) : Int) := by omega
  have hle : ds.length ≤ T.length := by omega
  have HS := Lib.hid hsum; have HT := Lib.hid htk
  clear hT hds hrs hsum htk
  go_enter Tryz.func65, Tryz.ntmps65
  go_upto_region 3 with (first | ((with_reducible refine gU ?_); refine aU ?_) | (go_at_call 64; (with_reducible refine ch (hrest _ (H.blk .zero).2) H ?_); clear H; intro w H) | (go_at_call 89; (with_reducible refine ch (htrim _) H ?_); clear H; intro w H))
  rw [HT.out]
  clear HT HS hNC htrim
  by_cases hd0 : ds = []
  · have e0 : (ds == ([] : Str)) = true := by simp [hd0]
    rw [if_pos (.inl hd0)] at E; simp only [] at E
    have E3 := Lib.hid (show (Except.ok (numR L i) : Except Nat (Value × Nat)) = .ok (_, _) from congrArg _ E); clear E hd0 hfirst hb48
    go_wp2_with (first | ((with_reducible refine gE ?_); refine aE ?_))
    go_ret2
    exact readsV_ok E3.out H.keep (H.blk .zero).2
  · have e0 : (ds == ([] : Str)) = false := by rw [beq_eq_false_iff_ne]; exact hd0
    have hf := hfirst hd0
    have hpos : 0 < ds.length := List.length_pos_iff.2 hd0
    rw [← hf] at E
    clear hfirst hf
    by_cases h1 : 1 < ds.length
    · have d1 : decide ((1 : Int) < (ds.length : Int)) = true := by simp; omega
      by_cases h48 : byt ds 0 = 48
      · have d48 : (((byt ds 0 : Nat) : Int) == 48) = true := by rw [beq_iff_eq]; omega
        rw [if_pos (.inr ⟨h1, h48⟩)] at E; simp only [] at E
        have E3 := Lib.hid (show (Except.ok (numR L i) : Except Nat (Value × Nat)) = .ok (_, _) from congrArg _ E); clear E hd0 hb48 h48
        go_wp2_with (first | (first | ((with_reducible refine gI ?_); refine aI ?_) | ((with_reducible refine gE ?_); refine aE ?_)))
        go_ret2
        exact readsV_ok E3.out H.keep (H.blk .zero).2
      · have d48 : (((byt ds 0 : Nat) : Int) == 48) = false := by rw [beq_eq_false_iff_ne]; omega
        rw [if_neg (fun h => h.elim hd0 (fun h => h48 h.2))] at E; simp only [] at E
        have E3 := Lib.hid (show (Except.ok (numR L i) : Except Nat (Value × Nat)) = .ok (_, _) from congrArg _ E); clear E hd0 h48
        go_upto_region 5 with (first | (first | ((with_reducible refine gI ?_); refine aI ?_) | ((with_reducible refine gE ?_); refine aE ?_)))
        clear d1 d48 e0
        go_wp2_with (first | ((with_reducible show @wpList _ _ _ ({ dst := _, op := Op.convert _ _ _, type := _, pos := _, after := _, guard := _ } :: _) _ _); refine own_conv (by first | rfl | exact wanted_g rfl (yielded_of rfl (by first | rfl | (simp only [put_lit, put_no, List.setIfInBounds_toArray, List.set_cons_succ, List.set_cons_zero, ev_tmp, ev_const, ev_glob, ev_func, List.getD_cons_succ, List.getD_cons_zero]; rfl)))) 9 22 5 _ rfl Tryz.underlying9 Tryz.underlying22 Tryz.underlying5 rfl H ?_; clear H; intro g cap w H hg) | fail)
        have HG := Lib.hid hg; clear hg
        go_loopw [2, 35] (fun n k wr => ∃ j : Nat, j ≤ ds.length ∧ k = .int .i64 j ∧ n = .int .i64 (numF (ds.take j) : Nat) ∧ HoldG (· = rb) w0 wr [.blk rb (rdC L i) U] ∧ Hid (∀ j, j < ds.length → wr.cell? ⟨g, j, none⟩ = some (.int .u8 (byt ds j)))) (fun _ k _ => ds.length + 1 - (intOf k).toNat)
        case atStart => exact ⟨0, by omega, rfl, by simp [numF], H, HG⟩
        case round =>
          clear H HG
          obtain ⟨j, hj, rfl, rfl, H, HG⟩ := hrel
          have hnle := numF_le (ds.take j)
          by_cases hlt : j < ds.length
          · have hst := numF_step hlt
            have hb := hb48 j hlt
            have hc := HG.out j hlt
            generalize hn : numF (ds.take j) = n at hnle hst
            have HST := Lib.hid hst; clear hst hn
            have hd : decide ((j : Int) < (ds.length : Int)) = true := by simp; omega
            have hw1 : IntKind.u8.wrap ((byt ds j : Int) - 48) = (byt ds j : Int) - 48 := by rw [IntKind.wrap_u8]; omega
            go_wp2_with (first | fail)
            go_roundw
            case rel => exact ⟨j + 1, by omega, by go_num, by rw [HST.out]; congr 1; omega, H, HG⟩
            case measure => simp [intOf]; omega
          · have hd : decide ((j : Int) < (ds.length : Int)) = false := by simp; omega
            have hj2 : j = ds.length := by omega
            subst hj2
            rw [List.take_length] at hnle ⊢
            go_wp2_with (first | (first | ((with_reducible refine gT ?_); (refine aO H ?_; clear H; intro w H; (try simp only [nrm, nrl, Value.cells] at H))) | ((with_reducible refine gL ?_); refine aG H ?_)))
            go_ret2
            exact readsV_ok E3.out H.keep (H.blk .zero).2
    · have d1 : decide ((1 : Int) < (ds.length : Int)) = false := by simp; omega
      rw [if_neg (fun h => h.elim hd0 (fun h => h1 h.1))] at E; simp only [] at E
      have E3 := Lib.hid (show (Except.ok (numR L i) : Except Nat (Value × Nat)) = .ok (_, _) from congrArg _ E); clear E hd0
      go_upto_region 5 with (first | ((with_reducible refine gE ?_); refine aE ?_))
      clear d1 e0
      go_wp2_with (first | ((with_reducible show @wpList _ _ _ ({ dst := _, op := Op.convert _ _ _, type := _, pos := _, after := _, guard := _ } :: _) _ _); refine own_conv (by first | rfl | exact wanted_g rfl (yielded_of rfl (by first | rfl | (simp only [put_lit, put_no, List.setIfInBounds_toArray, List.set_cons_succ, List.set_cons_zero, ev_tmp, ev_const, ev_glob, ev_func, List.getD_cons_succ, List.getD_cons_zero]; rfl)))) 9 22 5 _ rfl Tryz.underlying9 Tryz.underlying22 Tryz.underlying5 rfl H ?_; clear H; intro g cap w H hg) | fail)
      have HG := Lib.hid hg; clear hg
      go_loopw [2, 35] (fun n k wr => ∃ j : Nat, j ≤ ds.length ∧ k = .int .i64 j ∧ n = .int .i64 (numF (ds.take j) : Nat) ∧ HoldG (· = rb) w0 wr [.blk rb (rdC L i) U] ∧ Hid (∀ j, j < ds.length → wr.cell? ⟨g, j, none⟩ = some (.int .u8 (byt ds j)))) (fun _ k _ => ds.length + 1 - (intOf k).toNat)
      case atStart => exact ⟨0, by omega, rfl, by simp [numF], H, HG⟩
      case round =>
        clear H HG
        obtain ⟨j, hj, rfl, rfl, H, HG⟩ := hrel
        have hnle := numF_le (ds.take j)
        by_cases hlt : j < ds.length
        · have hst := numF_step hlt
          have hb := hb48 j hlt
          have hc := HG.out j hlt
          generalize hn : numF (ds.take j) = n at hnle hst
          have HST := Lib.hid hst; clear hst hn
          have hd : decide ((j : Int) < (ds.length : Int)) = true := by simp; omega
          have hw1 : IntKind.u8.wrap ((byt ds j : Int) - 48) = (byt ds j : Int) - 48 := by rw [IntKind.wrap_u8]; omega
          go_wp2_with (first | fail)
          go_roundw
          case rel => exact ⟨j + 1, by omega, by go_num, by rw [HST.out]; congr 1; omega, H, HG⟩
          case measure => simp [intOf]; omega
        · have hd : decide ((j : Int) < (ds.length : Int)) = false := by simp; omega
          have hj2 : j = ds.length := by omega
          subst hj2
          rw [List.take_length] at hnle ⊢
          go_wp2_with (first | (first | ((with_reducible refine gT ?_); (refine aO H ?_; clear H; intro w H; (try simp only [nrm, nrl, Value.cells] at H))) | ((with_reducible refine gL ?_); refine aG H ?_)))
          go_ret2
          exact readsV_ok E3.out H.keep (H.blk .zero).2
end Go.Proofs.YtllmgmfihijejaaGreatDoor
/-
  The walks of package lex: repeats.
-/
namespace Go.Proofs.YtllmgmfihijejaaGreatDoor
open Go.RowKit Go.Shelf Go.MapKept
attribute [local go_sem] Oper.semAt_some
set_option linter.unusedSimpArgs false

theorem rd_number_of (rb : Nat) (L : Str) (i : Nat) (U : TypeId) (hL : L.length ≤ 2000) (hi : i ≤ L.length) {r : Value × Nat} (hx : numR L i = r) (w0 : World) (hr : w0.heap[rb]? = some (.cells (rdC L i) U (0, 0))) :
    Calls Tryz.prog 65 #[ptrV rb] w0 (ReadsV rb L U w0 (.ok r)) := hx ▸ rd_number rb L i U hL hi w0 hr
def bracesR (L : Str) (i : Nat) (v : Value) (j : Nat) : Prop := match bracesP L i with
  | some (lo, hi, k) => v = .tuple #[.int .i64 lo, .int .i64 hi, .bool true] ∧ j = k
  | none => (∃ lo hi : Int, v = .tuple #[.int .i64 lo, .int .i64 hi, .bool false]) ∧ j = i + 1
theorem skip_of {L : Str} {k : Nat} {t : Str} {b : Bool} (rb : Nat) (ht : t.length ≤ 10) (U : TypeId) (hL : L.length ≤ 2000) (hi : k ≤ L.length) (hb : atP L k t = b) (w0 : World) (hr : w0.heap[rb]? = some (.cells (rdC L k) U (0, 0))) :
    Calls Tryz.prog 40 #[ptrV rb, .string ⟨t.toArray⟩] w0 (ReadsV rb L U w0 (.ok (.bool b, if b then k + t.length else k))) := hb ▸ rd_skip rb L k t ht U hL hi w0 hr

set_option maxRecDepth 100000 in
set_option maxHeartbeats 4000000 in
theorem rd_braces (rb : Nat) (L : Str) (i : Nat) (U : TypeId) (hL : L.length ≤ 2000) (hi : i + 1 ≤ L.length) (w0 : World) (hr : w0.heap[rb]? = some (.cells (rdC L (i + 1)) U (0, 0))) :
    Calls Tryz.prog 42 #[ptrV rb] w0 fun e w' => ∃ v j, bracesR L i v j ∧ ReadsV rb L U w0 (.ok (v, j)) e w' := by
  have H := HoldG.startB hr
  have E : bracesP L i = bracesP L i := rfl
  conv at E => rhs; unfold bracesP
  cases hn : numberP L (i + 1) with
  | none =>
    rw [hn] at E; simp only [] at E
    have hN : numR L (i + 1) = (.tuple #[.int .i64 0, .bool false], i + 1) := by unfold numR; rw [hn]
    clear hn
    have E3 : ∀ lo hi : Int, bracesR L i (.tuple #[.int .i64 lo, .int .i64 hi, .bool false]) (i + 1) := by intro lo hi; unfold bracesR; rw [E]; exact ⟨⟨lo, hi, rfl⟩, rfl⟩
    have E4 := Lib.hid E3; clear E E3
    go_enter Tryz.func42, Tryz.ntmps42
    go_wp2_with (first | (first | ((with_reducible refine gT ?_); (refine aO H ?_; clear H; intro w H; (try simp only [nrm, nrl, Value.cells] at H))) | ((with_reducible refine gL ?_); refine aG H ?_)) | (go_at_call 65; (with_reducible refine (rd_number_of rb L (i + 1) U hL hi hN _ (H.blk .zero).2).mono ?_); rintro e w ⟨hk, rfl, hr⟩; replace H := H.callBut (by repeat (first | (with_reducible exact At.zero) | apply At.succ)) hk hr; clear hk hr; (try simp only [nrm, nrl, Value.cells] at H)))
    go_ret3
    exact ⟨_, _, E4.out _ _, H.keep, rfl, (H.blk .zero).2⟩
  | some p =>
    obtain ⟨n, k⟩ := p
    obtain ⟨hk1, hk2, hn1⟩ := numberP_le hn hi
    rw [hn] at E; simp only [] at E
    have hN : numR L (i + 1) = (.tuple #[.int .i64 n, .bool true], k) := by unfold numR; rw [hn]
    clear hn
    cases h1 : atP L k [44, 125] with
    | true =>
      rw [h1] at E; simp only [if_true] at E
      have S1 := fun w h => skip_of rb (by simp) U hL hk2 h1 w h
      simp only [if_true, List.length_cons, List.length_nil] at S1
      have E3 : bracesR L i (.tuple #[.int .i64 n, .int .i64 (-1), .bool true]) (k + 2) := by unfold bracesR; rw [E]; exact ⟨rfl, rfl⟩
      have E4 := Lib.hid E3; clear E E3 h1
      go_enter Tryz.func42, Tryz.ntmps42
      go_wp2_with (first | ((with_reducible refine gL ?_); refine aG H ?_) | (go_at_call 65; (with_reducible refine (rd_number_of rb L (i + 1) U hL hi hN _ (H.blk .zero).2).mono ?_); rintro e w ⟨hk, rfl, hr⟩; replace H := H.callBut (by repeat (first | (with_reducible exact At.zero) | apply At.succ)) hk hr; clear hk hr; (try simp only [nrm, nrl, Value.cells] at H)) | (go_at_call 40; (with_reducible refine (S1 _ (H.blk .zero).2).mono ?_); rintro e w ⟨hk, rfl, hr⟩; replace H := H.callBut (by repeat (first | (with_reducible exact At.zero) | apply At.succ)) hk hr; clear hk hr; (try simp only [nrm, nrl, Value.cells] at H)))
      go_ret3
      exact ⟨_, _, E4.out, H.keep, rfl, (H.blk .zero).2⟩
    | false =>
      rw [h1] at E; simp only [Bool.false_eq_true, if_false] at E
      have S1 := fun w h => skip_of rb (by simp) U hL hk2 h1 w h
      simp only [Bool.false_eq_true, if_false] at S1
      clear h1
      cases h2 : atP L k [44] with
      | true =>
        rw [h2] at E; simp only [if_true] at E
        have hle := at_le h2 (by simp)
        simp only [List.length_cons, List.length_nil, Nat.zero_add] at hle
        have S2 := fun w h => skip_of rb (by simp) U hL hk2 h2 w h
        simp only [if_true, List.length_cons, List.length_nil, Nat.zero_add] at S2
        clear h2
        cases hm : numberP L (k + 1) with
        | none =>
          rw [hm] at E; simp only [] at E
          have hM : numR L (k + 1) = (.tuple #[.int .i64 0, .bool false], k + 1) := by unfold numR; rw [hm]
          clear hm
          have E3 : ∀ lo hi : Int, bracesR L i (.tuple #[.int .i64 lo, .int .i64 hi, .bool false]) (i + 1) := by intro lo hi; unfold bracesR; rw [E]; exact ⟨⟨lo, hi, rfl⟩, rfl⟩
          have E4 := Lib.hid E3; clear E E3
          go_enter Tryz.func42, Tryz.ntmps42
          go_wp2_with (first | (first | ((with_reducible refine gT ?_); (refine aO H ?_; clear H; intro w H; (try simp only [nrm, nrl, Value.cells] at H))) | ((with_reducible refine gL ?_); refine aG H ?_)) | (go_at_call 65; (with_reducible refine (rd_number_of rb L (i + 1) U hL hi hN _ (H.blk .zero).2).mono ?_); rintro e w ⟨hk, rfl, hr⟩; replace H := H.callBut (by repeat (first | (with_reducible exact At.zero) | apply At.succ)) hk hr; clear hk hr; (try simp only [nrm, nrl, Value.cells] at H)) | (go_at_call 40; (with_reducible refine (S1 _ (H.blk .zero).2).mono ?_); rintro e w ⟨hk, rfl, hr⟩; replace H := H.callBut (by repeat (first | (with_reducible exact At.zero) | apply At.succ)) hk hr; clear hk hr; (try simp only [nrm, nrl, Value.cells] at H)) | (go_at_call 40; (with_reducible refine (S2 _ (H.blk .zero).2).mono ?_); rintro e w ⟨hk, rfl, hr⟩; replace H := H.callBut (by repeat (first | (with_reducible exact At.zero) | apply At.succ)) hk hr; clear hk hr; (try simp only [nrm, nrl, Value.cells] at H)) | (go_at_call 65; (with_reducible refine (rd_number_of rb L (k + 1) U hL hle hM _ (H.blk .zero).2).mono ?_); rintro e w ⟨hk, rfl, hr⟩; replace H := H.callBut (by repeat (first | (with_reducible exact At.zero) | apply At.succ)) hk hr; clear hk hr; (try simp only [nrm, nrl, Value.cells] at H)))
          go_ret3
          exact ⟨_, _, E4.out _ _, H.keep, rfl, (H.blk .zero).2⟩
        | some q =>
          obtain ⟨m, e⟩ := q
          obtain ⟨he1, he2, hm1⟩ := numberP_le hm hle
          rw [hm] at E; simp only [] at E
          have hM : numR L (k + 1) = (.tuple #[.int .i64 m, .bool true], e) := by unfold numR; rw [hm]
          clear hm
          cases h3 : atP L e [125] with
          | true =>
            rw [h3] at E; simp only [if_true] at E
            have S3 := fun w h => skip_of rb (by simp) U hL he2 h3 w h
            simp only [if_true, List.length_cons, List.length_nil, Nat.zero_add] at S3
            have E3 : bracesR L i (.tuple #[.int .i64 n, .int .i64 m, .bool true]) (e + 1) := by unfold bracesR; rw [E]; exact ⟨rfl, rfl⟩
            have E4 := Lib.hid E3; clear E E3 h3
            go_enter Tryz.func42, Tryz.ntmps42
            go_wp2_with (first | ((with_reducible refine gL ?_); refine aG H ?_) | (go_at_call 65; (with_reducible refine (rd_number_of rb L (i + 1) U hL hi hN _ (H.blk .zero).2).mono ?_); rintro e w ⟨hk, rfl, hr⟩; replace H := H.callBut (by repeat (first | (with_reducible exact At.zero) | apply At.succ)) hk hr; clear hk hr; (try simp only [nrm, nrl, Value.cells] at H)) | (go_at_call 40; (with_reducible refine (S1 _ (H.blk .zero).2).mono ?_); rintro e w ⟨hk, rfl, hr⟩; replace H := H.callBut (by repeat (first | (with_reducible exact At.zero) | apply At.succ)) hk hr; clear hk hr; (try simp only [nrm, nrl, Value.cells] at H)) | (go_at_call 40; (with_reducible refine (S2 _ (H.blk .zero).2).mono ?_); rintro e w ⟨hk, rfl, hr⟩; replace H := H.callBut (by repeat (first | (with_reducible exact At.zero) | apply At.succ)) hk hr; clear hk hr; (try simp only [nrm, nrl, Value.cells] at H)) | (go_at_call 65; (with_reducible refine (rd_number_of rb L (k + 1) U hL hle hM _ (H.blk .zero).2).mono ?_); rintro e w ⟨hk, rfl, hr⟩; replace H := H.callBut (by repeat (first | (with_reducible exact At.zero) | apply At.succ)) hk hr; clear hk hr; (try simp only [nrm, nrl, Value.cells] at H)) | (go_at_call 40; (with_reducible refine (S3 _ (H.blk .zero).2).mono ?_); rintro e w ⟨hk, rfl, hr⟩; replace H := H.callBut (by repeat (first | (with_reducible exact At.zero) | apply At.succ)) hk hr; clear hk hr; (try simp only [nrm, nrl, Value.cells] at H)))
            go_ret3
            exact ⟨_, _, E4.out, H.keep, rfl, (H.blk .zero).2⟩
          | false =>
            rw [h3] at E; simp only [Bool.false_eq_true, if_false] at E
            have S3 := fun w h => skip_of rb (by simp) U hL he2 h3 w h
            simp only [Bool.false_eq_true, if_false] at S3
            have E3 : ∀ lo hi : Int, bracesR L i (.tuple #[.int .i64 lo, .int .i64 hi, .bool false]) (i + 1) := by intro lo hi; unfold bracesR; rw [E]; exact ⟨⟨lo, hi, rfl⟩, rfl⟩
            have E4 := Lib.hid E3; clear E E3 h3
            go_enter Tryz.func42, Tryz.ntmps42
            go_wp2_with (first | (first | ((with_reducible refine gT ?_); (refine aO H ?_; clear H; intro w H; (try simp only [nrm, nrl, Value.cells] at H))) | ((with_reducible refine gL ?_); refine aG H ?_)) | (go_at_call 65; (with_reducible refine (rd_number_of rb L (i + 1) U hL hi hN _ (H.blk .zero).2).mono ?_); rintro e w ⟨hk, rfl, hr⟩; replace H := H.callBut (by repeat (first | (with_reducible exact At.zero) | apply At.succ)) hk hr; clear hk hr; (try simp only [nrm, nrl, Value.cells] at H)) | (go_at_call 40; (with_reducible refine (S1 _ (H.blk .zero).2).mono ?_); rintro e w ⟨hk, rfl, hr⟩; replace H := H.callBut (by repeat (first | (with_reducible exact At.zero) | apply At.succ)) hk hr; clear hk hr; (try simp only [nrm, nrl, Value.cells] at H)) | (go_at_call 40; (with_reducible refine (S2 _ (H.blk .zero).2).mono ?_); rintro e w ⟨hk, rfl, hr⟩; replace H := H.callBut (by repeat (first | (with_reducible exact At.zero) | apply At.succ)) hk hr; clear hk hr; (try simp only [nrm, nrl, Value.cells] at H)) | (go_at_call 65; (with_reducible refine (rd_number_of rb L (k + 1) U hL hle hM _ (H.blk .zero).2).mono ?_); rintro e w ⟨hk, rfl, hr⟩; replace H := H.callBut (by repeat (first | (with_reducible exact At.zero) | apply At.succ)) hk hr; clear hk hr; (try simp only [nrm, nrl, Value.cells] at H)) | (go_at_call 40; (with_reducible refine (S3 _ (H.blk .zero).2).mono ?_); rintro e w ⟨hk, rfl, hr⟩; replace H := H.callBut (by repeat (first | (with_reducible exact At.zero) | apply At.succ)) hk hr; clear hk hr; (try simp only [nrm, nrl, Value.cells] at H)))
            go_ret3
            exact ⟨_, _, E4.out _ _, H.keep, rfl, (H.blk .zero).2⟩
      | false =>
        rw [h2] at E; simp only [Bool.false_eq_true, if_false] at E
        have S2 := fun w h => skip_of rb (by simp) U hL hk2 h2 w h
        simp only [Bool.false_eq_true, if_false] at S2
        clear h2
        cases h3 : atP L k [125] with
        | true =>
          rw [h3] at E; simp only [if_true] at E
          have S3 := fun w h => skip_of rb (by simp) U hL hk2 h3 w h
          simp only [if_true, List.length_cons, List.length_nil, Nat.zero_add] at S3
          have E3 : bracesR L i (.tuple #[.int .i64 n, .int .i64 n, .bool true]) (k + 1) := by unfold bracesR; rw [E]; exact ⟨rfl, rfl⟩
          have E4 := Lib.hid E3; clear E E3 h3
          go_enter Tryz.func42, Tryz.ntmps42
          go_wp2_with (first | ((with_reducible refine gL ?_); refine aG H ?_) | (go_at_call 65; (with_reducible refine (rd_number_of rb L (i + 1) U hL hi hN _ (H.blk .zero).2).mono ?_); rintro e w ⟨hk, rfl, hr⟩; replace H := H.callBut (by repeat (first | (with_reducible exact At.zero) | apply At.succ)) hk hr; clear hk hr; (try simp only [nrm, nrl, Value.cells] at H)) | (go_at_call 40; (with_reducible refine (S1 _ (H.blk .zero).2).mono ?_); rintro e w ⟨hk, rfl, hr⟩; replace H := H.callBut (by repeat (first | (with_reducible exact At.zero) | apply At.succ)) hk hr; clear hk hr; (try simp only [nrm, nrl, Value.cells] at H)) | (go_at_call 40; (with_reducible refine (S2 _ (H.blk .zero).2).mono ?_); rintro e w ⟨hk, rfl, hr⟩; replace H := H.callBut (by repeat (first | (with_reducible exact At.zero) | apply At.succ)) hk hr; clear hk hr; (try simp only [nrm, nrl, Value.cells] at H)) | (go_at_call 40; (with_reducible refine (S3 _ (H.blk .zero).2).mono ?_); rintro e w ⟨hk, rfl, hr⟩; replace H := H.callBut (by repeat (first | (with_reducible exact At.zero) | apply At.succ)) hk hr; clear hk hr; (try simp only [nrm, nrl, Value.cells] at H)))
          go_ret3
          exact ⟨_, _, E4.out, H.keep, rfl, (H.blk .zero).2⟩
        | false =>
          rw [h3] at E; simp only [Bool.false_eq_true, if_false] at E
          have S3 := fun w h => skip_of rb (by simp) U hL hk2 h3 w h
          simp only [Bool.false_eq_true, if_false] at S3
          have E3 : ∀ lo hi : Int, bracesR L i (.tuple #[.int .i64 lo, .int .i64 hi, .bool false]) (i + 1) := by intro lo hi; unfold bracesR; rw [E]; exact ⟨⟨lo, hi, rfl⟩, rfl⟩
          have E4 := Lib.hid E3; clear E E3 h3
          go_enter Tryz.func42, Tryz.ntmps42
          go_wp2_with (first | (first | ((with_reducible refine gT ?_); (refine aO H ?_; clear H; intro w H; (try simp only [nrm, nrl, Value.cells] at H))) | ((with_reducible refine gL ?_); refine aG H ?_)) | (go_at_call 65; (with_reducible refine (rd_number_of rb L (i + 1) U hL hi hN _ (H.blk .zero).2).mono ?_); rintro e w ⟨hk, rfl, hr⟩; replace H := H.callBut (by repeat (first | (with_reducible exact At.zero) | apply At.succ)) hk hr; clear hk hr; (try simp only [nrm, nrl, Value.cells] at H)) | (go_at_call 40; (with_reducible refine (S1 _ (H.blk .zero).2).mono ?_); rintro e w ⟨hk, rfl, hr⟩; replace H := H.callBut (by repeat (first | (with_reducible exact At.zero) | apply At.succ)) hk hr; clear hk hr; (try simp only [nrm, nrl, Value.cells] at H)) | (go_at_call 40; (with_reducible refine (S2 _ (H.blk .zero).2).mono ?_); rintro e w ⟨hk, rfl, hr⟩; replace H := H.callBut (by repeat (first | (with_reducible exact At.zero) | apply At.succ)) hk hr; clear hk hr; (try simp only [nrm, nrl, Value.cells] at H)) | (go_at_call 40; (with_reducible refine (S3 _ (H.blk .zero).2).mono ?_); rintro e w ⟨hk, rfl, hr⟩; replace H := H.callBut (by repeat (first | (with_reducible exact At.zero) | apply At.succ)) hk hr; clear hk hr; (try simp only [nrm, nrl, Value.cells] at H)))
          go_ret3
          exact ⟨_, _, E4.out _ _, H.keep, rfl, (H.blk .zero).2⟩
end Go.Proofs.YtllmgmfihijejaaGreatDoor
/-
  The walks of package lex: names in classes, items.
-/
namespace Go.Proofs.YtllmgmfihijejaaGreatDoor
open Go.RowKit Go.Shelf Go.MapKept
attribute [local go_sem] Oper.semAt_some
set_option linter.unusedSimpArgs false

/-- what strings.Cut leans on: a number in the program's first block -/
def MaxL (w : World) : Prop := ∃ m : Int, w.cell? ⟨0, 0, none⟩ = some (.int .i64 m)
theorem MaxL.block {w w' : World} (h : MaxL w) (e : w'.heap[0]? = w.heap[0]?) : MaxL w' := by
  obtain ⟨m, h⟩ := h
  refine ⟨m, ?_⟩
  unfold World.cell? at h ⊢
  simp only at h ⊢
  rw [e]; exact h
theorem MaxL.lt {w : World} (h : MaxL w) : 0 < w.heap.size := by
  obtain ⟨m, h⟩ := h
  rcases Nat.eq_zero_or_pos w.heap.size with h0 | h0
  · unfold World.cell? at h
    simp [Array.getElem?_eq_none (Nat.le_of_eq h0)] at h
  · exact h0
theorem MaxL.keep {rb : Nat} {w w' : World} (h : MaxL w) (hrb : rb ≠ 0) (hk : KeepBut (· = rb) w.heap.size w w') : MaxL w' := h.block (hk.old 0 h.lt (fun e => hrb e.symm))
theorem MaxL.below {w w' : World} (h : MaxL w) (hk : Below w.heap.size w w') : MaxL w' := h.block (hk.block 0 h.lt)

theorem index_find {t : Str} (ht : t ≠ []) : ∀ l : Str, Lib.index l t = match findP t l with | some k => (k : Int) | none => -1
  | [] => by
    unfold Lib.index findP
    cases t with
    | nil => exact absurd rfl ht
    | cons a r => rfl
  | c :: l => by
    unfold Lib.index findP
    by_cases h : t.isPrefixOf (c :: l) = true
    · rw [if_pos h, if_pos h]; rfl
    · rw [if_neg h, if_neg h, index_find ht l]
      cases findP t l with
      | none => rfl
      | some k =>
        simp only [Option.map_some]
        have : ((k : Int) == -1) = false := by rw [beq_eq_false_iff_ne]; omega
        rw [this]; rfl
theorem cut_some {t l : Str} (ht : t ≠ []) {k : Nat} (h : findP t l = some k) : Lib.cut l t = (l.take k, l.drop (k + t.length), true) := by
  have hi := index_find ht l
  rw [h] at hi
  unfold Lib.cut
  rw [hi, if_pos (by simp)]
  rfl
theorem cut_none {t l : Str} (ht : t ≠ []) (h : findP t l = none) : Lib.cut l t = (l, [], false) := by
  have hi := index_find ht l
  rw [h] at hi
  unfold Lib.cut
  rw [hi, if_neg (by simp)]
theorem sh_cut (T A B : Str) (f : Bool) (hT : T.length ≤ 2000) (hc : Lib.cut T [58, 93] = (A, B, f)) (w0 : World) (hm : MaxL w0) : Calls Tryz.prog 102 #[.string ⟨T.toArray⟩, .string ⟨#[58, 93]⟩] w0 fun e w' => e = .returned (.tuple #[.string ⟨A.toArray⟩, .string ⟨B.toArray⟩, .bool f]) ∧ Below w0.heap.size w0 w' := by
  obtain ⟨m, hm⟩ := hm
  refine (Tryz.strings_Cut ⟨T.toArray⟩ ⟨#[58, 93]⟩ m w0 (by simp [ByteArray.size]; omega) hm).mono ?_
  rintro e w ⟨rfl, n, rfl⟩
  refine ⟨?_, ⟨rfl, rfl, rfl, Nat.le_refl _, fun _ _ => rfl⟩⟩
  show Ending.returned (.tuple #[.string ⟨(Lib.cut T [58, 93]).1.toArray⟩, .string ⟨(Lib.cut T [58, 93]).2.1.toArray⟩, .bool (Lib.cut T [58, 93]).2.2]) = _
  rw [hc]
theorem sh_cutp (T : Str) (w0 : World) : Calls Tryz.prog 101 #[.string ⟨T.toArray⟩, .string ⟨#[91, 58]⟩] w0 fun e w' => e = .returned (.tuple #[.string ⟨(if atP T 0 [91, 58] then T.drop 2 else T).toArray⟩, .bool (atP T 0 [91, 58])]) ∧ Below w0.heap.size w0 w' :=
  (Tryz.strings_CutPrefix ⟨T.toArray⟩ ⟨#[91, 58]⟩ w0).mono (by
    rintro e w ⟨rfl, rfl⟩
    exact ⟨rfl, Below.refl _ _⟩)
theorem sh_cuth (T : Str) (w0 : World) : Calls Tryz.prog 101 #[.string ⟨T.toArray⟩, .string ⟨#[94]⟩] w0 fun e w' => e = .returned (.tuple #[.string ⟨(if atP T 0 [94] then T.drop 1 else T).toArray⟩, .bool (atP T 0 [94])]) ∧ Below w0.heap.size w0 w' :=
  (Tryz.strings_CutPrefix ⟨T.toArray⟩ ⟨#[94]⟩ w0).mono (by
    rintro e w ⟨rfl, rfl⟩
    exact ⟨rfl, Below.refl _ _⟩)

def nameR (L : Str) (i : Nat) : Except Nat (Value × Nat) := match nameP L i with
  | none => .ok (.tuple #[setV emptyS, .bool false], i)
  | some none => .error 4
  | some (some (s, e)) => .ok (.tuple #[setV s, .bool true], e)

set_option maxRecDepth 100000 in
set_option maxHeartbeats 4000000 in
theorem rd_name (rb : Nat) (L : Str) (i : Nat) (U : TypeId) (hL : L.length ≤ 2000) (hi : i ≤ L.length) (hrb : rb ≠ 0) (w0 : World) (hz : MaxL w0) (hr : w0.heap[rb]? = some (.cells (rdC L i) U (0, 0))) :
    Calls Tryz.prog 87 #[ptrV rb] w0 (ReadsV rb L U w0 (nameR L i)) := by
  have H := HoldG.startB hr
  have E : nameR L i = nameR L i := rfl
  conv at E => rhs; unfold nameR nameP
  have hrest := fun w h => rd_rest rb L i U hi w h
  have hcp := fun w => sh_cutp (L.drop i) w
  have hA : atP (L.drop i) 0 [91, 58] = atP L i [91, 58] := rfl
  rw [hA] at hcp
  have hTl : (L.drop i).length ≤ 2000 := by simp; omega
  have hdd : (L.drop i).drop 2 = L.drop (i + 2) := by simp
  rw [hdd] at hcp
  clear hA hdd
  have ZZ : ∀ W, KeepBut (· = rb) w0.heap.size w0 W → MaxL W := fun W hk => hz.keep hrb hk
  cases hp : atP L i [91, 58]
  · rw [hp] at E hcp
    simp only [Bool.false_eq_true, if_false] at E hcp
    rw [E]; clear E hp
    generalize hT : L.drop i = T at hrest hcp hTl
    clear hT
    cases hc : Lib.cut T [58, 93] with
    | mk A r =>
    obtain ⟨B, f⟩ := r
    go_enter Tryz.func87, Tryz.ntmps87
    go_wp2_with (first | ((first | ((with_reducible refine kgA 2 ?_); refine kA 2 H ?_) | ((with_reducible refine kgX 2 ?_); (first | refine kS 2 H ?_ | refine kB 2 H ?_))); clear H; intro b2 w H; (try simp only [nrm, nrl, Value.cells] at H)) | (first | ((with_reducible refine gT ?_); (refine aS H ?_; clear H; intro w H; (try simp only [nrm, nrl, Value.cells] at H))) | ((with_reducible refine gL ?_); refine aL H ?_)) | (go_at_call 64; (with_reducible refine ch (hrest _ (H.blk .zero).2) H ?_); clear H; intro w H) | (go_at_call 101; (with_reducible refine ch (hcp _) H ?_); clear H; intro w H) | (go_at_call 102; (with_reducible refine ch (sh_cut T A B f hTl hc _ (ZZ _ H.keep)) H ?_); clear H; intro w H))
    (refine ret_ctS Tryz.results87 rfl (by first | rfl | (simp only [put_lit, put_no, List.setIfInBounds_toArray, List.set_cons_succ, List.set_cons_zero]; rfl)) H (by repeat (first | (with_reducible exact At.zero) | apply At.succ)) (by with_reducible exact row_Set) rfl ?_)
    exact ⟨H.keep, rfl, (H.blk .zero).2⟩
  · rw [hp] at E hcp
    simp only [if_true] at E hcp
    have hle := at_le hp (by simp)
    have hTl2 : (L.drop (i + 2)).length ≤ 2000 := by simp; omega
    clear hp
    cases hf : findP [58, 93] (L.drop (i + 2)) with
    | none =>
      rw [hf] at E; simp only [] at E
      rw [E]; clear E
      have hc := cut_none (by simp) hf
      clear hf
      generalize hT : L.drop i = T at hrest hcp hTl
      generalize hT2 : L.drop (i + 2) = T2 at hc hcp hTl2
      clear hT hT2
      go_enter Tryz.func87, Tryz.ntmps87
      go_wp2_with (first | ((first | ((with_reducible refine kgA 2 ?_); refine kA 2 H ?_) | ((with_reducible refine kgX 2 ?_); (first | refine kS 2 H ?_ | refine kB 2 H ?_))); clear H; intro b2 w H; (try simp only [nrm, nrl, Value.cells] at H)) | (first | ((with_reducible refine gT ?_); (refine aS H ?_; clear H; intro w H; (try simp only [nrm, nrl, Value.cells] at H))) | ((with_reducible refine gL ?_); refine aL H ?_)) | (go_at_call 64; (with_reducible refine ch (hrest _ (H.blk .zero).2) H ?_); clear H; intro w H) | (go_at_call 101; (with_reducible refine ch (hcp _) H ?_); clear H; intro w H) | (go_at_call 102; (with_reducible refine ch (sh_cut T2 T2 [] false hTl2 hc _ (ZZ _ H.keep)) H ?_); clear H; intro w H))
      (refine ret_ctS Tryz.results87 rfl (by first | rfl | (simp only [put_lit, put_no, List.setIfInBounds_toArray, List.set_cons_succ, List.set_cons_zero]; rfl)) H (by repeat (first | (with_reducible exact At.zero) | apply At.succ)) (by with_reducible exact row_Set) rfl ?_)
      exact ⟨H.keep, rfl, (H.blk .zero).2⟩
    | some k =>
      rw [hf] at E; simp only [] at E
      have hc := cut_some (by simp) hf
      have hk := findP_le hf
      clear hf
      simp only [List.length_drop, List.length_cons, List.length_nil] at hk hle
      generalize hnm : (L.drop (i + 2)).take k = nm at E hc
      have hnl : nm.length = k := by rw [← hnm]; simp; omega
      have hnl2 : (nm.length : Int) = (k : Int) := by rw [hnl]
      clear hnm
      have hch := fun w => sh_cuth nm w
      generalize hB : (L.drop (i + 2)).drop (k + [58, 93].length) = B at hc
      clear hB
      cases hn : atP nm 0 [94]
      · rw [hn] at E hch
        simp only [Bool.false_eq_true, if_false] at E hch
        clear hn
        cases hnn : namedP nm with
        | none =>
          rw [hnn] at E; simp only [] at E
          rw [E]; clear E
          generalize hT : L.drop i = T at hrest hcp hTl
          generalize hT2 : L.drop (i + 2) = T2 at hc hcp hTl2
          clear hT hT2 hnl
          go_enter Tryz.func87, Tryz.ntmps87
          go_wp2_with (first | ((first | ((with_reducible refine kgA 2 ?_); refine kA 2 H ?_) | ((with_reducible refine kgX 2 ?_); (first | refine kS 2 H ?_ | refine kB 2 H ?_))); clear H; intro b2 w H; (try simp only [nrm, nrl, Value.cells] at H)) | (first | ((with_reducible refine gT ?_); ((first | refine aS H ?_ | refine aO H ?_); clear H; intro w H; (try simp only [nrm, nrl, Value.cells] at H))) | ((with_reducible refine gL ?_); refine aG H ?_)) | (go_at_call 64; (with_reducible refine ch (hrest _ (H.blk .zero).2) H ?_); clear H; intro w H) | (go_at_call 101; (with_reducible refine ch (hcp _) H ?_); clear H; intro w H) | (go_at_call 101; (with_reducible refine ch (hch _) H ?_); clear H; intro w H) | (go_at_call 102; (with_reducible refine ch (sh_cut T2 nm B true hTl2 hc _ (ZZ _ H.keep)) H ?_); clear H; intro w H) | (go_at_call 86; (with_reducible refine (lx_names _).mono ?_); rintro e w ⟨⟨mb, es, mc, rfl, hmn, hmh, hM⟩, hb⟩; replace H := H.gainMp hb hmn hmh; clear hb hmn hmh; (try simp only [nrm, nrl, Value.cells] at H)) | ((with_reducible show @wpList _ _ _ ({ dst := _, op := Op.lookup _ _ _ true, type := _, pos := _, after := _, guard := _ } :: _) _ _); refine own_lookup2N (by first | rfl | exact wanted_g rfl (yielded_of rfl (by first | rfl | (simp only [put_lit, put_no, List.setIfInBounds_toArray, List.set_cons_succ, List.set_cons_zero, ev_tmp, ev_const, ev_glob, ev_func, List.getD_cons_succ, List.getD_cons_zero]; rfl)))) _ _ _ rfl Tryz.underlying137 Tryz.underlying9 rfl (by first | (simp only [put_lit, put_no, List.setIfInBounds_toArray, List.set_cons_succ, List.set_cons_zero, ev_tmp, ev_const, ev_glob, ev_func, List.getD_cons_succ, List.getD_cons_zero]; done) | (simp only [put_lit, put_no, List.setIfInBounds_toArray, List.set_cons_succ, List.set_cons_zero, ev_tmp, ev_const, ev_glob, ev_func, List.getD_cons_succ, List.getD_cons_zero]; rfl)) H (by repeat (first | (with_reducible exact At.zero) | apply At.succ)) hM (by first | trivial | rfl) ⟨(show namesF _ = none by rw [namesF_str, hnn]; rfl), zero_Set⟩ ?_) | (go_at_call 60; (with_reducible refine ch (must_no4 _) H ?_); clear H; intro w H))
          exact ⟨rfl, H.keep, rfl⟩
        | some s =>
          rw [hnn] at E; simp only [] at E
          rw [E]; clear E
          generalize hT : L.drop i = T at hrest hcp hTl
          generalize hT2 : L.drop (i + 2) = T2 at hc hcp hTl2
          clear hT hT2 hnl
          go_enter Tryz.func87, Tryz.ntmps87
          go_wp2_with (first | ((first | ((with_reducible refine kgA 2 ?_); refine kA 2 H ?_) | ((with_reducible refine kgX 2 ?_); (first | refine kS 2 H ?_ | refine kB 2 H ?_))); clear H; intro b2 w H; (try simp only [nrm, nrl, Value.cells] at H)) | (first | ((with_reducible refine gT ?_); ((first | refine aS H ?_ | refine aO H ?_); clear H; intro w H; (try simp only [nrm, nrl, Value.cells] at H))) | ((with_reducible refine gL ?_); (first | refine aL H ?_ | refine aG H ?_))) | (go_at_call 64; (with_reducible refine ch (hrest _ (H.blk .zero).2) H ?_); clear H; intro w H) | (go_at_call 101; (with_reducible refine ch (hcp _) H ?_); clear H; intro w H) | (go_at_call 101; (with_reducible refine ch (hch _) H ?_); clear H; intro w H) | (go_at_call 102; (with_reducible refine ch (sh_cut T2 nm B true hTl2 hc _ (ZZ _ H.keep)) H ?_); clear H; intro w H) | (go_at_call 86; (with_reducible refine (lx_names _).mono ?_); rintro e w ⟨⟨mb, es, mc, rfl, hmn, hmh, hM⟩, hb⟩; replace H := H.gainMp hb hmn hmh; clear hb hmn hmh; (try simp only [nrm, nrl, Value.cells] at H)) | ((with_reducible show @wpList _ _ _ ({ dst := _, op := Op.lookup _ _ _ true, type := _, pos := _, after := _, guard := _ } :: _) _ _); refine own_lookup2 (by first | rfl | exact wanted_g rfl (yielded_of rfl (by first | rfl | (simp only [put_lit, put_no, List.setIfInBounds_toArray, List.set_cons_succ, List.set_cons_zero, ev_tmp, ev_const, ev_glob, ev_func, List.getD_cons_succ, List.getD_cons_zero]; rfl)))) _ _ _ rfl Tryz.underlying137 Tryz.underlying9 rfl (by first | (simp only [put_lit, put_no, List.setIfInBounds_toArray, List.set_cons_succ, List.set_cons_zero, ev_tmp, ev_const, ev_glob, ev_func, List.getD_cons_succ, List.getD_cons_zero]; done) | (simp only [put_lit, put_no, List.setIfInBounds_toArray, List.set_cons_succ, List.set_cons_zero, ev_tmp, ev_const, ev_glob, ev_func, List.getD_cons_succ, List.getD_cons_zero]; rfl)) H (by repeat (first | (with_reducible exact At.zero) | apply At.succ)) hM (by first | trivial | rfl) (show namesF _ = some (setV s) by rw [namesF_str, hnn]; rfl) ?_) | (go_at_call 60; (with_reducible refine ch (must_yes4 _) H ?_); clear H; intro w H))
          (refine ret_ctS Tryz.results87 rfl (by first | rfl | (simp only [put_lit, put_no, List.setIfInBounds_toArray, List.set_cons_succ, List.set_cons_zero]; rfl)) H (by repeat (first | (with_reducible exact At.zero) | apply At.succ)) (by with_reducible exact row_Set) rfl ?_)
          refine ⟨H.keep, rfl, ?_⟩
          rw [(H.blk .zero).2]
          rw [show ((i : Int) + ((k : Int) + 4)) = ((i + 2 + k + 2 : Nat) : Int) from by omega]
      · rw [hn] at E hch
        simp only [if_true] at E hch
        clear hn
        cases hnn : namedP (nm.drop 1) with
        | none =>
          rw [hnn] at E; simp only [] at E
          rw [E]; clear E
          generalize hT : L.drop i = T at hrest hcp hTl
          generalize hT2 : L.drop (i + 2) = T2 at hc hcp hTl2
          generalize hT3 : nm.drop 1 = nm2 at hnn hch
          clear hT hT2 hnl hT3
          go_enter Tryz.func87, Tryz.ntmps87
          go_wp2_with (first | ((first | ((with_reducible refine kgA 2 ?_); refine kA 2 H ?_) | ((with_reducible refine kgX 2 ?_); (first | refine kS 2 H ?_ | refine kB 2 H ?_))); clear H; intro b2 w H; (try simp only [nrm, nrl, Value.cells] at H)) | (first | ((with_reducible refine gT ?_); ((first | refine aS H ?_ | refine aO H ?_); clear H; intro w H; (try simp only [nrm, nrl, Value.cells] at H))) | ((with_reducible refine gL ?_); refine aG H ?_)) | (go_at_call 64; (with_reducible refine ch (hrest _ (H.blk .zero).2) H ?_); clear H; intro w H) | (go_at_call 101; (with_reducible refine ch (hcp _) H ?_); clear H; intro w H) | (go_at_call 101; (with_reducible refine ch (hch _) H ?_); clear H; intro w H) | (go_at_call 102; (with_reducible refine ch (sh_cut T2 nm B true hTl2 hc _ (ZZ _ H.keep)) H ?_); clear H; intro w H) | (go_at_call 86; (with_reducible refine (lx_names _).mono ?_); rintro e w ⟨⟨mb, es, mc, rfl, hmn, hmh, hM⟩, hb⟩; replace H := H.gainMp hb hmn hmh; clear hb hmn hmh; (try simp only [nrm, nrl, Value.cells] at H)) | ((with_reducible show @wpList _ _ _ ({ dst := _, op := Op.lookup _ _ _ true, type := _, pos := _, after := _, guard := _ } :: _) _ _); refine own_lookup2N (by first | rfl | exact wanted_g rfl (yielded_of rfl (by first | rfl | (simp only [put_lit, put_no, List.setIfInBounds_toArray, List.set_cons_succ, List.set_cons_zero, ev_tmp, ev_const, ev_glob, ev_func, List.getD_cons_succ, List.getD_cons_zero]; rfl)))) _ _ _ rfl Tryz.underlying137 Tryz.underlying9 rfl (by first | (simp only [put_lit, put_no, List.setIfInBounds_toArray, List.set_cons_succ, List.set_cons_zero, ev_tmp, ev_const, ev_glob, ev_func, List.getD_cons_succ, List.getD_cons_zero]; done) | (simp only [put_lit, put_no, List.setIfInBounds_toArray, List.set_cons_succ, List.set_cons_zero, ev_tmp, ev_const, ev_glob, ev_func, List.getD_cons_succ, List.getD_cons_zero]; rfl)) H (by repeat (first | (with_reducible exact At.zero) | apply At.succ)) hM (by first | trivial | rfl) ⟨(show namesF _ = none by rw [namesF_str, hnn]; rfl), zero_Set⟩ ?_) | (go_at_call 60; (with_reducible refine ch (must_no4 _) H ?_); clear H; intro w H))
          exact ⟨rfl, H.keep, rfl⟩
        | some s =>
          rw [hnn] at E; simp only [] at E
          rw [E]; clear E
          have hso := namedP_ok hnn
          generalize hT : L.drop i = T at hrest hcp hTl
          generalize hT2 : L.drop (i + 2) = T2 at hc hcp hTl2
          generalize hT3 : nm.drop 1 = nm2 at hnn hch
          clear hT hT2 hnl hT3
          go_enter Tryz.func87, Tryz.ntmps87
          go_wp2_with (first | ((first | ((with_reducible refine kgA 2 ?_); refine kA 2 H ?_) | ((with_reducible refine kgX 2 ?_); (first | refine kS 2 H ?_ | refine kB 2 H ?_))); clear H; intro b2 w H; (try simp only [nrm, nrl, Value.cells] at H)) | (first | ((with_reducible refine gT ?_); ((first | refine aS H ?_ | refine aO H ?_); clear H; intro w H; (try simp only [nrm, nrl, Value.cells] at H))) | ((with_reducible refine gL ?_); (first | refine aL H ?_ | refine aG H ?_))) | (go_at_call 64; (with_reducible refine ch (hrest _ (H.blk .zero).2) H ?_); clear H; intro w H) | (go_at_call 101; (with_reducible refine ch (hcp _) H ?_); clear H; intro w H) | (go_at_call 101; (with_reducible refine ch (hch _) H ?_); clear H; intro w H) | (go_at_call 102; (with_reducible refine ch (sh_cut T2 nm B true hTl2 hc _ (ZZ _ H.keep)) H ?_); clear H; intro w H) | (go_at_call 86; (with_reducible refine (lx_names _).mono ?_); rintro e w ⟨⟨mb, es, mc, rfl, hmn, hmh, hM⟩, hb⟩; replace H := H.gainMp hb hmn hmh; clear hb hmn hmh; (try simp only [nrm, nrl, Value.cells] at H)) | ((with_reducible show @wpList _ _ _ ({ dst := _, op := Op.lookup _ _ _ true, type := _, pos := _, after := _, guard := _ } :: _) _ _); refine own_lookup2 (by first | rfl | exact wanted_g rfl (yielded_of rfl (by first | rfl | (simp only [put_lit, put_no, List.setIfInBounds_toArray, List.set_cons_succ, List.set_cons_zero, ev_tmp, ev_const, ev_glob, ev_func, List.getD_cons_succ, List.getD_cons_zero]; rfl)))) _ _ _ rfl Tryz.underlying137 Tryz.underlying9 rfl (by first | (simp only [put_lit, put_no, List.setIfInBounds_toArray, List.set_cons_succ, List.set_cons_zero, ev_tmp, ev_const, ev_glob, ev_func, List.getD_cons_succ, List.getD_cons_zero]; done) | (simp only [put_lit, put_no, List.setIfInBounds_toArray, List.set_cons_succ, List.set_cons_zero, ev_tmp, ev_const, ev_glob, ev_func, List.getD_cons_succ, List.getD_cons_zero]; rfl)) H (by repeat (first | (with_reducible exact At.zero) | apply At.succ)) hM (by first | trivial | rfl) (show namesF _ = some (setV s) by rw [namesF_str, hnn]; rfl) ?_) | (go_at_call 60; (with_reducible refine ch (must_yes4 _) H ?_); clear H; intro w H) | (go_at_call 98; (with_reducible refine ch (set_Not s hso _) H ?_); clear H; intro w H))
          (refine ret_ctS Tryz.results87 rfl (by first | rfl | (simp only [put_lit, put_no, List.setIfInBounds_toArray, List.set_cons_succ, List.set_cons_zero]; rfl)) H (by repeat (first | (with_reducible exact At.zero) | apply At.succ)) (by with_reducible exact row_Set) rfl ?_)
          refine ⟨H.keep, rfl, ?_⟩
          rw [(H.blk .zero).2]
          rw [show ((i : Int) + ((k : Int) + 4)) = ((i + 2 + k + 2 : Nat) : Int) from by omega]
end Go.Proofs.YtllmgmfihijejaaGreatDoor
/-
  The walks of package lex: items, classes.
-/
namespace Go.Proofs.YtllmgmfihijejaaGreatDoor
open Go.RowKit Go.Shelf Go.MapKept
attribute [local go_sem] Oper.semAt_some
set_option linter.unusedSimpArgs false

theorem rd_name_of (rb : Nat) (L : Str) (i : Nat) (U : TypeId) (hL : L.length ≤ 2000) (hi : i ≤ L.length) (hrb : rb ≠ 0) {r : Except Nat (Value × Nat)} (hx : nameR L i = r) (w0 : World) (hz : MaxL w0) (hr : w0.heap[rb]? = some (.cells (rdC L i) U (0, 0))) :
    Calls Tryz.prog 87 #[ptrV rb] w0 (ReadsV rb L U w0 r) := hx ▸ rd_name rb L i U hL hi hrb w0 hz hr
theorem rd_many_of (rb : Nat) (L : Str) (i : Nat) (U : TypeId) (hL : L.length ≤ 2000) (hi : i ≤ L.length) {r : Value × Nat} (hx : manyR L i = r) (w0 : World) (hr : w0.heap[rb]? = some (.cells (rdC L i) U (0, 0))) :
    Calls Tryz.prog 61 #[ptrV rb] w0 (ReadsV rb L U w0 (.ok r)) := hx ▸ rd_many rb L i U hL hi w0 hr
theorem of_1 (c : Nat) (hc : c < 256) (v : Value) (w : World) (h : Rd w w.heap.size v [.int .u8 c]) : Calls Tryz.prog 45 #[v] w fun e w' => e = .returned (setV (ofS [(c : Int)])) ∧ Below w.heap.size w w' :=
  set_Of v [(c : Int)] (by intro x hx; simp at hx; subst hx; omega) w h
theorem rest_of (rb : Nat) (L : Str) (i : Nat) (U : TypeId) (hi : i ≤ L.length) {T : Str} (hT : L.drop i = T) (w0 : World) (hr : w0.heap[rb]? = some (.cells (rdC L i) U (0, 0))) :
    Calls Tryz.prog 64 #[ptrV rb] w0 fun e w' => e = .returned (.string ⟨T.toArray⟩) ∧ Below w0.heap.size w0 w' := hT ▸ rd_rest rb L i U hi w0 hr
def itemR (L : Str) (i : Nat) : Except Nat (Value × Nat) := match itemP L i with | some (s, e) => .ok (setV s, e) | none => .error 4

set_option maxRecDepth 100000 in
set_option maxHeartbeats 4000000 in
theorem rd_item (rb : Nat) (L : Str) (i : Nat) (U : TypeId) (hL : L.length ≤ 2000) (hi : i ≤ L.length) (hrb : rb ≠ 0) (w0 : World) (hz : MaxL w0) (hr : w0.heap[rb]? = some (.cells (rdC L i) U (0, 0))) :
    Calls Tryz.prog 63 #[ptrV rb] w0 (ReadsV rb L U w0 (itemR L i)) := by
  have H := HoldG.startB hr
  have E : itemR L i = itemR L i := rfl
  conv at E => rhs; unfold itemR itemP
  have ZZ : ∀ W, KeepBut (· = rb) w0.heap.size w0 W → MaxL W := fun W hk => hz.keep hrb hk
  cases hn : nameP L i with
  | some o =>
    cases o with
    | none =>
      rw [hn] at E; simp only [] at E
      rw [E]; clear E
      have hN : nameR L i = .error 4 := by unfold nameR; rw [hn]
      clear hn
      go_enter Tryz.func63, Tryz.ntmps63
      go_wp2_with (first | ((first | ((with_reducible refine kgA 2 ?_); refine kA 2 H ?_) | ((with_reducible refine kgX 2 ?_); (first | refine kS 2 H ?_ | refine kB 2 H ?_))); clear H; intro b2 w H; (try simp only [nrm, nrl, Value.cells] at H)) | fail | (go_at_call 87; (with_reducible refine (rd_name_of rb L i U hL hi hrb hN _ (ZZ _ H.keep) (H.blk .zero).2).mono ?_); rintro e w ⟨hk, rfl⟩; exact ⟨rfl, H.keep.trans (hk.mono H.keep.size (fun _ _ m => m)), rfl⟩))
    | some p =>
      obtain ⟨s, e⟩ := p
      rw [hn] at E; simp only [] at E
      rw [E]; clear E
      have hN : nameR L i = .ok (.tuple #[setV s, .bool true], e) := by unfold nameR; rw [hn]
      clear hn
      go_enter Tryz.func63, Tryz.ntmps63
      go_wp2_with (first | ((first | ((with_reducible refine kgA 2 ?_); refine kA 2 H ?_) | ((with_reducible refine kgX 2 ?_); (first | refine kS 2 H ?_ | refine kB 2 H ?_))); clear H; intro b2 w H; (try simp only [nrm, nrl, Value.cells] at H)) | ((first | ((with_reducible refine kgA 3 ?_); refine kA 3 H ?_) | ((with_reducible refine kgX 3 ?_); (first | refine kS 3 H ?_ | refine kB 3 H ?_))); clear H; intro b3 w H; (try simp only [nrm, nrl, Value.cells] at H)) | (first | ((with_reducible refine gT ?_); (refine aS H ?_; clear H; intro w H; (try simp only [nrm, nrl, Value.cells] at H))) | ((with_reducible refine gL ?_); refine aL H ?_)) | (go_at_call 87; (with_reducible refine (rd_name_of rb L i U hL hi hrb hN _ (ZZ _ H.keep) (H.blk .zero).2).mono ?_); rintro e w ⟨hk, rfl, hr⟩; replace H := H.callBut (by repeat (first | (with_reducible exact At.zero) | apply At.succ)) hk hr; clear hk hr; (try simp only [nrm, nrl, Value.cells] at H)))
      (refine ret_cS Tryz.results63 rfl H (by repeat (first | (with_reducible exact At.zero) | apply At.succ)) (by with_reducible exact row_Set) rfl ?_)
      exact ⟨H.keep, rfl, (H.blk .zero).2⟩
  | none =>
    rw [hn] at E; simp only [] at E
    have hN : nameR L i = .ok (.tuple #[setV emptyS, .bool false], i) := by unfold nameR; rw [hn]
    clear hn
    cases hm : manyP L i with
    | some s =>
      have hm' := hm
      unfold manyP at hm'
      rw [hm'] at E; simp only [] at E
      rw [E]; clear E hm'
      have hM2 : manyR L i = (.tuple #[setV s, .bool true], i + 2) := by unfold manyR; rw [hm]
      clear hm
      go_enter Tryz.func63, Tryz.ntmps63
      go_wp2_with (first | ((first | ((with_reducible refine kgA 2 ?_); refine kA 2 H ?_) | ((with_reducible refine kgX 2 ?_); (first | refine kS 2 H ?_ | refine kB 2 H ?_))); clear H; intro b2 w H; (try simp only [nrm, nrl, Value.cells] at H)) | ((first | ((with_reducible refine kgA 3 ?_); refine kA 3 H ?_) | ((with_reducible refine kgX 3 ?_); (first | refine kS 3 H ?_ | refine kB 3 H ?_))); clear H; intro b3 w H; (try simp only [nrm, nrl, Value.cells] at H)) | ((first | ((with_reducible refine kgA 5 ?_); refine kA 5 H ?_) | ((with_reducible refine kgX 5 ?_); (first | refine kS 5 H ?_ | refine kB 5 H ?_))); clear H; intro b5 w H; (try simp only [nrm, nrl, Value.cells] at H)) | (first | ((with_reducible refine gT ?_); (refine aS H ?_; clear H; intro w H; (try simp only [nrm, nrl, Value.cells] at H))) | ((with_reducible refine gL ?_); refine aL H ?_)) | (go_at_call 87; (with_reducible refine (rd_name_of rb L i U hL hi hrb hN _ (ZZ _ H.keep) (H.blk .zero).2).mono ?_); rintro e w ⟨hk, rfl, hr⟩; replace H := H.callBut (by repeat (first | (with_reducible exact At.zero) | apply At.succ)) hk hr; clear hk hr; (try simp only [nrm, nrl, Value.cells] at H)) | (go_at_call 61; (with_reducible refine (rd_many_of rb L i U hL hi hM2 _ (H.blk .zero).2).mono ?_); rintro e w ⟨hk, rfl, hr⟩; replace H := H.callBut (by repeat (first | (with_reducible exact At.zero) | apply At.succ)) hk hr; clear hk hr; (try simp only [nrm, nrl, Value.cells] at H)))
      (refine ret_cS Tryz.results63 rfl H (by repeat (first | (with_reducible exact At.zero) | apply At.succ)) (by with_reducible exact row_Set) rfl ?_)
      exact ⟨H.keep, rfl, (H.blk .zero).2⟩
    | none =>
      have hm' := hm
      unfold manyP at hm'
      rw [hm'] at E; simp only [] at E
      clear hm'
      have hM2 : manyR L i = (.tuple #[setV emptyS, .bool false], i) := by unfold manyR; rw [hm]
      clear hm
      unfold itemTail at E
      cases ht : thingP L i with
      | none =>
        rw [ht] at E; simp only [] at E
        rw [E]; clear E
        go_enter Tryz.func63, Tryz.ntmps63
        go_wp2_with (first | ((first | ((with_reducible refine kgA 2 ?_); refine kA 2 H ?_) | ((with_reducible refine kgX 2 ?_); (first | refine kS 2 H ?_ | refine kB 2 H ?_))); clear H; intro b2 w H; (try simp only [nrm, nrl, Value.cells] at H)) | ((first | ((with_reducible refine kgA 3 ?_); refine kA 3 H ?_) | ((with_reducible refine kgX 3 ?_); (first | refine kS 3 H ?_ | refine kB 3 H ?_))); clear H; intro b3 w H; (try simp only [nrm, nrl, Value.cells] at H)) | ((first | ((with_reducible refine kgA 5 ?_); refine kA 5 H ?_) | ((with_reducible refine kgX 5 ?_); (first | refine kS 5 H ?_ | refine kB 5 H ?_))); clear H; intro b5 w H; (try simp only [nrm, nrl, Value.cells] at H)) | ((with_reducible refine gT ?_); (refine aS H ?_; clear H; intro w H; (try simp only [nrm, nrl, Value.cells] at H))) | (go_at_call 87; (with_reducible refine (rd_name_of rb L i U hL hi hrb hN _ (ZZ _ H.keep) (H.blk .zero).2).mono ?_); rintro e w ⟨hk, rfl, hr⟩; replace H := H.callBut (by repeat (first | (with_reducible exact At.zero) | apply At.succ)) hk hr; clear hk hr; (try simp only [nrm, nrl, Value.cells] at H)) | (go_at_call 61; (with_reducible refine (rd_many_of rb L i U hL hi hM2 _ (H.blk .zero).2).mono ?_); rintro e w ⟨hk, rfl, hr⟩; replace H := H.callBut (by repeat (first | (with_reducible exact At.zero) | apply At.succ)) hk hr; clear hk hr; (try simp only [nrm, nrl, Value.cells] at H)) | (go_at_call 88; (with_reducible refine (rd_one_no rb L i U hL hi ht _ (H.blk .zero).2).mono ?_); rintro e w ⟨hk, rfl⟩; exact ⟨rfl, H.keep.trans (hk.mono H.keep.size (fun _ _ m => m)), rfl⟩))
      | some p =>
        obtain ⟨lo, k⟩ := p
        rw [ht] at E; simp only [] at E
        obtain ⟨hk1, hk2, hlo⟩ := thingP_le ht
        have hrest := fun w h => rd_rest rb L k U hk2 w h
        generalize hT : L.drop k = T at hrest
        have hT0 := drop_at hT 0
        have hT1 := drop_at hT 1
        have hTl := drop_len hT
        rw [Nat.add_zero] at hT0
        rw [← hT0, ← hT1] at E
        clear hT
        by_cases h1 : k + 1 < L.length
        · have d1 : decide ((T.length : Int) < 2) = false := by simp; omega
          have hlen : 1 < T.length := by omega
          have hb0 := byt_lt T 0
          have hb1 := byt_lt T 1
          by_cases h45 : byt T 0 = 45
          · have d45 : (((byt T 0 : Nat) : Int) == 45) = true := by rw [beq_iff_eq]; omega
            have e45 : (((byt T 0 : Nat) : Int) != 45) = false := by unfold bne; rw [d45]; rfl
            by_cases h93 : byt T 1 = 93
            · have d93 : (((byt T 1 : Nat) : Int) == 93) = true := by rw [beq_iff_eq]; omega
              rw [if_neg (fun h => h.2.2 h93)] at E; simp only [] at E
              rw [E]; clear E h45 h93 hT0 hT1 hTl
              go_enter Tryz.func63, Tryz.ntmps63
              go_wp2_with (first | ((first | ((with_reducible refine kgA 2 ?_); refine kA 2 H ?_) | ((with_reducible refine kgX 2 ?_); (first | refine kS 2 H ?_ | refine kB 2 H ?_))); clear H; intro b2 w H; (try simp only [nrm, nrl, Value.cells] at H)) | ((first | ((with_reducible refine kgA 3 ?_); refine kA 3 H ?_) | ((with_reducible refine kgX 3 ?_); (first | refine kS 3 H ?_ | refine kB 3 H ?_))); clear H; intro b3 w H; (try simp only [nrm, nrl, Value.cells] at H)) | ((first | ((with_reducible refine kgA 5 ?_); refine kA 5 H ?_) | ((with_reducible refine kgX 5 ?_); (first | refine kS 5 H ?_ | refine kB 5 H ?_))); clear H; intro b5 w H; (try simp only [nrm, nrl, Value.cells] at H)) | (first | ((with_reducible refine gT ?_); (refine aS H ?_; clear H; intro w H; (try simp only [nrm, nrl, Value.cells] at H))) | ((with_reducible refine gI ?_); refine aI ?_)) | (go_at_call 87; (with_reducible refine (rd_name_of rb L i U hL hi hrb hN _ (ZZ _ H.keep) (H.blk .zero).2).mono ?_); rintro e w ⟨hk, rfl, hr⟩; replace H := H.callBut (by repeat (first | (with_reducible exact At.zero) | apply At.succ)) hk hr; clear hk hr; (try simp only [nrm, nrl, Value.cells] at H)) | (go_at_call 61; (with_reducible refine (rd_many_of rb L i U hL hi hM2 _ (H.blk .zero).2).mono ?_); rintro e w ⟨hk, rfl, hr⟩; replace H := H.callBut (by repeat (first | (with_reducible exact At.zero) | apply At.succ)) hk hr; clear hk hr; (try simp only [nrm, nrl, Value.cells] at H)) | (go_at_call 88; (with_reducible refine (rd_one_ok rb L i U hL hi ht _ (H.blk .zero).2).mono ?_); rintro e w ⟨hk, rfl, hr⟩; replace H := H.callBut (by repeat (first | (with_reducible exact At.zero) | apply At.succ)) hk hr; clear hk hr; (try simp only [nrm, nrl, Value.cells] at H)) | (go_at_call 64; (with_reducible refine ch (hrest _ (H.blk .zero).2) H ?_); clear H; intro w H) | ((with_reducible show @wpList _ _ _ ({ dst := _, op := Op.buildSlice _ _ _, type := _, pos := _, after := _, guard := _ } :: _) _ _); refine own_build (by first | rfl | exact wanted_g rfl (yielded_of rfl (by first | rfl | (simp only [put_lit, put_no, List.setIfInBounds_toArray, List.set_cons_succ, List.set_cons_zero, ev_tmp, ev_const, ev_glob, ev_func, List.getD_cons_succ, List.getD_cons_zero]; rfl)))) _ _ _ rfl H (#[.int .u8 lo]) 5 (by intro W; simp only [List.map_toArray, List.map_cons, List.map_nil]; (try simp only [put_lit, put_no, List.setIfInBounds_toArray, List.set_cons_succ, List.set_cons_zero, ev_tmp, ev_const, ev_glob, ev_func, List.getD_cons_succ, List.getD_cons_zero]); (try unfold setV); simp [go_sem] <;> rfl) ?_; clear H; intro b w H; (try simp only [nrm, nrl, Value.cells] at H)) | (go_at_call 45; (with_reducible refine ch (of_1 lo hlo _ _ (H.rdn (cs := [.int .u8 lo]) (by repeat (first | (with_reducible exact At.zero) | apply At.succ)) (by simp) (by simp [maxLen]))) H ?_); clear H; intro w H))
              (refine ret_cS Tryz.results63 rfl H (by repeat (first | (with_reducible exact At.zero) | apply At.succ)) (by with_reducible exact row_Set) rfl ?_)
              exact ⟨H.keep, rfl, (H.blk .zero).2⟩
            · have d93 : (((byt T 1 : Nat) : Int) == 93) = false := by rw [beq_eq_false_iff_ne]; omega
              rw [if_pos ⟨h1, h45, h93⟩] at E
              clear h45 h93 hT0 hT1 hTl
              cases ht2 : thingP L (k + 1) with
              | none =>
                rw [ht2] at E; simp only [] at E
                rw [E]; clear E
                go_enter Tryz.func63, Tryz.ntmps63
                go_wp2_with (first | ((first | ((with_reducible refine kgA 2 ?_); refine kA 2 H ?_) | ((with_reducible refine kgX 2 ?_); (first | refine kS 2 H ?_ | refine kB 2 H ?_))); clear H; intro b2 w H; (try simp only [nrm, nrl, Value.cells] at H)) | ((first | ((with_reducible refine kgA 3 ?_); refine kA 3 H ?_) | ((with_reducible refine kgX 3 ?_); (first | refine kS 3 H ?_ | refine kB 3 H ?_))); clear H; intro b3 w H; (try simp only [nrm, nrl, Value.cells] at H)) | ((first | ((with_reducible refine kgA 5 ?_); refine kA 5 H ?_) | ((with_reducible refine kgX 5 ?_); (first | refine kS 5 H ?_ | refine kB 5 H ?_))); clear H; intro b5 w H; (try simp only [nrm, nrl, Value.cells] at H)) | (first | ((with_reducible refine gT ?_); ((first | refine aS H ?_ | refine aO H ?_); clear H; intro w H; (try simp only [nrm, nrl, Value.cells] at H))) | ((with_reducible refine gL ?_); refine aG H ?_) | ((with_reducible refine gI ?_); refine aI ?_)) | (go_at_call 87; (with_reducible refine (rd_name_of rb L i U hL hi hrb hN _ (ZZ _ H.keep) (H.blk .zero).2).mono ?_); rintro e w ⟨hk, rfl, hr⟩; replace H := H.callBut (by repeat (first | (with_reducible exact At.zero) | apply At.succ)) hk hr; clear hk hr; (try simp only [nrm, nrl, Value.cells] at H)) | (go_at_call 61; (with_reducible refine (rd_many_of rb L i U hL hi hM2 _ (H.blk .zero).2).mono ?_); rintro e w ⟨hk, rfl, hr⟩; replace H := H.callBut (by repeat (first | (with_reducible exact At.zero) | apply At.succ)) hk hr; clear hk hr; (try simp only [nrm, nrl, Value.cells] at H)) | (go_at_call 88; (with_reducible refine (rd_one_ok rb L i U hL hi ht _ (H.blk .zero).2).mono ?_); rintro e w ⟨hk, rfl, hr⟩; replace H := H.callBut (by repeat (first | (with_reducible exact At.zero) | apply At.succ)) hk hr; clear hk hr; (try simp only [nrm, nrl, Value.cells] at H)) | (go_at_call 64; (with_reducible refine ch (hrest _ (H.blk .zero).2) H ?_); clear H; intro w H) | (go_at_call 88; (with_reducible refine (rd_one_no rb L (k + 1) U hL (by omega) ht2 _ (H.blk .zero).2).mono ?_); rintro e w ⟨hk, rfl⟩; exact ⟨rfl, H.keep.trans (hk.mono H.keep.size (fun _ _ m => m)), rfl⟩))
              | some q =>
                obtain ⟨hj, e⟩ := q
                rw [ht2] at E; simp only [] at E
                obtain ⟨_, _, hhj⟩ := thingP_le ht2
                by_cases hle : lo ≤ hj
                · have dle : decide ((lo : Int) ≤ (hj : Int)) = true := by simp; omega
                  rw [if_pos hle] at E; simp only [] at E
                  rw [E]; clear E
                  go_enter Tryz.func63, Tryz.ntmps63
                  go_wp2_with (first | ((first | ((with_reducible refine kgA 2 ?_); refine kA 2 H ?_) | ((with_reducible refine kgX 2 ?_); (first | refine kS 2 H ?_ | refine kB 2 H ?_))); clear H; intro b2 w H; (try simp only [nrm, nrl, Value.cells] at H)) | ((first | ((with_reducible refine kgA 3 ?_); refine kA 3 H ?_) | ((with_reducible refine kgX 3 ?_); (first | refine kS 3 H ?_ | refine kB 3 H ?_))); clear H; intro b3 w H; (try simp only [nrm, nrl, Value.cells] at H)) | ((first | ((with_reducible refine kgA 5 ?_); refine kA 5 H ?_) | ((with_reducible refine kgX 5 ?_); (first | refine kS 5 H ?_ | refine kB 5 H ?_))); clear H; intro b5 w H; (try simp only [nrm, nrl, Value.cells] at H)) | (first | ((with_reducible refine gT ?_); ((first | refine aS H ?_ | refine aO H ?_); clear H; intro w H; (try simp only [nrm, nrl, Value.cells] at H))) | ((with_reducible refine gL ?_); refine aG H ?_) | ((with_reducible refine gI ?_); refine aI ?_)) | (go_at_call 87; (with_reducible refine (rd_name_of rb L i U hL hi hrb hN _ (ZZ _ H.keep) (H.blk .zero).2).mono ?_); rintro e w ⟨hk, rfl, hr⟩; replace H := H.callBut (by repeat (first | (with_reducible exact At.zero) | apply At.succ)) hk hr; clear hk hr; (try simp only [nrm, nrl, Value.cells] at H)) | (go_at_call 61; (with_reducible refine (rd_many_of rb L i U hL hi hM2 _ (H.blk .zero).2).mono ?_); rintro e w ⟨hk, rfl, hr⟩; replace H := H.callBut (by repeat (first | (with_reducible exact At.zero) | apply At.succ)) hk hr; clear hk hr; (try simp only [nrm, nrl, Value.cells] at H)) | (go_at_call 88; (with_reducible refine (rd_one_ok rb L i U hL hi ht _ (H.blk .zero).2).mono ?_); rintro e w ⟨hk, rfl, hr⟩; replace H := H.callBut (by repeat (first | (with_reducible exact At.zero) | apply At.succ)) hk hr; clear hk hr; (try simp only [nrm, nrl, Value.cells] at H)) | (go_at_call 64; (with_reducible refine ch (hrest _ (H.blk .zero).2) H ?_); clear H; intro w H) | (go_at_call 88; (with_reducible refine (rd_one_ok rb L (k + 1) U hL (by omega) ht2 _ (H.blk .zero).2).mono ?_); rintro e w ⟨hk, rfl, hr⟩; replace H := H.callBut (by repeat (first | (with_reducible exact At.zero) | apply At.succ)) hk hr; clear hk hr; (try simp only [nrm, nrl, Value.cells] at H)) | (go_at_call 60; (with_reducible refine ch (must_yes4 _) H ?_); clear H; intro w H) | (go_at_call 17; (with_reducible refine ch (set_Range lo hj (by omega) (by omega) _) H ?_); clear H; intro w H))
                  (refine ret_cS Tryz.results63 rfl H (by repeat (first | (with_reducible exact At.zero) | apply At.succ)) (by with_reducible exact row_Set) rfl ?_)
                  exact ⟨H.keep, rfl, (H.blk .zero).2⟩
                · have dle : decide ((lo : Int) ≤ (hj : Int)) = false := by simp; omega
                  rw [if_neg hle] at E; simp only [] at E
                  rw [E]; clear E
                  go_enter Tryz.func63, Tryz.ntmps63
                  go_wp2_with (first | ((first | ((with_reducible refine kgA 2 ?_); refine kA 2 H ?_) | ((with_reducible refine kgX 2 ?_); (first | refine kS 2 H ?_ | refine kB 2 H ?_))); clear H; intro b2 w H; (try simp only [nrm, nrl, Value.cells] at H)) | ((first | ((with_reducible refine kgA 3 ?_); refine kA 3 H ?_) | ((with_reducible refine kgX 3 ?_); (first | refine kS 3 H ?_ | refine kB 3 H ?_))); clear H; intro b3 w H; (try simp only [nrm, nrl, Value.cells] at H)) | ((first | ((with_reducible refine kgA 5 ?_); refine kA 5 H ?_) | ((with_reducible refine kgX 5 ?_); (first | refine kS 5 H ?_ | refine kB 5 H ?_))); clear H; intro b5 w H; (try simp only [nrm, nrl, Value.cells] at H)) | (first | ((with_reducible refine gT ?_); ((first | refine aS H ?_ | refine aO H ?_); clear H; intro w H; (try simp only [nrm, nrl, Value.cells] at H))) | ((with_reducible refine gL ?_); refine aG H ?_) | ((with_reducible refine gI ?_); refine aI ?_)) | (go_at_call 87; (with_reducible refine (rd_name_of rb L i U hL hi hrb hN _ (ZZ _ H.keep) (H.blk .zero).2).mono ?_); rintro e w ⟨hk, rfl, hr⟩; replace H := H.callBut (by repeat (first | (with_reducible exact At.zero) | apply At.succ)) hk hr; clear hk hr; (try simp only [nrm, nrl, Value.cells] at H)) | (go_at_call 61; (with_reducible refine (rd_many_of rb L i U hL hi hM2 _ (H.blk .zero).2).mono ?_); rintro e w ⟨hk, rfl, hr⟩; replace H := H.callBut (by repeat (first | (with_reducible exact At.zero) | apply At.succ)) hk hr; clear hk hr; (try simp only [nrm, nrl, Value.cells] at H)) | (go_at_call 88; (with_reducible refine (rd_one_ok rb L i U hL hi ht _ (H.blk .zero).2).mono ?_); rintro e w ⟨hk, rfl, hr⟩; replace H := H.callBut (by repeat (first | (with_reducible exact At.zero) | apply At.succ)) hk hr; clear hk hr; (try simp only [nrm, nrl, Value.cells] at H)) | (go_at_call 64; (with_reducible refine ch (hrest _ (H.blk .zero).2) H ?_); clear H; intro w H) | (go_at_call 88; (with_reducible refine (rd_one_ok rb L (k + 1) U hL (by omega) ht2 _ (H.blk .zero).2).mono ?_); rintro e w ⟨hk, rfl, hr⟩; replace H := H.callBut (by repeat (first | (with_reducible exact At.zero) | apply At.succ)) hk hr; clear hk hr; (try simp only [nrm, nrl, Value.cells] at H)) | (go_at_call 60; (with_reducible refine ch (must_no4 _) H ?_); clear H; intro w H))
                  exact ⟨rfl, H.keep, rfl⟩
          · have d45 : (((byt T 0 : Nat) : Int) == 45) = false := by rw [beq_eq_false_iff_ne]; omega
            have e45 : (((byt T 0 : Nat) : Int) != 45) = true := by unfold bne; rw [d45]; rfl
            rw [if_neg (fun h => h45 h.2.1)] at E; simp only [] at E
            rw [E]; clear E h45 hT0 hT1 hTl
            go_enter Tryz.func63, Tryz.ntmps63
            go_wp2_with (first | ((first | ((with_reducible refine kgA 2 ?_); refine kA 2 H ?_) | ((with_reducible refine kgX 2 ?_); (first | refine kS 2 H ?_ | refine kB 2 H ?_))); clear H; intro b2 w H; (try simp only [nrm, nrl, Value.cells] at H)) | ((first | ((with_reducible refine kgA 3 ?_); refine kA 3 H ?_) | ((with_reducible refine kgX 3 ?_); (first | refine kS 3 H ?_ | refine kB 3 H ?_))); clear H; intro b3 w H; (try simp only [nrm, nrl, Value.cells] at H)) | ((first | ((with_reducible refine kgA 5 ?_); refine kA 5 H ?_) | ((with_reducible refine kgX 5 ?_); (first | refine kS 5 H ?_ | refine kB 5 H ?_))); clear H; intro b5 w H; (try simp only [nrm, nrl, Value.cells] at H)) | (first | ((with_reducible refine gT ?_); (refine aS H ?_; clear H; intro w H; (try simp only [nrm, nrl, Value.cells] at H))) | ((with_reducible refine gI ?_); refine aI ?_)) | (go_at_call 87; (with_reducible refine (rd_name_of rb L i U hL hi hrb hN _ (ZZ _ H.keep) (H.blk .zero).2).mono ?_); rintro e w ⟨hk, rfl, hr⟩; replace H := H.callBut (by repeat (first | (with_reducible exact At.zero) | apply At.succ)) hk hr; clear hk hr; (try simp only [nrm, nrl, Value.cells] at H)) | (go_at_call 61; (with_reducible refine (rd_many_of rb L i U hL hi hM2 _ (H.blk .zero).2).mono ?_); rintro e w ⟨hk, rfl, hr⟩; replace H := H.callBut (by repeat (first | (with_reducible exact At.zero) | apply At.succ)) hk hr; clear hk hr; (try simp only [nrm, nrl, Value.cells] at H)) | (go_at_call 88; (with_reducible refine (rd_one_ok rb L i U hL hi ht _ (H.blk .zero).2).mono ?_); rintro e w ⟨hk, rfl, hr⟩; replace H := H.callBut (by repeat (first | (with_reducible exact At.zero) | apply At.succ)) hk hr; clear hk hr; (try simp only [nrm, nrl, Value.cells] at H)) | (go_at_call 64; (with_reducible refine ch (hrest _ (H.blk .zero).2) H ?_); clear H; intro w H) | ((with_reducible show @wpList _ _ _ ({ dst := _, op := Op.buildSlice _ _ _, type := _, pos := _, after := _, guard := _ } :: _) _ _); refine own_build (by first | rfl | exact wanted_g rfl (yielded_of rfl (by first | rfl | (simp only [put_lit, put_no, List.setIfInBounds_toArray, List.set_cons_succ, List.set_cons_zero, ev_tmp, ev_const, ev_glob, ev_func, List.getD_cons_succ, List.getD_cons_zero]; rfl)))) _ _ _ rfl H (#[.int .u8 lo]) 5 (by intro W; simp only [List.map_toArray, List.map_cons, List.map_nil]; (try simp only [put_lit, put_no, List.setIfInBounds_toArray, List.set_cons_succ, List.set_cons_zero, ev_tmp, ev_const, ev_glob, ev_func, List.getD_cons_succ, List.getD_cons_zero]); (try unfold setV); simp [go_sem] <;> rfl) ?_; clear H; intro b w H; (try simp only [nrm, nrl, Value.cells] at H)) | (go_at_call 45; (with_reducible refine ch (of_1 lo hlo _ _ (H.rdn (cs := [.int .u8 lo]) (by repeat (first | (with_reducible exact At.zero) | apply At.succ)) (by simp) (by simp [maxLen]))) H ?_); clear H; intro w H))
            (refine ret_cS Tryz.results63 rfl H (by repeat (first | (with_reducible exact At.zero) | apply At.succ)) (by with_reducible exact row_Set) rfl ?_)
            exact ⟨H.keep, rfl, (H.blk .zero).2⟩
        · have d1 : decide ((T.length : Int) < 2) = true := by simp; omega
          rw [if_neg (fun h => h1 h.1)] at E; simp only [] at E
          rw [E]; clear E hT0 hT1 hTl
          go_enter Tryz.func63, Tryz.ntmps63
          go_wp2_with (first | ((first | ((with_reducible refine kgA 2 ?_); refine kA 2 H ?_) | ((with_reducible refine kgX 2 ?_); (first | refine kS 2 H ?_ | refine kB 2 H ?_))); clear H; intro b2 w H; (try simp only [nrm, nrl, Value.cells] at H)) | ((first | ((with_reducible refine kgA 3 ?_); refine kA 3 H ?_) | ((with_reducible refine kgX 3 ?_); (first | refine kS 3 H ?_ | refine kB 3 H ?_))); clear H; intro b3 w H; (try simp only [nrm, nrl, Value.cells] at H)) | ((first | ((with_reducible refine kgA 5 ?_); refine kA 5 H ?_) | ((with_reducible refine kgX 5 ?_); (first | refine kS 5 H ?_ | refine kB 5 H ?_))); clear H; intro b5 w H; (try simp only [nrm, nrl, Value.cells] at H)) | ((with_reducible refine gT ?_); (refine aS H ?_; clear H; intro w H; (try simp only [nrm, nrl, Value.cells] at H))) | (go_at_call 87; (with_reducible refine (rd_name_of rb L i U hL hi hrb hN _ (ZZ _ H.keep) (H.blk .zero).2).mono ?_); rintro e w ⟨hk, rfl, hr⟩; replace H := H.callBut (by repeat (first | (with_reducible exact At.zero) | apply At.succ)) hk hr; clear hk hr; (try simp only [nrm, nrl, Value.cells] at H)) | (go_at_call 61; (with_reducible refine (rd_many_of rb L i U hL hi hM2 _ (H.blk .zero).2).mono ?_); rintro e w ⟨hk, rfl, hr⟩; replace H := H.callBut (by repeat (first | (with_reducible exact At.zero) | apply At.succ)) hk hr; clear hk hr; (try simp only [nrm, nrl, Value.cells] at H)) | (go_at_call 88; (with_reducible refine (rd_one_ok rb L i U hL hi ht _ (H.blk .zero).2).mono ?_); rintro e w ⟨hk, rfl, hr⟩; replace H := H.callBut (by repeat (first | (with_reducible exact At.zero) | apply At.succ)) hk hr; clear hk hr; (try simp only [nrm, nrl, Value.cells] at H)) | (go_at_call 64; (with_reducible refine ch (hrest _ (H.blk .zero).2) H ?_); clear H; intro w H) | ((with_reducible show @wpList _ _ _ ({ dst := _, op := Op.buildSlice _ _ _, type := _, pos := _, after := _, guard := _ } :: _) _ _); refine own_build (by first | rfl | exact wanted_g rfl (yielded_of rfl (by first | rfl | (simp only [put_lit, put_no, List.setIfInBounds_toArray, List.set_cons_succ, List.set_cons_zero, ev_tmp, ev_const, ev_glob, ev_func, List.getD_cons_succ, List.getD_cons_zero]; rfl)))) _ _ _ rfl H (#[.int .u8 lo]) 5 (by intro W; simp only [List.map_toArray, List.map_cons, List.map_nil]; (try simp only [put_lit, put_no, List.setIfInBounds_toArray, List.set_cons_succ, List.set_cons_zero, ev_tmp, ev_const, ev_glob, ev_func, List.getD_cons_succ, List.getD_cons_zero]); (try unfold setV); simp [go_sem] <;> rfl) ?_; clear H; intro b w H; (try simp only [nrm, nrl, Value.cells] at H)) | (go_at_call 45; (with_reducible refine ch (of_1 lo hlo _ _ (H.rdn (cs := [.int .u8 lo]) (by repeat (first | (with_reducible exact At.zero) | apply At.succ)) (by simp) (by simp [maxLen]))) H ?_); clear H; intro w H))
          (refine ret_cS Tryz.results63 rfl H (by repeat (first | (with_reducible exact At.zero) | apply At.succ)) (by with_reducible exact row_Set) rfl ?_)
          exact ⟨H.keep, rfl, (H.blk .zero).2⟩
end Go.Proofs.YtllmgmfihijejaaGreatDoor
/-
  The walks of package lex: classes.
-/
namespace Go.Proofs.YtllmgmfihijejaaGreatDoor
open Go.RowKit Go.Shelf Go.MapKept
attribute [local go_sem] Oper.semAt_some
set_option linter.unusedSimpArgs false

section
variable {P : Program} {ops : Array Oper} {rest : List Oper} {o : Oper} {a : Act} {w w0 : World} {Q : Exit → Act → World → Prop} {l : List Res} {M : Nat → Prop}
theorem word_loadG (hg : Region.wanted o (yielded ops a.tmps) = true) (T : TypeId) (x : Operand) (ho : o.op = .load T x) {b : Nat} (hx : a.eval x = .pointer (some ⟨b, 2, none⟩)) (H : HoldG M w0 w l) {i : Nat} {d : WordD} {U : TypeId} (hi : At l i (.blk b (wordC d) U))
    (hT : rowB P T 4 = true) (h : wpList P ops Q rest (a.put o.dst (setV d.set)) w) : wpList P ops Q (o :: rest) a w :=
  own_loadN hg T x ho hx H hi (setC d.set) hT rfl h
theorem word_storeG (hg : Region.wanted o (yielded ops a.tmps) = true) (T : TypeId) (x y : Operand) (ho : o.op = .store T x y) {b : Nat} (hx : a.eval x = .pointer (some ⟨b, 2, none⟩)) {s : Nat → Nat} (hy : a.eval y = setV s) (H : HoldG M w0 w l) {i : Nat} {d : WordD} {U : TypeId} (hi : At l i (.blk b (wordC d) U))
    (hT : sizeB P T 4 = true) (h : ∀ w', HoldG M w0 w' (l.set i (.blk b (wordC { d with set := s }) U)) → wpList P ops Q rest (a.put o.dst undef) w') : wpList P ops Q (o :: rest) a w :=
  own_storeN hg T x y ho hx (vs := setC s) hy H hi hT rfl rfl (show 2 + 4 ≤ 17 by omega) h
end
theorem loadWS_run {P : Program} {o : Oper} {a : Act} {w : World} {T : TypeId} {x : Operand} (ho : o.op = .load T x) {b : Nat} (hx : a.eval x = .pointer (some ⟨b, 2, none⟩)) {d : WordD} {U : TypeId} (hb : w.heap[b]? = some (.cells (wordC d) U (0, 0)))
    (hT : rowB P T 4 = true) : (execOp a.eval o).run P w = .ok (.value (setV d.set)) w :=
  loadW_run ho hx hb hT (vs := setC d.set) rfl (fun j hj => by rcases j with _ | _ | _ | _ | j <;> first | rfl | omega)
theorem rd_item_of (rb : Nat) (L : Str) (i : Nat) (U : TypeId) (hL : L.length ≤ 2000) (hi : i ≤ L.length) (hrb : rb ≠ 0) {r : Except Nat (Value × Nat)} (hx : itemR L i = r) (w0 : World) (hz : MaxL w0) (hr : w0.heap[rb]? = some (.cells (rdC L i) U (0, 0))) :
    Calls Tryz.prog 63 #[ptrV rb] w0 (ReadsV rb L U w0 r) := hx ▸ rd_item rb L i U hL hi hrb w0 hz hr
theorem rd_skip_of (rb : Nat) (L : Str) (i : Nat) (t : Str) (ht : t.length ≤ 10) (U : TypeId) (hL : L.length ≤ 2000) (hi : i ≤ L.length) {b : Bool} {j : Nat} (hb : atP L i t = b) (hj : (if b then i + t.length else i) = j) (w0 : World) (hr : w0.heap[rb]? = some (.cells (rdC L i) U (0, 0))) :
    Calls Tryz.prog 40 #[ptrV rb, .string ⟨t.toArray⟩] w0 (ReadsV rb L U w0 (.ok (.bool b, j))) := by
  have := rd_skip rb L i t ht U hL hi w0 hr
  rw [hb, hj] at this; exact this
def rdPos (rb : Nat) (w : World) : Nat := match w.cell? ⟨rb, 1, none⟩ with | some (.int _ x) => x.toNat | _ => 0
theorem rdPos_of {rb : Nat} {L : Str} {i : Nat} {U : TypeId} {w : World} (h : w.heap[rb]? = some (.cells (rdC L i) U (0, 0))) : rdPos rb w = i := by
  unfold rdPos
  rw [cell_of_row w rb 1 _ _ _ h]
  rfl
def wordR (r : Except Nat (WordD × Nat)) : Except Nat (Value × Nat) := match r with | .ok (d, e) => .ok (wordV d, e) | .error n => .error n
theorem Below.rd_const {rb : Nat} {L : Str} {i : Nat} {U : TypeId} {w w' : World} (h : w.heap[rb]? = some (.cells (rdC L i) U (0, 0))) (k : Below w.heap.size w w') : w'.heap[rb]? = some (.cells (rdC L i) U (0, 0)) := (k.block rb (Array.getElem?_eq_some_iff.1 h).1).trans h

set_option maxRecDepth 100000 in
set_option maxHeartbeats 16000000 in
theorem rd_class (rb : Nat) (L : Str) (i : Nat) (U : TypeId) (hL : L.length ≤ 2000) (hi : i < L.length) (hrb : rb ≠ 0) (w0 : World) (hz : MaxL w0) (hr : w0.heap[rb]? = some (.cells (rdC L (i + 1)) U (0, 0))) :
    Calls Tryz.prog 39 #[ptrV rb, wordV { kind := 0, place := i }] w0 (ReadsV rb L U w0 (wordR (orErr (classP L i)))) := by
  have H := HoldG.startB hr
  have ZZ : ∀ W, KeepBut (· = rb) w0.heap.size w0 W → MaxL W := fun W hk => hz.keep hrb hk
  generalize hng : atP L (i + 1) [94] = ng
  have E := Lib.hid (show classP L i = (classGo L (L.length + 1) (if ng then i + 2 else i + 1) true emptyS).map (fun (S, e) => ({ kind := 1, place := i, set := S, neg := ng }, e)) by unfold classP; simp only [hng])
  have hs0 : (if ng then i + 1 + [(94 : UInt8)].length else i + 1) = (if ng then i + 2 else i + 1) := by cases ng <;> rfl
  have hk0 : (if ng then i + 2 else i + 1) ≤ L.length := by
    cases ng
    · simp; omega
    · have := at_le hng (by simp)
      simp at this ⊢; omega
  have SK := fun w h => rd_skip_of rb L (i + 1) [94] (by simp) U hL (by omega) hng hs0 w h
  clear hs0
  generalize hst : (if ng then i + 2 else i + 1) = st at E hk0 SK
  clear hng hst
  go_enter Tryz.func39, Tryz.ntmps39
  go_wp2_with (first | ((first | ((with_reducible refine kgA 3 ?_); refine kA 3 H ?_) | ((with_reducible refine kgX 3 ?_); (first | refine kS 3 H ?_ | refine kB 3 H ?_))); clear H; intro b3 w H; (try simp only [nrm, nrl, Value.cells] at H)) | ((first | ((with_reducible refine kgA 4 ?_); refine kA 4 H ?_) | ((with_reducible refine kgX 4 ?_); (first | refine kS 4 H ?_ | refine kB 4 H ?_))); clear H; intro b4 w H; (try simp only [nrm, nrl, Value.cells] at H)) | ((with_reducible refine gT ?_); (refine aO H ?_; clear H; intro w H; (try simp only [nrm, nrl, Value.cells] at H))) | (go_at_call 40; (with_reducible refine (SK _ (H.blk .zero).2).mono ?_); rintro e w ⟨hk, rfl, hr⟩; replace H := H.callBut (by repeat (first | (with_reducible exact At.zero) | apply At.succ)) hk hr; clear hk hr; (try simp only [nrm, nrl, Value.cells] at H)))
  go_loopw [5] (fun fi wr => ∃ (j f : Nat) (b : Bool) (S : Nat → Nat), fi = .bool b ∧ j ≤ L.length ∧ Hid (classGo L (L.length + 1) st true emptyS = classGo L f j b S ∧ L.length < f + j ∧ SetOk S) ∧ HoldG (· = rb) w0 wr [.blk rb (rdC L j) U, .blk b3 (wordC { kind := 1, place := i, set := S, neg := ng }) 42, .blk b4 (wordC { kind := 0, place := 0 }) 42]) (fun _ wr => L.length + 2 - rdPos rb wr)
  case atStart => exact ⟨st, L.length + 1, true, emptyS, rfl, hk0, Lib.hid ⟨rfl, by omega, emptyS_ok⟩, H⟩
  case round =>
    clear H
    obtain ⟨j, f, b, S, rfl, hj, G, H⟩ := hrel
    obtain ⟨f, rfl⟩ : ∃ f', f = f' + 1 := ⟨f - 1, by have := G.out.2.1; omega⟩
    have eg : classGo L (f + 1) j b S = classGo L (f + 1) j b S := rfl
    conv at eg => rhs; unfold classGo
    have n3 : b3 ≠ rb := H.ne (.succ .zero) .zero (by decide)
    have hrl : rb < wr.heap.size := (Array.getElem?_eq_some_iff.1 (H.blk .zero).2).1
    have H0 := (H.blk .zero).2
    cases b with
    | true =>
      rw [if_neg (by rintro ⟨h, _⟩; cases h)] at eg
      cases hi2 : itemP L j with
      | none =>
        rw [hi2] at eg
        have E3 : wordR (orErr (classP L i)) = .error 4 := by rw [E.out, G.out.1, eg]; rfl
        rw [E3]
        have hIT : itemR L j = .error 4 := by unfold itemR; rw [hi2]
        clear eg hi2 E3
        go_upto_region 5 with (first | fail)
        have hrefl : ∀ W, BelR W W := BelR.refl
        refine wp_region_specS BelR (ButR rb) [3] (stR rb U (fun _ => rdC L j)) (BelR.but _) (stR_bel _ _ _) BelR.drew BelR.refl (ButR.trans _) 7 [fun v _ => v = .pointer (some ⟨b3, 2, none⟩), fun v _ => v = setV S, fun v _ => v = ptrV rb, fun _ _ => False, fun _ _ => False, fun _ _ => False, fun v _ => v = .pointer (some ⟨b3, 2, none⟩)] ⟨stableR_eq _, stableR_eq _, stableR_eq _, fun _ _ _ h _ => h, fun _ _ _ h _ => h, fun _ _ _ h _ => h, stableR_eq _, trivial⟩ (by kernel_rfl) (show _ = _ from (H.blk .zero).2) (by kernel_rfl) (by kernel_rfl) (by kernel_rfl) ?ob ?en
        case ob =>
          refine ⟨?_, ?_, ?_, ?_, ?_, ?_, ?_, trivial⟩
          · intro A W h; (have e3 : A.eval (.tmp 3) = .pointer (some ⟨b3, 0, none⟩) := h.frame 3 rfl; refine rq_pure hrefl rfl ?_; simp only [execOp, e3]; (simp [go_sem] <;> first | done | omega | (rw [IntKind.wrap_i64]; omega) | (rw [IntKind.wrap_u8]; omega) | (rw [IntKind.wrap_u64]; omega)))
          · intro A W h; exact rq_pure hrefl rfl (loadWS_run rfl (h.dep 0 20 rfl rfl) (H.other h.rel (.succ .zero) n3) row_Set)
          · intro A W h; exact rq_move hrefl rfl rfl (h.frame 0 rfl)
          · intro A W h hst; exact rx_throws rfl rfl (enters_of Tryz.func63 (by kernel_rfl) rfl) (args1 (h.dep 2 22 rfl rfl)) (rd_item_of rb L j U hL hj hrb hIT W (ZZ W (H.keepR h.rel)) hst) (fun w' hk => ⟨h.defers, H.keepR (ButR.trans _ _ _ _ h.rel hk), rfl⟩)
          · intro A W h; exact (show False from h.dep 3 23 rfl rfl).elim
          · intro A W h; exact (show False from h.dep 4 24 rfl rfl).elim
          · intro A W h; (have e3 : A.eval (.tmp 3) = .pointer (some ⟨b3, 0, none⟩) := h.frame 3 rfl; refine rq_pure hrefl rfl ?_; simp only [execOp, e3]; (simp [go_sem] <;> first | done | omega | (rw [IntKind.wrap_i64]; omega) | (rw [IntKind.wrap_u8]; omega) | (rw [IntKind.wrap_u64]; omega)))
        case en =>
          intro vals W hbw hv hst
          exact (show False from hv 3 (by omega)).elim
      | some p =>
        obtain ⟨t, e2⟩ := p
        have hk := itemP_le hi2
        have hIT : itemR L j = .ok (setV t, e2) := by unfold itemR; rw [hi2]
        rw [hi2] at eg
        simp only [] at eg
        have G2 := Lib.hid (show classGo L (L.length + 1) st true emptyS = classGo L f e2 false (unionS [S, t]) by rw [G.out.1, eg]); clear eg hi2
        go_upto_region 5 with (first | fail)
        have hrefl : ∀ W, BelR W W := BelR.refl
        refine wp_region_specS BelR (ButR rb) [3] (stR rb U (fun r => match r with | 0 => rdC L j | _ => rdC L e2)) (BelR.but _) (stR_bel _ _ _) BelR.drew BelR.refl (ButR.trans _) 7 [fun v _ => v = .pointer (some ⟨b3, 2, none⟩), fun v _ => v = setV S, fun v _ => v = ptrV rb, fun v _ => v = setV t, RdB rb [S, t], fun v _ => v = setV (unionS [S, t]), fun v _ => v = .pointer (some ⟨b3, 2, none⟩)] ⟨stableR_eq _, stableR_eq _, stableR_eq _, stableR_eq _, stable_rdb _ _, stableR_eq _, stableR_eq _, trivial⟩ (by kernel_rfl) (show _ = _ from (H.blk .zero).2) (by kernel_rfl) (by kernel_rfl) (by kernel_rfl) ?ob ?en
        case ob =>
          refine ⟨?_, ?_, ?_, ?_, ?_, ?_, ?_, trivial⟩
          · intro A W h; (have e3 : A.eval (.tmp 3) = .pointer (some ⟨b3, 0, none⟩) := h.frame 3 rfl; refine rq_pure hrefl rfl ?_; simp only [execOp, e3]; (simp [go_sem] <;> first | done | omega | (rw [IntKind.wrap_i64]; omega) | (rw [IntKind.wrap_u8]; omega) | (rw [IntKind.wrap_u64]; omega)))
          · intro A W h; exact rq_pure hrefl rfl (loadWS_run rfl (h.dep 0 20 rfl rfl) (H.other h.rel (.succ .zero) n3) row_Set)
          · intro A W h; exact rq_move hrefl rfl rfl (h.frame 0 rfl)
          · intro A W h hst; exact rx_reads rfl rfl (enters_of Tryz.func63 (by kernel_rfl) rfl) (args1 (h.dep 2 22 rfl rfl)) (rd_item_of rb L j U hL hj hrb hIT W (ZZ W (H.keepR h.rel)) hst)
          · intro A W h; exact rq_build2B (Nat.lt_of_lt_of_le (Array.getElem?_eq_some_iff.1 (H.blk .zero).2).1 h.rel.size) rfl rfl (h.dep 1 21 rfl rfl) (h.dep 3 23 rfl rfl)
          · intro A W h; exact rq_calln rfl rfl (enters_of Tryz.func16 (by kernel_rfl) rfl) (args1 rfl) ((set_Union _ [S, t] (ok2 G.out.2.2 hk.2.2) W (RdB.rds (h.dep 4 24 rfl rfl) (by simp [maxLen]))))
          · intro A W h; (have e3 : A.eval (.tmp 3) = .pointer (some ⟨b3, 0, none⟩) := h.frame 3 rfl; refine rq_pure hrefl rfl ?_; simp only [execOp, e3]; (simp [go_sem] <;> first | done | omega | (rw [IntKind.wrap_i64]; omega) | (rw [IntKind.wrap_u8]; omega) | (rw [IntKind.wrap_u64]; omega)))
        case en =>
          intro vals W hbw hv hst
          have v0 : vals 0 = .pointer (some ⟨b3, 2, none⟩) := hv 0 (by omega)
          have v1 : vals 1 = setV S := hv 1 (by omega)
          have v2 : vals 2 = ptrV rb := hv 2 (by omega)
          have v3 : vals 3 = setV t := hv 3 (by omega)
          have v5 : vals 5 = setV (unionS [S, t]) := hv 5 (by omega)
          have v6 : vals 6 = .pointer (some ⟨b3, 2, none⟩) := hv 6 (by omega)
          have x4 := hv 4 (by omega); simp only [lookS] at x4
          simp only [List.take_succ_cons, List.take_zero, List.drop_succ_cons, List.drop_zero, List.drop_nil, List.take_nil, fillAll, Nat.zero_add, Nat.reduceAdd]
          rw [v0, v1, v2, v3, v5, v6]
          clear hv v0 v1 v2 v3 v5 v6
          try simp only [put_lit, List.setIfInBounds_toArray, List.set_cons_succ, List.set_cons_zero]
          replace H := H.callBut .zero hbw (cs' := rdC L e2) hst
          clear hst hbw
          (try simp only [nrm, nrl, Value.cells] at H)
          go_wp2_with (first | ((with_reducible refine gT ?_); (refine aW H ?_; clear H; intro w H; (try simp only [nrm, nrl, Value.cells] at H))))
          go_roundw
          case rel => exact ⟨e2, f, false, unionS [S, t], rfl, by omega, Lib.hid ⟨G2.out, by have := G.out.2.1; omega, unionS_ok (ok2 G.out.2.2 hk.2.2)⟩, H⟩
          case measure => rw [rdPos_of (H.blk .zero).2, rdPos_of H0]; omega
    | false =>
      cases h2 : atP L j [93] with
      | true =>
        have hl2 := at_le h2 (by simp)
        simp only [List.length_cons, List.length_nil, Nat.zero_add] at hl2
        have SK2 := fun w h => rd_skip_of rb L j [93] (by simp) U hL hj h2 (show (if true then j + [(93 : UInt8)].length else j) = j + 1 from rfl) w h
        rw [if_pos ⟨rfl, h2⟩] at eg
        have E3 : wordR (orErr (classP L i)) = .ok (wordV { kind := 1, place := i, set := S, neg := ng }, j + 1) := by rw [E.out, G.out.1, eg]; rfl
        have E4 := Lib.hid E3
        clear eg h2 E3
        go_wp2_with (first | (first | ((with_reducible refine gT ?_); (refine aT H ?_; clear H; intro w H; (try simp only [nrm, nrl, Value.cells] at H))) | ((with_reducible refine gL ?_); refine aD H ?_)) | (go_at_call 40; (with_reducible refine (SK2 _ (H.blk .zero).2).mono ?_); rintro e w ⟨hk, rfl, hr⟩; replace H := H.callBut (by repeat (first | (with_reducible exact At.zero) | apply At.succ)) hk hr; clear hk hr; (try simp only [nrm, nrl, Value.cells] at H)))
        (refine ret_c Tryz.results39 rfl H (by repeat (first | (with_reducible exact At.zero) | apply At.succ)) (by first | (with_reducible exact row_LWord) | (with_reducible exact row_Set)) (by rfl) rfl ?_)
        unfold ReadsV
        rw [E4.out]
        exact ⟨H.keep, rfl, (H.blk .zero).2⟩
      | false =>
        have SK2 := fun w h => rd_skip_of rb L j [93] (by simp) U hL hj h2 (show (if false then j + [(93 : UInt8)].length else j) = j from rfl) w h
        rw [if_neg (by rintro ⟨_, h⟩; rw [h2] at h; cases h)] at eg
        clear h2
        cases hi2 : itemP L j with
        | none =>
          rw [hi2] at eg
          have E3 : wordR (orErr (classP L i)) = .error 4 := by rw [E.out, G.out.1, eg]; rfl
          rw [E3]
          have hIT : itemR L j = .error 4 := by unfold itemR; rw [hi2]
          clear eg hi2 E3
          go_upto_region 5 with (first | fail | (go_at_call 40; (with_reducible refine (SK2 _ (H.blk .zero).2).mono ?_); rintro e w ⟨hk, rfl, hr⟩; replace H := H.callBut (by repeat (first | (with_reducible exact At.zero) | apply At.succ)) hk hr; clear hk hr; (try simp only [nrm, nrl, Value.cells] at H)))
          have hrefl : ∀ W, BelR W W := BelR.refl
          refine wp_region_specS BelR (ButR rb) [3] (stR rb U (fun _ => rdC L j)) (BelR.but _) (stR_bel _ _ _) BelR.drew BelR.refl (ButR.trans _) 7 [fun v _ => v = .pointer (some ⟨b3, 2, none⟩), fun v _ => v = setV S, fun v _ => v = ptrV rb, fun _ _ => False, fun _ _ => False, fun _ _ => False, fun v _ => v = .pointer (some ⟨b3, 2, none⟩)] ⟨stableR_eq _, stableR_eq _, stableR_eq _, fun _ _ _ h _ => h, fun _ _ _ h _ => h, fun _ _ _ h _ => h, stableR_eq _, trivial⟩ (by kernel_rfl) (show _ = _ from (H.blk .zero).2) (by kernel_rfl) (by kernel_rfl) (by kernel_rfl) ?ob ?en
          case ob =>
            refine ⟨?_, ?_, ?_, ?_, ?_, ?_, ?_, trivial⟩
            · intro A W h; (have e3 : A.eval (.tmp 3) = .pointer (some ⟨b3, 0, none⟩) := h.frame 3 rfl; refine rq_pure hrefl rfl ?_; simp only [execOp, e3]; (simp [go_sem] <;> first | done | omega | (rw [IntKind.wrap_i64]; omega) | (rw [IntKind.wrap_u8]; omega) | (rw [IntKind.wrap_u64]; omega)))
            · intro A W h; exact rq_pure hrefl rfl (loadWS_run rfl (h.dep 0 20 rfl rfl) (H.other h.rel (.succ .zero) n3) row_Set)
            · intro A W h; exact rq_move hrefl rfl rfl (h.frame 0 rfl)
            · intro A W h hst; exact rx_throws rfl rfl (enters_of Tryz.func63 (by kernel_rfl) rfl) (args1 (h.dep 2 22 rfl rfl)) (rd_item_of rb L j U hL hj hrb hIT W (ZZ W (H.keepR h.rel)) hst) (fun w' hk => ⟨h.defers, H.keepR (ButR.trans _ _ _ _ h.rel hk), rfl⟩)
            · intro A W h; exact (show False from h.dep 3 23 rfl rfl).elim
            · intro A W h; exact (show False from h.dep 4 24 rfl rfl).elim
            · intro A W h; (have e3 : A.eval (.tmp 3) = .pointer (some ⟨b3, 0, none⟩) := h.frame 3 rfl; refine rq_pure hrefl rfl ?_; simp only [execOp, e3]; (simp [go_sem] <;> first | done | omega | (rw [IntKind.wrap_i64]; omega) | (rw [IntKind.wrap_u8]; omega) | (rw [IntKind.wrap_u64]; omega)))
          case en =>
            intro vals W hbw hv hst
            exact (show False from hv 3 (by omega)).elim
        | some p =>
          obtain ⟨t, e2⟩ := p
          have hk := itemP_le hi2
          have hIT : itemR L j = .ok (setV t, e2) := by unfold itemR; rw [hi2]
          rw [hi2] at eg
          simp only [] at eg
          have G2 := Lib.hid (show classGo L (L.length + 1) st true emptyS = classGo L f e2 false (unionS [S, t]) by rw [G.out.1, eg]); clear eg hi2
          go_upto_region 5 with (first | fail | (go_at_call 40; (with_reducible refine (SK2 _ (H.blk .zero).2).mono ?_); rintro e w ⟨hk, rfl, hr⟩; replace H := H.callBut (by repeat (first | (with_reducible exact At.zero) | apply At.succ)) hk hr; clear hk hr; (try simp only [nrm, nrl, Value.cells] at H)))
          have hrefl : ∀ W, BelR W W := BelR.refl
          refine wp_region_specS BelR (ButR rb) [3] (stR rb U (fun r => match r with | 0 => rdC L j | _ => rdC L e2)) (BelR.but _) (stR_bel _ _ _) BelR.drew BelR.refl (ButR.trans _) 7 [fun v _ => v = .pointer (some ⟨b3, 2, none⟩), fun v _ => v = setV S, fun v _ => v = ptrV rb, fun v _ => v = setV t, RdB rb [S, t], fun v _ => v = setV (unionS [S, t]), fun v _ => v = .pointer (some ⟨b3, 2, none⟩)] ⟨stableR_eq _, stableR_eq _, stableR_eq _, stableR_eq _, stable_rdb _ _, stableR_eq _, stableR_eq _, trivial⟩ (by kernel_rfl) (show _ = _ from (H.blk .zero).2) (by kernel_rfl) (by kernel_rfl) (by kernel_rfl) ?ob ?en
          case ob =>
            refine ⟨?_, ?_, ?_, ?_, ?_, ?_, ?_, trivial⟩
            · intro A W h; (have e3 : A.eval (.tmp 3) = .pointer (some ⟨b3, 0, none⟩) := h.frame 3 rfl; refine rq_pure hrefl rfl ?_; simp only [execOp, e3]; (simp [go_sem] <;> first | done | omega | (rw [IntKind.wrap_i64]; omega) | (rw [IntKind.wrap_u8]; omega) | (rw [IntKind.wrap_u64]; omega)))
            · intro A W h; exact rq_pure hrefl rfl (loadWS_run rfl (h.dep 0 20 rfl rfl) (H.other h.rel (.succ .zero) n3) row_Set)
            · intro A W h; exact rq_move hrefl rfl rfl (h.frame 0 rfl)
            · intro A W h hst; exact rx_reads rfl rfl (enters_of Tryz.func63 (by kernel_rfl) rfl) (args1 (h.dep 2 22 rfl rfl)) (rd_item_of rb L j U hL hj hrb hIT W (ZZ W (H.keepR h.rel)) hst)
            · intro A W h; exact rq_build2B (Nat.lt_of_lt_of_le (Array.getElem?_eq_some_iff.1 (H.blk .zero).2).1 h.rel.size) rfl rfl (h.dep 1 21 rfl rfl) (h.dep 3 23 rfl rfl)
            · intro A W h; exact rq_calln rfl rfl (enters_of Tryz.func16 (by kernel_rfl) rfl) (args1 rfl) ((set_Union _ [S, t] (ok2 G.out.2.2 hk.2.2) W (RdB.rds (h.dep 4 24 rfl rfl) (by simp [maxLen]))))
            · intro A W h; (have e3 : A.eval (.tmp 3) = .pointer (some ⟨b3, 0, none⟩) := h.frame 3 rfl; refine rq_pure hrefl rfl ?_; simp only [execOp, e3]; (simp [go_sem] <;> first | done | omega | (rw [IntKind.wrap_i64]; omega) | (rw [IntKind.wrap_u8]; omega) | (rw [IntKind.wrap_u64]; omega)))
          case en =>
            intro vals W hbw hv hst
            have v0 : vals 0 = .pointer (some ⟨b3, 2, none⟩) := hv 0 (by omega)
            have v1 : vals 1 = setV S := hv 1 (by omega)
            have v2 : vals 2 = ptrV rb := hv 2 (by omega)
            have v3 : vals 3 = setV t := hv 3 (by omega)
            have v5 : vals 5 = setV (unionS [S, t]) := hv 5 (by omega)
            have v6 : vals 6 = .pointer (some ⟨b3, 2, none⟩) := hv 6 (by omega)
            have x4 := hv 4 (by omega); simp only [lookS] at x4
            simp only [List.take_succ_cons, List.take_zero, List.drop_succ_cons, List.drop_zero, List.drop_nil, List.take_nil, fillAll, Nat.zero_add, Nat.reduceAdd]
            rw [v0, v1, v2, v3, v5, v6]
            clear hv v0 v1 v2 v3 v5 v6
            try simp only [put_lit, List.setIfInBounds_toArray, List.set_cons_succ, List.set_cons_zero]
            replace H := H.callBut .zero hbw (cs' := rdC L e2) hst
            clear hst hbw
            (try simp only [nrm, nrl, Value.cells] at H)
            go_wp2_with (first | ((with_reducible refine gT ?_); (refine aW H ?_; clear H; intro w H; (try simp only [nrm, nrl, Value.cells] at H))))
            go_roundw
            case rel => exact ⟨e2, f, false, unionS [S, t], rfl, by omega, Lib.hid ⟨G2.out, by have := G.out.2.1; omega, unionS_ok (ok2 G.out.2.2 hk.2.2)⟩, H⟩
            case measure => rw [rdPos_of (H.blk .zero).2, rdPos_of H0]; omega
end Go.Proofs.YtllmgmfihijejaaGreatDoor
/-
  The walks of package lex: escapes' words.
-/
namespace Go.Proofs.YtllmgmfihijejaaGreatDoor
open Go.RowKit Go.Shelf Go.MapKept
open Go.ChangeMaps (setBlock)
attribute [local go_sem] Oper.semAt_some
set_option linter.unusedSimpArgs false

section
variable {P : Program} {ops : Array Oper} {rest : List Oper} {o : Oper} {a : Act} {w w0 : World} {Q : Exit → Act → World → Prop} {l : List Res} {M : Nat → Prop} {kt et : TypeId} {d : TypeDesc} {es : Array MapEntry} {c mb i : Nat} {kv v z : Value}
theorem own_makeMap (hg : Region.wanted o (yielded ops a.tmps) = true) (T : TypeId) (ho : o.op = .makeMap T none) (H : HoldG M w0 w l) (h : ∀ b w', HoldG M w0 w' (l ++ [.mp b #[] 0]) → wpList P ops Q rest (a.put o.dst (.map (some b))) w') : wpList P ops Q (o :: rest) a w :=
  wpList_wanted hg fun _ hK => by
    unfold Oper.wp
    have hr : (execOp a.eval o).run P w = .ok (.value (.map (some w.heap.size))) (w.alloc (.map #[] 0)) := by
      simp only [execOp, ho]
      simp [Instr.makeMap, newObj, go_sem]
      rfl
    rw [hr]
    exact hK _ _ (h _ _ (H.gainMp ((Below.refl _ w).alloc (Nat.le_refl _) _) (Nat.le_refl _) (World.alloc_heap_new w _)))
theorem grownBy_setBlock (w : World) (b : Nat) (o : Obj) : w.grownBy (setBlock w b o) (some b) :=
  ⟨rfl, rfl, rfl, by simp [setBlock], fun j hj hne => by simp [setBlock, show b ≠ j from fun e => hne (by rw [e])]⟩
theorem own_insert (hg : Region.wanted o (yielded ops a.tmps) = true) (T : TypeId) (x k y : Operand) (ho : o.op = .insert T x k y) (hT : P.underlying T = some (.map kt et)) (hd : P.underlying kt = some d)
    (hx : a.eval x = .map (some mb)) (hk : a.eval k = kv) (hy : a.eval y = v) (H : HoldG M w0 w l) (hi : At l i (.mp mb es c)) (hkey : IsKey d kv) (hf : Instr.findNow d kv es.toList 0 = some none)
    (h : ∀ w', HoldG M w0 w' (l.set i (.mp mb (es.push { key := kv, val := v, born := c }) (c + 1))) → wpList P ops Q rest (a.put o.dst undef) w') : wpList P ops Q (o :: rest) a w :=
  wpList_wanted hg fun _ hK => by
    unfold Oper.wp
    have hm := (H.mp hi).2
    have hr : (execOp a.eval o).run P w = .ok .skip (setBlock w mb (.map (es.push { key := kv, val := v, born := c }) (c + 1))) := by
      have h1 : (Instr.mapUpdate T (.map (some mb)) kv v).run P w = .ok () (setBlock w mb (.map (es.push { key := kv, val := v, born := c }) (c + 1))) := by
        simp [Instr.mapUpdate, Sem.run_bind, run_underlying hT, Result.andThen, Go.MapKept.run_getObj_map hm, run_checkKey hd hkey, run_findKey hd hf, run_setObj_map _ hm, setBlock]
      simp only [execOp, ho, hx, hk, hy, Sem.run_bind, h1, Result.andThen]
      rfl
    rw [hr]
    exact hK _ _ (h _ (H.upd hi.get (grownBy_setBlock w mb _) ⟨(H.mp hi).1, (heap_set hm).1⟩ (fun _ e => .inl e)))
/-- the iterator's block is turned: what the call owns stays -/
theorem HoldG.iter (H : HoldG M w0 w l) {r : Nat} (hr : w0.heap.size ≤ r) (hn : ∀ s ∈ l, s.place ≠ some r) (ob : Obj) : HoldG M w0 (setBlock w r ob) l := by
  have hg := grownBy_setBlock w r ob
  refine ⟨H.keep.trans ⟨hg.os, hg.tape, hg.output, hg.size, fun k h1 h2 => hg.block k (Nat.lt_of_lt_of_le h1 H.keep.size) (fun e => by cases e; omega)⟩, fun i s hs => ?_, H.apart⟩
  exact (H.all i s hs).kept (fun b hb => hg.block b ((H.all i s hs).lt b hb).2 (fun e => hn s (List.mem_of_getElem? hs) (by rw [hb, ← e])))
theorem next_cases (H : HoldG M w0 w l) {r : Nat} {seen : Array Nat} (hit : w.heap[r]? = some (.mapIter (some mb) c seen c)) (hi : At l i (.mp mb es c)) (hold : ∀ x ∈ es.toList, x.born < c) (hr0 : w0.heap.size ≤ r) (hn : ∀ s ∈ l, s.place ≠ some r) :
    ((leftOf es seen).size = 0 ∧ (Instr.next (.pointer (some ⟨r, 0, none⟩)) false 0).run P w = .ok (.tuple #[.bool false]) w) ∨
    ∃ e ∈ (leftOf es seen).toList, ∃ w', (Instr.next (.pointer (some ⟨r, 0, none⟩)) false 0).run P w = .ok (.tuple #[.bool true, e.key, e.val]) w' ∧ HoldG M w0 w' l ∧ w'.heap[r]? = some (.mapIter (some mb) c (seen.push e.born) c) := by
  rcases run_next_at (P := P) w 0 r mb c c seen es c hit (H.mp hi).2 hold (Nat.le_refl _) with h | ⟨e, he, w1, hw1, hrun⟩
  · exact .inl h
  · refine .inr ⟨e, he, _, hrun, ?_, ?_⟩
    · rcases hw1 with rfl | rfl
      · exact H.iter hr0 hn _
      · exact H.drew.iter hr0 hn _
    · have hlt := (Array.getElem?_eq_some_iff.1 hit).1
      rcases hw1 with rfl | rfl
      · simp [setBlock, hlt]
      · show (w.drew.heap.setIfInBounds r _)[r]? = _
        simp [show w.drew.heap = w.heap from rfl, hlt]
theorem own_range (hg : Region.wanted o (yielded ops a.tmps) = true) (T : TypeId) (x : Operand) (ho : o.op = .range T x) (hT : P.underlying T = some (.map kt et)) (hx : a.eval x = .map (some mb)) (H : HoldG M w0 w l) (hi : At l i (.mp mb es c))
    (h : ∀ r w', HoldG M w0 w' l → w'.heap[r]? = some (.mapIter (some mb) c #[] c) → w0.heap.size ≤ r ∧ (∀ s ∈ l, s.place ≠ some r) → wpList P ops Q rest (a.put o.dst (.pointer (some ⟨r, 0, none⟩))) w') : wpList P ops Q (o :: rest) a w :=
  wpList_wanted hg fun _ hK => by
    unfold Oper.wp
    have hr : (execOp a.eval o).run P w = .ok (.value (.pointer (some ⟨w.heap.size, 0, none⟩))) (w.alloc (.mapIter (some mb) c #[] c)) := by
      simp only [execOp, ho, hx, Sem.run_bind, run_range_map (P := P) w T kt et mb es c hT (H.mp hi).2, Result.andThen]
      rfl
    rw [hr]
    refine hK _ _ (h _ _ (H.call ((Below.refl _ w).alloc (Nat.le_refl _) _)) (World.alloc_heap_new w _) ⟨H.keep.size, fun s hs e => ?_⟩)
    obtain ⟨j, hj⟩ := List.mem_iff_getElem?.1 hs
    have := ((H.all j s hj).lt _ e).2
    omega
end
def spotsE : Array MapEntry := #[{ key := .string ⟨#[98]⟩, val := .int .i64 12, born := 0 }, { key := .string ⟨#[66]⟩, val := .int .i64 13, born := 1 }, { key := .string ⟨#[65]⟩, val := .int .i64 8, born := 2 }, { key := .string ⟨#[122]⟩, val := .int .i64 9, born := 3 }]
theorem at_oneE {L : Str} {k : Nat} {c : UInt8} : atP L k [c] = (decide (k < L.length) && (byt L k == c.toNat)) := by
  unfold atP byt
  cases hd : L.drop k with
  | nil =>
    have : L.length ≤ k := by
      have := congrArg List.length hd; simp at this; omega
    simp [List.isPrefixOf]; omega
  | cons x r =>
    have hlt : k < L.length := by
      rcases Nat.lt_or_ge k L.length with h | h
      · exact h
      · rw [List.drop_eq_nil_of_le h] at hd; cases hd
    have hx : L.getD k 0 = x := by
      have := List.drop_eq_getElem_cons hlt
      rw [this] at hd
      injection hd with h1 _
      rw [List.getD_eq_getElem?_getD, List.getElem?_eq_getElem hlt]; simpa using h1
    rw [hx]
    simp only [List.isPrefixOf, Bool.and_true, hlt, decide_true, Bool.true_and]
    rw [Bool.eq_iff_iff, beq_iff_eq, beq_iff_eq]
    exact ⟨fun h => by rw [h], fun h => (UInt8.toNat_inj.1 h.symm)⟩

theorem iterSeen_of {w : World} {r : Nat} {m : Option Nat} {s c : Nat} {seen : Array Nat} (h : w.heap[r]? = some (.mapIter m s seen c)) : w.iterSeen r = seen := by unfold World.iterSeen; rw [h]
def keyStr (x : MapEntry) : Str := match x.key with | .string b => b.data.toList | _ => []
theorem spotE_hit {L : Str} {k : Nat} {c : UInt8} (h : atP L k [c] = true) {s : Nat} (hs : spotP c.toNat = some s) : (if k < L.length then spotP (byt L k) else none) = some s := by
  rw [at_oneE] at h
  simp only [Bool.and_eq_true, decide_eq_true_eq, beq_iff_eq] at h
  rw [if_pos h.1, h.2, hs]
theorem spotE_miss {L : Str} {k : Nat} (h : ∀ x ∈ spotsE.toList, atP L k (keyStr x) = false) : (if k < L.length then spotP (byt L k) else none) = none := by
  split
  · rename_i hk
    have hc : ∀ c : UInt8, atP L k [c] = false → byt L k ≠ c.toNat := fun c hc e => by
      rw [at_oneE] at hc; simp [hk, e] at hc
    have h0 : byt L k ≠ 98 := hc 98 (h spotsE[0] (by simp [spotsE]))
    have h1 : byt L k ≠ 66 := hc 66 (h spotsE[1] (by simp [spotsE]))
    have h2 : byt L k ≠ 65 := hc 65 (h spotsE[2] (by simp [spotsE]))
    have h3 : byt L k ≠ 122 := hc 122 (h spotsE[3] (by simp [spotsE]))
    unfold spotP
    rw [if_neg h0, if_neg h1, if_neg h2, if_neg h3]
  · rfl
theorem spots_old : ∀ x ∈ spotsE.toList, x.born < 4 := by
  intro x hx
  simp [spotsE] at hx
  rcases hx with rfl | rfl | rfl | rfl <;> simp
theorem spots_nodup : (spotsE.toList.map (·.born)).Nodup := by simp [spotsE]

set_option maxRecDepth 100000 in
set_option maxHeartbeats 8000000 in
theorem rd_slash (rb : Nat) (L : Str) (i : Nat) (U : TypeId) (hL : L.length ≤ 2000) (hi : i + 1 ≤ L.length) (h92 : byt L i = 92) (w0 : World) (hr : w0.heap[rb]? = some (.cells (rdC L (i + 1)) U (0, 0))) :
    Calls Tryz.prog 38 #[ptrV rb, wordV { kind := 0, place := i }] w0 (ReadsV rb L U w0 (wordR (orErr (slashP L i)))) := by
  have H := HoldG.startB hr
  have E : slashP L i = slashP L i := rfl
  conv at E => rhs; unfold slashP
  have hw1 : ((i : Int) + 1) - 1 = (i : Int) := by omega
  cases hm : manyP L i with
  | some s =>
    have hM2 : manyR L i = (.tuple #[setV s, .bool true], i + 2) := by unfold manyR; rw [hm]
    have hm' : (if i + 1 < L.length then sortP (byt L (i + 1)) else none) = some s := by
      unfold manyP at hm
      split at hm
      · rename_i h; rw [if_pos h.2]; exact hm
      · cases hm
    rw [hm'] at E; simp only [] at E
    have E3 := Lib.hid (show wordR (orErr (slashP L i)) = .ok (wordV { kind := 1, place := i, set := s }, i + 2) by rw [E]; rfl)
    clear E hm hm'
    go_enter Tryz.func38, Tryz.ntmps38
    go_upto_region 4 with (first | ((first | ((with_reducible refine kgA 3 ?_); refine kA 3 H ?_) | ((with_reducible refine kgX 3 ?_); (first | refine kS 3 H ?_ | refine kB 3 H ?_))); clear H; intro b3 w H; (try simp only [nrm, nrl, Value.cells] at H)) | ((first | ((with_reducible refine kgA 4 ?_); refine kA 4 H ?_) | ((with_reducible refine kgX 4 ?_); (first | refine kS 4 H ?_ | refine kB 4 H ?_))); clear H; intro b4 w H; (try simp only [nrm, nrl, Value.cells] at H)) | ((first | ((with_reducible refine kgA 5 ?_); refine kA 5 H ?_) | ((with_reducible refine kgX 5 ?_); (first | refine kS 5 H ?_ | refine kB 5 H ?_))); clear H; intro b5 w H; (try simp only [nrm, nrl, Value.cells] at H)) | (first | ((with_reducible refine gT ?_); ((first | refine aS H ?_ | refine aO H ?_); clear H; intro w H; (try simp only [nrm, nrl, Value.cells] at H))) | ((with_reducible refine gL ?_); refine aG H ?_)) | (go_at_call 61; (with_reducible refine (rd_many_of rb L i U hL (by omega) hM2 _ (H.blk .zero).2).mono ?_); rintro e w ⟨hk, rfl, hr⟩; replace H := H.callBut (by repeat (first | (with_reducible exact At.zero) | apply At.succ)) hk hr; clear hk hr; (try simp only [nrm, nrl, Value.cells] at H)))
    refine wp_region_late 2 0 [fun v _ => v = setV s, fun v _ => v = .pointer (some ⟨b3, 0, none⟩)] (fun _ => false) (by kernel_rfl) (by kernel_rfl) (by kernel_rfl) ⟨stable_eq _, stable_eq _, trivial⟩ (fun _ _ h => by cases h) ?ob ?en ?en2
    case ob =>
      refine ⟨?_, ?_, trivial⟩ <;> intro A W h
      · exact rs_pure rfl (loadS_run rfl (h.frame 5 rfl) (H.call h.below) (by repeat (first | (with_reducible exact At.zero) | apply At.succ)) row_Set) (by decide)
      · (have e3 : A.eval (.tmp 3) = .pointer (some ⟨b3, 0, none⟩) := h.frame 3 rfl; refine rs_pure rfl ?_ (by decide); simp only [execOp, e3]; (simp [go_sem] <;> first | done | omega | (rw [IntKind.wrap_i64]; omega) | (rw [IntKind.wrap_u8]; omega) | (rw [IntKind.wrap_u64]; omega)))
    case en =>
      intro vals W hbw hv _
      have v0 : vals 0 = setV s := hv 0 (by omega)
      have v1 : vals 1 = .pointer (some ⟨b3, 0, none⟩) := hv 1 (by omega)
      simp only [List.take_succ_cons, List.take_zero, List.drop_succ_cons, List.drop_zero, List.drop_nil, List.take_nil, fillAll, Nat.zero_add, Nat.reduceAdd]
      rw [v0, v1]
      clear hv v0 v1
      try simp only [put_lit, List.setIfInBounds_toArray, List.set_cons_succ, List.set_cons_zero]
      replace H := H.call hbw; clear hbw
      go_wp2_with (first | (first | ((with_reducible refine gT ?_); (first | ((first | refine aO H ?_ | refine aT H ?_); clear H; intro w H; (try simp only [nrm, nrl, Value.cells] at H)) | (refine aN H ?_; clear H; intro w H; (try simp only [nrm, nrl, Value.cells] at H); (try simp only [setSeg, nrl] at H)))) | ((with_reducible refine gL ?_); refine aD H ?_)))
      (refine ret_c Tryz.results38 rfl H (by repeat (first | (with_reducible exact At.zero) | apply At.succ)) (by first | (with_reducible exact row_LWord) | (with_reducible exact row_Set)) (by rfl) rfl ?_)
      exact readsV_ok E3.out H.keep (H.blk .zero).2
    case en2 =>
      intro vals W hbw hv _
      have v1 : vals 1 = .pointer (some ⟨b3, 0, none⟩) := hv 1 (by omega) (by omega)
      simp only [List.take_succ_cons, List.take_zero, List.drop_succ_cons, List.drop_zero, List.drop_nil, List.take_nil, fillBut, lateL, List.cons_append, List.nil_append, Nat.reduceEqDiff, if_true, if_false, reduceCtorEq, Nat.zero_add, Nat.reduceAdd]
      rw [v1]
      clear hv v1
      try simp only [put_lit, List.setIfInBounds_toArray, List.set_cons_succ, List.set_cons_zero]
      replace H := H.call hbw; clear hbw
      go_wp2_with (first | (first | ((with_reducible refine gT ?_); (first | ((first | refine aO H ?_ | refine aT H ?_); clear H; intro w H; (try simp only [nrm, nrl, Value.cells] at H)) | (refine aN H ?_; clear H; intro w H; (try simp only [nrm, nrl, Value.cells] at H); (try simp only [setSeg, nrl] at H)))) | ((with_reducible refine gL ?_); (first | refine aL H ?_ | refine aD H ?_))))
      (refine ret_c Tryz.results38 rfl H (by repeat (first | (with_reducible exact At.zero) | apply At.succ)) (by first | (with_reducible exact row_LWord) | (with_reducible exact row_Set)) (by rfl) rfl ?_)
      exact readsV_ok E3.out H.keep (H.blk .zero).2
  | none =>
    have hM2 : manyR L i = (.tuple #[setV emptyS, .bool false], i) := by unfold manyR; rw [hm]
    have hm' : (if i + 1 < L.length then sortP (byt L (i + 1)) else none) = none := by
      unfold manyP at hm
      split
      · rename_i h; rw [if_pos ⟨h92, h⟩] at hm; exact hm
      · rfl
    rw [hm'] at E; simp only [] at E
    clear hm hm'
    have EE := Lib.hid E; clear E
    go_enter Tryz.func38, Tryz.ntmps38
    go_wp2_with (first | ((first | ((with_reducible refine kgA 3 ?_); refine kA 3 H ?_) | ((with_reducible refine kgX 3 ?_); (first | refine kS 3 H ?_ | refine kB 3 H ?_))); clear H; intro b3 w H; (try simp only [nrm, nrl, Value.cells] at H)) | ((first | ((with_reducible refine kgA 4 ?_); refine kA 4 H ?_) | ((with_reducible refine kgX 4 ?_); (first | refine kS 4 H ?_ | refine kB 4 H ?_))); clear H; intro b4 w H; (try simp only [nrm, nrl, Value.cells] at H)) | ((first | ((with_reducible refine kgA 5 ?_); refine kA 5 H ?_) | ((with_reducible refine kgX 5 ?_); (first | refine kS 5 H ?_ | refine kB 5 H ?_))); clear H; intro b5 w H; (try simp only [nrm, nrl, Value.cells] at H)) | (first | ((with_reducible refine gT ?_); ((first | refine aS H ?_ | refine aO H ?_); clear H; intro w H; (try simp only [nrm, nrl, Value.cells] at H))) | ((with_reducible refine gL ?_); refine aG H ?_)) | (go_at_call 61; (with_reducible refine (rd_many_of rb L i U hL (by omega) hM2 _ (H.blk .zero).2).mono ?_); rintro e w ⟨hk, rfl, hr⟩; replace H := H.callBut (by repeat (first | (with_reducible exact At.zero) | apply At.succ)) hk hr; clear hk hr; (try simp only [nrm, nrl, Value.cells] at H)) | ((with_reducible show @wpList _ _ _ ({ dst := _, op := Op.makeMap _ _, type := _, pos := _, after := _, guard := _ } :: _) _ _); refine own_makeMap (by first | rfl | exact wanted_g rfl (yielded_of rfl (by first | rfl | (simp only [put_lit, put_no, List.setIfInBounds_toArray, List.set_cons_succ, List.set_cons_zero, ev_tmp, ev_const, ev_glob, ev_func, List.getD_cons_succ, List.getD_cons_zero]; rfl)))) _ rfl H ?_; clear H; intro mb w H; (try simp only [nrm, nrl, Value.cells] at H)) | ((with_reducible show @wpList _ _ _ ({ dst := _, op := Op.insert _ _ _ _, type := _, pos := _, after := _, guard := _ } :: _) _ _); refine own_insert (by first | rfl | exact wanted_g rfl (yielded_of rfl (by first | rfl | (simp only [put_lit, put_no, List.setIfInBounds_toArray, List.set_cons_succ, List.set_cons_zero, ev_tmp, ev_const, ev_glob, ev_func, List.getD_cons_succ, List.getD_cons_zero]; rfl)))) _ _ _ _ rfl Tryz.underlying117 Tryz.underlying9 rfl rfl rfl H (by repeat (first | (with_reducible exact At.zero) | apply At.succ)) trivial (by kernel_rfl) ?_; clear H; intro w H; (try simp only [nrm, nrl, Value.cells] at H)) | ((with_reducible show @wpList _ _ _ ({ dst := _, op := Op.range _ _, type := _, pos := _, after := _, guard := _ } :: _) _ _); refine own_range (by first | rfl | exact wanted_g rfl (yielded_of rfl (by first | rfl | (simp only [put_lit, put_no, List.setIfInBounds_toArray, List.set_cons_succ, List.set_cons_zero, ev_tmp, ev_const, ev_glob, ev_func, List.getD_cons_succ, List.getD_cons_zero]; rfl)))) _ _ rfl Tryz.underlying117 rfl H (by repeat (first | (with_reducible exact At.zero) | apply At.succ)) ?_; clear H; intro r w H hit hrr))
    go_frame
    replace H : HoldG (· = rb) w0 w [.blk rb (rdC L (i + 1)) U, .blk b3 (wordC { kind := 0, place := i }) 42, .blk b4 (wordC { kind := 0, place := 0 }) 42, .blk b5 (setC emptyS) 37, .mp mb spotsE 4] := H
    replace hit : w.heap[r]? = some (.mapIter (some mb) 4 #[] 4) := hit
    replace hrr : w0.heap.size ≤ r ∧ ∀ s ∈ ([.blk rb (rdC L (i + 1)) U, .blk b3 (wordC { kind := 0, place := i }) 42, .blk b4 (wordC { kind := 0, place := 0 }) 42, .blk b5 (setC emptyS) 37, .mp mb spotsE 4] : List Res), s.place ≠ some r := hrr
    go_loopw [8, 9] (fun _ _ wr => ∃ seen, wr.heap[r]? = some (.mapIter (some mb) 4 seen 4) ∧ (∀ x ∈ spotsE.toList, seen.contains x.born = true → atP L (i + 1) (keyStr x) = false) ∧ HoldG (· = rb) w0 wr [.blk rb (rdC L (i + 1)) U, .blk b3 (wordC { kind := 0, place := i }) 42, .blk b4 (wordC { kind := 0, place := 0 }) 42, .blk b5 (setC emptyS) 37, .mp mb spotsE 4]) (fun _ _ wr => (leftOf spotsE (wr.iterSeen r)).size)
    case atStart => exact ⟨#[], hit, fun x _ h => by simp at h, H⟩
    case round =>
      clear H hit
      obtain ⟨seen, hit, hseen, H⟩ := hrel
      rcases next_cases (P := Tryz.prog) H hit (by repeat (first | (with_reducible exact At.zero) | apply At.succ)) spots_old hrr.1 hrr.2 with ⟨h0, hN⟩ | ⟨e, hel, w', hN, H', hit2⟩
      · have hall := all_seen spotsE seen h0
        have E1 := EE.out
        rw [spotE_miss (fun x hx => hseen x hx (hall x hx))] at E1; simp only [] at E1
        cases hx : escP L i with
        | none =>
          have E3 := Lib.hid (show wordR (orErr (slashP L i)) = .error 4 by rw [E1, hx]; rfl)
          clear E1
          go_wp2_with (first | fail | (go_at_call 62; (with_reducible refine (rd_escape_no rb L i U hL hi hx _ (H.blk .zero).2).mono ?_); rintro e w ⟨hk, rfl⟩; exact ⟨rfl, readsV_err E3.out (H.keep.trans (hk.mono H.keep.size (fun _ _ m => m)))⟩))
        | some p =>
          obtain ⟨bb, j⟩ := p
          have hb := (escP_le hx).2.2
          have E3 := Lib.hid (show wordR (orErr (slashP L i)) = .ok (wordV { kind := 1, place := i, set := ofS [(bb : Int)] }, j) by rw [E1, hx]; rfl)
          clear E1
          go_wp2_with (first | (first | ((with_reducible refine gT ?_); (first | ((first | refine aO H ?_ | refine aT H ?_); clear H; intro w H; (try simp only [nrm, nrl, Value.cells] at H)) | (refine aN H ?_; clear H; intro w H; (try simp only [nrm, nrl, Value.cells] at H); (try simp only [setSeg, nrl] at H)))) | ((with_reducible refine gL ?_); refine aD H ?_)) | (go_at_call 62; (with_reducible refine (rd_escape_ok rb L i U hL hi hx _ (H.blk .zero).2).mono ?_); rintro e w ⟨hk, rfl, hr⟩; replace H := H.callBut (by repeat (first | (with_reducible exact At.zero) | apply At.succ)) hk hr; clear hk hr; (try simp only [nrm, nrl, Value.cells] at H)) | ((with_reducible show @wpList _ _ _ ({ dst := _, op := Op.buildSlice _ _ _, type := _, pos := _, after := _, guard := _ } :: _) _ _); refine own_build (by first | rfl | exact wanted_g rfl (yielded_of rfl (by first | rfl | (simp only [put_lit, put_no, List.setIfInBounds_toArray, List.set_cons_succ, List.set_cons_zero, ev_tmp, ev_const, ev_glob, ev_func, List.getD_cons_succ, List.getD_cons_zero]; rfl)))) _ _ _ rfl H (#[.int .u8 bb]) 5 (by intro W; simp only [List.map_toArray, List.map_cons, List.map_nil]; (try simp only [put_lit, put_no, List.setIfInBounds_toArray, List.set_cons_succ, List.set_cons_zero, ev_tmp, ev_const, ev_glob, ev_func, List.getD_cons_succ, List.getD_cons_zero]); (try unfold setV); simp [go_sem] <;> rfl) ?_; clear H; intro b w H; (try simp only [nrm, nrl, Value.cells] at H)) | (go_at_call 45; (with_reducible refine ch (of_1 bb hb _ _ (H.rdn (cs := [.int .u8 bb]) (by repeat (first | (with_reducible exact At.zero) | apply At.succ)) (by simp) (by simp [maxLen]))) H ?_); clear H; intro w H))
          (refine ret_c Tryz.results38 rfl H (by repeat (first | (with_reducible exact At.zero) | apply At.succ)) (by first | (with_reducible exact row_LWord) | (with_reducible exact row_Set)) (by rfl) rfl ?_)
          exact readsV_ok E3.out H.keep (H.blk .zero).2
      · obtain ⟨hmem, hns⟩ := mem_left hel
        clear H; have H := H'; clear H'
        have hc4 : e = spotsE[0] ∨ e = spotsE[1] ∨ e = spotsE[2] ∨ e = spotsE[3] := by
          simp [spotsE] at hmem; simpa [spotsE] using hmem
        rcases hc4 with rfl | rfl | rfl | rfl
        · have hE := run_entry_at (P := Tryz.prog) w' r mb 4 seen spotsE 4 spotsE[0] hit2 (H.mp (by repeat (first | (with_reducible exact At.zero) | apply At.succ))).2 (by simp [spotsE]) spots_nodup
          replace hE : _ = Result.ok (Value.tuple #[.string ⟨#[98]⟩, .int .i64 12]) w' := hE
          replace hN : _ = Result.ok (Value.tuple #[.bool true, .string ⟨#[98]⟩, .int .i64 12]) w' := hN
          cases hs : atP L (i + 1) [98] with
          | true =>
            have hle := at_le hs (by simp)
            simp only [List.length_cons, List.length_nil, Nat.zero_add] at hle
            have E1 := EE.out
            rw [spotE_hit hs (show spotP (UInt8.toNat 98) = some 12 from rfl)] at E1; simp only [] at E1
            have E3 := Lib.hid (show wordR (orErr (slashP L i)) = .ok (wordV { kind := 5, place := i, spot := 12 }, i + 2) by rw [E1]; rfl)
            have SK := fun w h => skip_of rb (by simp) U hL hi hs w h
            simp only [if_true, List.length_cons, List.length_nil, Nat.zero_add] at SK
            clear hs E1
            go_wp2_with (first | (first | ((with_reducible refine gT ?_); ((first | refine aO H ?_ | refine aT H ?_); clear H; intro w H; (try simp only [nrm, nrl, Value.cells] at H))) | ((with_reducible refine gL ?_); refine aD H ?_)) | (go_at_call 40; (with_reducible refine (SK _ (H.blk .zero).2).mono ?_); rintro e w ⟨hk, rfl, hr⟩; replace H := H.callBut (by repeat (first | (with_reducible exact At.zero) | apply At.succ)) hk hr; clear hk hr; (try simp only [nrm, nrl, Value.cells] at H)))
            (refine ret_c Tryz.results38 rfl H (by repeat (first | (with_reducible exact At.zero) | apply At.succ)) (by first | (with_reducible exact row_LWord) | (with_reducible exact row_Set)) (by rfl) rfl ?_)
            exact readsV_ok E3.out H.keep (H.blk .zero).2
          | false =>
            have SK := fun w h => skip_of rb (by simp) U hL hi hs w h
            simp only [Bool.false_eq_true, if_false] at SK
            have HS := Lib.hid hs; clear hs
            go_wp2_with (first | fail | (go_at_call 40; (with_reducible refine (SK _ (H.blk .zero).2).mono ?_); rintro e w ⟨hk, rfl, hr2⟩; have hit3 := (hk.old r (Array.getElem?_eq_some_iff.1 hit2).1 (fun e => hrr.2 _ (List.mem_cons_self ..) (by rw [e]; rfl))).trans hit2; replace H := H.callBut (by repeat (first | (with_reducible exact At.zero) | apply At.succ)) hk hr2; clear hk hr2; (try simp only [nrm, nrl, Value.cells] at H)))
            go_roundw
            case rel =>
              refine ⟨seen.push 0, hit3, fun x hx hs => ?_, H⟩
              rw [contains_push] at hs
              simp only [Bool.or_eq_true, beq_iff_eq] at hs
              rcases hs with hs | hs
              · exact hseen x hx hs
              · have : x = spotsE[0] := born_inj spots_nodup hx (by simp [spotsE]) (by rw [hs]; rfl)
                rw [this]; exact HS.out
            case measure =>
              rw [iterSeen_of hit3, iterSeen_of hit]
              exact left_shrinks spotsE seen spotsE[0] hel
        · have hE := run_entry_at (P := Tryz.prog) w' r mb 4 seen spotsE 4 spotsE[1] hit2 (H.mp (by repeat (first | (with_reducible exact At.zero) | apply At.succ))).2 (by simp [spotsE]) spots_nodup
          replace hE : _ = Result.ok (Value.tuple #[.string ⟨#[66]⟩, .int .i64 13]) w' := hE
          replace hN : _ = Result.ok (Value.tuple #[.bool true, .string ⟨#[66]⟩, .int .i64 13]) w' := hN
          cases hs : atP L (i + 1) [66] with
          | true =>
            have hle := at_le hs (by simp)
            simp only [List.length_cons, List.length_nil, Nat.zero_add] at hle
            have E1 := EE.out
            rw [spotE_hit hs (show spotP (UInt8.toNat 66) = some 13 from rfl)] at E1; simp only [] at E1
            have E3 := Lib.hid (show wordR (orErr (slashP L i)) = .ok (wordV { kind := 5, place := i, spot := 13 }, i + 2) by rw [E1]; rfl)
            have SK := fun w h => skip_of rb (by simp) U hL hi hs w h
            simp only [if_true, List.length_cons, List.length_nil, Nat.zero_add] at SK
            clear hs E1
            go_wp2_with (first | (first | ((with_reducible refine gT ?_); ((first | refine aO H ?_ | refine aT H ?_); clear H; intro w H; (try simp only [nrm, nrl, Value.cells] at H))) | ((with_reducible refine gL ?_); refine aD H ?_)) | (go_at_call 40; (with_reducible refine (SK _ (H.blk .zero).2).mono ?_); rintro e w ⟨hk, rfl, hr⟩; replace H := H.callBut (by repeat (first | (with_reducible exact At.zero) | apply At.succ)) hk hr; clear hk hr; (try simp only [nrm, nrl, Value.cells] at H)))
            (refine ret_c Tryz.results38 rfl H (by repeat (first | (with_reducible exact At.zero) | apply At.succ)) (by first | (with_reducible exact row_LWord) | (with_reducible exact row_Set)) (by rfl) rfl ?_)
            exact readsV_ok E3.out H.keep (H.blk .zero).2
          | false =>
            have SK := fun w h => skip_of rb (by simp) U hL hi hs w h
            simp only [Bool.false_eq_true, if_false] at SK
            have HS := Lib.hid hs; clear hs
            go_wp2_with (first | fail | (go_at_call 40; (with_reducible refine (SK _ (H.blk .zero).2).mono ?_); rintro e w ⟨hk, rfl, hr2⟩; have hit3 := (hk.old r (Array.getElem?_eq_some_iff.1 hit2).1 (fun e => hrr.2 _ (List.mem_cons_self ..) (by rw [e]; rfl))).trans hit2; replace H := H.callBut (by repeat (first | (with_reducible exact At.zero) | apply At.succ)) hk hr2; clear hk hr2; (try simp only [nrm, nrl, Value.cells] at H)))
            go_roundw
            case rel =>
              refine ⟨seen.push 1, hit3, fun x hx hs => ?_, H⟩
              rw [contains_push] at hs
              simp only [Bool.or_eq_true, beq_iff_eq] at hs
              rcases hs with hs | hs
              · exact hseen x hx hs
              · have : x = spotsE[1] := born_inj spots_nodup hx (by simp [spotsE]) (by rw [hs]; rfl)
                rw [this]; exact HS.out
            case measure =>
              rw [iterSeen_of hit3, iterSeen_of hit]
              exact left_shrinks spotsE seen spotsE[1] hel
        · have hE := run_entry_at (P := Tryz.prog) w' r mb 4 seen spotsE 4 spotsE[2] hit2 (H.mp (by repeat (first | (with_reducible exact At.zero) | apply At.succ))).2 (by simp [spotsE]) spots_nodup
          replace hE : _ = Result.ok (Value.tuple #[.string ⟨#[65]⟩, .int .i64 8]) w' := hE
          replace hN : _ = Result.ok (Value.tuple #[.bool true, .string ⟨#[65]⟩, .int .i64 8]) w' := hN
          cases hs : atP L (i + 1) [65] with
          | true =>
            have hle := at_le hs (by simp)
            simp only [List.length_cons, List.length_nil, Nat.zero_add] at hle
            have E1 := EE.out
            rw [spotE_hit hs (show spotP (UInt8.toNat 65) = some 8 from rfl)] at E1; simp only [] at E1
            have E3 := Lib.hid (show wordR (orErr (slashP L i)) = .ok (wordV { kind := 5, place := i, spot := 8 }, i + 2) by rw [E1]; rfl)
            have SK := fun w h => skip_of rb (by simp) U hL hi hs w h
            simp only [if_true, List.length_cons, List.length_nil, Nat.zero_add] at SK
            clear hs E1
            go_wp2_with (first | (first | ((with_reducible refine gT ?_); ((first | refine aO H ?_ | refine aT H ?_); clear H; intro w H; (try simp only [nrm, nrl, Value.cells] at H))) | ((with_reducible refine gL ?_); refine aD H ?_)) | (go_at_call 40; (with_reducible refine (SK _ (H.blk .zero).2).mono ?_); rintro e w ⟨hk, rfl, hr⟩; replace H := H.callBut (by repeat (first | (with_reducible exact At.zero) | apply At.succ)) hk hr; clear hk hr; (try simp only [nrm, nrl, Value.cells] at H)))
            (refine ret_c Tryz.results38 rfl H (by repeat (first | (with_reducible exact At.zero) | apply At.succ)) (by first | (with_reducible exact row_LWord) | (with_reducible exact row_Set)) (by rfl) rfl ?_)
            exact readsV_ok E3.out H.keep (H.blk .zero).2
          | false =>
            have SK := fun w h => skip_of rb (by simp) U hL hi hs w h
            simp only [Bool.false_eq_true, if_false] at SK
            have HS := Lib.hid hs; clear hs
            go_wp2_with (first | fail | (go_at_call 40; (with_reducible refine (SK _ (H.blk .zero).2).mono ?_); rintro e w ⟨hk, rfl, hr2⟩; have hit3 := (hk.old r (Array.getElem?_eq_some_iff.1 hit2).1 (fun e => hrr.2 _ (List.mem_cons_self ..) (by rw [e]; rfl))).trans hit2; replace H := H.callBut (by repeat (first | (with_reducible exact At.zero) | apply At.succ)) hk hr2; clear hk hr2; (try simp only [nrm, nrl, Value.cells] at H)))
            go_roundw
            case rel =>
              refine ⟨seen.push 2, hit3, fun x hx hs => ?_, H⟩
              rw [contains_push] at hs
              simp only [Bool.or_eq_true, beq_iff_eq] at hs
              rcases hs with hs | hs
              · exact hseen x hx hs
              · have : x = spotsE[2] := born_inj spots_nodup hx (by simp [spotsE]) (by rw [hs]; rfl)
                rw [this]; exact HS.out
            case measure =>
              rw [iterSeen_of hit3, iterSeen_of hit]
              exact left_shrinks spotsE seen spotsE[2] hel
        · have hE := run_entry_at (P := Tryz.prog) w' r mb 4 seen spotsE 4 spotsE[3] hit2 (H.mp (by repeat (first | (with_reducible exact At.zero) | apply At.succ))).2 (by simp [spotsE]) spots_nodup
          replace hE : _ = Result.ok (Value.tuple #[.string ⟨#[122]⟩, .int .i64 9]) w' := hE
          replace hN : _ = Result.ok (Value.tuple #[.bool true, .string ⟨#[122]⟩, .int .i64 9]) w' := hN
          cases hs : atP L (i + 1) [122] with
          | true =>
            have hle := at_le hs (by simp)
            simp only [List.length_cons, List.length_nil, Nat.zero_add] at hle
            have E1 := EE.out
            rw [spotE_hit hs (show spotP (UInt8.toNat 122) = some 9 from rfl)] at E1; simp only [] at E1
            have E3 := Lib.hid (show wordR (orErr (slashP L i)) = .ok (wordV { kind := 5, place := i, spot := 9 }, i + 2) by rw [E1]; rfl)
            have SK := fun w h => skip_of rb (by simp) U hL hi hs w h
            simp only [if_true, List.length_cons, List.length_nil, Nat.zero_add] at SK
            clear hs E1
            go_wp2_with (first | (first | ((with_reducible refine gT ?_); ((first | refine aO H ?_ | refine aT H ?_); clear H; intro w H; (try simp only [nrm, nrl, Value.cells] at H))) | ((with_reducible refine gL ?_); refine aD H ?_)) | (go_at_call 40; (with_reducible refine (SK _ (H.blk .zero).2).mono ?_); rintro e w ⟨hk, rfl, hr⟩; replace H := H.callBut (by repeat (first | (with_reducible exact At.zero) | apply At.succ)) hk hr; clear hk hr; (try simp only [nrm, nrl, Value.cells] at H)))
            (refine ret_c Tryz.results38 rfl H (by repeat (first | (with_reducible exact At.zero) | apply At.succ)) (by first | (with_reducible exact row_LWord) | (with_reducible exact row_Set)) (by rfl) rfl ?_)
            exact readsV_ok E3.out H.keep (H.blk .zero).2
          | false =>
            have SK := fun w h => skip_of rb (by simp) U hL hi hs w h
            simp only [Bool.false_eq_true, if_false] at SK
            have HS := Lib.hid hs; clear hs
            go_wp2_with (first | fail | (go_at_call 40; (with_reducible refine (SK _ (H.blk .zero).2).mono ?_); rintro e w ⟨hk, rfl, hr2⟩; have hit3 := (hk.old r (Array.getElem?_eq_some_iff.1 hit2).1 (fun e => hrr.2 _ (List.mem_cons_self ..) (by rw [e]; rfl))).trans hit2; replace H := H.callBut (by repeat (first | (with_reducible exact At.zero) | apply At.succ)) hk hr2; clear hk hr2; (try simp only [nrm, nrl, Value.cells] at H)))
            go_roundw
            case rel =>
              refine ⟨seen.push 3, hit3, fun x hx hs => ?_, H⟩
              rw [contains_push] at hs
              simp only [Bool.or_eq_true, beq_iff_eq] at hs
              rcases hs with hs | hs
              · exact hseen x hx hs
              · have : x = spotsE[3] := born_inj spots_nodup hx (by simp [spotsE]) (by rw [hs]; rfl)
                rw [this]; exact HS.out
            case measure =>
              rw [iterSeen_of hit3, iterSeen_of hit]
              exact left_shrinks spotsE seen spotsE[3] hel
end Go.Proofs.YtllmgmfihijejaaGreatDoor
/-
  The walks of package lex: flags.
-/
namespace Go.Proofs.YtllmgmfihijejaaGreatDoor
open Go.RowKit Go.Shelf Go.MapKept
attribute [local go_sem] Oper.semAt_some
set_option linter.unusedSimpArgs false


theorem flags_size (W : World) : (sizeOf 40).run Tryz.prog W = .ok 3 W := by kernel_rfl
theorem ptr_eql_at (b k m : Nat) (W : World) : (binOp .eql 102 (.pointer (some ⟨b, k, none⟩)) (.pointer (some ⟨b, m, none⟩))).run Tryz.prog W = .ok (.bool (k == m)) W := by
  have h : (Op.equal 102 (.pointer (some ⟨b, k, none⟩)) (.pointer (some ⟨b, m, none⟩))).run Tryz.prog W = .ok (k == m) W := by
    show (Op.equalIn (9999 + 1) _ _ _).run _ _ = _
    unfold Op.equalIn
    rw [Sem.run_bind, run_underlying Tryz.underlying102]
    simp only [Result.andThen, Sem.run_bind, flags_size]
    simp [sameAddr]
    rw [Bool.eq_iff_iff]; simp
  simp [binOp, h, go_sem]
theorem ptr_eql_y (b : Nat) (W : World) : (binOp .eql 102 (.pointer (some ⟨b, 11, none⟩)) (.pointer (some ⟨b, 11, none⟩))).run Tryz.prog W = .ok (.bool true) W := ptr_eql_at b 11 11 W
theorem ptr_eql_n (b : Nat) (W : World) : (binOp .eql 102 (.pointer (some ⟨b, 14, none⟩)) (.pointer (some ⟨b, 11, none⟩))).run Tryz.prog W = .ok (.bool false) W := ptr_eql_at b 14 11 W
attribute [local go_sem] ptr_eql_y ptr_eql_n
set_option maxRecDepth 100000 in
set_option maxHeartbeats 32000000 in
theorem rd_flags (rb : Nat) (L : Str) (i : Nat) (U : TypeId) (hL : L.length ≤ 2000) (hi : i + 2 ≤ L.length) (w0 : World) (hr : w0.heap[rb]? = some (.cells (rdC L (i + 2)) U (0, 0))) :
    Calls Tryz.prog 41 #[ptrV rb, wordV { kind := 0, place := i }] w0 (ReadsV rb L U w0 (wordR (orErr (flagsP L i)))) := by
  have H := HoldG.startB hr
  go_enter Tryz.func41, Tryz.ntmps41
  go_wp2_with (first | ((first | ((with_reducible refine kgA 3 ?_); refine kA 3 H ?_) | ((with_reducible refine kgX 3 ?_); (first | refine kS 3 H ?_ | refine kB 3 H ?_))); clear H; intro b3 w H; (try simp only [nrm, nrl, Value.cells] at H)) | ((first | ((with_reducible refine kgA 4 ?_); refine kA 4 H ?_) | ((with_reducible refine kgX 4 ?_); (first | refine kS 4 H ?_ | refine kB 4 H ?_))); clear H; intro b4 w H; (try simp only [nrm, nrl, Value.cells] at H)) | fail)
  go_step3
  go_wp2_with (first | ((first | ((with_reducible refine kgA 3 ?_); refine kA 3 H ?_) | ((with_reducible refine kgX 3 ?_); (first | refine kS 3 H ?_ | refine kB 3 H ?_))); clear H; intro b3 w H; (try simp only [nrm, nrl, Value.cells] at H)) | ((first | ((with_reducible refine kgA 4 ?_); refine kA 4 H ?_) | ((with_reducible refine kgX 4 ?_); (first | refine kS 4 H ?_ | refine kB 4 H ?_))); clear H; intro b4 w H; (try simp only [nrm, nrl, Value.cells] at H)) | fail)
  go_step3
  go_wp2_with (first | ((first | ((with_reducible refine kgA 3 ?_); refine kA 3 H ?_) | ((with_reducible refine kgX 3 ?_); (first | refine kS 3 H ?_ | refine kB 3 H ?_))); clear H; intro b3 w H; (try simp only [nrm, nrl, Value.cells] at H)) | ((first | ((with_reducible refine kgA 4 ?_); refine kA 4 H ?_) | ((with_reducible refine kgX 4 ?_); (first | refine kS 4 H ?_ | refine kB 4 H ?_))); clear H; intro b4 w H; (try simp only [nrm, nrl, Value.cells] at H)) | fail)
  go_loopw [5, 6] (fun p o wr => ∃ (j f : Nat) (bo bs : Bool) (d : WordD), p = .pointer (some ⟨b3, if bo then 14 else 11, none⟩) ∧ o = .bool bs ∧ j ≤ L.length ∧ Hid (flagsP L i = flagsGo L f j bo bs d ∧ L.length < f + j) ∧ HoldG (· = rb) w0 wr [.blk rb (rdC L j) U, .blk b3 (wordC d) 42, .blk b4 (wordC { kind := 0, place := 0 }) 42]) (fun _ _ wr => L.length + 2 - rdPos rb wr)
  case atStart => exact ⟨i + 2, L.length + 1, false, true, { kind := 0, place := i }, rfl, rfl, hi, Lib.hid ⟨rfl, by omega⟩, H⟩
  case round =>
    clear H
    obtain ⟨j, f, bo, bs, d, rfl, rfl, hj, G, H⟩ := hrel
    obtain ⟨f, rfl⟩ : ∃ f', f = f' + 1 := ⟨f - 1, by have := G.out.2; omega⟩
    have H0 := (H.blk .zero).2
    by_cases hlt : j < L.length
    · cases bo with
      | false =>
        simp only [Bool.false_eq_true, if_false]
        by_cases hc : byt L j = 105
        · have G2 := Lib.hid (show flagsP L i = flagsGo L f (j + 1) false true { d with on := (true, d.on.2.1, d.on.2.2) } by rw [G.out.1, fl_105f hlt hc])
          have e3 : ((byt L j : Int) == 105) = true := by rw [beq_iff_eq]; omega
          clear hc
          go_wp2_with (first | ((with_reducible refine gT ?_); (refine aO H ?_; clear H; intro w H; (try simp only [nrm, nrl, Value.cells] at H))) | (go_at_call 37; (with_reducible refine (rd_next_ok rb L j U hL hlt _ (H.blk .zero).2).mono ?_); rintro e w ⟨hk, rfl, hr⟩; replace H := H.callBut (by repeat (first | (with_reducible exact At.zero) | apply At.succ)) hk hr; clear hk hr; (try simp only [nrm, nrl, Value.cells] at H)) | (go_at_call 60; (with_reducible refine ch (must_yes4 _) H ?_); clear H; intro w H))
          go_roundw
          case rel => exact ⟨j + 1, f, false, true, { d with on := (true, d.on.2.1, d.on.2.2) }, by first | rfl | (simp; done), by first | rfl | (simp; done), by omega, Lib.hid ⟨G2.out, by have := G.out.2; omega⟩, H⟩
          case measure => rw [rdPos_of (H.blk .zero).2, rdPos_of H0]; omega
        · have n105 : ((byt L j : Int) == 105) = false := by rw [beq_eq_false_iff_ne]; omega
          have m105 := Lib.hid hc; clear hc
          by_cases hc : byt L j = 109
          · have G2 := Lib.hid (show flagsP L i = flagsGo L f (j + 1) false true { d with on := (d.on.1, true, d.on.2.2) } by rw [G.out.1, fl_109f hlt hc])
            have e3 : ((byt L j : Int) == 109) = true := by rw [beq_iff_eq]; omega
            clear hc
            go_wp2_with (first | ((with_reducible refine gT ?_); (refine aO H ?_; clear H; intro w H; (try simp only [nrm, nrl, Value.cells] at H))) | (go_at_call 37; (with_reducible refine (rd_next_ok rb L j U hL hlt _ (H.blk .zero).2).mono ?_); rintro e w ⟨hk, rfl, hr⟩; replace H := H.callBut (by repeat (first | (with_reducible exact At.zero) | apply At.succ)) hk hr; clear hk hr; (try simp only [nrm, nrl, Value.cells] at H)) | (go_at_call 60; (with_reducible refine ch (must_yes4 _) H ?_); clear H; intro w H))
            go_roundw
            case rel => exact ⟨j + 1, f, false, true, { d with on := (d.on.1, true, d.on.2.2) }, by first | rfl | (simp; done), by first | rfl | (simp; done), by omega, Lib.hid ⟨G2.out, by have := G.out.2; omega⟩, H⟩
            case measure => rw [rdPos_of (H.blk .zero).2, rdPos_of H0]; omega
          · have n109 : ((byt L j : Int) == 109) = false := by rw [beq_eq_false_iff_ne]; omega
            have m109 := Lib.hid hc; clear hc
            by_cases hc : byt L j = 115
            · have G2 := Lib.hid (show flagsP L i = flagsGo L f (j + 1) false true { d with on := (d.on.1, d.on.2.1, true) } by rw [G.out.1, fl_115f hlt hc])
              have e3 : ((byt L j : Int) == 115) = true := by rw [beq_iff_eq]; omega
              clear hc
              go_wp2_with (first | ((with_reducible refine gT ?_); (refine aO H ?_; clear H; intro w H; (try simp only [nrm, nrl, Value.cells] at H))) | (go_at_call 37; (with_reducible refine (rd_next_ok rb L j U hL hlt _ (H.blk .zero).2).mono ?_); rintro e w ⟨hk, rfl, hr⟩; replace H := H.callBut (by repeat (first | (with_reducible exact At.zero) | apply At.succ)) hk hr; clear hk hr; (try simp only [nrm, nrl, Value.cells] at H)) | (go_at_call 60; (with_reducible refine ch (must_yes4 _) H ?_); clear H; intro w H))
              go_roundw
              case rel => exact ⟨j + 1, f, false, true, { d with on := (d.on.1, d.on.2.1, true) }, by first | rfl | (simp; done), by first | rfl | (simp; done), by omega, Lib.hid ⟨G2.out, by have := G.out.2; omega⟩, H⟩
              case measure => rw [rdPos_of (H.blk .zero).2, rdPos_of H0]; omega
            · have n115 : ((byt L j : Int) == 115) = false := by rw [beq_eq_false_iff_ne]; omega
              have m115 := Lib.hid hc; clear hc
              by_cases hc : byt L j = 45
              · have G2 := Lib.hid (show flagsP L i = flagsGo L f (j + 1) true false d by rw [G.out.1, fl_45f hlt hc])
                have e3 : ((byt L j : Int) == 45) = true := by rw [beq_iff_eq]; omega
                clear hc
                go_wp2_with (first | fail | (go_at_call 37; (with_reducible refine (rd_next_ok rb L j U hL hlt _ (H.blk .zero).2).mono ?_); rintro e w ⟨hk, rfl, hr⟩; replace H := H.callBut (by repeat (first | (with_reducible exact At.zero) | apply At.succ)) hk hr; clear hk hr; (try simp only [nrm, nrl, Value.cells] at H)) | (go_at_call 60; (with_reducible refine ch (must_yes4 _) H ?_); clear H; intro w H))
                go_roundw
                case rel => exact ⟨j + 1, f, true, false, d, by first | rfl | (simp; done), by first | rfl | (simp; done), by omega, Lib.hid ⟨G2.out, by have := G.out.2; omega⟩, H⟩
                case measure => rw [rdPos_of (H.blk .zero).2, rdPos_of H0]; omega
              · have n45 : ((byt L j : Int) == 45) = false := by rw [beq_eq_false_iff_ne]; omega
                have m45 := Lib.hid hc; clear hc
                by_cases hc : byt L j = 58
                · cases bs with
                  | true =>
                    have E3 := Lib.hid (show wordR (orErr (flagsP L i)) = .ok (wordV ({ d with kind := 7 }), j + 1) by rw [G.out.1, fl_58y hlt hc]; rfl)
                    have e41 : ((byt L j : Int) == 41) = false := by rw [beq_eq_false_iff_ne]; omega
                    have e3 : ((byt L j : Int) == 58) = true := by rw [beq_iff_eq]; omega
                    clear hc
                    go_wp2_with (first | (first | ((with_reducible refine gT ?_); ((first | refine aO H ?_ | refine aT H ?_); clear H; intro w H; (try simp only [nrm, nrl, Value.cells] at H))) | ((with_reducible refine gL ?_); refine aD H ?_)) | (go_at_call 37; (with_reducible refine (rd_next_ok rb L j U hL hlt _ (H.blk .zero).2).mono ?_); rintro e w ⟨hk, rfl, hr⟩; replace H := H.callBut (by repeat (first | (with_reducible exact At.zero) | apply At.succ)) hk hr; clear hk hr; (try simp only [nrm, nrl, Value.cells] at H)) | (go_at_call 60; (with_reducible refine ch (must_yes4 _) H ?_); clear H; intro w H))
                    rw [Exit.noGoto_ret]
                    (refine ret_c Tryz.results41 rfl H (by repeat (first | (with_reducible exact At.zero) | apply At.succ)) (by first | (with_reducible exact row_LWord) | (with_reducible exact row_Set)) (by rfl) rfl ?_)
                    exact readsV_ok E3.out H.keep (H.blk .zero).2
                  | false =>
                    have E3 := Lib.hid (show wordR (orErr (flagsP L i)) = .error 4 by rw [G.out.1, fl_58n hlt hc]; rfl)
                    have e3 : ((byt L j : Int) == 58) = true := by rw [beq_iff_eq]; omega
                    clear hc
                    go_wp2_with (first | fail | (go_at_call 37; (with_reducible refine (rd_next_ok rb L j U hL hlt _ (H.blk .zero).2).mono ?_); rintro e w ⟨hk, rfl, hr⟩; replace H := H.callBut (by repeat (first | (with_reducible exact At.zero) | apply At.succ)) hk hr; clear hk hr; (try simp only [nrm, nrl, Value.cells] at H)) | (go_at_call 60; (with_reducible refine ch (must_no4 _) H ?_); clear H; intro w H))
                    exact ⟨rfl, readsV_err E3.out H.keep⟩
                · have n58 : ((byt L j : Int) == 58) = false := by rw [beq_eq_false_iff_ne]; omega
                  have m58 := Lib.hid hc; clear hc
                  by_cases hc : byt L j = 41
                  · cases bs with
                    | true =>
                      have E3 := Lib.hid (show wordR (orErr (flagsP L i)) = .ok (wordV ({ d with kind := 8 }), j + 1) by rw [G.out.1, fl_41y hlt hc]; rfl)
                      have e3 : ((byt L j : Int) == 41) = true := by rw [beq_iff_eq]; omega
                      clear hc
                      go_wp2_with (first | (first | ((with_reducible refine gT ?_); ((first | refine aO H ?_ | refine aT H ?_); clear H; intro w H; (try simp only [nrm, nrl, Value.cells] at H))) | ((with_reducible refine gL ?_); refine aD H ?_)) | (go_at_call 37; (with_reducible refine (rd_next_ok rb L j U hL hlt _ (H.blk .zero).2).mono ?_); rintro e w ⟨hk, rfl, hr⟩; replace H := H.callBut (by repeat (first | (with_reducible exact At.zero) | apply At.succ)) hk hr; clear hk hr; (try simp only [nrm, nrl, Value.cells] at H)) | (go_at_call 60; (with_reducible refine ch (must_yes4 _) H ?_); clear H; intro w H))
                      rw [Exit.noGoto_ret]
                      (refine ret_c Tryz.results41 rfl H (by repeat (first | (with_reducible exact At.zero) | apply At.succ)) (by first | (with_reducible exact row_LWord) | (with_reducible exact row_Set)) (by rfl) rfl ?_)
                      exact readsV_ok E3.out H.keep (H.blk .zero).2
                    | false =>
                      have E3 := Lib.hid (show wordR (orErr (flagsP L i)) = .error 4 by rw [G.out.1, fl_41n hlt hc]; rfl)
                      have e3 : ((byt L j : Int) == 41) = true := by rw [beq_iff_eq]; omega
                      clear hc
                      go_wp2_with (first | fail | (go_at_call 37; (with_reducible refine (rd_next_ok rb L j U hL hlt _ (H.blk .zero).2).mono ?_); rintro e w ⟨hk, rfl, hr⟩; replace H := H.callBut (by repeat (first | (with_reducible exact At.zero) | apply At.succ)) hk hr; clear hk hr; (try simp only [nrm, nrl, Value.cells] at H)) | (go_at_call 60; (with_reducible refine ch (must_no4 _) H ?_); clear H; intro w H))
                      exact ⟨rfl, readsV_err E3.out H.keep⟩
                  · have n41 : ((byt L j : Int) == 41) = false := by rw [beq_eq_false_iff_ne]; omega
                    have m41 := Lib.hid hc; clear hc
                    have E3 := Lib.hid (show wordR (orErr (flagsP L i)) = .error 4 by rw [G.out.1, fl_no hlt m105.out m109.out m115.out m45.out m58.out m41.out]; rfl)
                    go_wp2_with (first | fail | (go_at_call 37; (with_reducible refine (rd_next_ok rb L j U hL hlt _ (H.blk .zero).2).mono ?_); rintro e w ⟨hk, rfl, hr⟩; replace H := H.callBut (by repeat (first | (with_reducible exact At.zero) | apply At.succ)) hk hr; clear hk hr; (try simp only [nrm, nrl, Value.cells] at H)) | (go_at_call 60; (with_reducible refine ch (must_no4 _) H ?_); clear H; intro w H))
                    exact ⟨rfl, readsV_err E3.out H.keep⟩
      | true =>
        simp only [if_true]
        by_cases hc : byt L j = 105
        · have G2 := Lib.hid (show flagsP L i = flagsGo L f (j + 1) true true { d with off := (true, d.off.2.1, d.off.2.2) } by rw [G.out.1, fl_105t hlt hc])
          have e3 : ((byt L j : Int) == 105) = true := by rw [beq_iff_eq]; omega
          clear hc
          go_wp2_with (first | ((with_reducible refine gT ?_); (refine aO H ?_; clear H; intro w H; (try simp only [nrm, nrl, Value.cells] at H))) | (go_at_call 37; (with_reducible refine (rd_next_ok rb L j U hL hlt _ (H.blk .zero).2).mono ?_); rintro e w ⟨hk, rfl, hr⟩; replace H := H.callBut (by repeat (first | (with_reducible exact At.zero) | apply At.succ)) hk hr; clear hk hr; (try simp only [nrm, nrl, Value.cells] at H)) | (go_at_call 60; (with_reducible refine ch (must_yes4 _) H ?_); clear H; intro w H))
          go_roundw
          case rel => exact ⟨j + 1, f, true, true, { d with off := (true, d.off.2.1, d.off.2.2) }, by first | rfl | (simp; done), by first | rfl | (simp; done), by omega, Lib.hid ⟨G2.out, by have := G.out.2; omega⟩, H⟩
          case measure => rw [rdPos_of (H.blk .zero).2, rdPos_of H0]; omega
        · have n105 : ((byt L j : Int) == 105) = false := by rw [beq_eq_false_iff_ne]; omega
          have m105 := Lib.hid hc; clear hc
          by_cases hc : byt L j = 109
          · have G2 := Lib.hid (show flagsP L i = flagsGo L f (j + 1) true true { d with off := (d.off.1, true, d.off.2.2) } by rw [G.out.1, fl_109t hlt hc])
            have e3 : ((byt L j : Int) == 109) = true := by rw [beq_iff_eq]; omega
            clear hc
            go_wp2_with (first | ((with_reducible refine gT ?_); (refine aO H ?_; clear H; intro w H; (try simp only [nrm, nrl, Value.cells] at H))) | (go_at_call 37; (with_reducible refine (rd_next_ok rb L j U hL hlt _ (H.blk .zero).2).mono ?_); rintro e w ⟨hk, rfl, hr⟩; replace H := H.callBut (by repeat (first | (with_reducible exact At.zero) | apply At.succ)) hk hr; clear hk hr; (try simp only [nrm, nrl, Value.cells] at H)) | (go_at_call 60; (with_reducible refine ch (must_yes4 _) H ?_); clear H; intro w H))
            go_roundw
            case rel => exact ⟨j + 1, f, true, true, { d with off := (d.off.1, true, d.off.2.2) }, by first | rfl | (simp; done), by first | rfl | (simp; done), by omega, Lib.hid ⟨G2.out, by have := G.out.2; omega⟩, H⟩
            case measure => rw [rdPos_of (H.blk .zero).2, rdPos_of H0]; omega
          · have n109 : ((byt L j : Int) == 109) = false := by rw [beq_eq_false_iff_ne]; omega
            have m109 := Lib.hid hc; clear hc
            by_cases hc : byt L j = 115
            · have G2 := Lib.hid (show flagsP L i = flagsGo L f (j + 1) true true { d with off := (d.off.1, d.off.2.1, true) } by rw [G.out.1, fl_115t hlt hc])
              have e3 : ((byt L j : Int) == 115) = true := by rw [beq_iff_eq]; omega
              clear hc
              go_wp2_with (first | ((with_reducible refine gT ?_); (refine aO H ?_; clear H; intro w H; (try simp only [nrm, nrl, Value.cells] at H))) | (go_at_call 37; (with_reducible refine (rd_next_ok rb L j U hL hlt _ (H.blk .zero).2).mono ?_); rintro e w ⟨hk, rfl, hr⟩; replace H := H.callBut (by repeat (first | (with_reducible exact At.zero) | apply At.succ)) hk hr; clear hk hr; (try simp only [nrm, nrl, Value.cells] at H)) | (go_at_call 60; (with_reducible refine ch (must_yes4 _) H ?_); clear H; intro w H))
              go_roundw
              case rel => exact ⟨j + 1, f, true, true, { d with off := (d.off.1, d.off.2.1, true) }, by first | rfl | (simp; done), by first | rfl | (simp; done), by omega, Lib.hid ⟨G2.out, by have := G.out.2; omega⟩, H⟩
              case measure => rw [rdPos_of (H.blk .zero).2, rdPos_of H0]; omega
            · have n115 : ((byt L j : Int) == 115) = false := by rw [beq_eq_false_iff_ne]; omega
              have m115 := Lib.hid hc; clear hc
              by_cases hc : byt L j = 45
              · have E3 := Lib.hid (show wordR (orErr (flagsP L i)) = .error 4 by rw [G.out.1, fl_45t hlt hc]; rfl)
                have e3 : ((byt L j : Int) == 45) = true := by rw [beq_iff_eq]; omega
                clear hc
                go_wp2_with (first | fail | (go_at_call 37; (with_reducible refine (rd_next_ok rb L j U hL hlt _ (H.blk .zero).2).mono ?_); rintro e w ⟨hk, rfl, hr⟩; replace H := H.callBut (by repeat (first | (with_reducible exact At.zero) | apply At.succ)) hk hr; clear hk hr; (try simp only [nrm, nrl, Value.cells] at H)) | (go_at_call 60; (with_reducible refine ch (must_no4 _) H ?_); clear H; intro w H))
                exact ⟨rfl, readsV_err E3.out H.keep⟩
              · have n45 : ((byt L j : Int) == 45) = false := by rw [beq_eq_false_iff_ne]; omega
                have m45 := Lib.hid hc; clear hc
                by_cases hc : byt L j = 58
                · cases bs with
                  | true =>
                    have E3 := Lib.hid (show wordR (orErr (flagsP L i)) = .ok (wordV ({ d with kind := 7 }), j + 1) by rw [G.out.1, fl_58y hlt hc]; rfl)
                    have e41 : ((byt L j : Int) == 41) = false := by rw [beq_eq_false_iff_ne]; omega
                    have e3 : ((byt L j : Int) == 58) = true := by rw [beq_iff_eq]; omega
                    clear hc
                    go_wp2_with (first | (first | ((with_reducible refine gT ?_); ((first | refine aO H ?_ | refine aT H ?_); clear H; intro w H; (try simp only [nrm, nrl, Value.cells] at H))) | ((with_reducible refine gL ?_); refine aD H ?_)) | (go_at_call 37; (with_reducible refine (rd_next_ok rb L j U hL hlt _ (H.blk .zero).2).mono ?_); rintro e w ⟨hk, rfl, hr⟩; replace H := H.callBut (by repeat (first | (with_reducible exact At.zero) | apply At.succ)) hk hr; clear hk hr; (try simp only [nrm, nrl, Value.cells] at H)) | (go_at_call 60; (with_reducible refine ch (must_yes4 _) H ?_); clear H; intro w H))
                    rw [Exit.noGoto_ret]
                    (refine ret_c Tryz.results41 rfl H (by repeat (first | (with_reducible exact At.zero) | apply At.succ)) (by first | (with_reducible exact row_LWord) | (with_reducible exact row_Set)) (by rfl) rfl ?_)
                    exact readsV_ok E3.out H.keep (H.blk .zero).2
                  | false =>
                    have E3 := Lib.hid (show wordR (orErr (flagsP L i)) = .error 4 by rw [G.out.1, fl_58n hlt hc]; rfl)
                    have e3 : ((byt L j : Int) == 58) = true := by rw [beq_iff_eq]; omega
                    clear hc
                    go_wp2_with (first | fail | (go_at_call 37; (with_reducible refine (rd_next_ok rb L j U hL hlt _ (H.blk .zero).2).mono ?_); rintro e w ⟨hk, rfl, hr⟩; replace H := H.callBut (by repeat (first | (with_reducible exact At.zero) | apply At.succ)) hk hr; clear hk hr; (try simp only [nrm, nrl, Value.cells] at H)) | (go_at_call 60; (with_reducible refine ch (must_no4 _) H ?_); clear H; intro w H))
                    exact ⟨rfl, readsV_err E3.out H.keep⟩
                · have n58 : ((byt L j : Int) == 58) = false := by rw [beq_eq_false_iff_ne]; omega
                  have m58 := Lib.hid hc; clear hc
                  by_cases hc : byt L j = 41
                  · cases bs with
                    | true =>
                      have E3 := Lib.hid (show wordR (orErr (flagsP L i)) = .ok (wordV ({ d with kind := 8 }), j + 1) by rw [G.out.1, fl_41y hlt hc]; rfl)
                      have e3 : ((byt L j : Int) == 41) = true := by rw [beq_iff_eq]; omega
                      clear hc
                      go_wp2_with (first | (first | ((with_reducible refine gT ?_); ((first | refine aO H ?_ | refine aT H ?_); clear H; intro w H; (try simp only [nrm, nrl, Value.cells] at H))) | ((with_reducible refine gL ?_); refine aD H ?_)) | (go_at_call 37; (with_reducible refine (rd_next_ok rb L j U hL hlt _ (H.blk .zero).2).mono ?_); rintro e w ⟨hk, rfl, hr⟩; replace H := H.callBut (by repeat (first | (with_reducible exact At.zero) | apply At.succ)) hk hr; clear hk hr; (try simp only [nrm, nrl, Value.cells] at H)) | (go_at_call 60; (with_reducible refine ch (must_yes4 _) H ?_); clear H; intro w H))
                      rw [Exit.noGoto_ret]
                      (refine ret_c Tryz.results41 rfl H (by repeat (first | (with_reducible exact At.zero) | apply At.succ)) (by first | (with_reducible exact row_LWord) | (with_reducible exact row_Set)) (by rfl) rfl ?_)
                      exact readsV_ok E3.out H.keep (H.blk .zero).2
                    | false =>
                      have E3 := Lib.hid (show wordR (orErr (flagsP L i)) = .error 4 by rw [G.out.1, fl_41n hlt hc]; rfl)
                      have e3 : ((byt L j : Int) == 41) = true := by rw [beq_iff_eq]; omega
                      clear hc
                      go_wp2_with (first | fail | (go_at_call 37; (with_reducible refine (rd_next_ok rb L j U hL hlt _ (H.blk .zero).2).mono ?_); rintro e w ⟨hk, rfl, hr⟩; replace H := H.callBut (by repeat (first | (with_reducible exact At.zero) | apply At.succ)) hk hr; clear hk hr; (try simp only [nrm, nrl, Value.cells] at H)) | (go_at_call 60; (with_reducible refine ch (must_no4 _) H ?_); clear H; intro w H))
                      exact ⟨rfl, readsV_err E3.out H.keep⟩
                  · have n41 : ((byt L j : Int) == 41) = false := by rw [beq_eq_false_iff_ne]; omega
                    have m41 := Lib.hid hc; clear hc
                    have E3 := Lib.hid (show wordR (orErr (flagsP L i)) = .error 4 by rw [G.out.1, fl_no hlt m105.out m109.out m115.out m45.out m58.out m41.out]; rfl)
                    go_wp2_with (first | fail | (go_at_call 37; (with_reducible refine (rd_next_ok rb L j U hL hlt _ (H.blk .zero).2).mono ?_); rintro e w ⟨hk, rfl, hr⟩; replace H := H.callBut (by repeat (first | (with_reducible exact At.zero) | apply At.succ)) hk hr; clear hk hr; (try simp only [nrm, nrl, Value.cells] at H)) | (go_at_call 60; (with_reducible refine ch (must_no4 _) H ?_); clear H; intro w H))
                    exact ⟨rfl, readsV_err E3.out H.keep⟩
    · have E3 := Lib.hid (show wordR (orErr (flagsP L i)) = .error 4 by rw [G.out.1, fl_end hlt]; rfl)
      go_wp2_with (first | fail | (go_at_call 37; (with_reducible refine (rd_next_no rb L j U hL hj hlt _ (H.blk .zero).2).mono ?_); rintro e w ⟨hk, rfl⟩; exact ⟨rfl, readsV_err E3.out (H.keep.trans (hk.mono H.keep.size (fun _ _ m => m)))⟩))
end Go.Proofs.YtllmgmfihijejaaGreatDoor
