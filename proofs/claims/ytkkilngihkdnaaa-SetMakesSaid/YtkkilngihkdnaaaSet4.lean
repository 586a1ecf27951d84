/-
  The walks of the package set, continued: Count, Bytes, Ranges.
-/
import Derived.Test.YtkkilngihkdnaaaSet3
import Derived.Test.YtkkilngihkdnaaaBits
namespace Go.Proofs.Ytkkilngihkdnaaa
open Go.RowKit Go.Shelf
attribute [local go_sem] Oper.semAt_some

/-! ### Count -/
def cntTo (s : Nat → Nat) : Nat → Nat
  | 0 => 0
  | k + 1 => cntTo s k + popc 64 (s k)
def countS (s : Nat → Nat) : Nat := cntTo s 4

theorem popc_le : ∀ (n x : Nat), popc n x ≤ n
  | 0, _ => by simp [popc]
  | n + 1, x => by have := popc_le n (x / 2); simp [popc]; omega
theorem cntTo_le (s : Nat → Nat) : ∀ k, cntTo s k ≤ 64 * k
  | 0 => by simp [cntTo]
  | k + 1 => by have := cntTo_le s k; have := popc_le 64 (s k); simp [cntTo]; omega

theorem popc_filter : ∀ (n x : Nat), popc n x = ((List.range n).filter (fun i => x.testBit i)).length
  | 0, _ => rfl
  | n + 1, x => by
    rw [List.range_succ_eq_map, List.filter_cons, List.filter_map]
    have ih := popc_filter n (x / 2)
    have e : ((fun i => x.testBit i) ∘ Nat.succ) = fun i => (x / 2).testBit i := by
      funext i; simp [Nat.testBit_succ]
    rw [e]
    simp only [popc, ih]
    have h0 : x.testBit 0 = decide (x % 2 = 1) := by simp [Nat.testBit_zero]
    rw [h0]
    by_cases h : x % 2 = 1
    · simp [h]; omega
    · have : x % 2 = 0 := by omega
      simp [this]

theorem bytesTo_len (s : Nat → Nat) (k : Nat) : (bytesTo s (64 * k)).length = cntTo s k := by
  induction k with
  | zero => rfl
  | succ k ih =>
    have e : List.range (64 * (k + 1)) = List.range (64 * k) ++ (List.range 64).map (fun i => 64 * k + i) := by
      rw [show 64 * (k + 1) = 64 * k + 64 from by omega, List.range_add]
    unfold bytesTo at ih ⊢
    rw [e, List.filter_append, List.map_append, List.length_append, ih, cntTo, popc_filter, List.filter_map, List.length_map, List.length_map]
    congr 2
    apply List.filter_congr
    intro i hi
    have hi := List.mem_range.1 hi
    simp only [Function.comp, hasB]
    rw [show (64 * k + i) / 64 = k from by omega, show (64 * k + i) % 64 = i from by omega]
theorem countS_eq (s : Nat → Nat) : countS s = (bytesS s).length := (bytesTo_len s 4).symm

set_option maxRecDepth 100000 in
set_option maxHeartbeats 1000000 in
theorem set_Count (s : Nat → Nat) (hs : SetOk s) (w : World) : Calls Try.prog 35 #[setV s] w fun e w' => e = .returned (.int .i64 (countS s : Nat)) ∧ Below w.heap.size w w' := by
  rw [show setV s = .agg #[.int .u64 (s 0), .int .u64 (s 1), .int .u64 (s 2), .int .u64 (s 3)] from rfl]
  have hn : countS s = popc 64 (s 0) + popc 64 (s 1) + popc 64 (s 2) + popc 64 (s 3) := by simp [countS, cntTo]
  have HN := Lib.hid hn; clear hn
  have c0 := fun w => (ones_walk (s 0) (hs 0 (by omega)) w).mono (R' := fun e w' => e = .returned (.int .i64 (popc 64 (s 0) : Nat)) ∧ w' = w) (fun e w' h => ⟨h.1, h.2.symm⟩)
  have c1 := fun w => (ones_walk (s 1) (hs 1 (by omega)) w).mono (R' := fun e w' => e = .returned (.int .i64 (popc 64 (s 1) : Nat)) ∧ w' = w) (fun e w' h => ⟨h.1, h.2.symm⟩)
  have c2 := fun w => (ones_walk (s 2) (hs 2 (by omega)) w).mono (R' := fun e w' => e = .returned (.int .i64 (popc 64 (s 2) : Nat)) ∧ w' = w) (fun e w' h => ⟨h.1, h.2.symm⟩)
  have c3 := fun w => (ones_walk (s 3) (hs 3 (by omega)) w).mono (R' := fun e w' => e = .returned (.int .i64 (popc 64 (s 3) : Nat)) ∧ w' = w) (fun e w' h => ⟨h.1, h.2.symm⟩)
  have l0 := popc_le 64 (s 0); have l1 := popc_le 64 (s 1); have l2 := popc_le 64 (s 2); have l3 := popc_le 64 (s 3)
  generalize popc 64 (s 0) = n0 at c0 l0 HN
  generalize popc 64 (s 1) = n1 at c1 l1 HN
  generalize popc 64 (s 2) = n2 at c2 l2 HN
  generalize popc 64 (s 3) = n3 at c3 l3 HN
  have C0 := Lib.hid c0; clear c0; have C1 := Lib.hid c1; clear c1; have C2 := Lib.hid c2; clear c2; have C3 := Lib.hid c3; clear c3
  have i0 : ∀ w : World, (Instr.index 39 (.agg #[.int .u64 (s 0), .int .u64 (s 1), .int .u64 (s 2), .int .u64 (s 3)]) (.int .i64 0)).run Try.prog w = .ok (.int .u64 (s 0)) w := fun _ => by kernel_rfl
  have i1 : ∀ w : World, (Instr.index 39 (.agg #[.int .u64 (s 0), .int .u64 (s 1), .int .u64 (s 2), .int .u64 (s 3)]) (.int .i64 1)).run Try.prog w = .ok (.int .u64 (s 1)) w := fun _ => by kernel_rfl
  have i2 : ∀ w : World, (Instr.index 39 (.agg #[.int .u64 (s 0), .int .u64 (s 1), .int .u64 (s 2), .int .u64 (s 3)]) (.int .i64 2)).run Try.prog w = .ok (.int .u64 (s 2)) w := fun _ => by kernel_rfl
  have i3 : ∀ w : World, (Instr.index 39 (.agg #[.int .u64 (s 0), .int .u64 (s 1), .int .u64 (s 2), .int .u64 (s 3)]) (.int .i64 3)).run Try.prog w = .ok (.int .u64 (s 3)) w := fun _ => by kernel_rfl
  go_enter Try.func35, Try.ntmps35
  go_wp2
  have bel1 : Below w.heap.size w (w.alloc (.cells (setC s) 39)) := (Below.refl _ w).alloc (Nat.le_refl _) _
  go_loopw [2, 4, 6] (fun n _ i wr => Hid (Below w.heap.size w wr) ∧ ((i = .int .i64 0 ∧ n = .int .i64 0) ∨ (i = .int .i64 1 ∧ n = .int .i64 n0) ∨ (i = .int .i64 2 ∧ n = .int .i64 (n0 + n1 : Nat)) ∨ (i = .int .i64 3 ∧ n = .int .i64 (n0 + n1 + n2 : Nat)) ∨ (i = .int .i64 4 ∧ n = .int .i64 (n0 + n1 + n2 + n3 : Nat)))) (fun _ _ i _ => 4 - (intOf i).toNat)
  case atStart => exact ⟨bel1, .inl ⟨rfl, rfl⟩⟩
  case round =>
    clear bel1
    obtain ⟨H, ⟨rfl, rfl⟩ | ⟨rfl, rfl⟩ | ⟨rfl, rfl⟩ | ⟨rfl, rfl⟩ | ⟨rfl, rfl⟩⟩ := hrel
    · go_wp2_with fail
      refine (C0.out _).mono ?_
      rintro e w1 ⟨rfl, rfl⟩
      go_wp2
      go_roundw
      case rel => exact ⟨H, .inr (.inl ⟨rfl, by go_num⟩)⟩
      case measure => simp [intOf]
    · go_wp2_with fail
      refine (C1.out _).mono ?_
      rintro e w1 ⟨rfl, rfl⟩
      go_wp2
      go_roundw
      case rel => exact ⟨H, .inr (.inr (.inl ⟨rfl, by go_num⟩))⟩
      case measure => simp [intOf]
    · go_wp2_with fail
      refine (C2.out _).mono ?_
      rintro e w1 ⟨rfl, rfl⟩
      go_wp2
      go_roundw
      case rel => exact ⟨H, .inr (.inr (.inr (.inl ⟨rfl, by go_num⟩)))⟩
      case measure => simp [intOf]
    · go_wp2_with fail
      refine (C3.out _).mono ?_
      rintro e w1 ⟨rfl, rfl⟩
      go_wp2
      go_roundw
      case rel => exact ⟨H, .inr (.inr (.inr (.inr ⟨rfl, by go_num⟩)))⟩
      case measure => simp [intOf]
    · go_wp2
      go_ret
      exact ⟨by rw [HN.out]; rfl, H.out⟩

/-! ### Bytes -/
theorem info_u8 : (Try.prog.info? 5).map (fun i => (i.zero, i.size, i.bytes)) = some (some (.int .u8 0), 1, 1) := by kernel_rfl

set_option maxRecDepth 100000 in
set_option maxHeartbeats 4000000 in
theorem set_Bytes (s : Nat → Nat) (hs : SetOk s) (w : World) : Calls Try.prog 37 #[setV s] w fun e w' =>
    ∃ r, e = .returned r ∧ w'.ownsRow w.heap.size 5 1 r (bytesS s).length ((bytesS s).map (.int .u8)) ∧ Below w.heap.size w w' := by
  refine calls_of_wide ?_
  obtain ⟨i0, hi, hz0, hz1, hz2⟩ := info_parts info_u8
  rw [show setV s = .agg #[.int .u64 (s 0), .int .u64 (s 1), .int .u64 (s 2), .int .u64 (s 3)] from rfl]
  refine callsIn_of_wp_marks Try.func37 rfl trivial ?_ rfl
  simp only [Try.ntmps37, List.size_toArray, List.length_cons, List.length_nil, Nat.reduceAdd, Nat.reduceSub, Array.replicate_succ, Array.replicate_zero, List.push_toArray, List.append_toArray, List.nil_append, List.cons_append]
  gi_wp2_with fail
  have hb1 := Boxed.new (w.alloc (.cells (setC s) 39)) 22 (Value.slice none 0 0)
  have bel1 : Below w.heap.size w ((w.alloc (.cells (setC s) 39)).alloc (.cells #[Value.slice none 0 0] 22)) := ((Below.refl _ w).alloc (Nat.le_refl _) _).alloc (by simp) _
  rw [World.size_alloc] at hb1
  refine ⟨trivial, (callsIn_wide.2 (set_all s _)).mono ?_⟩
  rintro e w1 ⟨Bs, rfl, hBs, bS, bel2⟩
  have hb2 := box_below hb1 bel2
  have bel3 := bel1.trans (bel2.mono (by simp; omega))
  have hsz := bel2.size
  clear hb1 bel1
  simp at hBs hsz
  gi_wp2_with fail
  refine wp_range (set_all_iter w1 s hs Bs bS) rfl (enters_of Try.func80 (by kernel_rfl) rfl) (fun _ => rfl)
    (fun k => k = w.heap.size + 1) ?_
    (fun pre W => ∃ r, Boxed W (w.heap.size + 1) 22 r ∧ W.ownsRow w1.heap.size 5 1 r pre.length (pre.map (.int .u8))) (fun _ _ _ => False)
    (fun s W W' h ⟨r, h1, h2⟩ => ⟨r, h.boxed h1, h.own h2⟩) (fun _ _ _ _ _ h => h)
    ⟨_, hb2, rfl, .inl ⟨rfl, rfl⟩⟩ ?a1 ?assign ?body ?done ?stop
  · rintro k rfl
    exact ⟨bS.lt, by omega⟩
  case assign =>
    intro l x W K hK
    gi_wp2
    exact hK
  case body =>
    rintro l pre x W hkb ⟨r, hb, hown⟩ hmem hlen
    have hc1 := hb.cell
    have hsz2 := hkb.size
    have hpl : pre.length < 256 := by
      have h1 := (List.length_filter_le (hasB s) (List.range 256))
      simp [bytesS, bytesTo] at hlen h1; omega
    clear hlen hmem
    have hrow : ∀ k, r.ownBlock = some k → (w1.heap.size ≤ k ∧ ∃ c e f, W.heap[k]? = some (.cells c e f)) := by
      intro k hk
      obtain ⟨_, h' | ⟨g, cap, cur, rfl, h1, hg, _⟩⟩ := hown
      · obtain ⟨rfl, _⟩ := h'; simp [Value.ownBlock] at hk
      · simp [Value.ownBlock] at hk; subst hk; exact ⟨h1, _, _, _, hg⟩
    have Hrow := Lib.hid hrow; clear hrow
    gi_wp2_with (gi_at_builtin; refine wpListIn_append_at _ rfl _ _ 22 rfl w1.heap.size 5 i0 (.int .u8 0) 1 1 Try.underlying22 hi hz0 hz1 hz2 rfl (by decide) _ _ _ rfl (hown.alloc _) ⟨W.heap.size, 0, none⟩ 1 1 [.int .u8 x] rfl rfl (cell_one_new _ _ _) (by simp [Value.oneCell']) (by unfold maxLen; omega) (by omega) (by simp; omega) (by decide) ?_; intro g' cap' w3 hown' hgrow hat'; have hv1 := (hb.alloc (.cells #[.int .u8 x] 5)).kept hgrow (hb.not_row (by decide) hown); have hc1' := hv1.cell; have hf1' := hv1.frozen)
    have hne : some (w.heap.size + 1) ≠ (Value.slice (some ⟨g', 0, none⟩) (pre.length + 1) cap').ownBlock := hv1.not_row (by decide) hown'
    refine ⟨?_, _, hv1.set _, ?_⟩
    · refine (((Upd.refl (fun k => k = w.heap.size + 1) w1.heap.size W).alloc (by omega) _).grown hgrow (fun k hk => ?_) (by simp; omega)).setOld (by have := hgrow.size; simp at this; omega) (by omega) rfl _
      obtain ⟨h1, c, e, f, h2⟩ := Hrow.out k hk
      exact .inr ⟨h1, c, e, f, (heap_alloc_old W _ k (Array.getElem?_eq_some_iff.1 h2).1).trans h2⟩
    · have := hown'.kept (grownBy_setCell' w3 (w.heap.size + 1) (Value.slice (some ⟨g', 0, none⟩) (pre.length + 1) cap')) (.inr hne.symm)
      simpa using this
  case done =>
    rintro D W hD hkb ⟨r, hb, hown⟩ hK
    have hc := hb.cell
    have hf := hb.frozen
    have hsz2 := hkb.size
    obtain ⟨p, n, c, rfl⟩ : ∃ p n c, r = .slice p n c := by
      rcases hown.2 with ⟨h, _⟩ | ⟨g, cap, cur, h, _⟩
      · exact ⟨_, _, _, h⟩
      · exact ⟨_, _, _, h⟩
    obtain ⟨r, hr⟩ : ∃ r, Value.slice p n c = r := ⟨_, rfl⟩
    have HR := Lib.hid hr; clear hr
    gi_wp2
    rw [HR.out]
    rw [HR.out] at hb hown
    have hb4 := hb.set r
    have hne := hb.not_row (by decide) hown
    have hK4 : (W.setCell ⟨w.heap.size + 1, 0, none⟩ r).heap[D]? = some (.deferred (some [])) := by rw [Below.heap_setCell _ _ _ _ (by show D ≠ w.heap.size + 1; omega)]; exact hK
    have hown4 := hown.kept (grownBy_setCell' W (w.heap.size + 1) r) (.inr hne.symm)
    refine ⟨by simp, .inl ⟨_, _, rfl, run_takeDeferred hK4, r, ?_, r, rfl, own_base (ownsRow_putObj hown4 (.deferred none) hK4 rfl) (by omega), ?_⟩⟩
    · have hc5 := ((Idle.of_putObj (B := 0) (.deferred none) hK4 rfl (Nat.zero_le _)).boxed hb4).cell
      simp [results, Try.results37, go_sem, hc5]
    · exact ((bel3.trans (hkb.below bel3.size (fun k hk => by omega))).setCell (p := ⟨w.heap.size + 1, 0, none⟩) (by show w.heap.size ≤ w.heap.size + 1; omega) r).trans (Idle.of_putObj (.deferred none) hK4 rfl (by omega)).below
  case stop =>
    rintro D c pre W _ _ _ h _
    exact h.elim

/-! ### Ranges -/
theorem nil_or_snoc {α : Type} (l : List α) : l = [] ∨ ∃ L x, l = L ++ [x] := by
  by_cases h : l = []
  · exact .inl h
  · exact .inr ⟨l.dropLast, l.getLast h, (List.dropLast_concat_getLast h).symm⟩

def rstep (out : List (Int × Int)) (b : Int) : List (Int × Int) :=
  match out.getLast? with
  | some p => if p.2 = (b + 255) % 256 then out.dropLast ++ [(p.1, b)] else out ++ [(b, b)]
  | none => [(b, b)]
def rangesF (bs : List Int) : List (Int × Int) := bs.foldl rstep []
theorem rangesF_snoc (bs : List Int) (b : Int) : rangesF (bs ++ [b]) = rstep (rangesF bs) b := by simp [rangesF]
theorem rstep_nil (b : Int) : rstep [] b = [(b, b)] := rfl
theorem rstep_hit (L : List (Int × Int)) (lo hi b : Int) (h : hi = (b + 255) % 256) : rstep (L ++ [(lo, hi)]) b = L ++ [(lo, b)] := by
  simp [rstep, h]
theorem rstep_miss (L : List (Int × Int)) (lo hi b : Int) (h : hi ≠ (b + 255) % 256) : rstep (L ++ [(lo, hi)]) b = L ++ [(lo, hi)] ++ [(b, b)] := by
  simp [rstep, h]
theorem rstep_len (out : List (Int × Int)) (b : Int) : (rstep out b).length ≤ out.length + 1 := by
  rcases nil_or_snoc out with rfl | ⟨L, ⟨lo, hi⟩, rfl⟩
  · simp [rstep]
  · by_cases h : hi = (b + 255) % 256
    · rw [rstep_hit _ _ _ _ h]; simp
    · rw [rstep_miss _ _ _ _ h]; simp
theorem rangesF_fold_len (bs : List Int) : ∀ out, (bs.foldl rstep out).length ≤ out.length + bs.length := by
  induction bs with
  | nil => simp
  | cons b bs ih => intro out; have := ih (rstep out b); have := rstep_len out b; simp; omega
theorem rangesF_len (bs : List Int) : (rangesF bs).length ≤ bs.length := by
  have := rangesF_fold_len bs []; simpa [rangesF] using this

def pairC (L : List (Int × Int)) : List Value := L.flatMap (fun p => [.int .u8 p.1, .int .u8 p.2])
theorem pairC_length (L : List (Int × Int)) : (pairC L).length = L.length * 2 := by
  induction L with
  | nil => rfl
  | cons p L ih => simp [pairC] at ih ⊢; omega
theorem pairC_snoc (L : List (Int × Int)) (lo hi : Int) : pairC (L ++ [(lo, hi)]) = pairC L ++ [.int .u8 lo, .int .u8 hi] := by simp [pairC]

theorem own_set {w : World} {base g n cap s : Nat} {e : TypeId} {xs : List Value} (h : w.ownsRow base e s (.slice (some ⟨g, 0, none⟩) n cap) n xs) {k : Nat} (v : Value) :
    (w.setCell ⟨g, k, none⟩ v).ownsRow base e s (.slice (some ⟨g, 0, none⟩) n cap) n (xs.set k v) := by
  obtain ⟨hl, ⟨h', _⟩ | ⟨g', cap', cur, e1, h1, h2, h3, h4, h5, h6⟩⟩ := h
  · cases h'
  · cases e1
    refine ⟨by simpa using hl, .inr ⟨g, cap, cur.setIfInBounds k v, rfl, h1, ?_, h3, h4, by simpa using h5, ?_⟩⟩
    · obtain ⟨hlt, hh⟩ := Array.getElem?_eq_some_iff.1 h2
      show (w.heap.modify g _)[g]? = _
      rw [Array.getElem?_eq_getElem (by rw [Array.size_modify]; exact hlt), Array.getElem_modify_self, hh]
      rfl
    · rw [← h6, Array.toList_setIfInBounds, List.take_set]
theorem grownBy_setCell_at (W : World) (g k : Nat) (v : Value) : W.grownBy (W.setCell ⟨g, k, none⟩ v) (some g) :=
  ⟨rfl, rfl, rfl, by simp [World.setCell], fun j _ hj => Below.heap_setCell _ _ _ j (fun e => hj (by rw [e]))⟩

theorem own_cell {w : World} {base g n cap s : Nat} {e : TypeId} {xs : List Value} (h : w.ownsRow base e s (.slice (some ⟨g, 0, none⟩) n cap) n xs) {k : Nat} (hk : k < n * s) : w.cell? ⟨g, k, none⟩ = xs[k]? := by
  obtain ⟨hl, ⟨h', _⟩ | ⟨g', cap', cur, e1, h1, h2, h3, h4, h5, h6⟩⟩ := h
  · cases h'
  · cases e1
    rw [cell_of_row w g k _ _ _ h2, ← h6, List.getElem?_take_of_lt hk]
    simp
theorem own_frozen {w : World} {base g n cap s : Nat} {e : TypeId} {xs : List Value} (h : w.ownsRow base e s (.slice (some ⟨g, 0, none⟩) n cap) n xs) (k : Nat) : w.frozen? ⟨g, k, none⟩ = false := by
  obtain ⟨hl, ⟨h', _⟩ | ⟨g', cap', cur, e1, h1, h2, h3, h4, h5, h6⟩⟩ := h
  · cases h'
  · cases e1
    simp [World.frozen?, h2]

theorem info_b2 : (Try.prog.info? 52).map (fun i => (i.zero, i.size, i.bytes)) = some (some (.agg #[.int .u8 0, .int .u8 0]), 2, 2) := by kernel_rfl

theorem cell_two (W : World) (a b : Value) (e : TypeId) : ∀ (j : Nat) u, [a, b][j]? = some u → (W.alloc (.cells #[a, b] e)).cell? ((⟨W.heap.size, 0, none⟩ : Addr).add j) = some u := by
  intro j u h
  match j, h with
  | 0, h => exact (cell_of_row _ _ 0 _ _ _ (World.alloc_heap_new W _)).trans h
  | 1, h => exact (cell_of_row _ _ 1 _ _ _ (World.alloc_heap_new W _)).trans h
  | k + 2, h => simp at h

set_option maxRecDepth 100000 in
set_option maxHeartbeats 4000000 in
theorem set_Ranges (s : Nat → Nat) (hs : SetOk s) (w : World) : Calls Try.prog 36 #[setV s] w fun e w' =>
    ∃ r, e = .returned r ∧ w'.ownsRow w.heap.size 52 2 r (rangesF (bytesS s)).length (pairC (rangesF (bytesS s))) ∧ Below w.heap.size w w' := by
  refine calls_of_wide ?_
  obtain ⟨i0, hi, hz0, hz1, hz2⟩ := info_parts info_b2
  rw [show setV s = .agg #[.int .u64 (s 0), .int .u64 (s 1), .int .u64 (s 2), .int .u64 (s 3)] from rfl]
  refine callsIn_of_wp_marks Try.func36 rfl trivial ?_ rfl
  simp only [Try.ntmps36, List.size_toArray, List.length_cons, List.length_nil, Nat.reduceAdd, Nat.reduceSub, Array.replicate_succ, Array.replicate_zero, List.push_toArray, List.append_toArray, List.nil_append, List.cons_append]
  gi_wp2_with fail
  have hb1 := Boxed.new (w.alloc (.cells (setC s) 39)) 50 (Value.slice none 0 0)
  have bel1 : Below w.heap.size w ((w.alloc (.cells (setC s) 39)).alloc (.cells #[Value.slice none 0 0] 50)) := ((Below.refl _ w).alloc (Nat.le_refl _) _).alloc (by simp) _
  rw [World.size_alloc] at hb1
  refine ⟨trivial, (callsIn_wide.2 (set_all s _)).mono ?_⟩
  rintro e w1 ⟨Bs, rfl, hBs, bS, bel2⟩
  have hb2 := box_below hb1 bel2
  have bel3 := bel1.trans (bel2.mono (by simp; omega))
  have hsz := bel2.size
  clear hb1 bel1
  simp at hBs hsz
  gi_wp2_with fail
  refine wp_range (set_all_iter w1 s hs Bs bS) rfl (enters_of Try.func80 (by kernel_rfl) rfl) (fun _ => rfl)
    (fun k => k = w.heap.size + 1) ?_
    (fun pre W => ∃ r, Boxed W (w.heap.size + 1) 50 r ∧ W.ownsRow w1.heap.size 52 2 r (rangesF pre).length (pairC (rangesF pre))) (fun _ _ _ => False)
    (fun s W W' h ⟨r, h1, h2⟩ => ⟨r, h.boxed h1, h.own h2⟩) (fun _ _ _ _ _ h => h)
    ⟨_, hb2, rfl, .inl ⟨rfl, rfl⟩⟩ ?a1 ?assign ?body ?done ?stop
  · rintro k rfl
    exact ⟨bS.lt, by omega⟩
  case assign =>
    intro l x W K hK
    gi_wp2
    exact hK
  case body =>
    rintro l pre x W hkb ⟨r, hb, hown⟩ hmem hlen
    obtain ⟨n, hn, rfl, _⟩ := bytesS_mem hmem
    have hc1 := hb.cell
    have hsz2 := hkb.size
    have hpl : (rangesF pre).length < 256 := by
      have h1 := (List.length_filter_le (hasB s) (List.range 256))
      have h2 := rangesF_len pre
      simp [bytesS, bytesTo] at hlen h1; omega
    have hnx := rangesF_snoc pre (n : Int)
    have Hnx := Lib.hid hnx; clear hnx
    clear hlen hmem
    generalize rangesF pre = out at hown hpl Hnx
    have hrow : ∀ k, r.ownBlock = some k → (w1.heap.size ≤ k ∧ ∃ c e f, W.heap[k]? = some (.cells c e f)) := by
      intro k hk
      obtain ⟨_, h' | ⟨g, cap, cur, rfl, h1, hg, _⟩⟩ := hown
      · obtain ⟨rfl, _⟩ := h'; simp [Value.ownBlock] at hk
      · simp [Value.ownBlock] at hk; subst hk; exact ⟨h1, _, _, _, hg⟩
    have Hrow := Lib.hid hrow; clear hrow
    obtain ⟨m, hm⟩ : ∃ m : Int, IntKind.u8.wrap ((n : Int) - 1) = m := ⟨_, rfl⟩
    have hm2 : m = ((n : Int) + 255) % 256 := by
      rw [← hm, show IntKind.u8.wrap ((n : Int) - 1) = ((n : Int) - 1) % 256 from rfl]; omega
    have Hm2 := Lib.hid hm2; clear hm2
    rcases nil_or_snoc out with rfl | ⟨L, ⟨lo, hi'⟩, rfl⟩
    · obtain ⟨p, cap, rfl⟩ : ∃ p cap, r = .slice p 0 cap := by
        rcases hown.2 with ⟨h, _⟩ | ⟨g, cap, cur, h, _⟩
        · exact ⟨_, _, h⟩
        · exact ⟨_, _, h⟩
      simp only [List.length_nil] at hown
      gi_wp2_with (gi_at_builtin; refine wpListIn_append_at _ rfl _ _ 50 rfl w1.heap.size 52 i0 (.agg #[.int .u8 0, .int .u8 0]) 2 2 Try.underlying50 hi hz0 hz1 hz2 rfl (by decide) _ _ _ rfl (hown.alloc _) ⟨W.heap.size, 0, none⟩ 1 1 [.int .u8 (n : Int), .int .u8 (n : Int)] rfl rfl (cell_two W _ _ _) (by simp [Value.oneCell']) (by unfold maxLen; omega) (by omega) (by rw [World.size_alloc]; omega) (by decide) ?_; intro g' cap' w3 hown' hgrow hat'; have hv1 := (hb.alloc (.cells #[.int .u8 (n : Int), .int .u8 (n : Int)] 52)).kept hgrow (hb.not_row (by decide) hown); have hc1' := hv1.cell; have hf1' := hv1.frozen)
      have hne : some (w.heap.size + 1) ≠ (Value.slice (some ⟨g', 0, none⟩) (0 + 1) cap').ownBlock := hv1.not_row (by decide) hown'
      refine ⟨?_, _, hv1.set _, ?_⟩
      · refine (((Upd.refl (fun k => k = w.heap.size + 1) w1.heap.size W).alloc (by omega) _).grown hgrow (fun k hk => ?_) (by simp; omega)).setOld (by have := hgrow.size; simp at this; omega) (by omega) rfl _
        obtain ⟨h1, c, e, f, h2⟩ := Hrow.out k hk
        exact .inr ⟨h1, c, e, f, (heap_alloc_old W _ k (Array.getElem?_eq_some_iff.1 h2).1).trans h2⟩
      · have := hown'.kept (grownBy_setCell' w3 (w.heap.size + 1) (Value.slice (some ⟨g', 0, none⟩) (0 + 1) cap')) (.inr hne.symm)
        rw [Hnx.out, rstep_nil]; simpa [pairC] using this
    · obtain ⟨g, cap, rfl⟩ : ∃ g cap, r = .slice (some ⟨g, 0, none⟩) (L.length + 1) cap := by
        rcases hown.2 with ⟨_, h⟩ | ⟨g, cap, cur, h, _⟩
        · simp at h
        · exact ⟨g, cap, by simpa using h⟩
      simp only [List.length_append, List.length_cons, List.length_nil, Nat.zero_add] at hown hpl
      rw [pairC_snoc] at hown
      have k0 := own_cell hown (k := L.length * 2) (by omega)
      have k1 := own_cell hown (k := L.length * 2 + 1) (by omega)
      rw [List.getElem?_append_right (by rw [pairC_length]; omega), pairC_length, Nat.sub_self] at k0
      rw [List.getElem?_append_right (by rw [pairC_length]; omega), pairC_length, Nat.add_sub_cancel_left] at k1
      simp only [List.getElem?_cons_zero, List.getElem?_cons_succ] at k0 k1
      have f1 := own_frozen hown (L.length * 2 + 1)
      by_cases hh : hi' = m
      · have hd : (hi' == m) = true := by simp [hh]
        gi_wp2_with fail
        have hlt : w1.heap.size ≤ g := (Hrow.out g rfl).1
        have hown2 := own_set hown (k := L.length * 2 + 1) (.int .u8 (n : Int))
        refine ⟨?_, _, hb.kept (grownBy_setCell_at W g (L.length * 2 + 1) _) (fun e => by simp at e; omega), ?_⟩
        · refine (Upd.refl (fun k => k = w.heap.size + 1) w1.heap.size W).grown (grownBy_setCell_at W g (L.length * 2 + 1) _) (fun k hk => ?_) (by omega)
          obtain rfl : g = k := by simpa using hk
          exact .inr (Hrow.out _ rfl)
        · rw [Hnx.out, rstep_hit _ _ _ _ (hh.trans Hm2.out), pairC_snoc]
          rw [List.set_append_right _ _ (by rw [pairC_length]; omega), pairC_length, Nat.add_sub_cancel_left] at hown2
          simpa using hown2
      · have hd : (hi' == m) = false := by simp [hh]
        gi_wp2_with (gi_at_builtin; refine wpListIn_append_at _ rfl _ _ 50 rfl w1.heap.size 52 i0 (.agg #[.int .u8 0, .int .u8 0]) 2 2 Try.underlying50 hi hz0 hz1 hz2 rfl (by decide) _ _ _ rfl (hown.alloc _) ⟨W.heap.size, 0, none⟩ 1 1 [.int .u8 (n : Int), .int .u8 (n : Int)] rfl rfl (cell_two W _ _ _) (by simp [Value.oneCell']) (by unfold maxLen; omega) (by omega) (by rw [World.size_alloc]; omega) (by decide) ?_; intro g' cap' w3 hown' hgrow hat'; have hv1 := (hb.alloc (.cells #[.int .u8 (n : Int), .int .u8 (n : Int)] 52)).kept hgrow (hb.not_row (by decide) hown); have hc1' := hv1.cell; have hf1' := hv1.frozen)
        have hne : some (w.heap.size + 1) ≠ (Value.slice (some ⟨g', 0, none⟩) (L.length + 1 + 1) cap').ownBlock := hv1.not_row (by decide) hown'
        refine ⟨?_, _, hv1.set _, ?_⟩
        · refine (((Upd.refl (fun k => k = w.heap.size + 1) w1.heap.size W).alloc (by omega) _).grown hgrow (fun k hk => ?_) (by simp; omega)).setOld (by have := hgrow.size; simp at this; omega) (by omega) rfl _
          obtain ⟨h1, c, e, f, h2⟩ := Hrow.out k hk
          exact .inr ⟨h1, c, e, f, (heap_alloc_old W _ k (Array.getElem?_eq_some_iff.1 h2).1).trans h2⟩
        · have := hown'.kept (grownBy_setCell' w3 (w.heap.size + 1) (Value.slice (some ⟨g', 0, none⟩) (L.length + 1 + 1) cap')) (.inr hne.symm)
          rw [Hnx.out, rstep_miss _ _ _ _ (fun e => hh (e.trans Hm2.out.symm)), pairC_snoc (L ++ [(lo, hi')]), pairC_snoc]; simpa using this
  case done =>
    rintro D W hD hkb ⟨r, hb, hown⟩ hK
    have hc := hb.cell
    have hf := hb.frozen
    have hsz2 := hkb.size
    obtain ⟨p, n, c, rfl⟩ : ∃ p n c, r = .slice p n c := by
      rcases hown.2 with ⟨h, _⟩ | ⟨g, cap, cur, h, _⟩
      · exact ⟨_, _, _, h⟩
      · exact ⟨_, _, _, h⟩
    obtain ⟨r, hr⟩ : ∃ r, Value.slice p n c = r := ⟨_, rfl⟩
    have HR := Lib.hid hr; clear hr
    gi_wp2
    rw [HR.out]
    rw [HR.out] at hb hown
    have hb4 := hb.set r
    have hne := hb.not_row (by decide) hown
    have hK4 : (W.setCell ⟨w.heap.size + 1, 0, none⟩ r).heap[D]? = some (.deferred (some [])) := by rw [Below.heap_setCell _ _ _ _ (by show D ≠ w.heap.size + 1; omega)]; exact hK
    have hown4 := hown.kept (grownBy_setCell' W (w.heap.size + 1) r) (.inr hne.symm)
    refine ⟨by simp, .inl ⟨_, _, rfl, run_takeDeferred hK4, r, ?_, r, rfl, own_base (ownsRow_putObj hown4 (.deferred none) hK4 rfl) (by omega), ?_⟩⟩
    · have hc5 := ((Idle.of_putObj (B := 0) (.deferred none) hK4 rfl (Nat.zero_le _)).boxed hb4).cell
      simp [results, Try.results36, go_sem, hc5]
    · exact ((bel3.trans (hkb.below bel3.size (fun k hk => by omega))).setCell (p := ⟨w.heap.size + 1, 0, none⟩) (by show w.heap.size ≤ w.heap.size + 1; omega) r).trans (Idle.of_putObj (.deferred none) hK4 rfl (by omega)).below
  case stop =>
    rintro D c pre W _ _ _ h _
    exact h.elim

end Go.Proofs.Ytkkilngihkdnaaa
