/-
  Rows of the call's own, and rows that have grown out of them: what a store, an append leaves of the others.
-/
import Derived.Test.YtkkilngihkdnaaaRegion2
namespace Go.Proofs.Ytkkilngihkdnaaa
open Go.RowKit

theorem own_kept' {w w' : World} {base : Nat} {e : TypeId} {s : Nat} {v : Value} {n : Nat} {xs : List Value} {row : Option Nat} (h : w.ownsRow base e s v n xs) (hg : w.grownBy w' row) (hr : ∀ g, row = some g → v.ownBlock ≠ some g) : w'.ownsRow base e s v n xs := by
  obtain ⟨hl, h' | ⟨g, cap, cur, rfl, hb, hgk, r⟩⟩ := h
  · exact ⟨hl, .inl h'⟩
  · refine ⟨hl, .inr ⟨g, cap, cur, rfl, hb, ?_, r⟩⟩
    exact (hg.block g (Array.getElem?_eq_some_iff.1 hgk).1 (fun e => hr g e.symm rfl)).trans hgk

theorem own_block {w : World} {base : Nat} {e : TypeId} {s : Nat} {v : Value} {n : Nat} {xs : List Value} {g : Nat} (h : w.ownsRow base e s v n xs) (hb : v.ownBlock = some g) : g < w.heap.size ∧ base ≤ g ∧ ∃ cur, w.heap[g]? = some (.cells cur e (0, 0)) := by
  obtain ⟨_, ⟨rfl, _⟩ | ⟨g', cap, cur, rfl, h1, h2, _⟩⟩ := h
  · cases hb
  · simp [Value.ownBlock] at hb
    subst hb
    exact ⟨(Array.getElem?_eq_some_iff.1 h2).1, h1, cur, h2⟩

/-- two rows in one block: the shorter one reads as the longer one's head -/
theorem own_shrink {w : World} {base : Nat} {e : TypeId} {s g n m c : Nat} {ys : List Value} (h : w.ownsRow base e s (.slice (some ⟨g, 0, none⟩) m c) m ys) (hn : n ≤ m) :
    w.ownsRow base e s (.slice (some ⟨g, 0, none⟩) n c) n (ys.take (n * s)) := by
  obtain ⟨hl, ⟨h', _⟩ | ⟨g', cap, cur, e1, h1, h2, h3, h4, h5, h6⟩⟩ := h
  · cases h'
  · cases e1
    have hle : n * s ≤ m * s := Nat.mul_le_mul_right _ hn
    refine ⟨by rw [List.length_take, hl]; omega, .inr ⟨g, c, cur, rfl, h1, h2, by omega, h4, h5, ?_⟩⟩
    rw [← h6, List.take_take]
    congr 1
    omega
theorem own_same {w : World} {base : Nat} {e : TypeId} {s g n m c : Nat} {xs ys : List Value} (h : w.ownsRow base e s (.slice (some ⟨g, 0, none⟩) n c) n xs) (h2 : w.ownsRow base e s (.slice (some ⟨g, 0, none⟩) m c) m ys) (hn : n ≤ m) : xs = ys.take (n * s) := by
  obtain ⟨_, ⟨h', _⟩ | ⟨g', cap, cur, e1, _, a2, _, _, _, a6⟩⟩ := h
  · cases h'
  · cases e1
    obtain ⟨_, ⟨h', _⟩ | ⟨g', cap', cur', e1, _, b2, _, _, _, b6⟩⟩ := h2
    · cases h'
    · cases e1
      rw [a2] at b2
      cases b2
      have hle : n * s ≤ m * s := Nat.mul_le_mul_right _ hn
      rw [← a6, ← b6, List.take_take]
      congr 1
      omega

theorem own_setF {w : World} {base g n cap s : Nat} {e : TypeId} {xs : List Value} (h : w.ownsRow base e s (.slice (some ⟨g, 0, none⟩) n cap) n xs) {k : Nat} (v : Value) :
    (w.setCell ⟨g, k, none⟩ v).ownsRow base e s (.slice (some ⟨g, 0, none⟩) n cap) n (xs.set k v) := by
  obtain ⟨hl, ⟨h', _⟩ | ⟨g', cap', cur, e1, h1, h2, h3, h4, h5, h6⟩⟩ := h
  · cases h'
  · cases e1
    refine ⟨by simpa using hl, .inr ⟨g, cap, cur.setIfInBounds k v, rfl, h1, ?_, h3, h4, by simpa using h5, ?_⟩⟩
    · obtain ⟨hlt, hh⟩ := Array.getElem?_eq_some_iff.1 h2
      show (w.heap.modify g _)[g]? = _
      rw [Array.getElem?_eq_getElem (by rw [Array.size_modify]; exact hlt), Array.getElem_modify_self, hh]
      rfl
    · rw [← h6, Array.toList_setIfInBounds, List.take_set]
theorem grownBy_setCellF (W : World) (g k : Nat) (v : Value) : W.grownBy (W.setCell ⟨g, k, none⟩ v) (some g) :=
  ⟨rfl, rfl, rfl, by simp [World.setCell], fun j _ hj => Below.heap_setCell _ _ _ j (fun e => hj (by rw [e]))⟩

theorem own_cellF {w : World} {base g n cap s : Nat} {e : TypeId} {xs : List Value} (h : w.ownsRow base e s (.slice (some ⟨g, 0, none⟩) n cap) n xs) {k : Nat} (hk : k < n * s) : w.cell? ⟨g, k, none⟩ = xs[k]? := by
  obtain ⟨hl, ⟨h', _⟩ | ⟨g', cap', cur, e1, h1, h2, h3, h4, h5, h6⟩⟩ := h
  · cases h'
  · cases e1
    rw [cell_of_row w g k _ _ _ h2, ← h6, List.getElem?_take_of_lt hk]
    simp
theorem own_frozenF {w : World} {base g n cap s : Nat} {e : TypeId} {xs : List Value} (h : w.ownsRow base e s (.slice (some ⟨g, 0, none⟩) n cap) n xs) (k : Nat) : w.frozen? ⟨g, k, none⟩ = false := by
  obtain ⟨hl, ⟨h', _⟩ | ⟨g', cap', cur, e1, h1, h2, h3, h4, h5, h6⟩⟩ := h
  · cases h'
  · cases e1
    simp [World.frozen?, h2]

/-- how a slice may have come of another one by an append -/
def Grow (w w' : World) (v v' : Value) : Prop :=
  (∃ g n m c, v = .slice (some ⟨g, 0, none⟩) n c ∧ v' = .slice (some ⟨g, 0, none⟩) m c ∧ n ≤ m ∧ w.grownBy w' (some g)) ∨ ((∃ m c, v' = .slice (some ⟨w.heap.size, 0, none⟩) m c) ∧ w.grownBy w' none)
theorem Grow.any {w w' : World} {v v' : Value} (h : Grow w w' v v') : w.grownBy w' v.ownBlock := by
  rcases h with ⟨g, n, m, c, rfl, rfl, _, h⟩ | ⟨_, h⟩
  · exact h
  · exact ⟨h.os, h.tape, h.output, h.size, fun k hk _ => h.block k hk (by simp)⟩

theorem run_append_two {P : Program} (w : World) (base : Nat) (t ty e : TypeId) (i : TypeInfo) (z : Value) (size bytes : Nat) (ht : P.underlying t = some (.slice e)) (hi : P.info? e = some i) (hz : i.zero = some z)
    (hsize : i.size = size) (hby : i.bytes = bytes) (hzs : z.cells.size = size) (hsz : 0 < size)
    (v : Value) (n : Nat) (xs : List Value) (hown : w.ownsRow base e size v n xs)
    (a : Addr) (m c : Nat) (news : List Value) (hl : news.length = m * size) (hnews : ∀ j u, news[j]? = some u → w.cell? (a.add j) = some u) (h1 : ∀ u ∈ news, u.oneCell' = true)
    (h63 : n + m ≤ maxLen) (hbytes : (n + m) * bytes ≤ 140737488355328) (hbase : base ≤ w.heap.size) (hm : 0 < m) :
    ∃ v' w', (Builtin.append_ #[t, t] ty #[v, .slice (some a) m c]).run P w = .ok v' w' ∧ w'.ownsRow base e size v' (n + m) (xs ++ news) ∧ Grow w w' v v' := by
  subst hsize
  subst hby
  have hsmall : n + m ≤ 9223372036854775807 := by simp only [maxLen] at h63; omega
  have hlen : (xs ++ news).length = (n + m) * i.size := by rw [List.length_append, hown.1, hl, Nat.add_mul]
  have grown : ∀ (old : Nat), old < n + m → ∀ (row : Option Nat),
      (w.drew.alloc (.cells (xs.toArray ++ news.toArray ++ Builtin.zeroCells z.cells (grownCap w (n + m) old e - (n + m))) e)).ownsRow base e i.size
        (.slice (some ⟨w.heap.size, 0, none⟩) (n + m) (grownCap w (n + m) old e)) (n + m) (xs ++ news) ∧
      w.grownBy (w.drew.alloc (.cells (xs.toArray ++ news.toArray ++ Builtin.zeroCells z.cells (grownCap w (n + m) old e - (n + m))) e)) row := by
    intro old ho row
    have hge := grownCap_ge w (n + m) old e
    have hcm : grownCap w (n + m) old e ≤ maxLen := grownCap_le_maxLen w (n + m) old e h63
    refine ⟨⟨hlen, .inr ⟨w.heap.size, _, _, rfl, hbase, heap_alloc_new w.drew _, hge, hcm, ?_, ?_⟩⟩, ⟨rfl, rfl, rfl, by simp, fun k hk _ => heap_alloc_old w.drew _ k hk⟩⟩
    · simp only [Array.size_append, List.size_toArray, size_zeroCells, hzs, hown.1, hl, ← Nat.add_mul]
      congr 1
      omega
    · simp only [Array.toList_append, List.append_assoc]
      rw [← List.append_assoc, ← hlen]
      exact List.take_left
  rcases hown.2 with ⟨rfl, rfl⟩ | ⟨g, cap, cur, rfl, hbg, hg, hnc, hcm, hcs, htake⟩
  · have hx : xs = [] := List.eq_nil_of_length_eq_zero (by simpa using hown.1)
    subst hx
    have hr := run_append_nil (P := P) w t ty e i z ht hi hz a m c news hl hnews (by omega) (by omega) (by have hb := hbytes; simp only [Nat.zero_add] at hb; omega)
    have hgr := grown 0 (by omega) none
    simp only [Nat.zero_add, List.nil_append, Array.empty_append] at hgr ⊢
    exact ⟨_, _, hr, hgr.1, .inr ⟨⟨_, _, rfl⟩, hgr.2⟩⟩
  · by_cases hroom : n + m ≤ cap
    · have hfit : n * i.size + news.length ≤ cur.size := by rw [hl, hcs, ← Nat.add_mul]; exact Nat.mul_le_mul_right _ hroom
      have hr := run_append_room (P := P) w t ty e i ht hi g n cap cur hg a m c news hl hnews h1 hroom hfit
      refine ⟨_, _, hr, ⟨hlen, .inr ⟨g, cap, _, rfl, hbg, setRow_heap w g cur _ e _ hg, hroom, hcm, ?_, ?_⟩⟩, .inl ⟨g, n, n + m, cap, rfl, rfl, by omega, ⟨rfl, rfl, rfl, by simp, fun k _ hk => setRow_other w g k _ (fun e => hk (by rw [e]))⟩⟩⟩
      · simp only [List.size_toArray, List.length_append, List.length_take, List.length_drop, Array.length_toList]
        omega
      · rw [htake, ← hlen]
        exact List.take_left
    · have holds : ∀ j u, xs[j]? = some u → w.cell? ((⟨g, 0, none⟩ : Addr).add j) = some u := hown.cells (g := g) rfl
      have hr := run_append_grow (P := P) w t ty e i z ht hi hz ⟨g, 0, none⟩ n cap xs hown.1 holds a m c news hl hnews (by omega) (by omega) (growslice_fits (by omega) hbytes)
      have hgr := grown cap (by omega) none
      exact ⟨_, _, hr, hgr.1, .inr ⟨⟨_, _, rfl⟩, hgr.2⟩⟩

theorem wpList_append_two {P : Program} (w : World) {ops : Array Oper} {rest : List Oper} {o : Oper} {a : Act} {Q : Exit → Act → World → Prop}
    (hg : o.guard = none) (s x : Operand) (t : TypeId) (hop : o.op = Op.call { callee := Callee.builtin Builtin.append, args := #[s, x], argTypes := #[t, t] })
    (base : Nat) (e : TypeId) (i : TypeInfo) (z : Value) (size bytes : Nat) (h1 : P.underlying t = some (.slice e)) (h2 : P.info? e = some i) (h3 : i.zero = some z) (h4 : i.size = size) (h5 : i.bytes = bytes) (h6 : z.cells.size = size) (h7 : 0 < size)
    (v : Value) (k : Nat) (xs : List Value) (hs : a.eval s = v) (hown : w.ownsRow base e size v k xs) (ad : Addr) (m c : Nat) (news : List Value) (hx : a.eval x = .slice (some ad) m c) (hn : news.length = m * size)
    (hc : ∀ j u, news[j]? = some u → w.cell? (ad.add j) = some u) (h1c : ∀ u ∈ news, u.oneCell' = true) (b1 : k + m ≤ maxLen) (b2 : (k + m) * bytes ≤ 140737488355328) (b3 : base ≤ w.heap.size) (hm : 0 < m)
    (hK : ∀ v' w', w'.ownsRow base e size v' (k + m) (xs ++ news) → Grow w w' v v' → wpList P ops Q rest (a.put o.dst v') w') :
    wpList P ops Q (o :: rest) a w := by
  refine wpList_plain hg fun K hK' => ?_
  obtain ⟨v', w', hr, r1, r2⟩ := run_append_two (P := P) w base t o.type e i z size bytes h1 h2 h3 h4 h5 h6 h7 v k xs hown ad m c news hn hc h1c b1 b2 b3 hm
  unfold Oper.wp execOp
  simp only [hop, resolve, invoke, builtin, Sem.run_bind, Sem.run_pure, Result.andThen_ok, List.map_toArray, List.map_cons, List.map_nil, hs, hx, hr]
  exact hK' _ _ (hK v' w' r1 r2)

/-! ### a family of rows, each with what has grown out of it -/
structure Fam (e : TypeId) (sz base : Nat) (w : World) (K : Nat) (V U : Nat → Value) (N M : Nat → Nat) (X Y : Nat → List Value) : Prop where
  v : ∀ j, j < K → w.ownsRow base e sz (V j) (N j) (X j)
  u : ∀ j, j < K → w.ownsRow base e sz (U j) (M j) (Y j)
  link : ∀ j, j < K → ∀ g n c m d, V j = .slice (some ⟨g, 0, none⟩) n c → U j = .slice (some ⟨g, 0, none⟩) m d → n ≤ m ∧ c = d
  sep : ∀ i j, i < K → j < K → i ≠ j → ∀ g, ((V i).ownBlock = some g ∨ (U i).ownBlock = some g) → ¬ ((V j).ownBlock = some g ∨ (U j).ownBlock = some g)

section
variable {e : TypeId} {sz base : Nat} {w : World} {K : Nat} {V U : Nat → Value} {N M : Nat → Nat} {X Y : Nat → List Value}

theorem Fam.reset (h : Fam e sz base w K V U N M X Y) : Fam e sz base w K V V N N X X :=
  ⟨h.v, h.v, fun j _ g n c m d h1 h2 => by rw [h1] at h2; cases h2; exact ⟨Nat.le_refl _, rfl⟩, fun i j hi hj hij g h1 h2 => h.sep i j hi hj hij g (.inl (h1.elim id id)) (.inl (h2.elim id id))⟩

theorem Fam.grown {w' : World} {row : Option Nat} (h : Fam e sz base w K V U N M X Y) (hg : w.grownBy w' row) (hr : ∀ g, row = some g → ∀ j, j < K → (V j).ownBlock ≠ some g ∧ (U j).ownBlock ≠ some g) : Fam e sz base w' K V U N M X Y :=
  ⟨fun j hj => own_kept' (h.v j hj) hg (fun g e => (hr g e j hj).1), fun j hj => own_kept' (h.u j hj) hg (fun g e => (hr g e j hj).2), h.link, h.sep⟩
theorem Fam.below {w' : World} (h : Fam e sz base w K V U N M X Y) (hb : Below w.heap.size w w') : Fam e sz base w' K V U N M X Y :=
  ⟨fun j hj => own_below (h.v j hj) hb, fun j hj => own_below (h.u j hj) hb, h.link, h.sep⟩
/-- a block of another type is none of theirs -/
theorem Fam.other (h : Fam e sz base w K V U N M X Y) {g : Nat} {cur : Array Value} {e2 : TypeId} {f : Nat × Nat} (hg : w.heap[g]? = some (.cells cur e2 f)) (hne : e ≠ e2) : ∀ j, j < K → (V j).ownBlock ≠ some g ∧ (U j).ownBlock ≠ some g := by
  intro j hj
  constructor
  · intro hb
    obtain ⟨_, _, cur', h'⟩ := own_block (h.v j hj) hb
    rw [hg] at h'; cases h'; exact hne rfl
  · intro hb
    obtain ⟨_, _, cur', h'⟩ := own_block (h.u j hj) hb
    rw [hg] at h'; cases h'; exact hne rfl

/-- row k's second one is grown by an append -/
theorem Fam.append {w' : World} {k : Nat} {v' : Value} {news : List Value} {m : Nat} (h : Fam e sz base w K V U N M X Y) (hk : k < K) (ho : w'.ownsRow base e sz v' (M k + m) (Y k ++ news)) (hg : Grow w w' (U k) v') :
    Fam e sz base w' K V (fun j => if j = k then v' else U j) N (fun j => if j = k then M k + m else M j) X (fun j => if j = k then Y k ++ news else Y j) := by
  have hany := hg.any
  have hoth : ∀ j, j < K → j ≠ k → ∀ g, (U k).ownBlock = some g → (V j).ownBlock ≠ some g ∧ (U j).ownBlock ≠ some g := fun j hj hjk g hb =>
    ⟨fun h1 => h.sep k j hk hj (fun e => hjk e.symm) g (.inr hb) (.inl h1), fun h1 => h.sep k j hk hj (fun e => hjk e.symm) g (.inr hb) (.inr h1)⟩
  refine ⟨fun j hj => ?_, fun j hj => ?_, fun j hj g n c m' d h1 h2 => ?_, fun i j hi hj hij g h1 h2 => ?_⟩
  · by_cases hjk : j = k
    · subst hjk
      rcases hg with ⟨g, n, m', c, hu, rfl, hle, hgr⟩ | ⟨_, hgr⟩
      · by_cases hvb : (V j).ownBlock = some g
        · have hv := h.v j hj
          obtain ⟨_, ⟨hn, _⟩ | ⟨g', cap, cur, hv1, _⟩⟩ := id hv
          · rw [hn] at hvb; cases hvb
          · rw [hv1] at hvb
            simp [Value.ownBlock] at hvb
            subst hvb
            obtain ⟨h3, h4⟩ := h.link j hj _ _ _ _ _ hv1 hu
            subst h4
            have hu2 := h.u j hj
            have hMn : M j = n := by
              obtain ⟨_, ⟨e1, _⟩ | ⟨g1, c1, cur1, e1, _⟩⟩ := id hu2
              · rw [hu] at e1; cases e1
              · rw [hu] at e1; cases e1; rfl
            have hm' : m' = M j + m := by
              obtain ⟨_, ⟨e1, _⟩ | ⟨g1, c1, cur1, e1, _⟩⟩ := id ho
              · cases e1
              · cases e1; rfl
            subst hm'
            rw [hu, ← hMn] at hu2
            rw [hv1] at hv ⊢
            have hx := own_same hv hu2 (by omega)
            have := own_shrink ho (n := N j) (by omega)
            have hlen := hu2.1
            have hle2 : N j * sz ≤ (Y j).length := by rw [hlen]; exact Nat.mul_le_mul_right _ (by omega)
            rw [List.take_append_of_le_length hle2, ← hx] at this
            exact this
        · exact own_kept' (h.v j hj) hgr (fun g' e => by cases e; exact hvb)
      · exact own_kept' (h.v j hj) hgr (fun g e => by cases e)
    · exact own_kept' (h.v j hj) hany (fun g e => (hoth j hj hjk g e).1)
  · by_cases hjk : j = k
    · subst hjk; simpa using ho
    · simp only [if_neg hjk]
      exact own_kept' (h.u j hj) hany (fun g e => (hoth j hj hjk g e).2)
  · by_cases hjk : j = k
    · subst hjk
      simp only [if_true] at h2
      rcases hg with ⟨g0, n0, m0, c0, hu, hv', hle, _⟩ | ⟨⟨m1, c1, hv'⟩, _⟩
      · rw [h2] at hv'; cases hv'
        obtain ⟨h3, h4⟩ := h.link j hj _ _ _ _ _ h1 hu
        exact ⟨by omega, h4⟩
      · exfalso
        rw [h2] at hv'; cases hv'
        have := (own_block (h.v j hj) (g := w.heap.size) (by rw [h1]; rfl)).1
        omega
    · simp only [if_neg hjk] at h2
      exact h.link j hj g n c m' d h1 h2
  · -- what is new in row k's blocks: the same block, or a new one
    have hnew : ∀ g, v'.ownBlock = some g → (U k).ownBlock = some g ∨ g = w.heap.size := fun g hb => by
      rcases hg with ⟨g0, n0, m0, c0, hu, hv', _, _⟩ | ⟨⟨m1, c1, hv'⟩, _⟩
      · rw [hv'] at hb; rw [hu]; exact .inl hb
      · rw [hv'] at hb; simp [Value.ownBlock] at hb; exact .inr hb.symm
    have hold : ∀ j, j < K → ∀ g, ((V j).ownBlock = some g ∨ (U j).ownBlock = some g) → g < w.heap.size := fun j hj g hb => by
      rcases hb with hb | hb
      · exact (own_block (h.v j hj) hb).1
      · exact (own_block (h.u j hj) hb).1
    by_cases hik : i = k
    · subst hik
      have hji : j ≠ i := fun e => hij e.symm
      simp only [if_true] at h1
      simp only [if_neg hji] at h2
      rcases h1 with h1 | h1
      · exact h.sep i j hi hj hij g (.inl h1) h2
      · rcases hnew g h1 with h3 | h3
        · exact h.sep i j hi hj hij g (.inr h3) h2
        · have := hold j hj g h2; omega
    · simp only [if_neg hik] at h1
      by_cases hjk : j = k
      · subst hjk
        simp only [if_true] at h2
        rcases h2 with h2 | h2
        · exact h.sep i j hi hj hij g h1 (.inl h2)
        · rcases hnew g h2 with h3 | h3
          · exact h.sep i j hi hj hij g h1 (.inr h3)
          · have := hold i hi g h1; omega
      · simp only [if_neg hjk] at h2
        exact h.sep i j hi hj hij g h1 h2

/-- a store into row k, ahead of all that grows -/
theorem Fam.store (h : Fam e sz base w K V V N N X X) {k g i c : Nat} (hk : k < K) (hv : V k = .slice (some ⟨g, 0, none⟩) (N k) c) (x : Value) :
    Fam e sz base (w.setCell ⟨g, i, none⟩ x) K V V N N (fun j => if j = k then (X k).set i x else X j) (fun j => if j = k then (X k).set i x else X j) := by
  have key : ∀ j, j < K → (w.setCell ⟨g, i, none⟩ x).ownsRow base e sz (V j) (N j) (if j = k then (X k).set i x else X j) := by
    intro j hj
    by_cases hjk : j = k
    · subst hjk
      have := h.v j hj
      rw [hv] at this ⊢
      simpa using own_setF this (k := i) x
    · simp only [if_neg hjk]
      refine own_kept' (h.v j hj) (grownBy_setCellF w g i x) (fun g' e hb => ?_)
      cases e
      exact h.sep k j hk hj (fun e => hjk e.symm) g (.inl (by rw [hv]; rfl)) (.inl hb)
  exact ⟨key, key, h.link, h.sep⟩
end

end Go.Proofs.Ytkkilngihkdnaaa
