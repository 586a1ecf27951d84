/-
  How a list of sets that is handed in is opened.
-/
import Derived.Test.YtkkilngihkdnaaaOpenSet
import Derived.Deep.Slices
namespace Go.Proofs.Ytkkilngihkdnaaa
open Go.ChangeShapes Go.WideShapes Go.ChangeAt Go.RowKit

set_option maxRecDepth 100000 in
theorem open_setcells {H : Type} {enc : TypeId × Value → H} {W : World} {sp : Nat → Bool} {b0 fuel : Nat} {cs : List Value} {x : DataW H × List MemPlace}
    (hf : DataW.trod enc Try.prog W b0 sp true fuel 39 cs = some x) : ∃ s, cs = (setC s).toList ∧ SetOk s := by
  have hu := Try.underlying39
  have he := Try.underlying37
  have hc : Try.prog.cellsOf 37 = 1 := by kernel_rfl
  cases fuel with
  | zero => simp [DataW.trod] at hf
  | succ m =>
    rw [DataW.trod_step] at hf
    unfold DataW.trodStep at hf
    simp only [hu] at hf
    by_cases hs' : cs.length = 4
    · rw [if_pos (by rw [show Try.prog.cellsOf 39 = 4 from by kernel_rfl]; simpa using hs')] at hf
      simp only [Option.map_eq_some_iff] at hf
      obtain ⟨ys, hy, _⟩ := hf
      have hl : List.range 4 = [0, 1, 2, 3] := by decide
      rw [hl, hc] at hy
      simp only [List.mapM_cons, List.mapM_nil, bind, Option.bind_eq_some_iff, pure, Option.some.injEq] at hy
      obtain ⟨y0, hy0, ys0, ⟨y1, hy1, ys1, ⟨y2, hy2, ys2, ⟨y3, hy3, ys3, _, _⟩, _⟩, _⟩, _⟩ := hy
      obtain ⟨a0, e0, _, w0⟩ := DataW.trod_int he hy0
      obtain ⟨a1, e1, _, w1⟩ := DataW.trod_int he hy1
      obtain ⟨a2, e2, _, w2⟩ := DataW.trod_int he hy2
      obtain ⟨a3, e3, _, w3⟩ := DataW.trod_int he hy3
      obtain ⟨n0, rfl, h0⟩ := lit_u64 w0
      obtain ⟨n1, rfl, h1⟩ := lit_u64 w1
      obtain ⟨n2, rfl, h2⟩ := lit_u64 w2
      obtain ⟨n3, rfl, h3⟩ := lit_u64 w3
      refine ⟨fun k => if k = 0 then n0 else if k = 1 then n1 else if k = 2 then n2 else n3, ?_, ?_⟩
      · match cs, hs' with
        | [x0, x1, x2, x3], _ =>
          simp at e0 e1 e2 e3
          subst e0 e1 e2 e3
          rfl
      · intro k _
        show (if k = 0 then n0 else if k = 1 then n1 else if k = 2 then n2 else n3) < 2 ^ 64
        split
        · exact h0
        · split
          · exact h1
          · split
            · exact h2
            · exact h3
    · rw [if_neg (by rw [show Try.prog.cellsOf 39 = 4 from by kernel_rfl]; simpa using hs')] at hf
      cases hf

theorem open_sets {H : Type} {enc : TypeId × Value → H} {W : World} {v : Value} {d : DataW H} {p : List MemPlace} (hv : ∃ a l c, v = .slice a l c)
    (h : DataW.Trod enc Try.prog W 0 (fun _ => true) true 36 v d p) :
    ∃ L : List (Nat → Nat), RdS W W.heap.size v L ∧ (∀ t ∈ L, SetOk t) ∧ (L = [] ∨ ∃ elems spare, d = .slice elems spare ∧ elems.length = L.length) := by
  obtain ⟨a0, l0, c0, rfl⟩ := hv
  obtain ⟨fuel, hf⟩ := h
  have hc4 : Try.prog.cellsOf 39 = 4 := by kernel_rfl
  rcases Go.Deep.open_slice Try.underlying36 hf with ⟨hcs, hx⟩ | ⟨x, l, c, m, n, D, Pl, hcs, _, hl, hm, hmm, hx, hel⟩
  · simp [Value.cells] at hcs
    obtain ⟨rfl, rfl, rfl⟩ := hcs
    exact ⟨[], .inl ⟨⟨_, rfl⟩, rfl⟩, by simp, .inl rfl⟩
  · simp [Value.cells] at hcs
    obtain ⟨rfl, rfl, rfl⟩ := hcs
    simp only [if_true] at hmm
    obtain rfl := hmm
    rw [hc4] at hel
    by_cases hcz : l0 = 0
    · subst hcz
      by_cases hc0 : m = 0
      · subst hc0
        exact ⟨[], .inl ⟨⟨_, rfl⟩, rfl⟩, by simp, .inl rfl⟩
      · obtain ⟨cs', h1, _⟩ := hel 0 (by omega)
        obtain ⟨_, hlen, hc⟩ := World.cells?_some h1
        have h0 := hc 0 (by omega)
        rw [Go.Deep.add_add] at h0
        obtain ⟨b, off, hxe, hb⟩ := addr_plain (by rw [h0]; exact List.getElem?_eq_getElem (by omega))
        have hx0 : x = ⟨b, off, none⟩ := by
          obtain ⟨xb, xo, xs⟩ := x
          simp only [Addr.add] at hxe
          split at hxe <;> simp_all
        subst hx0
        exact ⟨[], .inr ⟨b, off, m, rfl, hb, by simp, hm, fun j hj => by simp at hj⟩, by simp, .inl rfl⟩
    · obtain ⟨cs', h1, _⟩ := hel 0 (by omega)
      obtain ⟨_, hlen, hc⟩ := World.cells?_some h1
      have h0 := hc 0 (by omega)
      rw [Go.Deep.add_add] at h0
      obtain ⟨b, off, hxe, hb⟩ := addr_plain (by rw [h0]; exact List.getElem?_eq_getElem (by omega))
      have hx0 : x = ⟨b, off, none⟩ := by
        obtain ⟨xb, xo, xs⟩ := x
        simp only [Addr.add] at hxe
        split at hxe <;> simp_all
      subst hx0
      have had : ∀ j, (⟨b, off, none⟩ : Addr).add j = ⟨b, off + j, none⟩ := fun j => by unfold Addr.add; split <;> simp_all
      have : ∀ i, i < l0 → ∃ s : Nat → Nat, SetOk s ∧ ∀ k, k < 4 → W.cell? ⟨b, off + i * 4 + k, none⟩ = some (.int .u64 (s k)) := by
        intro i hi
        obtain ⟨cs2, g1, g2⟩ := hel i (by omega)
        obtain ⟨s, rfl, hs⟩ := open_setcells g2
        obtain ⟨_, _, hc2⟩ := World.cells?_some g1
        refine ⟨s, hs, fun k hk => ?_⟩
        have := hc2 k hk
        rw [Go.Deep.add_add, had, ← Nat.add_assoc] at this
        rw [this]
        match k, hk with
        | 0, _ => rfl
        | 1, _ => rfl
        | 2, _ => rfl
        | 3, _ => rfl
      obtain ⟨F, hF⟩ := Go.Deep.choose_lt (α := Nat → Nat) this
      refine ⟨(List.range l0).map F, .inr ⟨b, off, m, by simp, hb, by simpa using hl, hm, fun j hj k hk => ?_⟩, fun t ht => ?_, .inr ⟨_, _, (Prod.mk.inj hx).1, by simp⟩⟩
      · simp at hj
        rw [(hF j hj).2 k hk]; simp
      · obtain ⟨j, hj, rfl⟩ := List.mem_map.1 ht
        exact (hF j (by simpa using hj)).1

end Go.Proofs.Ytkkilngihkdnaaa
