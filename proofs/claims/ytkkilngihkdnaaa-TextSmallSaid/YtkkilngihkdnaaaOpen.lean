/-
  How the arguments of a law are opened: what a slice of integers reads as.
-/
import Derived.Test.YtkkilngihkdnaaaBase
import Derived.Test.YtkkilngihkdnaaaRows
import Derived.ProofKit
import Derived.OpenShut
import Derived.ShutString
import Derived.ChangeOld
import Derived.SizedLaws
namespace Go.Proofs.Ytkkilngihkdnaaa
open Go.ChangeShapes Go.WideShapes Go.ChangeAt Go.RowKit

theorem addr_plain {w : World} {a : Addr} {u : Value} (h : w.cell? a = some u) : ∃ b off, a = ⟨b, off, none⟩ ∧ b < w.heap.size := by
  obtain ⟨b, off, spot⟩ := a
  have hb := World.block_lt_of_cell? w _ h
  refine ⟨b, off, ?_, hb⟩
  unfold World.cell? at h
  split at h
  · cases spot with
    | none => rfl
    | some s => simp at h
  · cases h

theorem open_rd {P : Program} {H : Type} {enc : TypeId × Value → H} {W : World} {t e : TypeId} {k : IntKind} {v : Value} {d : DataW H} {p : List MemPlace}
    (hu : P.underlying t = some (.slice e)) (he : P.underlying e = some (.int k)) (hc : P.cellsOf e = 1) (hv : ∃ a l c, v = .slice a l c)
    (h : DataW.Trod enc P W 0 (fun _ => true) true t v d p) :
    ∃ xs : List Int, Rd W W.heap.size v (xs.map (.int k)) ∧ (∀ x ∈ xs, (Lit.int k x).wf = true) ∧ (xs = [] ∨ ∃ elems spare, d = .slice elems spare ∧ elems.length = xs.length) := by
  obtain ⟨a0, l0, c0, rfl⟩ := hv
  obtain ⟨fuel, hf⟩ := h
  rcases open_ints hu he hc hf with ⟨hcs, hx⟩ | ⟨x, l, c, zs, hcs, _, hl, hm, hz, hx, hcell, hwz⟩
  · simp [Value.cells] at hcs
    obtain ⟨rfl, rfl, rfl⟩ := hcs
    exact ⟨[], .inl ⟨⟨_, rfl⟩, rfl⟩, by simp, .inl rfl⟩
  · simp [Value.cells] at hcs
    obtain ⟨rfl, rfl, rfl⟩ := hcs
    simp only [if_true] at hz
    by_cases hcz : c0 = 0
    · subst hcz
      have : l0 = 0 := by omega
      subst this
      have : zs = [] := List.eq_nil_of_length_eq_zero hz
      subst this
      exact ⟨[], .inl ⟨⟨_, rfl⟩, rfl⟩, by simp, .inl rfl⟩
    · obtain ⟨b, off, hxe, hb⟩ := addr_plain (hcell 0 (by omega))
      have hx0 : x = ⟨b, off, none⟩ := by
        obtain ⟨xb, xo, xs⟩ := x
        simp only [Addr.add] at hxe
        split at hxe <;> simp_all
      subst hx0
      have had : ∀ j, (⟨b, off, none⟩ : Addr).add j = ⟨b, off + j, none⟩ := fun j => by unfold Addr.add; split <;> simp_all
      have hlt : (zs.take l0).length = l0 := by simp; omega
      refine ⟨zs.take l0, .inr ⟨b, off, c0, by simp; omega, hb, by simp; omega, hm, fun j hj => ?_⟩, fun n hn => hwz n (List.mem_of_mem_take hn), .inr ⟨_, _, (Prod.mk.inj hx).1, by simp [lits]⟩⟩
      simp only [List.length_map, hlt] at hj
      have := hcell j (by omega)
      rw [had] at this
      rw [this]
      have hj' : j < zs.length := by omega
      simp [hj']

/-- .. and that it is within the reach -/
theorem open_reach {P : Program} {H : Type} {ts : List TypeId} {ds : List (DataW H)} (hsz : (DataW.weightsEach P ts ds).all (· ≤ reachBytes) = true) {j : Nat} {t e : TypeId} {d : DataW H} {n : Nat} (ht : ts[j]? = some t) (hd : ds[j]? = some d) (hu : P.underlying t = some (.slice e))
    (h : n = 0 ∨ ∃ elems spare, d = .slice elems spare ∧ elems.length = n) : n * P.bytesOf e ≤ 140737488351232 := by
  rcases h with h | ⟨elems, spare, rfl, h⟩
  · subst h; omega
  · have h1 := sized_slice hsz ht hd hu
    have h2 : n * P.bytesOf e ≤ (elems.length + spare.length) * P.bytesOf e := Nat.mul_le_mul_right _ (by omega)
    have h3 : reachBytes = 140737488351232 := by decide
    omega

end Go.Proofs.Ytkkilngihkdnaaa
