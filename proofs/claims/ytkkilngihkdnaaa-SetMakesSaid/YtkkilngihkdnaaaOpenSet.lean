/-
  How a set that is handed in is opened.
-/
import Derived.Test.YtkkilngihkdnaaaOpen
import Derived.Test.YtkkilngihkdnaaaSetPlain
import Derived.WideKeyArr2
namespace Go.Proofs.Ytkkilngihkdnaaa
open Go.ChangeShapes Go.WideShapes Go.ChangeAt Go.RowKit

theorem lit_u64 {a : Int} (h : (Lit.int .u64 a).wf = true) : ∃ n : Nat, a = n ∧ n < 2 ^ 64 := by
  have h' : 0 ≤ a ∧ a ≤ 18446744073709551615 := by
    simp [Lit.wf] at h
    have h1 : IntKind.u64.min = 0 := by decide
    have h2 : IntKind.u64.max = 18446744073709551615 := by decide
    omega
  exact ⟨a.toNat, by omega, by omega⟩

set_option maxRecDepth 100000 in
theorem open_set {H : Type} {enc : TypeId × Value → H} {W : World} {r : Reach} {b0 : Nat} {v : Value} {d : DataW H} {p : List MemPlace} (hv : Value.okWide Try.prog W r b0 39 v)
    (h : DataW.Trod enc Try.prog W 0 (fun _ => true) true 39 v d p) : ∃ s, v = setV s ∧ SetOk s := by
  have hu := Try.underlying39
  have he := Try.underlying37
  have hc : Try.prog.cellsOf 37 = 1 := by kernel_rfl
  simp only [Value.okWide, hu] at hv
  obtain ⟨cs, rfl, hs, _⟩ := hv
  have hs' : cs.size = 4 := by rw [hs]; kernel_rfl
  obtain ⟨fuel, hf⟩ := h
  cases fuel with
  | zero => simp [DataW.trod] at hf
  | succ m =>
    rw [DataW.trod_step] at hf
    unfold DataW.trodStep at hf
    simp only [hu, Value.cells] at hf
    rw [if_pos (by rw [show Try.prog.cellsOf 39 = 4 from by kernel_rfl]; simpa using hs')] at hf
    simp only [Option.map_eq_some_iff] at hf
    obtain ⟨ys, hy, _⟩ := hf
    have hl : List.range 4 = [0, 1, 2, 3] := by decide
    rw [hl, hc] at hy
    simp only [List.mapM_cons, List.mapM_nil, bind, Option.bind_eq_some_iff, pure, Option.some.injEq] at hy
    obtain ⟨y0, hy0, ys0, ⟨y1, hy1, ys1, ⟨y2, hy2, ys2, ⟨y3, hy3, ys3, _, _⟩, _⟩, _⟩, _⟩ := hy
    obtain ⟨a0, e0, _, w0⟩ := DataW.trod_int he hy0
    obtain ⟨a1, e1, _, w1⟩ := DataW.trod_int he hy1
    obtain ⟨a2, e2, _, w2⟩ := DataW.trod_int he hy2
    obtain ⟨a3, e3, _, w3⟩ := DataW.trod_int he hy3
    obtain ⟨n0, rfl, h0⟩ := lit_u64 w0
    obtain ⟨n1, rfl, h1⟩ := lit_u64 w1
    obtain ⟨n2, rfl, h2⟩ := lit_u64 w2
    obtain ⟨n3, rfl, h3⟩ := lit_u64 w3
    refine ⟨fun k => if k = 0 then n0 else if k = 1 then n1 else if k = 2 then n2 else n3, ?_, ?_⟩
    · obtain ⟨l⟩ := cs
      simp at hs'
      match l, hs' with
      | [x0, x1, x2, x3], _ =>
        simp at e0 e1 e2 e3
        subst e0 e1 e2 e3
        rfl
    · intro k _
      show (if k = 0 then n0 else if k = 1 then n1 else if k = 2 then n2 else n3) < 2 ^ 64
      split
      · exact h0
      · split
        · exact h1
        · split
          · exact h2
          · exact h3

end Go.Proofs.Ytkkilngihkdnaaa
