/-
  SetAlgebra: the plain laws.
-/
import Derived.Test.YtkkilngihkdnaaaSet4
namespace Go.Proofs.Ytkkilngihkdnaaa
open Go.RowKit

theorem other_other : ∀ c, c < 256 → otherB (otherB c) = c := by decide +kernel
theorem mem_bytesS {s : Nat → Nat} {n : Nat} (hn : n < 256) (h : hasB s n = true) : (n : Int) ∈ bytesS s := by
  unfold bytesS bytesTo
  exact List.mem_map.2 ⟨n, List.mem_filter.2 ⟨List.mem_range.2 hn, h⟩, rfl⟩
theorem has_fold (s : Nat → Nat) {c : Nat} (hc : c < 256) : hasB (foldF s (bytesS s)) c = (hasB s c || hasB s (otherB c)) := by
  rw [has_foldF]
  congr 1
  rw [Bool.eq_iff_iff, List.any_eq_true]
  constructor
  · rintro ⟨x, hx, h⟩
    obtain ⟨n, hn, rfl, hh⟩ := bytesS_mem hx
    simp at h
    rw [h, other_other n hn]; exact hh
  · intro h
    exact ⟨_, mem_bytesS (otherB_lt hc) h, by simp [other_other c hc]⟩

theorem two_ok {P : (Nat → Nat) → Prop} {a b : Nat → Nat} (ha : P a) (hb : P b) : ∀ t ∈ [a, b], P t := by
  intro t ht; simp at ht; rcases ht with rfl | rfl <;> assumption
theorem three_ok {P : (Nat → Nat) → Prop} {a b c : Nat → Nat} (ha : P a) (hb : P b) (hc : P c) : ∀ t ∈ [a, b, c], P t := by
  intro t ht; simp at ht; rcases ht with rfl | rfl | rfl <;> assumption

section
variable {a b c : Nat → Nat} (ha : SetOk a) (hb : SetOk b) (hc : SetOk c)
include ha hb hc
theorem alg_not_union : setV (notS (unionS [a, b, c])) = setV (meetS [notS a, notS b, notS c]) :=
  setV_ext (notS_ok _) (meetS_ok (three_ok (notS_ok _) (notS_ok _) (notS_ok _))) fun n hn => by
    rw [has_not (unionS_ok (three_ok ha hb hc)) hn, has_union, has_meet]
    simp [has_not ha hn, has_not hb hn, has_not hc hn, Bool.not_or]
theorem alg_not_meet : setV (notS (meetS [a, b, c])) = setV (unionS [notS a, notS b, notS c]) :=
  setV_ext (notS_ok _) (unionS_ok (three_ok (notS_ok _) (notS_ok _) (notS_ok _))) fun n hn => by
    rw [has_not (meetS_ok (three_ok ha hb hc)) hn, has_union, has_meet]
    simp [has_not ha hn, has_not hb hn, has_not hc hn, Bool.not_and]
end
theorem alg_not_not {a : Nat → Nat} (ha : SetOk a) : setV (notS (notS a)) = setV a :=
  setV_ext (notS_ok _) ha fun n hn => by rw [has_not (notS_ok a) hn, has_not ha hn, Bool.not_not]
theorem alg_fold_fold {a : Nat → Nat} (ha : SetOk a) : setV (foldF (foldF a (bytesS a)) (bytesS (foldF a (bytesS a)))) = setV (foldF a (bytesS a)) :=
  setV_ext (foldF_ok _ (foldF_ok _ ha)) (foldF_ok _ ha) fun n hn => by
    rw [has_fold _ hn, has_fold _ hn, has_fold _ (otherB_lt hn), other_other n hn]
    cases hasB a n <;> cases hasB a (otherB n) <;> rfl
theorem alg_fold_meet {a : Nat → Nat} (ha : SetOk a) : setV (meetS [foldF a (bytesS a), a]) = setV a :=
  setV_ext (meetS_ok (two_ok (foldF_ok _ ha) ha)) ha fun n hn => by
    rw [has_meet]; simp only [List.all_cons, List.all_nil, Bool.and_true, has_fold _ hn]
    cases hasB a n <;> cases hasB a (otherB n) <;> rfl
theorem alg_fold_union {a b : Nat → Nat} (ha : SetOk a) (hb : SetOk b) :
    setV (foldF (unionS [a, b]) (bytesS (unionS [a, b]))) = setV (unionS [foldF a (bytesS a), foldF b (bytesS b)]) :=
  setV_ext (foldF_ok _ (unionS_ok (two_ok ha hb))) (unionS_ok (two_ok (foldF_ok _ ha) (foldF_ok _ hb))) fun n hn => by
    rw [has_fold _ hn, has_union, has_union, has_union]
    simp only [List.any_cons, List.any_nil, Bool.or_false, has_fold _ hn]
    cases hasB a n <;> cases hasB a (otherB n) <;> cases hasB b n <;> cases hasB b (otherB n) <;> rfl
theorem alg_count {a : Nat → Nat} (ha : SetOk a) : countS a + countS (notS a) = 256 := by
  rw [countS_eq, countS_eq]
  unfold bytesS bytesTo
  rw [List.length_map, List.length_map]
  have h1 : (List.range 256).filter (hasB (notS a)) = (List.range 256).filter (fun n => !hasB a n) := by
    apply List.filter_congr
    intro n hn
    exact has_not ha (List.mem_range.1 hn)
  rw [h1]
  have h2 : ∀ (l : List Nat), (l.filter (hasB a)).length + (l.filter (fun n => !hasB a n)).length = l.length := by
    intro l
    induction l with
    | nil => rfl
    | cons x l ih =>
      cases h : hasB a x
      · simp [h]; omega
      · simp [h]; omega
  have := h2 (List.range 256)
  rw [List.length_range] at this
  exact this

end Go.Proofs.Ytkkilngihkdnaaa
