/-
  SetAlgebra: the walk, its arguments in the frame's order.
-/
import Derived.Test.YtkkilngihkdnaaaSetAlg
namespace Go.Proofs.Ytkkilngihkdnaaa
open Go.RowKit
theorem algebra_walk (a b c : Nat → Nat) (w : World) (ha : SetOk a) (hb : SetOk b) (hc : SetOk c) : Calls Try.prog 7 #[setV a, setV b, setV c] w fun e w' => e = .returned (.bool true) ∧ Below w.heap.size w w' :=
  walk_SetAlgebra a b c ha hb hc w
end Go.Proofs.Ytkkilngihkdnaaa
