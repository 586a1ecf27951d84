/-
  No cell of these rows narrows 'for every input' (looked for: loops, veiled, ifaces, maps, wideKeys, modest, calm, conditions, laid).
  DERIVED. THE GIVEN ROWS OF THIS SEAT. 7 by the template 'for every input the law returns true; each argument reads behind the call as it read before'; 0 by the template 'total and deterministic' (their statements: YtkkilngihkdnaaaTotals.lean).
  GIVEN WITH THE SEED: the statements are not yours to turn. If you find one false, say at which input.
  Laid BY PROGRAM, IN A SANDBOX (cutbox-rows.mjs): the forced cells as the released guide's own fill.sh prints them over the translation 443153886730b905… (all of the seat's roots in one cut). By AI agents, Wed Nov 11 2026. No macro, syntax, notation, axiom, sorry.
-/
import Derived.Test.YtkkilngihkdnaaaChecked
import GoSem.Claim
import GoSem.ClaimJoined
import GoSem.ClaimMapViews
import Derived.JoinedTies
import Derived.KernelRfl
namespace Go.Proofs.Ytkkilngihkdnaaa
/- THE CELL 'sum', in the pinned program and in every row, IS THE sha256 OF THE DUMP (.gsa) THAT YtkkilngihkdnaaaProg.lean LOADS. Nothing in Lean hashes anything: it is a label: what it is worth is what the hold of that sum in a sandbox is worth. -/
noncomputable def Try.pinned : Pinned := { name := "ytkkilngihkdnaaa", sum := "443153886730b905e31ae510785db758ec3ff32deff64bcca272adfbf8479c90", checked := Try.checked }
namespace Rows
def none {H : Type} : Left H := { results := [], args := [] }

/-- 'mudlarklaw05.TextTells': WHATEVER THE INPUT: true; the input reads as it did. -/
def textTellsSpec : ChangeSpec := { name := "textTells", fn := fun _ => fun
  | [d1, d2, d3, d4] => { results := [.lit (.bool true)], args := [d1, d2, d3, d4] }
  | _ => none }
def textTellsRow : OpenClaim := { program := "ytkkilngihkdnaaa", sum := "443153886730b905e31ae510785db758ec3ff32deff64bcca272adfbf8479c90", func := "mudlark/mudlarklaw05.TextTells", spec := "textTells", unfollowed := true, recurses := true, apart := false }
def TextTellsSaid : Prop := textTellsRow.holds Try.pinned (OpenSpec.ofChange textTellsSpec)

/-- ITS FALSE NEIGHBOUR: 'it returns false'. Refute it at one input. -/
def textTellsWrong : ChangeSpec := { name := "textTells", fn := fun _ => fun
  | [d1, d2, d3, d4] => { results := [.lit (.bool false)], args := [d1, d2, d3, d4] }
  | _ => none }
def TextTellsWrongFalsely : Prop := textTellsRow.holds Try.pinned (OpenSpec.ofChange textTellsWrong)

/-- 'mudlarklaw05.TextSmall': WHATEVER THE INPUT: true; the input reads as it did. -/
def textSmallSpec : ChangeSpec := { name := "textSmall", fn := fun _ => fun
  | [] => { results := [.lit (.bool true)], args := [] }
  | _ => none }
def textSmallRow : OpenClaim := { program := "ytkkilngihkdnaaa", sum := "443153886730b905e31ae510785db758ec3ff32deff64bcca272adfbf8479c90", func := "mudlark/mudlarklaw05.TextSmall", spec := "textSmall", unfollowed := true, recurses := true, apart := false }
def TextSmallSaid : Prop := textSmallRow.holds Try.pinned (OpenSpec.ofChange textSmallSpec)

/-- ITS FALSE NEIGHBOUR: 'it returns false'. Refute it at one input. -/
def textSmallWrong : ChangeSpec := { name := "textSmall", fn := fun _ => fun
  | [] => { results := [.lit (.bool false)], args := [] }
  | _ => none }
def TextSmallWrongFalsely : Prop := textSmallRow.holds Try.pinned (OpenSpec.ofChange textSmallWrong)

/-- 'mudlarklaw05.TextJoins': WHATEVER THE INPUT: true; the input reads as it did. -/
def textJoinsSpec : ChangeSpec := { name := "textJoins", fn := fun _ => fun
  | [d1, d2, d3] => { results := [.lit (.bool true)], args := [d1, d2, d3] }
  | _ => none }
def textJoinsRow : OpenClaim := { program := "ytkkilngihkdnaaa", sum := "443153886730b905e31ae510785db758ec3ff32deff64bcca272adfbf8479c90", func := "mudlark/mudlarklaw05.TextJoins", spec := "textJoins", unfollowed := true, recurses := true, apart := false }
def TextJoinsSaid : Prop := textJoinsRow.holds Try.pinned (OpenSpec.ofChange textJoinsSpec)

/-- ITS FALSE NEIGHBOUR: 'it returns false'. Refute it at one input. -/
def textJoinsWrong : ChangeSpec := { name := "textJoins", fn := fun _ => fun
  | [d1, d2, d3] => { results := [.lit (.bool false)], args := [d1, d2, d3] }
  | _ => none }
def TextJoinsWrongFalsely : Prop := textJoinsRow.holds Try.pinned (OpenSpec.ofChange textJoinsWrong)

/-- 'mudlarklaw08.SetMakes': WHATEVER THE INPUT: true; the input reads as it did. -/
def setMakesSpec : ChangeSpec := { name := "setMakes", fn := fun _ => fun
  | [d1, d2, d3, d4] => { results := [.lit (.bool true)], args := [d1, d2, d3, d4] }
  | _ => none }
def setMakesRow : OpenClaim := { program := "ytkkilngihkdnaaa", sum := "443153886730b905e31ae510785db758ec3ff32deff64bcca272adfbf8479c90", func := "mudlark/mudlarklaw08.SetMakes", spec := "setMakes", unfollowed := true, recurses := true, apart := false }
def SetMakesSaid : Prop := setMakesRow.holds Try.pinned (OpenSpec.ofChange setMakesSpec)

/-- ITS FALSE NEIGHBOUR: 'it returns false'. Refute it at one input. -/
def setMakesWrong : ChangeSpec := { name := "setMakes", fn := fun _ => fun
  | [d1, d2, d3, d4] => { results := [.lit (.bool false)], args := [d1, d2, d3, d4] }
  | _ => none }
def SetMakesWrongFalsely : Prop := setMakesRow.holds Try.pinned (OpenSpec.ofChange setMakesWrong)

/-- 'mudlarklaw08.SetAlgebra': WHATEVER THE INPUT: true; the input reads as it did. -/
def setAlgebraSpec : ChangeSpec := { name := "setAlgebra", fn := fun _ => fun
  | [d1, d2, d3] => { results := [.lit (.bool true)], args := [d1, d2, d3] }
  | _ => none }
def setAlgebraRow : OpenClaim := { program := "ytkkilngihkdnaaa", sum := "443153886730b905e31ae510785db758ec3ff32deff64bcca272adfbf8479c90", func := "mudlark/mudlarklaw08.SetAlgebra", spec := "setAlgebra", unfollowed := true, recurses := true, apart := false }
def SetAlgebraSaid : Prop := setAlgebraRow.holds Try.pinned (OpenSpec.ofChange setAlgebraSpec)

/-- ITS FALSE NEIGHBOUR: 'it returns false'. Refute it at one input. -/
def setAlgebraWrong : ChangeSpec := { name := "setAlgebra", fn := fun _ => fun
  | [d1, d2, d3] => { results := [.lit (.bool false)], args := [d1, d2, d3] }
  | _ => none }
def SetAlgebraWrongFalsely : Prop := setAlgebraRow.holds Try.pinned (OpenSpec.ofChange setAlgebraWrong)

/-- 'mudlarklaw08.SetWhole': WHATEVER THE INPUT: true; the input reads as it did. -/
def setWholeSpec : ChangeSpec := { name := "setWhole", fn := fun _ => fun
  | [d] => { results := [.lit (.bool true)], args := [d] }
  | _ => none }
def setWholeRow : OpenClaim := { program := "ytkkilngihkdnaaa", sum := "443153886730b905e31ae510785db758ec3ff32deff64bcca272adfbf8479c90", func := "mudlark/mudlarklaw08.SetWhole", spec := "setWhole", unfollowed := true, recurses := true, apart := false }
def SetWholeSaid : Prop := setWholeRow.holds Try.pinned (OpenSpec.ofChange setWholeSpec)

/-- ITS FALSE NEIGHBOUR: 'it returns false'. Refute it at one input. -/
def setWholeWrong : ChangeSpec := { name := "setWhole", fn := fun _ => fun
  | [d] => { results := [.lit (.bool false)], args := [d] }
  | _ => none }
def SetWholeWrongFalsely : Prop := setWholeRow.holds Try.pinned (OpenSpec.ofChange setWholeWrong)

/-- 'mudlarklaw05.TextWhole': WHATEVER THE INPUT: true; the input reads as it did. -/
def textWholeSpec : ChangeSpec := { name := "textWhole", fn := fun _ => fun
  | [d1, d2] => { results := [.lit (.bool true)], args := [d1, d2] }
  | _ => none }
def textWholeRow : OpenClaim := { program := "ytkkilngihkdnaaa", sum := "443153886730b905e31ae510785db758ec3ff32deff64bcca272adfbf8479c90", func := "mudlark/mudlarklaw05.TextWhole", spec := "textWhole", inPlace := ["internal/bytealg.IndexByteString", "internal/bytealg.IndexString", "internal/abi.NoEscape", "internal/bytealg.MakeNoZero"], unfollowed := true, recurses := true, named := ["internal/bytealg.MaxLen"], apart := false }
def TextWholeSaid : Prop := textWholeRow.holds Try.pinned (OpenSpec.ofChange textWholeSpec)

/-- ITS FALSE NEIGHBOUR: 'it returns false'. Refute it at one input. -/
def textWholeWrong : ChangeSpec := { name := "textWhole", fn := fun _ => fun
  | [d1, d2] => { results := [.lit (.bool false)], args := [d1, d2] }
  | _ => none }
def TextWholeWrongFalsely : Prop := textWholeRow.holds Try.pinned (OpenSpec.ofChange textWholeWrong)

/- THE SECOND FORM. 'bulk': how many values and letters a reading holds, each counted each time it is reached (what is shared counts as often as it is met; a slice's spare places count too). A statement '..UptoSaid' is the law's where the arguments, and the package variables that the reading takes, are together of bulk at most 1048576: NARROWER than '..Said'. Prove '..Said' where nothing that the law and all that it calls make is longer than what came in: it says more and counts as full. Else prove '..UptoSaid'. A law counts once. -/
mutual
def uptoBulk {H : Type} : DataW H → Nat
  | .lit (.string bytes) => bytes.length + 1
  | .lit _ => 1
  | .nil => 1
  | .ptr d => uptoBulk d + 1
  | .slice elems spare => uptoBulkAll elems + uptoBulkAll spare + 1
  | .agg parts => uptoBulkAll parts + 1
  | .iface _ d => uptoBulk d + 1
  | .map entries => uptoBulkEntries entries + 1
  | .held _ => 1
def uptoBulkAll {H : Type} : List (DataW H) → Nat
  | [] => 0
  | d :: r => uptoBulk d + uptoBulkAll r
def uptoBulkEntries {H : Type} : List (Lit × DataW H) → Nat
  | [] => 0
  | x :: r => uptoBulkEntry x + uptoBulkEntries r
def uptoBulkEntry {H : Type} : Lit × DataW H → Nat
  | (.string bytes, d) => bytes.length + uptoBulk d + 1
  | (_, d) => uptoBulk d + 1
 end
def uptoSmall : (H : Type) → List (DataW H) → Bool := fun _ ds => decide (uptoBulkAll ds ≤ 1048576)
def OpenSpec.upto (s : _root_.Go.ChangeSpec) : _root_.Go.OpenSpec := { _root_.Go.OpenSpec.ofChange s with cond := some uptoSmall }

/-- 'mudlarklaw05.TextTells', WHERE WHAT IT READS IS OF BULK AT MOST 1048576: true; the input reads as it did. -/
def textTellsUptoRow : OpenClaim := { program := "ytkkilngihkdnaaa", sum := "443153886730b905e31ae510785db758ec3ff32deff64bcca272adfbf8479c90", func := "mudlark/mudlarklaw05.TextTells", spec := "textTells", unfollowed := true, recurses := true, apart := false, narrowed := true }
def TextTellsUptoSaid : Prop := textTellsUptoRow.holds Try.pinned (OpenSpec.upto textTellsSpec)

/-- 'mudlarklaw05.TextSmall', WHERE WHAT IT READS IS OF BULK AT MOST 1048576: true; the input reads as it did. -/
def textSmallUptoRow : OpenClaim := { program := "ytkkilngihkdnaaa", sum := "443153886730b905e31ae510785db758ec3ff32deff64bcca272adfbf8479c90", func := "mudlark/mudlarklaw05.TextSmall", spec := "textSmall", unfollowed := true, recurses := true, apart := false, narrowed := true }
def TextSmallUptoSaid : Prop := textSmallUptoRow.holds Try.pinned (OpenSpec.upto textSmallSpec)

/-- 'mudlarklaw05.TextJoins', WHERE WHAT IT READS IS OF BULK AT MOST 1048576: true; the input reads as it did. -/
def textJoinsUptoRow : OpenClaim := { program := "ytkkilngihkdnaaa", sum := "443153886730b905e31ae510785db758ec3ff32deff64bcca272adfbf8479c90", func := "mudlark/mudlarklaw05.TextJoins", spec := "textJoins", unfollowed := true, recurses := true, apart := false, narrowed := true }
def TextJoinsUptoSaid : Prop := textJoinsUptoRow.holds Try.pinned (OpenSpec.upto textJoinsSpec)

/-- 'mudlarklaw08.SetMakes', WHERE WHAT IT READS IS OF BULK AT MOST 1048576: true; the input reads as it did. -/
def setMakesUptoRow : OpenClaim := { program := "ytkkilngihkdnaaa", sum := "443153886730b905e31ae510785db758ec3ff32deff64bcca272adfbf8479c90", func := "mudlark/mudlarklaw08.SetMakes", spec := "setMakes", unfollowed := true, recurses := true, apart := false, narrowed := true }
def SetMakesUptoSaid : Prop := setMakesUptoRow.holds Try.pinned (OpenSpec.upto setMakesSpec)

/-- 'mudlarklaw08.SetAlgebra', WHERE WHAT IT READS IS OF BULK AT MOST 1048576: true; the input reads as it did. -/
def setAlgebraUptoRow : OpenClaim := { program := "ytkkilngihkdnaaa", sum := "443153886730b905e31ae510785db758ec3ff32deff64bcca272adfbf8479c90", func := "mudlark/mudlarklaw08.SetAlgebra", spec := "setAlgebra", unfollowed := true, recurses := true, apart := false, narrowed := true }
def SetAlgebraUptoSaid : Prop := setAlgebraUptoRow.holds Try.pinned (OpenSpec.upto setAlgebraSpec)

/-- 'mudlarklaw08.SetWhole', WHERE WHAT IT READS IS OF BULK AT MOST 1048576: true; the input reads as it did. -/
def setWholeUptoRow : OpenClaim := { program := "ytkkilngihkdnaaa", sum := "443153886730b905e31ae510785db758ec3ff32deff64bcca272adfbf8479c90", func := "mudlark/mudlarklaw08.SetWhole", spec := "setWhole", unfollowed := true, recurses := true, apart := false, narrowed := true }
def SetWholeUptoSaid : Prop := setWholeUptoRow.holds Try.pinned (OpenSpec.upto setWholeSpec)

/-- 'mudlarklaw05.TextWhole', WHERE WHAT IT READS IS OF BULK AT MOST 1048576: true; the input reads as it did. -/
def textWholeUptoRow : OpenClaim := { program := "ytkkilngihkdnaaa", sum := "443153886730b905e31ae510785db758ec3ff32deff64bcca272adfbf8479c90", func := "mudlark/mudlarklaw05.TextWhole", spec := "textWhole", inPlace := ["internal/bytealg.IndexByteString", "internal/bytealg.IndexString", "internal/abi.NoEscape", "internal/bytealg.MakeNoZero"], unfollowed := true, recurses := true, named := ["internal/bytealg.MaxLen"], apart := false, narrowed := true }
def TextWholeUptoSaid : Prop := textWholeUptoRow.holds Try.pinned (OpenSpec.upto textWholeSpec)

end Rows
end Go.Proofs.Ytkkilngihkdnaaa
