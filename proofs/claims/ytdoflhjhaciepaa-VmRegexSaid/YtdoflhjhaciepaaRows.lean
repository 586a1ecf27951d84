/-
  No cell of these rows narrows 'for every input' (looked for: loops, veiled, ifaces, maps, wideKeys, modest, calm, conditions, laid).
  DERIVED. THE GIVEN ROWS OF THIS SEAT. 2 by the template 'for every input the law returns true; each argument reads behind the call as it read before'; 0 by the template 'total and deterministic' (their statements: YtdoflhjhaciepaaTotals.lean).
  GIVEN WITH THE SEED: the statements are not yours to turn. If you find one false, say at which input.
  Laid BY PROGRAM, IN A SANDBOX (cutbox-rows.mjs): the forced cells as the released guide's own fill.sh prints them over the translation 8ccf56a46b29fe0b… (all of the seat's roots in one cut). By AI agents, Wed Nov 11 2026. No macro, syntax, notation, axiom, sorry.
-/
import Derived.Test.YtdoflhjhaciepaaChecked
import GoSem.Claim
import GoSem.ClaimJoined
import GoSem.ClaimMapViews
import Derived.JoinedTies
import Derived.KernelRfl
namespace Go.Proofs.Ytdoflhjhaciepaa
/- THE CELL 'sum', in the pinned program and in every row, IS THE sha256 OF THE DUMP (.gsa) THAT YtdoflhjhaciepaaProg.lean LOADS. Nothing in Lean hashes anything: it is a label: what it is worth is what the hold of that sum in a sandbox is worth. -/
noncomputable def Try.pinned : Pinned := { name := "ytdoflhjhaciepaa", sum := "8ccf56a46b29fe0b611fd3ec44ef183412c0ceca4f33483b299d5b2d2c7b0bd2", checked := Try.checked }
namespace Rows
def none {H : Type} : Left H := { results := [], args := [] }

/-- 'mudlarklaw14.VmRegex': WHATEVER THE INPUT: true; the input reads as it did. -/
def vmRegexSpec : ChangeSpec := { name := "vmRegex", fn := fun _ => fun
  | [d1, d2, d3, d4] => { results := [.lit (.bool true)], args := [d1, d2, d3, d4] }
  | _ => none }
def vmRegexRow : OpenClaim := { program := "ytdoflhjhaciepaa", sum := "8ccf56a46b29fe0b611fd3ec44ef183412c0ceca4f33483b299d5b2d2c7b0bd2", func := "mudlark/mudlarklaw14.VmRegex", spec := "vmRegex", unfollowed := true, recurses := true, apart := false }
def VmRegexSaid : Prop := vmRegexRow.holds Try.pinned (OpenSpec.ofChange vmRegexSpec)

/-- ITS FALSE NEIGHBOUR: 'it returns false'. Refute it at one input. -/
def vmRegexWrong : ChangeSpec := { name := "vmRegex", fn := fun _ => fun
  | [d1, d2, d3, d4] => { results := [.lit (.bool false)], args := [d1, d2, d3, d4] }
  | _ => none }
def VmRegexWrongFalsely : Prop := vmRegexRow.holds Try.pinned (OpenSpec.ofChange vmRegexWrong)

/-- 'mudlarklaw14.VmLater': WHATEVER THE INPUT: true; the input reads as it did. -/
def vmLaterSpec : ChangeSpec := { name := "vmLater", fn := fun _ => fun
  | [d1, d2, d3, d4] => { results := [.lit (.bool true)], args := [d1, d2, d3, d4] }
  | _ => none }
def vmLaterRow : OpenClaim := { program := "ytdoflhjhaciepaa", sum := "8ccf56a46b29fe0b611fd3ec44ef183412c0ceca4f33483b299d5b2d2c7b0bd2", func := "mudlark/mudlarklaw14.VmLater", spec := "vmLater", unfollowed := true, recurses := true, apart := false }
def VmLaterSaid : Prop := vmLaterRow.holds Try.pinned (OpenSpec.ofChange vmLaterSpec)

/-- ITS FALSE NEIGHBOUR: 'it returns false'. Refute it at one input. -/
def vmLaterWrong : ChangeSpec := { name := "vmLater", fn := fun _ => fun
  | [d1, d2, d3, d4] => { results := [.lit (.bool false)], args := [d1, d2, d3, d4] }
  | _ => none }
def VmLaterWrongFalsely : Prop := vmLaterRow.holds Try.pinned (OpenSpec.ofChange vmLaterWrong)

/- THE SECOND FORM. 'bulk': how many values and letters a reading holds, each counted each time it is reached (what is shared counts as often as it is met; a slice's spare places count too). A statement '..UptoSaid' is the law's where the arguments, and the package variables that the reading takes, are together of bulk at most 1048576: NARROWER than '..Said'. Prove '..Said' where nothing that the law and all that it calls make is longer than what came in: it says more and counts as full. Else prove '..UptoSaid'. A law counts once. -/
mutual
def uptoBulk {H : Type} : DataW H → Nat
  | .lit (.string bytes) => bytes.length + 1
  | .lit _ => 1
  | .nil => 1
  | .ptr d => uptoBulk d + 1
  | .slice elems spare => uptoBulkAll elems + uptoBulkAll spare + 1
  | .agg parts => uptoBulkAll parts + 1
  | .iface _ d => uptoBulk d + 1
  | .map entries => uptoBulkEntries entries + 1
  | .held _ => 1
def uptoBulkAll {H : Type} : List (DataW H) → Nat
  | [] => 0
  | d :: r => uptoBulk d + uptoBulkAll r
def uptoBulkEntries {H : Type} : List (Lit × DataW H) → Nat
  | [] => 0
  | x :: r => uptoBulkEntry x + uptoBulkEntries r
def uptoBulkEntry {H : Type} : Lit × DataW H → Nat
  | (.string bytes, d) => bytes.length + uptoBulk d + 1
  | (_, d) => uptoBulk d + 1
 end
def uptoSmall : (H : Type) → List (DataW H) → Bool := fun _ ds => decide (uptoBulkAll ds ≤ 1048576)
def OpenSpec.upto (s : _root_.Go.ChangeSpec) : _root_.Go.OpenSpec := { _root_.Go.OpenSpec.ofChange s with cond := some uptoSmall }

/-- 'mudlarklaw14.VmRegex', WHERE WHAT IT READS IS OF BULK AT MOST 1048576: true; the input reads as it did. -/
def vmRegexUptoRow : OpenClaim := { program := "ytdoflhjhaciepaa", sum := "8ccf56a46b29fe0b611fd3ec44ef183412c0ceca4f33483b299d5b2d2c7b0bd2", func := "mudlark/mudlarklaw14.VmRegex", spec := "vmRegex", unfollowed := true, recurses := true, apart := false, narrowed := true }
def VmRegexUptoSaid : Prop := vmRegexUptoRow.holds Try.pinned (OpenSpec.upto vmRegexSpec)

/-- 'mudlarklaw14.VmLater', WHERE WHAT IT READS IS OF BULK AT MOST 1048576: true; the input reads as it did. -/
def vmLaterUptoRow : OpenClaim := { program := "ytdoflhjhaciepaa", sum := "8ccf56a46b29fe0b611fd3ec44ef183412c0ceca4f33483b299d5b2d2c7b0bd2", func := "mudlark/mudlarklaw14.VmLater", spec := "vmLater", unfollowed := true, recurses := true, apart := false, narrowed := true }
def VmLaterUptoSaid : Prop := vmLaterUptoRow.holds Try.pinned (OpenSpec.upto vmLaterSpec)

end Rows
end Go.Proofs.Ytdoflhjhaciepaa
