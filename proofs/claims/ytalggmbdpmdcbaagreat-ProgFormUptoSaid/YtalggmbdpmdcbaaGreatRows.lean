/-
  NARROWER THAN 'FOR EVERY INPUT', by the rows' own cells (each row's printed sentence says how): ProgTells: loops · ProgForm: loops.
  DERIVED. THE GIVEN ROWS OF THIS SEAT. 3 by the template 'for every input the law returns true; each argument reads behind the call as it read before'; 0 by the template 'total and deterministic' (their statements: YtalggmbdpmdcbaaGreatTotals.lean).
  GIVEN WITH THE SEED: the statements are not yours to turn. If you find one false, say at which input.
  Laid BY PROGRAM, IN A SANDBOX (cutbox-rows.mjs): the forced cells as the released guide's own fill.sh prints them over the translation ca717aea0f9afe1f… (all of the seat's roots in one cut). By AI agents, Wed Nov 11 2026. No macro, syntax, notation, axiom, sorry.
-/
import Derived.Test.YtalggmbdpmdcbaaGreatChecked
import GoSem.Claim
import GoSem.ClaimJoined
import GoSem.ClaimMapViews
import Derived.JoinedTies
import Derived.KernelRfl
namespace Go.Proofs.YtalggmbdpmdcbaaGreat
/- THE CELL 'sum', in the pinned program and in every row, IS THE sha256 OF THE DUMP (.gsa) THAT YtalggmbdpmdcbaaGreatProg.lean LOADS. Nothing in Lean hashes anything: it is a label: what it is worth is what the hold of that sum in a sandbox is worth. -/
noncomputable def Tryz.pinned : Pinned := { name := "ytalggmbdpmdcbaagreat", sum := "ca717aea0f9afe1fb011f0e768794f53efb0fa353ff1ac8dd28007026927dd96", checked := Tryz.checked }
namespace Rows
def none {H : Type} : Left H := { results := [], args := [] }

/-- 'mudlarklaw13.ProgTells': WHATEVER THE INPUT: true; the input reads as it did. -/
def progTellsSpec : ChangeSpec := { name := "progTells", fn := fun _ => fun
  | [d] => { results := [.lit (.bool true)], args := [d] }
  | _ => none }
def progTellsRow : OpenClaim := { program := "ytalggmbdpmdcbaagreat", sum := "ca717aea0f9afe1fb011f0e768794f53efb0fa353ff1ac8dd28007026927dd96", func := "mudlark/mudlarklaw13.ProgTells", spec := "progTells", unfollowed := true, recurses := true, loops := true, apart := false }
def ProgTellsSaid : Prop := progTellsRow.holds Tryz.pinned (OpenSpec.ofChange progTellsSpec)

/-- ITS FALSE NEIGHBOUR: 'it returns false'. Refute it at one input. -/
def progTellsWrong : ChangeSpec := { name := "progTells", fn := fun _ => fun
  | [d] => { results := [.lit (.bool false)], args := [d] }
  | _ => none }
def ProgTellsWrongFalsely : Prop := progTellsRow.holds Tryz.pinned (OpenSpec.ofChange progTellsWrong)

/-- 'mudlarklaw13.ProgForm': WHATEVER THE INPUT: true; the input reads as it did. -/
def progFormSpec : ChangeSpec := { name := "progForm", fn := fun _ => fun
  | [d] => { results := [.lit (.bool true)], args := [d] }
  | _ => none }
def progFormRow : OpenClaim := { program := "ytalggmbdpmdcbaagreat", sum := "ca717aea0f9afe1fb011f0e768794f53efb0fa353ff1ac8dd28007026927dd96", func := "mudlark/mudlarklaw13.ProgForm", spec := "progForm", unfollowed := true, recurses := true, loops := true, apart := false }
def ProgFormSaid : Prop := progFormRow.holds Tryz.pinned (OpenSpec.ofChange progFormSpec)

/-- ITS FALSE NEIGHBOUR: 'it returns false'. Refute it at one input. -/
def progFormWrong : ChangeSpec := { name := "progForm", fn := fun _ => fun
  | [d] => { results := [.lit (.bool false)], args := [d] }
  | _ => none }
def ProgFormWrongFalsely : Prop := progFormRow.holds Tryz.pinned (OpenSpec.ofChange progFormWrong)

/-- 'mudlarklaw13.ProgShapes': WHATEVER THE INPUT: true; the input reads as it did. -/
def progShapesSpec : ChangeSpec := { name := "progShapes", fn := fun _ => fun
  | [] => { results := [.lit (.bool true)], args := [] }
  | _ => none }
def progShapesRow : OpenClaim := { program := "ytalggmbdpmdcbaagreat", sum := "ca717aea0f9afe1fb011f0e768794f53efb0fa353ff1ac8dd28007026927dd96", func := "mudlark/mudlarklaw13.ProgShapes", spec := "progShapes", inPlace := ["internal/abi.NoEscape", "internal/bytealg.MakeNoZero"], unfollowed := true, recurses := true, apart := false }
def ProgShapesSaid : Prop := progShapesRow.holds Tryz.pinned (OpenSpec.ofChange progShapesSpec)

/-- ITS FALSE NEIGHBOUR: 'it returns false'. Refute it at one input. -/
def progShapesWrong : ChangeSpec := { name := "progShapes", fn := fun _ => fun
  | [] => { results := [.lit (.bool false)], args := [] }
  | _ => none }
def ProgShapesWrongFalsely : Prop := progShapesRow.holds Tryz.pinned (OpenSpec.ofChange progShapesWrong)

/- THE SECOND FORM. 'bulk': how many values and letters a reading holds, each counted each time it is reached (what is shared counts as often as it is met; a slice's spare places count too). A statement '..UptoSaid' is the law's where the arguments, and the package variables that the reading takes, are together of bulk at most 1048576: NARROWER than '..Said'. Prove '..Said' where nothing that the law and all that it calls make is longer than what came in: it says more and counts as full. Else prove '..UptoSaid'. A law counts once. -/
mutual
def uptoBulk {H : Type} : DataW H → Nat
  | .lit (.string bytes) => bytes.length + 1
  | .lit _ => 1
  | .nil => 1
  | .ptr d => uptoBulk d + 1
  | .slice elems spare => uptoBulkAll elems + uptoBulkAll spare + 1
  | .agg parts => uptoBulkAll parts + 1
  | .iface _ d => uptoBulk d + 1
  | .map entries => uptoBulkEntries entries + 1
  | .held _ => 1
def uptoBulkAll {H : Type} : List (DataW H) → Nat
  | [] => 0
  | d :: r => uptoBulk d + uptoBulkAll r
def uptoBulkEntries {H : Type} : List (Lit × DataW H) → Nat
  | [] => 0
  | x :: r => uptoBulkEntry x + uptoBulkEntries r
def uptoBulkEntry {H : Type} : Lit × DataW H → Nat
  | (.string bytes, d) => bytes.length + uptoBulk d + 1
  | (_, d) => uptoBulk d + 1
 end
def uptoSmall : (H : Type) → List (DataW H) → Bool := fun _ ds => decide (uptoBulkAll ds ≤ 1048576)
def OpenSpec.upto (s : _root_.Go.ChangeSpec) : _root_.Go.OpenSpec := { _root_.Go.OpenSpec.ofChange s with cond := some uptoSmall }

/-- 'mudlarklaw13.ProgTells', WHERE WHAT IT READS IS OF BULK AT MOST 1048576: true; the input reads as it did. -/
def progTellsUptoRow : OpenClaim := { program := "ytalggmbdpmdcbaagreat", sum := "ca717aea0f9afe1fb011f0e768794f53efb0fa353ff1ac8dd28007026927dd96", func := "mudlark/mudlarklaw13.ProgTells", spec := "progTells", unfollowed := true, recurses := true, loops := true, apart := false, narrowed := true }
def ProgTellsUptoSaid : Prop := progTellsUptoRow.holds Tryz.pinned (OpenSpec.upto progTellsSpec)

/-- 'mudlarklaw13.ProgForm', WHERE WHAT IT READS IS OF BULK AT MOST 1048576: true; the input reads as it did. -/
def progFormUptoRow : OpenClaim := { program := "ytalggmbdpmdcbaagreat", sum := "ca717aea0f9afe1fb011f0e768794f53efb0fa353ff1ac8dd28007026927dd96", func := "mudlark/mudlarklaw13.ProgForm", spec := "progForm", unfollowed := true, recurses := true, loops := true, apart := false, narrowed := true }
def ProgFormUptoSaid : Prop := progFormUptoRow.holds Tryz.pinned (OpenSpec.upto progFormSpec)

/-- 'mudlarklaw13.ProgShapes', WHERE WHAT IT READS IS OF BULK AT MOST 1048576: true; the input reads as it did. -/
def progShapesUptoRow : OpenClaim := { program := "ytalggmbdpmdcbaagreat", sum := "ca717aea0f9afe1fb011f0e768794f53efb0fa353ff1ac8dd28007026927dd96", func := "mudlark/mudlarklaw13.ProgShapes", spec := "progShapes", inPlace := ["internal/abi.NoEscape", "internal/bytealg.MakeNoZero"], unfollowed := true, recurses := true, apart := false, narrowed := true }
def ProgShapesUptoSaid : Prop := progShapesUptoRow.holds Tryz.pinned (OpenSpec.upto progShapesSpec)

end Rows
end Go.Proofs.YtalggmbdpmdcbaaGreat
