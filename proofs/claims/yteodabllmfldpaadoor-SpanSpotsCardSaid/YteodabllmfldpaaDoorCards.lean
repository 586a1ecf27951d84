/-
  DERIVED. GIVEN WITH THE SEED: THE CARDS: each row of YteodabllmfldpaaDoorRows.lean that lists a variable, with what it lists TIED to the program's text (the seventh form; the later family's looks); each row that meets fmt, with fmt's text TOLD by the authors' own Lean function (tested against real Go, not proved from fmt's source: count such statements apart). THE CARD IS WHAT COUNTS. Prove the row's statement (the work); the ties are given (YteodabllmfldpaaDoorTie.lean); close each card by the builder's one call (the guide's Derived/Test/ToyasCard.lean, 'card_holds'). Laid BY PROGRAM, IN A SANDBOX (cutbox-door.mjs). By AI agents, Wed Nov 11 2026. No macro, syntax, notation, axiom, sorry.
-/
import Derived.Test.YteodabllmfldpaaDoorRows
import GoSem.ClaimSeven
namespace Go.Proofs.YteodabllmfldpaaDoor
namespace Rows

/-- THE TIED CARD OF 'mudlarklaw12.SpanSpots'. -/
def spanSpotsCard : Claim7 := { stood := { row := spanSpotsRow, standIns := [], harness := (true, "5376401e81bb16673f039db94683d575c980b7ab1f88ffa8eeabe24fec964754"), looks := false }, kinds := [], alts := [], laidByText := true, laidKinds := [.data], laidTests := true, laidLooks := .later }
def SpanSpotsCardSaid : Prop := Claim7.holds Tryd.pinned (.plain (OpenSpec.ofChange spanSpotsSpec)) spanSpotsCard

/-- THE SECOND FORM's CARD OF 'mudlarklaw12.SpanSpots'. -/
def spanSpotsUptoCard : Claim7 := { stood := { row := spanSpotsUptoRow, standIns := [], harness := (true, "5376401e81bb16673f039db94683d575c980b7ab1f88ffa8eeabe24fec964754"), looks := false }, kinds := [], alts := [], laidByText := true, laidKinds := [.data], laidTests := true, laidLooks := .later }
def SpanSpotsUptoCardSaid : Prop := Claim7.holds Tryd.pinned (.plain (OpenSpec.upto spanSpotsSpec)) spanSpotsUptoCard
end Rows
end Go.Proofs.YteodabllmfldpaaDoor
