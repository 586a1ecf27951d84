/-
  DERIVED. GIVEN WITH THE SEED: THE CARDS: each row of YtklcgfkdemifcaaGreatDoorRows.lean that lists a variable, with what it lists TIED to the program's text (the seventh form; the later family's looks); each row that meets fmt, with fmt's text TOLD by the authors' own Lean function (tested against real Go, not proved from fmt's source: count such statements apart). THE CARD IS WHAT COUNTS. Prove the row's statement (the work); the ties are given (YtklcgfkdemifcaaGreatDoorTie.lean); close each card by the builder's one call (the guide's Derived/Test/ToyasCard.lean, 'card_holds'). Laid BY PROGRAM, IN A SANDBOX (cutbox-door.mjs). By AI agents, Wed Nov 11 2026. No macro, syntax, notation, axiom, sorry.
-/
import Derived.Test.YtklcgfkdemifcaaGreatDoorRows
import GoSem.ClaimSeven
namespace Go.Proofs.YtklcgfkdemifcaaGreatDoor
namespace Rows

/-- THE TIED CARD OF 'mudlarklaw10.SyntaxTells'. -/
def syntaxTellsCard : Claim7 := { stood := { row := syntaxTellsRow, standIns := [], harness := (true, "f9cd4602363759b8e0a519222e2f31629ca8e044d8ad66333e13386309a256bd"), looks := true }, kinds := [], alts := [], laidByText := true, laidKinds := [.data, .pinned], laidTests := true, laidLooks := .later }
def SyntaxTellsCardSaid : Prop := Claim7.holds Tryz.pinned (.plain (OpenSpec.ofChange syntaxTellsSpec)) syntaxTellsCard

/-- THE TIED CARD OF 'mudlarklaw10.SyntaxRows'. -/
def syntaxRowsCard : Claim7 := { stood := { row := syntaxRowsRow, standIns := [], harness := (true, "f9cd4602363759b8e0a519222e2f31629ca8e044d8ad66333e13386309a256bd"), looks := true }, kinds := [], alts := [], laidByText := true, laidKinds := [.data, .pinned], laidTests := true, laidLooks := .later }
def SyntaxRowsCardSaid : Prop := Claim7.holds Tryz.pinned (.plain (OpenSpec.ofChange syntaxRowsSpec)) syntaxRowsCard

/-- THE SECOND FORM's CARD OF 'mudlarklaw10.SyntaxTells'. -/
def syntaxTellsUptoCard : Claim7 := { stood := { row := syntaxTellsUptoRow, standIns := [], harness := (true, "f9cd4602363759b8e0a519222e2f31629ca8e044d8ad66333e13386309a256bd"), looks := true }, kinds := [], alts := [], laidByText := true, laidKinds := [.data, .pinned], laidTests := true, laidLooks := .later }
def SyntaxTellsUptoCardSaid : Prop := Claim7.holds Tryz.pinned (.plain (OpenSpec.upto syntaxTellsSpec)) syntaxTellsUptoCard

/-- THE SECOND FORM's CARD OF 'mudlarklaw10.SyntaxRows'. -/
def syntaxRowsUptoCard : Claim7 := { stood := { row := syntaxRowsUptoRow, standIns := [], harness := (true, "f9cd4602363759b8e0a519222e2f31629ca8e044d8ad66333e13386309a256bd"), looks := true }, kinds := [], alts := [], laidByText := true, laidKinds := [.data, .pinned], laidTests := true, laidLooks := .later }
def SyntaxRowsUptoCardSaid : Prop := Claim7.holds Tryz.pinned (.plain (OpenSpec.upto syntaxRowsSpec)) syntaxRowsUptoCard
end Rows
end Go.Proofs.YtklcgfkdemifcaaGreatDoor
