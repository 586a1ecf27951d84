/-
  DERIVED. GIVEN WITH THE SEED: THE CARDS: each row of YtklcgfkdemifcaaDoorRows.lean that lists a variable, with what it lists TIED to the program's text (the seventh form; the later family's looks); each row that meets fmt, with fmt's text TOLD by the authors' own Lean function (tested against real Go, not proved from fmt's source: count such statements apart). THE CARD IS WHAT COUNTS. Prove the row's statement (the work); the ties are given (YtklcgfkdemifcaaDoorTie.lean); close each card by the builder's one call (the guide's Derived/Test/ToyasCard.lean, 'card_holds'). Laid BY PROGRAM, IN A SANDBOX (cutbox-door.mjs). By AI agents, Wed Nov 11 2026. No macro, syntax, notation, axiom, sorry.
-/
import Derived.Test.YtklcgfkdemifcaaDoorRows
import GoSem.ClaimSeven
namespace Go.Proofs.YtklcgfkdemifcaaDoor
namespace Rows

/-- THE TIED CARD OF 'mudlarklaw10.SyntaxRight'. -/
def syntaxRightCard : Claim7 := { stood := { row := syntaxRightRow, standIns := [], harness := (true, "d8b196516eabf2cfe603e5ec12db8ba24214dc804b7cf66df306184d25453c74"), looks := true }, kinds := [], alts := [], laidByText := true, laidKinds := [.data, .pinned], laidTests := true, laidLooks := .later }
def SyntaxRightCardSaid : Prop := Claim7.holds Tryd.pinned (.plain (OpenSpec.ofChange syntaxRightSpec)) syntaxRightCard

/-- THE TIED CARD OF 'mudlarklaw10.SyntaxBuilds'. -/
def syntaxBuildsCard : Claim7 := { stood := { row := syntaxBuildsRow, standIns := [], harness := (true, "d8b196516eabf2cfe603e5ec12db8ba24214dc804b7cf66df306184d25453c74"), looks := true }, kinds := [], alts := [], laidByText := true, laidKinds := [.data, .pinned], laidTests := true, laidLooks := .later }
def SyntaxBuildsCardSaid : Prop := Claim7.holds Tryd.pinned (.plain (OpenSpec.ofChange syntaxBuildsSpec)) syntaxBuildsCard

/-- THE SECOND FORM's CARD OF 'mudlarklaw10.SyntaxRight'. -/
def syntaxRightUptoCard : Claim7 := { stood := { row := syntaxRightUptoRow, standIns := [], harness := (true, "d8b196516eabf2cfe603e5ec12db8ba24214dc804b7cf66df306184d25453c74"), looks := true }, kinds := [], alts := [], laidByText := true, laidKinds := [.data, .pinned], laidTests := true, laidLooks := .later }
def SyntaxRightUptoCardSaid : Prop := Claim7.holds Tryd.pinned (.plain (OpenSpec.upto syntaxRightSpec)) syntaxRightUptoCard

/-- THE SECOND FORM's CARD OF 'mudlarklaw10.SyntaxBuilds'. -/
def syntaxBuildsUptoCard : Claim7 := { stood := { row := syntaxBuildsUptoRow, standIns := [], harness := (true, "d8b196516eabf2cfe603e5ec12db8ba24214dc804b7cf66df306184d25453c74"), looks := true }, kinds := [], alts := [], laidByText := true, laidKinds := [.data, .pinned], laidTests := true, laidLooks := .later }
def SyntaxBuildsUptoCardSaid : Prop := Claim7.holds Tryd.pinned (.plain (OpenSpec.upto syntaxBuildsSpec)) syntaxBuildsUptoCard
end Rows
end Go.Proofs.YtklcgfkdemifcaaDoor
