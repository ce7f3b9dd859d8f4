/-
  DERIVED. GIVEN WITH THE SEED: THE CARDS: each row of YtjcpocedhaojpaaDoorRows.lean that lists a variable, with what it lists TIED to the program's text (the seventh form; the later family's looks); each row that meets fmt, with fmt's text TOLD by the authors' own Lean function (tested against real Go, not proved from fmt's source: count such statements apart). THE CARD IS WHAT COUNTS. Prove the row's statement (the work); the ties are given (YtjcpocedhaojpaaDoorTie.lean); close each card by the builder's one call (the guide's Derived/Test/ToyasCard.lean, 'card_holds'). Laid BY PROGRAM, IN A SANDBOX (cutbox-door.mjs). By AI agents, Wed Nov 11 2026. No macro, syntax, notation, axiom, sorry.
-/
import Derived.Test.YtjcpocedhaojpaaDoorRows
import GoSem.ClaimSeven
namespace Go.Proofs.YtjcpocedhaojpaaDoor
namespace Rows

/-- THE TIED CARD OF 'laws.FnExactScreenText'. -/
def fnExactScreenTextCard : Claim7 := { stood := { row := fnExactScreenTextRow, standIns := [], harness := (true, "a9eea9f8c74f418dbc3c31df6a6a48bb46da57ccb58ca296c86fa7512b902119"), looks := false }, kinds := [], alts := [], laidByText := true, laidKinds := [.data, .pinned], laidTests := true, laidLooks := .later }
def FnExactScreenTextCardSaid : Prop := Claim7.holds Tryd.pinned (.plain (OpenSpec.ofChange fnExactScreenTextSpec)) fnExactScreenTextCard

/-- THE SECOND FORM's CARD OF 'laws.FnExactScreenText'. -/
def fnExactScreenTextUptoCard : Claim7 := { stood := { row := fnExactScreenTextUptoRow, standIns := [], harness := (true, "a9eea9f8c74f418dbc3c31df6a6a48bb46da57ccb58ca296c86fa7512b902119"), looks := false }, kinds := [], alts := [], laidByText := true, laidKinds := [.data, .pinned], laidTests := true, laidLooks := .later }
def FnExactScreenTextUptoCardSaid : Prop := Claim7.holds Tryd.pinned (.plain (OpenSpec.upto fnExactScreenTextSpec)) fnExactScreenTextUptoCard
end Rows
end Go.Proofs.YtjcpocedhaojpaaDoor
