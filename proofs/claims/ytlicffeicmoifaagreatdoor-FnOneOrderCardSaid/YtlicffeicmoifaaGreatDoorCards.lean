/-
  DERIVED. GIVEN WITH THE SEED: THE CARDS: each row of YtlicffeicmoifaaGreatDoorRows.lean that lists a variable, with what it lists TIED to the program's text (the seventh form; the later family's looks); each row that meets fmt, with fmt's text TOLD by the authors' own Lean function (tested against real Go, not proved from fmt's source: count such statements apart). THE CARD IS WHAT COUNTS. Prove the row's statement (the work); the ties are given (YtlicffeicmoifaaGreatDoorTie.lean); close each card by the builder's one call (the guide's Derived/Test/ToyasCard.lean, 'card_holds'). Laid BY PROGRAM, IN A SANDBOX (cutbox-door.mjs). By AI agents, Wed Nov 11 2026. No macro, syntax, notation, axiom, sorry.
-/
import Derived.Test.YtlicffeicmoifaaGreatDoorRows
import GoSem.ClaimSeven
namespace Go.Proofs.YtlicffeicmoifaaGreatDoor
namespace Rows

/-- THE TIED CARD OF 'laws.FnSwaps'. -/
def fnSwapsCard : Claim7 := { stood := { row := fnSwapsRow, standIns := [], harness := (true, "3588ec40cfae7eecbdf530406efd2d524c276f5bcee40087f199c662b56b6a09"), looks := false }, kinds := [], alts := [], laidByText := true, laidKinds := [.data, .data, .data, .data, .pinned], laidTests := true, laidLooks := .later }
def FnSwapsCardSaid : Prop := Claim7.holds Tryz.pinned (.plain (OpenSpec.ofChange fnSwapsSpec)) fnSwapsCard

/-- THE TIED CARD OF 'laws.FnOneOrder'. -/
def fnOneOrderCard : Claim7 := { stood := { row := fnOneOrderRow, standIns := [], harness := (true, "3588ec40cfae7eecbdf530406efd2d524c276f5bcee40087f199c662b56b6a09"), looks := false }, kinds := [], alts := [], laidByText := true, laidKinds := [.data, .data, .data, .data, .pinned], laidTests := true, laidLooks := .later }
def FnOneOrderCardSaid : Prop := Claim7.holds Tryz.pinned (.plain (OpenSpec.ofChange fnOneOrderSpec)) fnOneOrderCard

/-- THE TIED CARD OF 'laws.FnScopes'. -/
def fnScopesCard : Claim7 := { stood := { row := fnScopesRow, standIns := [], harness := (true, "3588ec40cfae7eecbdf530406efd2d524c276f5bcee40087f199c662b56b6a09"), looks := false }, kinds := [], alts := [], laidByText := true, laidKinds := [.data, .data, .data, .data, .pinned], laidTests := true, laidLooks := .later }
def FnScopesCardSaid : Prop := Claim7.holds Tryz.pinned (.plain (OpenSpec.ofChange fnScopesSpec)) fnScopesCard

/-- THE TIED CARD OF 'laws.FnByRef'. -/
def fnByRefCard : Claim7 := { stood := { row := fnByRefRow, standIns := [], harness := (true, "3588ec40cfae7eecbdf530406efd2d524c276f5bcee40087f199c662b56b6a09"), looks := false }, kinds := [], alts := [], laidByText := true, laidKinds := [.data, .data, .data, .data, .pinned], laidTests := true, laidLooks := .later }
def FnByRefCardSaid : Prop := Claim7.holds Tryz.pinned (.plain (OpenSpec.ofChange fnByRefSpec)) fnByRefCard

/-- THE SECOND FORM's CARD OF 'laws.FnSwaps'. -/
def fnSwapsUptoCard : Claim7 := { stood := { row := fnSwapsUptoRow, standIns := [], harness := (true, "3588ec40cfae7eecbdf530406efd2d524c276f5bcee40087f199c662b56b6a09"), looks := false }, kinds := [], alts := [], laidByText := true, laidKinds := [.data, .data, .data, .data, .pinned], laidTests := true, laidLooks := .later }
def FnSwapsUptoCardSaid : Prop := Claim7.holds Tryz.pinned (.plain (OpenSpec.upto fnSwapsSpec)) fnSwapsUptoCard

/-- THE SECOND FORM's CARD OF 'laws.FnOneOrder'. -/
def fnOneOrderUptoCard : Claim7 := { stood := { row := fnOneOrderUptoRow, standIns := [], harness := (true, "3588ec40cfae7eecbdf530406efd2d524c276f5bcee40087f199c662b56b6a09"), looks := false }, kinds := [], alts := [], laidByText := true, laidKinds := [.data, .data, .data, .data, .pinned], laidTests := true, laidLooks := .later }
def FnOneOrderUptoCardSaid : Prop := Claim7.holds Tryz.pinned (.plain (OpenSpec.upto fnOneOrderSpec)) fnOneOrderUptoCard

/-- THE SECOND FORM's CARD OF 'laws.FnScopes'. -/
def fnScopesUptoCard : Claim7 := { stood := { row := fnScopesUptoRow, standIns := [], harness := (true, "3588ec40cfae7eecbdf530406efd2d524c276f5bcee40087f199c662b56b6a09"), looks := false }, kinds := [], alts := [], laidByText := true, laidKinds := [.data, .data, .data, .data, .pinned], laidTests := true, laidLooks := .later }
def FnScopesUptoCardSaid : Prop := Claim7.holds Tryz.pinned (.plain (OpenSpec.upto fnScopesSpec)) fnScopesUptoCard

/-- THE SECOND FORM's CARD OF 'laws.FnByRef'. -/
def fnByRefUptoCard : Claim7 := { stood := { row := fnByRefUptoRow, standIns := [], harness := (true, "3588ec40cfae7eecbdf530406efd2d524c276f5bcee40087f199c662b56b6a09"), looks := false }, kinds := [], alts := [], laidByText := true, laidKinds := [.data, .data, .data, .data, .pinned], laidTests := true, laidLooks := .later }
def FnByRefUptoCardSaid : Prop := Claim7.holds Tryz.pinned (.plain (OpenSpec.upto fnByRefSpec)) fnByRefUptoCard
end Rows
end Go.Proofs.YtlicffeicmoifaaGreatDoor
