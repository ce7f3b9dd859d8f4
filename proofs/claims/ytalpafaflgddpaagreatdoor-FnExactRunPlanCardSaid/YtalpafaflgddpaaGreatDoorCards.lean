/-
  DERIVED. GIVEN WITH THE SEED: THE CARDS: each row of YtalpafaflgddpaaGreatDoorRows.lean that lists a variable, with what it lists TIED to the program's text (the seventh form; the later family's looks); each row that meets fmt, with fmt's text TOLD by the authors' own Lean function (tested against real Go, not proved from fmt's source: count such statements apart). THE CARD IS WHAT COUNTS. Prove the row's statement (the work); the ties are given (YtalpafaflgddpaaGreatDoorTie.lean); close each card by the builder's one call (the guide's Derived/Test/ToyasCard.lean, 'card_holds'). Laid BY PROGRAM, IN A SANDBOX (cutbox-door.mjs). By AI agents, Wed Nov 11 2026. No macro, syntax, notation, axiom, sorry.
-/
import Derived.Test.YtalpafaflgddpaaGreatDoorRows
import GoSem.ClaimSeven
namespace Go.Proofs.YtalpafaflgddpaaGreatDoor
namespace Rows

/-- THE TIED CARD OF 'laws.FnExactPlanCost'. -/
def fnExactPlanCostCard : Claim7 := { stood := { row := fnExactPlanCostRow, standIns := [], harness := (true, "da7f2282fb8d1cbe8fbb9a02b2389fb76a8a8e016a520cfbef9638ffdc708964"), looks := false }, kinds := [], alts := [], laidByText := true, laidKinds := [.data, .data, .data, .data, .pinned], laidTests := true, laidLooks := .later }
def FnExactPlanCostCardSaid : Prop := Claim7.holds Tryz.pinned (.plain (OpenSpec.ofChange fnExactPlanCostSpec)) fnExactPlanCostCard

/-- THE TIED CARD OF 'laws.FnExactRunQuery'. -/
def fnExactRunQueryCard : Claim7 := { stood := { row := fnExactRunQueryRow, standIns := [], harness := (true, "da7f2282fb8d1cbe8fbb9a02b2389fb76a8a8e016a520cfbef9638ffdc708964"), looks := false }, kinds := [], alts := [], laidByText := true, laidKinds := [.data, .data, .data, .data, .pinned], laidTests := true, laidLooks := .later }
def FnExactRunQueryCardSaid : Prop := Claim7.holds Tryz.pinned (.plain (OpenSpec.ofChange fnExactRunQuerySpec)) fnExactRunQueryCard

/-- THE TIED CARD OF 'laws.FnExactRunPlan'. -/
def fnExactRunPlanCard : Claim7 := { stood := { row := fnExactRunPlanRow, standIns := [], harness := (true, "da7f2282fb8d1cbe8fbb9a02b2389fb76a8a8e016a520cfbef9638ffdc708964"), looks := false }, kinds := [], alts := [], laidByText := true, laidKinds := [.data, .data, .data, .data, .pinned], laidTests := true, laidLooks := .later }
def FnExactRunPlanCardSaid : Prop := Claim7.holds Tryz.pinned (.plain (OpenSpec.ofChange fnExactRunPlanSpec)) fnExactRunPlanCard

/-- THE SECOND FORM's CARD OF 'laws.FnExactPlanCost'. -/
def fnExactPlanCostUptoCard : Claim7 := { stood := { row := fnExactPlanCostUptoRow, standIns := [], harness := (true, "da7f2282fb8d1cbe8fbb9a02b2389fb76a8a8e016a520cfbef9638ffdc708964"), looks := false }, kinds := [], alts := [], laidByText := true, laidKinds := [.data, .data, .data, .data, .pinned], laidTests := true, laidLooks := .later }
def FnExactPlanCostUptoCardSaid : Prop := Claim7.holds Tryz.pinned (.plain (OpenSpec.upto fnExactPlanCostSpec)) fnExactPlanCostUptoCard

/-- THE SECOND FORM's CARD OF 'laws.FnExactRunQuery'. -/
def fnExactRunQueryUptoCard : Claim7 := { stood := { row := fnExactRunQueryUptoRow, standIns := [], harness := (true, "da7f2282fb8d1cbe8fbb9a02b2389fb76a8a8e016a520cfbef9638ffdc708964"), looks := false }, kinds := [], alts := [], laidByText := true, laidKinds := [.data, .data, .data, .data, .pinned], laidTests := true, laidLooks := .later }
def FnExactRunQueryUptoCardSaid : Prop := Claim7.holds Tryz.pinned (.plain (OpenSpec.upto fnExactRunQuerySpec)) fnExactRunQueryUptoCard

/-- THE SECOND FORM's CARD OF 'laws.FnExactRunPlan'. -/
def fnExactRunPlanUptoCard : Claim7 := { stood := { row := fnExactRunPlanUptoRow, standIns := [], harness := (true, "da7f2282fb8d1cbe8fbb9a02b2389fb76a8a8e016a520cfbef9638ffdc708964"), looks := false }, kinds := [], alts := [], laidByText := true, laidKinds := [.data, .data, .data, .data, .pinned], laidTests := true, laidLooks := .later }
def FnExactRunPlanUptoCardSaid : Prop := Claim7.holds Tryz.pinned (.plain (OpenSpec.upto fnExactRunPlanSpec)) fnExactRunPlanUptoCard
end Rows
end Go.Proofs.YtalpafaflgddpaaGreatDoor
