/-
  DERIVED. GIVEN WITH THE SEED: THE CARDS: each row of YtfpcjhajjejpdaaGreatDoorRows.lean that lists a variable, with what it lists TIED to the program's text (the seventh form; the later family's looks); each row that meets fmt, with fmt's text TOLD by the authors' own Lean function (tested against real Go, not proved from fmt's source: count such statements apart). THE CARD IS WHAT COUNTS. Prove the row's statement (the work); the ties are given (YtfpcjhajjejpdaaGreatDoorTie.lean); close each card by the builder's one call (the guide's Derived/Test/ToyasCard.lean, 'card_holds'). Laid BY PROGRAM, IN A SANDBOX (cutbox-door.mjs). By AI agents, Wed Nov 11 2026. No macro, syntax, notation, axiom, sorry.
-/
import Derived.Test.YtfpcjhajjejpdaaGreatDoorRows
import GoSem.ClaimSeven
namespace Go.Proofs.YtfpcjhajjejpdaaGreatDoor
namespace Rows

/-- THE TIED CARD OF 'laws.FnQueryIs'. -/
def fnQueryIsCard : Claim7 := { stood := { row := fnQueryIsRow, standIns := [], harness := (true, "3540e1e801cf3977a0ea37b4fe64fde0461cc4afe4143fbf7ae67e985bed268f"), looks := false }, kinds := [], alts := [], laidByText := true, laidKinds := [.data, .data, .data, .data, .pinned], laidTests := true, laidLooks := .later }
def FnQueryIsCardSaid : Prop := Claim7.holds Tryz.pinned (.plain (OpenSpec.ofChange fnQueryIsSpec)) fnQueryIsCard

/-- THE TIED CARD OF 'laws.FnQueryPlan'. -/
def fnQueryPlanCard : Claim7 := { stood := { row := fnQueryPlanRow, standIns := [], harness := (true, "3540e1e801cf3977a0ea37b4fe64fde0461cc4afe4143fbf7ae67e985bed268f"), looks := false }, kinds := [], alts := [], laidByText := true, laidKinds := [.data, .data, .data, .data, .pinned], laidTests := true, laidLooks := .later }
def FnQueryPlanCardSaid : Prop := Claim7.holds Tryz.pinned (.plain (OpenSpec.ofChange fnQueryPlanSpec)) fnQueryPlanCard

/-- THE TIED CARD OF 'laws.FnTables'. -/
def fnTablesCard : Claim7 := { stood := { row := fnTablesRow, standIns := [], harness := (true, "3540e1e801cf3977a0ea37b4fe64fde0461cc4afe4143fbf7ae67e985bed268f"), looks := false }, kinds := [], alts := [], laidByText := true, laidKinds := [.data, .data, .data, .data, .pinned], laidTests := true, laidLooks := .later }
def FnTablesCardSaid : Prop := Claim7.holds Tryz.pinned (.plain (OpenSpec.ofChange fnTablesSpec)) fnTablesCard

/-- THE TIED CARD OF 'laws.FnIndexTrue'. -/
def fnIndexTrueCard : Claim7 := { stood := { row := fnIndexTrueRow, standIns := [], harness := (true, "3540e1e801cf3977a0ea37b4fe64fde0461cc4afe4143fbf7ae67e985bed268f"), looks := false }, kinds := [], alts := [], laidByText := true, laidKinds := [.data, .data, .data, .data, .pinned], laidTests := true, laidLooks := .later }
def FnIndexTrueCardSaid : Prop := Claim7.holds Tryz.pinned (.plain (OpenSpec.ofChange fnIndexTrueSpec)) fnIndexTrueCard

/-- THE SECOND FORM's CARD OF 'laws.FnQueryIs'. -/
def fnQueryIsUptoCard : Claim7 := { stood := { row := fnQueryIsUptoRow, standIns := [], harness := (true, "3540e1e801cf3977a0ea37b4fe64fde0461cc4afe4143fbf7ae67e985bed268f"), looks := false }, kinds := [], alts := [], laidByText := true, laidKinds := [.data, .data, .data, .data, .pinned], laidTests := true, laidLooks := .later }
def FnQueryIsUptoCardSaid : Prop := Claim7.holds Tryz.pinned (.plain (OpenSpec.upto fnQueryIsSpec)) fnQueryIsUptoCard

/-- THE SECOND FORM's CARD OF 'laws.FnQueryPlan'. -/
def fnQueryPlanUptoCard : Claim7 := { stood := { row := fnQueryPlanUptoRow, standIns := [], harness := (true, "3540e1e801cf3977a0ea37b4fe64fde0461cc4afe4143fbf7ae67e985bed268f"), looks := false }, kinds := [], alts := [], laidByText := true, laidKinds := [.data, .data, .data, .data, .pinned], laidTests := true, laidLooks := .later }
def FnQueryPlanUptoCardSaid : Prop := Claim7.holds Tryz.pinned (.plain (OpenSpec.upto fnQueryPlanSpec)) fnQueryPlanUptoCard

/-- THE SECOND FORM's CARD OF 'laws.FnTables'. -/
def fnTablesUptoCard : Claim7 := { stood := { row := fnTablesUptoRow, standIns := [], harness := (true, "3540e1e801cf3977a0ea37b4fe64fde0461cc4afe4143fbf7ae67e985bed268f"), looks := false }, kinds := [], alts := [], laidByText := true, laidKinds := [.data, .data, .data, .data, .pinned], laidTests := true, laidLooks := .later }
def FnTablesUptoCardSaid : Prop := Claim7.holds Tryz.pinned (.plain (OpenSpec.upto fnTablesSpec)) fnTablesUptoCard

/-- THE SECOND FORM's CARD OF 'laws.FnIndexTrue'. -/
def fnIndexTrueUptoCard : Claim7 := { stood := { row := fnIndexTrueUptoRow, standIns := [], harness := (true, "3540e1e801cf3977a0ea37b4fe64fde0461cc4afe4143fbf7ae67e985bed268f"), looks := false }, kinds := [], alts := [], laidByText := true, laidKinds := [.data, .data, .data, .data, .pinned], laidTests := true, laidLooks := .later }
def FnIndexTrueUptoCardSaid : Prop := Claim7.holds Tryz.pinned (.plain (OpenSpec.upto fnIndexTrueSpec)) fnIndexTrueUptoCard
end Rows
end Go.Proofs.YtfpcjhajjejpdaaGreatDoor
