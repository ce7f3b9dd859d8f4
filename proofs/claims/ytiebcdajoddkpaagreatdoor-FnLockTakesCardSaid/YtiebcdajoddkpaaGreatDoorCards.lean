/-
  DERIVED. GIVEN WITH THE SEED: THE CARDS: each row of YtiebcdajoddkpaaGreatDoorRows.lean that lists a variable, with what it lists TIED to the program's text (the seventh form; the later family's looks); each row that meets fmt, with fmt's text TOLD by the authors' own Lean function (tested against real Go, not proved from fmt's source: count such statements apart). THE CARD IS WHAT COUNTS. Prove the row's statement (the work); the ties are given (YtiebcdajoddkpaaGreatDoorTie.lean); close each card by the builder's one call (the guide's Derived/Test/ToyasCard.lean, 'card_holds'). Laid BY PROGRAM, IN A SANDBOX (cutbox-door.mjs). By AI agents, Wed Nov 11 2026. No macro, syntax, notation, axiom, sorry.
-/
import Derived.Test.YtiebcdajoddkpaaGreatDoorRows
import GoSem.ClaimSeven
namespace Go.Proofs.YtiebcdajoddkpaaGreatDoor
namespace Rows

/-- THE TIED CARD OF 'laws.FnLocksBack'. -/
def fnLocksBackCard : Claim7 := { stood := { row := fnLocksBackRow, standIns := [], harness := (true, "1641c09150c12ab0b6e3eecba5ad8d07bea2dc6b14a22053e65582c19f3ab910"), looks := false }, kinds := [], alts := [], laidByText := true, laidKinds := [.data, .data, .data, .data, .pinned], laidTests := true, laidLooks := .later }
def FnLocksBackCardSaid : Prop := Claim7.holds Tryz.pinned (.plain (OpenSpec.ofChange fnLocksBackSpec)) fnLocksBackCard

/-- THE TIED CARD OF 'laws.FnLockTimes'. -/
def fnLockTimesCard : Claim7 := { stood := { row := fnLockTimesRow, standIns := [], harness := (true, "1641c09150c12ab0b6e3eecba5ad8d07bea2dc6b14a22053e65582c19f3ab910"), looks := false }, kinds := [], alts := [], laidByText := true, laidKinds := [.data, .data, .data, .data, .pinned], laidTests := true, laidLooks := .later }
def FnLockTimesCardSaid : Prop := Claim7.holds Tryz.pinned (.plain (OpenSpec.ofChange fnLockTimesSpec)) fnLockTimesCard

/-- THE TIED CARD OF 'laws.FnLockTakes'. -/
def fnLockTakesCard : Claim7 := { stood := { row := fnLockTakesRow, standIns := [], harness := (true, "1641c09150c12ab0b6e3eecba5ad8d07bea2dc6b14a22053e65582c19f3ab910"), looks := false }, kinds := [], alts := [], laidByText := true, laidKinds := [.data, .data, .data, .data, .pinned], laidTests := true, laidLooks := .later }
def FnLockTakesCardSaid : Prop := Claim7.holds Tryz.pinned (.plain (OpenSpec.ofChange fnLockTakesSpec)) fnLockTakesCard

/-- THE TIED CARD OF 'laws.FnExactTakeLock'. -/
def fnExactTakeLockCard : Claim7 := { stood := { row := fnExactTakeLockRow, standIns := [], harness := (true, "1641c09150c12ab0b6e3eecba5ad8d07bea2dc6b14a22053e65582c19f3ab910"), looks := false }, kinds := [], alts := [], laidByText := true, laidKinds := [.data, .data, .data, .data, .pinned], laidTests := true, laidLooks := .later }
def FnExactTakeLockCardSaid : Prop := Claim7.holds Tryz.pinned (.plain (OpenSpec.ofChange fnExactTakeLockSpec)) fnExactTakeLockCard

/-- THE SECOND FORM's CARD OF 'laws.FnLocksBack'. -/
def fnLocksBackUptoCard : Claim7 := { stood := { row := fnLocksBackUptoRow, standIns := [], harness := (true, "1641c09150c12ab0b6e3eecba5ad8d07bea2dc6b14a22053e65582c19f3ab910"), looks := false }, kinds := [], alts := [], laidByText := true, laidKinds := [.data, .data, .data, .data, .pinned], laidTests := true, laidLooks := .later }
def FnLocksBackUptoCardSaid : Prop := Claim7.holds Tryz.pinned (.plain (OpenSpec.upto fnLocksBackSpec)) fnLocksBackUptoCard

/-- THE SECOND FORM's CARD OF 'laws.FnLockTimes'. -/
def fnLockTimesUptoCard : Claim7 := { stood := { row := fnLockTimesUptoRow, standIns := [], harness := (true, "1641c09150c12ab0b6e3eecba5ad8d07bea2dc6b14a22053e65582c19f3ab910"), looks := false }, kinds := [], alts := [], laidByText := true, laidKinds := [.data, .data, .data, .data, .pinned], laidTests := true, laidLooks := .later }
def FnLockTimesUptoCardSaid : Prop := Claim7.holds Tryz.pinned (.plain (OpenSpec.upto fnLockTimesSpec)) fnLockTimesUptoCard

/-- THE SECOND FORM's CARD OF 'laws.FnLockTakes'. -/
def fnLockTakesUptoCard : Claim7 := { stood := { row := fnLockTakesUptoRow, standIns := [], harness := (true, "1641c09150c12ab0b6e3eecba5ad8d07bea2dc6b14a22053e65582c19f3ab910"), looks := false }, kinds := [], alts := [], laidByText := true, laidKinds := [.data, .data, .data, .data, .pinned], laidTests := true, laidLooks := .later }
def FnLockTakesUptoCardSaid : Prop := Claim7.holds Tryz.pinned (.plain (OpenSpec.upto fnLockTakesSpec)) fnLockTakesUptoCard

/-- THE SECOND FORM's CARD OF 'laws.FnExactTakeLock'. -/
def fnExactTakeLockUptoCard : Claim7 := { stood := { row := fnExactTakeLockUptoRow, standIns := [], harness := (true, "1641c09150c12ab0b6e3eecba5ad8d07bea2dc6b14a22053e65582c19f3ab910"), looks := false }, kinds := [], alts := [], laidByText := true, laidKinds := [.data, .data, .data, .data, .pinned], laidTests := true, laidLooks := .later }
def FnExactTakeLockUptoCardSaid : Prop := Claim7.holds Tryz.pinned (.plain (OpenSpec.upto fnExactTakeLockSpec)) fnExactTakeLockUptoCard
end Rows
end Go.Proofs.YtiebcdajoddkpaaGreatDoor
