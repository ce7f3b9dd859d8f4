/-
  DERIVED. GIVEN WITH THE SEED: THE CARDS: each row of YtgmaamnofhmecaaGreatDoorRows.lean that lists a variable, with what it lists TIED to the program's text (the seventh form; the later family's looks); each row that meets fmt, with fmt's text TOLD by the authors' own Lean function (tested against real Go, not proved from fmt's source: count such statements apart). THE CARD IS WHAT COUNTS. Prove the row's statement (the work); the ties are given (YtgmaamnofhmecaaGreatDoorTie.lean); close each card by the builder's one call (the guide's Derived/Test/ToyasCard.lean, 'card_holds'). Laid BY PROGRAM, IN A SANDBOX (cutbox-door.mjs). By AI agents, Wed Nov 11 2026. No macro, syntax, notation, axiom, sorry.
-/
import Derived.Test.YtgmaamnofhmecaaGreatDoorRows
import GoSem.ClaimSeven
namespace Go.Proofs.YtgmaamnofhmecaaGreatDoor
namespace Rows

/-- THE TIED CARD OF 'laws.FnIndexTrue'. -/
def fnIndexTrueCard : Claim7 := { stood := { row := fnIndexTrueRow, standIns := [], harness := (true, "aadd5d36487268ab923bd32fdc20a9c3fa90f02d96607402d82877fec2f3e973"), looks := false }, kinds := [], alts := [], laidByText := true, laidKinds := [.data, .data, .data, .data, .pinned], laidTests := true, laidLooks := .later }
def FnIndexTrueCardSaid : Prop := Claim7.holds Tryz.pinned (.plain (OpenSpec.ofChange fnIndexTrueSpec)) fnIndexTrueCard

/-- THE TIED CARD OF 'laws.FnSerial'. -/
def fnSerialCard : Claim7 := { stood := { row := fnSerialRow, standIns := [], harness := (true, "aadd5d36487268ab923bd32fdc20a9c3fa90f02d96607402d82877fec2f3e973"), looks := false }, kinds := [], alts := [], laidByText := true, laidKinds := [.data, .data, .data, .data, .pinned], laidTests := true, laidLooks := .later }
def FnSerialCardSaid : Prop := Claim7.holds Tryz.pinned (.plain (OpenSpec.ofChange fnSerialSpec)) fnSerialCard

/-- THE TIED CARD OF 'laws.FnSerialBad'. -/
def fnSerialBadCard : Claim7 := { stood := { row := fnSerialBadRow, standIns := [], harness := (true, "aadd5d36487268ab923bd32fdc20a9c3fa90f02d96607402d82877fec2f3e973"), looks := false }, kinds := [], alts := [], laidByText := true, laidKinds := [.data, .data, .data, .data, .pinned], laidTests := true, laidLooks := .later }
def FnSerialBadCardSaid : Prop := Claim7.holds Tryz.pinned (.plain (OpenSpec.ofChange fnSerialBadSpec)) fnSerialBadCard

/-- THE TIED CARD OF 'laws.FnCommitIs'. -/
def fnCommitIsCard : Claim7 := { stood := { row := fnCommitIsRow, standIns := [], harness := (true, "aadd5d36487268ab923bd32fdc20a9c3fa90f02d96607402d82877fec2f3e973"), looks := false }, kinds := [], alts := [], laidByText := true, laidKinds := [.data, .data, .data, .data, .pinned], laidTests := true, laidLooks := .later }
def FnCommitIsCardSaid : Prop := Claim7.holds Tryz.pinned (.plain (OpenSpec.ofChange fnCommitIsSpec)) fnCommitIsCard

/-- THE TIED CARD OF 'laws.FnNested'. -/
def fnNestedCard : Claim7 := { stood := { row := fnNestedRow, standIns := [], harness := (true, "aadd5d36487268ab923bd32fdc20a9c3fa90f02d96607402d82877fec2f3e973"), looks := false }, kinds := [], alts := [], laidByText := true, laidKinds := [.data, .data, .data, .data, .pinned], laidTests := true, laidLooks := .later }
def FnNestedCardSaid : Prop := Claim7.holds Tryz.pinned (.plain (OpenSpec.ofChange fnNestedSpec)) fnNestedCard

/-- THE TIED CARD OF 'laws.FnTransAlone'. -/
def fnTransAloneCard : Claim7 := { stood := { row := fnTransAloneRow, standIns := [], harness := (true, "aadd5d36487268ab923bd32fdc20a9c3fa90f02d96607402d82877fec2f3e973"), looks := false }, kinds := [], alts := [], laidByText := true, laidKinds := [.data, .data, .data, .data, .pinned], laidTests := true, laidLooks := .later }
def FnTransAloneCardSaid : Prop := Claim7.holds Tryz.pinned (.plain (OpenSpec.ofChange fnTransAloneSpec)) fnTransAloneCard

/-- THE TIED CARD OF 'laws.FnTransView'. -/
def fnTransViewCard : Claim7 := { stood := { row := fnTransViewRow, standIns := [], harness := (true, "aadd5d36487268ab923bd32fdc20a9c3fa90f02d96607402d82877fec2f3e973"), looks := false }, kinds := [], alts := [], laidByText := true, laidKinds := [.data, .data, .data, .data, .pinned], laidTests := true, laidLooks := .later }
def FnTransViewCardSaid : Prop := Claim7.holds Tryz.pinned (.plain (OpenSpec.ofChange fnTransViewSpec)) fnTransViewCard

/-- THE SECOND FORM's CARD OF 'laws.FnIndexTrue'. -/
def fnIndexTrueUptoCard : Claim7 := { stood := { row := fnIndexTrueUptoRow, standIns := [], harness := (true, "aadd5d36487268ab923bd32fdc20a9c3fa90f02d96607402d82877fec2f3e973"), looks := false }, kinds := [], alts := [], laidByText := true, laidKinds := [.data, .data, .data, .data, .pinned], laidTests := true, laidLooks := .later }
def FnIndexTrueUptoCardSaid : Prop := Claim7.holds Tryz.pinned (.plain (OpenSpec.upto fnIndexTrueSpec)) fnIndexTrueUptoCard

/-- THE SECOND FORM's CARD OF 'laws.FnSerial'. -/
def fnSerialUptoCard : Claim7 := { stood := { row := fnSerialUptoRow, standIns := [], harness := (true, "aadd5d36487268ab923bd32fdc20a9c3fa90f02d96607402d82877fec2f3e973"), looks := false }, kinds := [], alts := [], laidByText := true, laidKinds := [.data, .data, .data, .data, .pinned], laidTests := true, laidLooks := .later }
def FnSerialUptoCardSaid : Prop := Claim7.holds Tryz.pinned (.plain (OpenSpec.upto fnSerialSpec)) fnSerialUptoCard

/-- THE SECOND FORM's CARD OF 'laws.FnSerialBad'. -/
def fnSerialBadUptoCard : Claim7 := { stood := { row := fnSerialBadUptoRow, standIns := [], harness := (true, "aadd5d36487268ab923bd32fdc20a9c3fa90f02d96607402d82877fec2f3e973"), looks := false }, kinds := [], alts := [], laidByText := true, laidKinds := [.data, .data, .data, .data, .pinned], laidTests := true, laidLooks := .later }
def FnSerialBadUptoCardSaid : Prop := Claim7.holds Tryz.pinned (.plain (OpenSpec.upto fnSerialBadSpec)) fnSerialBadUptoCard

/-- THE SECOND FORM's CARD OF 'laws.FnCommitIs'. -/
def fnCommitIsUptoCard : Claim7 := { stood := { row := fnCommitIsUptoRow, standIns := [], harness := (true, "aadd5d36487268ab923bd32fdc20a9c3fa90f02d96607402d82877fec2f3e973"), looks := false }, kinds := [], alts := [], laidByText := true, laidKinds := [.data, .data, .data, .data, .pinned], laidTests := true, laidLooks := .later }
def FnCommitIsUptoCardSaid : Prop := Claim7.holds Tryz.pinned (.plain (OpenSpec.upto fnCommitIsSpec)) fnCommitIsUptoCard

/-- THE SECOND FORM's CARD OF 'laws.FnNested'. -/
def fnNestedUptoCard : Claim7 := { stood := { row := fnNestedUptoRow, standIns := [], harness := (true, "aadd5d36487268ab923bd32fdc20a9c3fa90f02d96607402d82877fec2f3e973"), looks := false }, kinds := [], alts := [], laidByText := true, laidKinds := [.data, .data, .data, .data, .pinned], laidTests := true, laidLooks := .later }
def FnNestedUptoCardSaid : Prop := Claim7.holds Tryz.pinned (.plain (OpenSpec.upto fnNestedSpec)) fnNestedUptoCard

/-- THE SECOND FORM's CARD OF 'laws.FnTransAlone'. -/
def fnTransAloneUptoCard : Claim7 := { stood := { row := fnTransAloneUptoRow, standIns := [], harness := (true, "aadd5d36487268ab923bd32fdc20a9c3fa90f02d96607402d82877fec2f3e973"), looks := false }, kinds := [], alts := [], laidByText := true, laidKinds := [.data, .data, .data, .data, .pinned], laidTests := true, laidLooks := .later }
def FnTransAloneUptoCardSaid : Prop := Claim7.holds Tryz.pinned (.plain (OpenSpec.upto fnTransAloneSpec)) fnTransAloneUptoCard

/-- THE SECOND FORM's CARD OF 'laws.FnTransView'. -/
def fnTransViewUptoCard : Claim7 := { stood := { row := fnTransViewUptoRow, standIns := [], harness := (true, "aadd5d36487268ab923bd32fdc20a9c3fa90f02d96607402d82877fec2f3e973"), looks := false }, kinds := [], alts := [], laidByText := true, laidKinds := [.data, .data, .data, .data, .pinned], laidTests := true, laidLooks := .later }
def FnTransViewUptoCardSaid : Prop := Claim7.holds Tryz.pinned (.plain (OpenSpec.upto fnTransViewSpec)) fnTransViewUptoCard
end Rows
end Go.Proofs.YtgmaamnofhmecaaGreatDoor
