/-
 FnOneOrder returns true at all bytes, and leaves them as they were: the given card. No condition but the row's own list of Go's tables, which the card ties.
-/
import Derived.Test.YtlicffeicmoifaaGreatDoorY07
import Derived.Test.YtlicffeicmoifaaGreatDoorY08
import Derived.Test.YtlicffeicmoifaaGreatDoorCards
import Derived.Test.YtlicffeicmoifaaGreatDoorTie
import Derived.ProofKit
import Derived.OpenShut
import Derived.Deep.DeepHandedRow
import Derived.Lib.LaidTab
import Derived.Lay
import Derived.LaidSub
import Derived.Lib.SmallJoins
set_option linter.unusedSimpArgs false
namespace Go.Proofs.YtlicffeicmoifaaGreatDoor.fnOneOrder
open Go.ChangeShapes Go.WideShapes Go.ChangeAt Go.RowKit Go.Joins
theorem proved : Rows.FnOneOrderCardSaid :=
 Claim7.holds_tied_plain_at .later [] _ _ _ _ said (fun _ h => by cases h) hw_ (fun _ h => by cases h) fnOneOrder_row_tie rfl ⟨rfl, rfl⟩ (by kernel_rfl) rfl plain hg_
end Go.Proofs.YtlicffeicmoifaaGreatDoor.fnOneOrder
