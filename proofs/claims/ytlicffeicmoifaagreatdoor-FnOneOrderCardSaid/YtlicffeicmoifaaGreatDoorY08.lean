/-
  The closed facts of FnOneOrder's row that walk over the whole program, each a declaration of its own.
-/
import Derived.Test.YtlicffeicmoifaaGreatDoorCards
import Derived.Test.YtlicffeicmoifaaGreatDoorTie
import Derived.ProofKit
import Derived.OpenShut
set_option linter.unusedSimpArgs false
namespace Go.Proofs.YtlicffeicmoifaaGreatDoor.fnOneOrder
open Go.RowKit
theorem hw_ : Rows.fnOneOrderRow.wfByText (OpenSpec.ofChange Rows.fnOneOrderSpec) = true := by kernel_rfl
theorem hg_ : false = Rows.fnOneOrderRow.goesBy Tryz.pinned.checked.prog := by kernel_rfl
end Go.Proofs.YtlicffeicmoifaaGreatDoor.fnOneOrder
