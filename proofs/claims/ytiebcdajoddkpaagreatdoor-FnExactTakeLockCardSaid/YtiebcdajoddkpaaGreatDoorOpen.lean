/-
  Arguments opened: a slice of strings that came in, as data.
-/
import Derived.Test.YtiebcdajoddkpaaGreatDoorWords
import Derived.ProofKit
import Derived.OpenShut
import Derived.ShutString
import Derived.ChangeOld
import Derived.SliceStrings
import Derived.Lib.SmallJoins
namespace Go.Proofs.YtiebcdajoddkpaaGreatDoor
open Go.ChangeShapes Go.WideShapes Go.ChangeAt Go.RowKit

section
variable {H : Type} {enc : TypeId × Value → H} {P : Program} {w : World} {base : Nat} {spare : Nat → Bool} {held : Bool}
theorem open_strs_in {t e : TypeId} {fuel : Nat} {v : Value} {x : DataW H × List MemPlace} (ht : P.underlying t = some (.slice e)) (he : P.underlying e = some .string) (hc : P.cellsOf e = 1)
    (h : DataW.trod enc P w base spare held fuel t [v] = some x) :
    ∃ (A : Option Addr) (n cap : Nat) (ss : List ByteArray), v = .slice A n cap ∧ Strs w w.heap.size A n ss ∧ (∀ s ∈ ss, s.size ≤ maxLen) ∧ n ≤ maxLen := by
  rcases open_strings ht he hc h with ⟨hcs, _⟩ | ⟨a, len, cap, ss, hcs, _, hl, hm, hz, _, hcell, hws⟩
  · injection hcs with e _
    exact ⟨none, 0, 0, [], e, Strs.zero, (fun s hs => by cases hs), by omega⟩
  · injection hcs with e _
    have hls : len ≤ ss.length := by rw [hz]; split <;> omega
    refine ⟨some a, len, cap, ss.take len, e, ⟨by rw [List.length_take]; omega, fun hp => ?_⟩, fun s hs => hws s (List.mem_of_mem_take hs), by omega⟩
    obtain ⟨b, off, spot⟩ := a
    have h0 := hcell 0 (by omega)
    have hspot : spot = none := by simpa [Addr.add] using World.cell?_spot h0
    subst hspot
    refine ⟨b, off, rfl, World.block_lt_of_cell? w _ (by simpa [Addr.add] using h0), fun j hj => ?_⟩
    have hj' := hcell j (by omega)
    rw [Go.WideShapes.add_plain] at hj'
    rw [hj', List.getD_eq_getElem?_getD, List.getD_eq_getElem?_getD, List.getElem?_take_of_lt hj]
end
end Go.Proofs.YtiebcdajoddkpaaGreatDoor
