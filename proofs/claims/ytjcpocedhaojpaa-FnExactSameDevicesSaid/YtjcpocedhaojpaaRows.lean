/-
  No cell of these rows narrows 'for every input' (looked for: loops, veiled, ifaces, maps, wideKeys, modest, calm, conditions, laid).
  DERIVED. THE GIVEN ROWS OF THIS SEAT. 4 by the template 'for every input the law returns true; each argument reads behind the call as it read before'; 0 by the template 'total and deterministic' (their statements: YtjcpocedhaojpaaTotals.lean).
  GIVEN WITH THE SEED: the statements are not yours to turn. If you find one false, say at which input.
  Laid BY PROGRAM, IN A SANDBOX (cutbox-rows.mjs): the forced cells as the released guide's own fill.sh prints them over the translation ab02ee9ae876bfc3… (all of the seat's roots in one cut). By AI agents, Wed Nov 11 2026. No macro, syntax, notation, axiom, sorry.
-/
import Derived.Test.YtjcpocedhaojpaaChecked
import GoSem.Claim
import GoSem.ClaimJoined
import GoSem.ClaimMapViews
import Derived.JoinedTies
import Derived.KernelRfl
namespace Go.Proofs.Ytjcpocedhaojpaa
/- THE CELL 'sum', in the pinned program and in every row, IS THE sha256 OF THE DUMP (.gsa) THAT YtjcpocedhaojpaaProg.lean LOADS. Nothing in Lean hashes anything: it is a label: what it is worth is what the hold of that sum in a sandbox is worth. -/
noncomputable def Try.pinned : Pinned := { name := "ytjcpocedhaojpaa", sum := "ab02ee9ae876bfc3273ee150f7a153c0db21a57ce3dd96c588656543848ef3ec", checked := Try.checked }
namespace Rows
def none {H : Type} : Left H := { results := [], args := [] }

/-- 'laws.FnExactScreenOk': WHATEVER THE INPUT: true; the input reads as it did. -/
def fnExactScreenOkSpec : ChangeSpec := { name := "fnExactScreenOk", fn := fun _ => fun
  | [d] => { results := [.lit (.bool true)], args := [d] }
  | _ => none }
def fnExactScreenOkRow : OpenClaim := { program := "ytjcpocedhaojpaa", sum := "ab02ee9ae876bfc3273ee150f7a153c0db21a57ce3dd96c588656543848ef3ec", func := "loop.example/g00874/laws.FnExactScreenOk", spec := "fnExactScreenOk", unfollowed := true, recurses := true, apart := false }
def FnExactScreenOkSaid : Prop := fnExactScreenOkRow.holds Try.pinned (OpenSpec.ofChange fnExactScreenOkSpec)

/-- ITS FALSE NEIGHBOUR: 'it returns false'. Refute it at one input. -/
def fnExactScreenOkWrong : ChangeSpec := { name := "fnExactScreenOk", fn := fun _ => fun
  | [d] => { results := [.lit (.bool false)], args := [d] }
  | _ => none }
def FnExactScreenOkWrongFalsely : Prop := fnExactScreenOkRow.holds Try.pinned (OpenSpec.ofChange fnExactScreenOkWrong)

/-- 'laws.FnExactPadded': WHATEVER THE INPUT: true; the input reads as it did. -/
def fnExactPaddedSpec : ChangeSpec := { name := "fnExactPadded", fn := fun _ => fun
  | [d1, d2] => { results := [.lit (.bool true)], args := [d1, d2] }
  | _ => none }
def fnExactPaddedRow : OpenClaim := { program := "ytjcpocedhaojpaa", sum := "ab02ee9ae876bfc3273ee150f7a153c0db21a57ce3dd96c588656543848ef3ec", func := "loop.example/g00874/laws.FnExactPadded", spec := "fnExactPadded", inPlace := ["internal/abi.NoEscape", "internal/bytealg.MakeNoZero"], apart := false }
def FnExactPaddedSaid : Prop := fnExactPaddedRow.holds Try.pinned (OpenSpec.ofChange fnExactPaddedSpec)

/-- ITS FALSE NEIGHBOUR: 'it returns false'. Refute it at one input. -/
def fnExactPaddedWrong : ChangeSpec := { name := "fnExactPadded", fn := fun _ => fun
  | [d1, d2] => { results := [.lit (.bool false)], args := [d1, d2] }
  | _ => none }
def FnExactPaddedWrongFalsely : Prop := fnExactPaddedRow.holds Try.pinned (OpenSpec.ofChange fnExactPaddedWrong)

/-- 'laws.FnExactSameDevices': WHATEVER THE INPUT: true; the input reads as it did. -/
def fnExactSameDevicesSpec : ChangeSpec := { name := "fnExactSameDevices", fn := fun _ => fun
  | [d1, d2] => { results := [.lit (.bool true)], args := [d1, d2] }
  | _ => none }
def fnExactSameDevicesRow : OpenClaim := { program := "ytjcpocedhaojpaa", sum := "ab02ee9ae876bfc3273ee150f7a153c0db21a57ce3dd96c588656543848ef3ec", func := "loop.example/g00874/laws.FnExactSameDevices", spec := "fnExactSameDevices", unfollowed := true, recurses := true, apart := false }
def FnExactSameDevicesSaid : Prop := fnExactSameDevicesRow.holds Try.pinned (OpenSpec.ofChange fnExactSameDevicesSpec)

/-- ITS FALSE NEIGHBOUR: 'it returns false'. Refute it at one input. -/
def fnExactSameDevicesWrong : ChangeSpec := { name := "fnExactSameDevices", fn := fun _ => fun
  | [d1, d2] => { results := [.lit (.bool false)], args := [d1, d2] }
  | _ => none }
def FnExactSameDevicesWrongFalsely : Prop := fnExactSameDevicesRow.holds Try.pinned (OpenSpec.ofChange fnExactSameDevicesWrong)

/-- 'laws.FnExactNewScreen': WHATEVER THE INPUT: true; the input reads as it did. -/
def fnExactNewScreenSpec : ChangeSpec := { name := "fnExactNewScreen", fn := fun _ => fun
  | [] => { results := [.lit (.bool true)], args := [] }
  | _ => none }
def fnExactNewScreenRow : OpenClaim := { program := "ytjcpocedhaojpaa", sum := "ab02ee9ae876bfc3273ee150f7a153c0db21a57ce3dd96c588656543848ef3ec", func := "loop.example/g00874/laws.FnExactNewScreen", spec := "fnExactNewScreen", inPlace := ["internal/abi.NoEscape", "internal/bytealg.MakeNoZero"], apart := false }
def FnExactNewScreenSaid : Prop := fnExactNewScreenRow.holds Try.pinned (OpenSpec.ofChange fnExactNewScreenSpec)

/-- ITS FALSE NEIGHBOUR: 'it returns false'. Refute it at one input. -/
def fnExactNewScreenWrong : ChangeSpec := { name := "fnExactNewScreen", fn := fun _ => fun
  | [] => { results := [.lit (.bool false)], args := [] }
  | _ => none }
def FnExactNewScreenWrongFalsely : Prop := fnExactNewScreenRow.holds Try.pinned (OpenSpec.ofChange fnExactNewScreenWrong)

/- THE SECOND FORM. 'bulk': how many values and letters a reading holds, each counted each time it is reached (what is shared counts as often as it is met; a slice's spare places count too). A statement '..UptoSaid' is the law's where the arguments, and the package variables that the reading takes, are together of bulk at most 1048576: NARROWER than '..Said'. Prove '..Said' where nothing that the law and all that it calls make is longer than what came in: it says more and counts as full. Else prove '..UptoSaid'. A law counts once. -/
mutual
def uptoBulk {H : Type} : DataW H → Nat
  | .lit (.string bytes) => bytes.length + 1
  | .lit _ => 1
  | .nil => 1
  | .ptr d => uptoBulk d + 1
  | .slice elems spare => uptoBulkAll elems + uptoBulkAll spare + 1
  | .agg parts => uptoBulkAll parts + 1
  | .iface _ d => uptoBulk d + 1
  | .map entries => uptoBulkEntries entries + 1
  | .held _ => 1
def uptoBulkAll {H : Type} : List (DataW H) → Nat
  | [] => 0
  | d :: r => uptoBulk d + uptoBulkAll r
def uptoBulkEntries {H : Type} : List (Lit × DataW H) → Nat
  | [] => 0
  | x :: r => uptoBulkEntry x + uptoBulkEntries r
def uptoBulkEntry {H : Type} : Lit × DataW H → Nat
  | (.string bytes, d) => bytes.length + uptoBulk d + 1
  | (_, d) => uptoBulk d + 1
 end
def uptoSmall : (H : Type) → List (DataW H) → Bool := fun _ ds => decide (uptoBulkAll ds ≤ 1048576)
def OpenSpec.upto (s : _root_.Go.ChangeSpec) : _root_.Go.OpenSpec := { _root_.Go.OpenSpec.ofChange s with cond := some uptoSmall }

/-- 'laws.FnExactScreenOk', WHERE WHAT IT READS IS OF BULK AT MOST 1048576: true; the input reads as it did. -/
def fnExactScreenOkUptoRow : OpenClaim := { program := "ytjcpocedhaojpaa", sum := "ab02ee9ae876bfc3273ee150f7a153c0db21a57ce3dd96c588656543848ef3ec", func := "loop.example/g00874/laws.FnExactScreenOk", spec := "fnExactScreenOk", unfollowed := true, recurses := true, apart := false, narrowed := true }
def FnExactScreenOkUptoSaid : Prop := fnExactScreenOkUptoRow.holds Try.pinned (OpenSpec.upto fnExactScreenOkSpec)

/-- 'laws.FnExactPadded', WHERE WHAT IT READS IS OF BULK AT MOST 1048576: true; the input reads as it did. -/
def fnExactPaddedUptoRow : OpenClaim := { program := "ytjcpocedhaojpaa", sum := "ab02ee9ae876bfc3273ee150f7a153c0db21a57ce3dd96c588656543848ef3ec", func := "loop.example/g00874/laws.FnExactPadded", spec := "fnExactPadded", inPlace := ["internal/abi.NoEscape", "internal/bytealg.MakeNoZero"], apart := false, narrowed := true }
def FnExactPaddedUptoSaid : Prop := fnExactPaddedUptoRow.holds Try.pinned (OpenSpec.upto fnExactPaddedSpec)

/-- 'laws.FnExactSameDevices', WHERE WHAT IT READS IS OF BULK AT MOST 1048576: true; the input reads as it did. -/
def fnExactSameDevicesUptoRow : OpenClaim := { program := "ytjcpocedhaojpaa", sum := "ab02ee9ae876bfc3273ee150f7a153c0db21a57ce3dd96c588656543848ef3ec", func := "loop.example/g00874/laws.FnExactSameDevices", spec := "fnExactSameDevices", unfollowed := true, recurses := true, apart := false, narrowed := true }
def FnExactSameDevicesUptoSaid : Prop := fnExactSameDevicesUptoRow.holds Try.pinned (OpenSpec.upto fnExactSameDevicesSpec)

/-- 'laws.FnExactNewScreen', WHERE WHAT IT READS IS OF BULK AT MOST 1048576: true; the input reads as it did. -/
def fnExactNewScreenUptoRow : OpenClaim := { program := "ytjcpocedhaojpaa", sum := "ab02ee9ae876bfc3273ee150f7a153c0db21a57ce3dd96c588656543848ef3ec", func := "loop.example/g00874/laws.FnExactNewScreen", spec := "fnExactNewScreen", inPlace := ["internal/abi.NoEscape", "internal/bytealg.MakeNoZero"], apart := false, narrowed := true }
def FnExactNewScreenUptoSaid : Prop := fnExactNewScreenUptoRow.holds Try.pinned (OpenSpec.upto fnExactNewScreenSpec)

end Rows
end Go.Proofs.Ytjcpocedhaojpaa
