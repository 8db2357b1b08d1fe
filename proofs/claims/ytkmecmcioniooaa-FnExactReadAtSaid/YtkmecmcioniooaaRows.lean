/-
  No cell of these rows narrows 'for every input' (looked for: loops, veiled, ifaces, maps, wideKeys, modest, calm, conditions, laid).
  DERIVED. THE GIVEN ROWS OF THIS SEAT. 6 by the template 'for every input the law returns true; each argument reads behind the call as it read before'; 0 by the template 'total and deterministic' (their statements: YtkmecmcioniooaaTotals.lean).
  GIVEN WITH THE SEED: the statements are not yours to turn. If you find one false, say at which input.
  Laid BY PROGRAM, IN A SANDBOX (cutbox-rows.mjs): the forced cells as the released guide's own fill.sh prints them over the translation 7c51d3e15b65239a… (all of the seat's roots in one cut). By AI agents, Wed Nov 11 2026. No macro, syntax, notation, axiom, sorry.
-/
import Derived.Test.YtkmecmcioniooaaChecked
import GoSem.Claim
import GoSem.ClaimJoined
import GoSem.ClaimMapViews
import Derived.JoinedTies
import Derived.KernelRfl
namespace Go.Proofs.Ytkmecmcioniooaa
/- THE CELL 'sum', in the pinned program and in every row, IS THE sha256 OF THE DUMP (.gsa) THAT YtkmecmcioniooaaProg.lean LOADS. Nothing in Lean hashes anything: it is a label: what it is worth is what the hold of that sum in a sandbox is worth. -/
noncomputable def Try.pinned : Pinned := { name := "ytkmecmcioniooaa", sum := "7c51d3e15b65239a3fff534995f6b694a6213c2b69e73ef54adde3b5d06c4657", checked := Try.checked }
namespace Rows
def none {H : Type} : Left H := { results := [], args := [] }

/-- 'laws.FnExactNewDevice': WHATEVER THE INPUT: true; the input reads as it did. -/
def fnExactNewDeviceSpec : ChangeSpec := { name := "fnExactNewDevice", fn := fun _ => fun
  | [] => { results := [.lit (.bool true)], args := [] }
  | _ => none }
def fnExactNewDeviceRow : OpenClaim := { program := "ytkmecmcioniooaa", sum := "7c51d3e15b65239a3fff534995f6b694a6213c2b69e73ef54adde3b5d06c4657", func := "loop.example/g00548/laws.FnExactNewDevice", spec := "fnExactNewDevice", apart := false }
def FnExactNewDeviceSaid : Prop := fnExactNewDeviceRow.holds Try.pinned (OpenSpec.ofChange fnExactNewDeviceSpec)

/-- ITS FALSE NEIGHBOUR: 'it returns false'. Refute it at one input. -/
def fnExactNewDeviceWrong : ChangeSpec := { name := "fnExactNewDevice", fn := fun _ => fun
  | [] => { results := [.lit (.bool false)], args := [] }
  | _ => none }
def FnExactNewDeviceWrongFalsely : Prop := fnExactNewDeviceRow.holds Try.pinned (OpenSpec.ofChange fnExactNewDeviceWrong)

/-- 'laws.FnExactSameDevice': WHATEVER THE INPUT: true; the input reads as it did. -/
def fnExactSameDeviceSpec : ChangeSpec := { name := "fnExactSameDevice", fn := fun _ => fun
  | [d1, d2] => { results := [.lit (.bool true)], args := [d1, d2] }
  | _ => none }
def fnExactSameDeviceRow : OpenClaim := { program := "ytkmecmcioniooaa", sum := "7c51d3e15b65239a3fff534995f6b694a6213c2b69e73ef54adde3b5d06c4657", func := "loop.example/g00548/laws.FnExactSameDevice", spec := "fnExactSameDevice", apart := false }
def FnExactSameDeviceSaid : Prop := fnExactSameDeviceRow.holds Try.pinned (OpenSpec.ofChange fnExactSameDeviceSpec)

/-- ITS FALSE NEIGHBOUR: 'it returns false'. Refute it at one input. -/
def fnExactSameDeviceWrong : ChangeSpec := { name := "fnExactSameDevice", fn := fun _ => fun
  | [d1, d2] => { results := [.lit (.bool false)], args := [d1, d2] }
  | _ => none }
def FnExactSameDeviceWrongFalsely : Prop := fnExactSameDeviceRow.holds Try.pinned (OpenSpec.ofChange fnExactSameDeviceWrong)

/-- 'laws.FnExactDeviceOK': WHATEVER THE INPUT: true; the input reads as it did. -/
def fnExactDeviceOKSpec : ChangeSpec := { name := "fnExactDeviceOK", fn := fun _ => fun
  | [d] => { results := [.lit (.bool true)], args := [d] }
  | _ => none }
def fnExactDeviceOKRow : OpenClaim := { program := "ytkmecmcioniooaa", sum := "7c51d3e15b65239a3fff534995f6b694a6213c2b69e73ef54adde3b5d06c4657", func := "loop.example/g00548/laws.FnExactDeviceOK", spec := "fnExactDeviceOK", unfollowed := true, recurses := true, apart := false }
def FnExactDeviceOKSaid : Prop := fnExactDeviceOKRow.holds Try.pinned (OpenSpec.ofChange fnExactDeviceOKSpec)

/-- ITS FALSE NEIGHBOUR: 'it returns false'. Refute it at one input. -/
def fnExactDeviceOKWrong : ChangeSpec := { name := "fnExactDeviceOK", fn := fun _ => fun
  | [d] => { results := [.lit (.bool false)], args := [d] }
  | _ => none }
def FnExactDeviceOKWrongFalsely : Prop := fnExactDeviceOKRow.holds Try.pinned (OpenSpec.ofChange fnExactDeviceOKWrong)

/-- 'laws.FnExactReadAt': WHATEVER THE INPUT: true; the input reads as it did. -/
def fnExactReadAtSpec : ChangeSpec := { name := "fnExactReadAt", fn := fun _ => fun
  | [d1, d2] => { results := [.lit (.bool true)], args := [d1, d2] }
  | _ => none }
def fnExactReadAtRow : OpenClaim := { program := "ytkmecmcioniooaa", sum := "7c51d3e15b65239a3fff534995f6b694a6213c2b69e73ef54adde3b5d06c4657", func := "loop.example/g00548/laws.FnExactReadAt", spec := "fnExactReadAt", unfollowed := true, recurses := true, apart := false }
def FnExactReadAtSaid : Prop := fnExactReadAtRow.holds Try.pinned (OpenSpec.ofChange fnExactReadAtSpec)

/-- ITS FALSE NEIGHBOUR: 'it returns false'. Refute it at one input. -/
def fnExactReadAtWrong : ChangeSpec := { name := "fnExactReadAt", fn := fun _ => fun
  | [d1, d2] => { results := [.lit (.bool false)], args := [d1, d2] }
  | _ => none }
def FnExactReadAtWrongFalsely : Prop := fnExactReadAtRow.holds Try.pinned (OpenSpec.ofChange fnExactReadAtWrong)

/-- 'laws.FnExactSyncAll': WHATEVER THE INPUT: true; the input reads as it did. -/
def fnExactSyncAllSpec : ChangeSpec := { name := "fnExactSyncAll", fn := fun _ => fun
  | [d] => { results := [.lit (.bool true)], args := [d] }
  | _ => none }
def fnExactSyncAllRow : OpenClaim := { program := "ytkmecmcioniooaa", sum := "7c51d3e15b65239a3fff534995f6b694a6213c2b69e73ef54adde3b5d06c4657", func := "loop.example/g00548/laws.FnExactSyncAll", spec := "fnExactSyncAll", unfollowed := true, recurses := true, apart := false }
def FnExactSyncAllSaid : Prop := fnExactSyncAllRow.holds Try.pinned (OpenSpec.ofChange fnExactSyncAllSpec)

/-- ITS FALSE NEIGHBOUR: 'it returns false'. Refute it at one input. -/
def fnExactSyncAllWrong : ChangeSpec := { name := "fnExactSyncAll", fn := fun _ => fun
  | [d] => { results := [.lit (.bool false)], args := [d] }
  | _ => none }
def FnExactSyncAllWrongFalsely : Prop := fnExactSyncAllRow.holds Try.pinned (OpenSpec.ofChange fnExactSyncAllWrong)

/-- 'laws.FnExactCrashWith': WHATEVER THE INPUT: true; the input reads as it did. -/
def fnExactCrashWithSpec : ChangeSpec := { name := "fnExactCrashWith", fn := fun _ => fun
  | [d1, d2] => { results := [.lit (.bool true)], args := [d1, d2] }
  | _ => none }
def fnExactCrashWithRow : OpenClaim := { program := "ytkmecmcioniooaa", sum := "7c51d3e15b65239a3fff534995f6b694a6213c2b69e73ef54adde3b5d06c4657", func := "loop.example/g00548/laws.FnExactCrashWith", spec := "fnExactCrashWith", unfollowed := true, recurses := true, apart := false }
def FnExactCrashWithSaid : Prop := fnExactCrashWithRow.holds Try.pinned (OpenSpec.ofChange fnExactCrashWithSpec)

/-- ITS FALSE NEIGHBOUR: 'it returns false'. Refute it at one input. -/
def fnExactCrashWithWrong : ChangeSpec := { name := "fnExactCrashWith", fn := fun _ => fun
  | [d1, d2] => { results := [.lit (.bool false)], args := [d1, d2] }
  | _ => none }
def FnExactCrashWithWrongFalsely : Prop := fnExactCrashWithRow.holds Try.pinned (OpenSpec.ofChange fnExactCrashWithWrong)

/- THE SECOND FORM. 'bulk': how many values and letters a reading holds, each counted each time it is reached (what is shared counts as often as it is met; a slice's spare places count too). A statement '..UptoSaid' is the law's where the arguments, and the package variables that the reading takes, are together of bulk at most 1048576: NARROWER than '..Said'. Prove '..Said' where nothing that the law and all that it calls make is longer than what came in: it says more and counts as full. Else prove '..UptoSaid'. A law counts once. -/
mutual
def uptoBulk {H : Type} : DataW H → Nat
  | .lit (.string bytes) => bytes.length + 1
  | .lit _ => 1
  | .nil => 1
  | .ptr d => uptoBulk d + 1
  | .slice elems spare => uptoBulkAll elems + uptoBulkAll spare + 1
  | .agg parts => uptoBulkAll parts + 1
  | .iface _ d => uptoBulk d + 1
  | .map entries => uptoBulkEntries entries + 1
  | .held _ => 1
def uptoBulkAll {H : Type} : List (DataW H) → Nat
  | [] => 0
  | d :: r => uptoBulk d + uptoBulkAll r
def uptoBulkEntries {H : Type} : List (Lit × DataW H) → Nat
  | [] => 0
  | x :: r => uptoBulkEntry x + uptoBulkEntries r
def uptoBulkEntry {H : Type} : Lit × DataW H → Nat
  | (.string bytes, d) => bytes.length + uptoBulk d + 1
  | (_, d) => uptoBulk d + 1
 end
def uptoSmall : (H : Type) → List (DataW H) → Bool := fun _ ds => decide (uptoBulkAll ds ≤ 1048576)
def OpenSpec.upto (s : _root_.Go.ChangeSpec) : _root_.Go.OpenSpec := { _root_.Go.OpenSpec.ofChange s with cond := some uptoSmall }

/-- 'laws.FnExactNewDevice', WHERE WHAT IT READS IS OF BULK AT MOST 1048576: true; the input reads as it did. -/
def fnExactNewDeviceUptoRow : OpenClaim := { program := "ytkmecmcioniooaa", sum := "7c51d3e15b65239a3fff534995f6b694a6213c2b69e73ef54adde3b5d06c4657", func := "loop.example/g00548/laws.FnExactNewDevice", spec := "fnExactNewDevice", apart := false, narrowed := true }
def FnExactNewDeviceUptoSaid : Prop := fnExactNewDeviceUptoRow.holds Try.pinned (OpenSpec.upto fnExactNewDeviceSpec)

/-- 'laws.FnExactSameDevice', WHERE WHAT IT READS IS OF BULK AT MOST 1048576: true; the input reads as it did. -/
def fnExactSameDeviceUptoRow : OpenClaim := { program := "ytkmecmcioniooaa", sum := "7c51d3e15b65239a3fff534995f6b694a6213c2b69e73ef54adde3b5d06c4657", func := "loop.example/g00548/laws.FnExactSameDevice", spec := "fnExactSameDevice", apart := false, narrowed := true }
def FnExactSameDeviceUptoSaid : Prop := fnExactSameDeviceUptoRow.holds Try.pinned (OpenSpec.upto fnExactSameDeviceSpec)

/-- 'laws.FnExactDeviceOK', WHERE WHAT IT READS IS OF BULK AT MOST 1048576: true; the input reads as it did. -/
def fnExactDeviceOKUptoRow : OpenClaim := { program := "ytkmecmcioniooaa", sum := "7c51d3e15b65239a3fff534995f6b694a6213c2b69e73ef54adde3b5d06c4657", func := "loop.example/g00548/laws.FnExactDeviceOK", spec := "fnExactDeviceOK", unfollowed := true, recurses := true, apart := false, narrowed := true }
def FnExactDeviceOKUptoSaid : Prop := fnExactDeviceOKUptoRow.holds Try.pinned (OpenSpec.upto fnExactDeviceOKSpec)

/-- 'laws.FnExactReadAt', WHERE WHAT IT READS IS OF BULK AT MOST 1048576: true; the input reads as it did. -/
def fnExactReadAtUptoRow : OpenClaim := { program := "ytkmecmcioniooaa", sum := "7c51d3e15b65239a3fff534995f6b694a6213c2b69e73ef54adde3b5d06c4657", func := "loop.example/g00548/laws.FnExactReadAt", spec := "fnExactReadAt", unfollowed := true, recurses := true, apart := false, narrowed := true }
def FnExactReadAtUptoSaid : Prop := fnExactReadAtUptoRow.holds Try.pinned (OpenSpec.upto fnExactReadAtSpec)

/-- 'laws.FnExactSyncAll', WHERE WHAT IT READS IS OF BULK AT MOST 1048576: true; the input reads as it did. -/
def fnExactSyncAllUptoRow : OpenClaim := { program := "ytkmecmcioniooaa", sum := "7c51d3e15b65239a3fff534995f6b694a6213c2b69e73ef54adde3b5d06c4657", func := "loop.example/g00548/laws.FnExactSyncAll", spec := "fnExactSyncAll", unfollowed := true, recurses := true, apart := false, narrowed := true }
def FnExactSyncAllUptoSaid : Prop := fnExactSyncAllUptoRow.holds Try.pinned (OpenSpec.upto fnExactSyncAllSpec)

/-- 'laws.FnExactCrashWith', WHERE WHAT IT READS IS OF BULK AT MOST 1048576: true; the input reads as it did. -/
def fnExactCrashWithUptoRow : OpenClaim := { program := "ytkmecmcioniooaa", sum := "7c51d3e15b65239a3fff534995f6b694a6213c2b69e73ef54adde3b5d06c4657", func := "loop.example/g00548/laws.FnExactCrashWith", spec := "fnExactCrashWith", unfollowed := true, recurses := true, apart := false, narrowed := true }
def FnExactCrashWithUptoSaid : Prop := fnExactCrashWithUptoRow.holds Try.pinned (OpenSpec.upto fnExactCrashWithSpec)

end Rows
end Go.Proofs.Ytkmecmcioniooaa
