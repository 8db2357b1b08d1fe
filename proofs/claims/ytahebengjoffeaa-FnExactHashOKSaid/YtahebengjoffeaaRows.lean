/-
  No cell of these rows narrows 'for every input' (looked for: loops, veiled, ifaces, maps, wideKeys, modest, calm, conditions, laid).
  DERIVED. THE GIVEN ROWS OF THIS SEAT. 12 by the template 'for every input the law returns true; each argument reads behind the call as it read before'; 0 by the template 'total and deterministic' (their statements: YtahebengjoffeaaTotals.lean).
  GIVEN WITH THE SEED: the statements are not yours to turn. If you find one false, say at which input.
  Laid BY PROGRAM, IN A SANDBOX (cutbox-rows.mjs): the forced cells as the released guide's own fill.sh prints them over the translation 4d72d47707b14ae4… (all of the seat's roots in one cut). By AI agents, Wed Nov 11 2026. No macro, syntax, notation, axiom, sorry.
-/
import Derived.Test.YtahebengjoffeaaChecked
import GoSem.Claim
import GoSem.ClaimJoined
import GoSem.ClaimMapViews
import Derived.JoinedTies
import Derived.KernelRfl
namespace Go.Proofs.Ytahebengjoffeaa
/- THE CELL 'sum', in the pinned program and in every row, IS THE sha256 OF THE DUMP (.gsa) THAT YtahebengjoffeaaProg.lean LOADS. Nothing in Lean hashes anything: it is a label: what it is worth is what the hold of that sum in a sandbox is worth. -/
noncomputable def Try.pinned : Pinned := { name := "ytahebengjoffeaa", sum := "4d72d47707b14ae415c0f23bd21c94a73afeb4108c6b8a199d7a68cd80f6d5c8", checked := Try.checked }
namespace Rows
def none {H : Type} : Left H := { results := [], args := [] }

/-- 'laws.FnExactConstants': WHATEVER THE INPUT: true; the input reads as it did. -/
def fnExactConstantsSpec : ChangeSpec := { name := "fnExactConstants", fn := fun _ => fun
  | [] => { results := [.lit (.bool true)], args := [] }
  | _ => none }
def fnExactConstantsRow : OpenClaim := { program := "ytahebengjoffeaa", sum := "4d72d47707b14ae415c0f23bd21c94a73afeb4108c6b8a199d7a68cd80f6d5c8", func := "loop.example/g00548/laws.FnExactConstants", spec := "fnExactConstants", apart := false }
def FnExactConstantsSaid : Prop := fnExactConstantsRow.holds Try.pinned (OpenSpec.ofChange fnExactConstantsSpec)

/-- ITS FALSE NEIGHBOUR: 'it returns false'. Refute it at one input. -/
def fnExactConstantsWrong : ChangeSpec := { name := "fnExactConstants", fn := fun _ => fun
  | [] => { results := [.lit (.bool false)], args := [] }
  | _ => none }
def FnExactConstantsWrongFalsely : Prop := fnExactConstantsRow.holds Try.pinned (OpenSpec.ofChange fnExactConstantsWrong)

/-- 'laws.FnExactCodeWord': WHATEVER THE INPUT: true; the input reads as it did. -/
def fnExactCodeWordSpec : ChangeSpec := { name := "fnExactCodeWord", fn := fun _ => fun
  | [d] => { results := [.lit (.bool true)], args := [d] }
  | _ => none }
def fnExactCodeWordRow : OpenClaim := { program := "ytahebengjoffeaa", sum := "4d72d47707b14ae415c0f23bd21c94a73afeb4108c6b8a199d7a68cd80f6d5c8", func := "loop.example/g00548/laws.FnExactCodeWord", spec := "fnExactCodeWord", apart := false }
def FnExactCodeWordSaid : Prop := fnExactCodeWordRow.holds Try.pinned (OpenSpec.ofChange fnExactCodeWordSpec)

/-- ITS FALSE NEIGHBOUR: 'it returns false'. Refute it at one input. -/
def fnExactCodeWordWrong : ChangeSpec := { name := "fnExactCodeWord", fn := fun _ => fun
  | [d] => { results := [.lit (.bool false)], args := [d] }
  | _ => none }
def FnExactCodeWordWrongFalsely : Prop := fnExactCodeWordRow.holds Try.pinned (OpenSpec.ofChange fnExactCodeWordWrong)

/-- 'laws.FnExactCodeOf': WHATEVER THE INPUT: true; the input reads as it did. -/
def fnExactCodeOfSpec : ChangeSpec := { name := "fnExactCodeOf", fn := fun _ => fun
  | [d] => { results := [.lit (.bool true)], args := [d] }
  | _ => none }
def fnExactCodeOfRow : OpenClaim := { program := "ytahebengjoffeaa", sum := "4d72d47707b14ae415c0f23bd21c94a73afeb4108c6b8a199d7a68cd80f6d5c8", func := "loop.example/g00548/laws.FnExactCodeOf", spec := "fnExactCodeOf", apart := false }
def FnExactCodeOfSaid : Prop := fnExactCodeOfRow.holds Try.pinned (OpenSpec.ofChange fnExactCodeOfSpec)

/-- ITS FALSE NEIGHBOUR: 'it returns false'. Refute it at one input. -/
def fnExactCodeOfWrong : ChangeSpec := { name := "fnExactCodeOf", fn := fun _ => fun
  | [d] => { results := [.lit (.bool false)], args := [d] }
  | _ => none }
def FnExactCodeOfWrongFalsely : Prop := fnExactCodeOfRow.holds Try.pinned (OpenSpec.ofChange fnExactCodeOfWrong)

/-- 'laws.FnExactNewHash': WHATEVER THE INPUT: true; the input reads as it did. -/
def fnExactNewHashSpec : ChangeSpec := { name := "fnExactNewHash", fn := fun _ => fun
  | [] => { results := [.lit (.bool true)], args := [] }
  | _ => none }
def fnExactNewHashRow : OpenClaim := { program := "ytahebengjoffeaa", sum := "4d72d47707b14ae415c0f23bd21c94a73afeb4108c6b8a199d7a68cd80f6d5c8", func := "loop.example/g00548/laws.FnExactNewHash", spec := "fnExactNewHash", apart := false }
def FnExactNewHashSaid : Prop := fnExactNewHashRow.holds Try.pinned (OpenSpec.ofChange fnExactNewHashSpec)

/-- ITS FALSE NEIGHBOUR: 'it returns false'. Refute it at one input. -/
def fnExactNewHashWrong : ChangeSpec := { name := "fnExactNewHash", fn := fun _ => fun
  | [] => { results := [.lit (.bool false)], args := [] }
  | _ => none }
def FnExactNewHashWrongFalsely : Prop := fnExactNewHashRow.holds Try.pinned (OpenSpec.ofChange fnExactNewHashWrong)

/-- 'laws.FnExactTagEqual': WHATEVER THE INPUT: true; the input reads as it did. -/
def fnExactTagEqualSpec : ChangeSpec := { name := "fnExactTagEqual", fn := fun _ => fun
  | [d1, d2] => { results := [.lit (.bool true)], args := [d1, d2] }
  | _ => none }
def fnExactTagEqualRow : OpenClaim := { program := "ytahebengjoffeaa", sum := "4d72d47707b14ae415c0f23bd21c94a73afeb4108c6b8a199d7a68cd80f6d5c8", func := "loop.example/g00548/laws.FnExactTagEqual", spec := "fnExactTagEqual", unfollowed := true, recurses := true, apart := false }
def FnExactTagEqualSaid : Prop := fnExactTagEqualRow.holds Try.pinned (OpenSpec.ofChange fnExactTagEqualSpec)

/-- ITS FALSE NEIGHBOUR: 'it returns false'. Refute it at one input. -/
def fnExactTagEqualWrong : ChangeSpec := { name := "fnExactTagEqual", fn := fun _ => fun
  | [d1, d2] => { results := [.lit (.bool false)], args := [d1, d2] }
  | _ => none }
def FnExactTagEqualWrongFalsely : Prop := fnExactTagEqualRow.holds Try.pinned (OpenSpec.ofChange fnExactTagEqualWrong)

/-- 'laws.FnExactNameOK': WHATEVER THE INPUT: true; the input reads as it did. -/
def fnExactNameOKSpec : ChangeSpec := { name := "fnExactNameOK", fn := fun _ => fun
  | [d] => { results := [.lit (.bool true)], args := [d] }
  | _ => none }
def fnExactNameOKRow : OpenClaim := { program := "ytahebengjoffeaa", sum := "4d72d47707b14ae415c0f23bd21c94a73afeb4108c6b8a199d7a68cd80f6d5c8", func := "loop.example/g00548/laws.FnExactNameOK", spec := "fnExactNameOK", unfollowed := true, recurses := true, apart := false }
def FnExactNameOKSaid : Prop := fnExactNameOKRow.holds Try.pinned (OpenSpec.ofChange fnExactNameOKSpec)

/-- ITS FALSE NEIGHBOUR: 'it returns false'. Refute it at one input. -/
def fnExactNameOKWrong : ChangeSpec := { name := "fnExactNameOK", fn := fun _ => fun
  | [d] => { results := [.lit (.bool false)], args := [d] }
  | _ => none }
def FnExactNameOKWrongFalsely : Prop := fnExactNameOKRow.holds Try.pinned (OpenSpec.ofChange fnExactNameOKWrong)

/-- 'laws.FnExactHexOf': WHATEVER THE INPUT: true; the input reads as it did. -/
def fnExactHexOfSpec : ChangeSpec := { name := "fnExactHexOf", fn := fun _ => fun
  | [d] => { results := [.lit (.bool true)], args := [d] }
  | _ => none }
def fnExactHexOfRow : OpenClaim := { program := "ytahebengjoffeaa", sum := "4d72d47707b14ae415c0f23bd21c94a73afeb4108c6b8a199d7a68cd80f6d5c8", func := "loop.example/g00548/laws.FnExactHexOf", spec := "fnExactHexOf", unfollowed := true, recurses := true, apart := false }
def FnExactHexOfSaid : Prop := fnExactHexOfRow.holds Try.pinned (OpenSpec.ofChange fnExactHexOfSpec)

/-- ITS FALSE NEIGHBOUR: 'it returns false'. Refute it at one input. -/
def fnExactHexOfWrong : ChangeSpec := { name := "fnExactHexOf", fn := fun _ => fun
  | [d] => { results := [.lit (.bool false)], args := [d] }
  | _ => none }
def FnExactHexOfWrongFalsely : Prop := fnExactHexOfRow.holds Try.pinned (OpenSpec.ofChange fnExactHexOfWrong)

/-- 'laws.FnExactUnHex': WHATEVER THE INPUT: true; the input reads as it did. -/
def fnExactUnHexSpec : ChangeSpec := { name := "fnExactUnHex", fn := fun _ => fun
  | [d] => { results := [.lit (.bool true)], args := [d] }
  | _ => none }
def fnExactUnHexRow : OpenClaim := { program := "ytahebengjoffeaa", sum := "4d72d47707b14ae415c0f23bd21c94a73afeb4108c6b8a199d7a68cd80f6d5c8", func := "loop.example/g00548/laws.FnExactUnHex", spec := "fnExactUnHex", inPlace := ["internal/bytealg.IndexByteString"], unfollowed := true, recurses := true, apart := false }
def FnExactUnHexSaid : Prop := fnExactUnHexRow.holds Try.pinned (OpenSpec.ofChange fnExactUnHexSpec)

/-- ITS FALSE NEIGHBOUR: 'it returns false'. Refute it at one input. -/
def fnExactUnHexWrong : ChangeSpec := { name := "fnExactUnHex", fn := fun _ => fun
  | [d] => { results := [.lit (.bool false)], args := [d] }
  | _ => none }
def FnExactUnHexWrongFalsely : Prop := fnExactUnHexRow.holds Try.pinned (OpenSpec.ofChange fnExactUnHexWrong)

/-- 'laws.FnExactXorOf': WHATEVER THE INPUT: true; the input reads as it did. -/
def fnExactXorOfSpec : ChangeSpec := { name := "fnExactXorOf", fn := fun _ => fun
  | [d1, d2] => { results := [.lit (.bool true)], args := [d1, d2] }
  | _ => none }
def fnExactXorOfRow : OpenClaim := { program := "ytahebengjoffeaa", sum := "4d72d47707b14ae415c0f23bd21c94a73afeb4108c6b8a199d7a68cd80f6d5c8", func := "loop.example/g00548/laws.FnExactXorOf", spec := "fnExactXorOf", unfollowed := true, recurses := true, apart := false }
def FnExactXorOfSaid : Prop := fnExactXorOfRow.holds Try.pinned (OpenSpec.ofChange fnExactXorOfSpec)

/-- ITS FALSE NEIGHBOUR: 'it returns false'. Refute it at one input. -/
def fnExactXorOfWrong : ChangeSpec := { name := "fnExactXorOf", fn := fun _ => fun
  | [d1, d2] => { results := [.lit (.bool false)], args := [d1, d2] }
  | _ => none }
def FnExactXorOfWrongFalsely : Prop := fnExactXorOfRow.holds Try.pinned (OpenSpec.ofChange fnExactXorOfWrong)

/-- 'laws.FnExactHashOK': WHATEVER THE INPUT: true; the input reads as it did. -/
def fnExactHashOKSpec : ChangeSpec := { name := "fnExactHashOK", fn := fun _ => fun
  | [d] => { results := [.lit (.bool true)], args := [d] }
  | _ => none }
def fnExactHashOKRow : OpenClaim := { program := "ytahebengjoffeaa", sum := "4d72d47707b14ae415c0f23bd21c94a73afeb4108c6b8a199d7a68cd80f6d5c8", func := "loop.example/g00548/laws.FnExactHashOK", spec := "fnExactHashOK", unfollowed := true, recurses := true, apart := false }
def FnExactHashOKSaid : Prop := fnExactHashOKRow.holds Try.pinned (OpenSpec.ofChange fnExactHashOKSpec)

/-- ITS FALSE NEIGHBOUR: 'it returns false'. Refute it at one input. -/
def fnExactHashOKWrong : ChangeSpec := { name := "fnExactHashOK", fn := fun _ => fun
  | [d] => { results := [.lit (.bool false)], args := [d] }
  | _ => none }
def FnExactHashOKWrongFalsely : Prop := fnExactHashOKRow.holds Try.pinned (OpenSpec.ofChange fnExactHashOKWrong)

/-- 'laws.FnExactClampKey': WHATEVER THE INPUT: true; the input reads as it did. -/
def fnExactClampKeySpec : ChangeSpec := { name := "fnExactClampKey", fn := fun _ => fun
  | [d] => { results := [.lit (.bool true)], args := [d] }
  | _ => none }
def fnExactClampKeyRow : OpenClaim := { program := "ytahebengjoffeaa", sum := "4d72d47707b14ae415c0f23bd21c94a73afeb4108c6b8a199d7a68cd80f6d5c8", func := "loop.example/g00548/laws.FnExactClampKey", spec := "fnExactClampKey", unfollowed := true, recurses := true, apart := false }
def FnExactClampKeySaid : Prop := fnExactClampKeyRow.holds Try.pinned (OpenSpec.ofChange fnExactClampKeySpec)

/-- ITS FALSE NEIGHBOUR: 'it returns false'. Refute it at one input. -/
def fnExactClampKeyWrong : ChangeSpec := { name := "fnExactClampKey", fn := fun _ => fun
  | [d] => { results := [.lit (.bool false)], args := [d] }
  | _ => none }
def FnExactClampKeyWrongFalsely : Prop := fnExactClampKeyRow.holds Try.pinned (OpenSpec.ofChange fnExactClampKeyWrong)

/-- 'laws.FnExactNonceOf': WHATEVER THE INPUT: true; the input reads as it did. -/
def fnExactNonceOfSpec : ChangeSpec := { name := "fnExactNonceOf", fn := fun _ => fun
  | [d1, d2, d3] => { results := [.lit (.bool true)], args := [d1, d2, d3] }
  | _ => none }
def fnExactNonceOfRow : OpenClaim := { program := "ytahebengjoffeaa", sum := "4d72d47707b14ae415c0f23bd21c94a73afeb4108c6b8a199d7a68cd80f6d5c8", func := "loop.example/g00548/laws.FnExactNonceOf", spec := "fnExactNonceOf", apart := false }
def FnExactNonceOfSaid : Prop := fnExactNonceOfRow.holds Try.pinned (OpenSpec.ofChange fnExactNonceOfSpec)

/-- ITS FALSE NEIGHBOUR: 'it returns false'. Refute it at one input. -/
def fnExactNonceOfWrong : ChangeSpec := { name := "fnExactNonceOf", fn := fun _ => fun
  | [d1, d2, d3] => { results := [.lit (.bool false)], args := [d1, d2, d3] }
  | _ => none }
def FnExactNonceOfWrongFalsely : Prop := fnExactNonceOfRow.holds Try.pinned (OpenSpec.ofChange fnExactNonceOfWrong)

/- THE SECOND FORM. 'bulk': how many values and letters a reading holds, each counted each time it is reached (what is shared counts as often as it is met; a slice's spare places count too). A statement '..UptoSaid' is the law's where the arguments, and the package variables that the reading takes, are together of bulk at most 1048576: NARROWER than '..Said'. Prove '..Said' where nothing that the law and all that it calls make is longer than what came in: it says more and counts as full. Else prove '..UptoSaid'. A law counts once. -/
mutual
def uptoBulk {H : Type} : DataW H → Nat
  | .lit (.string bytes) => bytes.length + 1
  | .lit _ => 1
  | .nil => 1
  | .ptr d => uptoBulk d + 1
  | .slice elems spare => uptoBulkAll elems + uptoBulkAll spare + 1
  | .agg parts => uptoBulkAll parts + 1
  | .iface _ d => uptoBulk d + 1
  | .map entries => uptoBulkEntries entries + 1
  | .held _ => 1
def uptoBulkAll {H : Type} : List (DataW H) → Nat
  | [] => 0
  | d :: r => uptoBulk d + uptoBulkAll r
def uptoBulkEntries {H : Type} : List (Lit × DataW H) → Nat
  | [] => 0
  | x :: r => uptoBulkEntry x + uptoBulkEntries r
def uptoBulkEntry {H : Type} : Lit × DataW H → Nat
  | (.string bytes, d) => bytes.length + uptoBulk d + 1
  | (_, d) => uptoBulk d + 1
 end
def uptoSmall : (H : Type) → List (DataW H) → Bool := fun _ ds => decide (uptoBulkAll ds ≤ 1048576)
def OpenSpec.upto (s : _root_.Go.ChangeSpec) : _root_.Go.OpenSpec := { _root_.Go.OpenSpec.ofChange s with cond := some uptoSmall }

/-- 'laws.FnExactConstants', WHERE WHAT IT READS IS OF BULK AT MOST 1048576: true; the input reads as it did. -/
def fnExactConstantsUptoRow : OpenClaim := { program := "ytahebengjoffeaa", sum := "4d72d47707b14ae415c0f23bd21c94a73afeb4108c6b8a199d7a68cd80f6d5c8", func := "loop.example/g00548/laws.FnExactConstants", spec := "fnExactConstants", apart := false, narrowed := true }
def FnExactConstantsUptoSaid : Prop := fnExactConstantsUptoRow.holds Try.pinned (OpenSpec.upto fnExactConstantsSpec)

/-- 'laws.FnExactCodeWord', WHERE WHAT IT READS IS OF BULK AT MOST 1048576: true; the input reads as it did. -/
def fnExactCodeWordUptoRow : OpenClaim := { program := "ytahebengjoffeaa", sum := "4d72d47707b14ae415c0f23bd21c94a73afeb4108c6b8a199d7a68cd80f6d5c8", func := "loop.example/g00548/laws.FnExactCodeWord", spec := "fnExactCodeWord", apart := false, narrowed := true }
def FnExactCodeWordUptoSaid : Prop := fnExactCodeWordUptoRow.holds Try.pinned (OpenSpec.upto fnExactCodeWordSpec)

/-- 'laws.FnExactCodeOf', WHERE WHAT IT READS IS OF BULK AT MOST 1048576: true; the input reads as it did. -/
def fnExactCodeOfUptoRow : OpenClaim := { program := "ytahebengjoffeaa", sum := "4d72d47707b14ae415c0f23bd21c94a73afeb4108c6b8a199d7a68cd80f6d5c8", func := "loop.example/g00548/laws.FnExactCodeOf", spec := "fnExactCodeOf", apart := false, narrowed := true }
def FnExactCodeOfUptoSaid : Prop := fnExactCodeOfUptoRow.holds Try.pinned (OpenSpec.upto fnExactCodeOfSpec)

/-- 'laws.FnExactNewHash', WHERE WHAT IT READS IS OF BULK AT MOST 1048576: true; the input reads as it did. -/
def fnExactNewHashUptoRow : OpenClaim := { program := "ytahebengjoffeaa", sum := "4d72d47707b14ae415c0f23bd21c94a73afeb4108c6b8a199d7a68cd80f6d5c8", func := "loop.example/g00548/laws.FnExactNewHash", spec := "fnExactNewHash", apart := false, narrowed := true }
def FnExactNewHashUptoSaid : Prop := fnExactNewHashUptoRow.holds Try.pinned (OpenSpec.upto fnExactNewHashSpec)

/-- 'laws.FnExactTagEqual', WHERE WHAT IT READS IS OF BULK AT MOST 1048576: true; the input reads as it did. -/
def fnExactTagEqualUptoRow : OpenClaim := { program := "ytahebengjoffeaa", sum := "4d72d47707b14ae415c0f23bd21c94a73afeb4108c6b8a199d7a68cd80f6d5c8", func := "loop.example/g00548/laws.FnExactTagEqual", spec := "fnExactTagEqual", unfollowed := true, recurses := true, apart := false, narrowed := true }
def FnExactTagEqualUptoSaid : Prop := fnExactTagEqualUptoRow.holds Try.pinned (OpenSpec.upto fnExactTagEqualSpec)

/-- 'laws.FnExactNameOK', WHERE WHAT IT READS IS OF BULK AT MOST 1048576: true; the input reads as it did. -/
def fnExactNameOKUptoRow : OpenClaim := { program := "ytahebengjoffeaa", sum := "4d72d47707b14ae415c0f23bd21c94a73afeb4108c6b8a199d7a68cd80f6d5c8", func := "loop.example/g00548/laws.FnExactNameOK", spec := "fnExactNameOK", unfollowed := true, recurses := true, apart := false, narrowed := true }
def FnExactNameOKUptoSaid : Prop := fnExactNameOKUptoRow.holds Try.pinned (OpenSpec.upto fnExactNameOKSpec)

/-- 'laws.FnExactHexOf', WHERE WHAT IT READS IS OF BULK AT MOST 1048576: true; the input reads as it did. -/
def fnExactHexOfUptoRow : OpenClaim := { program := "ytahebengjoffeaa", sum := "4d72d47707b14ae415c0f23bd21c94a73afeb4108c6b8a199d7a68cd80f6d5c8", func := "loop.example/g00548/laws.FnExactHexOf", spec := "fnExactHexOf", unfollowed := true, recurses := true, apart := false, narrowed := true }
def FnExactHexOfUptoSaid : Prop := fnExactHexOfUptoRow.holds Try.pinned (OpenSpec.upto fnExactHexOfSpec)

/-- 'laws.FnExactUnHex', WHERE WHAT IT READS IS OF BULK AT MOST 1048576: true; the input reads as it did. -/
def fnExactUnHexUptoRow : OpenClaim := { program := "ytahebengjoffeaa", sum := "4d72d47707b14ae415c0f23bd21c94a73afeb4108c6b8a199d7a68cd80f6d5c8", func := "loop.example/g00548/laws.FnExactUnHex", spec := "fnExactUnHex", inPlace := ["internal/bytealg.IndexByteString"], unfollowed := true, recurses := true, apart := false, narrowed := true }
def FnExactUnHexUptoSaid : Prop := fnExactUnHexUptoRow.holds Try.pinned (OpenSpec.upto fnExactUnHexSpec)

/-- 'laws.FnExactXorOf', WHERE WHAT IT READS IS OF BULK AT MOST 1048576: true; the input reads as it did. -/
def fnExactXorOfUptoRow : OpenClaim := { program := "ytahebengjoffeaa", sum := "4d72d47707b14ae415c0f23bd21c94a73afeb4108c6b8a199d7a68cd80f6d5c8", func := "loop.example/g00548/laws.FnExactXorOf", spec := "fnExactXorOf", unfollowed := true, recurses := true, apart := false, narrowed := true }
def FnExactXorOfUptoSaid : Prop := fnExactXorOfUptoRow.holds Try.pinned (OpenSpec.upto fnExactXorOfSpec)

/-- 'laws.FnExactHashOK', WHERE WHAT IT READS IS OF BULK AT MOST 1048576: true; the input reads as it did. -/
def fnExactHashOKUptoRow : OpenClaim := { program := "ytahebengjoffeaa", sum := "4d72d47707b14ae415c0f23bd21c94a73afeb4108c6b8a199d7a68cd80f6d5c8", func := "loop.example/g00548/laws.FnExactHashOK", spec := "fnExactHashOK", unfollowed := true, recurses := true, apart := false, narrowed := true }
def FnExactHashOKUptoSaid : Prop := fnExactHashOKUptoRow.holds Try.pinned (OpenSpec.upto fnExactHashOKSpec)

/-- 'laws.FnExactClampKey', WHERE WHAT IT READS IS OF BULK AT MOST 1048576: true; the input reads as it did. -/
def fnExactClampKeyUptoRow : OpenClaim := { program := "ytahebengjoffeaa", sum := "4d72d47707b14ae415c0f23bd21c94a73afeb4108c6b8a199d7a68cd80f6d5c8", func := "loop.example/g00548/laws.FnExactClampKey", spec := "fnExactClampKey", unfollowed := true, recurses := true, apart := false, narrowed := true }
def FnExactClampKeyUptoSaid : Prop := fnExactClampKeyUptoRow.holds Try.pinned (OpenSpec.upto fnExactClampKeySpec)

/-- 'laws.FnExactNonceOf', WHERE WHAT IT READS IS OF BULK AT MOST 1048576: true; the input reads as it did. -/
def fnExactNonceOfUptoRow : OpenClaim := { program := "ytahebengjoffeaa", sum := "4d72d47707b14ae415c0f23bd21c94a73afeb4108c6b8a199d7a68cd80f6d5c8", func := "loop.example/g00548/laws.FnExactNonceOf", spec := "fnExactNonceOf", apart := false, narrowed := true }
def FnExactNonceOfUptoSaid : Prop := fnExactNonceOfUptoRow.holds Try.pinned (OpenSpec.upto fnExactNonceOfSpec)

end Rows
end Go.Proofs.Ytahebengjoffeaa
