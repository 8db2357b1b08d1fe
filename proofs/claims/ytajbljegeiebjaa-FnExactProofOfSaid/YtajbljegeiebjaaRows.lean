/-
  No cell of these rows narrows 'for every input' (looked for: loops, veiled, ifaces, maps, wideKeys, modest, calm, conditions, laid).
  DERIVED. THE GIVEN ROWS OF THIS SEAT. 9 by the template 'for every input the law returns true; each argument reads behind the call as it read before'; 0 by the template 'total and deterministic' (their statements: YtajbljegeiebjaaTotals.lean).
  GIVEN WITH THE SEED: the statements are not yours to turn. If you find one false, say at which input.
  Laid BY PROGRAM, IN A SANDBOX (cutbox-rows.mjs): the forced cells as the released guide's own fill.sh prints them over the translation 166e18102360d98c… (all of the seat's roots in one cut). By AI agents, Wed Nov 11 2026. No macro, syntax, notation, axiom, sorry.
-/
import Derived.Test.YtajbljegeiebjaaChecked
import GoSem.Claim
import GoSem.ClaimJoined
import GoSem.ClaimMapViews
import Derived.JoinedTies
import Derived.KernelRfl
namespace Go.Proofs.Ytajbljegeiebjaa
/- THE CELL 'sum', in the pinned program and in every row, IS THE sha256 OF THE DUMP (.gsa) THAT YtajbljegeiebjaaProg.lean LOADS. Nothing in Lean hashes anything: it is a label: what it is worth is what the hold of that sum in a sandbox is worth. -/
noncomputable def Try.pinned : Pinned := { name := "ytajbljegeiebjaa", sum := "166e18102360d98c8be97f8fe99dbd9e23a71cb52c364c892a51ab913cf497c6", checked := Try.checked }
namespace Rows
def none {H : Type} : Left H := { results := [], args := [] }

/-- 'laws.FnExactHashMore': WHATEVER THE INPUT: true; the input reads as it did. -/
def fnExactHashMoreSpec : ChangeSpec := { name := "fnExactHashMore", fn := fun _ => fun
  | [d1, d2] => { results := [.lit (.bool true)], args := [d1, d2] }
  | _ => none }
def fnExactHashMoreRow : OpenClaim := { program := "ytajbljegeiebjaa", sum := "166e18102360d98c8be97f8fe99dbd9e23a71cb52c364c892a51ab913cf497c6", func := "loop.example/g00548/laws.FnExactHashMore", spec := "fnExactHashMore", unfollowed := true, recurses := true, apart := false }
def FnExactHashMoreSaid : Prop := fnExactHashMoreRow.holds Try.pinned (OpenSpec.ofChange fnExactHashMoreSpec)

/-- ITS FALSE NEIGHBOUR: 'it returns false'. Refute it at one input. -/
def fnExactHashMoreWrong : ChangeSpec := { name := "fnExactHashMore", fn := fun _ => fun
  | [d1, d2] => { results := [.lit (.bool false)], args := [d1, d2] }
  | _ => none }
def FnExactHashMoreWrongFalsely : Prop := fnExactHashMoreRow.holds Try.pinned (OpenSpec.ofChange fnExactHashMoreWrong)

/-- 'laws.FnExactHashOf': WHATEVER THE INPUT: true; the input reads as it did. -/
def fnExactHashOfSpec : ChangeSpec := { name := "fnExactHashOf", fn := fun _ => fun
  | [d] => { results := [.lit (.bool true)], args := [d] }
  | _ => none }
def fnExactHashOfRow : OpenClaim := { program := "ytajbljegeiebjaa", sum := "166e18102360d98c8be97f8fe99dbd9e23a71cb52c364c892a51ab913cf497c6", func := "loop.example/g00548/laws.FnExactHashOf", spec := "fnExactHashOf", inPlace := ["internal/abi.NoEscape", "internal/bytealg.MakeNoZero"], unfollowed := true, recurses := true, apart := false }
def FnExactHashOfSaid : Prop := fnExactHashOfRow.holds Try.pinned (OpenSpec.ofChange fnExactHashOfSpec)

/-- ITS FALSE NEIGHBOUR: 'it returns false'. Refute it at one input. -/
def fnExactHashOfWrong : ChangeSpec := { name := "fnExactHashOf", fn := fun _ => fun
  | [d] => { results := [.lit (.bool false)], args := [d] }
  | _ => none }
def FnExactHashOfWrongFalsely : Prop := fnExactHashOfRow.holds Try.pinned (OpenSpec.ofChange fnExactHashOfWrong)

/-- 'laws.FnExactHashSum': WHATEVER THE INPUT: true; the input reads as it did. -/
def fnExactHashSumSpec : ChangeSpec := { name := "fnExactHashSum", fn := fun _ => fun
  | [d] => { results := [.lit (.bool true)], args := [d] }
  | _ => none }
def fnExactHashSumRow : OpenClaim := { program := "ytajbljegeiebjaa", sum := "166e18102360d98c8be97f8fe99dbd9e23a71cb52c364c892a51ab913cf497c6", func := "loop.example/g00548/laws.FnExactHashSum", spec := "fnExactHashSum", inPlace := ["internal/abi.NoEscape", "internal/bytealg.MakeNoZero"], unfollowed := true, recurses := true, apart := false }
def FnExactHashSumSaid : Prop := fnExactHashSumRow.holds Try.pinned (OpenSpec.ofChange fnExactHashSumSpec)

/-- ITS FALSE NEIGHBOUR: 'it returns false'. Refute it at one input. -/
def fnExactHashSumWrong : ChangeSpec := { name := "fnExactHashSum", fn := fun _ => fun
  | [d] => { results := [.lit (.bool false)], args := [d] }
  | _ => none }
def FnExactHashSumWrongFalsely : Prop := fnExactHashSumRow.holds Try.pinned (OpenSpec.ofChange fnExactHashSumWrong)

/-- 'laws.FnExactLeafDigest': WHATEVER THE INPUT: true; the input reads as it did. -/
def fnExactLeafDigestSpec : ChangeSpec := { name := "fnExactLeafDigest", fn := fun _ => fun
  | [d1, d2] => { results := [.lit (.bool true)], args := [d1, d2] }
  | _ => none }
def fnExactLeafDigestRow : OpenClaim := { program := "ytajbljegeiebjaa", sum := "166e18102360d98c8be97f8fe99dbd9e23a71cb52c364c892a51ab913cf497c6", func := "loop.example/g00548/laws.FnExactLeafDigest", spec := "fnExactLeafDigest", inPlace := ["internal/abi.NoEscape", "internal/bytealg.MakeNoZero"], unfollowed := true, recurses := true, apart := false }
def FnExactLeafDigestSaid : Prop := fnExactLeafDigestRow.holds Try.pinned (OpenSpec.ofChange fnExactLeafDigestSpec)

/-- ITS FALSE NEIGHBOUR: 'it returns false'. Refute it at one input. -/
def fnExactLeafDigestWrong : ChangeSpec := { name := "fnExactLeafDigest", fn := fun _ => fun
  | [d1, d2] => { results := [.lit (.bool false)], args := [d1, d2] }
  | _ => none }
def FnExactLeafDigestWrongFalsely : Prop := fnExactLeafDigestRow.holds Try.pinned (OpenSpec.ofChange fnExactLeafDigestWrong)

/-- 'laws.FnExactJoinDigests': WHATEVER THE INPUT: true; the input reads as it did. -/
def fnExactJoinDigestsSpec : ChangeSpec := { name := "fnExactJoinDigests", fn := fun _ => fun
  | [d1, d2] => { results := [.lit (.bool true)], args := [d1, d2] }
  | _ => none }
def fnExactJoinDigestsRow : OpenClaim := { program := "ytajbljegeiebjaa", sum := "166e18102360d98c8be97f8fe99dbd9e23a71cb52c364c892a51ab913cf497c6", func := "loop.example/g00548/laws.FnExactJoinDigests", spec := "fnExactJoinDigests", inPlace := ["internal/abi.NoEscape", "internal/bytealg.MakeNoZero"], unfollowed := true, recurses := true, apart := false }
def FnExactJoinDigestsSaid : Prop := fnExactJoinDigestsRow.holds Try.pinned (OpenSpec.ofChange fnExactJoinDigestsSpec)

/-- ITS FALSE NEIGHBOUR: 'it returns false'. Refute it at one input. -/
def fnExactJoinDigestsWrong : ChangeSpec := { name := "fnExactJoinDigests", fn := fun _ => fun
  | [d1, d2] => { results := [.lit (.bool false)], args := [d1, d2] }
  | _ => none }
def FnExactJoinDigestsWrongFalsely : Prop := fnExactJoinDigestsRow.holds Try.pinned (OpenSpec.ofChange fnExactJoinDigestsWrong)

/-- 'laws.FnExactChainTip': WHATEVER THE INPUT: true; the input reads as it did. -/
def fnExactChainTipSpec : ChangeSpec := { name := "fnExactChainTip", fn := fun _ => fun
  | [d1, d2] => { results := [.lit (.bool true)], args := [d1, d2] }
  | _ => none }
def fnExactChainTipRow : OpenClaim := { program := "ytajbljegeiebjaa", sum := "166e18102360d98c8be97f8fe99dbd9e23a71cb52c364c892a51ab913cf497c6", func := "loop.example/g00548/laws.FnExactChainTip", spec := "fnExactChainTip", inPlace := ["internal/abi.NoEscape", "internal/bytealg.MakeNoZero"], unfollowed := true, recurses := true, apart := false }
def FnExactChainTipSaid : Prop := fnExactChainTipRow.holds Try.pinned (OpenSpec.ofChange fnExactChainTipSpec)

/-- ITS FALSE NEIGHBOUR: 'it returns false'. Refute it at one input. -/
def fnExactChainTipWrong : ChangeSpec := { name := "fnExactChainTip", fn := fun _ => fun
  | [d1, d2] => { results := [.lit (.bool false)], args := [d1, d2] }
  | _ => none }
def FnExactChainTipWrongFalsely : Prop := fnExactChainTipRow.holds Try.pinned (OpenSpec.ofChange fnExactChainTipWrong)

/-- 'laws.FnExactRootOf': WHATEVER THE INPUT: true; the input reads as it did. -/
def fnExactRootOfSpec : ChangeSpec := { name := "fnExactRootOf", fn := fun _ => fun
  | [d] => { results := [.lit (.bool true)], args := [d] }
  | _ => none }
def fnExactRootOfRow : OpenClaim := { program := "ytajbljegeiebjaa", sum := "166e18102360d98c8be97f8fe99dbd9e23a71cb52c364c892a51ab913cf497c6", func := "loop.example/g00548/laws.FnExactRootOf", spec := "fnExactRootOf", inPlace := ["internal/abi.NoEscape", "internal/bytealg.MakeNoZero"], unfollowed := true, recurses := true, apart := false }
def FnExactRootOfSaid : Prop := fnExactRootOfRow.holds Try.pinned (OpenSpec.ofChange fnExactRootOfSpec)

/-- ITS FALSE NEIGHBOUR: 'it returns false'. Refute it at one input. -/
def fnExactRootOfWrong : ChangeSpec := { name := "fnExactRootOf", fn := fun _ => fun
  | [d] => { results := [.lit (.bool false)], args := [d] }
  | _ => none }
def FnExactRootOfWrongFalsely : Prop := fnExactRootOfRow.holds Try.pinned (OpenSpec.ofChange fnExactRootOfWrong)

/-- 'laws.FnExactProofOf': WHATEVER THE INPUT: true; the input reads as it did. -/
def fnExactProofOfSpec : ChangeSpec := { name := "fnExactProofOf", fn := fun _ => fun
  | [d1, d2] => { results := [.lit (.bool true)], args := [d1, d2] }
  | _ => none }
def fnExactProofOfRow : OpenClaim := { program := "ytajbljegeiebjaa", sum := "166e18102360d98c8be97f8fe99dbd9e23a71cb52c364c892a51ab913cf497c6", func := "loop.example/g00548/laws.FnExactProofOf", spec := "fnExactProofOf", inPlace := ["internal/abi.NoEscape", "internal/bytealg.MakeNoZero"], unfollowed := true, recurses := true, apart := false }
def FnExactProofOfSaid : Prop := fnExactProofOfRow.holds Try.pinned (OpenSpec.ofChange fnExactProofOfSpec)

/-- ITS FALSE NEIGHBOUR: 'it returns false'. Refute it at one input. -/
def fnExactProofOfWrong : ChangeSpec := { name := "fnExactProofOf", fn := fun _ => fun
  | [d1, d2] => { results := [.lit (.bool false)], args := [d1, d2] }
  | _ => none }
def FnExactProofOfWrongFalsely : Prop := fnExactProofOfRow.holds Try.pinned (OpenSpec.ofChange fnExactProofOfWrong)

/-- 'laws.FnExactCheckProof': WHATEVER THE INPUT: true; the input reads as it did. -/
def fnExactCheckProofSpec : ChangeSpec := { name := "fnExactCheckProof", fn := fun _ => fun
  | [d1, d2, d3, d4] => { results := [.lit (.bool true)], args := [d1, d2, d3, d4] }
  | _ => none }
def fnExactCheckProofRow : OpenClaim := { program := "ytajbljegeiebjaa", sum := "166e18102360d98c8be97f8fe99dbd9e23a71cb52c364c892a51ab913cf497c6", func := "loop.example/g00548/laws.FnExactCheckProof", spec := "fnExactCheckProof", inPlace := ["internal/abi.NoEscape", "internal/bytealg.MakeNoZero"], unfollowed := true, recurses := true, apart := false }
def FnExactCheckProofSaid : Prop := fnExactCheckProofRow.holds Try.pinned (OpenSpec.ofChange fnExactCheckProofSpec)

/-- ITS FALSE NEIGHBOUR: 'it returns false'. Refute it at one input. -/
def fnExactCheckProofWrong : ChangeSpec := { name := "fnExactCheckProof", fn := fun _ => fun
  | [d1, d2, d3, d4] => { results := [.lit (.bool false)], args := [d1, d2, d3, d4] }
  | _ => none }
def FnExactCheckProofWrongFalsely : Prop := fnExactCheckProofRow.holds Try.pinned (OpenSpec.ofChange fnExactCheckProofWrong)

/- THE SECOND FORM. 'bulk': how many values and letters a reading holds, each counted each time it is reached (what is shared counts as often as it is met; a slice's spare places count too). A statement '..UptoSaid' is the law's where the arguments, and the package variables that the reading takes, are together of bulk at most 1048576: NARROWER than '..Said'. Prove '..Said' where nothing that the law and all that it calls make is longer than what came in: it says more and counts as full. Else prove '..UptoSaid'. A law counts once. -/
mutual
def uptoBulk {H : Type} : DataW H → Nat
  | .lit (.string bytes) => bytes.length + 1
  | .lit _ => 1
  | .nil => 1
  | .ptr d => uptoBulk d + 1
  | .slice elems spare => uptoBulkAll elems + uptoBulkAll spare + 1
  | .agg parts => uptoBulkAll parts + 1
  | .iface _ d => uptoBulk d + 1
  | .map entries => uptoBulkEntries entries + 1
  | .held _ => 1
def uptoBulkAll {H : Type} : List (DataW H) → Nat
  | [] => 0
  | d :: r => uptoBulk d + uptoBulkAll r
def uptoBulkEntries {H : Type} : List (Lit × DataW H) → Nat
  | [] => 0
  | x :: r => uptoBulkEntry x + uptoBulkEntries r
def uptoBulkEntry {H : Type} : Lit × DataW H → Nat
  | (.string bytes, d) => bytes.length + uptoBulk d + 1
  | (_, d) => uptoBulk d + 1
 end
def uptoSmall : (H : Type) → List (DataW H) → Bool := fun _ ds => decide (uptoBulkAll ds ≤ 1048576)
def OpenSpec.upto (s : _root_.Go.ChangeSpec) : _root_.Go.OpenSpec := { _root_.Go.OpenSpec.ofChange s with cond := some uptoSmall }

/-- 'laws.FnExactHashMore', WHERE WHAT IT READS IS OF BULK AT MOST 1048576: true; the input reads as it did. -/
def fnExactHashMoreUptoRow : OpenClaim := { program := "ytajbljegeiebjaa", sum := "166e18102360d98c8be97f8fe99dbd9e23a71cb52c364c892a51ab913cf497c6", func := "loop.example/g00548/laws.FnExactHashMore", spec := "fnExactHashMore", unfollowed := true, recurses := true, apart := false, narrowed := true }
def FnExactHashMoreUptoSaid : Prop := fnExactHashMoreUptoRow.holds Try.pinned (OpenSpec.upto fnExactHashMoreSpec)

/-- 'laws.FnExactHashOf', WHERE WHAT IT READS IS OF BULK AT MOST 1048576: true; the input reads as it did. -/
def fnExactHashOfUptoRow : OpenClaim := { program := "ytajbljegeiebjaa", sum := "166e18102360d98c8be97f8fe99dbd9e23a71cb52c364c892a51ab913cf497c6", func := "loop.example/g00548/laws.FnExactHashOf", spec := "fnExactHashOf", inPlace := ["internal/abi.NoEscape", "internal/bytealg.MakeNoZero"], unfollowed := true, recurses := true, apart := false, narrowed := true }
def FnExactHashOfUptoSaid : Prop := fnExactHashOfUptoRow.holds Try.pinned (OpenSpec.upto fnExactHashOfSpec)

/-- 'laws.FnExactHashSum', WHERE WHAT IT READS IS OF BULK AT MOST 1048576: true; the input reads as it did. -/
def fnExactHashSumUptoRow : OpenClaim := { program := "ytajbljegeiebjaa", sum := "166e18102360d98c8be97f8fe99dbd9e23a71cb52c364c892a51ab913cf497c6", func := "loop.example/g00548/laws.FnExactHashSum", spec := "fnExactHashSum", inPlace := ["internal/abi.NoEscape", "internal/bytealg.MakeNoZero"], unfollowed := true, recurses := true, apart := false, narrowed := true }
def FnExactHashSumUptoSaid : Prop := fnExactHashSumUptoRow.holds Try.pinned (OpenSpec.upto fnExactHashSumSpec)

/-- 'laws.FnExactLeafDigest', WHERE WHAT IT READS IS OF BULK AT MOST 1048576: true; the input reads as it did. -/
def fnExactLeafDigestUptoRow : OpenClaim := { program := "ytajbljegeiebjaa", sum := "166e18102360d98c8be97f8fe99dbd9e23a71cb52c364c892a51ab913cf497c6", func := "loop.example/g00548/laws.FnExactLeafDigest", spec := "fnExactLeafDigest", inPlace := ["internal/abi.NoEscape", "internal/bytealg.MakeNoZero"], unfollowed := true, recurses := true, apart := false, narrowed := true }
def FnExactLeafDigestUptoSaid : Prop := fnExactLeafDigestUptoRow.holds Try.pinned (OpenSpec.upto fnExactLeafDigestSpec)

/-- 'laws.FnExactJoinDigests', WHERE WHAT IT READS IS OF BULK AT MOST 1048576: true; the input reads as it did. -/
def fnExactJoinDigestsUptoRow : OpenClaim := { program := "ytajbljegeiebjaa", sum := "166e18102360d98c8be97f8fe99dbd9e23a71cb52c364c892a51ab913cf497c6", func := "loop.example/g00548/laws.FnExactJoinDigests", spec := "fnExactJoinDigests", inPlace := ["internal/abi.NoEscape", "internal/bytealg.MakeNoZero"], unfollowed := true, recurses := true, apart := false, narrowed := true }
def FnExactJoinDigestsUptoSaid : Prop := fnExactJoinDigestsUptoRow.holds Try.pinned (OpenSpec.upto fnExactJoinDigestsSpec)

/-- 'laws.FnExactChainTip', WHERE WHAT IT READS IS OF BULK AT MOST 1048576: true; the input reads as it did. -/
def fnExactChainTipUptoRow : OpenClaim := { program := "ytajbljegeiebjaa", sum := "166e18102360d98c8be97f8fe99dbd9e23a71cb52c364c892a51ab913cf497c6", func := "loop.example/g00548/laws.FnExactChainTip", spec := "fnExactChainTip", inPlace := ["internal/abi.NoEscape", "internal/bytealg.MakeNoZero"], unfollowed := true, recurses := true, apart := false, narrowed := true }
def FnExactChainTipUptoSaid : Prop := fnExactChainTipUptoRow.holds Try.pinned (OpenSpec.upto fnExactChainTipSpec)

/-- 'laws.FnExactRootOf', WHERE WHAT IT READS IS OF BULK AT MOST 1048576: true; the input reads as it did. -/
def fnExactRootOfUptoRow : OpenClaim := { program := "ytajbljegeiebjaa", sum := "166e18102360d98c8be97f8fe99dbd9e23a71cb52c364c892a51ab913cf497c6", func := "loop.example/g00548/laws.FnExactRootOf", spec := "fnExactRootOf", inPlace := ["internal/abi.NoEscape", "internal/bytealg.MakeNoZero"], unfollowed := true, recurses := true, apart := false, narrowed := true }
def FnExactRootOfUptoSaid : Prop := fnExactRootOfUptoRow.holds Try.pinned (OpenSpec.upto fnExactRootOfSpec)

/-- 'laws.FnExactProofOf', WHERE WHAT IT READS IS OF BULK AT MOST 1048576: true; the input reads as it did. -/
def fnExactProofOfUptoRow : OpenClaim := { program := "ytajbljegeiebjaa", sum := "166e18102360d98c8be97f8fe99dbd9e23a71cb52c364c892a51ab913cf497c6", func := "loop.example/g00548/laws.FnExactProofOf", spec := "fnExactProofOf", inPlace := ["internal/abi.NoEscape", "internal/bytealg.MakeNoZero"], unfollowed := true, recurses := true, apart := false, narrowed := true }
def FnExactProofOfUptoSaid : Prop := fnExactProofOfUptoRow.holds Try.pinned (OpenSpec.upto fnExactProofOfSpec)

/-- 'laws.FnExactCheckProof', WHERE WHAT IT READS IS OF BULK AT MOST 1048576: true; the input reads as it did. -/
def fnExactCheckProofUptoRow : OpenClaim := { program := "ytajbljegeiebjaa", sum := "166e18102360d98c8be97f8fe99dbd9e23a71cb52c364c892a51ab913cf497c6", func := "loop.example/g00548/laws.FnExactCheckProof", spec := "fnExactCheckProof", inPlace := ["internal/abi.NoEscape", "internal/bytealg.MakeNoZero"], unfollowed := true, recurses := true, apart := false, narrowed := true }
def FnExactCheckProofUptoSaid : Prop := fnExactCheckProofUptoRow.holds Try.pinned (OpenSpec.upto fnExactCheckProofSpec)

end Rows
end Go.Proofs.Ytajbljegeiebjaa
