/-
  No cell of these rows narrows 'for every input' (looked for: loops, veiled, ifaces, maps, wideKeys, modest, calm, conditions, laid).
  DERIVED. THE GIVEN ROWS OF THIS SEAT. 10 by the template 'for every input the law returns true; each argument reads behind the call as it read before'; 0 by the template 'total and deterministic' (their statements: YtihpnededldedaaTotals.lean).
  GIVEN WITH THE SEED: the statements are not yours to turn. If you find one false, say at which input.
  Laid BY PROGRAM, IN A SANDBOX (cutbox-rows.mjs): the forced cells as the released guide's own fill.sh prints them over the translation 8c78eae2fbfa3223… (all of the seat's roots in one cut). By AI agents, Wed Nov 11 2026. No macro, syntax, notation, axiom, sorry.
-/
import Derived.Test.YtihpnededldedaaChecked
import GoSem.Claim
import GoSem.ClaimJoined
import GoSem.ClaimMapViews
import Derived.JoinedTies
import Derived.KernelRfl
namespace Go.Proofs.Ytihpnededldedaa
/- THE CELL 'sum', in the pinned program and in every row, IS THE sha256 OF THE DUMP (.gsa) THAT YtihpnededldedaaProg.lean LOADS. Nothing in Lean hashes anything: it is a label: what it is worth is what the hold of that sum in a sandbox is worth. -/
noncomputable def Try.pinned : Pinned := { name := "ytihpnededldedaa", sum := "8c78eae2fbfa3223568931d284507ca523b1fb9eaa505969afe455f699d50302", checked := Try.checked }
namespace Rows
def none {H : Type} : Left H := { results := [], args := [] }

/-- 'laws.FnExactQuarterRound': WHATEVER THE INPUT: true; the input reads as it did. -/
def fnExactQuarterRoundSpec : ChangeSpec := { name := "fnExactQuarterRound", fn := fun _ => fun
  | [d] => { results := [.lit (.bool true)], args := [d] }
  | _ => none }
def fnExactQuarterRoundRow : OpenClaim := { program := "ytihpnededldedaa", sum := "8c78eae2fbfa3223568931d284507ca523b1fb9eaa505969afe455f699d50302", func := "loop.example/g00548/laws.FnExactQuarterRound", spec := "fnExactQuarterRound", unfollowed := true, recurses := true, apart := false }
def FnExactQuarterRoundSaid : Prop := fnExactQuarterRoundRow.holds Try.pinned (OpenSpec.ofChange fnExactQuarterRoundSpec)

/-- ITS FALSE NEIGHBOUR: 'it returns false'. Refute it at one input. -/
def fnExactQuarterRoundWrong : ChangeSpec := { name := "fnExactQuarterRound", fn := fun _ => fun
  | [d] => { results := [.lit (.bool false)], args := [d] }
  | _ => none }
def FnExactQuarterRoundWrongFalsely : Prop := fnExactQuarterRoundRow.holds Try.pinned (OpenSpec.ofChange fnExactQuarterRoundWrong)

/-- 'laws.FnExactChaBlock': WHATEVER THE INPUT: true; the input reads as it did. -/
def fnExactChaBlockSpec : ChangeSpec := { name := "fnExactChaBlock", fn := fun _ => fun
  | [d1, d2, d3] => { results := [.lit (.bool true)], args := [d1, d2, d3] }
  | _ => none }
def fnExactChaBlockRow : OpenClaim := { program := "ytihpnededldedaa", sum := "8c78eae2fbfa3223568931d284507ca523b1fb9eaa505969afe455f699d50302", func := "loop.example/g00548/laws.FnExactChaBlock", spec := "fnExactChaBlock", unfollowed := true, recurses := true, apart := false }
def FnExactChaBlockSaid : Prop := fnExactChaBlockRow.holds Try.pinned (OpenSpec.ofChange fnExactChaBlockSpec)

/-- ITS FALSE NEIGHBOUR: 'it returns false'. Refute it at one input. -/
def fnExactChaBlockWrong : ChangeSpec := { name := "fnExactChaBlock", fn := fun _ => fun
  | [d1, d2, d3] => { results := [.lit (.bool false)], args := [d1, d2, d3] }
  | _ => none }
def FnExactChaBlockWrongFalsely : Prop := fnExactChaBlockRow.holds Try.pinned (OpenSpec.ofChange fnExactChaBlockWrong)

/-- 'laws.FnExactPolyTag': WHATEVER THE INPUT: true; the input reads as it did. -/
def fnExactPolyTagSpec : ChangeSpec := { name := "fnExactPolyTag", fn := fun _ => fun
  | [d1, d2] => { results := [.lit (.bool true)], args := [d1, d2] }
  | _ => none }
def fnExactPolyTagRow : OpenClaim := { program := "ytihpnededldedaa", sum := "8c78eae2fbfa3223568931d284507ca523b1fb9eaa505969afe455f699d50302", func := "loop.example/g00548/laws.FnExactPolyTag", spec := "fnExactPolyTag", unfollowed := true, recurses := true, apart := false }
def FnExactPolyTagSaid : Prop := fnExactPolyTagRow.holds Try.pinned (OpenSpec.ofChange fnExactPolyTagSpec)

/-- ITS FALSE NEIGHBOUR: 'it returns false'. Refute it at one input. -/
def fnExactPolyTagWrong : ChangeSpec := { name := "fnExactPolyTag", fn := fun _ => fun
  | [d1, d2] => { results := [.lit (.bool false)], args := [d1, d2] }
  | _ => none }
def FnExactPolyTagWrongFalsely : Prop := fnExactPolyTagRow.holds Try.pinned (OpenSpec.ofChange fnExactPolyTagWrong)

/-- 'laws.FnExactBoxTag': WHATEVER THE INPUT: true; the input reads as it did. -/
def fnExactBoxTagSpec : ChangeSpec := { name := "fnExactBoxTag", fn := fun _ => fun
  | [d1, d2, d3, d4] => { results := [.lit (.bool true)], args := [d1, d2, d3, d4] }
  | _ => none }
def fnExactBoxTagRow : OpenClaim := { program := "ytihpnededldedaa", sum := "8c78eae2fbfa3223568931d284507ca523b1fb9eaa505969afe455f699d50302", func := "loop.example/g00548/laws.FnExactBoxTag", spec := "fnExactBoxTag", inPlace := ["internal/abi.NoEscape", "internal/bytealg.MakeNoZero"], unfollowed := true, recurses := true, apart := false }
def FnExactBoxTagSaid : Prop := fnExactBoxTagRow.holds Try.pinned (OpenSpec.ofChange fnExactBoxTagSpec)

/-- ITS FALSE NEIGHBOUR: 'it returns false'. Refute it at one input. -/
def fnExactBoxTagWrong : ChangeSpec := { name := "fnExactBoxTag", fn := fun _ => fun
  | [d1, d2, d3, d4] => { results := [.lit (.bool false)], args := [d1, d2, d3, d4] }
  | _ => none }
def FnExactBoxTagWrongFalsely : Prop := fnExactBoxTagRow.holds Try.pinned (OpenSpec.ofChange fnExactBoxTagWrong)

/-- 'laws.FnExactSealBox': WHATEVER THE INPUT: true; the input reads as it did. -/
def fnExactSealBoxSpec : ChangeSpec := { name := "fnExactSealBox", fn := fun _ => fun
  | [d1, d2, d3, d4] => { results := [.lit (.bool true)], args := [d1, d2, d3, d4] }
  | _ => none }
def fnExactSealBoxRow : OpenClaim := { program := "ytihpnededldedaa", sum := "8c78eae2fbfa3223568931d284507ca523b1fb9eaa505969afe455f699d50302", func := "loop.example/g00548/laws.FnExactSealBox", spec := "fnExactSealBox", inPlace := ["internal/abi.NoEscape", "internal/bytealg.MakeNoZero"], unfollowed := true, recurses := true, apart := false }
def FnExactSealBoxSaid : Prop := fnExactSealBoxRow.holds Try.pinned (OpenSpec.ofChange fnExactSealBoxSpec)

/-- ITS FALSE NEIGHBOUR: 'it returns false'. Refute it at one input. -/
def fnExactSealBoxWrong : ChangeSpec := { name := "fnExactSealBox", fn := fun _ => fun
  | [d1, d2, d3, d4] => { results := [.lit (.bool false)], args := [d1, d2, d3, d4] }
  | _ => none }
def FnExactSealBoxWrongFalsely : Prop := fnExactSealBoxRow.holds Try.pinned (OpenSpec.ofChange fnExactSealBoxWrong)

/-- 'laws.FnExactOpenBox': WHATEVER THE INPUT: true; the input reads as it did. -/
def fnExactOpenBoxSpec : ChangeSpec := { name := "fnExactOpenBox", fn := fun _ => fun
  | [d1, d2, d3, d4] => { results := [.lit (.bool true)], args := [d1, d2, d3, d4] }
  | _ => none }
def fnExactOpenBoxRow : OpenClaim := { program := "ytihpnededldedaa", sum := "8c78eae2fbfa3223568931d284507ca523b1fb9eaa505969afe455f699d50302", func := "loop.example/g00548/laws.FnExactOpenBox", spec := "fnExactOpenBox", inPlace := ["internal/abi.NoEscape", "internal/bytealg.MakeNoZero"], unfollowed := true, recurses := true, apart := false }
def FnExactOpenBoxSaid : Prop := fnExactOpenBoxRow.holds Try.pinned (OpenSpec.ofChange fnExactOpenBoxSpec)

/-- ITS FALSE NEIGHBOUR: 'it returns false'. Refute it at one input. -/
def fnExactOpenBoxWrong : ChangeSpec := { name := "fnExactOpenBox", fn := fun _ => fun
  | [d1, d2, d3, d4] => { results := [.lit (.bool false)], args := [d1, d2, d3, d4] }
  | _ => none }
def FnExactOpenBoxWrongFalsely : Prop := fnExactOpenBoxRow.holds Try.pinned (OpenSpec.ofChange fnExactOpenBoxWrong)

/-- 'laws.FnExactSealAt': WHATEVER THE INPUT: true; the input reads as it did. -/
def fnExactSealAtSpec : ChangeSpec := { name := "fnExactSealAt", fn := fun _ => fun
  | [d1, d2, d3, d4, d5] => { results := [.lit (.bool true)], args := [d1, d2, d3, d4, d5] }
  | _ => none }
def fnExactSealAtRow : OpenClaim := { program := "ytihpnededldedaa", sum := "8c78eae2fbfa3223568931d284507ca523b1fb9eaa505969afe455f699d50302", func := "loop.example/g00548/laws.FnExactSealAt", spec := "fnExactSealAt", inPlace := ["internal/abi.NoEscape", "internal/bytealg.MakeNoZero"], unfollowed := true, recurses := true, apart := false }
def FnExactSealAtSaid : Prop := fnExactSealAtRow.holds Try.pinned (OpenSpec.ofChange fnExactSealAtSpec)

/-- ITS FALSE NEIGHBOUR: 'it returns false'. Refute it at one input. -/
def fnExactSealAtWrong : ChangeSpec := { name := "fnExactSealAt", fn := fun _ => fun
  | [d1, d2, d3, d4, d5] => { results := [.lit (.bool false)], args := [d1, d2, d3, d4, d5] }
  | _ => none }
def FnExactSealAtWrongFalsely : Prop := fnExactSealAtRow.holds Try.pinned (OpenSpec.ofChange fnExactSealAtWrong)

/-- 'laws.FnExactOpenAt': WHATEVER THE INPUT: true; the input reads as it did. -/
def fnExactOpenAtSpec : ChangeSpec := { name := "fnExactOpenAt", fn := fun _ => fun
  | [d1, d2, d3, d4, d5] => { results := [.lit (.bool true)], args := [d1, d2, d3, d4, d5] }
  | _ => none }
def fnExactOpenAtRow : OpenClaim := { program := "ytihpnededldedaa", sum := "8c78eae2fbfa3223568931d284507ca523b1fb9eaa505969afe455f699d50302", func := "loop.example/g00548/laws.FnExactOpenAt", spec := "fnExactOpenAt", inPlace := ["internal/abi.NoEscape", "internal/bytealg.MakeNoZero"], unfollowed := true, recurses := true, apart := false }
def FnExactOpenAtSaid : Prop := fnExactOpenAtRow.holds Try.pinned (OpenSpec.ofChange fnExactOpenAtSpec)

/-- ITS FALSE NEIGHBOUR: 'it returns false'. Refute it at one input. -/
def fnExactOpenAtWrong : ChangeSpec := { name := "fnExactOpenAt", fn := fun _ => fun
  | [d1, d2, d3, d4, d5] => { results := [.lit (.bool false)], args := [d1, d2, d3, d4, d5] }
  | _ => none }
def FnExactOpenAtWrongFalsely : Prop := fnExactOpenAtRow.holds Try.pinned (OpenSpec.ofChange fnExactOpenAtWrong)

/-- 'laws.FnExactIntsText': WHATEVER THE INPUT: true; the input reads as it did. -/
def fnExactIntsTextSpec : ChangeSpec := { name := "fnExactIntsText", fn := fun _ => fun
  | [d] => { results := [.lit (.bool true)], args := [d] }
  | _ => none }
def fnExactIntsTextRow : OpenClaim := { program := "ytihpnededldedaa", sum := "8c78eae2fbfa3223568931d284507ca523b1fb9eaa505969afe455f699d50302", func := "loop.example/g00548/laws.FnExactIntsText", spec := "fnExactIntsText", inPlace := ["internal/abi.NoEscape"], unfollowed := true, recurses := true, apart := false }
def FnExactIntsTextSaid : Prop := fnExactIntsTextRow.holds Try.pinned (OpenSpec.ofChange fnExactIntsTextSpec)

/-- ITS FALSE NEIGHBOUR: 'it returns false'. Refute it at one input. -/
def fnExactIntsTextWrong : ChangeSpec := { name := "fnExactIntsText", fn := fun _ => fun
  | [d] => { results := [.lit (.bool false)], args := [d] }
  | _ => none }
def FnExactIntsTextWrongFalsely : Prop := fnExactIntsTextRow.holds Try.pinned (OpenSpec.ofChange fnExactIntsTextWrong)

/-- 'laws.FnExactTextInts': WHATEVER THE INPUT: true; the input reads as it did. -/
def fnExactTextIntsSpec : ChangeSpec := { name := "fnExactTextInts", fn := fun _ => fun
  | [d] => { results := [.lit (.bool true)], args := [d] }
  | _ => none }
def fnExactTextIntsRow : OpenClaim := { program := "ytihpnededldedaa", sum := "8c78eae2fbfa3223568931d284507ca523b1fb9eaa505969afe455f699d50302", func := "loop.example/g00548/laws.FnExactTextInts", spec := "fnExactTextInts", unfollowed := true, recurses := true, apart := false }
def FnExactTextIntsSaid : Prop := fnExactTextIntsRow.holds Try.pinned (OpenSpec.ofChange fnExactTextIntsSpec)

/-- ITS FALSE NEIGHBOUR: 'it returns false'. Refute it at one input. -/
def fnExactTextIntsWrong : ChangeSpec := { name := "fnExactTextInts", fn := fun _ => fun
  | [d] => { results := [.lit (.bool false)], args := [d] }
  | _ => none }
def FnExactTextIntsWrongFalsely : Prop := fnExactTextIntsRow.holds Try.pinned (OpenSpec.ofChange fnExactTextIntsWrong)

/- THE SECOND FORM. 'bulk': how many values and letters a reading holds, each counted each time it is reached (what is shared counts as often as it is met; a slice's spare places count too). A statement '..UptoSaid' is the law's where the arguments, and the package variables that the reading takes, are together of bulk at most 1048576: NARROWER than '..Said'. Prove '..Said' where nothing that the law and all that it calls make is longer than what came in: it says more and counts as full. Else prove '..UptoSaid'. A law counts once. -/
mutual
def uptoBulk {H : Type} : DataW H → Nat
  | .lit (.string bytes) => bytes.length + 1
  | .lit _ => 1
  | .nil => 1
  | .ptr d => uptoBulk d + 1
  | .slice elems spare => uptoBulkAll elems + uptoBulkAll spare + 1
  | .agg parts => uptoBulkAll parts + 1
  | .iface _ d => uptoBulk d + 1
  | .map entries => uptoBulkEntries entries + 1
  | .held _ => 1
def uptoBulkAll {H : Type} : List (DataW H) → Nat
  | [] => 0
  | d :: r => uptoBulk d + uptoBulkAll r
def uptoBulkEntries {H : Type} : List (Lit × DataW H) → Nat
  | [] => 0
  | x :: r => uptoBulkEntry x + uptoBulkEntries r
def uptoBulkEntry {H : Type} : Lit × DataW H → Nat
  | (.string bytes, d) => bytes.length + uptoBulk d + 1
  | (_, d) => uptoBulk d + 1
 end
def uptoSmall : (H : Type) → List (DataW H) → Bool := fun _ ds => decide (uptoBulkAll ds ≤ 1048576)
def OpenSpec.upto (s : _root_.Go.ChangeSpec) : _root_.Go.OpenSpec := { _root_.Go.OpenSpec.ofChange s with cond := some uptoSmall }

/-- 'laws.FnExactQuarterRound', WHERE WHAT IT READS IS OF BULK AT MOST 1048576: true; the input reads as it did. -/
def fnExactQuarterRoundUptoRow : OpenClaim := { program := "ytihpnededldedaa", sum := "8c78eae2fbfa3223568931d284507ca523b1fb9eaa505969afe455f699d50302", func := "loop.example/g00548/laws.FnExactQuarterRound", spec := "fnExactQuarterRound", unfollowed := true, recurses := true, apart := false, narrowed := true }
def FnExactQuarterRoundUptoSaid : Prop := fnExactQuarterRoundUptoRow.holds Try.pinned (OpenSpec.upto fnExactQuarterRoundSpec)

/-- 'laws.FnExactChaBlock', WHERE WHAT IT READS IS OF BULK AT MOST 1048576: true; the input reads as it did. -/
def fnExactChaBlockUptoRow : OpenClaim := { program := "ytihpnededldedaa", sum := "8c78eae2fbfa3223568931d284507ca523b1fb9eaa505969afe455f699d50302", func := "loop.example/g00548/laws.FnExactChaBlock", spec := "fnExactChaBlock", unfollowed := true, recurses := true, apart := false, narrowed := true }
def FnExactChaBlockUptoSaid : Prop := fnExactChaBlockUptoRow.holds Try.pinned (OpenSpec.upto fnExactChaBlockSpec)

/-- 'laws.FnExactPolyTag', WHERE WHAT IT READS IS OF BULK AT MOST 1048576: true; the input reads as it did. -/
def fnExactPolyTagUptoRow : OpenClaim := { program := "ytihpnededldedaa", sum := "8c78eae2fbfa3223568931d284507ca523b1fb9eaa505969afe455f699d50302", func := "loop.example/g00548/laws.FnExactPolyTag", spec := "fnExactPolyTag", unfollowed := true, recurses := true, apart := false, narrowed := true }
def FnExactPolyTagUptoSaid : Prop := fnExactPolyTagUptoRow.holds Try.pinned (OpenSpec.upto fnExactPolyTagSpec)

/-- 'laws.FnExactBoxTag', WHERE WHAT IT READS IS OF BULK AT MOST 1048576: true; the input reads as it did. -/
def fnExactBoxTagUptoRow : OpenClaim := { program := "ytihpnededldedaa", sum := "8c78eae2fbfa3223568931d284507ca523b1fb9eaa505969afe455f699d50302", func := "loop.example/g00548/laws.FnExactBoxTag", spec := "fnExactBoxTag", inPlace := ["internal/abi.NoEscape", "internal/bytealg.MakeNoZero"], unfollowed := true, recurses := true, apart := false, narrowed := true }
def FnExactBoxTagUptoSaid : Prop := fnExactBoxTagUptoRow.holds Try.pinned (OpenSpec.upto fnExactBoxTagSpec)

/-- 'laws.FnExactSealBox', WHERE WHAT IT READS IS OF BULK AT MOST 1048576: true; the input reads as it did. -/
def fnExactSealBoxUptoRow : OpenClaim := { program := "ytihpnededldedaa", sum := "8c78eae2fbfa3223568931d284507ca523b1fb9eaa505969afe455f699d50302", func := "loop.example/g00548/laws.FnExactSealBox", spec := "fnExactSealBox", inPlace := ["internal/abi.NoEscape", "internal/bytealg.MakeNoZero"], unfollowed := true, recurses := true, apart := false, narrowed := true }
def FnExactSealBoxUptoSaid : Prop := fnExactSealBoxUptoRow.holds Try.pinned (OpenSpec.upto fnExactSealBoxSpec)

/-- 'laws.FnExactOpenBox', WHERE WHAT IT READS IS OF BULK AT MOST 1048576: true; the input reads as it did. -/
def fnExactOpenBoxUptoRow : OpenClaim := { program := "ytihpnededldedaa", sum := "8c78eae2fbfa3223568931d284507ca523b1fb9eaa505969afe455f699d50302", func := "loop.example/g00548/laws.FnExactOpenBox", spec := "fnExactOpenBox", inPlace := ["internal/abi.NoEscape", "internal/bytealg.MakeNoZero"], unfollowed := true, recurses := true, apart := false, narrowed := true }
def FnExactOpenBoxUptoSaid : Prop := fnExactOpenBoxUptoRow.holds Try.pinned (OpenSpec.upto fnExactOpenBoxSpec)

/-- 'laws.FnExactSealAt', WHERE WHAT IT READS IS OF BULK AT MOST 1048576: true; the input reads as it did. -/
def fnExactSealAtUptoRow : OpenClaim := { program := "ytihpnededldedaa", sum := "8c78eae2fbfa3223568931d284507ca523b1fb9eaa505969afe455f699d50302", func := "loop.example/g00548/laws.FnExactSealAt", spec := "fnExactSealAt", inPlace := ["internal/abi.NoEscape", "internal/bytealg.MakeNoZero"], unfollowed := true, recurses := true, apart := false, narrowed := true }
def FnExactSealAtUptoSaid : Prop := fnExactSealAtUptoRow.holds Try.pinned (OpenSpec.upto fnExactSealAtSpec)

/-- 'laws.FnExactOpenAt', WHERE WHAT IT READS IS OF BULK AT MOST 1048576: true; the input reads as it did. -/
def fnExactOpenAtUptoRow : OpenClaim := { program := "ytihpnededldedaa", sum := "8c78eae2fbfa3223568931d284507ca523b1fb9eaa505969afe455f699d50302", func := "loop.example/g00548/laws.FnExactOpenAt", spec := "fnExactOpenAt", inPlace := ["internal/abi.NoEscape", "internal/bytealg.MakeNoZero"], unfollowed := true, recurses := true, apart := false, narrowed := true }
def FnExactOpenAtUptoSaid : Prop := fnExactOpenAtUptoRow.holds Try.pinned (OpenSpec.upto fnExactOpenAtSpec)

/-- 'laws.FnExactIntsText', WHERE WHAT IT READS IS OF BULK AT MOST 1048576: true; the input reads as it did. -/
def fnExactIntsTextUptoRow : OpenClaim := { program := "ytihpnededldedaa", sum := "8c78eae2fbfa3223568931d284507ca523b1fb9eaa505969afe455f699d50302", func := "loop.example/g00548/laws.FnExactIntsText", spec := "fnExactIntsText", inPlace := ["internal/abi.NoEscape"], unfollowed := true, recurses := true, apart := false, narrowed := true }
def FnExactIntsTextUptoSaid : Prop := fnExactIntsTextUptoRow.holds Try.pinned (OpenSpec.upto fnExactIntsTextSpec)

/-- 'laws.FnExactTextInts', WHERE WHAT IT READS IS OF BULK AT MOST 1048576: true; the input reads as it did. -/
def fnExactTextIntsUptoRow : OpenClaim := { program := "ytihpnededldedaa", sum := "8c78eae2fbfa3223568931d284507ca523b1fb9eaa505969afe455f699d50302", func := "loop.example/g00548/laws.FnExactTextInts", spec := "fnExactTextInts", unfollowed := true, recurses := true, apart := false, narrowed := true }
def FnExactTextIntsUptoSaid : Prop := fnExactTextIntsUptoRow.holds Try.pinned (OpenSpec.upto fnExactTextIntsSpec)

end Rows
end Go.Proofs.Ytihpnededldedaa
