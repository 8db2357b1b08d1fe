/-
  No cell of these rows narrows 'for every input' (looked for: loops, veiled, ifaces, maps, wideKeys, modest, calm, conditions, laid).
  DERIVED. THE GIVEN ROWS OF THIS SEAT. 7 by the template 'for every input the law returns true; each argument reads behind the call as it read before'; 0 by the template 'total and deterministic' (their statements: YtmodpocjnafpdaaTotals.lean).
  GIVEN WITH THE SEED: the statements are not yours to turn. If you find one false, say at which input.
  Laid BY PROGRAM, IN A SANDBOX (cutbox-rows.mjs): the forced cells as the released guide's own fill.sh prints them over the translation ece6d643d3b58ef6… (all of the seat's roots in one cut). By AI agents, Wed Nov 11 2026. No macro, syntax, notation, axiom, sorry.
-/
import Derived.Test.YtmodpocjnafpdaaChecked
import GoSem.Claim
import GoSem.ClaimJoined
import GoSem.ClaimMapViews
import Derived.JoinedTies
import Derived.KernelRfl
namespace Go.Proofs.Ytmodpocjnafpdaa
/- THE CELL 'sum', in the pinned program and in every row, IS THE sha256 OF THE DUMP (.gsa) THAT YtmodpocjnafpdaaProg.lean LOADS. Nothing in Lean hashes anything: it is a label: what it is worth is what the hold of that sum in a sandbox is worth. -/
noncomputable def Try.pinned : Pinned := { name := "ytmodpocjnafpdaa", sum := "ece6d643d3b58ef64304d67ee8d3ccaf21c43c33538467de7215cb2897f99fdb", checked := Try.checked }
namespace Rows
def none {H : Type} : Left H := { results := [], args := [] }

/-- 'laws.FnExactOnPath': WHATEVER THE INPUT: true; the input reads as it did. -/
def fnExactOnPathSpec : ChangeSpec := { name := "fnExactOnPath", fn := fun _ => fun
  | [d1, d2] => { results := [.lit (.bool true)], args := [d1, d2] }
  | _ => none }
def fnExactOnPathRow : OpenClaim := { program := "ytmodpocjnafpdaa", sum := "ece6d643d3b58ef64304d67ee8d3ccaf21c43c33538467de7215cb2897f99fdb", func := "loop.example/g00548/laws.FnExactOnPath", spec := "fnExactOnPath", apart := false }
def FnExactOnPathSaid : Prop := fnExactOnPathRow.holds Try.pinned (OpenSpec.ofChange fnExactOnPathSpec)

/-- ITS FALSE NEIGHBOUR: 'it returns false'. Refute it at one input. -/
def fnExactOnPathWrong : ChangeSpec := { name := "fnExactOnPath", fn := fun _ => fun
  | [d1, d2] => { results := [.lit (.bool false)], args := [d1, d2] }
  | _ => none }
def FnExactOnPathWrongFalsely : Prop := fnExactOnPathRow.holds Try.pinned (OpenSpec.ofChange fnExactOnPathWrong)

/-- 'laws.FnExactPathOf': WHATEVER THE INPUT: true; the input reads as it did. -/
def fnExactPathOfSpec : ChangeSpec := { name := "fnExactPathOf", fn := fun _ => fun
  | [d] => { results := [.lit (.bool true)], args := [d] }
  | _ => none }
def fnExactPathOfRow : OpenClaim := { program := "ytmodpocjnafpdaa", sum := "ece6d643d3b58ef64304d67ee8d3ccaf21c43c33538467de7215cb2897f99fdb", func := "loop.example/g00548/laws.FnExactPathOf", spec := "fnExactPathOf", apart := false }
def FnExactPathOfSaid : Prop := fnExactPathOfRow.holds Try.pinned (OpenSpec.ofChange fnExactPathOfSpec)

/-- ITS FALSE NEIGHBOUR: 'it returns false'. Refute it at one input. -/
def fnExactPathOfWrong : ChangeSpec := { name := "fnExactPathOf", fn := fun _ => fun
  | [d] => { results := [.lit (.bool false)], args := [d] }
  | _ => none }
def FnExactPathOfWrongFalsely : Prop := fnExactPathOfRow.holds Try.pinned (OpenSpec.ofChange fnExactPathOfWrong)

/-- 'laws.FnExactSameOram': WHATEVER THE INPUT: true; the input reads as it did. -/
def fnExactSameOramSpec : ChangeSpec := { name := "fnExactSameOram", fn := fun _ => fun
  | [d1, d2] => { results := [.lit (.bool true)], args := [d1, d2] }
  | _ => none }
def fnExactSameOramRow : OpenClaim := { program := "ytmodpocjnafpdaa", sum := "ece6d643d3b58ef64304d67ee8d3ccaf21c43c33538467de7215cb2897f99fdb", func := "loop.example/g00548/laws.FnExactSameOram", spec := "fnExactSameOram", unfollowed := true, recurses := true, apart := false }
def FnExactSameOramSaid : Prop := fnExactSameOramRow.holds Try.pinned (OpenSpec.ofChange fnExactSameOramSpec)

/-- ITS FALSE NEIGHBOUR: 'it returns false'. Refute it at one input. -/
def fnExactSameOramWrong : ChangeSpec := { name := "fnExactSameOram", fn := fun _ => fun
  | [d1, d2] => { results := [.lit (.bool false)], args := [d1, d2] }
  | _ => none }
def FnExactSameOramWrongFalsely : Prop := fnExactSameOramRow.holds Try.pinned (OpenSpec.ofChange fnExactSameOramWrong)

/-- 'laws.FnExactNewOram': WHATEVER THE INPUT: true; the input reads as it did. -/
def fnExactNewOramSpec : ChangeSpec := { name := "fnExactNewOram", fn := fun _ => fun
  | [d] => { results := [.lit (.bool true)], args := [d] }
  | _ => none }
def fnExactNewOramRow : OpenClaim := { program := "ytmodpocjnafpdaa", sum := "ece6d643d3b58ef64304d67ee8d3ccaf21c43c33538467de7215cb2897f99fdb", func := "loop.example/g00548/laws.FnExactNewOram", spec := "fnExactNewOram", unfollowed := true, recurses := true, apart := false }
def FnExactNewOramSaid : Prop := fnExactNewOramRow.holds Try.pinned (OpenSpec.ofChange fnExactNewOramSpec)

/-- ITS FALSE NEIGHBOUR: 'it returns false'. Refute it at one input. -/
def fnExactNewOramWrong : ChangeSpec := { name := "fnExactNewOram", fn := fun _ => fun
  | [d] => { results := [.lit (.bool false)], args := [d] }
  | _ => none }
def FnExactNewOramWrongFalsely : Prop := fnExactNewOramRow.holds Try.pinned (OpenSpec.ofChange fnExactNewOramWrong)

/-- 'laws.FnExactOramOK': WHATEVER THE INPUT: true; the input reads as it did. -/
def fnExactOramOKSpec : ChangeSpec := { name := "fnExactOramOK", fn := fun _ => fun
  | [d] => { results := [.lit (.bool true)], args := [d] }
  | _ => none }
def fnExactOramOKRow : OpenClaim := { program := "ytmodpocjnafpdaa", sum := "ece6d643d3b58ef64304d67ee8d3ccaf21c43c33538467de7215cb2897f99fdb", func := "loop.example/g00548/laws.FnExactOramOK", spec := "fnExactOramOK", unfollowed := true, recurses := true, apart := false }
def FnExactOramOKSaid : Prop := fnExactOramOKRow.holds Try.pinned (OpenSpec.ofChange fnExactOramOKSpec)

/-- ITS FALSE NEIGHBOUR: 'it returns false'. Refute it at one input. -/
def fnExactOramOKWrong : ChangeSpec := { name := "fnExactOramOK", fn := fun _ => fun
  | [d] => { results := [.lit (.bool false)], args := [d] }
  | _ => none }
def FnExactOramOKWrongFalsely : Prop := fnExactOramOKRow.holds Try.pinned (OpenSpec.ofChange fnExactOramOKWrong)

/-- 'laws.FnExactWhereIs': WHATEVER THE INPUT: true; the input reads as it did. -/
def fnExactWhereIsSpec : ChangeSpec := { name := "fnExactWhereIs", fn := fun _ => fun
  | [d1, d2] => { results := [.lit (.bool true)], args := [d1, d2] }
  | _ => none }
def fnExactWhereIsRow : OpenClaim := { program := "ytmodpocjnafpdaa", sum := "ece6d643d3b58ef64304d67ee8d3ccaf21c43c33538467de7215cb2897f99fdb", func := "loop.example/g00548/laws.FnExactWhereIs", spec := "fnExactWhereIs", unfollowed := true, recurses := true, apart := false }
def FnExactWhereIsSaid : Prop := fnExactWhereIsRow.holds Try.pinned (OpenSpec.ofChange fnExactWhereIsSpec)

/-- ITS FALSE NEIGHBOUR: 'it returns false'. Refute it at one input. -/
def fnExactWhereIsWrong : ChangeSpec := { name := "fnExactWhereIs", fn := fun _ => fun
  | [d1, d2] => { results := [.lit (.bool false)], args := [d1, d2] }
  | _ => none }
def FnExactWhereIsWrongFalsely : Prop := fnExactWhereIsRow.holds Try.pinned (OpenSpec.ofChange fnExactWhereIsWrong)

/-- 'laws.FnExactValueAt': WHATEVER THE INPUT: true; the input reads as it did. -/
def fnExactValueAtSpec : ChangeSpec := { name := "fnExactValueAt", fn := fun _ => fun
  | [d1, d2] => { results := [.lit (.bool true)], args := [d1, d2] }
  | _ => none }
def fnExactValueAtRow : OpenClaim := { program := "ytmodpocjnafpdaa", sum := "ece6d643d3b58ef64304d67ee8d3ccaf21c43c33538467de7215cb2897f99fdb", func := "loop.example/g00548/laws.FnExactValueAt", spec := "fnExactValueAt", unfollowed := true, recurses := true, apart := false }
def FnExactValueAtSaid : Prop := fnExactValueAtRow.holds Try.pinned (OpenSpec.ofChange fnExactValueAtSpec)

/-- ITS FALSE NEIGHBOUR: 'it returns false'. Refute it at one input. -/
def fnExactValueAtWrong : ChangeSpec := { name := "fnExactValueAt", fn := fun _ => fun
  | [d1, d2] => { results := [.lit (.bool false)], args := [d1, d2] }
  | _ => none }
def FnExactValueAtWrongFalsely : Prop := fnExactValueAtRow.holds Try.pinned (OpenSpec.ofChange fnExactValueAtWrong)

/- THE SECOND FORM. 'bulk': how many values and letters a reading holds, each counted each time it is reached (what is shared counts as often as it is met; a slice's spare places count too). A statement '..UptoSaid' is the law's where the arguments, and the package variables that the reading takes, are together of bulk at most 1048576: NARROWER than '..Said'. Prove '..Said' where nothing that the law and all that it calls make is longer than what came in: it says more and counts as full. Else prove '..UptoSaid'. A law counts once. -/
mutual
def uptoBulk {H : Type} : DataW H → Nat
  | .lit (.string bytes) => bytes.length + 1
  | .lit _ => 1
  | .nil => 1
  | .ptr d => uptoBulk d + 1
  | .slice elems spare => uptoBulkAll elems + uptoBulkAll spare + 1
  | .agg parts => uptoBulkAll parts + 1
  | .iface _ d => uptoBulk d + 1
  | .map entries => uptoBulkEntries entries + 1
  | .held _ => 1
def uptoBulkAll {H : Type} : List (DataW H) → Nat
  | [] => 0
  | d :: r => uptoBulk d + uptoBulkAll r
def uptoBulkEntries {H : Type} : List (Lit × DataW H) → Nat
  | [] => 0
  | x :: r => uptoBulkEntry x + uptoBulkEntries r
def uptoBulkEntry {H : Type} : Lit × DataW H → Nat
  | (.string bytes, d) => bytes.length + uptoBulk d + 1
  | (_, d) => uptoBulk d + 1
 end
def uptoSmall : (H : Type) → List (DataW H) → Bool := fun _ ds => decide (uptoBulkAll ds ≤ 1048576)
def OpenSpec.upto (s : _root_.Go.ChangeSpec) : _root_.Go.OpenSpec := { _root_.Go.OpenSpec.ofChange s with cond := some uptoSmall }

/-- 'laws.FnExactOnPath', WHERE WHAT IT READS IS OF BULK AT MOST 1048576: true; the input reads as it did. -/
def fnExactOnPathUptoRow : OpenClaim := { program := "ytmodpocjnafpdaa", sum := "ece6d643d3b58ef64304d67ee8d3ccaf21c43c33538467de7215cb2897f99fdb", func := "loop.example/g00548/laws.FnExactOnPath", spec := "fnExactOnPath", apart := false, narrowed := true }
def FnExactOnPathUptoSaid : Prop := fnExactOnPathUptoRow.holds Try.pinned (OpenSpec.upto fnExactOnPathSpec)

/-- 'laws.FnExactPathOf', WHERE WHAT IT READS IS OF BULK AT MOST 1048576: true; the input reads as it did. -/
def fnExactPathOfUptoRow : OpenClaim := { program := "ytmodpocjnafpdaa", sum := "ece6d643d3b58ef64304d67ee8d3ccaf21c43c33538467de7215cb2897f99fdb", func := "loop.example/g00548/laws.FnExactPathOf", spec := "fnExactPathOf", apart := false, narrowed := true }
def FnExactPathOfUptoSaid : Prop := fnExactPathOfUptoRow.holds Try.pinned (OpenSpec.upto fnExactPathOfSpec)

/-- 'laws.FnExactSameOram', WHERE WHAT IT READS IS OF BULK AT MOST 1048576: true; the input reads as it did. -/
def fnExactSameOramUptoRow : OpenClaim := { program := "ytmodpocjnafpdaa", sum := "ece6d643d3b58ef64304d67ee8d3ccaf21c43c33538467de7215cb2897f99fdb", func := "loop.example/g00548/laws.FnExactSameOram", spec := "fnExactSameOram", unfollowed := true, recurses := true, apart := false, narrowed := true }
def FnExactSameOramUptoSaid : Prop := fnExactSameOramUptoRow.holds Try.pinned (OpenSpec.upto fnExactSameOramSpec)

/-- 'laws.FnExactNewOram', WHERE WHAT IT READS IS OF BULK AT MOST 1048576: true; the input reads as it did. -/
def fnExactNewOramUptoRow : OpenClaim := { program := "ytmodpocjnafpdaa", sum := "ece6d643d3b58ef64304d67ee8d3ccaf21c43c33538467de7215cb2897f99fdb", func := "loop.example/g00548/laws.FnExactNewOram", spec := "fnExactNewOram", unfollowed := true, recurses := true, apart := false, narrowed := true }
def FnExactNewOramUptoSaid : Prop := fnExactNewOramUptoRow.holds Try.pinned (OpenSpec.upto fnExactNewOramSpec)

/-- 'laws.FnExactOramOK', WHERE WHAT IT READS IS OF BULK AT MOST 1048576: true; the input reads as it did. -/
def fnExactOramOKUptoRow : OpenClaim := { program := "ytmodpocjnafpdaa", sum := "ece6d643d3b58ef64304d67ee8d3ccaf21c43c33538467de7215cb2897f99fdb", func := "loop.example/g00548/laws.FnExactOramOK", spec := "fnExactOramOK", unfollowed := true, recurses := true, apart := false, narrowed := true }
def FnExactOramOKUptoSaid : Prop := fnExactOramOKUptoRow.holds Try.pinned (OpenSpec.upto fnExactOramOKSpec)

/-- 'laws.FnExactWhereIs', WHERE WHAT IT READS IS OF BULK AT MOST 1048576: true; the input reads as it did. -/
def fnExactWhereIsUptoRow : OpenClaim := { program := "ytmodpocjnafpdaa", sum := "ece6d643d3b58ef64304d67ee8d3ccaf21c43c33538467de7215cb2897f99fdb", func := "loop.example/g00548/laws.FnExactWhereIs", spec := "fnExactWhereIs", unfollowed := true, recurses := true, apart := false, narrowed := true }
def FnExactWhereIsUptoSaid : Prop := fnExactWhereIsUptoRow.holds Try.pinned (OpenSpec.upto fnExactWhereIsSpec)

/-- 'laws.FnExactValueAt', WHERE WHAT IT READS IS OF BULK AT MOST 1048576: true; the input reads as it did. -/
def fnExactValueAtUptoRow : OpenClaim := { program := "ytmodpocjnafpdaa", sum := "ece6d643d3b58ef64304d67ee8d3ccaf21c43c33538467de7215cb2897f99fdb", func := "loop.example/g00548/laws.FnExactValueAt", spec := "fnExactValueAt", unfollowed := true, recurses := true, apart := false, narrowed := true }
def FnExactValueAtUptoSaid : Prop := fnExactValueAtUptoRow.holds Try.pinned (OpenSpec.upto fnExactValueAtSpec)

end Rows
end Go.Proofs.Ytmodpocjnafpdaa
