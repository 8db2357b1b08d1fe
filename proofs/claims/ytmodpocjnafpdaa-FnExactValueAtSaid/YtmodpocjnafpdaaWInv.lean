-- Written by a program of this session out of a printed text: what this claim does not reach is left out. Lean checks it.
import Derived.Test.YtmodpocjnafpdaaWTab
namespace Go.Proofs.YtmodpocjnafpdaaW.PrintLast
/-- Number i is listed too. -/
def up (b : Nat → Bool) (i : Nat) : Nat → Bool := fun j => if j = i then true else b j
end Go.Proofs.YtmodpocjnafpdaaW.PrintLast
