/-
  slices.EqualFunc, handed slices.Equal at blocks: whether all rows are alike. Conditions: none.
-/
import Derived.Test.YtmodpocjnafpdaaBase
import Derived.Test.YtmodpocjnafpdaaPlain
import Derived.Test.YtmodpocjnafpdaaPOrax5
namespace Go.Proofs.Ytmodpocjnafpdaa.Leaf
open Go.RowKit Go.Shelf Go.Proofs.YtmodpocjnafpdaaW.PrintWords Go.Proofs.YtmodpocjnafpdaaW.PrintLast Go.Proofs.YtmodpocjnafpdaaW.PrintMore Go.Proofs.Ytmodpocjnafpdaa.POra
def equalFunc_Block.l (k : Nat) : List (List S61) → List (List S61) → Option Bool
  | x :: xs, y :: ys => (impl_Block_47.f k x y).bind fun t => if t = true then equalFunc_Block.l k xs ys else some false
  | _, _ => some true
end Go.Proofs.Ytmodpocjnafpdaa.Leaf
