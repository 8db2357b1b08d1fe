/-
  Plain facts on bytes, lists of numbers and the bits of numbers. Conditions: none.
-/
import Derived.Test.YtmodpocjnafpdaaWWords
import Derived.Laws.BitsLemmas
import Derived.Lib.Bytes
namespace Go.Proofs.Ytmodpocjnafpdaa.Leaf
open Go.RowKit Go.Proofs.YtmodpocjnafpdaaW.PrintWords
theorem wrap_ok (n : Int) (h0 : -9223372036854775808 ≤ n) (h1 : n ≤ 9223372036854775807) : wrap64 n = n := by unfold wrap64; omega
end Go.Proofs.Ytmodpocjnafpdaa.Leaf
