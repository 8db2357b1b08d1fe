import Derived.Test.YtihpnededldedaaArr
/-! The loops of a function, in the order of the text: each may be walked in a declaration of its own. -/
namespace Go.Proofs.Ytihpnededldedaa.Leaf
open Go.RowKit

def loops : Code → List Code
  | .loop c => .loop c :: loops c
  | .seq a b => loops a ++ loops b
  | .block _ c => loops c
  | .scope c => loops c
  | .cond _ a b => loops a ++ loops b
  | _ => []
noncomputable def loopNo (f : Func) (i : Nat) : Code := ((f.body.map loops).getD []).getD i .skip

end Go.Proofs.Ytihpnededldedaa.Leaf
