/- FnExactConstants answers true: each exported constant has the given value. Conditions: none. -/
import Derived.Test.YtahebengjoffeaaPFnExactConstantsx1
namespace Go.Proofs.Ytahebengjoffeaa.Pure
open Go.RowKit Go.Proofs.Ytahebengjoffeaa.PFnExactConstants Go.Proofs.YtahebengjoffeaaW.PrintWords Go.Proofs.YtahebengjoffeaaW.PrintLast
theorem FnExactConstants : laws_FnExactConstants.Pure := rfl
end Go.Proofs.Ytahebengjoffeaa.Pure
