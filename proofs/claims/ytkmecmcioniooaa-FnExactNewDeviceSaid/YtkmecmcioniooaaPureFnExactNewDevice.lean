/- FnExactNewDevice answers true: NewDevice gives what the reference gives. The statement has no argument: it is computed. Conditions: none. -/
import Derived.Test.YtkmecmcioniooaaPFnExactNewDevicex3
namespace Go.Proofs.Ytkmecmcioniooaa.Pure
open Go.RowKit Go.Proofs.Ytkmecmcioniooaa.PFnExactNewDevice Go.Proofs.YtkmecmcioniooaaW.PrintWords Go.Proofs.YtkmecmcioniooaaW.PrintLast
theorem FnExactNewDevice : laws_FnExactNewDevice.Pure := ⟨60, by decide +kernel⟩
end Go.Proofs.Ytkmecmcioniooaa.Pure
