/-
  areAll, handed isDigest or isContent, answers whether all texts have 32 bytes, or at most 700. Conditions: none.
-/
import Derived.Test.YtkmecmcioniooaaAllS
namespace Go.Proofs.Ytkmecmcioniooaa.Leaf
open Go.RowKit Go.Shelf Go.Proofs.YtkmecmcioniooaaW.PrintWords Go.Proofs.YtkmecmcioniooaaW.PrintLast Go.Proofs.YtkmecmcioniooaaW.PrintMore

theorem isContentB (w : World) : PredB 43 #[] Value.string (fun t : ByteArray => decide ((t.size : Int) ≤ 700)) w := by
  intro W x _
  go_enter Try.func43, Try.ntmps43
  go_wp2
  go_ret
  exact ⟨rfl, Below.refl _ _⟩

def areAll_isContent.f (l0 : List ByteArray) : Option Bool := some (l0.all fun t => decide ((t.size : Int) ≤ 700))
theorem areAll_isContent.calls (A0 : Option Addr) (c0 : Nat) (l0 : List ByteArray) (r : Bool) (w : World) (hr0 : Kd.C Kd.string w A0 l0.length l0) (_hc0 : l0.length ≤ c0) (h : areAll_isContent.f l0 = some r) :
    Calls Try.prog 42 #[.slice A0 l0.length c0, .func (.func 43) #[] #[]] w fun e w' => e = .returned (.bool r) ∧ Below w.heap.size w w' := by
  obtain rfl := Option.some.inj h
  exact areAllS 43 #[] (fun t : ByteArray => decide ((t.size : Int) ≤ 700)) (enters_of Try.func43 (by kernel_rfl) rfl) A0 c0 l0 w hr0 (isContentB w)

end Go.Proofs.Ytkmecmcioniooaa.Leaf
