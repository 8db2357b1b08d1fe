/-
  areAll, handed isDigest or isContent, answers whether all texts have 32 bytes, or at most 700. Conditions: none.
-/
import Derived.Test.YtajbljegeiebjaaAllS
namespace Go.Proofs.Ytajbljegeiebjaa.Leaf
open Go.RowKit Go.Shelf Go.Proofs.YtajbljegeiebjaaW.PrintWords Go.Proofs.YtajbljegeiebjaaW.PrintLast Go.Proofs.YtajbljegeiebjaaW.PrintMore

theorem isDigestB (w : World) : PredB 54 #[] Value.string (fun t : ByteArray => ((t.size : Int) == 32)) w := by
  intro W x _
  go_enter Try.func54, Try.ntmps54
  go_wp2
  go_ret
  exact ⟨rfl, Below.refl _ _⟩
theorem isContentB (w : World) : PredB 77 #[] Value.string (fun t : ByteArray => decide ((t.size : Int) ≤ 700)) w := by
  intro W x _
  go_enter Try.func77, Try.ntmps77
  go_wp2
  go_ret
  exact ⟨rfl, Below.refl _ _⟩

def areAll_isDigest.f (l0 : List ByteArray) : Option Bool := some (l0.all fun t => ((t.size : Int) == 32))
theorem areAll_isDigest.calls (A0 : Option Addr) (c0 : Nat) (l0 : List ByteArray) (r : Bool) (w : World) (hr0 : Kd.C Kd.string w A0 l0.length l0) (_hc0 : l0.length ≤ c0) (h : areAll_isDigest.f l0 = some r) :
    Calls Try.prog 66 #[.slice A0 l0.length c0, .func (.func 54) #[] #[]] w fun e w' => e = .returned (.bool r) ∧ Below w.heap.size w w' := by
  obtain rfl := Option.some.inj h
  exact areAllS 54 #[] (fun t : ByteArray => ((t.size : Int) == 32)) (enters_of Try.func54 (by kernel_rfl) rfl) A0 c0 l0 w hr0 (isDigestB w)
def areAll_isContent.f (l0 : List ByteArray) : Option Bool := some (l0.all fun t => decide ((t.size : Int) ≤ 700))
theorem areAll_isContent.calls (A0 : Option Addr) (c0 : Nat) (l0 : List ByteArray) (r : Bool) (w : World) (hr0 : Kd.C Kd.string w A0 l0.length l0) (_hc0 : l0.length ≤ c0) (h : areAll_isContent.f l0 = some r) :
    Calls Try.prog 66 #[.slice A0 l0.length c0, .func (.func 77) #[] #[]] w fun e w' => e = .returned (.bool r) ∧ Below w.heap.size w w' := by
  obtain rfl := Option.some.inj h
  exact areAllS 77 #[] (fun t : ByteArray => decide ((t.size : Int) ≤ 700)) (enters_of Try.func77 (by kernel_rfl) rfl) A0 c0 l0 w hr0 (isContentB w)

end Go.Proofs.Ytajbljegeiebjaa.Leaf
