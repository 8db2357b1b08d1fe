/-
  areShort answers whether all texts have at most 65536 bytes. Conditions: none.
-/
import Derived.Test.YtihpnededldedaaAllS
namespace Go.Proofs.Ytihpnededldedaa.Leaf
open Go.RowKit Go.Shelf Go.Proofs.YtihpnededldedaaW.PrintWords Go.Proofs.YtihpnededldedaaW.PrintLast Go.Proofs.YtihpnededldedaaW.PrintMore

theorem isShortB (w : World) : PredB 86 #[] Value.string (fun t : ByteArray => decide ((t.size : Int) ≤ 65536)) w := by
  intro W x _
  go_enter Try.func86, Try.ntmps86
  go_wp2
  go_ret
  exact ⟨rfl, Below.refl _ _⟩

def impl_areShort.f (l0 : List ByteArray) : Option Bool := some (l0.all fun t => decide ((t.size : Int) ≤ 65536))

set_option maxHeartbeats 1000000 in
theorem impl_areShort.calls (A0 : Option Addr) (c0 : Nat) (l0 : List ByteArray) (r : Bool) (w : World) (hr0 : Kd.C Kd.string w A0 l0.length l0) (_hc0 : l0.length ≤ c0) (h : impl_areShort.f l0 = some r) :
    Calls Try.prog 49 #[.slice A0 l0.length c0] w fun e w' => e = .returned (.bool r) ∧ Below w.heap.size w w' := by
  obtain rfl := Option.some.inj h
  have hc := areAllS 86 #[] (fun t : ByteArray => decide ((t.size : Int) ≤ 65536)) (enters_of Try.func86 (by kernel_rfl) rfl) A0 c0 l0 w hr0 (isShortB w)
  clear h hr0
  generalize (l0.all fun t => decide ((t.size : Int) ≤ 65536)) = b at hc
  go_enter Try.func49, Try.ntmps49
  go_wp2_with (go_at_call 85; refine hc.mono ?_; rintro e w' ⟨rfl, hb⟩)
  go_ret
  exact ⟨rfl, hb⟩

end Go.Proofs.Ytihpnededldedaa.Leaf
