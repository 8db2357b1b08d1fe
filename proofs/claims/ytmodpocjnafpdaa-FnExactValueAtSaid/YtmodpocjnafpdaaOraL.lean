/-
  areAll, handed isLeaf, answers whether all numbers are leaves. Conditions: none.
-/
import Derived.Test.YtmodpocjnafpdaaAllI
namespace Go.Proofs.Ytmodpocjnafpdaa.Leaf
open Go.RowKit Go.Shelf Go.Proofs.YtmodpocjnafpdaaW.PrintWords Go.Proofs.YtmodpocjnafpdaaW.PrintLast Go.Proofs.YtmodpocjnafpdaaW.PrintMore

def inLeaves (a : Int) : Bool := decide (0 ≤ a) && decide (a ≤ 7)
theorem isLeaf_calls (a : Int) (w : World) : Calls Try.prog 36 #[.int .i64 a] w fun e w' => e = .returned (.bool (inLeaves a)) ∧ w = w' := by
  have C := fun W => within_calls a 0 7 W
  obtain ⟨r, hr⟩ : ∃ r, inLeaves a = r := ⟨_, rfl⟩
  have C' : ∀ W, Calls Try.prog 35 #[.int .i64 a, .int .i64 0, .int .i64 7] W fun e w' => e = .returned (.bool r) ∧ W = w' := fun W => hr ▸ C W
  rw [hr]
  clear C hr
  go_enter Try.func36, Try.ntmps36
  go_wp2_with (go_at_call 35; with_reducible refine (C' _).mono ?_; rintro e w1 ⟨rfl, rfl⟩)
  go_ret
  exact ⟨rfl, rfl⟩
theorem isLeaf_pred (w : World) : PredB 36 #[] (Value.int .i64) inLeaves w := fun W x _ => (isLeaf_calls x W).mono fun _ _ ⟨h, e⟩ => ⟨h, e ▸ Below.refl _ _⟩
def areAll_isLeaf.f (l0 : List Int) : Option Bool := some (l0.all inLeaves)
theorem areAll_isLeaf.calls (A0 : Option Addr) (c0 : Nat) (l0 : List Int) (r : Bool) (w : World) (hr0 : Kd.C (Kd.int .i64) w A0 l0.length l0) (_hc0 : l0.length ≤ c0) (h : areAll_isLeaf.f l0 = some r) :
    Calls Try.prog 60 #[.slice A0 l0.length c0, .func (.func 36) #[] #[]] w fun e w' => e = .returned (.bool r) ∧ Below w.heap.size w w' := by
  obtain rfl := Option.some.inj h
  exact areAllI 36 #[] inLeaves (enters_of Try.func36 (by kernel_rfl) rfl) A0 c0 l0 w hr0 (isLeaf_pred w)

end Go.Proofs.Ytmodpocjnafpdaa.Leaf
