/-
  The tag of a text, the program's and the reference's: one answer. Conditions: a key of 32 bytes, a text of a million bytes at most.
-/
import Derived.Test.YtihpnededldedaaMPol4
namespace Go.Proofs.Ytihpnededldedaa.Leaf
open Go.RowKit Go.Shelf Go.Proofs.YtihpnededldedaaW.PrintWords Go.Proofs.YtihpnededldedaaW.PrintLast Go.Proofs.YtihpnededldedaaW.PrintMore Go.Proofs.Ytihpnededldedaa.Pol

def impl_tag.f (a0 a1 : ByteArray) : Option ByteArray := if a0.size = 32 ∧ a1.size ≤ 1000000 then some (tagOf a0 a1) else none
theorem impl_tag.calls (a0 a1 : ByteArray) (r : ByteArray) (w : World) (h : impl_tag.f a0 a1 = some r) :
    Calls Try.prog 50 #[.string a0, .string a1] w fun e w' => e = .returned (.string r) ∧ Below w.heap.size w w' := by
  unfold impl_tag.f at h
  by_cases hs : a0.size = 32 ∧ a1.size ≤ 1000000
  · rw [if_pos hs] at h
    rw [← Option.some.inj h]
    exact tag_calls a0 a1 hs.1 hs.2 w
  · rw [if_neg hs] at h; cases h
def spec_l03Tag.f (a0 a1 : ByteArray) : Option ByteArray := if a0.size = 32 ∧ a1.size ≤ 1000000 then some (tagOf a0 a1) else none
theorem spec_l03Tag.calls (a0 a1 : ByteArray) (r : ByteArray) (w : World) (h : spec_l03Tag.f a0 a1 = some r) :
    Calls Try.prog 48 #[.string a0, .string a1] w fun e w' => e = .returned (.string r) ∧ Below w.heap.size w w' := by
  unfold spec_l03Tag.f at h
  by_cases hs : a0.size = 32 ∧ a1.size ≤ 1000000
  · rw [if_pos hs] at h
    rw [← Option.some.inj h]
    exact l03Tag_calls a0 a1 hs.1 hs.2 w
  · rw [if_neg hs] at h; cases h
theorem tagOf_size (a0 a1 : ByteArray) : (tagOf a0 a1).size = 16 := by
  unfold tagOf; rw [strOfNums_size, List.length_map, tagNums_length]

end Go.Proofs.Ytihpnededldedaa.Leaf
