/-
  padded answers the text with zeros behind, up to a multiple of sixteen. Conditions: at most a million bytes.
-/
import Derived.Test.YtihpnededldedaaBld
import Derived.Test.YtihpnededldedaaBase
namespace Go.Proofs.Ytihpnededldedaa.Leaf
open Go.RowKit Go.Shelf Go.Proofs.YtihpnededldedaaW.PrintWords Go.Proofs.YtihpnededldedaaW.PrintLast Go.Proofs.YtihpnededldedaaW.PrintMore

/-- n zeros. -/
def zerosB (n : Nat) : ByteArray := ⟨(Lib.repeatL [0] n).toArray⟩
theorem zerosB_size (n : Nat) : (zerosB n).size = n := by
  show (Lib.repeatL [0] n).toArray.size = n
  rw [List.size_toArray, Lib.repeatL_length]; simp
def padOf (a : ByteArray) : ByteArray := a ++ zerosB ((16 - a.size % 16) % 16)
def impl_padded.f (a0 : ByteArray) : Option ByteArray := if a0.size ≤ 1000000 then some (padOf a0) else none

set_option maxHeartbeats 2000000 in
theorem impl_padded.calls (a0 : ByteArray) (r : ByteArray) (w : World) (h : impl_padded.f a0 = some r) :
    Calls Try.prog 95 #[.string a0] w fun e w' => e = .returned (.string r) ∧ Below w.heap.size w w' := by
  unfold impl_padded.f at h
  by_cases hs : a0.size ≤ 1000000
  · rw [if_pos hs] at h
    have HR := Lib.hid (Option.some.inj h)
    clear h
    obtain ⟨m, hm⟩ : ∃ m, (16 - a0.size % 16) % 16 = m := ⟨_, rfl⟩
    have hml : m < 16 := by rw [← hm]; exact Nat.mod_lt _ (by decide)
    have HM := Lib.hid (show padOf a0 = a0 ++ zerosB m by unfold padOf; rw [hm])
    have C := fun W => Try.strings_Repeat ⟨#[0]⟩ m W (by omega) (by show 1 * m ≤ _; omega)
    have C' : ∀ W, Calls Try.prog 109 #[.string ⟨#[0]⟩, .int .i64 (m : Int)] W fun e w' => e = .returned (.string (zerosB m)) ∧ Below W.heap.size W w' := C
    have hz := zerosB_size m
    generalize zerosB m = z at C' HM hz
    have e1 : (16 - (a0.size : Int) % 16) % 16 = (m : Int) := by omega
    have k1 : (a0.size + z.size ≤ 9223372036854775807) = True := eq_true (by omega)
    have k2 : (9223372036854775807 < a0.size + z.size) = False := eq_false (by omega)
    clear hm hz C
    go_enter Try.func95, Try.ntmps95
    go_wp2_with (go_at_call 109; with_reducible refine (C' _).mono ?_; rintro e w1 ⟨rfl, hb⟩)
    go_ret
    exact ⟨ret_str (by rw [← HR.out, HM.out]), hb⟩
  · rw [if_neg hs] at h; cases h

end Go.Proofs.Ytihpnededldedaa.Leaf
