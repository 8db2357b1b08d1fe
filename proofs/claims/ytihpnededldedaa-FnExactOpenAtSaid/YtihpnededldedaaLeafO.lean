/-
  The program's nonce, as a list of bytes: the reference's. Conditions: none.
-/
import Derived.Test.YtihpnededldedaaLeafL
import Derived.Test.YtihpnededldedaaPlain
namespace Go.Proofs.Ytihpnededldedaa.Leaf
open Go.RowKit Go.Shelf Go.Proofs.YtihpnededldedaaW.PrintWords Go.Proofs.YtihpnededldedaaW.PrintLast Go.Proofs.YtihpnededldedaaW.PrintMore

def impl_nonceOf.f (a0 a1 a2 : Int) : Option ByteArray := some (strOfNums ([a0 % 256, a1 % 256, a1 / 256 % 256, 0] ++ littleNums a2 8))

theorem little_some (n m : Int) (h0 : 0 ≤ m) (h1 : m ≤ 8) (r : ByteArray) (hr : strOfNums (littleNums n m.toNat) = r) : impl_little.f n m = some r := by
  unfold impl_little.f; rw [if_pos ⟨h0, h1⟩, hr]

set_option maxHeartbeats 2000000 in
theorem impl_nonceOf.calls (a0 a1 a2 : Int) (r : ByteArray) (w : World) (h : impl_nonceOf.f a0 a1 a2 = some r) :
    Calls Try.prog 102 #[.int .i64 a0, .int .i64 a1, .int .i64 a2] w fun e w' => e = .returned (.string r) ∧ Below w.heap.size w w' := by
  have HR := Lib.hid (Option.some.inj h)
  clear h
  obtain ⟨x1, hx1⟩ : ∃ x, strOfNums (littleNums a0 (1 : Int).toNat) = x := ⟨_, rfl⟩
  obtain ⟨x2, hx2⟩ : ∃ x, strOfNums (littleNums a1 (2 : Int).toNat) = x := ⟨_, rfl⟩
  obtain ⟨x3, hx3⟩ : ∃ x, strOfNums (littleNums 0 (1 : Int).toNat) = x := ⟨_, rfl⟩
  obtain ⟨x4, hx4⟩ : ∃ x, strOfNums (littleNums a2 (8 : Int).toNat) = x := ⟨_, rfl⟩
  have l1 := fun W => impl_little.calls a0 1 x1 W (little_some a0 1 (by omega) (by omega) x1 hx1)
  have l2 := fun W => impl_little.calls a1 2 x2 W (little_some a1 2 (by omega) (by omega) x2 hx2)
  have l3 := fun W => impl_little.calls 0 1 x3 W (little_some 0 1 (by omega) (by omega) x3 hx3)
  have l4 := fun W => impl_little.calls a2 8 x4 W (little_some a2 8 (by omega) (by omega) x4 hx4)
  have s1 : x1.size = 1 := by rw [← hx1, strOfNums_size, littleNums_length]; rfl
  have s2 : x2.size = 2 := by rw [← hx2, strOfNums_size, littleNums_length]; rfl
  have s3 : x3.size = 1 := by rw [← hx3, strOfNums_size, littleNums_length]; rfl
  have s4 : x4.size = 8 := by rw [← hx4, strOfNums_size, littleNums_length]; rfl
  have HE := Lib.hid (show ((x1 ++ x2) ++ x3) ++ x4 = r by
    rw [← HR.out, ← hx1, ← hx2, ← hx3, ← hx4]
    rw [← strOfNums_append, ← strOfNums_append, ← strOfNums_append]
    congr 1
    have q1 : littleNums a0 (1 : Int).toNat = [a0 % 256] := by simp [littleNums, List.range_succ]
    have q2 : littleNums a1 (2 : Int).toNat = [a1 % 256, a1 / 256 % 256] := by simp [littleNums, List.range_succ]
    have q3 : littleNums 0 (1 : Int).toNat = [0] := by simp [littleNums, List.range_succ]
    rw [q1, q2, q3]; rfl)
  clear HR hx1 hx2 hx3 hx4
  have z1 : (x1 ++ x2).size = 3 := by rw [ByteArray.size_append]; omega
  have z2 : ((x1 ++ x2) ++ x3).size = 4 := by rw [ByteArray.size_append]; omega
  go_enter Try.func102, Try.ntmps102

  go_wp2_with (first
    | ((go_at_call 78; with_reducible refine (l1 _).mono ?_); rintro e w1 ⟨rfl, b1⟩)
    | ((go_at_call 78; with_reducible refine (l2 _).mono ?_); rintro e w2 ⟨rfl, b2⟩)
    | ((go_at_call 78; with_reducible refine (l3 _).mono ?_); rintro e w3 ⟨rfl, b3⟩)
    | ((go_at_call 78; with_reducible refine (l4 _).mono ?_); rintro e w4 ⟨rfl, b4⟩))
  go_ret
  exact ⟨ret_str HE.out, below_step (below_step (below_step (below_step (Below.refl _ _) b1) b2) b3) b4⟩

end Go.Proofs.Ytihpnededldedaa.Leaf
