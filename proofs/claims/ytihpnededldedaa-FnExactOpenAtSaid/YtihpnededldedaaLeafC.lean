/-
  The block of the stream, the program's and the reference's: one answer. Conditions: a key of 32 bytes, a nonce of 12, a count that is a word.
-/
import Derived.Test.YtihpnededldedaaMStr
import Derived.Test.YtihpnededldedaaMCha
namespace Go.Proofs.Ytihpnededldedaa.Leaf
open Go.RowKit Go.Shelf Go.Proofs.YtihpnededldedaaW.PrintWords Go.Proofs.YtihpnededldedaaW.PrintLast Go.Proofs.YtihpnededldedaaW.PrintMore Go.Proofs.Ytihpnededldedaa.PCha

theorem bt_strOf (xs : List Int) (j : Nat) (h : j < xs.length) (h0 : 0 ≤ xs[j]) (h1 : xs[j] ≤ 255) : bt (strOfNums xs) (j : Int) = xs[j] := by
  have hs : j < (strOfNums xs).size := by rw [strOfNums_size]; exact h
  rw [bt_get _ j hs]
  simp only [strOfNums, List.getElem_map, UInt8.toNat_ofNat']
  omega
theorem wordAt_little (count : Nat) (hc : count < 2 ^ 32) : wordAt (strOfNums (littleNums (count : Int) 4)) 0 = count := by
  have h : littleNums (count : Int) 4 = [((count % 256 : Nat) : Int), ((count / 256 % 256 : Nat) : Int), ((count / 65536 % 256 : Nat) : Int), ((count / 16777216 % 256 : Nat) : Int)] := by
    simp [littleNums, List.range_succ]
  unfold wordAt
  rw [h, bt_strOf _ 0 (by simp only [List.length_cons, List.length_nil]; omega) (by simp only [List.getElem_cons_zero]; omega) (by simp only [List.getElem_cons_zero]; omega),
    bt_strOf _ (0 + 1) (by simp only [List.length_cons, List.length_nil]; omega) (by simp only [List.getElem_cons_succ, List.getElem_cons_zero]; omega) (by simp only [List.getElem_cons_succ, List.getElem_cons_zero]; omega),
    bt_strOf _ (0 + 2) (by simp only [List.length_cons, List.length_nil]; omega) (by simp only [List.getElem_cons_succ, List.getElem_cons_zero]; omega) (by simp only [List.getElem_cons_succ, List.getElem_cons_zero]; omega),
    bt_strOf _ (0 + 3) (by simp only [List.length_cons, List.length_nil]; omega) (by simp only [List.getElem_cons_succ, List.getElem_cons_zero]; omega) (by simp only [List.getElem_cons_succ, List.getElem_cons_zero]; omega)]
  simp only [List.getElem_cons_succ, List.getElem_cons_zero, Int.toNat_natCast]
  unfold le32
  have a1 : count % 256 ||| count / 256 % 256 * 256 = count % 65536 := by
    have := Nat.two_pow_add_eq_or_of_lt (i := 8) (b := count % 256) (by omega) (count / 256 % 256)
    rw [Nat.or_comm, Nat.mul_comm, show (256 : Nat) = 2 ^ 8 from rfl, ← this]; omega
  have a2 : count % 65536 ||| count / 65536 % 256 * 65536 = count % 16777216 := by
    have := Nat.two_pow_add_eq_or_of_lt (i := 16) (b := count % 65536) (by omega) (count / 65536 % 256)
    rw [Nat.or_comm, Nat.mul_comm, show (65536 : Nat) = 2 ^ 16 from rfl, ← this]; omega
  have a3 : count % 16777216 ||| count / 16777216 % 256 * 16777216 = count := by
    have := Nat.two_pow_add_eq_or_of_lt (i := 24) (b := count % 16777216) (by omega) (count / 16777216 % 256)
    rw [Nat.or_comm, Nat.mul_comm, show (16777216 : Nat) = 2 ^ 24 from rfl, ← this]; omega
  rw [a1, a2, a3]

def impl_stream.f (a0 a1 : ByteArray) (a2 : Int) : Option ByteArray := if a0.size = 32 ∧ a1.size = 12 ∧ 0 ≤ a2 ∧ a2 < 4294967296 then some (chaBlk a0 a1 a2.toNat) else none
theorem impl_stream.calls (a0 a1 : ByteArray) (a2 : Int) (r : ByteArray) (w : World) (h : impl_stream.f a0 a1 a2 = some r) :
    Calls Try.prog 47 #[.string a0, .string a1, .int .i64 a2] w fun e w' => e = .returned (.string r) ∧ Below w.heap.size w w' := by
  unfold impl_stream.f at h
  by_cases hs : a0.size = 32 ∧ a1.size = 12 ∧ 0 ≤ a2 ∧ a2 < 4294967296
  · rw [if_pos hs] at h
    cases h
    obtain ⟨h1, h2, h3, h4⟩ := hs
    obtain ⟨n, rfl⟩ := Int.eq_ofNat_of_zero_le h3
    rw [Int.toNat_natCast]
    have hn : n < 2 ^ 32 := by omega
    exact stream_calls a0 a1 n h1 h2 hn (wordAt_little n hn) w
  · rw [if_neg hs] at h; cases h
def spec_l02Block.f (a0 a1 : ByteArray) (a2 : Int) : Option ByteArray := if a0.size = 32 ∧ a1.size = 12 ∧ 0 ≤ a2 ∧ a2 < 4294967296 then some (chaBlk a0 a1 a2.toNat) else none
theorem spec_l02Block.calls (a0 a1 : ByteArray) (a2 : Int) (r : ByteArray) (w : World) (h : spec_l02Block.f a0 a1 a2 = some r) :
    Calls Try.prog 45 #[.string a0, .string a1, .int .i64 a2] w fun e w' => e = .returned (.string r) ∧ Below w.heap.size w w' := by
  unfold spec_l02Block.f at h
  by_cases hs : a0.size = 32 ∧ a1.size = 12 ∧ 0 ≤ a2 ∧ a2 < 4294967296
  · rw [if_pos hs] at h
    cases h
    obtain ⟨h1, h2, h3, h4⟩ := hs
    obtain ⟨n, rfl⟩ := Int.eq_ofNat_of_zero_le h3
    rw [Int.toNat_natCast]
    have hn : n < 2 ^ 32 := by omega
    exact l02Block_calls a0 a1 n h1 h2 hn w
  · rw [if_neg hs] at h; cases h

end Go.Proofs.Ytihpnededldedaa.Leaf
