import Derived.Test.YtmodpocjnafpdaaPlain
/-! Bits of whole numbers as bits of natural numbers; a part of a string. -/
namespace Go.Proofs.Ytmodpocjnafpdaa.Leaf
open Go.RowKit Go.Proofs.YtmodpocjnafpdaaW.PrintWords

theorem and_i64 (a b : Nat) (ha : a < 2 ^ 63) (hb : b < 2 ^ 63) : Go.bits .and .i64 (a : Int) (b : Int) = ((a &&& b : Nat) : Int) :=
  (bits_nat .i64 63 (by decide) (fun n h0 h1 => wraps_i64 n h0 h1) a b ha hb).1
theorem or_i64' (a b : Nat) (ha : a < 2 ^ 63) (hb : b < 2 ^ 63) : Go.bits .or .i64 (a : Int) (b : Int) = ((a ||| b : Nat) : Int) :=
  (bits_nat .i64 63 (by decide) (fun n h0 h1 => wraps_i64 n h0 h1) a b ha hb).2
theorem xor_i64 (a b : Nat) (ha : a < 2 ^ 63) (hb : b < 2 ^ 63) : Go.bits .xor .i64 (a : Int) (b : Int) = ((a ^^^ b : Nat) : Int) :=
  xor_nat .i64 63 (by decide) (fun n h0 h1 => wraps_i64 n h0 h1) a b ha hb
theorem and_u32 (a b : Nat) (ha : a < 2 ^ 32) (hb : b < 2 ^ 32) : Go.bits .and .u32 (a : Int) (b : Int) = ((a &&& b : Nat) : Int) :=
  (bits_nat .u32 32 (by decide) (fun n h0 h1 => wraps_u32 n h0 h1) a b ha hb).1
theorem or_u32 (a b : Nat) (ha : a < 2 ^ 32) (hb : b < 2 ^ 32) : Go.bits .or .u32 (a : Int) (b : Int) = ((a ||| b : Nat) : Int) :=
  (bits_nat .u32 32 (by decide) (fun n h0 h1 => wraps_u32 n h0 h1) a b ha hb).2
theorem xor_u32 (a b : Nat) (ha : a < 2 ^ 32) (hb : b < 2 ^ 32) : Go.bits .xor .u32 (a : Int) (b : Int) = ((a ^^^ b : Nat) : Int) :=
  xor_nat .u32 32 (by decide) (fun n h0 h1 => wraps_u32 n h0 h1) a b ha hb

theorem bt_nat (s : ByteArray) (i : Int) : ∃ n : Nat, bt s i = (n : Int) ∧ n ≤ 255 := by
  obtain ⟨h0, h1⟩ := bt_range s i
  exact ⟨(bt s i).toNat, by omega, by omega⟩

theorem bt_extract (s : ByteArray) (a b j : Nat) (h : a + j < b) (hb : b ≤ s.size) : bt (s.extract a b) (j : Int) = bt s ((a + j : Nat) : Int) := by
  have hs : j < (s.extract a b).size := by rw [ByteArray.size_extract]; omega
  rw [bt_get _ j hs, bt_get s (a + j) (by omega)]
  simp only [ByteArray.data_extract, Array.toList_extract, List.extract_eq_take_drop, List.getElem_take, List.getElem_drop]

/-- Four bytes as one number, the lowest first. -/
def le32 (x0 x1 x2 x3 : Nat) : Nat := x0 ||| x1 * 256 ||| x2 * 65536 ||| x3 * 16777216
theorem le32_lt (x0 x1 x2 x3 : Nat) (h0 : x0 ≤ 255) (h1 : x1 ≤ 255) (h2 : x2 ≤ 255) (h3 : x3 ≤ 255) : x0 ||| x1 * 256 < 2 ^ 32 ∧ x0 ||| x1 * 256 ||| x2 * 65536 < 2 ^ 32 ∧ le32 x0 x1 x2 x3 < 2 ^ 32 := by
  have g1 : x0 ||| x1 * 256 < 2 ^ 32 := Nat.or_lt_two_pow (by omega) (by omega)
  have g2 : x0 ||| x1 * 256 ||| x2 * 65536 < 2 ^ 32 := Nat.or_lt_two_pow g1 (by omega)
  exact ⟨g1, g2, Nat.or_lt_two_pow g2 (by omega)⟩
theorem le32_i64 (x0 x1 x2 x3 : Nat) (h0 : x0 ≤ 255) (h1 : x1 ≤ 255) (h2 : x2 ≤ 255) (h3 : x3 ≤ 255) :
    Go.bits .or .i64 (Go.bits .or .i64 (Go.bits .or .i64 (wrap64 (x0 : Int)) (wrap64 (wrap64 (x1 : Int) * 256))) (wrap64 (wrap64 (x2 : Int) * 65536))) (wrap64 (wrap64 (x3 : Int) * 16777216)) = ((le32 x0 x1 x2 x3 : Nat) : Int) := by
  obtain ⟨g1, g2, _⟩ := le32_lt x0 x1 x2 x3 h0 h1 h2 h3
  have a0 : wrap64 (x0 : Int) = (x0 : Nat) := wrap_ok _ (by omega) (by omega)
  have a1 : wrap64 (wrap64 (x1 : Int) * 256) = ((x1 * 256 : Nat) : Int) := by rw [wrap_ok (x1 : Int) (by omega) (by omega), wrap_ok _ (by omega) (by omega)]; omega
  have a2 : wrap64 (wrap64 (x2 : Int) * 65536) = ((x2 * 65536 : Nat) : Int) := by rw [wrap_ok (x2 : Int) (by omega) (by omega), wrap_ok _ (by omega) (by omega)]; omega
  have a3 : wrap64 (wrap64 (x3 : Int) * 16777216) = ((x3 * 16777216 : Nat) : Int) := by rw [wrap_ok (x3 : Int) (by omega) (by omega), wrap_ok _ (by omega) (by omega)]; omega
  rw [a0, a1, a2, a3, or_i64' x0 _ (by omega) (by omega), or_i64' _ _ (Nat.lt_trans g1 (by decide)) (by omega), or_i64' _ _ (Nat.lt_trans g2 (by decide)) (by omega)]
  rfl
theorem le32_u32 (x0 x1 x2 x3 : Nat) (h0 : x0 ≤ 255) (h1 : x1 ≤ 255) (h2 : x2 ≤ 255) (h3 : x3 ≤ 255) :
    Go.bits .or .u32 (Go.bits .or .u32 (Go.bits .or .u32 ((x0 : Int) % 4294967296) ((((x1 : Int) % 4294967296) * 256) % 4294967296)) ((((x2 : Int) % 4294967296) * 65536) % 4294967296)) ((((x3 : Int) % 4294967296) * 16777216) % 4294967296) = ((le32 x0 x1 x2 x3 : Nat) : Int) := by
  obtain ⟨g1, g2, _⟩ := le32_lt x0 x1 x2 x3 h0 h1 h2 h3
  have a0 : (x0 : Int) % 4294967296 = (x0 : Nat) := by omega
  have a1 : (((x1 : Int) % 4294967296) * 256) % 4294967296 = ((x1 * 256 : Nat) : Int) := by omega
  have a2 : (((x2 : Int) % 4294967296) * 65536) % 4294967296 = ((x2 * 65536 : Nat) : Int) := by omega
  have a3 : (((x3 : Int) % 4294967296) * 16777216) % 4294967296 = ((x3 * 16777216 : Nat) : Int) := by omega
  rw [a0, a1, a2, a3, or_u32 x0 _ (by omega) (by omega), or_u32 _ _ g1 (by omega), or_u32 _ _ g2 (by omega)]
  rfl

end Go.Proofs.Ytmodpocjnafpdaa.Leaf
