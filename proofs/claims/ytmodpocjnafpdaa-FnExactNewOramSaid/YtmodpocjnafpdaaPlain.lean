/-
  Plain facts on bytes, lists of numbers and the bits of numbers. Conditions: none.
-/
import Derived.Test.YtmodpocjnafpdaaWWords
import Derived.Laws.BitsLemmas
import Derived.Lib.Bytes
namespace Go.Proofs.Ytmodpocjnafpdaa.Leaf
open Go.RowKit Go.Proofs.YtmodpocjnafpdaaW.PrintWords

theorem bt_get (s : ByteArray) (j : Nat) (h : j < s.size) : bt s (j : Int) = ((s.data.toList[j]'(by rw [data_length]; exact h)).toNat : Int) := by
  unfold bt
  rw [dif_pos (show ((j : Int)).toNat < s.size from h)]
  rfl

theorem toList_iff (a b : ByteArray) : a.toList = b.toList ↔ a.size = b.size ∧ ∀ j : Nat, j < a.size → bt a (j : Int) = bt b (j : Int) := by
  rw [ByteArray.toList_eq, ByteArray.toList_eq]
  constructor
  · intro h
    have hs : a.size = b.size := by rw [← data_length a, ← data_length b, h]
    refine ⟨hs, fun j hj => ?_⟩
    rw [bt_get a j hj, bt_get b j (by omega)]
    simp only [h]
  · rintro ⟨hs, h⟩
    apply List.ext_getElem
    · rw [data_length, data_length, hs]
    · intro j h1 h2
      rw [data_length] at h1
      have e := h j h1
      rw [bt_get a j h1, bt_get b j (by omega)] at e
      exact UInt8.toNat_inj.1 (by exact_mod_cast e)

theorem xor_nat (k : IntKind) (j : Nat) (hj : j ≤ k.bits) (hk : ∀ n : Int, 0 ≤ n → n < 2 ^ j → k.wrap n = n) (a b : Nat) (ha : a < 2 ^ j) (hb : b < 2 ^ j) :
    Go.bits .xor k a b = ((a ^^^ b : Nat) : Int) := by
  have hp : 2 ^ j ≤ 2 ^ k.bits := Nat.pow_le_pow_right (by decide) hj
  have ha' : a % 2 ^ k.bits = a := Nat.mod_eq_of_lt (Nat.lt_of_lt_of_le ha hp)
  have hb' : b % 2 ^ k.bits = b := Nat.mod_eq_of_lt (Nat.lt_of_lt_of_le hb hp)
  simp only [bits, BitVec.ofInt_natCast, BitVec.toNat_xor, BitVec.toNat_ofNat, ha', hb']
  exact hk _ (Int.natCast_nonneg _) (by have := Nat.xor_lt_two_pow ha hb; exact_mod_cast this)

theorem wraps_i64 (n : Int) (h₀ : 0 ≤ n) (h₁ : n < 2 ^ 63) : IntKind.i64.wrap n = n := by rw [IntKind.wrap_i64]; omega
theorem wraps_u32 (n : Int) (h₀ : 0 ≤ n) (h₁ : n < 2 ^ 32) : IntKind.u32.wrap n = n := by rw [IntKind.wrap_u32]; omega

theorem xor_u8 (x y : Int) (hx0 : 0 ≤ x) (hx : x ≤ 255) (hy0 : 0 ≤ y) (hy : y ≤ 255) : Go.bits .xor .u8 x y = ((x.toNat ^^^ y.toNat : Nat) : Int) := by
  obtain ⟨a, rfl⟩ := Int.eq_ofNat_of_zero_le hx0
  obtain ⟨b, rfl⟩ := Int.eq_ofNat_of_zero_le hy0
  exact xor_nat .u8 8 (by decide) (fun n h0 h1 => wraps_u8 n h0 h1) a b (by omega) (by omega)

theorem xor_u8_zero (x y : Int) (hx0 : 0 ≤ x) (hx : x ≤ 255) (hy0 : 0 ≤ y) (hy : y ≤ 255) :
    0 ≤ Go.bits .xor .u8 x y ∧ Go.bits .xor .u8 x y ≤ 255 ∧ (Go.bits .xor .u8 x y = 0 ↔ x = y) := by
  rw [xor_u8 x y hx0 hx hy0 hy]
  have h := Nat.xor_lt_two_pow (n := 8) (x := x.toNat) (y := y.toNat) (by omega) (by omega)
  refine ⟨by omega, by omega, ?_⟩
  constructor
  · intro e
    have : x.toNat ^^^ y.toNat = 0 := by omega
    have e2 : x.toNat = y.toNat := by
      have h2 := congrArg (fun z => z ^^^ y.toNat) this
      simpa [Nat.xor_assoc] using h2
    omega
  · intro e; subst e; simp

theorem or_i64 (x y : Int) (hx0 : 0 ≤ x) (hx : x < 2 ^ 62) (hy0 : 0 ≤ y) (hy : y < 2 ^ 62) : Go.bits .or .i64 x y = ((x.toNat ||| y.toNat : Nat) : Int) := by
  obtain ⟨a, rfl⟩ := Int.eq_ofNat_of_zero_le hx0
  obtain ⟨b, rfl⟩ := Int.eq_ofNat_of_zero_le hy0
  exact (bits_nat .i64 63 (by decide) (fun n h0 h1 => wraps_i64 n h0 h1) a b (by omega) (by omega)).2

theorem or_i64_zero (x y : Int) (hx0 : 0 ≤ x) (hx : x ≤ 255) (hy0 : 0 ≤ y) (hy : y ≤ 255) :
    0 ≤ Go.bits .or .i64 x y ∧ Go.bits .or .i64 x y ≤ 255 ∧ (Go.bits .or .i64 x y = 0 ↔ x = 0 ∧ y = 0) := by
  rw [or_i64 x y hx0 (by omega) hy0 (by omega)]
  have h := Nat.or_lt_two_pow (n := 8) (x := x.toNat) (y := y.toNat) (by omega) (by omega)
  refine ⟨by omega, by omega, ?_⟩
  constructor
  · intro e
    have : x.toNat ||| y.toNat = 0 := by omega
    have := Nat.or_eq_zero_iff.1 this
    omega
  · rintro ⟨rfl, rfl⟩; rfl

theorem strOfNums_append (xs ys : List Int) : strOfNums (xs ++ ys) = strOfNums xs ++ strOfNums ys := by
  apply ByteArray.ext
  simp [strOfNums, ByteArray.data_append]

theorem wrap_ok (n : Int) (h0 : -9223372036854775808 ≤ n) (h1 : n ≤ 9223372036854775807) : wrap64 n = n := by unfold wrap64; omega

theorem bytesOf_get (s : ByteArray) (j : Nat) (h : j < (bytesOf s).length) : (bytesOf s)[j] = bt s (j : Int) := by
  have hj : j < s.size := by rw [bytesOf_length] at h; exact h
  rw [bt_get s j hj]
  simp [bytesOf]

theorem bytesOf_range (s : ByteArray) : bytesOf s = (List.range s.size).map fun (j : Nat) => bt s (j : Int) := by
  apply List.ext_getElem
  · rw [bytesOf_length]; simp
  · intro j h1 h2
    rw [bytesOf_get]; simp

end Go.Proofs.Ytmodpocjnafpdaa.Leaf
