/-
  A text xored with the stream, in plain words. Conditions: none.
-/
import Derived.Test.YtihpnededldedaaLeafC
import Derived.Test.YtihpnededldedaaLeafX
import Derived.Test.YtihpnededldedaaBits
namespace Go.Proofs.Ytihpnededldedaa.Leaf
open Go.RowKit Go.Shelf Go.Proofs.YtihpnededldedaaW.PrintWords Go.Proofs.YtihpnededldedaaW.PrintLast Go.Proofs.YtihpnededldedaaW.PrintMore

/-- Byte j of the text xored with the stream from block c on. -/
def chaByte (key nonce : ByteArray) (c : Nat) (t : ByteArray) (j : Nat) : Int := Go.bits .xor .u8 (bt t (j : Int)) (bt (chaBlk key nonce (c + j / 64)) ((j % 64 : Nat) : Int))
def chaNums (key nonce : ByteArray) (c : Nat) (t : ByteArray) (n : Nat) : List Int := (List.range n).map (chaByte key nonce c t)
def chaXorOf (key nonce : ByteArray) (c : Nat) (t : ByteArray) : ByteArray := strOfNums (chaNums key nonce c t t.size)
theorem chaNums_length (key nonce : ByteArray) (c : Nat) (t : ByteArray) (n : Nat) : (chaNums key nonce c t n).length = n := by simp [chaNums]
theorem chaXorOf_size (key nonce : ByteArray) (c : Nat) (t : ByteArray) : (chaXorOf key nonce c t).size = t.size := by unfold chaXorOf; rw [strOfNums_size, chaNums_length]
theorem chaNums_succ (key nonce : ByteArray) (c : Nat) (t : ByteArray) (n : Nat) : chaNums key nonce c t (n + 1) = chaNums key nonce c t n ++ [chaByte key nonce c t n] := by
  unfold chaNums; rw [List.range_succ, List.map_append]; rfl
theorem chaNums_step (key nonce : ByteArray) (c : Nat) (t : ByteArray) (k m : Nat) (hm : m ≤ 64) (h : 64 * k + m ≤ t.size) :
    chaNums key nonce c t (64 * k + m) = chaNums key nonce c t (64 * k) ++ xorNums (t.extract (64 * k) (64 * k + m)) (chaBlk key nonce (c + k)) := by
  unfold chaNums xorNums xorPart
  have hs : (t.extract (64 * k) (64 * k + m)).size = m := by rw [ByteArray.size_extract]; omega
  rw [List.range_add, List.map_append, List.map_map, hs]
  congr 1
  apply List.map_congr_left
  intro j hj
  have hj := List.mem_range.1 hj
  simp only [Function.comp]
  rw [if_pos hj, bt_extract t _ _ j (by omega) h]
  unfold chaByte
  rw [show (64 * k + j) / 64 = k by omega, show (64 * k + j) % 64 = j by omega]

end Go.Proofs.Ytihpnededldedaa.Leaf
