/- Bytes of two texts put together. Conditions: none. -/
import Derived.Test.YtihpnededldedaaPlain
namespace Go.Proofs.Ytihpnededldedaa.Leaf
open Go.RowKit Go.Proofs.YtihpnededldedaaW.PrintWords

theorem bt_left (a b : ByteArray) (j : Nat) (h : j < a.size) : bt (a ++ b) (j : Int) = bt a (j : Int) := by
  rw [bt_get a j h, bt_get (a ++ b) j (by rw [ByteArray.size_append]; omega)]
  congr 2
  simp only [ByteArray.data_append, Array.toList_append]
  rw [List.getElem_append_left]
theorem bt_right (a b : ByteArray) (j : Nat) (h : j < b.size) : bt (a ++ b) ((a.size + j : Nat) : Int) = bt b (j : Int) := by
  rw [bt_get b j h, bt_get (a ++ b) (a.size + j) (by rw [ByteArray.size_append]; omega)]
  congr 2
  simp only [ByteArray.data_append, Array.toList_append]
  rw [List.getElem_append_right (by rw [data_length]; omega)]
  congr 1
  rw [data_length]; omega

end Go.Proofs.Ytihpnededldedaa.Leaf
