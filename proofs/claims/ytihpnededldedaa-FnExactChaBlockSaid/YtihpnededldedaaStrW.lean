/-
  The sixteen first words of the key stream, out of one text of 64 bytes. Conditions: the sizes of key, count's bytes and nonce.
-/
import Derived.Test.YtihpnededldedaaChaB
namespace Go.Proofs.Ytihpnededldedaa.Leaf
open Go.RowKit Go.Shelf Go.Proofs.YtihpnededldedaaW.PrintWords Go.Proofs.YtihpnededldedaaW.PrintLast Go.Proofs.YtihpnededldedaaW.PrintMore Go.Proofs.Ytihpnededldedaa.PCha

theorem bt_left (a b : ByteArray) (j : Nat) (h : j < a.size) : bt (a ++ b) (j : Int) = bt a (j : Int) := by
  rw [bt_get a j h, bt_get (a ++ b) j (by rw [ByteArray.size_append]; omega)]
  congr 2
  simp only [ByteArray.data_append, Array.toList_append]
  rw [List.getElem_append_left]
theorem bt_right (a b : ByteArray) (j : Nat) (h : j < b.size) : bt (a ++ b) ((a.size + j : Nat) : Int) = bt b (j : Int) := by
  rw [bt_get b j h, bt_get (a ++ b) (a.size + j) (by rw [ByteArray.size_append]; omega)]
  congr 2
  simp only [ByteArray.data_append, Array.toList_append]
  rw [List.getElem_append_right (by rw [data_length]; omega)]
  congr 1
  rw [data_length]; omega
theorem wordAt_left (a b : ByteArray) (i : Nat) (h : i + 4 ≤ a.size) : wordAt (a ++ b) i = wordAt a i := by
  unfold wordAt
  rw [bt_left a b i (by omega), bt_left a b (i + 1) (by omega), bt_left a b (i + 2) (by omega), bt_left a b (i + 3) (by omega)]
theorem wordAt_right (a b : ByteArray) (i : Nat) (h : i + 4 ≤ b.size) : wordAt (a ++ b) (a.size + i) = wordAt b i := by
  unfold wordAt
  rw [bt_right a b i (by omega), show a.size + i + 1 = a.size + (i + 1) by omega, show a.size + i + 2 = a.size + (i + 2) by omega, show a.size + i + 3 = a.size + (i + 3) by omega, bt_right a b (i + 1) (by omega), bt_right a b (i + 2) (by omega), bt_right a b (i + 3) (by omega)]

theorem firstW_text (key nonce c : ByteArray) (count : Nat) (hk : key.size = 32) (hc : c.size = 4) (hn : nonce.size = 12) (hw : wordAt c 0 = count) : fillN (fun i => wordAt (((chaConst ++ key) ++ c) ++ nonce) (4 * i)) 0 16 zeros16 = firstW key nonce count := by
  have hs0 : chaConst.size = 16 := rfl
  have hs1 : (chaConst ++ key).size = 48 := by rw [ByteArray.size_append]; omega
  have hs2 : ((chaConst ++ key) ++ c).size = 52 := by rw [ByteArray.size_append]; omega
  have h0 : ∀ j, j + 4 ≤ 16 → wordAt (((chaConst ++ key) ++ c) ++ nonce) j = wordAt chaConst j := fun j h => by
    rw [wordAt_left _ _ j (by omega), wordAt_left _ _ j (by omega), wordAt_left _ _ j (by omega)]
  have h1 : ∀ j, j + 4 ≤ 32 → wordAt (((chaConst ++ key) ++ c) ++ nonce) (16 + j) = wordAt key j := fun j h => by
    rw [wordAt_left _ _ _ (by omega), wordAt_left _ _ _ (by omega)]
    exact wordAt_right chaConst key j (by omega)
  have h2 : wordAt (((chaConst ++ key) ++ c) ++ nonce) 48 = count := by
    rw [wordAt_left _ _ _ (by omega)]
    have := wordAt_right (chaConst ++ key) c 0 (by omega)
    rw [hs1] at this
    rw [← hw]; exact this
  have h3 : ∀ j, j + 4 ≤ 12 → wordAt (((chaConst ++ key) ++ c) ++ nonce) (52 + j) = wordAt nonce j := fun j h => by
    have := wordAt_right ((chaConst ++ key) ++ c) nonce j (by omega)
    rw [hs2] at this
    exact this
  generalize ((chaConst ++ key) ++ c) ++ nonce = s at h0 h1 h2 h3 ⊢
  have e2 : firstW key nonce count = [wordAt chaConst 0, wordAt chaConst 4, wordAt chaConst 8, wordAt chaConst 12, wordAt key 0, wordAt key 4, wordAt key 8, wordAt key 12, wordAt key 16, wordAt key 20, wordAt key 24, wordAt key 28, count, wordAt nonce 0, wordAt nonce 4, wordAt nonce 8] := rfl
  rw [e2]
  show [wordAt s 0, wordAt s 4, wordAt s 8, wordAt s 12, wordAt s 16, wordAt s 20, wordAt s 24, wordAt s 28, wordAt s 32, wordAt s 36, wordAt s 40, wordAt s 44, wordAt s 48, wordAt s 52, wordAt s 56, wordAt s 60] = _
  rw [(h0 0 (by decide) : wordAt s 0 = _), (h0 4 (by decide) : wordAt s 4 = _), (h0 8 (by decide) : wordAt s 8 = _), (h0 12 (by decide) : wordAt s 12 = _), (h1 0 (by decide) : wordAt s 16 = _), (h1 4 (by decide) : wordAt s 20 = _), (h1 8 (by decide) : wordAt s 24 = _), (h1 12 (by decide) : wordAt s 28 = _), (h1 16 (by decide) : wordAt s 32 = _), (h1 20 (by decide) : wordAt s 36 = _), (h1 24 (by decide) : wordAt s 40 = _), (h1 28 (by decide) : wordAt s 44 = _), h2, (h3 0 (by decide) : wordAt s 52 = _), (h3 4 (by decide) : wordAt s 56 = _), (h3 8 (by decide) : wordAt s 60 = _)]

end Go.Proofs.Ytihpnededldedaa.Leaf
