/-
  impl.chaXor answers a text xored with the stream. Conditions: a key of 32 bytes, a nonce of 12, a count of at most two thousand millions, a text of at most a million bytes.
-/
import Derived.Test.YtihpnededldedaaXor
import Derived.Test.YtihpnededldedaaBld
import Derived.Test.YtihpnededldedaaPlain
namespace Go.Proofs.Ytihpnededldedaa.Leaf
open Go.RowKit Go.Shelf Go.Proofs.YtihpnededldedaaW.PrintWords Go.Proofs.YtihpnededldedaaW.PrintLast Go.Proofs.YtihpnededldedaaW.PrintMore

def impl_chaXor.f (a0 a1 : ByteArray) (a2 : Int) (a3 : ByteArray) : Option ByteArray := if a0.size = 32 ∧ a1.size = 12 ∧ 0 ≤ a2 ∧ a2 ≤ 2000000000 ∧ a3.size ≤ 1000000 then some (chaXorOf a0 a1 a2.toNat a3) else none
theorem xcells_append (a b : ByteArray) : Lib.strCells (a ++ b) = Lib.strCells a ++ Lib.strCells b := by simp [Lib.strCells, ByteArray.data_append]
theorem xbuilder_below {T e B b : Nat} {p : Value} {bs : List Value} {w w' : World} (h : Lib.BuilderAtF T e B b p bs w) (hb : Below w.heap.size w w') : Lib.BuilderAtF T e B b p bs w' := by
  have hlt := h.lt
  obtain ⟨hB, v, hv, hown, hne⟩ := h
  exact ⟨hB, v, (hb.block b hlt).trans hv, hown.kept (row := none) ⟨hb.os, hb.tape, hb.output, hb.size, fun k hk _ => hb.block k hk⟩ (by cases hv : v.ownBlock <;> simp), hne⟩
theorem xbuilder_of {T e B b : Nat} {bs : List Value} {w : World} (h : Lib.BuilderAtF T e B b (.pointer (some ⟨b, 0, none⟩)) bs w) : Lib.IsBuilderF T e B b bs w := Or.inr h
theorem xis_below {T e B b : Nat} {bs : List Value} {w w' : World} (h : Lib.IsBuilderF T e B b bs w) (hb : Below w.heap.size w w') : Lib.IsBuilderF T e B b bs w' :=
  h.elim (fun x => .inl (xbuilder_below x hb)) (fun x => .inr (xbuilder_below x hb))
theorem cx_wrap (x : Int) (n : Nat) (h : x = (n : Int)) (hn : n ≤ 9223372036854775807) : wrap64 x = (n : Int) := by rw [h]; exact wrap_ok _ (by omega) (by omega)
/-- What one round of the loop reckons. -/
theorem cx_part_names (a0 a1 : ByteArray) (c : Nat) (t : ByteArray) (k : Nat) (h0 : a0.size = 32) (h1 : a1.size = 12) (hc : c ≤ 2000000000) (ht : t.size ≤ 1000000) (hk : 64 * k < t.size) :
    ∃ m hi nx q : Nat, ∃ pt blk y : ByteArray, (nx = 64 * (k + 1) ∧ m ≤ 64 ∧ 64 * k + m = hi ∧ hi ≤ t.size ∧ (hi = nx ∨ hi = t.size ∧ t.size ≤ nx) ∧ q = c + k) ∧ t.extract (64 * k) hi = pt ∧
      impl_stream.f a0 a1 (q : Int) = some blk ∧ impl_xor.f pt blk = some y ∧ y.size = m ∧
      Lib.strCells (strOfNums (chaNums a0 a1 c t (64 * k))) ++ Lib.strCells y = Lib.strCells (strOfNums (chaNums a0 a1 c t hi)) := by
  have hm : min 64 (t.size - 64 * k) ≤ 64 := Nat.min_le_left _ _
  have hm2 : 64 * k + min 64 (t.size - 64 * k) ≤ t.size := by omega
  have hst := chaNums_step a0 a1 c t k (min 64 (t.size - 64 * k)) hm hm2
  have hs : (t.extract (64 * k) (64 * k + min 64 (t.size - 64 * k))).size = min 64 (t.size - 64 * k) := by rw [ByteArray.size_extract]; omega
  have hb : (chaBlk a0 a1 (c + k)).size = 64 := by unfold chaBlk; rw [strOfNums_size, sumBytes_length]
  refine ⟨min 64 (t.size - 64 * k), _, 64 * (k + 1), c + k, _, chaBlk a0 a1 (c + k), strOfNums (xorNums (t.extract (64 * k) (64 * k + min 64 (t.size - 64 * k))) (chaBlk a0 a1 (c + k))), ⟨rfl, hm, rfl, hm2, by omega, rfl⟩, rfl, ?_, ?_, ?_, ?_⟩
  · unfold impl_stream.f
    rw [if_pos ⟨h0, h1, by omega, by omega⟩, Int.toNat_natCast]
  · unfold impl_xor.f
    rw [if_pos ⟨by omega, by omega⟩]
  · rw [strOfNums_size]; unfold xorNums; rw [xorPart_length]; exact hs
  · rw [hst, ← xcells_append, strOfNums_append]

set_option maxHeartbeats 4000000 in
set_option maxRecDepth 100000 in
theorem chaXor_calls (a0 a1 : ByteArray) (c : Nat) (t : ByteArray) (h0 : a0.size = 32) (h1 : a1.size = 12) (hc : c ≤ 2000000000) (ht : t.size ≤ 1000000) (w : World) :
    Calls Try.prog 97 #[.string a0, .string a1, .int .i64 (c : Int), .string t] w fun e w' => e = .returned (.string (chaXorOf a0 a1 c t)) ∧ Below w.heap.size w w' := by
  have HU := Aside0.mk (Lib.IsBuilderF.of (e := 5) (Lib.fresh_isBuilder 100 5 w))
  have HB := Aside0.mk (below_alloc (Below.refl w.heap.size w) (.cells #[.pointer none, .slice none 0 0] 100))
  have HN := Lib.hid (show a0.size = 32 ∧ a1.size = 12 ∧ c ≤ 2000000000 ∧ t.size ≤ 1000000 from ⟨h0, h1, hc, ht⟩)
  clear h0 h1 hc ht
  go_enter Try.func97, Try.ntmps97
  go_wp2
  go_loopg [10] (t.size / 64 + 1) (fun kq v10 w' => ∃ k i n : Nat, v10 = .int .i64 (i : Int) ∧ Aside0 (i = 64 * k) ∧ Aside0 (t.size < 64 * (k + kq)) ∧ Aside0 ((n = i ∨ n = t.size ∧ t.size ≤ i) ∧ n ≤ t.size) ∧ Aside0 (Lib.IsBuilderF 100 5 w.heap.size w.heap.size (Lib.strCells (strOfNums (chaNums a0 a1 c t n))) w') ∧ Aside0 (Below w.heap.size w w'))
  case atStart => exact ⟨0, 0, 0, rfl, ⟨rfl⟩, ⟨by omega⟩, ⟨.inl rfl, by omega⟩, HU, HB⟩
  case round =>
    clear HU HB
    obtain ⟨k, i, n, rfl, HI, HK, HA, HU, HB⟩ := hrel
    by_cases c1 : i < t.size
    · have d1 : decide ((i : Int) < (t.size : Int)) = true := decide_eq_true (by omega)
      have d1b : decide (i < t.size) = true := decide_eq_true c1
      obtain ⟨m, hi, nx, q, pt, blk, y, ⟨hnx, hm64, hmhi, hhi, hor, hq⟩, hpt, hst, hxo, hys, hcat⟩ := cx_part_names a0 a1 c t k HN.out.1 HN.out.2.1 HN.out.2.2.1 HN.out.2.2.2 (by rw [← HI.out]; exact c1)
      obtain rfl : n = 64 * k := by have := HA.out; have := HI.out; omega
      have hmax := HN.out.2.2
      have hI := HI.out
      have eM : min (nx : Int) (t.size : Int) = (hi : Int) := by omega
      have eM2 : min nx t.size = hi := by omega
      have eQ : (i : Int) / 64 = (k : Int) := by omega
      have eQ2 : Int.tdiv (i : Int) 64 = (k : Int) := by rw [Int.tdiv_eq_ediv_of_nonneg (by omega)]; exact eQ
      obtain ⟨k2, hk2⟩ : ∃ k2 : Nat, k2 = k := ⟨k, rfl⟩
      have q1 : (i : Int) + 64 = (nx : Int) := by omega
      have q2 : (c : Int) + (k2 : Int) = (q : Int) := by omega
      have q3 : (k : Int) = (k2 : Int) := by omega
      have b1 : nx ≤ 9223372036854775807 := by omega
      have b2 : q ≤ 9223372036854775807 := by omega
      have b3 : k2 ≤ 9223372036854775807 := by omega
      have p0 : (0 ≤ (i : Int)) = True := eq_true (by omega)
      have p1 : ((i : Int) ≤ (hi : Int)) = True := eq_true (by omega)
      have p2 : ((hi : Int) ≤ (t.size : Int)) = True := eq_true (by omega)
      have p1' : (i ≤ hi) = True := eq_true (by omega)
      have p2' : (hi ≤ t.size) = True := eq_true hhi
      have ePt : t.extract i hi = pt := by rw [hI]; exact hpt
      have CS := fun W => impl_stream.calls a0 a1 (q : Int) blk W hst
      have CX := fun W => impl_xor.calls pt blk y W hxo
      have NX := Lib.hid hcat
      have LM := Aside0.mk (show (Lib.strCells (strOfNums (chaNums a0 a1 c t (64 * k)))).length + y.size ≤ 140737488355328 by rw [Lib.strCells_length, strOfNums_size, chaNums_length]; omega)
      obtain ⟨k1, hk1⟩ : ∃ k1, gk = k1 + 1 := ⟨gk - 1, by have := HK.out; omega⟩
      have HK1 := Aside0.mk (show t.size < 64 * (k + 1 + k1) by have := HK.out; omega)
      have HG := Aside0.mk (show k1 < gk by omega)
      have HI1 := Aside0.mk hnx
      have HA1 := Aside0.mk (show (hi = nx ∨ hi = t.size ∧ t.size ≤ nx) ∧ hi ≤ t.size from ⟨hor, hhi⟩)
      have eW := cx_wrap _ _ q1 b1
      have EW := Lib.hid eW
      have eC := cx_wrap _ _ q2 b2
      have eK := cx_wrap _ _ q3 b3
      clear q1 q2 q3 b1 b2 b3
      clear hk1 hk2 HK c1 hst hxo hcat hpt hnx hm64 hmhi hhi hor hq hmax hI hys HA HI
      go_wp2_with (first
          | (go_at_call 47; with_reducible refine (CS _).mono ?_; rintro e w8 ⟨rfl, hb⟩; have n0_ := Aside0.mk (xis_below HU.out hb); have n1_ := Aside0.mk (below_step HB.out hb); clear HU HB; have HU := n0_; have HB := n1_; clear n0_ n1_ hb)
          | (go_at_call 110; with_reducible refine (CX _).mono ?_; rintro e w9 ⟨rfl, hb⟩; have n0_ := Aside0.mk (xis_below HU.out hb); have n1_ := Aside0.mk (below_step HB.out hb); clear HU HB; have HU := n0_; have HB := n1_; clear n0_ n1_ hb)
          | (go_at_call 103; with_reducible refine (Try.Builder_WriteString_f w.heap.size w.heap.size _ y _ HU.out LM.out (below_size HB.out)).mono ?_; rintro e w10 ⟨rfl, hu, hb⟩; rw [NX.out] at hu; have n0_ := Aside0.mk (show Lib.IsBuilderF 100 5 w.heap.size w.heap.size (Lib.strCells (strOfNums (chaNums a0 a1 c t hi))) w10 from xbuilder_of hu); have n1_ := Aside0.mk (HB.out.trans hb); clear HU HB; have HU := n0_; have HB := n1_; clear n0_ n1_ hb hu))
      go_roundg k1
      case measure => exact HG.out
      case rel => exact ⟨k + 1, nx, hi, by rw [EW.out], HI1, HK1, HA1, HU, HB⟩
    · have d1 : decide ((i : Int) < (t.size : Int)) = false := decide_eq_false (by omega)
      have d1b : decide (i < t.size) = false := decide_eq_false c1
      obtain rfl : n = t.size := by have := HA.out; omega
      have HS := Lib.hid (show (⟨(strOfNums (chaNums a0 a1 c t t.size)).data.toList.toArray⟩ : ByteArray) = chaXorOf a0 a1 c t by rfl)
      have HU2 := Aside0.mk (show Lib.IsBuilderF 100 5 w.heap.size w.heap.size (Lib.byteCells (strOfNums (chaNums a0 a1 c t t.size)).data.toList) wr from HU.out)
      clear HK c1 HA HU HI
      go_wp2_with (go_at_call 104; with_reducible refine (Try.Builder_String_any_f w.heap.size w.heap.size (strOfNums (chaNums a0 a1 c t t.size)).data.toList _ HU2.out (below_size HB.out)).mono ?_; rintro e w9 ⟨rfl, hu, hb⟩; rw [HS.out]; have n1_ := Aside0.mk (HB.out.trans hb); clear HU2 HB; have HB := n1_; clear n1_ hb hu)
      go_ret
      exact ⟨rfl, HB.out⟩

theorem impl_chaXor.calls (a0 a1 : ByteArray) (a2 : Int) (a3 : ByteArray) (r : ByteArray) (w : World) (h : impl_chaXor.f a0 a1 a2 a3 = some r) :
    Calls Try.prog 97 #[.string a0, .string a1, .int .i64 a2, .string a3] w fun e w' => e = .returned (.string r) ∧ Below w.heap.size w w' := by
  unfold impl_chaXor.f at h
  by_cases hs : a0.size = 32 ∧ a1.size = 12 ∧ 0 ≤ a2 ∧ a2 ≤ 2000000000 ∧ a3.size ≤ 1000000
  · rw [if_pos hs] at h
    cases h
    obtain ⟨h1, h2, h3, h4, h5⟩ := hs
    obtain ⟨n, rfl⟩ := Int.eq_ofNat_of_zero_le h3
    rw [Int.toNat_natCast]
    exact chaXor_calls a0 a1 n a3 h1 h2 (by omega) h5 w
  · rw [if_neg hs] at h; cases h

end Go.Proofs.Ytihpnededldedaa.Leaf
