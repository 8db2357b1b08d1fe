/- A text xored with the stream, the program's way and the reference's. Conditions: a key of 32 bytes, a nonce of 12, a count of at most two thousand millions, a text of at most a million bytes. -/
import Derived.Test.YtihpnededldedaaLeafC
import Derived.Test.YtihpnededldedaaLeafX
import Derived.Test.YtihpnededldedaaBits
import Derived.Test.YtihpnededldedaaBld
import Derived.Test.YtihpnededldedaaPlain
import Derived.OwnWalk
import Derived.Deep.AppendLies
import Derived.Deep.RegionWith
namespace Go.Proofs.Ytihpnededldedaa.Leaf

section
open Go.RowKit Go.Shelf Go.Proofs.YtihpnededldedaaW.PrintWords Go.Proofs.YtihpnededldedaaW.PrintLast Go.Proofs.YtihpnededldedaaW.PrintMore

/-- Byte j of the text xored with the stream from block c on. -/
def chaByte (key nonce : ByteArray) (c : Nat) (t : ByteArray) (j : Nat) : Int := Go.bits .xor .u8 (bt t (j : Int)) (bt (chaBlk key nonce (c + j / 64)) ((j % 64 : Nat) : Int))
def chaNums (key nonce : ByteArray) (c : Nat) (t : ByteArray) (n : Nat) : List Int := (List.range n).map (chaByte key nonce c t)
def chaXorOf (key nonce : ByteArray) (c : Nat) (t : ByteArray) : ByteArray := strOfNums (chaNums key nonce c t t.size)
theorem chaNums_length (key nonce : ByteArray) (c : Nat) (t : ByteArray) (n : Nat) : (chaNums key nonce c t n).length = n := by simp [chaNums]
theorem chaXorOf_size (key nonce : ByteArray) (c : Nat) (t : ByteArray) : (chaXorOf key nonce c t).size = t.size := by unfold chaXorOf; rw [strOfNums_size, chaNums_length]
theorem chaNums_succ (key nonce : ByteArray) (c : Nat) (t : ByteArray) (n : Nat) : chaNums key nonce c t (n + 1) = chaNums key nonce c t n ++ [chaByte key nonce c t n] := by
  unfold chaNums; rw [List.range_succ, List.map_append]; rfl
theorem chaNums_step (key nonce : ByteArray) (c : Nat) (t : ByteArray) (k m : Nat) (hm : m ≤ 64) (h : 64 * k + m ≤ t.size) :
    chaNums key nonce c t (64 * k + m) = chaNums key nonce c t (64 * k) ++ xorNums (t.extract (64 * k) (64 * k + m)) (chaBlk key nonce (c + k)) := by
  unfold chaNums xorNums xorPart
  have hs : (t.extract (64 * k) (64 * k + m)).size = m := by rw [ByteArray.size_extract]; omega
  rw [List.range_add, List.map_append, List.map_map, hs]
  congr 1
  apply List.map_congr_left
  intro j hj
  have hj := List.mem_range.1 hj
  simp only [Function.comp]
  rw [if_pos hj, bt_extract t _ _ j (by omega) h]
  unfold chaByte
  rw [show (64 * k + j) / 64 = k by omega, show (64 * k + j) % 64 = j by omega]

theorem open_len (a : ByteArray) (j : Int) (h0 : 0 ≤ j) (h1 : j ≤ (a.size : Int)) : ((a.extract 0 j.toNat).size : Int) = j := by
  rw [ByteArray.size_extract]; omega
end

section
open Go.RowKit Go.Shelf Go.Proofs.YtihpnededldedaaW.PrintWords Go.Proofs.YtihpnededldedaaW.PrintLast Go.Proofs.YtihpnededldedaaW.PrintMore

def impl_chaXor.f (a0 a1 : ByteArray) (a2 : Int) (a3 : ByteArray) : Option ByteArray := if a0.size = 32 ∧ a1.size = 12 ∧ 0 ≤ a2 ∧ a2 ≤ 2000000000 ∧ a3.size ≤ 1000000 then some (chaXorOf a0 a1 a2.toNat a3) else none
theorem xcells_append (a b : ByteArray) : Lib.strCells (a ++ b) = Lib.strCells a ++ Lib.strCells b := by simp [Lib.strCells, ByteArray.data_append]
theorem xbuilder_below {T e B b : Nat} {p : Value} {bs : List Value} {w w' : World} (h : Lib.BuilderAtF T e B b p bs w) (hb : Below w.heap.size w w') : Lib.BuilderAtF T e B b p bs w' := by
  have hlt := h.lt
  obtain ⟨hB, v, hv, hown, hne⟩ := h
  exact ⟨hB, v, (hb.block b hlt).trans hv, hown.kept (row := none) ⟨hb.os, hb.tape, hb.output, hb.size, fun k hk _ => hb.block k hk⟩ (by cases hv : v.ownBlock <;> simp), hne⟩
theorem xbuilder_of {T e B b : Nat} {bs : List Value} {w : World} (h : Lib.BuilderAtF T e B b (.pointer (some ⟨b, 0, none⟩)) bs w) : Lib.IsBuilderF T e B b bs w := Or.inr h
theorem xis_below {T e B b : Nat} {bs : List Value} {w w' : World} (h : Lib.IsBuilderF T e B b bs w) (hb : Below w.heap.size w w') : Lib.IsBuilderF T e B b bs w' :=
  h.elim (fun x => .inl (xbuilder_below x hb)) (fun x => .inr (xbuilder_below x hb))
theorem cx_wrap (x : Int) (n : Nat) (h : x = (n : Int)) (hn : n ≤ 9223372036854775807) : wrap64 x = (n : Int) := by rw [h]; exact wrap_ok _ (by omega) (by omega)
/-- What one round of the loop reckons. -/
theorem cx_part_names (a0 a1 : ByteArray) (c : Nat) (t : ByteArray) (k : Nat) (h0 : a0.size = 32) (h1 : a1.size = 12) (hc : c ≤ 2000000000) (ht : t.size ≤ 1000000) (hk : 64 * k < t.size) :
    ∃ m hi nx q : Nat, ∃ pt blk y : ByteArray, (nx = 64 * (k + 1) ∧ m ≤ 64 ∧ 64 * k + m = hi ∧ hi ≤ t.size ∧ (hi = nx ∨ hi = t.size ∧ t.size ≤ nx) ∧ q = c + k) ∧ t.extract (64 * k) hi = pt ∧
      impl_stream.f a0 a1 (q : Int) = some blk ∧ impl_xor.f pt blk = some y ∧ y.size = m ∧
      Lib.strCells (strOfNums (chaNums a0 a1 c t (64 * k))) ++ Lib.strCells y = Lib.strCells (strOfNums (chaNums a0 a1 c t hi)) := by
  have hm : min 64 (t.size - 64 * k) ≤ 64 := Nat.min_le_left _ _
  have hm2 : 64 * k + min 64 (t.size - 64 * k) ≤ t.size := by omega
  have hst := chaNums_step a0 a1 c t k (min 64 (t.size - 64 * k)) hm hm2
  have hs : (t.extract (64 * k) (64 * k + min 64 (t.size - 64 * k))).size = min 64 (t.size - 64 * k) := by rw [ByteArray.size_extract]; omega
  have hb : (chaBlk a0 a1 (c + k)).size = 64 := by unfold chaBlk; rw [strOfNums_size, sumBytes_length]
  refine ⟨min 64 (t.size - 64 * k), _, 64 * (k + 1), c + k, _, chaBlk a0 a1 (c + k), strOfNums (xorNums (t.extract (64 * k) (64 * k + min 64 (t.size - 64 * k))) (chaBlk a0 a1 (c + k))), ⟨rfl, hm, rfl, hm2, by omega, rfl⟩, rfl, ?_, ?_, ?_, ?_⟩
  · unfold impl_stream.f
    rw [if_pos ⟨h0, h1, by omega, by omega⟩, Int.toNat_natCast]
  · unfold impl_xor.f
    rw [if_pos ⟨by omega, by omega⟩]
  · rw [strOfNums_size]; unfold xorNums; rw [xorPart_length]; exact hs
  · rw [hst, ← xcells_append, strOfNums_append]

set_option maxHeartbeats 4000000 in
set_option maxRecDepth 100000 in
theorem chaXor_calls (a0 a1 : ByteArray) (c : Nat) (t : ByteArray) (h0 : a0.size = 32) (h1 : a1.size = 12) (hc : c ≤ 2000000000) (ht : t.size ≤ 1000000) (w : World) :
    Calls Try.prog 97 #[.string a0, .string a1, .int .i64 (c : Int), .string t] w fun e w' => e = .returned (.string (chaXorOf a0 a1 c t)) ∧ Below w.heap.size w w' := by
  have HU := Aside0.mk (Lib.IsBuilderF.of (e := 5) (Lib.fresh_isBuilder 100 5 w))
  have HB := Aside0.mk (below_alloc (Below.refl w.heap.size w) (.cells #[.pointer none, .slice none 0 0] 100))
  have HN := Lib.hid (show a0.size = 32 ∧ a1.size = 12 ∧ c ≤ 2000000000 ∧ t.size ≤ 1000000 from ⟨h0, h1, hc, ht⟩)
  clear h0 h1 hc ht
  go_enter Try.func97, Try.ntmps97
  go_wp2
  go_loopg [10] (t.size / 64 + 1) (fun kq v10 w' => ∃ k i n : Nat, v10 = .int .i64 (i : Int) ∧ Aside0 (i = 64 * k) ∧ Aside0 (t.size < 64 * (k + kq)) ∧ Aside0 ((n = i ∨ n = t.size ∧ t.size ≤ i) ∧ n ≤ t.size) ∧ Aside0 (Lib.IsBuilderF 100 5 w.heap.size w.heap.size (Lib.strCells (strOfNums (chaNums a0 a1 c t n))) w') ∧ Aside0 (Below w.heap.size w w'))
  case atStart => exact ⟨0, 0, 0, rfl, ⟨rfl⟩, ⟨by omega⟩, ⟨.inl rfl, by omega⟩, HU, HB⟩
  case round =>
    clear HU HB
    obtain ⟨k, i, n, rfl, HI, HK, HA, HU, HB⟩ := hrel
    by_cases c1 : i < t.size
    · have d1 : decide ((i : Int) < (t.size : Int)) = true := decide_eq_true (by omega)
      have d1b : decide (i < t.size) = true := decide_eq_true c1
      obtain ⟨m, hi, nx, q, pt, blk, y, ⟨hnx, hm64, hmhi, hhi, hor, hq⟩, hpt, hst, hxo, hys, hcat⟩ := cx_part_names a0 a1 c t k HN.out.1 HN.out.2.1 HN.out.2.2.1 HN.out.2.2.2 (by rw [← HI.out]; exact c1)
      obtain rfl : n = 64 * k := by have := HA.out; have := HI.out; omega
      have hmax := HN.out.2.2
      have hI := HI.out
      have eM : min (nx : Int) (t.size : Int) = (hi : Int) := by omega
      have eM2 : min nx t.size = hi := by omega
      have eQ : (i : Int) / 64 = (k : Int) := by omega
      have eQ2 : Int.tdiv (i : Int) 64 = (k : Int) := by rw [Int.tdiv_eq_ediv_of_nonneg (by omega)]; exact eQ
      obtain ⟨k2, hk2⟩ : ∃ k2 : Nat, k2 = k := ⟨k, rfl⟩
      have q1 : (i : Int) + 64 = (nx : Int) := by omega
      have q2 : (c : Int) + (k2 : Int) = (q : Int) := by omega
      have q3 : (k : Int) = (k2 : Int) := by omega
      have b1 : nx ≤ 9223372036854775807 := by omega
      have b2 : q ≤ 9223372036854775807 := by omega
      have b3 : k2 ≤ 9223372036854775807 := by omega
      have p0 : (0 ≤ (i : Int)) = True := eq_true (by omega)
      have p1 : ((i : Int) ≤ (hi : Int)) = True := eq_true (by omega)
      have p2 : ((hi : Int) ≤ (t.size : Int)) = True := eq_true (by omega)
      have p1' : (i ≤ hi) = True := eq_true (by omega)
      have p2' : (hi ≤ t.size) = True := eq_true hhi
      have ePt : t.extract i hi = pt := by rw [hI]; exact hpt
      have CS := fun W => impl_stream.calls a0 a1 (q : Int) blk W hst
      have CX := fun W => impl_xor.calls pt blk y W hxo
      have NX := Lib.hid hcat
      have LM := Aside0.mk (show (Lib.strCells (strOfNums (chaNums a0 a1 c t (64 * k)))).length + y.size ≤ 140737488355328 by rw [Lib.strCells_length, strOfNums_size, chaNums_length]; omega)
      obtain ⟨k1, hk1⟩ : ∃ k1, gk = k1 + 1 := ⟨gk - 1, by have := HK.out; omega⟩
      have HK1 := Aside0.mk (show t.size < 64 * (k + 1 + k1) by have := HK.out; omega)
      have HG := Aside0.mk (show k1 < gk by omega)
      have HI1 := Aside0.mk hnx
      have HA1 := Aside0.mk (show (hi = nx ∨ hi = t.size ∧ t.size ≤ nx) ∧ hi ≤ t.size from ⟨hor, hhi⟩)
      have eW := cx_wrap _ _ q1 b1
      have EW := Lib.hid eW
      have eC := cx_wrap _ _ q2 b2
      have eK := cx_wrap _ _ q3 b3
      clear q1 q2 q3 b1 b2 b3
      clear hk1 hk2 HK c1 hst hxo hcat hpt hnx hm64 hmhi hhi hor hq hmax hI hys HA HI
      go_wp2_with (first
          | (go_at_call 47; with_reducible refine (CS _).mono ?_; rintro e w8 ⟨rfl, hb⟩; have n0_ := Aside0.mk (xis_below HU.out hb); have n1_ := Aside0.mk (below_step HB.out hb); clear HU HB; have HU := n0_; have HB := n1_; clear n0_ n1_ hb)
          | (go_at_call 110; with_reducible refine (CX _).mono ?_; rintro e w9 ⟨rfl, hb⟩; have n0_ := Aside0.mk (xis_below HU.out hb); have n1_ := Aside0.mk (below_step HB.out hb); clear HU HB; have HU := n0_; have HB := n1_; clear n0_ n1_ hb)
          | (go_at_call 103; with_reducible refine (Try.Builder_WriteString_f w.heap.size w.heap.size _ y _ HU.out LM.out (below_size HB.out)).mono ?_; rintro e w10 ⟨rfl, hu, hb⟩; rw [NX.out] at hu; have n0_ := Aside0.mk (show Lib.IsBuilderF 100 5 w.heap.size w.heap.size (Lib.strCells (strOfNums (chaNums a0 a1 c t hi))) w10 from xbuilder_of hu); have n1_ := Aside0.mk (HB.out.trans hb); clear HU HB; have HU := n0_; have HB := n1_; clear n0_ n1_ hb hu))
      go_roundg k1
      case measure => exact HG.out
      case rel => exact ⟨k + 1, nx, hi, by rw [EW.out], HI1, HK1, HA1, HU, HB⟩
    · have d1 : decide ((i : Int) < (t.size : Int)) = false := decide_eq_false (by omega)
      have d1b : decide (i < t.size) = false := decide_eq_false c1
      obtain rfl : n = t.size := by have := HA.out; omega
      have HS := Lib.hid (show (⟨(strOfNums (chaNums a0 a1 c t t.size)).data.toList.toArray⟩ : ByteArray) = chaXorOf a0 a1 c t by rfl)
      have HU2 := Aside0.mk (show Lib.IsBuilderF 100 5 w.heap.size w.heap.size (Lib.byteCells (strOfNums (chaNums a0 a1 c t t.size)).data.toList) wr from HU.out)
      clear HK c1 HA HU HI
      go_wp2_with (go_at_call 104; with_reducible refine (Try.Builder_String_any_f w.heap.size w.heap.size (strOfNums (chaNums a0 a1 c t t.size)).data.toList _ HU2.out (below_size HB.out)).mono ?_; rintro e w9 ⟨rfl, hu, hb⟩; rw [HS.out]; have n1_ := Aside0.mk (HB.out.trans hb); clear HU2 HB; have HB := n1_; clear n1_ hb hu)
      go_ret
      exact ⟨rfl, HB.out⟩

theorem impl_chaXor.calls (a0 a1 : ByteArray) (a2 : Int) (a3 : ByteArray) (r : ByteArray) (w : World) (h : impl_chaXor.f a0 a1 a2 a3 = some r) :
    Calls Try.prog 97 #[.string a0, .string a1, .int .i64 a2, .string a3] w fun e w' => e = .returned (.string r) ∧ Below w.heap.size w w' := by
  unfold impl_chaXor.f at h
  by_cases hs : a0.size = 32 ∧ a1.size = 12 ∧ 0 ≤ a2 ∧ a2 ≤ 2000000000 ∧ a3.size ≤ 1000000
  · rw [if_pos hs] at h
    cases h
    obtain ⟨h1, h2, h3, h4, h5⟩ := hs
    obtain ⟨n, rfl⟩ := Int.eq_ofNat_of_zero_le h3
    rw [Int.toNat_natCast]
    exact chaXor_calls a0 a1 n a3 h1 h2 (by omega) h5 w
  · rw [if_neg hs] at h; cases h
end

section
open Go.RowKit Go.Shelf Go.Proofs.YtihpnededldedaaW.PrintWords Go.Proofs.YtihpnededldedaaW.PrintLast Go.Proofs.YtihpnededldedaaW.PrintMore

def spec_l02Xor.f (a0 a1 : ByteArray) (a2 : Int) (a3 : ByteArray) : Option ByteArray := if a0.size = 32 ∧ a1.size = 12 ∧ 0 ≤ a2 ∧ a2 ≤ 2000000000 ∧ a3.size ≤ 1000000 then some (chaXorOf a0 a1 a2.toNat a3) else none
theorem lx_wrap (x : Int) (n : Nat) (h : x = (n : Int)) (hn : n ≤ 9223372036854775807) : wrap64 x = (n : Int) := by rw [h]; exact wrap_ok _ (by omega) (by omega)
/-- What one round of the loop reckons. -/
theorem lx_byte_names (a0 a1 : ByteArray) (c : Nat) (t : ByteArray) (i : Nat) (h0 : a0.size = 32) (h1 : a1.size = 12) (hc : c ≤ 2000000000) (ht : t.size ≤ 1000000) (hi : i < t.size) :
    ∃ m d q : Nat, ∃ blk : ByteArray, ((i : Int) % 64 = (m : Int) ∧ m < 64 ∧ (i : Int) / 64 = (d : Int) ∧ (c : Int) + (d : Int) = (q : Int) ∧ q ≤ 9223372036854775807 ∧ d ≤ 9223372036854775807 ∧ m = i % 64) ∧
      spec_l02Block.f a0 a1 (q : Int) = some blk ∧ blk.size = 64 ∧ chaBlk a0 a1 (c + i / 64) = blk ∧ (∀ j, j = i + 1 → j % 64 ≠ 0 → chaBlk a0 a1 (c + j / 64) = blk) ∧
      chaNums a0 a1 c t (i + 1) = chaNums a0 a1 c t i ++ [Go.bits .xor .u8 (bt t (i : Int)) (bt blk (m : Int))] := by
  refine ⟨i % 64, i / 64, c + i / 64, chaBlk a0 a1 (c + i / 64), ⟨by omega, by omega, by omega, by omega, by omega, by omega, rfl⟩, ?_, ?_, rfl, ?_, ?_⟩
  · unfold spec_l02Block.f
    rw [if_pos ⟨h0, h1, by omega, by omega⟩, Int.toNat_natCast]
  · unfold chaBlk; rw [strOfNums_size, sumBytes_length]
  · intro j hj hn
    subst hj
    rw [show (i + 1) / 64 = i / 64 by omega]
  · rw [chaNums_succ]; rfl

set_option maxHeartbeats 4000000 in
set_option maxRecDepth 100000 in
theorem l02Xor_calls (a0 a1 : ByteArray) (c : Nat) (t : ByteArray) (h0 : a0.size = 32) (h1 : a1.size = 12) (hc : c ≤ 2000000000) (ht : t.size ≤ 1000000) (w : World) :
    Calls Try.prog 96 #[.string a0, .string a1, .int .i64 (c : Int), .string t] w fun e w' => e = .returned (.string (chaXorOf a0 a1 c t)) ∧ Below w.heap.size w w' := by
  have hinfo : (Try.prog.info? 5).map (fun i => (i.zero, i.size, i.bytes)) = some (some (.int .u8 0), 1, 1) := by kernel_rfl
  obtain ⟨i0, hi, hz0, hz1, hz2⟩ := info_parts hinfo
  have HI := Aside0.mk hi; have HZ0 := Aside0.mk hz0; have HZ1 := Aside0.mk hz1; have HZ2 := Aside0.mk hz2
  have HN := Lib.hid (show a0.size = 32 ∧ a1.size = 12 ∧ c ≤ 2000000000 ∧ t.size ≤ 1000000 from ⟨h0, h1, hc, ht⟩)
  clear hi hz0 hz1 hz2 hinfo h0 h1 hc ht
  go_enter Try.func96, Try.ntmps96
  go_wp2
  go_loopg [9, 10, 11] t.size (fun gg s9 s10 s11 wr => ∃ i : Nat, ∃ b : ByteArray, s11 = .int .i64 (i : Int) ∧ s10 = .string b ∧ Aside0 (i ≤ t.size) ∧ Aside0 (t.size ≤ gg + i) ∧ Aside0 (i % 64 ≠ 0 → chaBlk a0 a1 (c + i / 64) = b) ∧ Aside0 (wr.ownsRow w.heap.size 5 1 s9 (chaNums a0 a1 c t i).length (nums .u8 (chaNums a0 a1 c t i))) ∧ Aside0 (Below w.heap.size w wr))
  case atStart => exact ⟨0, ⟨#[]⟩, rfl, rfl, ⟨by omega⟩, ⟨by omega⟩, ⟨fun h => absurd rfl h⟩, ⟨own_lit w w.heap.size 5 .u8 [] (Nat.le_refl _) (by simp)⟩, ⟨below_alloc (Below.refl _ _) _⟩⟩
  case round =>
    obtain ⟨i, b, rfl, rfl, HI_, HG, HBK, HO, HB⟩ := hrel
    by_cases c1 : i < t.size
    · have d1 : decide ((i : Int) < (t.size : Int)) = true := decide_eq_true (by omega)
      have d1b : decide (i < t.size) = true := decide_eq_true c1
      obtain ⟨m, d, q, blk, ⟨hm, hm64, hd, hq, hq63, hd63, hmi⟩, hst, hbs, hbk, hnx, hsucc⟩ := lx_byte_names a0 a1 c t i HN.out.1 HN.out.2.1 HN.out.2.2.1 HN.out.2.2.2 c1
      have HG1 := Aside0.mk (show t.size - (i + 1) < gk by have := HG.out; omega)
      have HG2 := Aside0.mk (show t.size ≤ t.size - (i + 1) + (i + 1) by omega)
      have HI1 := Aside0.mk (show i + 1 ≤ t.size by omega)
      have HNX := Aside0.mk (fun h => hnx (i + 1) rfl h)
      have hlen : (chaNums a0 a1 c t i).length = i := chaNums_length _ _ _ _ _
      have hmax := HN.out.2.2.2
      have H63 := Aside0.mk (show (chaNums a0 a1 c t i).length + 1 ≤ maxLen by rw [hlen]; unfold maxLen; omega)
      have H47 := Aside0.mk (show ((chaNums a0 a1 c t i).length + 1) * 1 ≤ 140737488355328 by rw [hlen]; omega)
      have HS := Aside0.mk HB.out.size
      have hmb : m < blk.size := by omega
      have hsucc' : chaNums a0 a1 c t (i + 1) = chaNums a0 a1 c t i ++ [Go.bits .xor .u8 ((t[i]'c1).toNat : Int) ((blk[m]'hmb).toNat : Int)] := by
        have x1 : ((t[i]'c1).toNat : Int) = bt t (i : Int) := bt_at t (i : Int) c1
        have x2 : ((blk[m]'hmb).toNat : Int) = bt blk (m : Int) := bt_at blk (m : Int) hmb
        rw [x1, x2]; exact hsucc
      have hm2 : Int.tmod (i : Int) 64 = (m : Int) := by rw [Int.tmod_eq_emod_of_nonneg (by omega)]; exact hm
      have r3' : (m : Int) < (blk.size : Int) := by omega
      have r1' : (i : Int) < (t.size : Int) := by omega
      have r0' : (0 : Int) ≤ (i : Int) := by omega
      have r2' : (0 : Int) ≤ (m : Int) := by omega
      have r0 : (0 ≤ (i : Int)) = True := eq_true (by omega)
      have r1 : ((i : Int) < (t.size : Int)) = True := eq_true (by omega)
      have r1b : (i < t.size) = True := eq_true c1
      have r2 : (0 ≤ (m : Int)) = True := eq_true (by omega)
      have r3 : ((m : Int) < (blk.size : Int)) = True := eq_true (by omega)
      have r3b : (m < blk.size) = True := eq_true (by omega)
      have eN := show (i : Int) + 1 = ((i + 1 : Nat) : Int) by omega
      have bN : i + 1 ≤ 9223372036854775807 := by omega
      have EN := Lib.hid (lx_wrap _ _ eN bN)
      have HY := Lib.hid hsucc'
      have CB := fun W => spec_l02Block.calls a0 a1 (q : Int) blk W hst
      have HBQ := Lib.hid (show i % 64 ≠ 0 → b = blk from fun h => (HBK.out h).symm.trans hbk)
      have hmz : (m : Int) = 0 ↔ i % 64 = 0 := by omega
      obtain ⟨d2, hd2⟩ : ∃ d2 : Nat, d2 = d := ⟨d, rfl⟩
      have q3 : (d : Int) = (d2 : Int) := by omega
      have q2 : (c : Int) + (d2 : Int) = (q : Int) := by omega
      have b3 : d2 ≤ 9223372036854775807 := by omega
      by_cases hz : i % 64 = 0
      · have z1 : ((m : Int) == 0) = true := beq_iff_eq.2 (hmz.2 hz)
        have z2 : decide ((m : Int) = 0) = true := decide_eq_true (hmz.2 hz)
        have eC := lx_wrap _ _ q2 hq63
        have eK := lx_wrap _ _ q3 b3
        clear q2 q3 b3 hd2 hmz hz hq hq63 hd63 hmi hm64 hst hbs hbk hnx hsucc hsucc' hmax hlen eN bN HBQ HBK HI_ HG
        go_wp2_with (first
          | (go_at_call 45; with_reducible refine (CB _).mono ?_; rintro e w8 ⟨rfl, hb⟩; have n1_ := Aside0.mk (HO.out.kept (row := none) ⟨hb.os, hb.tape, hb.output, hb.size, fun k hk _ => hb.block k hk⟩ (by cases hv : Value.ownBlock _ <;> simp)); have n2_ := Aside0.mk (below_step HB.out hb))
          )
        clear HO HB hb CB
        have HO := n1_
        have HB := n2_
        clear n1_ n2_
        go_region_held3 (fun _ => True) (trivial)
          ((refine step_append_lies _ (by rfl) _ _ _ (by rfl) w.heap.size 5 i0 (.int .u8 0) 1 1 Try.underlying75 HI.out HZ0.out HZ1.out HZ2.out rfl (by decide) _ _ _ (by rfl) ((HO.out.alloc _).drew) ⟨w8.heap.size, 0, none⟩ 1 1 [.int .u8 (Go.bits .xor .u8 ((t[i]'c1).toNat : Int) ((blk[m]'hmb).toNat : Int))] (by rfl) (by rfl) (World.news_of_block (cs := #[.int .u8 (Go.bits .xor .u8 ((t[i]'c1).toNat : Int) ((blk[m]'hmb).toNat : Int))]) (t := 5) (fr := (0, 0)) (heap_alloc_new _ _)) (by simp [Value.oneCell']) (by decide) H63.out H47.out (by have := HB.out.size; simp; omega) (w8.heap.size + 1) (by simp) ?_; intro g cap w1 hown' hgrow hat hlt'))
        all_goals
          have B1 := Aside0.mk (((below_alloc HB.out _).drew).grown hgrow (by have := HB.out.size; simp; omega) (fun k e => own_base HO.out k e))
          have O1 := Aside0.mk hown'
          clear hown' hgrow hat hlt' HO HB
          go_wp2
          go_roundg (t.size - (i + 1))
          case measure => exact HG1.out
          case rel => exact ⟨i + 1, blk, by rw [EN.out], rfl, HI1, HG2, HNX, ⟨by rw [HY.out, List.length_append, nums_append]; exact O1.out⟩, B1⟩
      · have z1 : ((m : Int) == 0) = false := by rw [beq_eq_false_iff_ne]; exact fun h => hz (hmz.1 h)
        have z2 : decide ((m : Int) = 0) = false := decide_eq_false (fun h => hz (hmz.1 h))
        obtain rfl : b = blk := HBQ.out hz
        clear q2 q3 b3 hd2 hmz hz hq hq63 hd63 hmi hm64 hst hbs hbk hnx hsucc hsucc' hmax hlen eN bN HBQ HBK HI_ HG CB
        go_wp2
        go_region_held3 (fun _ => True) (trivial)
          ((refine step_append_lies _ (by rfl) _ _ _ (by rfl) w.heap.size 5 i0 (.int .u8 0) 1 1 Try.underlying75 HI.out HZ0.out HZ1.out HZ2.out rfl (by decide) _ _ _ (by rfl) ((HO.out.alloc _).drew) ⟨wr.heap.size, 0, none⟩ 1 1 [.int .u8 (Go.bits .xor .u8 ((t[i]'c1).toNat : Int) ((b[m]'hmb).toNat : Int))] (by rfl) (by rfl) (World.news_of_block (cs := #[.int .u8 (Go.bits .xor .u8 ((t[i]'c1).toNat : Int) ((b[m]'hmb).toNat : Int))]) (t := 5) (fr := (0, 0)) (heap_alloc_new _ _)) (by simp [Value.oneCell']) (by decide) H63.out H47.out (by have := HB.out.size; simp; omega) (wr.heap.size + 1) (by simp) ?_; intro g cap w1 hown' hgrow hat hlt'))
        all_goals
          have B1 := Aside0.mk (((below_alloc HB.out _).drew).grown hgrow (by have := HB.out.size; simp; omega) (fun k e => own_base HO.out k e))
          have O1 := Aside0.mk hown'
          clear hown' hgrow hat hlt' HO HB
          go_wp2
          go_roundg (t.size - (i + 1))
          case measure => exact HG1.out
          case rel => exact ⟨i + 1, b, by rw [EN.out], rfl, HI1, HG2, HNX, ⟨by rw [HY.out, List.length_append, nums_append]; exact O1.out⟩, B1⟩
    · have d1 : decide ((i : Int) < (t.size : Int)) = false := decide_eq_false (by omega)
      have d1b : decide (i < t.size) = false := decide_eq_false c1
      obtain rfl : i = t.size := by have := HI_.out; omega
      have hcv := own_string (P := Try.prog) (src := 75) (dst := 9) Try.underlying75 Try.underlying5 Try.underlying9 HO.out
      go_wp2
      go_ret
      exact ⟨rfl, HB.out⟩

theorem spec_l02Xor.calls (a0 a1 : ByteArray) (a2 : Int) (a3 : ByteArray) (r : ByteArray) (w : World) (h : spec_l02Xor.f a0 a1 a2 a3 = some r) :
    Calls Try.prog 96 #[.string a0, .string a1, .int .i64 a2, .string a3] w fun e w' => e = .returned (.string r) ∧ Below w.heap.size w w' := by
  unfold spec_l02Xor.f at h
  by_cases hs : a0.size = 32 ∧ a1.size = 12 ∧ 0 ≤ a2 ∧ a2 ≤ 2000000000 ∧ a3.size ≤ 1000000
  · rw [if_pos hs] at h
    cases h
    obtain ⟨h1, h2, h3, h4, h5⟩ := hs
    obtain ⟨n, rfl⟩ := Int.eq_ofNat_of_zero_le h3
    rw [Int.toNat_natCast]
    exact l02Xor_calls a0 a1 n a3 h1 h2 (by omega) h5 w
  · rw [if_neg hs] at h; cases h
end

end Go.Proofs.Ytihpnededldedaa.Leaf
