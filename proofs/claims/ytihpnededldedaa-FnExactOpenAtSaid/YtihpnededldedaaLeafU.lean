/-
  The tag of a box, the program's and the reference's: one answer. Conditions: a key of 32 bytes, a nonce of 12, texts of at most 65536.
-/
import Derived.Test.YtihpnededldedaaLeafC
import Derived.Test.YtihpnededldedaaLeafT
import Derived.Test.YtihpnededldedaaLeafP
import Derived.Test.YtihpnededldedaaLeafM
namespace Go.Proofs.Ytihpnededldedaa.Leaf
open Go.RowKit Go.Shelf Go.Proofs.YtihpnededldedaaW.PrintWords Go.Proofs.YtihpnededldedaaW.PrintLast Go.Proofs.YtihpnededldedaaW.PrintMore

theorem chaBlk_size (key nonce : ByteArray) (c : Nat) : (chaBlk key nonce c).size = 64 := by
  unfold chaBlk; rw [strOfNums_size, sumBytes_length]
def eightB (n : Nat) : ByteArray := strOfNums (littleNums (n : Int) 8)
theorem eightB_size (n : Nat) : (eightB n).size = 8 := by unfold eightB; rw [strOfNums_size, littleNums_length]
theorem padOf_size (a : ByteArray) (h : a.size ≤ 65536) : (padOf a).size ≤ 65552 := by
  unfold padOf; rw [ByteArray.size_append, zerosB_size]; omega
/-- The tag of a box. -/
def macOf (a0 a1 a2 a3 : ByteArray) : ByteArray := tagOf ((chaBlk a0 a1 0).extract 0 32) (((padOf a2 ++ padOf a3) ++ eightB a2.size) ++ eightB a3.size)
theorem mac_sizes (a0 a1 a2 a3 : ByteArray) (h2 : a2.size ≤ 65536) (h3 : a3.size ≤ 65536) : ((chaBlk a0 a1 0).extract 0 32).size = 32 ∧ (padOf a2).size + (padOf a3).size ≤ 200000 ∧ (padOf a2 ++ padOf a3).size + (eightB a2.size).size ≤ 200000 ∧ ((padOf a2 ++ padOf a3) ++ eightB a2.size).size + (eightB a3.size).size ≤ 200000 := by
  have p2 := padOf_size a2 h2; have p3 := padOf_size a3 h3; have e2 := eightB_size a2.size; have e3 := eightB_size a3.size
  have hc := chaBlk_size a0 a1 0
  refine ⟨by rw [ByteArray.size_extract, hc]; rfl, by omega, ?_, ?_⟩
  · rw [ByteArray.size_append]; omega
  · rw [ByteArray.size_append, ByteArray.size_append]; omega

theorem repeatL_one (n : Nat) : Lib.repeatL [0] n = List.replicate n 0 := by
  induction n with
  | zero => rfl
  | succ n ih => rw [Lib.repeatL, ih]; rfl
theorem zerosB_succ (n : Nat) : zerosB (n + 1) = zerosB n ++ ⟨#[0]⟩ := by
  unfold zerosB
  rw [repeatL_one, repeatL_one, List.replicate_succ']
  apply ByteArray.ext
  rw [ByteArray.data_append]
  exact Array.ext' (by simp)
theorem append_zeros (a : ByteArray) (n : Nat) : a ++ zerosB (n + 1) = (a ++ zerosB n) ++ ⟨#[0]⟩ := by rw [zerosB_succ, ByteArray.append_assoc]
theorem append_none (a : ByteArray) : a ++ zerosB 0 = a := by
  apply ByteArray.ext
  simp [zerosB, Lib.repeatL, ByteArray.data_append]

set_option maxHeartbeats 4000000 in
theorem l04Pad_calls (a : ByteArray) (ha : a.size ≤ 65536) (w : World) : Calls Try.prog 93 #[.string a] w fun e w' => e = .returned (.string (padOf a)) ∧ w = w' := by
  obtain ⟨m, hm⟩ : ∃ m, (16 - a.size % 16) % 16 = m := ⟨_, rfl⟩
  have HM := Lib.hid (show padOf a = a ++ zerosB m by unfold padOf; rw [hm])
  go_enter Try.func93, Try.ntmps93
  go_wp2
  go_loopg [0] 16 (fun gg s0 wr => ∃ n : Nat, s0 = .string (a ++ zerosB n) ∧ n ≤ m ∧ 16 ≤ gg + n ∧ Aside0 (wr = w))
  case atStart => exact ⟨0, by rw [append_none], by omega, by omega, ⟨rfl⟩⟩
  case round =>
    obtain ⟨n, rfl, hn, hg, HW⟩ := hrel
    obtain ⟨z, hz⟩ : ∃ z, a ++ zerosB n = z := ⟨_, rfl⟩
    have hzs : z.size = a.size + n := by rw [← hz, ByteArray.size_append, zerosB_size]
    have HWo := HW.out
    by_cases hlt : n < m
    · have HY := Lib.hid (show a ++ zerosB (n + 1) = z ++ ⟨#[0]⟩ by rw [append_zeros, hz])
      have k1 : (z.size + 1 ≤ 9223372036854775807) = True := eq_true (by omega)
      have k2 : (9223372036854775807 < z.size + 1) = False := eq_false (by omega)
      have c1 : ((z.size : Int) % 16 != 0) = true := by simp; omega
      have c2 : ((z.size : Int) % 16 == 0) = false := by simp; omega
      rw [hz]
      clear hz hzs
      go_wp2
      go_roundg (16 - (n + 1))
      case measure => omega
      case rel => exact ⟨n + 1, by rw [HY.out], by omega, by omega, by first | exact HW | exact ⟨rfl⟩⟩
    · obtain rfl : n = m := by omega
      have c1 : ((z.size : Int) % 16 != 0) = false := by simp; omega
      have c2 : ((z.size : Int) % 16 == 0) = true := by simp; omega
      have HZ := Lib.hid hz
      rw [hz]
      clear hz hzs
      go_wp2
      go_ret
      exact ⟨ret_str (by rw [HM.out, HZ.out]), by first | exact HW.out.symm | rfl⟩

def spec_l04Tag.f (a0 a1 a2 a3 : ByteArray) : Option ByteArray := if a0.size = 32 ∧ a1.size = 12 ∧ a2.size ≤ 65536 ∧ a3.size ≤ 65536 then some (macOf a0 a1 a2 a3) else none
theorem mac_facts (p2 p3 x2 x3 : ByteArray) (h1 : p2.size + p3.size ≤ 200000) (h2 : (p2 ++ p3).size + x2.size ≤ 200000) (h3 : ((p2 ++ p3) ++ x2).size + x3.size ≤ 200000) :
    ((p2.size + p3.size ≤ 9223372036854775807) = True ∧ (9223372036854775807 < p2.size + p3.size) = False) ∧ ((p2.size + p3.size + x2.size ≤ 9223372036854775807) = True ∧ (9223372036854775807 < p2.size + p3.size + x2.size) = False) ∧
    ((p2.size + p3.size + x2.size + x3.size ≤ 9223372036854775807) = True ∧ (9223372036854775807 < p2.size + p3.size + x2.size + x3.size) = False) := by
  rw [ByteArray.size_append] at h2
  rw [ByteArray.size_append, ByteArray.size_append] at h3
  exact ⟨⟨eq_true (by omega), eq_false (by omega)⟩, ⟨eq_true (by omega), eq_false (by omega)⟩, eq_true (by omega), eq_false (by omega)⟩

set_option maxHeartbeats 8000000 in
theorem spec_l04Tag.calls (a0 a1 a2 a3 : ByteArray) (r : ByteArray) (w : World) (h : spec_l04Tag.f a0 a1 a2 a3 = some r) :
    Calls Try.prog 52 #[.string a0, .string a1, .string a2, .string a3] w fun e w' => e = .returned (.string r) ∧ Below w.heap.size w w' := by
  unfold spec_l04Tag.f at h
  by_cases hs : a0.size = 32 ∧ a1.size = 12 ∧ a2.size ≤ 65536 ∧ a3.size ≤ 65536
  · rw [if_pos hs] at h
    have HR := Lib.hid (Option.some.inj h)
    obtain ⟨h0, h1, h2, h3⟩ := hs
    clear h
    obtain ⟨m1, m2, m3, m4⟩ := mac_sizes a0 a1 a2 a3 h2 h3
    have hc := chaBlk_size a0 a1 0
    have HM := Lib.hid (show macOf a0 a1 a2 a3 = tagOf ((chaBlk a0 a1 0).extract 0 32) (((padOf a2 ++ padOf a3) ++ eightB a2.size) ++ eightB a3.size) from rfl)
    have CB := fun W => spec_l02Block.calls a0 a1 0 (chaBlk a0 a1 0) W (if_pos ⟨h0, h1, by decide, by decide⟩)
    have CP2 := fun W => l04Pad_calls a2 h2 W
    have CP3 := fun W => l04Pad_calls a3 h3 W
    have CE2 : ∀ W, Calls Try.prog 94 #[.int .i64 (a2.size : Int)] W fun e w' => e = .returned (.string (eightB a2.size)) ∧ Below W.heap.size W w' := fun W => spec_l04Eight.calls (a2.size : Int) _ W rfl
    have CE3 : ∀ W, Calls Try.prog 94 #[.int .i64 (a3.size : Int)] W fun e w' => e = .returned (.string (eightB a3.size)) ∧ Below W.heap.size W w' := fun W => spec_l04Eight.calls (a3.size : Int) _ W rfl
    obtain ⟨⟨k1, k1'⟩, ⟨k2, k2'⟩, k3, k3'⟩ := mac_facts _ _ _ _ m2 m3 m4
    have ht : (((padOf a2 ++ padOf a3) ++ eightB a2.size) ++ eightB a3.size).size ≤ 1000000 := by rw [ByteArray.size_append]; omega
    have CT := fun W => spec_l03Tag.calls ((chaBlk a0 a1 0).extract 0 32) (((padOf a2 ++ padOf a3) ++ eightB a2.size) ++ eightB a3.size) _ W (if_pos ⟨m1, ht⟩)
    have s1 : ((32 : Int) ≤ ((chaBlk a0 a1 0).size : Int)) = True := eq_true (by omega)
    have s2 : (32 ≤ (chaBlk a0 a1 0).size) = True := eq_true (by omega)
    have s3 : ((chaBlk a0 a1 0).size < 32) = False := eq_false (by omega)
    generalize chaBlk a0 a1 0 = blk at CB HM CT s1 s2 s3
    generalize padOf a2 = p2 at CP2 HM CT k1 k1' k2 k2' k3 k3'
    generalize padOf a3 = p3 at CP3 HM CT k1 k1' k2 k2' k3 k3'
    generalize eightB a2.size = x2 at CE2 HM CT k2 k2' k3 k3'
    generalize eightB a3.size = x3 at CE3 HM CT k3 k3'
    clear m1 m2 m3 m4 hc h0 h1 h2 h3 ht
    have HB := Aside0.mk (Below.refl w.heap.size w)
    go_enter Try.func52, Try.ntmps52
    go_wp2_with (first
      | (go_at_call 45; with_reducible refine (CB _).mono ?_; rintro e1 w1 ⟨rfl, hb⟩; have n1_ := Aside0.mk (HB.out.trans (hb.mono HB.out.size)); clear HB hb; have HB := n1_; clear n1_)
      | (go_at_call 93; with_reducible refine (CP2 _).mono ?_; rintro e2 w2 ⟨rfl, rfl⟩)
      | (go_at_call 93; with_reducible refine (CP3 _).mono ?_; rintro e3 w3 ⟨rfl, rfl⟩)
      | (go_at_call 94; with_reducible refine (CE2 _).mono ?_; rintro e4 w4 ⟨rfl, hb⟩; have n1_ := Aside0.mk (HB.out.trans (hb.mono HB.out.size)); clear HB hb; have HB := n1_; clear n1_)
      | (go_at_call 94; with_reducible refine (CE3 _).mono ?_; rintro e5 w5 ⟨rfl, hb⟩; have n1_ := Aside0.mk (HB.out.trans (hb.mono HB.out.size)); clear HB hb; have HB := n1_; clear n1_)
      | (go_at_call 48; with_reducible refine (CT _).mono ?_; rintro e6 w6 ⟨rfl, hb⟩; have n1_ := Aside0.mk (HB.out.trans (hb.mono HB.out.size)); clear HB hb; have HB := n1_; clear n1_))
    go_ret
    exact ⟨ret_str (by rw [← HR.out, HM.out]), HB.out⟩
  · rw [if_neg hs] at h; cases h

end Go.Proofs.Ytihpnededldedaa.Leaf
