/-
  xor answers two texts of one length xored byte by byte (where the second is no shorter). Conditions: none.
-/
import Derived.Test.YtihpnededldedaaBase
namespace Go.Proofs.Ytihpnededldedaa.Leaf
open Go.RowKit Go.Shelf Go.Proofs.YtihpnededldedaaW.PrintWords Go.Proofs.YtihpnededldedaaW.PrintLast Go.Proofs.YtihpnededldedaaW.PrintMore

/-- The bytes of a and b, the first m of them xored. -/
def xorPart (a b : ByteArray) (m : Nat) : List Int := (List.range a.size).map fun j => if j < m then Go.bits .xor .u8 (bt a (j : Int)) (bt b (j : Int)) else bt a (j : Int)
def xorNums (a b : ByteArray) : List Int := xorPart a b a.size

theorem xorPart_length (a b : ByteArray) (m : Nat) : (xorPart a b m).length = a.size := by simp [xorPart]
theorem xorPart_zero (a b : ByteArray) : xorPart a b 0 = bytesOf a := by
  apply List.ext_getElem
  · rw [xorPart_length, bytesOf_length]
  · intro j h1 h2
    rw [xorPart_length] at h1
    have := rd_bytesOf a (j : Int)
    unfold rd at this
    rw [List.getD_eq_getElem?_getD, List.getElem?_eq_getElem (by simpa using h2)] at this
    simp [xorPart, ← this]
theorem xorPart_at (a b : ByteArray) (i : Int) (h0 : 0 ≤ i) (h1 : i < (a.size : Int)) : rd (xorPart a b i.toNat) i = bt a i := by
  unfold rd xorPart
  simp [List.getD_eq_getElem?_getD, show i.toNat < a.size by omega, show max i 0 = i by omega]
theorem xorPart_succ (a b : ByteArray) (i : Int) (h0 : 0 ≤ i) : (xorPart a b i.toNat).set i.toNat (Go.bits .xor .u8 (bt a i) (bt b i)) = xorPart a b (i + 1).toNat := by
  apply List.ext_getElem
  · rw [List.length_set, xorPart_length, xorPart_length]
  · intro j hj hj2
    rw [xorPart_length] at hj2
    rw [List.getElem_set]
    by_cases e : i.toNat = j
    · subst e
      have e : ((i.toNat : Nat) : Int) = i := by omega
      rw [if_pos rfl]
      simp only [xorPart, List.getElem_map, List.getElem_range]
      rw [if_pos (by omega), e]
    · rw [if_neg e]
      simp only [xorPart, List.getElem_map, List.getElem_range]
      by_cases h : j < i.toNat
      · rw [if_pos h, if_pos (by omega)]
      · rw [if_neg h, if_neg (by omega)]

def impl_xor.f (a0 a1 : ByteArray) : Option ByteArray := if a0.size ≤ a1.size ∧ a0.size ≤ 140737488355328 then some (strOfNums (xorNums a0 a1)) else none

set_option maxHeartbeats 2000000 in
theorem impl_xor.calls (a0 a1 : ByteArray) (r : ByteArray) (w : World) (h : impl_xor.f a0 a1 = some r) :
    Calls Try.prog 110 #[.string a0, .string a1] w fun e w' => e = .returned (.string r) ∧ Below w.heap.size w w' := by
  unfold impl_xor.f at h
  by_cases hs : a0.size ≤ a1.size ∧ a0.size ≤ 140737488355328
  · rw [if_pos hs] at h
    have HR : Hid (strOfNums (xorNums a0 a1) = r) := Option.some.inj h
    obtain ⟨hle, hmax⟩ := hs
    clear h
    have kb := fun W => print_bytes (P := Try.prog) 9 75 5 Try.underlying9 Try.underlying75 Try.underlying5 a0 W
    go_enter Try.func110, Try.ntmps110
    go_wp2
    clear kb
    go_loopg [6, 11] a0.size (fun gg _ s11 wr => ∃ i : Int, s11 = .int .i64 i ∧ 0 ≤ i ∧ i ≤ (a0.size : Int) ∧ (a0.size : Int) - i ≤ (gg : Int) ∧ Aside0 (Row wr w.heap.size .u8 (xorPart a0 a1 i.toNat)) ∧ Aside0 (Below w.heap.size w wr))
    case atStart => exact ⟨0, rfl, by omega, by omega, by omega, ⟨by rw [show (0 : Int).toNat = 0 from rfl, xorPart_zero]; exact Row.bytes w _ a0⟩, ⟨bytes_below (Below.refl _ _) (Nat.le_refl _) _ _⟩⟩
    case round =>
      obtain ⟨i, rfl, h0, h1, hg, HX, HB⟩ := hrel
      by_cases hlt : i < (a0.size : Int)
      · have c1 : decide (i < (a0.size : Int)) = true := decide_eq_true hlt
        obtain ⟨hx, hf⟩ := HX.out.at i h0 (by rw [xorPart_length]; exact hlt)
        rw [xorPart_at a0 a1 i h0 hlt] at hx
        have hb := bt_at a1 i
        have q1 : (i < (a1.size : Int)) = True := eq_true (by omega)
        have q0 : (0 ≤ i) = True := eq_true h0
        have HN := Aside0.mk ((HX.out.set i h0 (by rw [xorPart_length]; exact hlt) (Go.bits .xor .u8 (bt a0 i) (bt a1 i))))
        rw [xorPart_succ a0 a1 i h0] at HN
        go_wp2
        go_region
        clear hx hf
        go_wp2
        go_roundg (a0.size - (i.toNat + 1))
        case measure => omega
        case rel => exact ⟨i + 1, by go_num, by omega, by omega, by omega, ⟨HN.out.drew⟩, ⟨(HB.out.setCell (p := ⟨w.heap.size, i.toNat, none⟩) (Nat.le_refl _) _).drew⟩⟩
      · have c1 : decide (i < (a0.size : Int)) = false := decide_eq_false hlt
        have hcv := Kd.C_string (P := Try.prog) (n := a0.size) (c := grownCap w a0.size 0 5) Try.underlying75 Try.underlying5 Try.underlying9 (by have := HX.out.C (by rw [xorPart_length]; omega); rw [xorPart_length] at this; exact this)
        go_wp2
        go_ret
        exact ⟨by rw [← HR.out]; unfold xorNums; rw [show i.toNat = a0.size by omega]; rfl, HB.out⟩
  · rw [if_neg hs] at h; cases h

end Go.Proofs.Ytihpnededldedaa.Leaf
