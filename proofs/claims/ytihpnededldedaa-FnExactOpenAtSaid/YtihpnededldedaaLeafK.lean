/-
  The program's and the reference's clamping answer the first sixteen bytes with their bits taken away, one and the same list. Conditions: none.
-/
import Derived.Test.YtihpnededldedaaBase
namespace Go.Proofs.Ytihpnededldedaa.Leaf
open Go.RowKit Go.Shelf Go.Proofs.YtihpnededldedaaW.PrintWords Go.Proofs.YtihpnededldedaaW.PrintLast Go.Proofs.YtihpnededldedaaW.PrintMore

/-- Every fourth number from place s on, below place m, with bits taken away. -/
def maskPart (xs : List Int) (s : Nat) (msk : Int) (m : Nat) : List Int := (List.range xs.length).map fun j => if j < m ∧ s ≤ j ∧ (j - s) % 4 = 0 then Go.bits .and .u8 (xs.getD j 0) msk else xs.getD j 0
theorem maskPart_length (xs : List Int) (s : Nat) (msk : Int) (m : Nat) : (maskPart xs s msk m).length = xs.length := by simp [maskPart]
theorem maskPart_start (xs : List Int) (s : Nat) (msk : Int) : maskPart xs s msk s = xs := by
  apply List.ext_getElem
  · rw [maskPart_length]
  · intro j h1 h2
    simp only [maskPart, List.getElem_map, List.getElem_range]
    rw [if_neg (by omega), List.getD_eq_getElem?_getD, List.getElem?_eq_getElem h2]; rfl
theorem maskPart_at (xs : List Int) (s : Nat) (msk : Int) (i : Int) (h0 : 0 ≤ i) (h1 : i < (xs.length : Int)) : rd (maskPart xs s msk i.toNat) i = rd xs i := by
  unfold rd
  rw [List.getD_eq_getElem?_getD, List.getElem?_eq_getElem (by rw [maskPart_length]; omega)]
  simp only [maskPart, List.getElem_map, List.getElem_range, Option.getD_some]
  rw [if_neg (by omega)]
theorem maskPart_step (xs : List Int) (s : Nat) (msk : Int) (i : Int) (h0 : 0 ≤ i) (hs : (s : Int) ≤ i) (h4 : (i - s) % 4 = 0) :
    (maskPart xs s msk i.toNat).set i.toNat (Go.bits .and .u8 (rd xs i) msk) = maskPart xs s msk (i + 4).toNat := by
  apply List.ext_getElem
  · rw [List.length_set, maskPart_length, maskPart_length]
  · intro j hj hj2
    rw [List.getElem_set]
    simp only [maskPart, List.getElem_map, List.getElem_range]
    by_cases e : i.toNat = j
    · subst e
      rw [if_pos rfl, if_pos (by omega)]; rfl
    · rw [if_neg e]
      by_cases h : j < i.toNat ∧ s ≤ j ∧ (j - s) % 4 = 0
      · rw [if_pos h, if_pos (by omega)]
      · rw [if_neg h, if_neg (by omega)]
theorem maskPart_end (xs : List Int) (s : Nat) (msk : Int) (i : Nat) (hi : xs.length ≤ i) : maskPart xs s msk i = maskPart xs s msk xs.length := by
  unfold maskPart
  apply List.map_congr_left
  intro j hj
  rw [List.mem_range] at hj
  by_cases h : s ≤ j ∧ (j - s) % 4 = 0
  · rw [if_pos ⟨by omega, h⟩, if_pos ⟨hj, h⟩]
  · rw [if_neg (fun z => h z.2), if_neg (fun z => h z.2)]

def clampNums (key : ByteArray) : List Int := maskPart (maskPart (bytesOf (key.extract 0 16)) 3 15 16) 4 252 16

def impl_clamped.f (a0 : ByteArray) : Option ByteArray := if 16 ≤ a0.size then some (strOfNums (clampNums a0)) else none

set_option maxHeartbeats 2000000 in
theorem impl_clamped.calls (a0 : ByteArray) (r : ByteArray) (w : World) (h : impl_clamped.f a0 = some r) :
    Calls Try.prog 88 #[.string a0] w fun e w' => e = .returned (.string r) ∧ Below w.heap.size w w' := by
  unfold impl_clamped.f at h
  by_cases hs : 16 ≤ a0.size
  · rw [if_pos hs] at h
    have HR : Hid (strOfNums (clampNums a0) = r) := Option.some.inj h
    clear h
    have HL : Hid ((bytesOf (a0.extract 0 16)).length = 16) := by show _ = 16; rw [bytesOf_length, ByteArray.size_extract]; omega
    have kb := fun W => print_bytes (P := Try.prog) 9 75 5 Try.underlying9 Try.underlying75 Try.underlying5 (a0.extract 0 16) W
    go_enter Try.func88, Try.ntmps88
    go_wp2
    clear kb
    have HZ : Hid ((a0.extract 0 16).size = 16) := by show _ = 16; rw [ByteArray.size_extract]; omega
    go_loopg [4] 16 (fun gg s4 wr => ∃ i : Int, s4 = .int .i64 i ∧ 3 ≤ i ∧ i ≤ 19 ∧ 19 - i ≤ (gg : Int) ∧ Aside0 ((i - 3) % 4 = 0) ∧ Aside0 (Row wr w.heap.size .u8 (maskPart (bytesOf (a0.extract 0 16)) 3 15 i.toNat)) ∧ Aside0 (Below w.heap.size w wr))
    case atStart => exact ⟨3, rfl, by omega, by omega, by omega, ⟨rfl⟩, ⟨by rw [show (3 : Int).toNat = 3 from rfl, maskPart_start]; exact Row.bytes w _ _⟩, ⟨bytes_below (Below.refl _ _) (Nat.le_refl _) _ _⟩⟩
    case round =>
      obtain ⟨i, rfl, h0, h1, hg, H4, HX, HB⟩ := hrel
      by_cases hlt : i < 16
      · have c1 : decide (i < 16) = true := decide_eq_true hlt
        have hl : i < ((maskPart (bytesOf (a0.extract 0 16)) 3 15 i.toNat).length : Int) := by rw [maskPart_length, HL.out]; exact hlt
        obtain ⟨hx, hf⟩ := HX.out.at i (by omega) hl
        rw [maskPart_at _ _ _ i (by omega) (by rw [HL.out]; exact hlt)] at hx
        have HN := Aside0.mk (HX.out.set i (by omega) hl (Go.bits .and .u8 (rd (bytesOf (a0.extract 0 16)) i) 15))
        rw [maskPart_step _ 3 15 i (by omega) (by omega) H4.out] at HN
        have hq : i < ((a0.extract 0 16).size : Int) := by rw [HZ.out]; exact hlt
        clear hl
        generalize rd (bytesOf (a0.extract 0 16)) i = y at hx HN
        go_wp2
        go_roundg (16 - (i.toNat + 1))
        case measure => omega
        case rel => exact ⟨i + 4, by go_num, by omega, by omega, by omega, ⟨by have := H4.out; omega⟩, HN, ⟨HB.out.setCell (p := ⟨w.heap.size, i.toNat, none⟩) (Nat.le_refl _) _⟩⟩
      · have c1 : decide (i < 16) = false := decide_eq_false hlt
        have HX2 : Aside0 (Row wr w.heap.size .u8 (maskPart (bytesOf (a0.extract 0 16)) 3 15 16)) := ⟨by
          have e := maskPart_end (bytesOf (a0.extract 0 16)) 3 15 i.toNat (by rw [HL.out]; omega)
          rw [HL.out] at e; rw [← e]; exact HX.out⟩
        clear HX H4
        go_wp2
        have HL2 : Hid ((maskPart (bytesOf (a0.extract 0 16)) 3 15 16).length = 16) := by show _ = 16; rw [maskPart_length]; exact HL.out
        obtain ⟨xs, hxs⟩ : ∃ xs, xs = maskPart (bytesOf (a0.extract 0 16)) 3 15 16 := ⟨_, rfl⟩
        rw [← hxs] at HX2 HL2
        have HXS := Lib.hid hxs
        clear hxs hlt c1 h0 h1 hg
        obtain ⟨wo, hwo⟩ : ∃ wo : World, wo = wr := ⟨_, rfl⟩
        subst hwo
        go_loopg [5] 16 (fun gg s5 wq => ∃ i : Int, s5 = .int .i64 i ∧ 4 ≤ i ∧ i ≤ 19 ∧ 19 - i ≤ (gg : Int) ∧ Aside0 ((i - 4) % 4 = 0) ∧ Aside0 (Row wq w.heap.size .u8 (maskPart xs 4 252 i.toNat)) ∧ Aside0 (Below w.heap.size w wq))
        case atStart => exact ⟨4, rfl, by omega, by omega, by omega, ⟨rfl⟩, ⟨by rw [show (4 : Int).toNat = 4 from rfl, maskPart_start]; exact HX2.out⟩, HB⟩
        case round =>
          obtain ⟨i, rfl, h0, h1, hg, H4, HX, HB⟩ := hrel
          by_cases hlt : i < 16
          · have c1 : decide (i < 16) = true := decide_eq_true hlt
            have hl : i < ((maskPart xs 4 252 i.toNat).length : Int) := by rw [maskPart_length, HL2.out]; exact hlt
            obtain ⟨hx, hf⟩ := HX.out.at i (by omega) hl
            rw [maskPart_at _ _ _ i (by omega) (by rw [HL2.out]; exact hlt)] at hx
            have HN := Aside0.mk (HX.out.set i (by omega) hl (Go.bits .and .u8 (rd xs i) 252))
            rw [maskPart_step _ 4 252 i (by omega) (by omega) H4.out] at HN
            have hq : i < ((a0.extract 0 16).size : Int) := by rw [HZ.out]; exact hlt
            clear hl
            generalize rd xs i = y at hx HN
            go_wp2
            go_roundg (16 - (i.toNat + 1))
            case measure => omega
            case rel => exact ⟨i + 4, by go_num, by omega, by omega, by omega, ⟨by have := H4.out; omega⟩, HN, ⟨HB.out.setCell (p := ⟨w.heap.size, i.toNat, none⟩) (Nat.le_refl _) _⟩⟩
          · have c1 : decide (i < 16) = false := decide_eq_false hlt
            have e := maskPart_end xs 4 252 i.toNat (by rw [HL2.out]; omega)
            rw [HL2.out] at e
            have hC := HX.out.C (by rw [maskPart_length, HL2.out]; omega)
            rw [maskPart_length, HL2.out, e] at hC
            have hcv : ∀ c : Nat, (convert 75 9 (.slice (some ⟨w.heap.size, 0, none⟩) 16 c)).run Try.prog wr = .ok (.string (strOfNums (maskPart xs 4 252 16))) wr := fun c => by
              exact Kd.C_string Try.underlying75 Try.underlying5 Try.underlying9 hC
            clear e hC HX
            go_wp2
            go_ret
            exact ⟨by rw [← HR.out]; unfold clampNums; rw [← HXS.out]; rfl, HB.out⟩
  · rw [if_neg hs] at h; cases h

def spec_l03Clamp.f (a0 : ByteArray) : Option ByteArray := if 16 ≤ a0.size then some (strOfNums (clampNums a0)) else none

set_option maxHeartbeats 2000000 in
theorem spec_l03Clamp.calls (a0 : ByteArray) (r : ByteArray) (w : World) (h : spec_l03Clamp.f a0 = some r) :
    Calls Try.prog 81 #[.string a0] w fun e w' => e = .returned (.string r) ∧ Below w.heap.size w w' := by
  unfold spec_l03Clamp.f at h
  by_cases hs : 16 ≤ a0.size
  · rw [if_pos hs] at h
    have HR : Hid (strOfNums (clampNums a0) = r) := Option.some.inj h
    clear h
    have HL : Hid ((bytesOf (a0.extract 0 16)).length = 16) := by show _ = 16; rw [bytesOf_length, ByteArray.size_extract]; omega
    have kb := fun W => print_bytes (P := Try.prog) 9 75 5 Try.underlying9 Try.underlying75 Try.underlying5 (a0.extract 0 16) W
    go_enter Try.func81, Try.ntmps81
    go_wp2
    clear kb
    have HZ : Hid ((a0.extract 0 16).size = 16) := by show _ = 16; rw [ByteArray.size_extract]; omega
    go_loopg [4] 16 (fun gg s4 wr => ∃ i : Int, s4 = .int .i64 i ∧ 3 ≤ i ∧ i ≤ 19 ∧ 19 - i ≤ (gg : Int) ∧ Aside0 ((i - 3) % 4 = 0) ∧ Aside0 (Row wr w.heap.size .u8 (maskPart (bytesOf (a0.extract 0 16)) 3 15 i.toNat)) ∧ Aside0 (Below w.heap.size w wr))
    case atStart => exact ⟨3, rfl, by omega, by omega, by omega, ⟨rfl⟩, ⟨by rw [show (3 : Int).toNat = 3 from rfl, maskPart_start]; exact Row.bytes w _ _⟩, ⟨bytes_below (Below.refl _ _) (Nat.le_refl _) _ _⟩⟩
    case round =>
      obtain ⟨i, rfl, h0, h1, hg, H4, HX, HB⟩ := hrel
      by_cases hlt : i < 16
      · have c1 : decide (i < 16) = true := decide_eq_true hlt
        have hl : i < ((maskPart (bytesOf (a0.extract 0 16)) 3 15 i.toNat).length : Int) := by rw [maskPart_length, HL.out]; exact hlt
        obtain ⟨hx, hf⟩ := HX.out.at i (by omega) hl
        rw [maskPart_at _ _ _ i (by omega) (by rw [HL.out]; exact hlt)] at hx
        have HN := Aside0.mk (HX.out.set i (by omega) hl (Go.bits .and .u8 (rd (bytesOf (a0.extract 0 16)) i) 15))
        rw [maskPart_step _ 3 15 i (by omega) (by omega) H4.out] at HN
        have hq : i < ((a0.extract 0 16).size : Int) := by rw [HZ.out]; exact hlt
        clear hl
        generalize rd (bytesOf (a0.extract 0 16)) i = y at hx HN
        go_wp2
        go_roundg (16 - (i.toNat + 1))
        case measure => omega
        case rel => exact ⟨i + 4, by go_num, by omega, by omega, by omega, ⟨by have := H4.out; omega⟩, HN, ⟨HB.out.setCell (p := ⟨w.heap.size, i.toNat, none⟩) (Nat.le_refl _) _⟩⟩
      · have c1 : decide (i < 16) = false := decide_eq_false hlt
        have HX2 : Aside0 (Row wr w.heap.size .u8 (maskPart (bytesOf (a0.extract 0 16)) 3 15 16)) := ⟨by
          have e := maskPart_end (bytesOf (a0.extract 0 16)) 3 15 i.toNat (by rw [HL.out]; omega)
          rw [HL.out] at e; rw [← e]; exact HX.out⟩
        clear HX H4
        go_wp2
        have HL2 : Hid ((maskPart (bytesOf (a0.extract 0 16)) 3 15 16).length = 16) := by show _ = 16; rw [maskPart_length]; exact HL.out
        obtain ⟨xs, hxs⟩ : ∃ xs, xs = maskPart (bytesOf (a0.extract 0 16)) 3 15 16 := ⟨_, rfl⟩
        rw [← hxs] at HX2 HL2
        have HXS := Lib.hid hxs
        clear hxs hlt c1 h0 h1 hg
        obtain ⟨wo, hwo⟩ : ∃ wo : World, wo = wr := ⟨_, rfl⟩
        subst hwo
        go_loopg [5] 16 (fun gg s5 wq => ∃ i : Int, s5 = .int .i64 i ∧ 4 ≤ i ∧ i ≤ 19 ∧ 19 - i ≤ (gg : Int) ∧ Aside0 ((i - 4) % 4 = 0) ∧ Aside0 (Row wq w.heap.size .u8 (maskPart xs 4 252 i.toNat)) ∧ Aside0 (Below w.heap.size w wq))
        case atStart => exact ⟨4, rfl, by omega, by omega, by omega, ⟨rfl⟩, ⟨by rw [show (4 : Int).toNat = 4 from rfl, maskPart_start]; exact HX2.out⟩, HB⟩
        case round =>
          obtain ⟨i, rfl, h0, h1, hg, H4, HX, HB⟩ := hrel
          by_cases hlt : i < 16
          · have c1 : decide (i < 16) = true := decide_eq_true hlt
            have hl : i < ((maskPart xs 4 252 i.toNat).length : Int) := by rw [maskPart_length, HL2.out]; exact hlt
            obtain ⟨hx, hf⟩ := HX.out.at i (by omega) hl
            rw [maskPart_at _ _ _ i (by omega) (by rw [HL2.out]; exact hlt)] at hx
            have HN := Aside0.mk (HX.out.set i (by omega) hl (Go.bits .and .u8 (rd xs i) 252))
            rw [maskPart_step _ 4 252 i (by omega) (by omega) H4.out] at HN
            have hq : i < ((a0.extract 0 16).size : Int) := by rw [HZ.out]; exact hlt
            clear hl
            generalize rd xs i = y at hx HN
            go_wp2
            go_roundg (16 - (i.toNat + 1))
            case measure => omega
            case rel => exact ⟨i + 4, by go_num, by omega, by omega, by omega, ⟨by have := H4.out; omega⟩, HN, ⟨HB.out.setCell (p := ⟨w.heap.size, i.toNat, none⟩) (Nat.le_refl _) _⟩⟩
          · have c1 : decide (i < 16) = false := decide_eq_false hlt
            have e := maskPart_end xs 4 252 i.toNat (by rw [HL2.out]; omega)
            rw [HL2.out] at e
            have hC := HX.out.C (by rw [maskPart_length, HL2.out]; omega)
            rw [maskPart_length, HL2.out, e] at hC
            have hcv : ∀ c : Nat, (convert 75 9 (.slice (some ⟨w.heap.size, 0, none⟩) 16 c)).run Try.prog wr = .ok (.string (strOfNums (maskPart xs 4 252 16))) wr := fun c => by
              exact Kd.C_string Try.underlying75 Try.underlying5 Try.underlying9 hC
            clear e hC HX
            go_wp2
            go_ret
            exact ⟨by rw [← HR.out]; unfold clampNums; rw [← HXS.out]; rfl, HB.out⟩
  · rw [if_neg hs] at h; cases h

end Go.Proofs.Ytihpnededldedaa.Leaf
