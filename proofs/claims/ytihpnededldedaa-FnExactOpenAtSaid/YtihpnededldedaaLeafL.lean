/-
  little answers so many bytes of a number, the lowest first. Conditions: at most sixteen bytes.
-/
import Derived.Test.YtihpnededldedaaBase
import Derived.OwnWalk
import Derived.Deep.AppendLies
namespace Go.Proofs.Ytihpnededldedaa.Leaf
open Go.RowKit Go.Shelf Go.Proofs.YtihpnededldedaaW.PrintWords Go.Proofs.YtihpnededldedaaW.PrintLast Go.Proofs.YtihpnededldedaaW.PrintMore

/-- The lowest m bytes of n. -/
def littleNums (n : Int) (m : Nat) : List Int := (List.range m).map fun (j : Nat) => (n / 2 ^ (8 * j)) % 256
theorem littleNums_succ (n : Int) (m : Nat) : littleNums n (m + 1) = littleNums n m ++ [(n / 2 ^ (8 * m)) % 256] := by
  unfold littleNums; rw [List.range_succ, List.map_append]; rfl
theorem littleNums_length (n : Int) (m : Nat) : (littleNums n m).length = m := by simp [littleNums]

def impl_little.f (a0 a1 : Int) : Option ByteArray := if 0 ≤ a1 ∧ a1 ≤ 8 then some (strOfNums (littleNums a0 a1.toNat)) else none

set_option maxHeartbeats 2000000 in
theorem impl_little.calls (a0 a1 : Int) (r : ByteArray) (w : World) (h : impl_little.f a0 a1 = some r) :
    Calls Try.prog 78 #[.int .i64 a0, .int .i64 a1] w fun e w' => e = .returned (.string r) ∧ Below w.heap.size w w' := by
  unfold impl_little.f at h
  by_cases hs : 0 ≤ a1 ∧ a1 ≤ 8
  · rw [if_pos hs] at h
    have HR := Lib.hid (Option.some.inj h)
    clear h
    obtain ⟨hs0, hs1⟩ := hs
    have hinfo : (Try.prog.info? 5).map (fun i => (i.zero, i.size, i.bytes)) = some (some (.int .u8 0), 1, 1) := by kernel_rfl
    obtain ⟨i0, hi, hz0, hz1, hz2⟩ := info_parts hinfo
    have HI := Aside0.mk hi; have HZ0 := Aside0.mk hz0; have HZ1 := Aside0.mk hz1; have HZ2 := Aside0.mk hz2
    clear hi hz0 hz1 hz2 hinfo
    go_enter Try.func78, Try.ntmps78
    go_wp2
    go_loopg [5, 6, 8] a1.toNat (fun gg s5 _ s8 wr => ∃ i : Int, s8 = .int .i64 i ∧ 0 ≤ i ∧ i ≤ a1 ∧ a1 - i ≤ (gg : Int) ∧ Aside0 (wr.ownsRow w.heap.size 5 1 s5 (littleNums a0 i.toNat).length (nums .u8 (littleNums a0 i.toNat))) ∧ Aside0 (Below w.heap.size w wr))
    case atStart => exact ⟨0, rfl, by omega, by omega, by omega, ⟨own_nil _ _ _ _⟩, ⟨Below.refl _ _⟩⟩
    case round =>
      obtain ⟨i, rfl, h0, h1, hg, HO, HB⟩ := hrel
      by_cases hlt : i < a1
      · have c1 : decide (i < a1) = true := decide_eq_true hlt
        have HY := Lib.hid (show littleNums a0 (i + 1).toNat = littleNums a0 i.toNat ++ [(a0 / 2 ^ (8 * i).toNat) % 256] by
          rw [show (i + 1).toNat = i.toNat + 1 by omega, littleNums_succ, show (8 * i).toNat = 8 * i.toNat by omega])
        have H63 := Aside0.mk (show (littleNums a0 i.toNat).length + 1 ≤ maxLen by rw [littleNums_length]; unfold maxLen; omega)
        have H47 := Aside0.mk (show ((littleNums a0 i.toNat).length + 1) * 1 ≤ 140737488355328 by rw [littleNums_length]; omega)
        have HS := Aside0.mk HB.out.size
        go_wp2_with (at_builtin; refine wpList_append_lies _ rfl _ _ 75 rfl w.heap.size 5 i0 (.int .u8 0) 1 1 Try.underlying75 HI.out HZ0.out HZ1.out HZ2.out rfl (by decide) _ _ _ rfl (HO.out.alloc _) ⟨wr.heap.size, 0, none⟩ 1 1 [.int .u8 ((a0 / 2 ^ (8 * i).toNat) % 256)] rfl rfl (cell_one_new _ _ _) (by simp [Value.oneCell']) (by decide) H63.out H47.out (by have := HS.out; simp; omega) _ rfl ?_; intro g cap w1 hown' hgrow hat hlt')
        have B1 := Aside0.mk ((below_alloc HB.out (.cells #[.int .u8 ((a0 / 2 ^ (8 * i).toNat) % 256)] 5)).grown hgrow (by have := HS.out; simp; omega) (fun k e => own_base HO.out k e))
        have O1 := Aside0.mk hown'
        clear hown' hgrow hat hlt' HO HB
        go_roundg (a1.toNat - (i.toNat + 1))
        case measure => omega
        case rel => exact ⟨i + 1, by go_num, by omega, by omega, by omega, ⟨by rw [HY.out, List.length_append, nums_append]; exact O1.out⟩, B1⟩
      · have c1 : decide (i < a1) = false := decide_eq_false hlt
        have hcv := own_string (P := Try.prog) (src := 75) (dst := 9) Try.underlying75 Try.underlying5 Try.underlying9 HO.out
        go_wp2
        go_ret
        exact ⟨by rw [← HR.out]; rw [show i.toNat = a1.toNat by omega]; rfl, HB.out⟩
  · rw [if_neg hs] at h; cases h

end Go.Proofs.Ytihpnededldedaa.Leaf
