/-
  The reference's eight bytes of a number and its nonce, as lists of bytes. Conditions: none.
-/
import Derived.Test.YtihpnededldedaaLeafL
import Derived.Deep.RegionWith
import Derived.Test.YtihpnededldedaaPlain
namespace Go.Proofs.Ytihpnededldedaa.Leaf
open Go.RowKit Go.Shelf Go.Proofs.YtihpnededldedaaW.PrintWords Go.Proofs.YtihpnededldedaaW.PrintLast Go.Proofs.YtihpnededldedaaW.PrintMore

def spec_l04Eight.f (a0 : Int) : Option ByteArray := some (strOfNums (littleNums a0 8))

set_option maxHeartbeats 2000000 in
theorem spec_l04Eight.calls (a0 : Int) (r : ByteArray) (w : World) (h : spec_l04Eight.f a0 = some r) :
    Calls Try.prog 94 #[.int .i64 a0] w fun e w' => e = .returned (.string r) ∧ Below w.heap.size w w' := by
  have HR := Lib.hid (Option.some.inj h)
  clear h
  have hinfo : (Try.prog.info? 5).map (fun i => (i.zero, i.size, i.bytes)) = some (some (.int .u8 0), 1, 1) := by kernel_rfl
  obtain ⟨i0, hi, hz0, hz1, hz2⟩ := info_parts hinfo
  have HI := Aside0.mk hi; have HZ0 := Aside0.mk hz0; have HZ1 := Aside0.mk hz1; have HZ2 := Aside0.mk hz2
  clear hi hz0 hz1 hz2 hinfo
  go_enter Try.func94, Try.ntmps94
  go_wp2
  go_loopg [3, 4] 8 (fun gg s3 s4 wr => ∃ i : Int, s4 = .int .i64 i ∧ 0 ≤ i ∧ i ≤ 8 ∧ 8 - i ≤ (gg : Int) ∧ Aside0 (wr.ownsRow w.heap.size 5 1 s3 (littleNums a0 i.toNat).length (nums .u8 (littleNums a0 i.toNat))) ∧ Aside0 (Below w.heap.size w wr))
  case atStart => exact ⟨0, rfl, by omega, by omega, by omega, ⟨own_lit w w.heap.size 5 .u8 [] (Nat.le_refl _) (by simp)⟩, ⟨below_alloc (Below.refl _ _) _⟩⟩
  case round =>
    obtain ⟨i, rfl, h0, h1, hg, HO, HB⟩ := hrel
    by_cases hlt : i < 8
    · have c1 : decide (i < 8) = true := decide_eq_true hlt
      have HY := Lib.hid (show littleNums a0 (i + 1).toNat = littleNums a0 i.toNat ++ [(a0 / 2 ^ (8 * i).toNat) % 256] by
        rw [show (i + 1).toNat = i.toNat + 1 by omega, littleNums_succ, show (8 * i).toNat = 8 * i.toNat by omega])
      have H63 := Aside0.mk (show (littleNums a0 i.toNat).length + 1 ≤ maxLen by rw [littleNums_length]; unfold maxLen; omega)
      have H47 := Aside0.mk (show ((littleNums a0 i.toNat).length + 1) * 1 ≤ 140737488355328 by rw [littleNums_length]; omega)
      have HS := Aside0.mk HB.out.size
      go_wp2_with (at_builtin; refine wpList_append_lies _ rfl _ _ 75 rfl w.heap.size 5 i0 (.int .u8 0) 1 1 Try.underlying75 HI.out HZ0.out HZ1.out HZ2.out rfl (by decide) _ _ _ rfl (HO.out.alloc _) ⟨wr.heap.size, 0, none⟩ 1 1 [.int .u8 ((a0 / 2 ^ (8 * i).toNat) % 256)] rfl rfl (cell_one_new _ _ _) (by simp [Value.oneCell']) (by decide) H63.out H47.out (by have := HS.out; simp; omega) _ rfl ?_; intro g cap w1 hown' hgrow hat hlt')
      have B1 := Aside0.mk ((below_alloc HB.out (.cells #[.int .u8 ((a0 / 2 ^ (8 * i).toNat) % 256)] 5)).grown hgrow (by have := HS.out; simp; omega) (fun k e => own_base HO.out k e))
      have O1 := Aside0.mk hown'
      clear hown' hgrow hat hlt' HO HB
      go_roundg (8 - (i.toNat + 1))
      case measure => omega
      case rel => exact ⟨i + 1, by go_num, by omega, by omega, by omega, ⟨by rw [HY.out, List.length_append, nums_append]; exact O1.out⟩, B1⟩
    · have c1 : decide (i < 8) = false := decide_eq_false hlt
      have hcv := own_string (P := Try.prog) (src := 75) (dst := 9) Try.underlying75 Try.underlying5 Try.underlying9 HO.out
      go_wp2
      go_ret
      exact ⟨by rw [← HR.out]; rw [show i.toNat = 8 by omega]; rfl, HB.out⟩

def spec_l06Nonce.f (a0 a1 a2 : Int) : Option ByteArray := some (strOfNums ([a0 % 256, a1 % 256, a1 / 256 % 256, 0] ++ littleNums a2 8))

set_option maxHeartbeats 2000000 in
theorem spec_l06Nonce.calls (a0 a1 a2 : Int) (r : ByteArray) (w : World) (h : spec_l06Nonce.f a0 a1 a2 = some r) :
    Calls Try.prog 100 #[.int .i64 a0, .int .i64 a1, .int .i64 a2] w fun e w' => e = .returned (.string r) ∧ Below w.heap.size w w' := by
  have HR := Lib.hid (Option.some.inj h)
  clear h
  have h8 := fun W => spec_l04Eight.calls a2 _ W rfl
  have hcv : ∀ (W : World) (g : Nat), W.cell? ⟨g, 0, none⟩ = some (.int .u8 (a0 % 256)) → W.cell? ⟨g, 1, none⟩ = some (.int .u8 (a1 % 256)) → W.cell? ⟨g, 2, none⟩ = some (.int .u8 (a1 / 256 % 256)) → W.cell? ⟨g, 3, none⟩ = some (.int .u8 0) →
      (convert 75 9 (.slice (some ⟨g, 0, none⟩) 4 4)).run Try.prog W = .ok (.string (strOfNums [a0 % 256, a1 % 256, a1 / 256 % 256, 0])) W := fun W g e0 e1 e2 e3 =>
    string_of_reads Try.underlying75 Try.underlying5 Try.underlying9 ⟨rfl, by decide, fun _ => ⟨_, rfl, fun j hj => by
      rw [add_plain]
      match j, hj with
      | 0, _ => exact e0
      | 1, _ => exact e1
      | 2, _ => exact e2
      | 3, _ => exact e3⟩⟩
  have hw8 : ∀ n, IntKind.u8.wrap n = n % 256 := IntKind.wrap_u8
  have hsz : (strOfNums [a0 % 256, a1 % 256, a1 / 256 % 256, 0]).size = 4 := by rw [strOfNums_size]; rfl
  have hsz8 : (strOfNums (littleNums a2 8)).size = 8 := by rw [strOfNums_size, littleNums_length]
  have HA := Lib.hid (strOfNums_append [a0 % 256, a1 % 256, a1 / 256 % 256, 0] (littleNums a2 8))
  generalize strOfNums (littleNums a2 8) = s8 at h8 hsz8 HA
  generalize strOfNums [a0 % 256, a1 % 256, a1 / 256 % 256, 0] = s4 at hcv hsz HA
  go_enter Try.func100, Try.ntmps100
  go_wp2
  go_region_with (go_at_call 94; refine (h8 _).mono ?_; rintro e w' ⟨rfl, hb⟩; have hc := fun (b o : Nat) h => hb.cell (p := ⟨b, o, none⟩) h; have hz := hb.size)
  all_goals
    clear hc
    go_wp2
    go_ret
    refine ⟨ret_str (by rw [← HR.out, HA.out]), ?_⟩
    first
      | exact ((below_alloc (Below.refl _ w) _).drew).trans (hb.mono (by simp))
      | exact below_alloc (w := w) ((Below.refl _ w).drew.trans hb) _

end Go.Proofs.Ytihpnededldedaa.Leaf
