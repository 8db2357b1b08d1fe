/-
  spec.l02Xor answers a text xored with the stream. Conditions: a key of 32 bytes, a nonce of 12, a count of at most two thousand millions, a text of at most a million bytes.
-/
import Derived.Test.YtihpnededldedaaXor
import Derived.Test.YtihpnededldedaaPlain
import Derived.OwnWalk
import Derived.Deep.AppendLies
import Derived.Deep.RegionWith
namespace Go.Proofs.Ytihpnededldedaa.Leaf
open Go.RowKit Go.Shelf Go.Proofs.YtihpnededldedaaW.PrintWords Go.Proofs.YtihpnededldedaaW.PrintLast Go.Proofs.YtihpnededldedaaW.PrintMore

def spec_l02Xor.f (a0 a1 : ByteArray) (a2 : Int) (a3 : ByteArray) : Option ByteArray := if a0.size = 32 ∧ a1.size = 12 ∧ 0 ≤ a2 ∧ a2 ≤ 2000000000 ∧ a3.size ≤ 1000000 then some (chaXorOf a0 a1 a2.toNat a3) else none
theorem lx_wrap (x : Int) (n : Nat) (h : x = (n : Int)) (hn : n ≤ 9223372036854775807) : wrap64 x = (n : Int) := by rw [h]; exact wrap_ok _ (by omega) (by omega)
/-- What one round of the loop reckons. -/
theorem lx_byte_names (a0 a1 : ByteArray) (c : Nat) (t : ByteArray) (i : Nat) (h0 : a0.size = 32) (h1 : a1.size = 12) (hc : c ≤ 2000000000) (ht : t.size ≤ 1000000) (hi : i < t.size) :
    ∃ m d q : Nat, ∃ blk : ByteArray, ((i : Int) % 64 = (m : Int) ∧ m < 64 ∧ (i : Int) / 64 = (d : Int) ∧ (c : Int) + (d : Int) = (q : Int) ∧ q ≤ 9223372036854775807 ∧ d ≤ 9223372036854775807 ∧ m = i % 64) ∧
      spec_l02Block.f a0 a1 (q : Int) = some blk ∧ blk.size = 64 ∧ chaBlk a0 a1 (c + i / 64) = blk ∧ (∀ j, j = i + 1 → j % 64 ≠ 0 → chaBlk a0 a1 (c + j / 64) = blk) ∧
      chaNums a0 a1 c t (i + 1) = chaNums a0 a1 c t i ++ [Go.bits .xor .u8 (bt t (i : Int)) (bt blk (m : Int))] := by
  refine ⟨i % 64, i / 64, c + i / 64, chaBlk a0 a1 (c + i / 64), ⟨by omega, by omega, by omega, by omega, by omega, by omega, rfl⟩, ?_, ?_, rfl, ?_, ?_⟩
  · unfold spec_l02Block.f
    rw [if_pos ⟨h0, h1, by omega, by omega⟩, Int.toNat_natCast]
  · unfold chaBlk; rw [strOfNums_size, sumBytes_length]
  · intro j hj hn
    subst hj
    rw [show (i + 1) / 64 = i / 64 by omega]
  · rw [chaNums_succ]; rfl

set_option maxHeartbeats 4000000 in
set_option maxRecDepth 100000 in
theorem l02Xor_calls (a0 a1 : ByteArray) (c : Nat) (t : ByteArray) (h0 : a0.size = 32) (h1 : a1.size = 12) (hc : c ≤ 2000000000) (ht : t.size ≤ 1000000) (w : World) :
    Calls Try.prog 96 #[.string a0, .string a1, .int .i64 (c : Int), .string t] w fun e w' => e = .returned (.string (chaXorOf a0 a1 c t)) ∧ Below w.heap.size w w' := by
  have hinfo : (Try.prog.info? 5).map (fun i => (i.zero, i.size, i.bytes)) = some (some (.int .u8 0), 1, 1) := by kernel_rfl
  obtain ⟨i0, hi, hz0, hz1, hz2⟩ := info_parts hinfo
  have HI := Aside0.mk hi; have HZ0 := Aside0.mk hz0; have HZ1 := Aside0.mk hz1; have HZ2 := Aside0.mk hz2
  have HN := Lib.hid (show a0.size = 32 ∧ a1.size = 12 ∧ c ≤ 2000000000 ∧ t.size ≤ 1000000 from ⟨h0, h1, hc, ht⟩)
  clear hi hz0 hz1 hz2 hinfo h0 h1 hc ht
  go_enter Try.func96, Try.ntmps96
  go_wp2
  go_loopg [9, 10, 11] t.size (fun gg s9 s10 s11 wr => ∃ i : Nat, ∃ b : ByteArray, s11 = .int .i64 (i : Int) ∧ s10 = .string b ∧ Aside0 (i ≤ t.size) ∧ Aside0 (t.size ≤ gg + i) ∧ Aside0 (i % 64 ≠ 0 → chaBlk a0 a1 (c + i / 64) = b) ∧ Aside0 (wr.ownsRow w.heap.size 5 1 s9 (chaNums a0 a1 c t i).length (nums .u8 (chaNums a0 a1 c t i))) ∧ Aside0 (Below w.heap.size w wr))
  case atStart => exact ⟨0, ⟨#[]⟩, rfl, rfl, ⟨by omega⟩, ⟨by omega⟩, ⟨fun h => absurd rfl h⟩, ⟨own_lit w w.heap.size 5 .u8 [] (Nat.le_refl _) (by simp)⟩, ⟨below_alloc (Below.refl _ _) _⟩⟩
  case round =>
    obtain ⟨i, b, rfl, rfl, HI_, HG, HBK, HO, HB⟩ := hrel
    by_cases c1 : i < t.size
    · have d1 : decide ((i : Int) < (t.size : Int)) = true := decide_eq_true (by omega)
      have d1b : decide (i < t.size) = true := decide_eq_true c1
      obtain ⟨m, d, q, blk, ⟨hm, hm64, hd, hq, hq63, hd63, hmi⟩, hst, hbs, hbk, hnx, hsucc⟩ := lx_byte_names a0 a1 c t i HN.out.1 HN.out.2.1 HN.out.2.2.1 HN.out.2.2.2 c1
      have HG1 := Aside0.mk (show t.size - (i + 1) < gk by have := HG.out; omega)
      have HG2 := Aside0.mk (show t.size ≤ t.size - (i + 1) + (i + 1) by omega)
      have HI1 := Aside0.mk (show i + 1 ≤ t.size by omega)
      have HNX := Aside0.mk (fun h => hnx (i + 1) rfl h)
      have hlen : (chaNums a0 a1 c t i).length = i := chaNums_length _ _ _ _ _
      have hmax := HN.out.2.2.2
      have H63 := Aside0.mk (show (chaNums a0 a1 c t i).length + 1 ≤ maxLen by rw [hlen]; unfold maxLen; omega)
      have H47 := Aside0.mk (show ((chaNums a0 a1 c t i).length + 1) * 1 ≤ 140737488355328 by rw [hlen]; omega)
      have HS := Aside0.mk HB.out.size
      have hmb : m < blk.size := by omega
      have hsucc' : chaNums a0 a1 c t (i + 1) = chaNums a0 a1 c t i ++ [Go.bits .xor .u8 ((t[i]'c1).toNat : Int) ((blk[m]'hmb).toNat : Int)] := by
        have x1 : ((t[i]'c1).toNat : Int) = bt t (i : Int) := bt_at t (i : Int) c1
        have x2 : ((blk[m]'hmb).toNat : Int) = bt blk (m : Int) := bt_at blk (m : Int) hmb
        rw [x1, x2]; exact hsucc
      have hm2 : Int.tmod (i : Int) 64 = (m : Int) := by rw [Int.tmod_eq_emod_of_nonneg (by omega)]; exact hm
      have r3' : (m : Int) < (blk.size : Int) := by omega
      have r1' : (i : Int) < (t.size : Int) := by omega
      have r0' : (0 : Int) ≤ (i : Int) := by omega
      have r2' : (0 : Int) ≤ (m : Int) := by omega
      have r0 : (0 ≤ (i : Int)) = True := eq_true (by omega)
      have r1 : ((i : Int) < (t.size : Int)) = True := eq_true (by omega)
      have r1b : (i < t.size) = True := eq_true c1
      have r2 : (0 ≤ (m : Int)) = True := eq_true (by omega)
      have r3 : ((m : Int) < (blk.size : Int)) = True := eq_true (by omega)
      have r3b : (m < blk.size) = True := eq_true (by omega)
      have eN := show (i : Int) + 1 = ((i + 1 : Nat) : Int) by omega
      have bN : i + 1 ≤ 9223372036854775807 := by omega
      have EN := Lib.hid (lx_wrap _ _ eN bN)
      have HY := Lib.hid hsucc'
      have CB := fun W => spec_l02Block.calls a0 a1 (q : Int) blk W hst
      have HBQ := Lib.hid (show i % 64 ≠ 0 → b = blk from fun h => (HBK.out h).symm.trans hbk)
      have hmz : (m : Int) = 0 ↔ i % 64 = 0 := by omega
      obtain ⟨d2, hd2⟩ : ∃ d2 : Nat, d2 = d := ⟨d, rfl⟩
      have q3 : (d : Int) = (d2 : Int) := by omega
      have q2 : (c : Int) + (d2 : Int) = (q : Int) := by omega
      have b3 : d2 ≤ 9223372036854775807 := by omega
      by_cases hz : i % 64 = 0
      · have z1 : ((m : Int) == 0) = true := beq_iff_eq.2 (hmz.2 hz)
        have z2 : decide ((m : Int) = 0) = true := decide_eq_true (hmz.2 hz)
        have eC := lx_wrap _ _ q2 hq63
        have eK := lx_wrap _ _ q3 b3
        clear q2 q3 b3 hd2 hmz hz hq hq63 hd63 hmi hm64 hst hbs hbk hnx hsucc hsucc' hmax hlen eN bN HBQ HBK HI_ HG
        go_wp2_with (first
          | (go_at_call 45; with_reducible refine (CB _).mono ?_; rintro e w8 ⟨rfl, hb⟩; have n1_ := Aside0.mk (HO.out.kept (row := none) ⟨hb.os, hb.tape, hb.output, hb.size, fun k hk _ => hb.block k hk⟩ (by cases hv : Value.ownBlock _ <;> simp)); have n2_ := Aside0.mk (below_step HB.out hb))
          )
        clear HO HB hb CB
        have HO := n1_
        have HB := n2_
        clear n1_ n2_
        go_region_held3 (fun _ => True) (trivial)
          ((refine step_append_lies _ (by rfl) _ _ _ (by rfl) w.heap.size 5 i0 (.int .u8 0) 1 1 Try.underlying75 HI.out HZ0.out HZ1.out HZ2.out rfl (by decide) _ _ _ (by rfl) ((HO.out.alloc _).drew) ⟨w8.heap.size, 0, none⟩ 1 1 [.int .u8 (Go.bits .xor .u8 ((t[i]'c1).toNat : Int) ((blk[m]'hmb).toNat : Int))] (by rfl) (by rfl) (World.news_of_block (cs := #[.int .u8 (Go.bits .xor .u8 ((t[i]'c1).toNat : Int) ((blk[m]'hmb).toNat : Int))]) (t := 5) (fr := (0, 0)) (heap_alloc_new _ _)) (by simp [Value.oneCell']) (by decide) H63.out H47.out (by have := HB.out.size; simp; omega) (w8.heap.size + 1) (by simp) ?_; intro g cap w1 hown' hgrow hat hlt'))
        all_goals
          have B1 := Aside0.mk (((below_alloc HB.out _).drew).grown hgrow (by have := HB.out.size; simp; omega) (fun k e => own_base HO.out k e))
          have O1 := Aside0.mk hown'
          clear hown' hgrow hat hlt' HO HB
          go_wp2
          go_roundg (t.size - (i + 1))
          case measure => exact HG1.out
          case rel => exact ⟨i + 1, blk, by rw [EN.out], rfl, HI1, HG2, HNX, ⟨by rw [HY.out, List.length_append, nums_append]; exact O1.out⟩, B1⟩
      · have z1 : ((m : Int) == 0) = false := by rw [beq_eq_false_iff_ne]; exact fun h => hz (hmz.1 h)
        have z2 : decide ((m : Int) = 0) = false := decide_eq_false (fun h => hz (hmz.1 h))
        obtain rfl : b = blk := HBQ.out hz
        clear q2 q3 b3 hd2 hmz hz hq hq63 hd63 hmi hm64 hst hbs hbk hnx hsucc hsucc' hmax hlen eN bN HBQ HBK HI_ HG CB
        go_wp2
        go_region_held3 (fun _ => True) (trivial)
          ((refine step_append_lies _ (by rfl) _ _ _ (by rfl) w.heap.size 5 i0 (.int .u8 0) 1 1 Try.underlying75 HI.out HZ0.out HZ1.out HZ2.out rfl (by decide) _ _ _ (by rfl) ((HO.out.alloc _).drew) ⟨wr.heap.size, 0, none⟩ 1 1 [.int .u8 (Go.bits .xor .u8 ((t[i]'c1).toNat : Int) ((b[m]'hmb).toNat : Int))] (by rfl) (by rfl) (World.news_of_block (cs := #[.int .u8 (Go.bits .xor .u8 ((t[i]'c1).toNat : Int) ((b[m]'hmb).toNat : Int))]) (t := 5) (fr := (0, 0)) (heap_alloc_new _ _)) (by simp [Value.oneCell']) (by decide) H63.out H47.out (by have := HB.out.size; simp; omega) (wr.heap.size + 1) (by simp) ?_; intro g cap w1 hown' hgrow hat hlt'))
        all_goals
          have B1 := Aside0.mk (((below_alloc HB.out _).drew).grown hgrow (by have := HB.out.size; simp; omega) (fun k e => own_base HO.out k e))
          have O1 := Aside0.mk hown'
          clear hown' hgrow hat hlt' HO HB
          go_wp2
          go_roundg (t.size - (i + 1))
          case measure => exact HG1.out
          case rel => exact ⟨i + 1, b, by rw [EN.out], rfl, HI1, HG2, HNX, ⟨by rw [HY.out, List.length_append, nums_append]; exact O1.out⟩, B1⟩
    · have d1 : decide ((i : Int) < (t.size : Int)) = false := decide_eq_false (by omega)
      have d1b : decide (i < t.size) = false := decide_eq_false c1
      obtain rfl : i = t.size := by have := HI_.out; omega
      have hcv := own_string (P := Try.prog) (src := 75) (dst := 9) Try.underlying75 Try.underlying5 Try.underlying9 HO.out
      go_wp2
      go_ret
      exact ⟨rfl, HB.out⟩

theorem spec_l02Xor.calls (a0 a1 : ByteArray) (a2 : Int) (a3 : ByteArray) (r : ByteArray) (w : World) (h : spec_l02Xor.f a0 a1 a2 a3 = some r) :
    Calls Try.prog 96 #[.string a0, .string a1, .int .i64 a2, .string a3] w fun e w' => e = .returned (.string r) ∧ Below w.heap.size w w' := by
  unfold spec_l02Xor.f at h
  by_cases hs : a0.size = 32 ∧ a1.size = 12 ∧ 0 ≤ a2 ∧ a2 ≤ 2000000000 ∧ a3.size ≤ 1000000
  · rw [if_pos hs] at h
    cases h
    obtain ⟨h1, h2, h3, h4, h5⟩ := hs
    obtain ⟨n, rfl⟩ := Int.eq_ofNat_of_zero_le h3
    rw [Int.toNat_natCast]
    exact l02Xor_calls a0 a1 n a3 h1 h2 (by omega) h5 w
  · rw [if_neg hs] at h; cases h

end Go.Proofs.Ytihpnededldedaa.Leaf
