/-
  impl.stream answers the same block as the reference's. Conditions: the sizes of key and nonce, the count is a word.
-/
import Derived.Test.YtihpnededldedaaStrT
import Derived.Test.YtihpnededldedaaStrO
import Derived.Test.YtihpnededldedaaStr0
import Derived.Test.YtihpnededldedaaStrW
namespace Go.Proofs.Ytihpnededldedaa.Leaf
open Go.RowKit Go.Shelf Go.Proofs.YtihpnededldedaaW.PrintWords Go.Proofs.YtihpnededldedaaW.PrintLast Go.Proofs.YtihpnededldedaaW.PrintMore Go.Proofs.Ytihpnededldedaa.PCha
set_option maxRecDepth 1000000 in
set_option maxHeartbeats 16000000 in
theorem stream_calls (key nonce : ByteArray) (count : Nat) (hk : key.size = 32) (hn : nonce.size = 12) (hc : count < 2 ^ 32) (hw : wordAt (strOfNums (littleNums (count : Int) 4)) 0 = count) (w : World) :
    Calls Try.prog 47 #[.string key, .string nonce, .int .i64 count] w fun e w' => e = .returned (.string (chaBlk key nonce count)) ∧ Below w.heap.size w w' := by
  have FO := firstW_ok key nonce count hc
  have HR := Lib.hid (show chaBlk key nonce count = strOfNums (sumBytes (rounds20 (firstW key nonce count) 10) (firstW key nonce count) 16) from rfl)
  have hz : (strOfNums (littleNums (count : Int) 4)).size = 4 := by rw [strOfNums_size, littleNums_length]
  have hT := firstW_text key nonce _ count hk hz hn hw
  have hC := fun W => impl_little.calls (count : Int) 4 _ W (if_pos ⟨by decide, by decide⟩)
  simp only [show Int.toNat 4 = 4 from rfl] at hC
  generalize strOfNums (littleNums (count : Int) 4) = z at hC hz hT
  have s1 : (chaConst ++ key).size = 48 := by rw [ByteArray.size_append, hk]; rfl
  have s2 : ((chaConst ++ key) ++ z).size = 52 := by rw [ByteArray.size_append]; omega
  have s3 : (((chaConst ++ key) ++ z) ++ nonce).size = 64 := by rw [ByteArray.size_append]; omega
  have HT := Lib.hid hT; have HS := Lib.hid s3
  have k1 : (16 + key.size ≤ 9223372036854775807) = True := eq_true (by omega)
  have k1' : (9223372036854775807 < 16 + key.size) = False := eq_false (by omega)
  have k2 : (16 + key.size + z.size ≤ 9223372036854775807) = True := eq_true (by omega)
  have k2' : (9223372036854775807 < 16 + key.size + z.size) = False := eq_false (by omega)
  have k3 : (16 + key.size + z.size + nonce.size ≤ 9223372036854775807) = True := eq_true (by omega)
  have k3' : (9223372036854775807 < 16 + key.size + z.size + nonce.size) = False := eq_false (by omega)
  clear hT hk hn hc hw hz s1 s2 s3
  go_enter Try.func47, Try.ntmps47
  go_wp2_with (go_at_call 78; with_reducible refine (hC _).mono ?_; rintro e w0 ⟨rfl, hb0⟩; have L0 := Aside0.mk hb0)
  refine str0_wp (((chaConst ++ key) ++ z) ++ nonce) (w0.heap.size + 1) w0.heap.size zeros16 _ _ _ _ _ _ _ _ _ _ _ _ _ _ _ _ _ _ _ _ _ _ _ _ _ _ _ _ _ _ _ _ _ _ _ _ _ _ _ _ _ _ _ _ _ _ _ _ _ _ _ _ _ _ _ _ _ _ _ _ _ _ _ _ _ _ _ _ _ _ _ _ _ _ _ _ _ _ _ _ _ _ _ _ _ _ _ _ _ _ _ _ _ _ _ _ _ _ _ _ _ _ _ _ _ _ _ _ _ HS.out rfl (by omega) ((Blk.new w0 78 _).alloc _) (Blk.new' _ _ _ _ (by simp)) ?_
  intro _ _ _ _ _ _ _ _ _ _ _ _ _ _ _ _ w1
  rintro ⟨P1, P2, P3⟩
  rw [HT.out] at P1 P2
  have X1 : Aside0 (Blk w1 w0.heap.size 78 (wds .u32 (firstW key nonce count))) := ⟨P1⟩
  have Y1 : Aside0 (Blk w1 (w0.heap.size + 1) 78 (wds .u32 (firstW key nonce count))) := ⟨P2⟩
  have L1 : Aside0 (Below w.heap.size w w1) := ⟨(below_alloc (below_alloc L0.out _) _).trans (P3.mono L0.out.size)⟩
  have Z1 : Aside0 (w.heap.size ≤ w0.heap.size) := ⟨L0.out.size⟩
  clear P1 P2 P3 L0 hb0 HT HS k1 k1' k2 k2' k3 k3' hC
  generalize firstW key nonce count = fw at FO HR X1 Y1
  go_wp2
  refine strT_wp (w0.heap.size + 1) fw _ _ _ _ _ _ _ _ _ _ _ _ _ _ _ _ _ _ _ _ _ _ _ _ _ _ _ _ _ _ _ _ _ _ _ _ _ _ _ _ _ _ _ _ _ _ _ _ _ _ _ _ _ _ _ _ _ _ _ _ _ _ _ _ _ _ _ _ _ _ _ _ _ _ _ _ _ _ _ _ _ _ _ _ _ _ _ _ _ _ _ _ _ _ _ _ _ _ _ _ _ _ _ _ _ _ _ _ _ _ _ ?hq FO Y1.out ?_
  case hq =>
    intro c a a1 w4 hd h
    have h1 : a.defers = [] ∧ _ := h
    exact ⟨hd.symm.trans h1.1, h1.2⟩
  intro _ _ _ _ _ _ _ _ _ _ _ _ _ _ _ _ _ _ _ _ _ _ _ _ _ _ _ _ _ _ _ _ _ _ _ _ _ _ _ _ _ _ _ _ _ _ _ _ _ _ _ _ _ _ _ _ _ _ w2
  rintro ⟨P1, P2, P3⟩
  have Y2 : Aside0 (Blk w2 (w0.heap.size + 1) 78 (wds .u32 (rounds20 fw 10))) := ⟨P1⟩
  have X2 : Aside0 (Blk w2 w0.heap.size 78 (wds .u32 fw)) := ⟨X1.out.move (P2.block _ (Nat.lt_succ_self _))⟩
  have L2 : Aside0 (Below w.heap.size w w2) := ⟨L1.out.trans (P2.mono (Nat.le_succ_of_le Z1.out))⟩
  clear P1 P2 P3 X1 Y1 L1
  have VO := FO.rounds20 10
  generalize rounds20 fw 10 = vv at VO HR Y2
  go_wp2
  refine strO_wp (w0.heap.size + 1) w0.heap.size vv fw _ _ _ _ _ _ _ _ _ _ _ _ _ _ _ _ _ _ _ _ _ _ _ _ _ _ _ _ _ _ _ _ _ _ _ _ _ _ _ _ _ _ _ _ _ _ _ _ _ _ _ _ _ _ _ _ _ _ _ _ _ _ _ _ _ _ _ _ _ _ _ _ _ _ _ _ _ _ _ _ _ _ _ _ _ _ _ _ _ _ _ _ _ _ _ _ _ _ _ _ _ _ _ _ _ _ _ _ _ VO FO Y2.out X2.out ?_
  intro _ _ _ _ _ _ _ _ _ _ _ _ _ _ _ w3
  intro P1
  have L3 := Aside0.mk (L2.out.trans (P1.mono L2.out.size))
  clear P1
  go_wp2
  go_ret
  exact ⟨ret_str HR.out.symm, L3.out⟩

end Go.Proofs.Ytihpnededldedaa.Leaf
