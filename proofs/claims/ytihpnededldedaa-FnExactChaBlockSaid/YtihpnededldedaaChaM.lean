/- The reference's block of the stream: its contract. Conditions: a key of 32 bytes, a nonce of 12, a count of 32 bits. -/
import Derived.Test.YtihpnededldedaaChaU
namespace Go.Proofs.Ytihpnededldedaa.Leaf
open Go.RowKit Go.Shelf Go.Proofs.YtihpnededldedaaW.PrintWords Go.Proofs.YtihpnededldedaaW.PrintLast Go.Proofs.YtihpnededldedaaW.PrintMore Go.Proofs.Ytihpnededldedaa.PCha

set_option maxRecDepth 1000000 in
set_option maxHeartbeats 16000000 in
theorem l02Block_calls (key nonce : ByteArray) (count : Nat) (hk : key.size = 32) (hn : nonce.size = 12) (hc : count < 2 ^ 32) (w : World) :
    Calls Try.prog 45 #[.string key, .string nonce, .int .i64 count] w fun e w' => e = .returned (.string (chaBlk key nonce count)) ∧ Below w.heap.size w w' := by
  have HK := Lib.hid hk; have HN := Lib.hid hn
  have FO := firstW_ok key nonce count hc
  have HR := Lib.hid (show chaBlk key nonce count = strOfNums (sumBytes (rounds20 (firstW key nonce count) 10) (firstW key nonce count) 16) from rfl)
  clear hk hn hc
  go_enter Try.func45, Try.ntmps45
  go_wp2
  refine loop0_wp key nonce count w.heap.size zeros16 _ _ _ _ _ _ _ _ _ _ _ _ _ _ _ _ _ _ _ _ _ _ _ _ _ _ _ _ _ _ _ _ _ _ _ _ _ _ _ _ _ _ _ _ _ _ _ _ _ _ _ _ _ _ _ _ _ _ _ _ _ _ _ _ _ _ _ _ _ _ _ _ _ _ _ _ _ _ _ _ _ _ _ _ _ _ _ _ _ _ _ _ _ _ _ _ _ _ _ _ _ _ rfl rfl (Blk.new _ _ _) ?_
  intro _ _ _ _ _ _ _ _ _ w1
  rintro ⟨P1, P2⟩
  have B1 : Aside0 (Blk w1 w.heap.size 72 (wds .i64 first1)) := ⟨P1⟩
  have L1 : Aside0 (Below w.heap.size w w1) := ⟨(below_alloc (Below.refl _ _) _).trans P2⟩
  clear P1 P2
  go_wp2
  refine loop1_wp key nonce count w.heap.size first1 _ _ _ _ _ _ _ _ _ _ _ _ _ _ _ _ _ _ _ _ _ _ _ _ _ _ _ _ _ _ _ _ _ _ _ _ _ _ _ _ _ _ _ _ _ _ _ _ _ _ _ _ _ _ _ _ _ _ _ _ _ _ _ _ _ _ _ _ _ _ _ _ _ _ _ _ _ _ _ _ _ _ _ _ _ _ _ _ _ _ _ _ _ _ _ _ _ _ _ _ _ _ rfl HK.out B1.out ?_
  intro _ _ _ _ _ _ _ _ _ _ _ w2
  rintro ⟨P1, P2⟩
  have B2 : Aside0 (Blk w2 w.heap.size 72 (wds .i64 (first2 key))) := ⟨P1⟩
  have L2 : Aside0 (Below w.heap.size w w2) := ⟨L1.out.trans P2⟩
  have X2 := B2.out.wat 12 (by unfold first2; rw [fillN_length]; decide)
  clear P1 P2 B1 L1
  go_wp2
  refine loop2_wp key nonce count w.heap.size ((first2 key).set 12 count) _ _ _ _ _ _ _ _ _ _ _ _ _ _ _ _ _ _ _ _ _ _ _ _ _ _ _ _ _ _ _ _ _ _ _ _ _ _ _ _ _ _ _ _ _ _ _ _ _ _ _ _ _ _ _ _ _ _ _ _ _ _ _ _ _ _ _ _ _ _ _ _ _ _ _ _ _ _ _ _ _ _ _ _ _ _ _ _ _ _ _ _ _ _ _ _ _ _ _ _ _ _ (by rw [List.length_set]; unfold first2; rw [fillN_length]; rfl) HN.out (B2.out.wset 12 count) ?_
  intro _ _ _ _ _ _ _ _ _ _ _ w3
  rintro ⟨P1, P2⟩
  have B3 : Aside0 (Blk w3 w.heap.size 72 (wds .i64 (firstW key nonce count))) := ⟨P1⟩
  have L3 : Aside0 (Below w.heap.size w w3) := ⟨(L2.out.setCell (p := ⟨w.heap.size, 12, none⟩) (Nat.le_refl _) (.int .i64 count)).trans P2⟩
  clear P1 P2 B2 L2 X2
  generalize firstW key nonce count = fw at FO HR B3
  have HS := Lib.hid FO.1
  go_wp2_with (first | (refine wpList_load_row rfl 72 _ rfl w.heap.size rfl 72 (wds .i64 fw) (0, 0) _ B3.out Try.underlying72 rfl (info16 HS.out) ?_) | (refine wpList_store_row rfl 72 _ _ rfl w3.heap.size (wds .i64 fw) rfl rfl 72 _ (Blk.new w3 72 _) (info16 HS.out) (by rw [wds_size, HS.out]; rfl) (wds_one _ _) ?_))
  have G4 : Aside0 (Blk ((w3.alloc (.cells #[.int .i64 0, .int .i64 0, .int .i64 0, .int .i64 0, .int .i64 0, .int .i64 0, .int .i64 0, .int .i64 0, .int .i64 0, .int .i64 0, .int .i64 0, .int .i64 0, .int .i64 0, .int .i64 0, .int .i64 0, .int .i64 0] 72)).setRow w3.heap.size (wds .i64 fw)) w3.heap.size 72 (wds .i64 fw)) := ⟨(Blk.new w3 72 _).row _⟩
  have F4 : Aside0 (Blk ((w3.alloc (.cells #[.int .i64 0, .int .i64 0, .int .i64 0, .int .i64 0, .int .i64 0, .int .i64 0, .int .i64 0, .int .i64 0, .int .i64 0, .int .i64 0, .int .i64 0, .int .i64 0, .int .i64 0, .int .i64 0, .int .i64 0, .int .i64 0] 72)).setRow w3.heap.size (wds .i64 fw)) w.heap.size 72 (wds .i64 fw)) := ⟨(B3.out.alloc _).rowOther w3.heap.size (Nat.ne_of_lt B3.out.lt) _⟩
  have L4 : Aside0 (Below w.heap.size w ((w3.alloc (.cells #[.int .i64 0, .int .i64 0, .int .i64 0, .int .i64 0, .int .i64 0, .int .i64 0, .int .i64 0, .int .i64 0, .int .i64 0, .int .i64 0, .int .i64 0, .int .i64 0, .int .i64 0, .int .i64 0, .int .i64 0, .int .i64 0] 72)).setRow w3.heap.size (wds .i64 fw))) := ⟨below_setRow (below_alloc L3.out _) L3.out.size _⟩
  have L4s := Aside0.mk L3.out.size
  refine loop3_wp w3.heap.size fw _ _ _ _ _ _ _ _ _ _ _ _ _ _ _ _ _ _ _ _ _ _ _ _ _ _ _ _ _ _ _ _ _ _ _ _ _ _ _ _ _ _ _ _ _ _ _ _ _ _ _ _ _ _ _ _ _ _ _ _ _ _ _ _ _ _ _ _ _ _ _ _ _ _ _ _ _ _ _ _ _ _ _ _ _ _ _ _ _ _ _ _ _ _ _ _ _ _ _ _ _ _ _ _ _ FO G4.out ?_
  intro _ _ _ _ _ _ _ _ _ _ _ _ _ _ _ _ _ _ _ _ _ _ _ _ _ _ _ _ _ _ _ _ _ _ _ _ _ _ w5
  rintro ⟨P1, P2⟩
  have G5 : Aside0 (Blk w5 w3.heap.size 72 (wds .i64 (rounds20 fw 10))) := ⟨P1⟩
  have F5 : Aside0 (Blk w5 w.heap.size 72 (wds .i64 fw)) := ⟨F4.out.move (P2.block _ B3.out.lt)⟩
  have L5 : Aside0 (Below w.heap.size w w5) := ⟨L4.out.trans (P2.mono L4s.out)⟩
  clear P1 P2 G4 F4 L4
  have VO := FO.rounds20 10
  generalize rounds20 fw 10 = vv at VO HR G5
  go_wp2_with ((with_reducible refine gate_dst (N := 88) rfl ?_); refine Kd.R_lit (Kd.int .u8) _ 5 ?hg (N := 88) ?hd (xs := ([] : List Int)) (inner := []) (ok := fun _ => True) (okp := fun _ => True) ?hr ?hp (fun _ hk => hk) trivial (Below.refl _ _) (Nat.le_refl _) (by simp) ?_; (case hd => rfl); (case hg => rfl); (case hr => first | (go_simp; done) | (go_simp; rfl)); (case hp => exact (Reps.none _ _)); intro v104 w6 ho3 hb hg_ hnew_; clear hg_ hnew_; replace ho3 := Aside0.mk ho3; replace hb := Aside0.mk hb)
  refine loop6_wp w5 w.heap.size w3.heap.size vv fw v104 _ _ _ _ _ _ _ _ _ _ _ _ _ _ _ _ _ _ _ _ _ _ _ _ _ _ _ _ _ _ _ _ _ _ _ _ _ _ _ _ _ _ _ _ _ _ _ _ _ _ _ _ _ _ _ _ _ _ _ _ _ _ _ _ _ _ _ _ _ _ _ _ _ _ _ _ _ _ _ _ _ _ _ _ _ _ _ _ _ _ _ _ _ _ _ _ _ _ _ _ _ _ _ VO FO G5.out F5.out ho3.out hb.out ?_
  intro x15 _ _ _ _ _ _ _ _ _ _ _ _ _ _ w7
  rintro ⟨P1, P2⟩
  obtain ⟨A, c, rfl, hcap, hC⟩ := Kd.R_reads P1
  have hcv := Kd.C_string (P := Try.prog) (src := 75) (dst := 9) (c := c) Try.underlying75 Try.underlying5 Try.underlying9 hC
  have L7 := Aside0.mk (L5.out.trans (P2.mono L5.out.size))
  clear P1 P2 hC hcap
  go_wp2
  go_ret
  exact ⟨ret_str HR.out.symm, L7.out⟩

end Go.Proofs.Ytihpnededldedaa.Leaf
