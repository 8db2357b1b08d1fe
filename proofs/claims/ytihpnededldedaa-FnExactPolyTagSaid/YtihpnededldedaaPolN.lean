/-
  The reference's tag: its contract. Conditions: a key of 32 bytes, a text of a million bytes at most.
-/
import Derived.Test.YtihpnededldedaaPolM
namespace Go.Proofs.Ytihpnededldedaa.Leaf
open Go.RowKit Go.Shelf Go.Proofs.YtihpnededldedaaW.PrintWords Go.Proofs.YtihpnededldedaaW.PrintLast Go.Proofs.YtihpnededldedaaW.PrintMore Go.Proofs.Ytihpnededldedaa.Pol

set_option maxRecDepth 1000000 in
set_option maxHeartbeats 16000000 in
theorem l03Tag_calls (key t : ByteArray) (hk : key.size = 32) (ht : t.size ≤ 1000000) (w : World) : Calls Try.prog 48 #[.string key, .string t] w fun e w' => e = .returned (.string (tagOf key t)) ∧ Below w.heap.size w w' := by
  have CK := fun W => spec_l03Clamp.calls key (clampB key) W (if_pos (by omega))
  have CP := fun W => parts_key key (by omega) W
  have hcs := clampB_size key (by omega)
  have HR := Lib.hid (show tagOf key t = strOfNums (tagI (accOf key t ((t.size + 15) / 16) % pr) (bts (key.extract 16 key.size)) 16) from rfl)
  obtain ⟨r0, r1, r2, r3, r4, hr, _⟩ := limbsN_L5 (clampR key)
  rw [hr] at CP
  have HRR := Lib.hid hr
  have HK := Lib.hid hk; have HT := Lib.hid ht
  clear hr hk ht
  generalize clampB key = ck at CK CP hcs
  have k1 : (ck.size + 1 ≤ 9223372036854775807) = True := eq_true (by omega)
  have k2 : (9223372036854775807 < ck.size + 1) = False := eq_false (by omega)
  clear hcs
  go_enter Try.func48, Try.ntmps48
  refine wp_hide ?_
  intro Qx hQx
  have HQ := Lib.hid hQx
  clear hQx
  go_wp2_with (first | (go_at_call 81; with_reducible refine (CK _).mono ?_; rintro e1 w1 ⟨rfl, hb1⟩; replace hb1 := Aside0.mk hb1) | (go_at_call 80; with_reducible refine (CP _).mono ?_; rintro e2 w2 ⟨rfl, hb2⟩; replace hb2 := Aside0.mk hb2) | ((with_reducible refine wpList_store_row (o := ⟨none, .store 80 (.tmp 5) (.tmp 19), _, _, _, _⟩) ?s5a 80 (.tmp 5) (.tmp 19) ?s5b (w2.heap.size) (wds .i64 [r0, r1, r2, r3, r4]) ?s5c ?s5d 80 (wds .i64 zeros5) ?s5e ?s5f ?s5g ?s5h ?_); (case s5a => rfl); (case s5b => rfl); (case s5c => rfl); (case s5d => rfl); (case s5e => exact Blk.new' _ _ _ _ rfl); (case s5f => exact info5i rfl); (case s5g => rfl); (case s5h => exact wds_one _ _)))
  refine wp_world (fun W => Blk W w2.heap.size 80 (wds .i64 [r0, r1, r2, r3, r4]) ∧ Blk W (w2.heap.size + 1) 80 (wds .i64 [0, 0, 0, 0, 0]) ∧ Below w.heap.size w W ∧ w.heap.size ≤ w2.heap.size) ⟨?_, ?_, ?_, ?_⟩ ?_
  · exact ((Blk.new' _ _ _ _ rfl).row _).alloc _
  · exact Blk.new' _ _ _ _ (by rw [size_setRow]; simp)
  · exact (below_setRow (((hb1.out).trans (hb2.out.mono hb1.out.size)).alloc (Nat.le_trans hb1.out.size hb2.out.size) _) (Nat.le_trans hb1.out.size hb2.out.size) _).alloc (by rw [size_setRow]; have := hb1.out.size; have := hb2.out.size; simp; omega) _
  · exact Nat.le_trans hb1.out.size hb2.out.size
  rintro wb ⟨P1, P2, P3, P4⟩
  have BR := Aside0.mk P1; have BH := Aside0.mk P2; have BL := Aside0.mk P3; have BG := Aside0.mk P4
  clear P1 P2 P3 P4 hb1 hb2 CK CP k1 k2
  generalize w2.heap.size = gr at BR BH BG ⊢
  refine blocks_wp key t (gr + 1) gr r0 r1 r2 r3 r4 _ _ _ _ _ _ _ _ _ _ _ _ _ _ _ _ _ _ _ _ _ _ _ _ _ _ _ _ _ _ _ _ _ _ _ _ _ _ _ _ _ _ _ _ _ _ _ _ _ _ _ _ _ _ _ _ _ _ _ _ _ _ _ _ _ _ _ _ _ _ _ _ _ _ _ _ _ _ _ _ _ _ _ _ _ _ _ _ _ _ _ _ _ _ _ _ _ _ _ _ _ _ _ _ _ _ HRR.out HT.out (Nat.lt_succ_self _) BH.out BR.out ?_
  intro _ _ _ _ _ _ _ _ _ _ _ _ _ _ _ _ _ _ _ _ _ _ _ _ _ _ _ _ _ _ _ _ _ _ _ _ _ _ _ _ _ w3
  rintro ⟨v, hacc, P1, P2⟩
  have BV := Aside0.mk P1
  have BLV := Aside0.mk (BL.out.trans (P2.mono (Nat.le_succ_of_le BG.out)))
  clear P1 P2 BR BH BL
  have C1 := fun W => l03Carry_calls v (hacc.1.mono (by decide)) W
  rw [carry_still v hacc.1] at C1
  have C2 := fun W => l03Less_calls v hacc.1 W
  rw [hacc.2] at C2
  have hl5 := limbsN_L5 (accOf key t ((t.size + 15) / 16) % pr)
  have HVL := Lib.hid (val_limbsN _ (mod_pr_lt (accOf key t ((t.size + 15) / 16))))
  have HL5 := Lib.hid hl5
  have HVE := Lib.hid hacc.1.length
  clear hacc hl5
  generalize limbsN (accOf key t ((t.size + 15) / 16) % pr) = ls at C2 HVL HL5
  generalize hgh : gr + 1 = gh at BV ⊢
  have BGH : Aside0 (w.heap.size ≤ gh) := ⟨by have := BG.out; omega⟩
  clear hgh BG
  go_upto_region 16 with (first | ((with_reducible refine wpList_load_row (o := ⟨some 58, .load 80 (.tmp 6), _, _, _, _⟩) ?l6a 80 (.tmp 6) ?l6b (gh) ?l6c 80 (wds .i64 v) (0, 0) ?l6z ?l6d ?l6e ?l6f ?l6g ?_); (case l6a => rfl); (case l6b => rfl); (case l6c => rfl); (case l6d => exact BV.out); (case l6e => exact Try.underlying80); (case l6f => rfl); (case l6g => exact info5i HVE.out)) | (go_at_call 84; with_reducible refine (C1 _).mono ?_; rintro e4 w4 ⟨rfl, hb4⟩; replace hb4 := Aside0.mk hb4) | (go_at_call 83; with_reducible refine (C2 _).mono ?_; rintro e5 w5 ⟨rfl, hb5⟩; replace hb5 := Aside0.mk hb5) | ((with_reducible refine wpList_store_row (o := ⟨none, .store 80 (.tmp 6) (.tmp 60), _, _, _, _⟩) ?s7a 80 (.tmp 6) (.tmp 60) ?s7b (gh) (wds .i64 ls) ?s7c ?s7d 80 (wds .i64 v) ?s7e ?s7f ?s7g ?s7h ?_); (case s7a => rfl); (case s7b => rfl); (case s7c => rfl); (case s7d => rfl); (case s7e => exact ((BV.out.below hb4.out).below hb5.out)); (case s7f => exact info5i HL5.out.length); (case s7g => rw [wds_size, wds_size, HVE.out, HL5.out.length]); (case s7h => exact wds_one _ _)))
  have BX : Aside0 (Blk (w5.setRow gh (wds .i64 ls)) gh 80 (wds .i64 ls)) := ⟨((BV.out.below hb4.out).below hb5.out).row _⟩
  have BLX : Aside0 (Below w.heap.size w (w5.setRow gh (wds .i64 ls))) := ⟨below_setRow ((BLV.out.trans (hb4.out.mono BLV.out.size)).trans (hb5.out.mono (Nat.le_trans BLV.out.size hb4.out.size))) BGH.out _⟩
  clear BV BLV hb4 hb5 C1 C2 HVE
  generalize w5.setRow gh (wds .i64 ls) = wx at BX BLX ⊢
  go_wp2
  refine byt_wp key wx.heap.size gh ls _ _ _ _ _ _ _ _ _ _ _ _ _ _ _ _ _ _ _ _ _ _ _ _ _ _ _ _ _ _ _ _ _ _ _ _ _ _ _ _ _ _ _ _ _ _ _ _ _ _ _ _ _ _ _ _ _ _ _ _ _ _ _ _ _ _ _ _ _ _ _ _ _ _ _ _ _ _ _ _ _ _ _ _ _ _ _ _ _ _ _ _ _ _ _ _ _ _ _ _ _ _ _ _ _ _ HL5.out HK.out (BX.out.alloc _) BX.out.lt (by simp) (own_lit wx wx.heap.size 5 .u8 [] (Nat.le_refl _) (by simp)) ?_
  intro _ _ _ _ _ _ _ _ _ _ _ _ _ _ _ _ _ _ _ _ _ _ _ _ _ _ _ _ _ _ _ _ _ _ _ _ _ _ _ _ _ _ _ _ _ _ _ _ w6
  rintro ⟨P1, P2⟩
  rw [HVL.out] at P1
  have hcv := own_string (P := Try.prog) (src := 75) (dst := 9) Try.underlying75 Try.underlying5 Try.underlying9 P1
  have hr := HR.out
  have BZ : Aside0 (Below w.heap.size w w6) := ⟨(BLX.out.alloc BLX.out.size _).trans (P2.mono BLX.out.size)⟩
  rw [← hr] at hcv
  clear hr P1 P2 HR BX BLX
  go_wp2
  refine HQ.out _ _ _ ?_
  go_ret
  exact ⟨rfl, BZ.out⟩

end Go.Proofs.Ytihpnededldedaa.Leaf
