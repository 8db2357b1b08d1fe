/-
  The reference's tag: its blocks and the whole. Conditions: a key of 32 bytes, a text of a million bytes at most.
-/
import Derived.Test.YtihpnededldedaaPolJ
namespace Go.Proofs.Ytihpnededldedaa.Leaf
open Go.RowKit Go.Shelf Go.Proofs.YtihpnededldedaaW.PrintWords Go.Proofs.YtihpnededldedaaW.PrintLast Go.Proofs.YtihpnededldedaaW.PrintMore Go.Proofs.Ytihpnededldedaa.Pol

theorem parts_blk (t : ByteArray) (j : Nat) (h : 16 * j < t.size) (W : World) : Calls Try.prog 80 #[.string (padB (blkB t j) (17 - (blkB t j).size))] W fun e w' => e = .returned (.agg (wds .i64 (limbsN (blkOf t j)))) ∧ Below W.heap.size W w' := by
  have hs := blkB_size t j h
  have hc := l03Parts_calls (padB (blkB t j) (17 - (blkB t j).size)) (by rw [padB_size]; omega) W
  have e : numF (bts (padB (blkB t j) (17 - (blkB t j).size))) 17 = blkOf t j := (numF_congr _ _ 17 (fun i _ => bts_pad _ i _)).trans (numF_17 (blkB t j) (by omega))
  rw [e] at hc
  exact hc
theorem parts_key (key : ByteArray) (h : 16 ≤ key.size) (W : World) : Calls Try.prog 80 #[.string (clampB key ++ ⟨#[0]⟩)] W fun e w' => e = .returned (.agg (wds .i64 (limbsN (clampR key)))) ∧ Below W.heap.size W w' := by
  have hz : (clampB key ++ (⟨#[0]⟩ : ByteArray)).size = 17 := by rw [ByteArray.size_append, clampB_size key h]; rfl
  have hc := l03Parts_calls (clampB key ++ ⟨#[0]⟩) (by omega) W
  have e : numF (bts (clampB key ++ (⟨#[0]⟩ : ByteArray))) 17 = clampR key := by
    refine (numF_congr _ _ 17 (fun i _ => bts_zero _ i)).trans ((numF_17 (clampB key) (by rw [clampB_size key h]; decide)).trans ?_)
    rw [clampB_size key h]; rfl
  rw [e] at hc
  exact hc
/-- A round of the reference's tag. -/
theorem tag_roundS (key t : ByteArray) (j : Nat) (h : 16 * j < t.size) (v : List Nat) (hv : Pol.Acc v (accOf key t j)) :
    Pol.Acc (carryN (mulL (addL v (limbsN (blkOf t j))) (limbsN (clampR key))) 3) (accOf key t (j + 1)) ∧ L5 134217728 (addL v (limbsN (blkOf t j))) := by
  obtain ⟨h1, h2, _⟩ := acc_spec hv (limbsN_L5 (blkOf t j)) (limbsN_L5 (clampR key))
  rw [blk_val t j h, clamp_val] at h1
  exact ⟨⟨h1.1, h1.2⟩, h2⟩

set_option maxRecDepth 1000000 in
set_option maxHeartbeats 16000000 in
theorem blocks_wp (key t : ByteArray) (gh gr : Nat) (r0 r1 r2 r3 r4 : Nat) (u0 u2 u3 u4 u8 u9 u10 u11 u12 u13 u14 u15 u16 u17 u18 u19 u20 u21 u22 u23 u24 u25 u26 u27 u28 u29 u30 u31 u32 u33 u34 u35 u36 u37 u38 u39 u40 u41 u42 u43 u44 u45 u46 u47 u48 u49 u50 u51 u52 u53 u54 u55 u56 u57 u58 u59 u60 u61 u62 u63 u64 u65 u66 u67 u68 u69 u70 u71 u72 u73 u74 u75 u76 u77 u78 u79 u80 u81 u82 u83 u84 u85 u86 u87 u88 u89 u90 u91 u92 u93 u94 u95 u96 u97 u98 u99 u100 u101 u102 u103 u104 u105 u106 u107 : Value) (Q0 : Exit → Act → World → Prop) (w : World) (hr5 : limbsN (clampR key) = [r0, r1, r2, r3, r4]) (ht : t.size ≤ 1000000) (hlt0 : gr < gh) (hB : Blk w gh 80 (wds .i64 [0, 0, 0, 0, 0])) (hR : Blk w gr 80 (wds .i64 [r0, r1, r2, r3, r4]))
    (hexit : ∀ (x7 x8 x9 x10 x21 x22 x23 x24 x25 x26 x27 x28 x29 x30 x31 x32 x33 x34 x35 x36 x37 x38 x39 x40 x41 x42 x43 x44 x45 x46 x47 x48 x49 x50 x51 x52 x53 x54 x55 x56 x57 : Value) (w' : World), (∃ v, Pol.Acc v (accOf key t ((t.size + 15) / 16)) ∧ Blk w' gh 80 (wds .i64 v) ∧ Below gh w w') → Q0 (.exit 0) ⟨List.toArray (u0 :: (.string t) :: u2 :: u3 :: u4 :: (.pointer (some ⟨gr, 0, none⟩)) :: (.pointer (some ⟨gh, 0, none⟩)) :: x7 :: x8 :: x9 :: x10 :: u11 :: u12 :: u13 :: u14 :: u15 :: u16 :: u17 :: u18 :: u19 :: u20 :: x21 :: x22 :: x23 :: x24 :: x25 :: x26 :: x27 :: x28 :: x29 :: x30 :: x31 :: x32 :: x33 :: x34 :: x35 :: x36 :: x37 :: x38 :: x39 :: x40 :: x41 :: x42 :: x43 :: x44 :: x45 :: x46 :: x47 :: x48 :: x49 :: x50 :: x51 :: x52 :: x53 :: x54 :: x55 :: x56 :: x57 :: u58 :: u59 :: u60 :: u61 :: u62 :: u63 :: u64 :: u65 :: u66 :: u67 :: u68 :: u69 :: u70 :: u71 :: u72 :: u73 :: u74 :: u75 :: u76 :: u77 :: u78 :: u79 :: u80 :: u81 :: u82 :: u83 :: u84 :: u85 :: u86 :: u87 :: u88 :: u89 :: u90 :: u91 :: u92 :: u93 :: u94 :: u95 :: u96 :: u97 :: u98 :: u99 :: u100 :: u101 :: u102 :: u103 :: u104 :: u105 :: u106 :: u107 :: []), []⟩ w') :
    Code.wp Try.prog (loopNo Try.f48 0) Q0 ⟨List.toArray (u0 :: (.string t) :: u2 :: u3 :: u4 :: (.pointer (some ⟨gr, 0, none⟩)) :: (.pointer (some ⟨gh, 0, none⟩)) :: (.int .i64 0) :: u8 :: u9 :: u10 :: u11 :: u12 :: u13 :: u14 :: u15 :: u16 :: u17 :: u18 :: u19 :: u20 :: u21 :: u22 :: u23 :: u24 :: u25 :: u26 :: u27 :: u28 :: u29 :: u30 :: u31 :: u32 :: u33 :: u34 :: u35 :: u36 :: u37 :: u38 :: u39 :: u40 :: u41 :: u42 :: u43 :: u44 :: u45 :: u46 :: u47 :: u48 :: u49 :: u50 :: u51 :: u52 :: u53 :: u54 :: u55 :: u56 :: u57 :: u58 :: u59 :: u60 :: u61 :: u62 :: u63 :: u64 :: u65 :: u66 :: u67 :: u68 :: u69 :: u70 :: u71 :: u72 :: u73 :: u74 :: u75 :: u76 :: u77 :: u78 :: u79 :: u80 :: u81 :: u82 :: u83 :: u84 :: u85 :: u86 :: u87 :: u88 :: u89 :: u90 :: u91 :: u92 :: u93 :: u94 :: u95 :: u96 :: u97 :: u98 :: u99 :: u100 :: u101 :: u102 :: u103 :: u104 :: u105 :: u106 :: u107 :: []), []⟩ w := by
  conv => arg 2; whnf
  have HX := Lib.hid hexit
  clear hexit
  have HR5 := Lib.hid hr5; have HTS := Lib.hid ht; have HGR := Aside0.mk hlt0; have HR0 := Aside0.mk hR; have HGH := Aside0.mk hB.lt
  have HTR := Lib.hid (tag_roundS key t)
  have hcl := limbsN_L5 (clampR key)
  rw [HR5.out] at HTR hcl
  have HCL := Lib.hid hcl
  have HA0 := Lib.hid (show Pol.Acc [0, 0, 0, 0, 0] (accOf key t 0) from acc_zero)
  clear hr5 ht hlt0 hcl
  go_loopg [7] t.size (fun gg s7 wr => ∃ (j : Nat) (h0 h1 h2 h3 h4 p : Nat), s7 = .int .i64 p ∧ Aside0 (p = 16 * j) ∧ p ≤ t.size + 15 ∧ j ≤ (t.size + 15) / 16 ∧ t.size ≤ gg + p ∧ Aside0 (Pol.Acc [h0, h1, h2, h3, h4] (accOf key t j)) ∧ Aside0 (Blk wr gh 80 (wds .i64 [h0, h1, h2, h3, h4])) ∧ Aside0 (Below gh w wr))
  case atStart => exact ⟨0, 0, 0, 0, 0, 0, 0, rfl, ⟨rfl⟩, by omega, by omega, by omega, ⟨HA0.out⟩, ⟨hB⟩, ⟨Below.refl _ _⟩⟩
  case round =>
    clear HA0
    obtain ⟨j, h0, h1, h2, h3, h4, p, rfl, HJ, hp, hj, hg, HA, HB, HL⟩ := hrel
    have hts := HTS.out
    by_cases hlt : p < t.size
    · have c1 : decide ((p : Int) < (t.size : Int)) = true := decide_eq_true (by omega)
      have c1' : decide (p < t.size) = true := decide_eq_true hlt
      obtain ⟨hacc, hsum⟩ := HTR.out j (by have := HJ.out; omega) _ HA.out
      have C1 := fun W => parts_blk t j (by have := HJ.out; omega) W
      have hbs := blkB_size t j (by have := HJ.out; omega)
      have hbs17 : Hid ((blkB t j).size ≤ 17) := Lib.hid (by omega)
      obtain ⟨m0, m1, m2, m3, m4, hmE, q0, q1, q2, q3, q4⟩ := limbsN_L5 (blkOf t j)
      rw [hmE] at C1 hacc hsum
      have C2 := fun W => l03Times_calls (addL [h0, h1, h2, h3, h4] [m0, m1, m2, m3, m4]) [r0, r1, r2, r3, r4] hsum HCL.out W
      have hsl := Lib.hid hsum.length
      have HBZ : Hid (t.extract p (min (p + 16) t.size) ++ ⟨#[1]⟩ = blkB t j) := Lib.hid (by rw [HJ.out]; rfl)
      obtain ⟨e, he⟩ : ∃ e, min (p + 16) t.size = e := ⟨_, rfl⟩
      have hmin1 : (if p + 16 < t.size then ((p : Int) + 16) else (t.size : Int)) = (e : Int) := by split <;> omega
      have hmin2 : (if (p : Int) + 16 < (t.size : Int) then ((p : Int) + 16) else (t.size : Int)) = (e : Int) := by split <;> omega
      have hpe : p ≤ e := by omega
      have het : e ≤ t.size := by omega
      rw [he] at HBZ
      obtain ⟨y, hy⟩ : ∃ y, t.extract p e = y := ⟨_, rfl⟩
      have hys : y.size + 1 ≤ 9223372036854775807 := by rw [← hy, ByteArray.size_extract]; omega
      rw [hy] at HBZ
      have hz := HBZ.out
      generalize blkB t j = z at C1 hbs17 hz
      have hys1 : (y.size + 1 ≤ 9223372036854775807) = True := eq_true hys
      have hys2 : (9223372036854775807 < y.size + 1) = False := eq_false (by omega)
      have HACC := Lib.hid hacc
      have HQ5 := Lib.hid (And.intro q0 (And.intro q1 (And.intro q2 (And.intro q3 q4))))
      clear hacc hbs hmE HBZ he hys hsum q0 q1 q2 q3 q4
      go_wp2
      refine pad_wp z _ _ _ _ _ _ _ _ _ _ _ _ _ _ _ _ _ _ _ _ _ _ _ _ _ _ _ _ _ _ _ _ _ _ _ _ _ _ _ _ _ _ _ _ _ _ _ _ _ _ _ _ _ _ _ _ _ _ _ _ _ _ _ _ _ _ _ _ _ _ _ _ _ _ _ _ _ _ _ _ _ _ _ _ _ _ _ _ _ _ _ _ _ _ _ _ _ _ _ _ _ _ _ _ _ _ _ _ _ hbs17.out ?_
      intro _ _ _ _ _ wp hwp
      subst hwp
      clear hmin1 hmin2 hy hz hys1 hys2 hbs17
      generalize padB z (17 - z.size) = pz at C1 ⊢
      go_upto_region 10 with (first | (go_at_call 80; with_reducible refine (C1 _).mono ?_; rintro e1 w1 ⟨rfl, hb1⟩; replace hb1 := Aside0.mk hb1) | ((with_reducible refine wpList_store_row (o := ⟨none, .store 80 (.tmp 9) (.tmp 42), _, _, _, _⟩) ?s1a 80 (.tmp 9) (.tmp 42) ?s1b (w1.heap.size) (wds .i64 [m0, m1, m2, m3, m4]) ?s1c ?s1d 80 (wds .i64 zeros5) ?s1e ?s1f ?s1g ?s1h ?_); (case s1a => rfl); (case s1b => rfl); (case s1c => rfl); (case s1d => rfl); (case s1e => exact Blk.new' _ _ _ _ rfl); (case s1f => exact info5i rfl); (case s1g => rfl); (case s1h => exact wds_one _ _)))
      have hs1 := hb1.out.size
      have hs0 := HL.out.size
      have hgh := HGH.out
      have BH : Aside0 (Blk ((w1.alloc (.cells #[.int .i64 0, .int .i64 0, .int .i64 0, .int .i64 0, .int .i64 0] 80)).setRow w1.heap.size (wds .i64 [m0, m1, m2, m3, m4])) gh 80 (wds .i64 [h0, h1, h2, h3, h4])) := ⟨((HB.out.below hb1.out).alloc _).rowOther _ (by omega) _⟩
      have BM : Aside0 (Blk ((w1.alloc (.cells #[.int .i64 0, .int .i64 0, .int .i64 0, .int .i64 0, .int .i64 0] 80)).setRow w1.heap.size (wds .i64 [m0, m1, m2, m3, m4])) w1.heap.size 80 (wds .i64 [m0, m1, m2, m3, m4])) := ⟨(Blk.new' _ _ _ _ rfl).row _⟩
      have BL : Aside0 (Below gh w ((w1.alloc (.cells #[.int .i64 0, .int .i64 0, .int .i64 0, .int .i64 0, .int .i64 0] 80)).setRow w1.heap.size (wds .i64 [m0, m1, m2, m3, m4]))) := ⟨below_setRow ((HL.out.trans (hb1.out.mono (by omega))).alloc (by omega) _) (by omega) _⟩
      have hne : w1.heap.size ≠ gh := by omega
      clear hb1 HB HL hs1 hs0 hgh C1
      generalize hwx : (w1.alloc (.cells #[.int .i64 0, .int .i64 0, .int .i64 0, .int .i64 0, .int .i64 0] 80)).setRow w1.heap.size (wds .i64 [m0, m1, m2, m3, m4]) = wx at BH BM BL ⊢
      clear hwx
      generalize w1.heap.size = gm at BM hne ⊢
      go_wp2
      obtain ⟨a0, a1, a2, a3, a4⟩ : h0 < 67108864 ∧ h1 < 67108864 ∧ h2 < 67108864 ∧ h3 < 67108864 ∧ h4 < 67108864 := by
        obtain ⟨_, _, _, _, _, e0, g⟩ := HA.out.1
        injection e0 with ea e0; injection e0 with eb e0; injection e0 with ec e0; injection e0 with ed e0; injection e0 with ee e0
        subst ea eb ec ed ee; exact g
      obtain ⟨q0, q1, q2, q3, q4⟩ := HQ5.out
      refine sum_wp gh gm h0 h1 h2 h3 h4 m0 m1 m2 m3 m4 _ _ _ _ _ _ _ _ _ _ _ _ _ _ _ _ _ _ _ _ _ _ _ _ _ _ _ _ _ _ _ _ _ _ _ _ _ _ _ _ _ _ _ _ _ _ _ _ _ _ _ _ _ _ _ _ _ _ _ _ _ _ _ _ _ _ _ _ _ _ _ _ _ _ _ _ _ _ _ _ _ _ _ _ _ _ _ _ _ _ _ _ _ _ _ _ _ _ _ _ _ _ _ _ _ _ _ a0 a1 a2 a3 a4 q0 q1 q2 q3 q4 BH.out BM.out hne ?_
      intro _ _ _ _ _ _ _ _ _ _ _ _ w3
      rintro ⟨P1, P2⟩
      clear a0 a1 a2 a3 a4 q0 q1 q2 q3 q4
      have BS := Aside0.mk P1
      have BLS := Aside0.mk (BL.out.trans P2)
      have BR : Aside0 (Blk w3 gr 80 (wds .i64 [r0, r1, r2, r3, r4])) := ⟨HR0.out.move (BLS.out.block gr HGR.out)⟩
      clear P1 P2 BH BM BL HQ5 HA
      generalize addL [h0, h1, h2, h3, h4] [m0, m1, m2, m3, m4] = sm at C2 hsl BS HACC
      obtain ⟨x0, x1, x2, x3, x4, hxE, _⟩ := HACC.out.1
      have HXE := Lib.hid hxE
      clear hxE
      have C2' : ∀ W, Calls Try.prog 82 #[.agg (wds .i64 sm), .agg (wds .i64 [r0, r1, r2, r3, r4])] W fun e w' => e = .returned (.agg (wds .i64 [x0, x1, x2, x3, x4])) ∧ Below W.heap.size W w' := by rw [← HXE.out]; exact C2
      clear C2
      go_wp2_with (first | ((with_reducible refine wpList_load_row (o := ⟨some 55, .load 80 (.tmp 6), _, _, _, _⟩) ?l2a 80 (.tmp 6) ?l2b (gh) ?l2c 80 (wds .i64 sm) (0, 0) ?l2z ?l2d ?l2e ?l2f ?l2g ?_); (case l2a => rfl); (case l2b => rfl); (case l2c => rfl); (case l2d => exact BS.out); (case l2e => exact Try.underlying80); (case l2f => rfl); (case l2g => exact info5i hsl.out)) | ((with_reducible refine wpList_load_row (o := ⟨some 56, .load 80 (.tmp 5), _, _, _, _⟩) ?l3a 80 (.tmp 5) ?l3b (gr) ?l3c 80 (wds .i64 [r0, r1, r2, r3, r4]) (0, 0) ?l3z ?l3d ?l3e ?l3f ?l3g ?_); (case l3a => rfl); (case l3b => rfl); (case l3c => rfl); (case l3d => exact BR.out); (case l3e => exact Try.underlying80); (case l3f => rfl); (case l3g => exact info5i rfl)) | (go_at_call 82; with_reducible refine (C2' _).mono ?_; rintro e4 w4 ⟨rfl, hb4⟩; replace hb4 := Aside0.mk hb4) | ((with_reducible refine wpList_store_row (o := ⟨none, .store 80 (.tmp 6) (.tmp 57), _, _, _, _⟩) ?s4a 80 (.tmp 6) (.tmp 57) ?s4b (gh) (wds .i64 [x0, x1, x2, x3, x4]) ?s4c ?s4d 80 (wds .i64 sm) ?s4e ?s4f ?s4g ?s4h ?_); (case s4a => rfl); (case s4b => rfl); (case s4c => rfl); (case s4d => rfl); (case s4e => exact (BS.out.below hb4.out)); (case s4f => exact info5i rfl); (case s4g => rw [wds_size, wds_size, hsl.out]; rfl); (case s4h => exact wds_one _ _)))
      have BX : Aside0 (Blk (w4.setRow gh (wds .i64 [x0, x1, x2, x3, x4])) gh 80 (wds .i64 [x0, x1, x2, x3, x4])) := ⟨(BS.out.below hb4.out).row _⟩
      have BLX : Aside0 (Below gh w (w4.setRow gh (wds .i64 [x0, x1, x2, x3, x4]))) := ⟨below_setRow (BLS.out.trans (hb4.out.mono (Nat.le_of_lt BS.out.lt))) (Nat.le_refl _) _⟩
      have HACX : Aside0 (Pol.Acc [x0, x1, x2, x3, x4] (accOf key t (j + 1))) := ⟨by rw [← HXE.out]; exact HACC.out⟩
      clear BS BLS BR hb4 C2' HACC
      generalize w4.setRow gh (wds .i64 [x0, x1, x2, x3, x4]) = wz at BX BLX ⊢
      go_roundg (t.size - (p + 16))
      case measure => omega
      case rel => exact ⟨j + 1, x0, x1, x2, x3, x4, p + 16, by go_num, ⟨by have := HJ.out; omega⟩, by omega, by have := HJ.out; omega, by omega, HACX, BX, BLX⟩
    · have c1 : decide ((p : Int) < (t.size : Int)) = false := decide_eq_false (by omega)
      have c1' : decide (p < t.size) = false := decide_eq_false hlt
      have hacc := HA.out
      rw [show j = (t.size + 15) / 16 by have := HJ.out; omega] at hacc
      have P0 := Lib.hid hacc
      have P1 := HB.out
      have P2 := HL.out
      clear hacc
      go_wp2
      refine HX.out _ _ _ _ _ _ _ _ _ _ _ _ _ _ _ _ _ _ _ _ _ _ _ _ _ _ _ _ _ _ _ _ _ _ _ _ _ _ _ _ _ _ ?_
      exact ⟨_, P0.out, P1, P2⟩


end Go.Proofs.Ytihpnededldedaa.Leaf
