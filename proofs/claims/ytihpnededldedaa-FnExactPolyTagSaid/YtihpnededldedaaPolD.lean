/-
  The reference's carries of five limbs. Conditions: limbs below 2 to the 60.
-/
import Derived.Test.YtihpnededldedaaPolC
import Derived.StillTailTactics
namespace Go.Proofs.Ytihpnededldedaa.Leaf
open Go.RowKit Go.Shelf Go.Proofs.YtihpnededldedaaW.PrintWords Go.Proofs.YtihpnededldedaaW.PrintLast Go.Proofs.YtihpnededldedaaW.PrintMore Go.Proofs.Ytihpnededldedaa.Pol

theorem Two.drew {w0 wr : World} {g h : Nat} {t : TypeId} {k : IntKind} {v : List Nat} (H : Two w0 wr g h t k v) : Two w0 wr.drew g h t k v :=
  ⟨H.1.drew, H.2.1.drew, H.2.2.1.drew, H.2.2.2⟩
theorem carr_i64 (a b c d e : Nat) (ha : a < 2 ^ 60) (hb : b < 2 ^ 60) (hc : c < 2 ^ 60) (hd : d < 2 ^ 60) (he : e < 2 ^ 60) :
    ∃ q0 r0 b1 q1 r1 c1 q2 r2 d1 q3 r3 e1 q4 r4 z f : Nat, Hid (carr a b c d e = [f, r1, r2, r3, r4]) ∧
      ((a : Int) / 67108864 = q0 ∧ Go.bits .and .i64 (a : Int) 67108863 = r0) ∧ (IntKind.i64.wrap ((b : Int) + (q0 : Int)) = b1 ∧ (b1 : Int) / 67108864 = q1 ∧ Go.bits .and .i64 (b1 : Int) 67108863 = r1) ∧
      (IntKind.i64.wrap ((c : Int) + (q1 : Int)) = c1 ∧ (c1 : Int) / 67108864 = q2 ∧ Go.bits .and .i64 (c1 : Int) 67108863 = r2) ∧ (IntKind.i64.wrap ((d : Int) + (q2 : Int)) = d1 ∧ (d1 : Int) / 67108864 = q3 ∧ Go.bits .and .i64 (d1 : Int) 67108863 = r3) ∧
      (IntKind.i64.wrap ((e : Int) + (q3 : Int)) = e1 ∧ (e1 : Int) / 67108864 = q4 ∧ Go.bits .and .i64 (e1 : Int) 67108863 = r4) ∧ (wrap64 (5 * (q4 : Int)) = z ∧ wrap64 ((r0 : Int) + (z : Int)) = f) := by
  obtain ⟨q0, r0, b1, q1, r1, c1, q2, r2, d1, q3, r3, e1, q4, r4, z, f, h, ⟨k1, k2⟩, ⟨l0, l1, l2⟩, ⟨m0, m1, m2⟩, ⟨n0, n1, n2⟩, ⟨o0, o1, o2⟩, ⟨p0, p1⟩, b1', c1', d1', e1', z', f'⟩ := carr_names a b c d e ha hb hc hd he
  refine ⟨q0, r0, b1, q1, r1, c1, q2, r2, d1, q3, r3, e1, q4, r4, z, f, Lib.hid h, ⟨div_int k1, ?_⟩, ⟨add_i64 _ _ _ l0 (by omega), div_int l1, ?_⟩, ⟨add_i64 _ _ _ m0 (by omega), div_int m1, ?_⟩, ⟨add_i64 _ _ _ n0 (by omega), div_int n1, ?_⟩, ⟨add_i64 _ _ _ o0 (by omega), div_int o1, ?_⟩, ?_, ?_⟩
  · rw [low_i64 _ (by omega), k2]
  · rw [low_i64 _ (by omega), l2]
  · rw [low_i64 _ (by omega), m2]
  · rw [low_i64 _ (by omega), n2]
  · rw [low_i64 _ (by omega), o2]
  · rw [wrap_ok _ (by omega) (by omega)]; omega
  · rw [wrap_ok _ (by omega) (by omega)]; omega

set_option maxRecDepth 100000 in
set_option maxHeartbeats 8000000 in
theorem l03Carry_calls (v : List Nat) (hv : L5 (2 ^ 60) v) (w : World) : Calls Try.prog 84 #[.agg (wds .i64 v)] w fun e w' => e = .returned (.agg (wds .i64 (carryN v 3))) ∧ Below w.heap.size w w' := by
  have HV := Lib.hid (carryN_60 v hv)
  have H3 := Lib.hid (carry3 v hv).1
  clear hv
  go_enter Try.func84, Try.ntmps84
  go_wp2
  go_loopg [3] 3 (fun gg s_ wr => ∃ j : Nat, s_ = .int .i64 j ∧ j ≤ 3 ∧ 3 ≤ gg + j ∧ Aside0 (Two w wr w.heap.size (w.heap.size + 1) 80 .i64 (carryN v j)))
  case atStart => exact ⟨0, rfl, by omega, by omega, ⟨Two.start w _ _ v⟩⟩
  case round =>
    obtain ⟨j, rfl, hj, hg, HT⟩ := hrel
    by_cases hlt : j < 3
    · have c1 : decide ((j : Int) < 3) = true := decide_eq_true (by omega)
      obtain ⟨a, b, c, d, e, hl, ha, hb, hc, hd, he⟩ := HV.out j hlt
      rw [hl] at HT
      obtain ⟨q0, r0, b1, q1, r1, c1', q2, r2, d1, q3, r3, e1, q4, r4, z, f, HN, ⟨k1, k2⟩, ⟨l0, l1, l2⟩, ⟨m0, m1, m2⟩, ⟨n0, n1, n2⟩, ⟨o0, o1, o2⟩, ⟨p0, p1⟩⟩ := carr_i64 a b c d e ha hb hc hd he
      have HJ := Lib.hid (show carryN v (j + 1) = [f, r1, r2, r3, r4] by rw [carryN, hl]; exact HN.out)
      clear hl ha hb hc hd he HN
      obtain ⟨x0, x1, x2, x3, x4⟩ := HT.out.a.five
      have y1 : IntKind.i64.wrap 1 = 1 := rfl
      have y2 : IntKind.i64.wrap 2 = 2 := rfl
      have y3 : IntKind.i64.wrap 3 = 3 := rfl
      have y4 : IntKind.i64.wrap 4 = 4 := rfl
      go_wp2
      refine wp_loop_rounds 5 ?_
      rw [rounds_succ]; go_wp2
      go_still_tail 10, (by kernel_rfl)
      change wpList _ _ _ _ _ wr.drew
      have T0 := Aside0.mk HT.out.drew
      clear x0 x1 x2 x3 x4 HT
      generalize wr.drew = wa0 at T0 ⊢
      obtain ⟨x0, x1, x2, x3, x4⟩ := T0.out.a.five
      go_wp2
      have HT := Aside0.mk (((T0.out.set 1 b1).set 0 r0).eq (show _ = [r0, b1, c, d, e] from rfl))
      clear x0 x1 x2 x3 x4 T0
      generalize ((wa0.setCell ⟨w.heap.size, 1, none⟩ (.int .i64 (b1 : Int))).setCell ⟨w.heap.size, 0, none⟩ (.int .i64 (r0 : Int))) = wb0 at HT ⊢
      obtain ⟨x0, x1, x2, x3, x4⟩ := HT.out.a.five
      rw [rounds_succ]; go_wp2
      go_still_tail 10, (by kernel_rfl)
      change wpList _ _ _ _ _ wb0.drew
      have T1 := Aside0.mk HT.out.drew
      clear x0 x1 x2 x3 x4 HT
      generalize wb0.drew = wa1 at T1 ⊢
      obtain ⟨x0, x1, x2, x3, x4⟩ := T1.out.a.five
      go_wp2
      have HT := Aside0.mk (((T1.out.set 2 c1').set 1 r1).eq (show _ = [r0, r1, c1', d, e] from rfl))
      clear x0 x1 x2 x3 x4 T1
      generalize ((wa1.setCell ⟨w.heap.size, 2, none⟩ (.int .i64 (c1' : Int))).setCell ⟨w.heap.size, 1, none⟩ (.int .i64 (r1 : Int))) = wb1 at HT ⊢
      obtain ⟨x0, x1, x2, x3, x4⟩ := HT.out.a.five
      rw [rounds_succ]; go_wp2
      go_still_tail 10, (by kernel_rfl)
      change wpList _ _ _ _ _ wb1.drew
      have T2 := Aside0.mk HT.out.drew
      clear x0 x1 x2 x3 x4 HT
      generalize wb1.drew = wa2 at T2 ⊢
      obtain ⟨x0, x1, x2, x3, x4⟩ := T2.out.a.five
      go_wp2
      have HT := Aside0.mk (((T2.out.set 3 d1).set 2 r2).eq (show _ = [r0, r1, r2, d1, e] from rfl))
      clear x0 x1 x2 x3 x4 T2
      generalize ((wa2.setCell ⟨w.heap.size, 3, none⟩ (.int .i64 (d1 : Int))).setCell ⟨w.heap.size, 2, none⟩ (.int .i64 (r2 : Int))) = wb2 at HT ⊢
      obtain ⟨x0, x1, x2, x3, x4⟩ := HT.out.a.five
      rw [rounds_succ]; go_wp2
      go_still_tail 10, (by kernel_rfl)
      change wpList _ _ _ _ _ wb2.drew
      have T3 := Aside0.mk HT.out.drew
      clear x0 x1 x2 x3 x4 HT
      generalize wb2.drew = wa3 at T3 ⊢
      obtain ⟨x0, x1, x2, x3, x4⟩ := T3.out.a.five
      go_wp2
      have HT := Aside0.mk (((T3.out.set 4 e1).set 3 r3).eq (show _ = [r0, r1, r2, r3, e1] from rfl))
      clear x0 x1 x2 x3 x4 T3
      generalize ((wa3.setCell ⟨w.heap.size, 4, none⟩ (.int .i64 (e1 : Int))).setCell ⟨w.heap.size, 3, none⟩ (.int .i64 (r3 : Int))) = wb3 at HT ⊢
      obtain ⟨x0, x1, x2, x3, x4⟩ := HT.out.a.five
      rw [rounds_succ]; go_wp2
      have T1 := Aside0.mk (((HT.out.set 0 f).set 4 r4).eq HJ.out.symm)
      clear HT
      go_roundg (3 - (j + 1))
      case measure => omega
      case rel => exact ⟨j + 1, by go_num, by omega, by omega, T1⟩
    · have c1 : decide ((j : Int) < 3) = false := decide_eq_false (by omega)
      obtain rfl : j = 3 := by omega
      have hl5 := Lib.hid H3.out.length
      go_wp2_with (first | (refine wpList_load_row rfl 80 _ rfl w.heap.size rfl 80 (wds .i64 (carryN v 3)) (0, 0) _ HT.out.a Try.underlying80 rfl (info5i hl5.out) ?_) | (refine wpList_store_row rfl 80 _ _ rfl (w.heap.size + 1) (wds .i64 (carryN v 3)) rfl rfl 80 _ HT.out.z (info5i hl5.out) (by rw [wds_size, wds_size, hl5.out]; rfl) (wds_one _ _) ?_))
      refine ret_row (p := 2) (ty := 80) rfl (w.heap.size + 1) 80 (wds .i64 (carryN v 3)) _ rfl (HT.out.z.row _) Try.underlying80 rfl (info5i hl5.out) rfl ⟨rfl, below_setRow HT.out.l (Nat.le_succ _) _⟩

end Go.Proofs.Ytihpnededldedaa.Leaf
