/-
  The reference's least residue of limbs. Conditions: limbs below 2 to the 26.
-/
import Derived.Test.YtihpnededldedaaPolT
namespace Go.Proofs.Ytihpnededldedaa.Leaf
open Go.RowKit Go.Shelf Go.Proofs.YtihpnededldedaaW.PrintWords Go.Proofs.YtihpnededldedaaW.PrintLast Go.Proofs.YtihpnededldedaaW.PrintMore Go.Proofs.Ytihpnededldedaa.Pol

/-- Block g holds v, the next five zeros, the one behind s; all below is as it was. -/
def Les (w0 wr : World) (g : Nat) (t : TypeId) (v s : List Nat) : Prop := Blk wr g t (wds .i64 v) ∧ Blk wr (g + 1) t (wds .i64 zeros5) ∧ Blk wr (g + 1 + 1) t (wds .i64 s) ∧ Below w0.heap.size w0 wr ∧ w0.heap.size = g
theorem Les.start (w : World) (t : TypeId) (v : List Nat) : Les w (((w.alloc (.cells (wds .i64 v) t)).alloc (.cells (wds .i64 zeros5) t)).alloc (.cells (wds .i64 v) t)) w.heap.size t v v :=
  ⟨((Blk.new _ _ _).alloc _).alloc _, (Blk.new' _ _ _ _ (by simp)).alloc _, Blk.new' _ _ _ _ (by simp), below_alloc (below_alloc (below_alloc (Below.refl _ _) _) _) _, rfl⟩
theorem Les.drew {w0 wr : World} {g : Nat} {t : TypeId} {v s : List Nat} (H : Les w0 wr g t v s) : Les w0 wr.drew g t v s := ⟨H.1.drew, H.2.1.drew, H.2.2.1.drew, H.2.2.2.1.drew, H.2.2.2.2⟩
theorem Les.set {w0 wr : World} {g : Nat} {t : TypeId} {v s : List Nat} (H : Les w0 wr g t v s) (i n : Nat) : Les w0 (wr.setCell ⟨g + 1 + 1, i, none⟩ (.int .i64 (n : Int))) g t v (s.set i n) :=
  ⟨H.1.other _ (by simp <;> omega) _, H.2.1.other _ (by simp <;> omega) _, H.2.2.1.wset i n, H.2.2.2.1.setCell (p := ⟨g + 1 + 1, i, none⟩) (by have := H.2.2.2.2; simp; omega) _, H.2.2.2.2⟩
theorem Les.eq {w0 wr : World} {g : Nat} {t : TypeId} {v s s' : List Nat} (H : Les w0 wr g t v s) (e : s = s') : Les w0 wr g t v s' := e ▸ H
theorem less_names (a b c d k : Nat) (h : L5 67108864 [a, b, c, d, k]) : ∃ a1 q0 r0 b1 q1 r1 c1 q2 r2 d1 q3 r3 k1 q4 r4 : Nat,
    Hid (limbsN (val [a, b, c, d, k] % pr) = if q4 = 0 then [a, b, c, d, k] else [r0, r1, r2, r3, r4]) ∧ wrap64 ((a : Int) + 5) = a1 ∧
    ((a1 : Int) / 67108864 = q0 ∧ Go.bits .and .i64 (a1 : Int) 67108863 = r0) ∧ (IntKind.i64.wrap ((b : Int) + (q0 : Int)) = b1 ∧ (b1 : Int) / 67108864 = q1 ∧ Go.bits .and .i64 (b1 : Int) 67108863 = r1) ∧
    (IntKind.i64.wrap ((c : Int) + (q1 : Int)) = c1 ∧ (c1 : Int) / 67108864 = q2 ∧ Go.bits .and .i64 (c1 : Int) 67108863 = r2) ∧ (IntKind.i64.wrap ((d : Int) + (q2 : Int)) = d1 ∧ (d1 : Int) / 67108864 = q3 ∧ Go.bits .and .i64 (d1 : Int) 67108863 = r3) ∧
    (IntKind.i64.wrap ((k : Int) + (q3 : Int)) = k1 ∧ (k1 : Int) / 67108864 = q4 ∧ Go.bits .and .i64 (k1 : Int) 67108863 = r4) := by
  have hl := less_low a b c d k h
  have hh := less_high a b c d k h
  obtain ⟨_, _, _, _, _, e0, h1, h2, h3, h4, h5⟩ := h
  injection e0 with ea e0; injection e0 with eb e0; injection e0 with ec e0; injection e0 with ed e0; injection e0 with ee e0
  subst ea eb ec ed ee
  obtain ⟨a1, ha1⟩ : ∃ n, a + 5 = n := ⟨_, rfl⟩
  obtain ⟨q0, hq0⟩ : ∃ n, a1 / 67108864 = n := ⟨_, rfl⟩
  obtain ⟨b1, hb1⟩ : ∃ n, b + q0 = n := ⟨_, rfl⟩
  obtain ⟨q1, hq1⟩ : ∃ n, b1 / 67108864 = n := ⟨_, rfl⟩
  obtain ⟨c1, hc1⟩ : ∃ n, c + q1 = n := ⟨_, rfl⟩
  obtain ⟨q2, hq2⟩ : ∃ n, c1 / 67108864 = n := ⟨_, rfl⟩
  obtain ⟨d1, hd1⟩ : ∃ n, d + q2 = n := ⟨_, rfl⟩
  obtain ⟨q3, hq3⟩ : ∃ n, d1 / 67108864 = n := ⟨_, rfl⟩
  obtain ⟨k1, hk1⟩ : ∃ n, k + q3 = n := ⟨_, rfl⟩
  obtain ⟨q4, hq4⟩ : ∃ n, k1 / 67108864 = n := ⟨_, rfl⟩
  rw [ha1, hq0, hb1, hq1, hc1, hq2, hd1, hq3, hk1, hq4] at hl hh
  refine ⟨a1, q0, a1 % 67108864, b1, q1, b1 % 67108864, c1, q2, c1 % 67108864, d1, q3, d1 % 67108864, k1, q4, k1 % 67108864, Lib.hid ?_, ?_, ⟨div_int hq0, low_i64 _ (by omega)⟩, ⟨add_i64 _ _ _ hb1 (by omega), div_int hq1, low_i64 _ (by omega)⟩, ⟨add_i64 _ _ _ hc1 (by omega), div_int hq2, low_i64 _ (by omega)⟩, ⟨add_i64 _ _ _ hd1 (by omega), div_int hq3, low_i64 _ (by omega)⟩, ⟨add_i64 _ _ _ hk1 (by omega), div_int hq4, low_i64 _ (by omega)⟩⟩
  · by_cases hz : q4 = 0
    · rw [if_pos hz]; exact hl hz
    · rw [if_neg hz]; exact hh hz
  · rw [wrap_ok _ (by omega) (by omega)]; omega

set_option maxRecDepth 100000 in
set_option maxHeartbeats 16000000 in
theorem l03Less_calls (v : List Nat) (hv : L5 67108864 v) (w : World) : Calls Try.prog 83 #[.agg (wds .i64 v)] w fun e w' => e = .returned (.agg (wds .i64 (limbsN (val v % pr)))) ∧ Below w.heap.size w w' := by
  obtain ⟨a, b, c, d, k, rfl, hv1⟩ := hv
  obtain ⟨a1, q0, r0, b1, q1, r1, c1, q2, r2, d1, q3, r3, k1, q4, r4, HN, wa, ⟨y1, y2⟩, ⟨l0, l1, l2⟩, ⟨m0, m1, m2⟩, ⟨n0, n1, n2⟩, ⟨o0, o1, o2⟩⟩ := less_names a b c d k ⟨_, _, _, _, _, rfl, hv1⟩
  have HS := Aside0.mk (Les.start w 80 [a, b, c, d, k])
  have HS1 : Aside0 (Blk _ w.heap.size 80 #[.int .i64 a, .int .i64 b, .int .i64 c, .int .i64 d, .int .i64 k]) := ⟨(Two.start w 80 .i64 [a, b, c, d, k]).a⟩
  have z1 : IntKind.i64.wrap 1 = 1 := rfl
  have z2 : IntKind.i64.wrap 2 = 2 := rfl
  have z3 : IntKind.i64.wrap 3 = 3 := rfl
  have z4 : IntKind.i64.wrap 4 = 4 := rfl
  clear hv1
  generalize limbsN (val [a, b, c, d, k] % pr) = res at HN
  go_enter Try.func83, Try.ntmps83
  refine wp_hide ?_
  intro Qx hQx
  have HQ := Lib.hid hQx
  clear hQx
  go_upto_region 2 with (((with_reducible refine wpList_load_row (o := ⟨some 5, .load 80 (.tmp 1), _, _, _, _⟩) ?l1a 80 (.tmp 1) ?l1b (w.heap.size) ?l1c 80 (#[.int .i64 a, .int .i64 b, .int .i64 c, .int .i64 d, .int .i64 k]) (0, 0) ?l1z ?l1d ?l1e ?l1f ?l1g ?_); (case l1a => rfl); (case l1b => rfl); (case l1c => rfl); (case l1d => exact HS1.out); (case l1e => exact Try.underlying80); (case l1f => rfl); (case l1g => exact (by kernel_rfl))))
  refine wp_world (fun W => Les w W w.heap.size 80 [a, b, c, d, k] [a, b, c, d, k]) HS.out ?_
  intro wb HW
  have HT := Aside0.mk HW
  clear HW HS HS1
  have x0 : wb.cell? ⟨w.heap.size + 1 + 1, 0, none⟩ = some (.int .i64 (a : Int)) ∧ wb.frozen? ⟨w.heap.size + 1 + 1, 0, none⟩ = false := HT.out.2.2.1.at 0 _ rfl
  go_wp2
  have HT1 := Aside0.mk ((HT.out.set 0 a1).eq (show _ = [a1, b, c, d, k] from rfl))
  clear x0 HT
  generalize wb.setCell ⟨w.heap.size + 1 + 1, 0, none⟩ (.int .i64 (a1 : Int)) = wc at HT1 ⊢
  have HT := HT1
  clear HT1
  refine wp_loop_rounds 5 ?_
  have x0 : wc.cell? ⟨w.heap.size + 1 + 1, 0, none⟩ = some (.int .i64 (a1 : Int)) ∧ wc.frozen? ⟨w.heap.size + 1 + 1, 0, none⟩ = false := HT.out.2.2.1.at 0 _ rfl
  have x1 : wc.cell? ⟨w.heap.size + 1 + 1, 1, none⟩ = some (.int .i64 (b : Int)) ∧ wc.frozen? ⟨w.heap.size + 1 + 1, 1, none⟩ = false := HT.out.2.2.1.at 1 _ rfl
  rw [rounds_succ]; go_wp2
  go_still_tail 10, (by kernel_rfl)
  change wpList _ _ _ _ _ wc.drew
  have HD := Aside0.mk HT.out.drew
  clear x0 x1 HT
  generalize wc.drew = wa0 at HD ⊢
  have x0 : wa0.cell? ⟨w.heap.size + 1 + 1, 0, none⟩ = some (.int .i64 (a1 : Int)) ∧ wa0.frozen? ⟨w.heap.size + 1 + 1, 0, none⟩ = false := HD.out.2.2.1.at 0 _ rfl
  have x1 : wa0.cell? ⟨w.heap.size + 1 + 1, 1, none⟩ = some (.int .i64 (b : Int)) ∧ wa0.frozen? ⟨w.heap.size + 1 + 1, 1, none⟩ = false := HD.out.2.2.1.at 1 _ rfl
  go_wp2
  have HT := Aside0.mk (((HD.out.set 1 b1).set 0 r0).eq (show _ = [r0, b1, c, d, k] from rfl))
  clear x0 x1 HD
  generalize ((wa0.setCell ⟨w.heap.size + 1 + 1, 1, none⟩ (.int .i64 (b1 : Int))).setCell ⟨w.heap.size + 1 + 1, 0, none⟩ (.int .i64 (r0 : Int))) = wb0 at HT ⊢
  have x0 : wb0.cell? ⟨w.heap.size + 1 + 1, 1, none⟩ = some (.int .i64 (b1 : Int)) ∧ wb0.frozen? ⟨w.heap.size + 1 + 1, 1, none⟩ = false := HT.out.2.2.1.at 1 _ rfl
  have x1 : wb0.cell? ⟨w.heap.size + 1 + 1, 2, none⟩ = some (.int .i64 (c : Int)) ∧ wb0.frozen? ⟨w.heap.size + 1 + 1, 2, none⟩ = false := HT.out.2.2.1.at 2 _ rfl
  rw [rounds_succ]; go_wp2
  go_still_tail 10, (by kernel_rfl)
  change wpList _ _ _ _ _ wb0.drew
  have HD := Aside0.mk HT.out.drew
  clear x0 x1 HT
  generalize wb0.drew = wa1 at HD ⊢
  have x0 : wa1.cell? ⟨w.heap.size + 1 + 1, 1, none⟩ = some (.int .i64 (b1 : Int)) ∧ wa1.frozen? ⟨w.heap.size + 1 + 1, 1, none⟩ = false := HD.out.2.2.1.at 1 _ rfl
  have x1 : wa1.cell? ⟨w.heap.size + 1 + 1, 2, none⟩ = some (.int .i64 (c : Int)) ∧ wa1.frozen? ⟨w.heap.size + 1 + 1, 2, none⟩ = false := HD.out.2.2.1.at 2 _ rfl
  go_wp2
  have HT := Aside0.mk (((HD.out.set 2 c1).set 1 r1).eq (show _ = [r0, r1, c1, d, k] from rfl))
  clear x0 x1 HD
  generalize ((wa1.setCell ⟨w.heap.size + 1 + 1, 2, none⟩ (.int .i64 (c1 : Int))).setCell ⟨w.heap.size + 1 + 1, 1, none⟩ (.int .i64 (r1 : Int))) = wb1 at HT ⊢
  have x0 : wb1.cell? ⟨w.heap.size + 1 + 1, 2, none⟩ = some (.int .i64 (c1 : Int)) ∧ wb1.frozen? ⟨w.heap.size + 1 + 1, 2, none⟩ = false := HT.out.2.2.1.at 2 _ rfl
  have x1 : wb1.cell? ⟨w.heap.size + 1 + 1, 3, none⟩ = some (.int .i64 (d : Int)) ∧ wb1.frozen? ⟨w.heap.size + 1 + 1, 3, none⟩ = false := HT.out.2.2.1.at 3 _ rfl
  rw [rounds_succ]; go_wp2
  go_still_tail 10, (by kernel_rfl)
  change wpList _ _ _ _ _ wb1.drew
  have HD := Aside0.mk HT.out.drew
  clear x0 x1 HT
  generalize wb1.drew = wa2 at HD ⊢
  have x0 : wa2.cell? ⟨w.heap.size + 1 + 1, 2, none⟩ = some (.int .i64 (c1 : Int)) ∧ wa2.frozen? ⟨w.heap.size + 1 + 1, 2, none⟩ = false := HD.out.2.2.1.at 2 _ rfl
  have x1 : wa2.cell? ⟨w.heap.size + 1 + 1, 3, none⟩ = some (.int .i64 (d : Int)) ∧ wa2.frozen? ⟨w.heap.size + 1 + 1, 3, none⟩ = false := HD.out.2.2.1.at 3 _ rfl
  go_wp2
  have HT := Aside0.mk (((HD.out.set 3 d1).set 2 r2).eq (show _ = [r0, r1, r2, d1, k] from rfl))
  clear x0 x1 HD
  generalize ((wa2.setCell ⟨w.heap.size + 1 + 1, 3, none⟩ (.int .i64 (d1 : Int))).setCell ⟨w.heap.size + 1 + 1, 2, none⟩ (.int .i64 (r2 : Int))) = wb2 at HT ⊢
  have x0 : wb2.cell? ⟨w.heap.size + 1 + 1, 3, none⟩ = some (.int .i64 (d1 : Int)) ∧ wb2.frozen? ⟨w.heap.size + 1 + 1, 3, none⟩ = false := HT.out.2.2.1.at 3 _ rfl
  have x1 : wb2.cell? ⟨w.heap.size + 1 + 1, 4, none⟩ = some (.int .i64 (k : Int)) ∧ wb2.frozen? ⟨w.heap.size + 1 + 1, 4, none⟩ = false := HT.out.2.2.1.at 4 _ rfl
  rw [rounds_succ]; go_wp2
  go_still_tail 10, (by kernel_rfl)
  change wpList _ _ _ _ _ wb2.drew
  have HD := Aside0.mk HT.out.drew
  clear x0 x1 HT
  generalize wb2.drew = wa3 at HD ⊢
  have x0 : wa3.cell? ⟨w.heap.size + 1 + 1, 3, none⟩ = some (.int .i64 (d1 : Int)) ∧ wa3.frozen? ⟨w.heap.size + 1 + 1, 3, none⟩ = false := HD.out.2.2.1.at 3 _ rfl
  have x1 : wa3.cell? ⟨w.heap.size + 1 + 1, 4, none⟩ = some (.int .i64 (k : Int)) ∧ wa3.frozen? ⟨w.heap.size + 1 + 1, 4, none⟩ = false := HD.out.2.2.1.at 4 _ rfl
  go_wp2
  have HT := Aside0.mk (((HD.out.set 4 k1).set 3 r3).eq (show _ = [r0, r1, r2, r3, k1] from rfl))
  clear x0 x1 HD
  generalize ((wa3.setCell ⟨w.heap.size + 1 + 1, 4, none⟩ (.int .i64 (k1 : Int))).setCell ⟨w.heap.size + 1 + 1, 3, none⟩ (.int .i64 (r3 : Int))) = wb3 at HT ⊢
  have x0 : wb3.cell? ⟨w.heap.size + 1 + 1, 4, none⟩ = some (.int .i64 (k1 : Int)) ∧ wb3.frozen? ⟨w.heap.size + 1 + 1, 4, none⟩ = false := HT.out.2.2.1.at 4 _ rfl
  rw [rounds_succ]
  by_cases hz : q4 = 0
  · have t1 : ((q4 : Int) == 0) = true := by rw [hz]; rfl
    have t2 : ((q4 : Int) = 0) = True := eq_true (by omega)
    have H0 := Lib.hid (HN.out.trans (if_pos hz))
    obtain rfl := hz
    go_wp2_with (first | ((with_reducible refine wpList_load_row (o := ⟨some 33, .load 80 (.tmp 1), _, _, _, _⟩) ?l2a 80 (.tmp 1) ?l2b (w.heap.size) ?l2c 80 (wds .i64 [a, b, c, d, k]) (0, 0) ?l2z ?l2d ?l2e ?l2f ?l2g ?_); (case l2a => rfl); (case l2b => rfl); (case l2c => rfl); (case l2d => exact HT.out.1); (case l2e => exact Try.underlying80); (case l2f => rfl); (case l2g => exact info5i rfl)) | ((with_reducible refine wpList_store_row (o := ⟨none, .store 80 (.tmp 2) (.tmp 33), _, _, _, _⟩) ?s3a 80 (.tmp 2) (.tmp 33) ?s3b (w.heap.size + 1) (wds .i64 [a, b, c, d, k]) ?s3c ?s3d 80 (wds .i64 zeros5) ?s3e ?s3f ?s3g ?s3h ?_); (case s3a => rfl); (case s3b => rfl); (case s3c => rfl); (case s3d => rfl); (case s3e => exact HT.out.2.1); (case s3f => exact info5i rfl); (case s3g => rfl); (case s3h => exact wds_one _ _)))
    refine HQ.out _ _ _ ?_
    refine ret_row (p := 2) (ty := 80) rfl (w.heap.size + 1) 80 (wds .i64 [a, b, c, d, k]) _ rfl (HT.out.2.1.row _) Try.underlying80 rfl (info5i rfl) rfl ⟨by rw [H0.out], below_setRow HT.out.2.2.2.1 (Nat.le_succ _) _⟩
  · have t1 : ((q4 : Int) == 0) = false := by simp; omega
    have t2 : ((q4 : Int) = 0) = False := eq_false (by omega)
    have H0 := Lib.hid (HN.out.trans (if_neg hz))
    have hz' := Lib.hid hz
    clear hz
    go_upto_region 11 with (fail)
    have HD := Aside0.mk ((HT.out.set 4 r4).eq (show _ = [r0, r1, r2, r3, r4] from rfl))
    clear x0 HT
    generalize wb3.setCell ⟨w.heap.size + 1 + 1, 4, none⟩ (.int .i64 (r4 : Int)) = we at HD ⊢
    have HT := HD
    clear HD
    go_wp2_with (first | ((with_reducible refine wpList_load_row (o := ⟨some 38, .load 80 (.tmp 3), _, _, _, _⟩) ?l4a 80 (.tmp 3) ?l4b (w.heap.size + 1 + 1) ?l4c 80 (wds .i64 [r0, r1, r2, r3, r4]) (0, 0) ?l4z ?l4d ?l4e ?l4f ?l4g ?_); (case l4a => rfl); (case l4b => rfl); (case l4c => rfl); (case l4d => exact HT.out.2.2.1); (case l4e => exact Try.underlying80); (case l4f => rfl); (case l4g => exact info5i rfl)) | ((with_reducible refine wpList_store_row (o := ⟨none, .store 80 (.tmp 2) (.tmp 38), _, _, _, _⟩) ?s5a 80 (.tmp 2) (.tmp 38) ?s5b (w.heap.size + 1) (wds .i64 [r0, r1, r2, r3, r4]) ?s5c ?s5d 80 (wds .i64 zeros5) ?s5e ?s5f ?s5g ?s5h ?_); (case s5a => rfl); (case s5b => rfl); (case s5c => rfl); (case s5d => rfl); (case s5e => exact HT.out.2.1); (case s5f => exact info5i rfl); (case s5g => rfl); (case s5h => exact wds_one _ _)))
    refine HQ.out _ _ _ ?_
    refine ret_row (p := 2) (ty := 80) rfl (w.heap.size + 1) 80 (wds .i64 [r0, r1, r2, r3, r4]) _ rfl (HT.out.2.1.row _) Try.underlying80 rfl (info5i rfl) rfl ⟨by rw [H0.out], below_setRow HT.out.2.2.2.1 (Nat.le_succ _) _⟩

end Go.Proofs.Ytihpnededldedaa.Leaf
