/- The reference's quarter round on four of sixteen words: its contract. Conditions: words of 32 bits. -/
import Derived.Test.YtihpnededldedaaCha
import Derived.Deep.RegionHeld3
import Derived.Deep.DeepCutAuto
namespace Go.Proofs.Ytihpnededldedaa.Leaf
open Go.RowKit Go.Shelf Go.Proofs.YtihpnededldedaaW.PrintWords Go.Proofs.YtihpnededldedaaW.PrintLast Go.Proofs.YtihpnededldedaaW.PrintMore Go.Proofs.Ytihpnededldedaa.PCha

/-- A quarter round on four of sixteen. -/
def rnd (v : List Nat) (a b c d : Nat) : List Nat :=
  let q := qr (v.getD a 0) (v.getD b 0) (v.getD c 0) (v.getD d 0)
  (((v.set a (q.getD 0 0)).set b (q.getD 1 0)).set c (q.getD 2 0)).set d (q.getD 3 0)

set_option maxRecDepth 100000 in
set_option maxHeartbeats 8000000 in
theorem l02Round_calls (v : List Nat) (hl : v.length = 16) (hw : ∀ j, v.getD j 0 < 2 ^ 32) (a b c d : Nat) (ha : a < 16) (hb : b < 16) (hc : c < 16) (hd : d < 16) (w : World) : Calls Try.prog 76 #[.agg (wds .i64 v), .int .i64 a, .int .i64 b, .int .i64 c, .int .i64 d] w fun e w' => e = .returned (.agg (wds .i64 (rnd v a b c d))) ∧ Below w.heap.size w w' := by
  obtain ⟨q0, q1, q2, q3, hq⟩ : ∃ q0 q1 q2 q3, qr (v.getD a 0) (v.getD b 0) (v.getD c 0) (v.getD d 0) = [q0, q1, q2, q3] := ⟨_, _, _, _, rfl⟩
  have C := fun W => l02Quarter_calls (v.getD a 0) (v.getD b 0) (v.getD c 0) (v.getD d 0) (hw a) (hw b) (hw c) (hw d) W
  rw [hq, show wds .i64 [q0, q1, q2, q3] = #[.int .i64 q0, .int .i64 q1, .int .i64 q2, .int .i64 q3] from rfl] at C
  have HR := Lib.hid (show rnd v a b c d = (((v.set a q0).set b q1).set c q2).set d q3 by unfold rnd; rw [hq]; rfl)
  clear hq hw
  have B0 := (Blk.new w 72 (wds .i64 v)).alloc (Obj.cells #[.int .i64 0, .int .i64 0, .int .i64 0, .int .i64 0, .int .i64 0, .int .i64 0, .int .i64 0, .int .i64 0, .int .i64 0, .int .i64 0, .int .i64 0, .int .i64 0, .int .i64 0, .int .i64 0, .int .i64 0, .int .i64 0] 72)
  have A0 := B0.wat a (by omega)
  have A1 := B0.wat b (by omega)
  have A2 := B0.wat c (by omega)
  have A3 := B0.wat d (by omega)
  obtain ⟨va, hva⟩ : ∃ n, v.getD a 0 = n := ⟨_, rfl⟩
  obtain ⟨vb, hvb⟩ : ∃ n, v.getD b 0 = n := ⟨_, rfl⟩
  obtain ⟨vc, hvc⟩ : ∃ n, v.getD c 0 = n := ⟨_, rfl⟩
  obtain ⟨vd, hvd⟩ : ∃ n, v.getD d 0 = n := ⟨_, rfl⟩
  rw [hva] at A0; rw [hvb] at A1; rw [hvc] at A2; rw [hvd] at A3
  rw [hva, hvb, hvc, hvd] at C
  have H4 := Lib.hid (show (a < v.length ∧ v.getD a 0 = va) ∧ (b < v.length ∧ v.getD b 0 = vb) ∧ (c < v.length ∧ v.getD c 0 = vc) ∧ (d < v.length ∧ v.getD d 0 = vd) from ⟨⟨by omega, hva⟩, ⟨by omega, hvb⟩, ⟨by omega, hvc⟩, by omega, hvd⟩)
  clear hva hvb hvc hvd
  have pa : (0 : Int) ≤ (a : Int) ∧ (a : Int) < 16 := by omega
  have pb : (0 : Int) ≤ (b : Int) ∧ (b : Int) < 16 := by omega
  have pc : (0 : Int) ≤ (c : Int) ∧ (c : Int) < 16 := by omega
  have pd : (0 : Int) ≤ (d : Int) ∧ (d : Int) < 16 := by omega
  go_enter Try.func76, Try.ntmps76
  go_wp2
  go_region_held3 (fun w' => w'.cell? ⟨w.heap.size, a, none⟩ = some (.int .i64 va) ∧ w'.cell? ⟨w.heap.size, b, none⟩ = some (.int .i64 vb) ∧ w'.cell? ⟨w.heap.size, c, none⟩ = some (.int .i64 vc) ∧ w'.cell? ⟨w.heap.size, d, none⟩ = some (.int .i64 vd)) ((refine Blk.cells4 (t := 72) (v := v) ?_ H4; (repeat' (first | (with_reducible assumption) | (with_reducible exact Blk.new _ _ _) | (with_reducible refine Blk.drewN ?_ _) | (with_reducible refine Blk.drew ?_) | (with_reducible refine Blk.alloc ?_ _) | (with_reducible refine Blk.other ?_ _ ?_ _) | (with_reducible refine Blk.rowOther ?_ _ ?_ _) | (simp; omega) | (simp; done)))))
    (first | (go_at_call 40; refine (C _).mono ?_; rintro e w' ⟨rfl, m, rfl⟩))
  · refine with_world (fun W => Blk W w.heap.size 72 (wds .i64 v) ∧ Blk W (w.heap.size + 1) 72 #[.int .i64 0, .int .i64 0, .int .i64 0, .int .i64 0, .int .i64 0, .int .i64 0, .int .i64 0, .int .i64 0, .int .i64 0, .int .i64 0, .int .i64 0, .int .i64 0, .int .i64 0, .int .i64 0, .int .i64 0, .int .i64 0] ∧ Blk W (w.heap.size + 1 + 1 + 1) 22 #[.int .i64 q0, .int .i64 q1, .int .i64 q2, .int .i64 q3] ∧ Below w.heap.size w W) ⟨by (repeat' (first | (with_reducible assumption) | (with_reducible exact Blk.new _ _ _) | (with_reducible refine Blk.drewN ?_ _) | (with_reducible refine Blk.drew ?_) | (with_reducible refine Blk.alloc ?_ _) | (with_reducible refine Blk.other ?_ _ ?_ _) | (with_reducible refine Blk.rowOther ?_ _ ?_ _) | (simp; omega) | (simp; done))), by (repeat' (first | (with_reducible assumption) | (with_reducible exact Blk.new' _ _ _ _ (by simp; done)) | (with_reducible refine Blk.drewN ?_ _) | (with_reducible refine Blk.drew ?_) | (with_reducible refine Blk.alloc ?_ _) | (with_reducible refine Blk.other ?_ _ ?_ _) | (with_reducible refine Blk.rowOther ?_ _ ?_ _) | (simp; omega) | (simp; done))), by (refine Blk.eq (by (repeat (first | (with_reducible exact Blk.new' _ _ _ _ (by simp; done)) | (with_reducible refine Blk.set ?_ _ _) | (with_reducible refine Blk.drewN ?_ _) | (with_reducible refine Blk.drew ?_) | (with_reducible refine Blk.alloc ?_ _)))) rfl), by (repeat' (first | (with_reducible exact Below.refl _ _) | (with_reducible assumption) | (with_reducible refine Below.alloc ?_ ?_ _) | (with_reducible refine Below_drewN ?_ _) | (with_reducible refine Below.setCell ?_ ?_ _) | (with_reducible refine below_setRow ?_ ?_ _) | (with_reducible refine Below.drew ?_) | go_size))⟩ ?_
    rintro W ⟨F0, Z0, G0, L0⟩
    clear A0 A1 A2 A3
    have X0 := F0.wat a (by omega)
    have Y0 := G0.at 0 _ rfl
    have F1 := F0.wset a q0
    have Z1 := Z0.other ⟨w.heap.size, a, none⟩ (by simp) (.int .i64 q0)
    have G1 := G0.other ⟨w.heap.size, a, none⟩ (by simp; omega) (.int .i64 q0)
    have L1 := L0.setCell (p := ⟨w.heap.size, a, none⟩) (Nat.le_refl _) (.int .i64 q0)
    generalize hW1 : W.setCell ⟨w.heap.size, a, none⟩ (.int .i64 q0) = W1 at F1 Z1 G1 L1
    have X1 := F1.wat b (by simp; omega)
    have Y1 := G1.at 1 _ rfl
    have F2 := F1.wset b q1
    have Z2 := Z1.other ⟨w.heap.size, b, none⟩ (by simp) (.int .i64 q1)
    have G2 := G1.other ⟨w.heap.size, b, none⟩ (by simp; omega) (.int .i64 q1)
    have L2 := L1.setCell (p := ⟨w.heap.size, b, none⟩) (Nat.le_refl _) (.int .i64 q1)
    generalize hW2 : W1.setCell ⟨w.heap.size, b, none⟩ (.int .i64 q1) = W2 at F2 Z2 G2 L2
    have X2 := F2.wat c (by simp; omega)
    have Y2 := G2.at 2 _ rfl
    have F3 := F2.wset c q2
    have Z3 := Z2.other ⟨w.heap.size, c, none⟩ (by simp) (.int .i64 q2)
    have G3 := G2.other ⟨w.heap.size, c, none⟩ (by simp; omega) (.int .i64 q2)
    have L3 := L2.setCell (p := ⟨w.heap.size, c, none⟩) (Nat.le_refl _) (.int .i64 q2)
    generalize hW3 : W2.setCell ⟨w.heap.size, c, none⟩ (.int .i64 q2) = W3 at F3 Z3 G3 L3
    have X3 := F3.wat d (by simp; omega)
    have Y3 := G3.at 3 _ rfl
    have F4 := F3.wset d q3
    have Z4 := Z3.other ⟨w.heap.size, d, none⟩ (by simp) (.int .i64 q3)
    have L4 := L3.setCell (p := ⟨w.heap.size, d, none⟩) (Nat.le_refl _) (.int .i64 q3)
    generalize hW4 : W3.setCell ⟨w.heap.size, d, none⟩ (.int .i64 q3) = W4 at F4 Z4 L4
    rw [← HR.out] at F4
    have hs : (wds .i64 (rnd v a b c d)).size = 16 := by rw [wds_size, HR.out]; simp [hl]
    have M1 := Aside0.mk F4
    have M2 := Aside0.mk Z4
    have HI := Aside0.mk (show (Try.prog.info? 72).map (·.size) = some (wds .i64 (rnd v a b c d)).size by rw [hs]; kernel_rfl)
    have Z5 := Aside0.mk (Z4.row (wds .i64 (rnd v a b c d)))
    have L5 := Aside0.mk (below_setRow L4 (Nat.le_succ w.heap.size) (wds .i64 (rnd v a b c d)))
    clear F0 F1 F2 F3 F4 Z0 Z1 Z2 Z3 Z4 G0 G1 G2 G3 L0 L1 L2 L3 L4 B0 C
    go_wp2_with (first | (refine wpList_load_row rfl 72 _ rfl w.heap.size rfl 72 (wds .i64 (rnd v a b c d)) (0, 0) _ M1.out Try.underlying72 rfl HI.out ?_) | (refine wpList_store_row rfl 72 _ _ rfl (w.heap.size + 1) (wds .i64 (rnd v a b c d)) rfl rfl 72 _ M2.out HI.out (by rw [hs]; rfl) (wds_one _ _) ?_))
    refine ret_row (p := 10) (ty := 72) rfl (w.heap.size + 1) 72 (wds .i64 (rnd v a b c d)) _ ?_ Z5.out Try.underlying72 rfl (by rw [hs]; kernel_rfl) ?_ ?_
    · rfl
    · rfl
    · exact ⟨rfl, L5.out⟩
  · refine with_world (fun W => Blk W w.heap.size 72 (wds .i64 v) ∧ Blk W (w.heap.size + 1) 72 #[.int .i64 0, .int .i64 0, .int .i64 0, .int .i64 0, .int .i64 0, .int .i64 0, .int .i64 0, .int .i64 0, .int .i64 0, .int .i64 0, .int .i64 0, .int .i64 0, .int .i64 0, .int .i64 0, .int .i64 0, .int .i64 0] ∧ Blk W (w.heap.size + 1 + 1) 22 #[.int .i64 q0, .int .i64 q1, .int .i64 q2, .int .i64 q3] ∧ Below w.heap.size w W) ⟨by (repeat' (first | (with_reducible assumption) | (with_reducible exact Blk.new _ _ _) | (with_reducible refine Blk.drewN ?_ _) | (with_reducible refine Blk.drew ?_) | (with_reducible refine Blk.alloc ?_ _) | (with_reducible refine Blk.other ?_ _ ?_ _) | (with_reducible refine Blk.rowOther ?_ _ ?_ _) | (simp; omega) | (simp; done))), by (repeat' (first | (with_reducible assumption) | (with_reducible exact Blk.new' _ _ _ _ (by simp; done)) | (with_reducible refine Blk.drewN ?_ _) | (with_reducible refine Blk.drew ?_) | (with_reducible refine Blk.alloc ?_ _) | (with_reducible refine Blk.other ?_ _ ?_ _) | (with_reducible refine Blk.rowOther ?_ _ ?_ _) | (simp; omega) | (simp; done))), Blk.eq ((((((Blk.new' _ _ _ _ (by simp)).alloc _).drewN _).set 0 _).set 1 _).set 2 _ |>.set 3 _) rfl, by (repeat' (first | (with_reducible exact Below.refl _ _) | (with_reducible assumption) | (with_reducible refine Below.alloc ?_ ?_ _) | (with_reducible refine Below_drewN ?_ _) | (with_reducible refine Below.setCell ?_ ?_ _) | (with_reducible refine below_setRow ?_ ?_ _) | (with_reducible refine Below.drew ?_) | go_size))⟩ ?_
    rintro W ⟨F0, Z0, G0, L0⟩
    clear A0 A1 A2 A3
    have X0 := F0.wat a (by omega)
    have Y0 := G0.at 0 _ rfl
    have F1 := F0.wset a q0
    have Z1 := Z0.other ⟨w.heap.size, a, none⟩ (by simp) (.int .i64 q0)
    have G1 := G0.other ⟨w.heap.size, a, none⟩ (by simp; omega) (.int .i64 q0)
    have L1 := L0.setCell (p := ⟨w.heap.size, a, none⟩) (Nat.le_refl _) (.int .i64 q0)
    generalize hW1 : W.setCell ⟨w.heap.size, a, none⟩ (.int .i64 q0) = W1 at F1 Z1 G1 L1
    have X1 := F1.wat b (by simp; omega)
    have Y1 := G1.at 1 _ rfl
    have F2 := F1.wset b q1
    have Z2 := Z1.other ⟨w.heap.size, b, none⟩ (by simp) (.int .i64 q1)
    have G2 := G1.other ⟨w.heap.size, b, none⟩ (by simp; omega) (.int .i64 q1)
    have L2 := L1.setCell (p := ⟨w.heap.size, b, none⟩) (Nat.le_refl _) (.int .i64 q1)
    generalize hW2 : W1.setCell ⟨w.heap.size, b, none⟩ (.int .i64 q1) = W2 at F2 Z2 G2 L2
    have X2 := F2.wat c (by simp; omega)
    have Y2 := G2.at 2 _ rfl
    have F3 := F2.wset c q2
    have Z3 := Z2.other ⟨w.heap.size, c, none⟩ (by simp) (.int .i64 q2)
    have G3 := G2.other ⟨w.heap.size, c, none⟩ (by simp; omega) (.int .i64 q2)
    have L3 := L2.setCell (p := ⟨w.heap.size, c, none⟩) (Nat.le_refl _) (.int .i64 q2)
    generalize hW3 : W2.setCell ⟨w.heap.size, c, none⟩ (.int .i64 q2) = W3 at F3 Z3 G3 L3
    have X3 := F3.wat d (by simp; omega)
    have Y3 := G3.at 3 _ rfl
    have F4 := F3.wset d q3
    have Z4 := Z3.other ⟨w.heap.size, d, none⟩ (by simp) (.int .i64 q3)
    have L4 := L3.setCell (p := ⟨w.heap.size, d, none⟩) (Nat.le_refl _) (.int .i64 q3)
    generalize hW4 : W3.setCell ⟨w.heap.size, d, none⟩ (.int .i64 q3) = W4 at F4 Z4 L4
    rw [← HR.out] at F4
    have hs : (wds .i64 (rnd v a b c d)).size = 16 := by rw [wds_size, HR.out]; simp [hl]
    have M1 := Aside0.mk F4
    have M2 := Aside0.mk Z4
    have HI := Aside0.mk (show (Try.prog.info? 72).map (·.size) = some (wds .i64 (rnd v a b c d)).size by rw [hs]; kernel_rfl)
    have Z5 := Aside0.mk (Z4.row (wds .i64 (rnd v a b c d)))
    have L5 := Aside0.mk (below_setRow L4 (Nat.le_succ w.heap.size) (wds .i64 (rnd v a b c d)))
    clear F0 F1 F2 F3 F4 Z0 Z1 Z2 Z3 Z4 G0 G1 G2 G3 L0 L1 L2 L3 L4 B0 C
    go_wp2_with (first | (refine wpList_load_row rfl 72 _ rfl w.heap.size rfl 72 (wds .i64 (rnd v a b c d)) (0, 0) _ M1.out Try.underlying72 rfl HI.out ?_) | (refine wpList_store_row rfl 72 _ _ rfl (w.heap.size + 1) (wds .i64 (rnd v a b c d)) rfl rfl 72 _ M2.out HI.out (by rw [hs]; rfl) (wds_one _ _) ?_))
    refine ret_row (p := 10) (ty := 72) rfl (w.heap.size + 1) 72 (wds .i64 (rnd v a b c d)) _ ?_ Z5.out Try.underlying72 rfl (by rw [hs]; kernel_rfl) ?_ ?_
    · rfl
    · rfl
    · exact ⟨rfl, L5.out⟩

end Go.Proofs.Ytihpnededldedaa.Leaf
