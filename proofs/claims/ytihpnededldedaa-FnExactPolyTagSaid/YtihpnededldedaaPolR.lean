/-
  The program's least residue of limbs. Conditions: limbs below 2 to the 26.
-/
import Derived.Test.YtihpnededldedaaPolT
namespace Go.Proofs.Ytihpnededldedaa.Leaf
open Go.RowKit Go.Shelf Go.Proofs.YtihpnededldedaaW.PrintWords Go.Proofs.YtihpnededldedaaW.PrintLast Go.Proofs.YtihpnededldedaaW.PrintMore Go.Proofs.Ytihpnededldedaa.Pol

/-- Two to the 130 less five, in limbs. -/
def leastL : List Nat := [67108859, 67108863, 67108863, 67108863, 67108863]
/-- Block g holds v, the next five zeros, block h the number that may be taken away; all below is as it was. -/
def Red (w0 wr : World) (g h : Nat) (t : TypeId) (v : List Nat) : Prop := Blk wr g t (wds .u64 v) ∧ Blk wr (g + 1) t (wds .u64 zeros5) ∧ Blk wr h t (wds .u64 leastL) ∧ Below w0.heap.size w0 wr ∧ w0.heap.size = g ∧ g + 1 < h
theorem Red.drewN {w0 wr : World} {g h : Nat} {t : TypeId} {v : List Nat} (H : Red w0 wr g h t v) (n : Nat) : Red w0 (wr.drewN n) g h t v := ⟨H.1.drewN n, H.2.1.drewN n, H.2.2.1.drewN n, Below_drewN H.2.2.2.1 n, H.2.2.2.2⟩
theorem Red.drew {w0 wr : World} {g h : Nat} {t : TypeId} {v : List Nat} (H : Red w0 wr g h t v) : Red w0 wr.drew g h t v := ⟨H.1.drew, H.2.1.drew, H.2.2.1.drew, H.2.2.2.1.drew, H.2.2.2.2⟩
theorem Red.set {w0 wr : World} {g h : Nat} {t : TypeId} {v : List Nat} (H : Red w0 wr g h t v) (i n : Nat) : Red w0 (wr.setCell ⟨g, i, none⟩ (.int .u64 (n : Int))) g h t (v.set i n) :=
  ⟨H.1.wset i n, H.2.1.other _ (Nat.succ_ne_self _) _, H.2.2.1.other _ (by have := H.2.2.2.2.2; simp; omega) _, H.2.2.2.1.setCell (p := ⟨g, i, none⟩) (Nat.le_of_eq H.2.2.2.2.1) _, H.2.2.2.2⟩
theorem Red.eq {w0 wr : World} {g h : Nat} {t : TypeId} {v v' : List Nat} (H : Red w0 wr g h t v) (e : v = v') : Red w0 wr g h t v' := e ▸ H
theorem sub_u64 (a b n : Nat) (h : a - b = n) (hb : b ≤ a) (ha : a < 67108864) : IntKind.u64.wrap ((a : Int) - (b : Int)) = (n : Int) := by rw [wraps_u64 _ (by omega) (by omega)]; omega
/-- A limb that is not the greatest: each spelling of it. -/
def Less (x : Nat) (m : Int) : Prop := (((x : Int) != m) = true ∧ ((x : Int) == m) = false ∧ ((x : Int) = m) = False ∧ decide ((x : Int) < m) = true ∧ ((x : Int) < m) = True)
theorem less_of (x : Nat) (m : Int) (h : (x : Int) < m) : Less x m := by
  have hne : ¬ (x : Int) = m := by omega
  exact ⟨by simpa using hne, by simpa using hne, eq_false hne, decide_eq_true h, eq_true h⟩
def More (x : Nat) (m : Int) : Prop := (((x : Int) != m) = true ∧ ((x : Int) == m) = false ∧ ((x : Int) = m) = False ∧ decide ((x : Int) < m) = false ∧ ((x : Int) < m) = False)
theorem more_of (x : Nat) (m : Int) (h : m < (x : Int)) : More x m := by
  have hne : ¬ (x : Int) = m := by omega
  exact ⟨by simpa using hne, by simpa using hne, eq_false hne, decide_eq_false (by omega), eq_false (by omega)⟩

set_option maxRecDepth 100000 in
set_option maxHeartbeats 16000000 in
theorem red_k (a b c d k : Nat) (ha : a < 67108864) (hb : b < 67108864) (hc : c < 67108864) (hd : d < 67108864) (hk : k < 67108864) (hl : k < 67108863) (w : World) : Calls Try.prog 91 #[.agg (wds .u64 [a, b, c, d, k])] w fun e w' => e = .returned (.agg (wds .u64 (limbsN (val [a, b, c, d, k] % pr)))) ∧ Below w.heap.size w w' := by
  have HV : L5 67108864 [a, b, c, d, k] := ⟨_, _, _, _, _, rfl, by omega, by omega, by omega, by omega, by omega⟩
  have C := fun W => carried_calls [a, b, c, d, k] (HV.mono (by decide)) W
  rw [carry_still _ HV] at C
  have HR := Lib.hid (low_red [a, b, c, d, k] HV (by rw [val5]; unfold pr; omega))
  obtain ⟨f1, f2, f3, f4, f5⟩ := less_of k 67108863 (by omega)
  have HI := Lib.hid (info5u (show [a, b, c, d, k].length = 5 from rfl))
  have HS := Aside0.mk (Two.start w 90 .u64 [a, b, c, d, k])
  clear HV ha hb hc hd hk hl
  go_enter Try.func91, Try.ntmps91
  refine wp_hide ?_
  intro Qx hQx
  have HQ := Lib.hid hQx
  clear hQx
  go_wp2_with (first | ((with_reducible refine wpList_load_row (o := ⟨some 6, .load 90 (.tmp 1), _, _, _, _⟩) ?l1a 90 (.tmp 1) ?l1b (w.heap.size) ?l1c 90 (wds .u64 [a, b, c, d, k]) (0, 0) ?l1z ?l1d ?l1e ?l1f ?l1g ?_); (case l1a => rfl); (case l1b => rfl); (case l1c => rfl); (case l1d => exact HS.out.a); (case l1e => exact Try.underlying90); (case l1f => rfl); (case l1g => exact HI.out)) | (go_at_call 108; with_reducible refine (C _).mono ?_; rintro e1 w1 ⟨rfl, hb1⟩; replace hb1 := Aside0.mk hb1) | ((with_reducible refine wpList_store_row (o := ⟨none, .store 90 (.tmp 1) (.tmp 7), _, _, _, _⟩) ?s2a 90 (.tmp 1) (.tmp 7) ?s2b (w.heap.size) (wds .u64 [a, b, c, d, k]) ?s2c ?s2d 90 (wds .u64 [a, b, c, d, k]) ?s2e ?s2f ?s2g ?s2h ?_); (case s2a => rfl); (case s2b => rfl); (case s2c => rfl); (case s2d => rfl); (case s2e => exact (HS.out.a.below hb1.out)); (case s2f => exact HI.out); (case s2g => rfl); (case s2h => exact wds_one _ _)))
  refine wp_world (fun W => Red w W w.heap.size w1.heap.size 90 [a, b, c, d, k]) ⟨?_, ?_, ?_, ?_, rfl, ?_⟩ ?_
  · exact ((HS.out.a.below hb1.out).row _).alloc _
  · exact ((HS.out.z.below hb1.out).rowOther _ (Nat.succ_ne_self _) _).alloc _
  · exact Blk.new' _ _ _ _ (by simp)
  · exact below_alloc (below_setRow (HS.out.l.trans (hb1.out.mono HS.out.l.size)) (Nat.le_refl _) _) _
  · exact (HS.out.z.below hb1.out).lt
  intro wb HW
  have HT := Aside0.mk HW
  clear HW HS hb1 C HI
  generalize w1.heap.size = h1 at HT ⊢
  refine wp_loop_rounds 6 ?_
  have x0 : wb.cell? ⟨w.heap.size, 4, none⟩ = some (.int .u64 k) ∧ wb.frozen? ⟨w.heap.size, 4, none⟩ = false := HT.out.1.at 4 _ rfl
  have y0 : wb.cell? ⟨h1, 4, none⟩ = some (.int .u64 67108863) ∧ wb.frozen? ⟨h1, 4, none⟩ = false := HT.out.2.2.1.at 4 _ rfl
  rw [rounds_succ]; go_wp2
  go_quiet (fail)
  have HD := Aside0.mk (HT.out.drewN nq)
  clear x0 y0 HT
  generalize wb.drewN nq = wq1 at HD ⊢
  have HT := HD
  clear HD
  have x0 : wq1.cell? ⟨w.heap.size, 4, none⟩ = some (.int .u64 k) ∧ wq1.frozen? ⟨w.heap.size, 4, none⟩ = false := HT.out.1.at 4 _ rfl
  have y0 : wq1.cell? ⟨h1, 4, none⟩ = some (.int .u64 67108863) ∧ wq1.frozen? ⟨h1, 4, none⟩ = false := HT.out.2.2.1.at 4 _ rfl
  go_wp2
  go_quiet (fail)
  have HD := Aside0.mk (HT.out.drewN nq)
  clear x0 y0 HT
  generalize wq1.drewN nq = wq2 at HD ⊢
  have HT := HD
  clear HD
  go_wp2_with (first | ((with_reducible refine wpList_load_row (o := ⟨some 27, .load 90 (.tmp 1), _, _, _, _⟩) ?l3a 90 (.tmp 1) ?l3b (w.heap.size) ?l3c 90 (wds .u64 [a, b, c, d, k]) (0, 0) ?l3z ?l3d ?l3e ?l3f ?l3g ?_); (case l3a => rfl); (case l3b => rfl); (case l3c => rfl); (case l3d => exact HT.out.1); (case l3e => exact Try.underlying90); (case l3f => rfl); (case l3g => exact info5u rfl)) | ((with_reducible refine wpList_store_row (o := ⟨none, .store 90 (.tmp 2) (.tmp 27), _, _, _, _⟩) ?s4a 90 (.tmp 2) (.tmp 27) ?s4b (w.heap.size + 1) (wds .u64 [a, b, c, d, k]) ?s4c ?s4d 90 (wds .u64 zeros5) ?s4e ?s4f ?s4g ?s4h ?_); (case s4a => rfl); (case s4b => rfl); (case s4c => rfl); (case s4d => rfl); (case s4e => exact HT.out.2.1); (case s4f => exact info5u rfl); (case s4g => rfl); (case s4h => exact wds_one _ _)))
  refine HQ.out _ _ _ ?_
  refine ret_row (p := 2) (ty := 90) rfl (w.heap.size + 1) 90 (wds .u64 [a, b, c, d, k]) _ rfl (HT.out.2.1.row _) Try.underlying90 rfl (info5u rfl) rfl ⟨by rw [HR.out], below_setRow HT.out.2.2.2.1 (Nat.le_succ _) _⟩

set_option maxRecDepth 100000 in
set_option maxHeartbeats 16000000 in
theorem red_d (a b c d : Nat) (ha : a < 67108864) (hb : b < 67108864) (hc : c < 67108864) (hd : d < 67108864) (hl : d < 67108863) (w : World) : Calls Try.prog 91 #[.agg (wds .u64 [a, b, c, d, 67108863])] w fun e w' => e = .returned (.agg (wds .u64 (limbsN (val [a, b, c, d, 67108863] % pr)))) ∧ Below w.heap.size w w' := by
  have HV : L5 67108864 [a, b, c, d, 67108863] := ⟨_, _, _, _, _, rfl, by omega, by omega, by omega, by omega, by omega⟩
  have C := fun W => carried_calls [a, b, c, d, 67108863] (HV.mono (by decide)) W
  rw [carry_still _ HV] at C
  have HR := Lib.hid (low_red [a, b, c, d, 67108863] HV (by rw [val5]; unfold pr; omega))
  obtain ⟨f1, f2, f3, f4, f5⟩ := less_of d 67108863 (by omega)
  have HI := Lib.hid (info5u (show [a, b, c, d, 67108863].length = 5 from rfl))
  have HS := Aside0.mk (Two.start w 90 .u64 [a, b, c, d, 67108863])
  clear HV ha hb hc hd hl
  go_enter Try.func91, Try.ntmps91
  refine wp_hide ?_
  intro Qx hQx
  have HQ := Lib.hid hQx
  clear hQx
  go_wp2_with (first | ((with_reducible refine wpList_load_row (o := ⟨some 6, .load 90 (.tmp 1), _, _, _, _⟩) ?l5a 90 (.tmp 1) ?l5b (w.heap.size) ?l5c 90 (wds .u64 [a, b, c, d, 67108863]) (0, 0) ?l5z ?l5d ?l5e ?l5f ?l5g ?_); (case l5a => rfl); (case l5b => rfl); (case l5c => rfl); (case l5d => exact HS.out.a); (case l5e => exact Try.underlying90); (case l5f => rfl); (case l5g => exact HI.out)) | (go_at_call 108; with_reducible refine (C _).mono ?_; rintro e1 w1 ⟨rfl, hb1⟩; replace hb1 := Aside0.mk hb1) | ((with_reducible refine wpList_store_row (o := ⟨none, .store 90 (.tmp 1) (.tmp 7), _, _, _, _⟩) ?s6a 90 (.tmp 1) (.tmp 7) ?s6b (w.heap.size) (wds .u64 [a, b, c, d, 67108863]) ?s6c ?s6d 90 (wds .u64 [a, b, c, d, 67108863]) ?s6e ?s6f ?s6g ?s6h ?_); (case s6a => rfl); (case s6b => rfl); (case s6c => rfl); (case s6d => rfl); (case s6e => exact (HS.out.a.below hb1.out)); (case s6f => exact HI.out); (case s6g => rfl); (case s6h => exact wds_one _ _)))
  refine wp_world (fun W => Red w W w.heap.size w1.heap.size 90 [a, b, c, d, 67108863]) ⟨?_, ?_, ?_, ?_, rfl, ?_⟩ ?_
  · exact ((HS.out.a.below hb1.out).row _).alloc _
  · exact ((HS.out.z.below hb1.out).rowOther _ (Nat.succ_ne_self _) _).alloc _
  · exact Blk.new' _ _ _ _ (by simp)
  · exact below_alloc (below_setRow (HS.out.l.trans (hb1.out.mono HS.out.l.size)) (Nat.le_refl _) _) _
  · exact (HS.out.z.below hb1.out).lt
  intro wb HW
  have HT := Aside0.mk HW
  clear HW HS hb1 C HI
  generalize w1.heap.size = h1 at HT ⊢
  refine wp_loop_rounds 6 ?_
  have x0 : wb.cell? ⟨w.heap.size, 4, none⟩ = some (.int .u64 67108863) ∧ wb.frozen? ⟨w.heap.size, 4, none⟩ = false := HT.out.1.at 4 _ rfl
  have y0 : wb.cell? ⟨h1, 4, none⟩ = some (.int .u64 67108863) ∧ wb.frozen? ⟨h1, 4, none⟩ = false := HT.out.2.2.1.at 4 _ rfl
  rw [rounds_succ]; go_wp2
  go_quiet (fail)
  have HD := Aside0.mk (HT.out.drewN nq)
  clear x0 y0 HT
  generalize wb.drewN nq = wq1 at HD ⊢
  have HT := HD
  clear HD
  go_wp2
  have x0 : wq1.cell? ⟨w.heap.size, 3, none⟩ = some (.int .u64 d) ∧ wq1.frozen? ⟨w.heap.size, 3, none⟩ = false := HT.out.1.at 3 _ rfl
  have y0 : wq1.cell? ⟨h1, 3, none⟩ = some (.int .u64 67108863) ∧ wq1.frozen? ⟨h1, 3, none⟩ = false := HT.out.2.2.1.at 3 _ rfl
  rw [rounds_succ]; go_wp2
  go_quiet (fail)
  have HD := Aside0.mk (HT.out.drewN nq)
  clear x0 y0 HT
  generalize wq1.drewN nq = wq2 at HD ⊢
  have HT := HD
  clear HD
  have x0 : wq2.cell? ⟨w.heap.size, 3, none⟩ = some (.int .u64 d) ∧ wq2.frozen? ⟨w.heap.size, 3, none⟩ = false := HT.out.1.at 3 _ rfl
  have y0 : wq2.cell? ⟨h1, 3, none⟩ = some (.int .u64 67108863) ∧ wq2.frozen? ⟨h1, 3, none⟩ = false := HT.out.2.2.1.at 3 _ rfl
  go_wp2
  go_quiet (fail)
  have HD := Aside0.mk (HT.out.drewN nq)
  clear x0 y0 HT
  generalize wq2.drewN nq = wq3 at HD ⊢
  have HT := HD
  clear HD
  go_wp2_with (first | ((with_reducible refine wpList_load_row (o := ⟨some 27, .load 90 (.tmp 1), _, _, _, _⟩) ?l7a 90 (.tmp 1) ?l7b (w.heap.size) ?l7c 90 (wds .u64 [a, b, c, d, 67108863]) (0, 0) ?l7z ?l7d ?l7e ?l7f ?l7g ?_); (case l7a => rfl); (case l7b => rfl); (case l7c => rfl); (case l7d => exact HT.out.1); (case l7e => exact Try.underlying90); (case l7f => rfl); (case l7g => exact info5u rfl)) | ((with_reducible refine wpList_store_row (o := ⟨none, .store 90 (.tmp 2) (.tmp 27), _, _, _, _⟩) ?s8a 90 (.tmp 2) (.tmp 27) ?s8b (w.heap.size + 1) (wds .u64 [a, b, c, d, 67108863]) ?s8c ?s8d 90 (wds .u64 zeros5) ?s8e ?s8f ?s8g ?s8h ?_); (case s8a => rfl); (case s8b => rfl); (case s8c => rfl); (case s8d => rfl); (case s8e => exact HT.out.2.1); (case s8f => exact info5u rfl); (case s8g => rfl); (case s8h => exact wds_one _ _)))
  refine HQ.out _ _ _ ?_
  refine ret_row (p := 2) (ty := 90) rfl (w.heap.size + 1) 90 (wds .u64 [a, b, c, d, 67108863]) _ rfl (HT.out.2.1.row _) Try.underlying90 rfl (info5u rfl) rfl ⟨by rw [HR.out], below_setRow HT.out.2.2.2.1 (Nat.le_succ _) _⟩

set_option maxRecDepth 100000 in
set_option maxHeartbeats 16000000 in
theorem red_c (a b c : Nat) (ha : a < 67108864) (hb : b < 67108864) (hc : c < 67108864) (hl : c < 67108863) (w : World) : Calls Try.prog 91 #[.agg (wds .u64 [a, b, c, 67108863, 67108863])] w fun e w' => e = .returned (.agg (wds .u64 (limbsN (val [a, b, c, 67108863, 67108863] % pr)))) ∧ Below w.heap.size w w' := by
  have HV : L5 67108864 [a, b, c, 67108863, 67108863] := ⟨_, _, _, _, _, rfl, by omega, by omega, by omega, by omega, by omega⟩
  have C := fun W => carried_calls [a, b, c, 67108863, 67108863] (HV.mono (by decide)) W
  rw [carry_still _ HV] at C
  have HR := Lib.hid (low_red [a, b, c, 67108863, 67108863] HV (by rw [val5]; unfold pr; omega))
  obtain ⟨f1, f2, f3, f4, f5⟩ := less_of c 67108863 (by omega)
  have HI := Lib.hid (info5u (show [a, b, c, 67108863, 67108863].length = 5 from rfl))
  have HS := Aside0.mk (Two.start w 90 .u64 [a, b, c, 67108863, 67108863])
  clear HV ha hb hc hl
  go_enter Try.func91, Try.ntmps91
  refine wp_hide ?_
  intro Qx hQx
  have HQ := Lib.hid hQx
  clear hQx
  go_wp2_with (first | ((with_reducible refine wpList_load_row (o := ⟨some 6, .load 90 (.tmp 1), _, _, _, _⟩) ?l9a 90 (.tmp 1) ?l9b (w.heap.size) ?l9c 90 (wds .u64 [a, b, c, 67108863, 67108863]) (0, 0) ?l9z ?l9d ?l9e ?l9f ?l9g ?_); (case l9a => rfl); (case l9b => rfl); (case l9c => rfl); (case l9d => exact HS.out.a); (case l9e => exact Try.underlying90); (case l9f => rfl); (case l9g => exact HI.out)) | (go_at_call 108; with_reducible refine (C _).mono ?_; rintro e1 w1 ⟨rfl, hb1⟩; replace hb1 := Aside0.mk hb1) | ((with_reducible refine wpList_store_row (o := ⟨none, .store 90 (.tmp 1) (.tmp 7), _, _, _, _⟩) ?s10a 90 (.tmp 1) (.tmp 7) ?s10b (w.heap.size) (wds .u64 [a, b, c, 67108863, 67108863]) ?s10c ?s10d 90 (wds .u64 [a, b, c, 67108863, 67108863]) ?s10e ?s10f ?s10g ?s10h ?_); (case s10a => rfl); (case s10b => rfl); (case s10c => rfl); (case s10d => rfl); (case s10e => exact (HS.out.a.below hb1.out)); (case s10f => exact HI.out); (case s10g => rfl); (case s10h => exact wds_one _ _)))
  refine wp_world (fun W => Red w W w.heap.size w1.heap.size 90 [a, b, c, 67108863, 67108863]) ⟨?_, ?_, ?_, ?_, rfl, ?_⟩ ?_
  · exact ((HS.out.a.below hb1.out).row _).alloc _
  · exact ((HS.out.z.below hb1.out).rowOther _ (Nat.succ_ne_self _) _).alloc _
  · exact Blk.new' _ _ _ _ (by simp)
  · exact below_alloc (below_setRow (HS.out.l.trans (hb1.out.mono HS.out.l.size)) (Nat.le_refl _) _) _
  · exact (HS.out.z.below hb1.out).lt
  intro wb HW
  have HT := Aside0.mk HW
  clear HW HS hb1 C HI
  generalize w1.heap.size = h1 at HT ⊢
  refine wp_loop_rounds 6 ?_
  have x0 : wb.cell? ⟨w.heap.size, 4, none⟩ = some (.int .u64 67108863) ∧ wb.frozen? ⟨w.heap.size, 4, none⟩ = false := HT.out.1.at 4 _ rfl
  have y0 : wb.cell? ⟨h1, 4, none⟩ = some (.int .u64 67108863) ∧ wb.frozen? ⟨h1, 4, none⟩ = false := HT.out.2.2.1.at 4 _ rfl
  rw [rounds_succ]; go_wp2
  go_quiet (fail)
  have HD := Aside0.mk (HT.out.drewN nq)
  clear x0 y0 HT
  generalize wb.drewN nq = wq1 at HD ⊢
  have HT := HD
  clear HD
  go_wp2
  have x0 : wq1.cell? ⟨w.heap.size, 3, none⟩ = some (.int .u64 67108863) ∧ wq1.frozen? ⟨w.heap.size, 3, none⟩ = false := HT.out.1.at 3 _ rfl
  have y0 : wq1.cell? ⟨h1, 3, none⟩ = some (.int .u64 67108863) ∧ wq1.frozen? ⟨h1, 3, none⟩ = false := HT.out.2.2.1.at 3 _ rfl
  rw [rounds_succ]; go_wp2
  go_quiet (fail)
  have HD := Aside0.mk (HT.out.drewN nq)
  clear x0 y0 HT
  generalize wq1.drewN nq = wq2 at HD ⊢
  have HT := HD
  clear HD
  go_wp2
  have x0 : wq2.cell? ⟨w.heap.size, 2, none⟩ = some (.int .u64 c) ∧ wq2.frozen? ⟨w.heap.size, 2, none⟩ = false := HT.out.1.at 2 _ rfl
  have y0 : wq2.cell? ⟨h1, 2, none⟩ = some (.int .u64 67108863) ∧ wq2.frozen? ⟨h1, 2, none⟩ = false := HT.out.2.2.1.at 2 _ rfl
  rw [rounds_succ]; go_wp2
  go_quiet (fail)
  have HD := Aside0.mk (HT.out.drewN nq)
  clear x0 y0 HT
  generalize wq2.drewN nq = wq3 at HD ⊢
  have HT := HD
  clear HD
  have x0 : wq3.cell? ⟨w.heap.size, 2, none⟩ = some (.int .u64 c) ∧ wq3.frozen? ⟨w.heap.size, 2, none⟩ = false := HT.out.1.at 2 _ rfl
  have y0 : wq3.cell? ⟨h1, 2, none⟩ = some (.int .u64 67108863) ∧ wq3.frozen? ⟨h1, 2, none⟩ = false := HT.out.2.2.1.at 2 _ rfl
  go_wp2
  go_quiet (fail)
  have HD := Aside0.mk (HT.out.drewN nq)
  clear x0 y0 HT
  generalize wq3.drewN nq = wq4 at HD ⊢
  have HT := HD
  clear HD
  go_wp2_with (first | ((with_reducible refine wpList_load_row (o := ⟨some 27, .load 90 (.tmp 1), _, _, _, _⟩) ?l11a 90 (.tmp 1) ?l11b (w.heap.size) ?l11c 90 (wds .u64 [a, b, c, 67108863, 67108863]) (0, 0) ?l11z ?l11d ?l11e ?l11f ?l11g ?_); (case l11a => rfl); (case l11b => rfl); (case l11c => rfl); (case l11d => exact HT.out.1); (case l11e => exact Try.underlying90); (case l11f => rfl); (case l11g => exact info5u rfl)) | ((with_reducible refine wpList_store_row (o := ⟨none, .store 90 (.tmp 2) (.tmp 27), _, _, _, _⟩) ?s12a 90 (.tmp 2) (.tmp 27) ?s12b (w.heap.size + 1) (wds .u64 [a, b, c, 67108863, 67108863]) ?s12c ?s12d 90 (wds .u64 zeros5) ?s12e ?s12f ?s12g ?s12h ?_); (case s12a => rfl); (case s12b => rfl); (case s12c => rfl); (case s12d => rfl); (case s12e => exact HT.out.2.1); (case s12f => exact info5u rfl); (case s12g => rfl); (case s12h => exact wds_one _ _)))
  refine HQ.out _ _ _ ?_
  refine ret_row (p := 2) (ty := 90) rfl (w.heap.size + 1) 90 (wds .u64 [a, b, c, 67108863, 67108863]) _ rfl (HT.out.2.1.row _) Try.underlying90 rfl (info5u rfl) rfl ⟨by rw [HR.out], below_setRow HT.out.2.2.2.1 (Nat.le_succ _) _⟩

set_option maxRecDepth 100000 in
set_option maxHeartbeats 16000000 in
theorem red_b (a b : Nat) (ha : a < 67108864) (hb : b < 67108864) (hl : b < 67108863) (w : World) : Calls Try.prog 91 #[.agg (wds .u64 [a, b, 67108863, 67108863, 67108863])] w fun e w' => e = .returned (.agg (wds .u64 (limbsN (val [a, b, 67108863, 67108863, 67108863] % pr)))) ∧ Below w.heap.size w w' := by
  have HV : L5 67108864 [a, b, 67108863, 67108863, 67108863] := ⟨_, _, _, _, _, rfl, by omega, by omega, by omega, by omega, by omega⟩
  have C := fun W => carried_calls [a, b, 67108863, 67108863, 67108863] (HV.mono (by decide)) W
  rw [carry_still _ HV] at C
  have HR := Lib.hid (low_red [a, b, 67108863, 67108863, 67108863] HV (by rw [val5]; unfold pr; omega))
  obtain ⟨f1, f2, f3, f4, f5⟩ := less_of b 67108863 (by omega)
  have HI := Lib.hid (info5u (show [a, b, 67108863, 67108863, 67108863].length = 5 from rfl))
  have HS := Aside0.mk (Two.start w 90 .u64 [a, b, 67108863, 67108863, 67108863])
  clear HV ha hb hl
  go_enter Try.func91, Try.ntmps91
  refine wp_hide ?_
  intro Qx hQx
  have HQ := Lib.hid hQx
  clear hQx
  go_wp2_with (first | ((with_reducible refine wpList_load_row (o := ⟨some 6, .load 90 (.tmp 1), _, _, _, _⟩) ?l13a 90 (.tmp 1) ?l13b (w.heap.size) ?l13c 90 (wds .u64 [a, b, 67108863, 67108863, 67108863]) (0, 0) ?l13z ?l13d ?l13e ?l13f ?l13g ?_); (case l13a => rfl); (case l13b => rfl); (case l13c => rfl); (case l13d => exact HS.out.a); (case l13e => exact Try.underlying90); (case l13f => rfl); (case l13g => exact HI.out)) | (go_at_call 108; with_reducible refine (C _).mono ?_; rintro e1 w1 ⟨rfl, hb1⟩; replace hb1 := Aside0.mk hb1) | ((with_reducible refine wpList_store_row (o := ⟨none, .store 90 (.tmp 1) (.tmp 7), _, _, _, _⟩) ?s14a 90 (.tmp 1) (.tmp 7) ?s14b (w.heap.size) (wds .u64 [a, b, 67108863, 67108863, 67108863]) ?s14c ?s14d 90 (wds .u64 [a, b, 67108863, 67108863, 67108863]) ?s14e ?s14f ?s14g ?s14h ?_); (case s14a => rfl); (case s14b => rfl); (case s14c => rfl); (case s14d => rfl); (case s14e => exact (HS.out.a.below hb1.out)); (case s14f => exact HI.out); (case s14g => rfl); (case s14h => exact wds_one _ _)))
  refine wp_world (fun W => Red w W w.heap.size w1.heap.size 90 [a, b, 67108863, 67108863, 67108863]) ⟨?_, ?_, ?_, ?_, rfl, ?_⟩ ?_
  · exact ((HS.out.a.below hb1.out).row _).alloc _
  · exact ((HS.out.z.below hb1.out).rowOther _ (Nat.succ_ne_self _) _).alloc _
  · exact Blk.new' _ _ _ _ (by simp)
  · exact below_alloc (below_setRow (HS.out.l.trans (hb1.out.mono HS.out.l.size)) (Nat.le_refl _) _) _
  · exact (HS.out.z.below hb1.out).lt
  intro wb HW
  have HT := Aside0.mk HW
  clear HW HS hb1 C HI
  generalize w1.heap.size = h1 at HT ⊢
  refine wp_loop_rounds 6 ?_
  have x0 : wb.cell? ⟨w.heap.size, 4, none⟩ = some (.int .u64 67108863) ∧ wb.frozen? ⟨w.heap.size, 4, none⟩ = false := HT.out.1.at 4 _ rfl
  have y0 : wb.cell? ⟨h1, 4, none⟩ = some (.int .u64 67108863) ∧ wb.frozen? ⟨h1, 4, none⟩ = false := HT.out.2.2.1.at 4 _ rfl
  rw [rounds_succ]; go_wp2
  go_quiet (fail)
  have HD := Aside0.mk (HT.out.drewN nq)
  clear x0 y0 HT
  generalize wb.drewN nq = wq1 at HD ⊢
  have HT := HD
  clear HD
  go_wp2
  have x0 : wq1.cell? ⟨w.heap.size, 3, none⟩ = some (.int .u64 67108863) ∧ wq1.frozen? ⟨w.heap.size, 3, none⟩ = false := HT.out.1.at 3 _ rfl
  have y0 : wq1.cell? ⟨h1, 3, none⟩ = some (.int .u64 67108863) ∧ wq1.frozen? ⟨h1, 3, none⟩ = false := HT.out.2.2.1.at 3 _ rfl
  rw [rounds_succ]; go_wp2
  go_quiet (fail)
  have HD := Aside0.mk (HT.out.drewN nq)
  clear x0 y0 HT
  generalize wq1.drewN nq = wq2 at HD ⊢
  have HT := HD
  clear HD
  go_wp2
  have x0 : wq2.cell? ⟨w.heap.size, 2, none⟩ = some (.int .u64 67108863) ∧ wq2.frozen? ⟨w.heap.size, 2, none⟩ = false := HT.out.1.at 2 _ rfl
  have y0 : wq2.cell? ⟨h1, 2, none⟩ = some (.int .u64 67108863) ∧ wq2.frozen? ⟨h1, 2, none⟩ = false := HT.out.2.2.1.at 2 _ rfl
  rw [rounds_succ]; go_wp2
  go_quiet (fail)
  have HD := Aside0.mk (HT.out.drewN nq)
  clear x0 y0 HT
  generalize wq2.drewN nq = wq3 at HD ⊢
  have HT := HD
  clear HD
  go_wp2
  have x0 : wq3.cell? ⟨w.heap.size, 1, none⟩ = some (.int .u64 b) ∧ wq3.frozen? ⟨w.heap.size, 1, none⟩ = false := HT.out.1.at 1 _ rfl
  have y0 : wq3.cell? ⟨h1, 1, none⟩ = some (.int .u64 67108863) ∧ wq3.frozen? ⟨h1, 1, none⟩ = false := HT.out.2.2.1.at 1 _ rfl
  rw [rounds_succ]; go_wp2
  go_quiet (fail)
  have HD := Aside0.mk (HT.out.drewN nq)
  clear x0 y0 HT
  generalize wq3.drewN nq = wq4 at HD ⊢
  have HT := HD
  clear HD
  have x0 : wq4.cell? ⟨w.heap.size, 1, none⟩ = some (.int .u64 b) ∧ wq4.frozen? ⟨w.heap.size, 1, none⟩ = false := HT.out.1.at 1 _ rfl
  have y0 : wq4.cell? ⟨h1, 1, none⟩ = some (.int .u64 67108863) ∧ wq4.frozen? ⟨h1, 1, none⟩ = false := HT.out.2.2.1.at 1 _ rfl
  go_wp2
  go_quiet (fail)
  have HD := Aside0.mk (HT.out.drewN nq)
  clear x0 y0 HT
  generalize wq4.drewN nq = wq5 at HD ⊢
  have HT := HD
  clear HD
  go_wp2_with (first | ((with_reducible refine wpList_load_row (o := ⟨some 27, .load 90 (.tmp 1), _, _, _, _⟩) ?l15a 90 (.tmp 1) ?l15b (w.heap.size) ?l15c 90 (wds .u64 [a, b, 67108863, 67108863, 67108863]) (0, 0) ?l15z ?l15d ?l15e ?l15f ?l15g ?_); (case l15a => rfl); (case l15b => rfl); (case l15c => rfl); (case l15d => exact HT.out.1); (case l15e => exact Try.underlying90); (case l15f => rfl); (case l15g => exact info5u rfl)) | ((with_reducible refine wpList_store_row (o := ⟨none, .store 90 (.tmp 2) (.tmp 27), _, _, _, _⟩) ?s16a 90 (.tmp 2) (.tmp 27) ?s16b (w.heap.size + 1) (wds .u64 [a, b, 67108863, 67108863, 67108863]) ?s16c ?s16d 90 (wds .u64 zeros5) ?s16e ?s16f ?s16g ?s16h ?_); (case s16a => rfl); (case s16b => rfl); (case s16c => rfl); (case s16d => rfl); (case s16e => exact HT.out.2.1); (case s16f => exact info5u rfl); (case s16g => rfl); (case s16h => exact wds_one _ _)))
  refine HQ.out _ _ _ ?_
  refine ret_row (p := 2) (ty := 90) rfl (w.heap.size + 1) 90 (wds .u64 [a, b, 67108863, 67108863, 67108863]) _ rfl (HT.out.2.1.row _) Try.underlying90 rfl (info5u rfl) rfl ⟨by rw [HR.out], below_setRow HT.out.2.2.2.1 (Nat.le_succ _) _⟩

set_option maxRecDepth 100000 in
set_option maxHeartbeats 16000000 in
theorem red_a (a : Nat) (ha : a < 67108864) (hl : a < 67108859) (w : World) : Calls Try.prog 91 #[.agg (wds .u64 [a, 67108863, 67108863, 67108863, 67108863])] w fun e w' => e = .returned (.agg (wds .u64 (limbsN (val [a, 67108863, 67108863, 67108863, 67108863] % pr)))) ∧ Below w.heap.size w w' := by
  have HV : L5 67108864 [a, 67108863, 67108863, 67108863, 67108863] := ⟨_, _, _, _, _, rfl, by omega, by omega, by omega, by omega, by omega⟩
  have C := fun W => carried_calls [a, 67108863, 67108863, 67108863, 67108863] (HV.mono (by decide)) W
  rw [carry_still _ HV] at C
  have HR := Lib.hid (low_red [a, 67108863, 67108863, 67108863, 67108863] HV (by rw [val5]; unfold pr; omega))
  obtain ⟨f1, f2, f3, f4, f5⟩ := less_of a 67108859 (by omega)
  have HI := Lib.hid (info5u (show [a, 67108863, 67108863, 67108863, 67108863].length = 5 from rfl))
  have HS := Aside0.mk (Two.start w 90 .u64 [a, 67108863, 67108863, 67108863, 67108863])
  clear HV ha hl
  go_enter Try.func91, Try.ntmps91
  refine wp_hide ?_
  intro Qx hQx
  have HQ := Lib.hid hQx
  clear hQx
  go_wp2_with (first | ((with_reducible refine wpList_load_row (o := ⟨some 6, .load 90 (.tmp 1), _, _, _, _⟩) ?l17a 90 (.tmp 1) ?l17b (w.heap.size) ?l17c 90 (wds .u64 [a, 67108863, 67108863, 67108863, 67108863]) (0, 0) ?l17z ?l17d ?l17e ?l17f ?l17g ?_); (case l17a => rfl); (case l17b => rfl); (case l17c => rfl); (case l17d => exact HS.out.a); (case l17e => exact Try.underlying90); (case l17f => rfl); (case l17g => exact HI.out)) | (go_at_call 108; with_reducible refine (C _).mono ?_; rintro e1 w1 ⟨rfl, hb1⟩; replace hb1 := Aside0.mk hb1) | ((with_reducible refine wpList_store_row (o := ⟨none, .store 90 (.tmp 1) (.tmp 7), _, _, _, _⟩) ?s18a 90 (.tmp 1) (.tmp 7) ?s18b (w.heap.size) (wds .u64 [a, 67108863, 67108863, 67108863, 67108863]) ?s18c ?s18d 90 (wds .u64 [a, 67108863, 67108863, 67108863, 67108863]) ?s18e ?s18f ?s18g ?s18h ?_); (case s18a => rfl); (case s18b => rfl); (case s18c => rfl); (case s18d => rfl); (case s18e => exact (HS.out.a.below hb1.out)); (case s18f => exact HI.out); (case s18g => rfl); (case s18h => exact wds_one _ _)))
  refine wp_world (fun W => Red w W w.heap.size w1.heap.size 90 [a, 67108863, 67108863, 67108863, 67108863]) ⟨?_, ?_, ?_, ?_, rfl, ?_⟩ ?_
  · exact ((HS.out.a.below hb1.out).row _).alloc _
  · exact ((HS.out.z.below hb1.out).rowOther _ (Nat.succ_ne_self _) _).alloc _
  · exact Blk.new' _ _ _ _ (by simp)
  · exact below_alloc (below_setRow (HS.out.l.trans (hb1.out.mono HS.out.l.size)) (Nat.le_refl _) _) _
  · exact (HS.out.z.below hb1.out).lt
  intro wb HW
  have HT := Aside0.mk HW
  clear HW HS hb1 C HI
  generalize w1.heap.size = h1 at HT ⊢
  refine wp_loop_rounds 6 ?_
  have x0 : wb.cell? ⟨w.heap.size, 4, none⟩ = some (.int .u64 67108863) ∧ wb.frozen? ⟨w.heap.size, 4, none⟩ = false := HT.out.1.at 4 _ rfl
  have y0 : wb.cell? ⟨h1, 4, none⟩ = some (.int .u64 67108863) ∧ wb.frozen? ⟨h1, 4, none⟩ = false := HT.out.2.2.1.at 4 _ rfl
  rw [rounds_succ]; go_wp2
  go_quiet (fail)
  have HD := Aside0.mk (HT.out.drewN nq)
  clear x0 y0 HT
  generalize wb.drewN nq = wq1 at HD ⊢
  have HT := HD
  clear HD
  go_wp2
  have x0 : wq1.cell? ⟨w.heap.size, 3, none⟩ = some (.int .u64 67108863) ∧ wq1.frozen? ⟨w.heap.size, 3, none⟩ = false := HT.out.1.at 3 _ rfl
  have y0 : wq1.cell? ⟨h1, 3, none⟩ = some (.int .u64 67108863) ∧ wq1.frozen? ⟨h1, 3, none⟩ = false := HT.out.2.2.1.at 3 _ rfl
  rw [rounds_succ]; go_wp2
  go_quiet (fail)
  have HD := Aside0.mk (HT.out.drewN nq)
  clear x0 y0 HT
  generalize wq1.drewN nq = wq2 at HD ⊢
  have HT := HD
  clear HD
  go_wp2
  have x0 : wq2.cell? ⟨w.heap.size, 2, none⟩ = some (.int .u64 67108863) ∧ wq2.frozen? ⟨w.heap.size, 2, none⟩ = false := HT.out.1.at 2 _ rfl
  have y0 : wq2.cell? ⟨h1, 2, none⟩ = some (.int .u64 67108863) ∧ wq2.frozen? ⟨h1, 2, none⟩ = false := HT.out.2.2.1.at 2 _ rfl
  rw [rounds_succ]; go_wp2
  go_quiet (fail)
  have HD := Aside0.mk (HT.out.drewN nq)
  clear x0 y0 HT
  generalize wq2.drewN nq = wq3 at HD ⊢
  have HT := HD
  clear HD
  go_wp2
  have x0 : wq3.cell? ⟨w.heap.size, 1, none⟩ = some (.int .u64 67108863) ∧ wq3.frozen? ⟨w.heap.size, 1, none⟩ = false := HT.out.1.at 1 _ rfl
  have y0 : wq3.cell? ⟨h1, 1, none⟩ = some (.int .u64 67108863) ∧ wq3.frozen? ⟨h1, 1, none⟩ = false := HT.out.2.2.1.at 1 _ rfl
  rw [rounds_succ]; go_wp2
  go_quiet (fail)
  have HD := Aside0.mk (HT.out.drewN nq)
  clear x0 y0 HT
  generalize wq3.drewN nq = wq4 at HD ⊢
  have HT := HD
  clear HD
  go_wp2
  have x0 : wq4.cell? ⟨w.heap.size, 0, none⟩ = some (.int .u64 a) ∧ wq4.frozen? ⟨w.heap.size, 0, none⟩ = false := HT.out.1.at 0 _ rfl
  have y0 : wq4.cell? ⟨h1, 0, none⟩ = some (.int .u64 67108859) ∧ wq4.frozen? ⟨h1, 0, none⟩ = false := HT.out.2.2.1.at 0 _ rfl
  rw [rounds_succ]; go_wp2
  go_quiet (fail)
  have HD := Aside0.mk (HT.out.drewN nq)
  clear x0 y0 HT
  generalize wq4.drewN nq = wq5 at HD ⊢
  have HT := HD
  clear HD
  have x0 : wq5.cell? ⟨w.heap.size, 0, none⟩ = some (.int .u64 a) ∧ wq5.frozen? ⟨w.heap.size, 0, none⟩ = false := HT.out.1.at 0 _ rfl
  have y0 : wq5.cell? ⟨h1, 0, none⟩ = some (.int .u64 67108859) ∧ wq5.frozen? ⟨h1, 0, none⟩ = false := HT.out.2.2.1.at 0 _ rfl
  go_wp2
  go_quiet (fail)
  have HD := Aside0.mk (HT.out.drewN nq)
  clear x0 y0 HT
  generalize wq5.drewN nq = wq6 at HD ⊢
  have HT := HD
  clear HD
  go_wp2_with (first | ((with_reducible refine wpList_load_row (o := ⟨some 27, .load 90 (.tmp 1), _, _, _, _⟩) ?l19a 90 (.tmp 1) ?l19b (w.heap.size) ?l19c 90 (wds .u64 [a, 67108863, 67108863, 67108863, 67108863]) (0, 0) ?l19z ?l19d ?l19e ?l19f ?l19g ?_); (case l19a => rfl); (case l19b => rfl); (case l19c => rfl); (case l19d => exact HT.out.1); (case l19e => exact Try.underlying90); (case l19f => rfl); (case l19g => exact info5u rfl)) | ((with_reducible refine wpList_store_row (o := ⟨none, .store 90 (.tmp 2) (.tmp 27), _, _, _, _⟩) ?s20a 90 (.tmp 2) (.tmp 27) ?s20b (w.heap.size + 1) (wds .u64 [a, 67108863, 67108863, 67108863, 67108863]) ?s20c ?s20d 90 (wds .u64 zeros5) ?s20e ?s20f ?s20g ?s20h ?_); (case s20a => rfl); (case s20b => rfl); (case s20c => rfl); (case s20d => rfl); (case s20e => exact HT.out.2.1); (case s20f => exact info5u rfl); (case s20g => rfl); (case s20h => exact wds_one _ _)))
  refine HQ.out _ _ _ ?_
  refine ret_row (p := 2) (ty := 90) rfl (w.heap.size + 1) 90 (wds .u64 [a, 67108863, 67108863, 67108863, 67108863]) _ rfl (HT.out.2.1.row _) Try.underlying90 rfl (info5u rfl) rfl ⟨by rw [HR.out], below_setRow HT.out.2.2.2.1 (Nat.le_succ _) _⟩

set_option maxRecDepth 100000 in
set_option maxHeartbeats 16000000 in
theorem red_m (a : Nat) (ha : a < 67108864) (hm : 67108859 < a) (w : World) : Calls Try.prog 91 #[.agg (wds .u64 [a, 67108863, 67108863, 67108863, 67108863])] w fun e w' => e = .returned (.agg (wds .u64 (limbsN (val [a, 67108863, 67108863, 67108863, 67108863] % pr)))) ∧ Below w.heap.size w w' := by
  have HV : L5 67108864 [a, 67108863, 67108863, 67108863, 67108863] := ⟨_, _, _, _, _, rfl, by omega, by omega, by omega, by omega, by omega⟩
  have C := fun W => carried_calls [a, 67108863, 67108863, 67108863, 67108863] (HV.mono (by decide)) W
  rw [carry_still _ HV] at C
  have HR := Lib.hid (high_red a (by omega) (by omega))
  obtain ⟨f1, f2, f3, f4, f5⟩ := more_of a 67108859 (by omega)
  obtain ⟨n, hn⟩ : ∃ n, a - 67108859 = n := ⟨_, rfl⟩
  have hs := sub_u64 a 67108859 n hn (by omega) (by omega)
  have hs' : IntKind.u64.wrap ((a : Int) - 67108859) = (n : Int) := hs
  rw [hn] at HR
  clear hs hn
  have hz : IntKind.u64.wrap 0 = 0 := rfl
  have HI := Lib.hid (info5u (show [a, 67108863, 67108863, 67108863, 67108863].length = 5 from rfl))
  have HS := Aside0.mk (Two.start w 90 .u64 [a, 67108863, 67108863, 67108863, 67108863])
  clear HV ha hm
  go_enter Try.func91, Try.ntmps91
  refine wp_hide ?_
  intro Qx hQx
  have HQ := Lib.hid hQx
  clear hQx
  go_wp2_with (first | ((with_reducible refine wpList_load_row (o := ⟨some 6, .load 90 (.tmp 1), _, _, _, _⟩) ?l21a 90 (.tmp 1) ?l21b (w.heap.size) ?l21c 90 (wds .u64 [a, 67108863, 67108863, 67108863, 67108863]) (0, 0) ?l21z ?l21d ?l21e ?l21f ?l21g ?_); (case l21a => rfl); (case l21b => rfl); (case l21c => rfl); (case l21d => exact HS.out.a); (case l21e => exact Try.underlying90); (case l21f => rfl); (case l21g => exact HI.out)) | (go_at_call 108; with_reducible refine (C _).mono ?_; rintro e1 w1 ⟨rfl, hb1⟩; replace hb1 := Aside0.mk hb1) | ((with_reducible refine wpList_store_row (o := ⟨none, .store 90 (.tmp 1) (.tmp 7), _, _, _, _⟩) ?s22a 90 (.tmp 1) (.tmp 7) ?s22b (w.heap.size) (wds .u64 [a, 67108863, 67108863, 67108863, 67108863]) ?s22c ?s22d 90 (wds .u64 [a, 67108863, 67108863, 67108863, 67108863]) ?s22e ?s22f ?s22g ?s22h ?_); (case s22a => rfl); (case s22b => rfl); (case s22c => rfl); (case s22d => rfl); (case s22e => exact (HS.out.a.below hb1.out)); (case s22f => exact HI.out); (case s22g => rfl); (case s22h => exact wds_one _ _)))
  refine wp_world (fun W => Red w W w.heap.size w1.heap.size 90 [a, 67108863, 67108863, 67108863, 67108863]) ⟨?_, ?_, ?_, ?_, rfl, ?_⟩ ?_
  · exact ((HS.out.a.below hb1.out).row _).alloc _
  · exact ((HS.out.z.below hb1.out).rowOther _ (Nat.succ_ne_self _) _).alloc _
  · exact Blk.new' _ _ _ _ (by simp)
  · exact below_alloc (below_setRow (HS.out.l.trans (hb1.out.mono HS.out.l.size)) (Nat.le_refl _) _) _
  · exact (HS.out.z.below hb1.out).lt
  intro wb HW
  have HT := Aside0.mk HW
  clear HW HS hb1 C HI
  generalize w1.heap.size = h1 at HT ⊢
  refine wp_loop_rounds 6 ?_
  have x0 : wb.cell? ⟨w.heap.size, 4, none⟩ = some (.int .u64 67108863) ∧ wb.frozen? ⟨w.heap.size, 4, none⟩ = false := HT.out.1.at 4 _ rfl
  have y0 : wb.cell? ⟨h1, 4, none⟩ = some (.int .u64 67108863) ∧ wb.frozen? ⟨h1, 4, none⟩ = false := HT.out.2.2.1.at 4 _ rfl
  rw [rounds_succ]; go_wp2
  go_quiet (fail)
  have HD := Aside0.mk (HT.out.drewN nq)
  clear x0 y0 HT
  generalize wb.drewN nq = wq1 at HD ⊢
  have HT := HD
  clear HD
  go_wp2
  have x0 : wq1.cell? ⟨w.heap.size, 3, none⟩ = some (.int .u64 67108863) ∧ wq1.frozen? ⟨w.heap.size, 3, none⟩ = false := HT.out.1.at 3 _ rfl
  have y0 : wq1.cell? ⟨h1, 3, none⟩ = some (.int .u64 67108863) ∧ wq1.frozen? ⟨h1, 3, none⟩ = false := HT.out.2.2.1.at 3 _ rfl
  rw [rounds_succ]; go_wp2
  go_quiet (fail)
  have HD := Aside0.mk (HT.out.drewN nq)
  clear x0 y0 HT
  generalize wq1.drewN nq = wq2 at HD ⊢
  have HT := HD
  clear HD
  go_wp2
  have x0 : wq2.cell? ⟨w.heap.size, 2, none⟩ = some (.int .u64 67108863) ∧ wq2.frozen? ⟨w.heap.size, 2, none⟩ = false := HT.out.1.at 2 _ rfl
  have y0 : wq2.cell? ⟨h1, 2, none⟩ = some (.int .u64 67108863) ∧ wq2.frozen? ⟨h1, 2, none⟩ = false := HT.out.2.2.1.at 2 _ rfl
  rw [rounds_succ]; go_wp2
  go_quiet (fail)
  have HD := Aside0.mk (HT.out.drewN nq)
  clear x0 y0 HT
  generalize wq2.drewN nq = wq3 at HD ⊢
  have HT := HD
  clear HD
  go_wp2
  have x0 : wq3.cell? ⟨w.heap.size, 1, none⟩ = some (.int .u64 67108863) ∧ wq3.frozen? ⟨w.heap.size, 1, none⟩ = false := HT.out.1.at 1 _ rfl
  have y0 : wq3.cell? ⟨h1, 1, none⟩ = some (.int .u64 67108863) ∧ wq3.frozen? ⟨h1, 1, none⟩ = false := HT.out.2.2.1.at 1 _ rfl
  rw [rounds_succ]; go_wp2
  go_quiet (fail)
  have HD := Aside0.mk (HT.out.drewN nq)
  clear x0 y0 HT
  generalize wq3.drewN nq = wq4 at HD ⊢
  have HT := HD
  clear HD
  go_wp2
  have x0 : wq4.cell? ⟨w.heap.size, 0, none⟩ = some (.int .u64 a) ∧ wq4.frozen? ⟨w.heap.size, 0, none⟩ = false := HT.out.1.at 0 _ rfl
  have y0 : wq4.cell? ⟨h1, 0, none⟩ = some (.int .u64 67108859) ∧ wq4.frozen? ⟨h1, 0, none⟩ = false := HT.out.2.2.1.at 0 _ rfl
  rw [rounds_succ]; go_wp2
  go_quiet (fail)
  have HD := Aside0.mk (HT.out.drewN nq)
  clear x0 y0 HT
  generalize wq4.drewN nq = wq5 at HD ⊢
  have HT := HD
  clear HD
  have x0 : wq5.cell? ⟨w.heap.size, 0, none⟩ = some (.int .u64 a) ∧ wq5.frozen? ⟨w.heap.size, 0, none⟩ = false := HT.out.1.at 0 _ rfl
  have y0 : wq5.cell? ⟨h1, 0, none⟩ = some (.int .u64 67108859) ∧ wq5.frozen? ⟨h1, 0, none⟩ = false := HT.out.2.2.1.at 0 _ rfl
  go_wp2
  go_quiet (fail)
  have HD := Aside0.mk (HT.out.drewN nq)
  clear x0 y0 HT
  generalize wq5.drewN nq = wq6 at HD ⊢
  have HT := HD
  clear HD
  go_wp2
  refine wp_loop_rounds 6 ?_
  have x0 : wq6.cell? ⟨w.heap.size, 0, none⟩ = some (.int .u64 a) ∧ wq6.frozen? ⟨w.heap.size, 0, none⟩ = false := HT.out.1.at 0 _ rfl
  have y0 : wq6.cell? ⟨h1, 0, none⟩ = some (.int .u64 67108859) ∧ wq6.frozen? ⟨h1, 0, none⟩ = false := HT.out.2.2.1.at 0 _ rfl
  rw [rounds_succ]; go_wp2
  go_still_tail 8, (by kernel_rfl)
  change wpList _ _ _ _ _ wq6.drew
  have HD := Aside0.mk HT.out.drew
  clear x0 y0 HT
  generalize wq6.drew = wd0 at HD ⊢
  have x0 : wd0.cell? ⟨w.heap.size, 0, none⟩ = some (.int .u64 a) ∧ wd0.frozen? ⟨w.heap.size, 0, none⟩ = false := HD.out.1.at 0 _ rfl
  go_wp2
  have HT : Aside0 (Red w (wd0.setCell ⟨w.heap.size, 0, none⟩ (.int .u64 n)) w.heap.size h1 90 [n, 67108863, 67108863, 67108863, 67108863]) := ⟨(HD.out.set 0 n).eq (show _ = [n, 67108863, 67108863, 67108863, 67108863] from rfl)⟩
  clear x0 HD
  generalize wd0.setCell ⟨w.heap.size, 0, none⟩ (.int .u64 n) = we0 at HT ⊢
  have x0 : we0.cell? ⟨w.heap.size, 1, none⟩ = some (.int .u64 67108863) ∧ we0.frozen? ⟨w.heap.size, 1, none⟩ = false := HT.out.1.at 1 _ rfl
  have y0 : we0.cell? ⟨h1, 1, none⟩ = some (.int .u64 67108863) ∧ we0.frozen? ⟨h1, 1, none⟩ = false := HT.out.2.2.1.at 1 _ rfl
  rw [rounds_succ]; go_wp2
  go_still_tail 8, (by kernel_rfl)
  change wpList _ _ _ _ _ we0.drew
  have HD := Aside0.mk HT.out.drew
  clear x0 y0 HT
  generalize we0.drew = wd1 at HD ⊢
  have x0 : wd1.cell? ⟨w.heap.size, 1, none⟩ = some (.int .u64 67108863) ∧ wd1.frozen? ⟨w.heap.size, 1, none⟩ = false := HD.out.1.at 1 _ rfl
  go_wp2
  have HT : Aside0 (Red w (wd1.setCell ⟨w.heap.size, 1, none⟩ (.int .u64 0)) w.heap.size h1 90 [n, 0, 67108863, 67108863, 67108863]) := ⟨(HD.out.set 1 0).eq (show _ = [n, 0, 67108863, 67108863, 67108863] from rfl)⟩
  clear x0 HD
  generalize wd1.setCell ⟨w.heap.size, 1, none⟩ (.int .u64 0) = we1 at HT ⊢
  have x0 : we1.cell? ⟨w.heap.size, 2, none⟩ = some (.int .u64 67108863) ∧ we1.frozen? ⟨w.heap.size, 2, none⟩ = false := HT.out.1.at 2 _ rfl
  have y0 : we1.cell? ⟨h1, 2, none⟩ = some (.int .u64 67108863) ∧ we1.frozen? ⟨h1, 2, none⟩ = false := HT.out.2.2.1.at 2 _ rfl
  rw [rounds_succ]; go_wp2
  go_still_tail 8, (by kernel_rfl)
  change wpList _ _ _ _ _ we1.drew
  have HD := Aside0.mk HT.out.drew
  clear x0 y0 HT
  generalize we1.drew = wd2 at HD ⊢
  have x0 : wd2.cell? ⟨w.heap.size, 2, none⟩ = some (.int .u64 67108863) ∧ wd2.frozen? ⟨w.heap.size, 2, none⟩ = false := HD.out.1.at 2 _ rfl
  go_wp2
  have HT : Aside0 (Red w (wd2.setCell ⟨w.heap.size, 2, none⟩ (.int .u64 0)) w.heap.size h1 90 [n, 0, 0, 67108863, 67108863]) := ⟨(HD.out.set 2 0).eq (show _ = [n, 0, 0, 67108863, 67108863] from rfl)⟩
  clear x0 HD
  generalize wd2.setCell ⟨w.heap.size, 2, none⟩ (.int .u64 0) = we2 at HT ⊢
  have x0 : we2.cell? ⟨w.heap.size, 3, none⟩ = some (.int .u64 67108863) ∧ we2.frozen? ⟨w.heap.size, 3, none⟩ = false := HT.out.1.at 3 _ rfl
  have y0 : we2.cell? ⟨h1, 3, none⟩ = some (.int .u64 67108863) ∧ we2.frozen? ⟨h1, 3, none⟩ = false := HT.out.2.2.1.at 3 _ rfl
  rw [rounds_succ]; go_wp2
  go_still_tail 8, (by kernel_rfl)
  change wpList _ _ _ _ _ we2.drew
  have HD := Aside0.mk HT.out.drew
  clear x0 y0 HT
  generalize we2.drew = wd3 at HD ⊢
  have x0 : wd3.cell? ⟨w.heap.size, 3, none⟩ = some (.int .u64 67108863) ∧ wd3.frozen? ⟨w.heap.size, 3, none⟩ = false := HD.out.1.at 3 _ rfl
  go_wp2
  have HT : Aside0 (Red w (wd3.setCell ⟨w.heap.size, 3, none⟩ (.int .u64 0)) w.heap.size h1 90 [n, 0, 0, 0, 67108863]) := ⟨(HD.out.set 3 0).eq (show _ = [n, 0, 0, 0, 67108863] from rfl)⟩
  clear x0 HD
  generalize wd3.setCell ⟨w.heap.size, 3, none⟩ (.int .u64 0) = we3 at HT ⊢
  have x0 : we3.cell? ⟨w.heap.size, 4, none⟩ = some (.int .u64 67108863) ∧ we3.frozen? ⟨w.heap.size, 4, none⟩ = false := HT.out.1.at 4 _ rfl
  have y0 : we3.cell? ⟨h1, 4, none⟩ = some (.int .u64 67108863) ∧ we3.frozen? ⟨h1, 4, none⟩ = false := HT.out.2.2.1.at 4 _ rfl
  rw [rounds_succ]; go_wp2
  go_still_tail 8, (by kernel_rfl)
  change wpList _ _ _ _ _ we3.drew
  have HD := Aside0.mk HT.out.drew
  clear x0 y0 HT
  generalize we3.drew = wd4 at HD ⊢
  have x0 : wd4.cell? ⟨w.heap.size, 4, none⟩ = some (.int .u64 67108863) ∧ wd4.frozen? ⟨w.heap.size, 4, none⟩ = false := HD.out.1.at 4 _ rfl
  go_wp2
  have HT : Aside0 (Red w (wd4.setCell ⟨w.heap.size, 4, none⟩ (.int .u64 0)) w.heap.size h1 90 [n, 0, 0, 0, 0]) := ⟨(HD.out.set 4 0).eq (show _ = [n, 0, 0, 0, 0] from rfl)⟩
  clear x0 HD
  generalize wd4.setCell ⟨w.heap.size, 4, none⟩ (.int .u64 0) = we4 at HT ⊢
  rw [rounds_succ]
  go_wp2_with (first | ((with_reducible refine wpList_load_row (o := ⟨some 40, .load 90 (.tmp 1), _, _, _, _⟩) ?l23a 90 (.tmp 1) ?l23b (w.heap.size) ?l23c 90 (wds .u64 [n, 0, 0, 0, 0]) (0, 0) ?l23z ?l23d ?l23e ?l23f ?l23g ?_); (case l23a => rfl); (case l23b => rfl); (case l23c => rfl); (case l23d => exact HT.out.1); (case l23e => exact Try.underlying90); (case l23f => rfl); (case l23g => exact info5u rfl)) | ((with_reducible refine wpList_store_row (o := ⟨none, .store 90 (.tmp 2) (.tmp 40), _, _, _, _⟩) ?s24a 90 (.tmp 2) (.tmp 40) ?s24b (w.heap.size + 1) (wds .u64 [n, 0, 0, 0, 0]) ?s24c ?s24d 90 (wds .u64 zeros5) ?s24e ?s24f ?s24g ?s24h ?_); (case s24a => rfl); (case s24b => rfl); (case s24c => rfl); (case s24d => rfl); (case s24e => exact HT.out.2.1); (case s24f => exact info5u rfl); (case s24g => rfl); (case s24h => exact wds_one _ _)))
  refine HQ.out _ _ _ ?_
  refine ret_row (p := 2) (ty := 90) rfl (w.heap.size + 1) 90 (wds .u64 [n, 0, 0, 0, 0]) _ rfl (HT.out.2.1.row _) Try.underlying90 rfl (info5u rfl) rfl ⟨by rw [HR.out], below_setRow HT.out.2.2.2.1 (Nat.le_succ _) _⟩

set_option maxRecDepth 100000 in
set_option maxHeartbeats 16000000 in
theorem red_z  (w : World) : Calls Try.prog 91 #[.agg (wds .u64 [67108859, 67108863, 67108863, 67108863, 67108863])] w fun e w' => e = .returned (.agg (wds .u64 (limbsN (val [67108859, 67108863, 67108863, 67108863, 67108863] % pr)))) ∧ Below w.heap.size w w' := by
  have HV : L5 67108864 [67108859, 67108863, 67108863, 67108863, 67108863] := ⟨_, _, _, _, _, rfl, by omega, by omega, by omega, by omega, by omega⟩
  have C := fun W => carried_calls [67108859, 67108863, 67108863, 67108863, 67108863] (HV.mono (by decide)) W
  rw [carry_still _ HV] at C
  have HR := Lib.hid (high_red 67108859 (by omega) (by omega))
  have hz : IntKind.u64.wrap 0 = 0 := rfl
  have HI := Lib.hid (info5u (show [67108859, 67108863, 67108863, 67108863, 67108863].length = 5 from rfl))
  have HS := Aside0.mk (Two.start w 90 .u64 [67108859, 67108863, 67108863, 67108863, 67108863])
  clear HV 
  go_enter Try.func91, Try.ntmps91
  refine wp_hide ?_
  intro Qx hQx
  have HQ := Lib.hid hQx
  clear hQx
  go_wp2_with (first | ((with_reducible refine wpList_load_row (o := ⟨some 6, .load 90 (.tmp 1), _, _, _, _⟩) ?l25a 90 (.tmp 1) ?l25b (w.heap.size) ?l25c 90 (wds .u64 [67108859, 67108863, 67108863, 67108863, 67108863]) (0, 0) ?l25z ?l25d ?l25e ?l25f ?l25g ?_); (case l25a => rfl); (case l25b => rfl); (case l25c => rfl); (case l25d => exact HS.out.a); (case l25e => exact Try.underlying90); (case l25f => rfl); (case l25g => exact HI.out)) | (go_at_call 108; with_reducible refine (C _).mono ?_; rintro e1 w1 ⟨rfl, hb1⟩; replace hb1 := Aside0.mk hb1) | ((with_reducible refine wpList_store_row (o := ⟨none, .store 90 (.tmp 1) (.tmp 7), _, _, _, _⟩) ?s26a 90 (.tmp 1) (.tmp 7) ?s26b (w.heap.size) (wds .u64 [67108859, 67108863, 67108863, 67108863, 67108863]) ?s26c ?s26d 90 (wds .u64 [67108859, 67108863, 67108863, 67108863, 67108863]) ?s26e ?s26f ?s26g ?s26h ?_); (case s26a => rfl); (case s26b => rfl); (case s26c => rfl); (case s26d => rfl); (case s26e => exact (HS.out.a.below hb1.out)); (case s26f => exact HI.out); (case s26g => rfl); (case s26h => exact wds_one _ _)))
  refine wp_world (fun W => Red w W w.heap.size w1.heap.size 90 [67108859, 67108863, 67108863, 67108863, 67108863]) ⟨?_, ?_, ?_, ?_, rfl, ?_⟩ ?_
  · exact ((HS.out.a.below hb1.out).row _).alloc _
  · exact ((HS.out.z.below hb1.out).rowOther _ (Nat.succ_ne_self _) _).alloc _
  · exact Blk.new' _ _ _ _ (by simp)
  · exact below_alloc (below_setRow (HS.out.l.trans (hb1.out.mono HS.out.l.size)) (Nat.le_refl _) _) _
  · exact (HS.out.z.below hb1.out).lt
  intro wb HW
  have HT := Aside0.mk HW
  clear HW HS hb1 C HI
  generalize w1.heap.size = h1 at HT ⊢
  refine wp_loop_rounds 6 ?_
  have x0 : wb.cell? ⟨w.heap.size, 4, none⟩ = some (.int .u64 67108863) ∧ wb.frozen? ⟨w.heap.size, 4, none⟩ = false := HT.out.1.at 4 _ rfl
  have y0 : wb.cell? ⟨h1, 4, none⟩ = some (.int .u64 67108863) ∧ wb.frozen? ⟨h1, 4, none⟩ = false := HT.out.2.2.1.at 4 _ rfl
  rw [rounds_succ]; go_wp2
  go_quiet (fail)
  have HD := Aside0.mk (HT.out.drewN nq)
  clear x0 y0 HT
  generalize wb.drewN nq = wq1 at HD ⊢
  have HT := HD
  clear HD
  go_wp2
  have x0 : wq1.cell? ⟨w.heap.size, 3, none⟩ = some (.int .u64 67108863) ∧ wq1.frozen? ⟨w.heap.size, 3, none⟩ = false := HT.out.1.at 3 _ rfl
  have y0 : wq1.cell? ⟨h1, 3, none⟩ = some (.int .u64 67108863) ∧ wq1.frozen? ⟨h1, 3, none⟩ = false := HT.out.2.2.1.at 3 _ rfl
  rw [rounds_succ]; go_wp2
  go_quiet (fail)
  have HD := Aside0.mk (HT.out.drewN nq)
  clear x0 y0 HT
  generalize wq1.drewN nq = wq2 at HD ⊢
  have HT := HD
  clear HD
  go_wp2
  have x0 : wq2.cell? ⟨w.heap.size, 2, none⟩ = some (.int .u64 67108863) ∧ wq2.frozen? ⟨w.heap.size, 2, none⟩ = false := HT.out.1.at 2 _ rfl
  have y0 : wq2.cell? ⟨h1, 2, none⟩ = some (.int .u64 67108863) ∧ wq2.frozen? ⟨h1, 2, none⟩ = false := HT.out.2.2.1.at 2 _ rfl
  rw [rounds_succ]; go_wp2
  go_quiet (fail)
  have HD := Aside0.mk (HT.out.drewN nq)
  clear x0 y0 HT
  generalize wq2.drewN nq = wq3 at HD ⊢
  have HT := HD
  clear HD
  go_wp2
  have x0 : wq3.cell? ⟨w.heap.size, 1, none⟩ = some (.int .u64 67108863) ∧ wq3.frozen? ⟨w.heap.size, 1, none⟩ = false := HT.out.1.at 1 _ rfl
  have y0 : wq3.cell? ⟨h1, 1, none⟩ = some (.int .u64 67108863) ∧ wq3.frozen? ⟨h1, 1, none⟩ = false := HT.out.2.2.1.at 1 _ rfl
  rw [rounds_succ]; go_wp2
  go_quiet (fail)
  have HD := Aside0.mk (HT.out.drewN nq)
  clear x0 y0 HT
  generalize wq3.drewN nq = wq4 at HD ⊢
  have HT := HD
  clear HD
  go_wp2
  have x0 : wq4.cell? ⟨w.heap.size, 0, none⟩ = some (.int .u64 67108859) ∧ wq4.frozen? ⟨w.heap.size, 0, none⟩ = false := HT.out.1.at 0 _ rfl
  have y0 : wq4.cell? ⟨h1, 0, none⟩ = some (.int .u64 67108859) ∧ wq4.frozen? ⟨h1, 0, none⟩ = false := HT.out.2.2.1.at 0 _ rfl
  rw [rounds_succ]; go_wp2
  go_quiet (fail)
  have HD := Aside0.mk (HT.out.drewN nq)
  clear x0 y0 HT
  generalize wq4.drewN nq = wq5 at HD ⊢
  have HT := HD
  clear HD
  go_wp2
  rw [rounds_succ]; go_wp2
  refine wp_loop_rounds 6 ?_
  have x0 : wq5.cell? ⟨w.heap.size, 0, none⟩ = some (.int .u64 67108859) ∧ wq5.frozen? ⟨w.heap.size, 0, none⟩ = false := HT.out.1.at 0 _ rfl
  have y0 : wq5.cell? ⟨h1, 0, none⟩ = some (.int .u64 67108859) ∧ wq5.frozen? ⟨h1, 0, none⟩ = false := HT.out.2.2.1.at 0 _ rfl
  rw [rounds_succ]; go_wp2
  go_still_tail 8, (by kernel_rfl)
  change wpList _ _ _ _ _ wq5.drew
  have HD := Aside0.mk HT.out.drew
  clear x0 y0 HT
  generalize wq5.drew = wd0 at HD ⊢
  have x0 : wd0.cell? ⟨w.heap.size, 0, none⟩ = some (.int .u64 67108859) ∧ wd0.frozen? ⟨w.heap.size, 0, none⟩ = false := HD.out.1.at 0 _ rfl
  go_wp2
  have HT : Aside0 (Red w (wd0.setCell ⟨w.heap.size, 0, none⟩ (.int .u64 0)) w.heap.size h1 90 [0, 67108863, 67108863, 67108863, 67108863]) := ⟨(HD.out.set 0 0).eq (show _ = [0, 67108863, 67108863, 67108863, 67108863] from rfl)⟩
  clear x0 HD
  generalize wd0.setCell ⟨w.heap.size, 0, none⟩ (.int .u64 0) = we0 at HT ⊢
  have x0 : we0.cell? ⟨w.heap.size, 1, none⟩ = some (.int .u64 67108863) ∧ we0.frozen? ⟨w.heap.size, 1, none⟩ = false := HT.out.1.at 1 _ rfl
  have y0 : we0.cell? ⟨h1, 1, none⟩ = some (.int .u64 67108863) ∧ we0.frozen? ⟨h1, 1, none⟩ = false := HT.out.2.2.1.at 1 _ rfl
  rw [rounds_succ]; go_wp2
  go_still_tail 8, (by kernel_rfl)
  change wpList _ _ _ _ _ we0.drew
  have HD := Aside0.mk HT.out.drew
  clear x0 y0 HT
  generalize we0.drew = wd1 at HD ⊢
  have x0 : wd1.cell? ⟨w.heap.size, 1, none⟩ = some (.int .u64 67108863) ∧ wd1.frozen? ⟨w.heap.size, 1, none⟩ = false := HD.out.1.at 1 _ rfl
  go_wp2
  have HT : Aside0 (Red w (wd1.setCell ⟨w.heap.size, 1, none⟩ (.int .u64 0)) w.heap.size h1 90 [0, 0, 67108863, 67108863, 67108863]) := ⟨(HD.out.set 1 0).eq (show _ = [0, 0, 67108863, 67108863, 67108863] from rfl)⟩
  clear x0 HD
  generalize wd1.setCell ⟨w.heap.size, 1, none⟩ (.int .u64 0) = we1 at HT ⊢
  have x0 : we1.cell? ⟨w.heap.size, 2, none⟩ = some (.int .u64 67108863) ∧ we1.frozen? ⟨w.heap.size, 2, none⟩ = false := HT.out.1.at 2 _ rfl
  have y0 : we1.cell? ⟨h1, 2, none⟩ = some (.int .u64 67108863) ∧ we1.frozen? ⟨h1, 2, none⟩ = false := HT.out.2.2.1.at 2 _ rfl
  rw [rounds_succ]; go_wp2
  go_still_tail 8, (by kernel_rfl)
  change wpList _ _ _ _ _ we1.drew
  have HD := Aside0.mk HT.out.drew
  clear x0 y0 HT
  generalize we1.drew = wd2 at HD ⊢
  have x0 : wd2.cell? ⟨w.heap.size, 2, none⟩ = some (.int .u64 67108863) ∧ wd2.frozen? ⟨w.heap.size, 2, none⟩ = false := HD.out.1.at 2 _ rfl
  go_wp2
  have HT : Aside0 (Red w (wd2.setCell ⟨w.heap.size, 2, none⟩ (.int .u64 0)) w.heap.size h1 90 [0, 0, 0, 67108863, 67108863]) := ⟨(HD.out.set 2 0).eq (show _ = [0, 0, 0, 67108863, 67108863] from rfl)⟩
  clear x0 HD
  generalize wd2.setCell ⟨w.heap.size, 2, none⟩ (.int .u64 0) = we2 at HT ⊢
  have x0 : we2.cell? ⟨w.heap.size, 3, none⟩ = some (.int .u64 67108863) ∧ we2.frozen? ⟨w.heap.size, 3, none⟩ = false := HT.out.1.at 3 _ rfl
  have y0 : we2.cell? ⟨h1, 3, none⟩ = some (.int .u64 67108863) ∧ we2.frozen? ⟨h1, 3, none⟩ = false := HT.out.2.2.1.at 3 _ rfl
  rw [rounds_succ]; go_wp2
  go_still_tail 8, (by kernel_rfl)
  change wpList _ _ _ _ _ we2.drew
  have HD := Aside0.mk HT.out.drew
  clear x0 y0 HT
  generalize we2.drew = wd3 at HD ⊢
  have x0 : wd3.cell? ⟨w.heap.size, 3, none⟩ = some (.int .u64 67108863) ∧ wd3.frozen? ⟨w.heap.size, 3, none⟩ = false := HD.out.1.at 3 _ rfl
  go_wp2
  have HT : Aside0 (Red w (wd3.setCell ⟨w.heap.size, 3, none⟩ (.int .u64 0)) w.heap.size h1 90 [0, 0, 0, 0, 67108863]) := ⟨(HD.out.set 3 0).eq (show _ = [0, 0, 0, 0, 67108863] from rfl)⟩
  clear x0 HD
  generalize wd3.setCell ⟨w.heap.size, 3, none⟩ (.int .u64 0) = we3 at HT ⊢
  have x0 : we3.cell? ⟨w.heap.size, 4, none⟩ = some (.int .u64 67108863) ∧ we3.frozen? ⟨w.heap.size, 4, none⟩ = false := HT.out.1.at 4 _ rfl
  have y0 : we3.cell? ⟨h1, 4, none⟩ = some (.int .u64 67108863) ∧ we3.frozen? ⟨h1, 4, none⟩ = false := HT.out.2.2.1.at 4 _ rfl
  rw [rounds_succ]; go_wp2
  go_still_tail 8, (by kernel_rfl)
  change wpList _ _ _ _ _ we3.drew
  have HD := Aside0.mk HT.out.drew
  clear x0 y0 HT
  generalize we3.drew = wd4 at HD ⊢
  have x0 : wd4.cell? ⟨w.heap.size, 4, none⟩ = some (.int .u64 67108863) ∧ wd4.frozen? ⟨w.heap.size, 4, none⟩ = false := HD.out.1.at 4 _ rfl
  go_wp2
  have HT : Aside0 (Red w (wd4.setCell ⟨w.heap.size, 4, none⟩ (.int .u64 0)) w.heap.size h1 90 [0, 0, 0, 0, 0]) := ⟨(HD.out.set 4 0).eq (show _ = [0, 0, 0, 0, 0] from rfl)⟩
  clear x0 HD
  generalize wd4.setCell ⟨w.heap.size, 4, none⟩ (.int .u64 0) = we4 at HT ⊢
  rw [rounds_succ]
  go_wp2_with (first | ((with_reducible refine wpList_load_row (o := ⟨some 40, .load 90 (.tmp 1), _, _, _, _⟩) ?l27a 90 (.tmp 1) ?l27b (w.heap.size) ?l27c 90 (wds .u64 [0, 0, 0, 0, 0]) (0, 0) ?l27z ?l27d ?l27e ?l27f ?l27g ?_); (case l27a => rfl); (case l27b => rfl); (case l27c => rfl); (case l27d => exact HT.out.1); (case l27e => exact Try.underlying90); (case l27f => rfl); (case l27g => exact info5u rfl)) | ((with_reducible refine wpList_store_row (o := ⟨none, .store 90 (.tmp 2) (.tmp 40), _, _, _, _⟩) ?s28a 90 (.tmp 2) (.tmp 40) ?s28b (w.heap.size + 1) (wds .u64 [0, 0, 0, 0, 0]) ?s28c ?s28d 90 (wds .u64 zeros5) ?s28e ?s28f ?s28g ?s28h ?_); (case s28a => rfl); (case s28b => rfl); (case s28c => rfl); (case s28d => rfl); (case s28e => exact HT.out.2.1); (case s28f => exact info5u rfl); (case s28g => rfl); (case s28h => exact wds_one _ _)))
  refine HQ.out _ _ _ ?_
  refine ret_row (p := 2) (ty := 90) rfl (w.heap.size + 1) 90 (wds .u64 [0, 0, 0, 0, 0]) _ rfl (HT.out.2.1.row _) Try.underlying90 rfl (info5u rfl) rfl ⟨by rw [HR.out], below_setRow HT.out.2.2.2.1 (Nat.le_succ _) _⟩

theorem reduced_calls (v : List Nat) (hv : L5 67108864 v) (w : World) : Calls Try.prog 91 #[.agg (wds .u64 v)] w fun e w' => e = .returned (.agg (wds .u64 (limbsN (val v % pr)))) ∧ Below w.heap.size w w' := by
  obtain ⟨a, b, c, d, k, rfl, ha, hb, hc, hd, hk⟩ := hv
  by_cases ek : k < 67108863
  · exact red_k a b c d k ha hb hc hd hk ek w
  obtain rfl : k = 67108863 := by omega
  by_cases ed : d < 67108863
  · exact red_d a b c d ha hb hc hd ed w
  obtain rfl : d = 67108863 := by omega
  by_cases ec : c < 67108863
  · exact red_c a b c ha hb hc ec w
  obtain rfl : c = 67108863 := by omega
  by_cases eb : b < 67108863
  · exact red_b a b ha hb eb w
  obtain rfl : b = 67108863 := by omega
  by_cases ea : a < 67108859
  · exact red_a a ha ea w
  by_cases em : 67108859 < a
  · exact red_m a ha em w
  obtain rfl : a = 67108859 := by omega
  exact red_z w

end Go.Proofs.Ytihpnededldedaa.Leaf
