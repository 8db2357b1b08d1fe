/- Least residues, limbs of bytes, bytes of limbs. Conditions: bounds on the limbs. -/
import Derived.Test.YtihpnededldedaaMPol2
namespace Go.Proofs.Ytihpnededldedaa.Leaf

section
open Go.RowKit Go.Shelf Go.Proofs.YtihpnededldedaaW.PrintWords Go.Proofs.YtihpnededldedaaW.PrintLast Go.Proofs.YtihpnededldedaaW.PrintMore Go.Proofs.Ytihpnededldedaa.Pol

/-- Two to the 130 less five, in limbs. -/
def leastL : List Nat := [67108859, 67108863, 67108863, 67108863, 67108863]
/-- Block g holds v, the next five zeros, block h the number that may be taken away; all below is as it was. -/
def Red (w0 wr : World) (g h : Nat) (t : TypeId) (v : List Nat) : Prop := Blk wr g t (wds .u64 v) ∧ Blk wr (g + 1) t (wds .u64 zeros5) ∧ Blk wr h t (wds .u64 leastL) ∧ Below w0.heap.size w0 wr ∧ w0.heap.size = g ∧ g + 1 < h
theorem Red.drewN {w0 wr : World} {g h : Nat} {t : TypeId} {v : List Nat} (H : Red w0 wr g h t v) (n : Nat) : Red w0 (wr.drewN n) g h t v := ⟨H.1.drewN n, H.2.1.drewN n, H.2.2.1.drewN n, Below_drewN H.2.2.2.1 n, H.2.2.2.2⟩
theorem Red.drew {w0 wr : World} {g h : Nat} {t : TypeId} {v : List Nat} (H : Red w0 wr g h t v) : Red w0 wr.drew g h t v := ⟨H.1.drew, H.2.1.drew, H.2.2.1.drew, H.2.2.2.1.drew, H.2.2.2.2⟩
theorem Red.set {w0 wr : World} {g h : Nat} {t : TypeId} {v : List Nat} (H : Red w0 wr g h t v) (i n : Nat) : Red w0 (wr.setCell ⟨g, i, none⟩ (.int .u64 (n : Int))) g h t (v.set i n) :=
  ⟨H.1.wset i n, H.2.1.other _ (Nat.succ_ne_self _) _, H.2.2.1.other _ (by have := H.2.2.2.2.2; simp; omega) _, H.2.2.2.1.setCell (p := ⟨g, i, none⟩) (Nat.le_of_eq H.2.2.2.2.1) _, H.2.2.2.2⟩
theorem Red.eq {w0 wr : World} {g h : Nat} {t : TypeId} {v v' : List Nat} (H : Red w0 wr g h t v) (e : v = v') : Red w0 wr g h t v' := e ▸ H
theorem sub_u64 (a b n : Nat) (h : a - b = n) (hb : b ≤ a) (ha : a < 67108864) : IntKind.u64.wrap ((a : Int) - (b : Int)) = (n : Int) := by rw [wraps_u64 _ (by omega) (by omega)]; omega
/-- A limb that is not the greatest: each spelling of it. -/
def Less (x : Nat) (m : Int) : Prop := (((x : Int) != m) = true ∧ ((x : Int) == m) = false ∧ ((x : Int) = m) = False ∧ decide ((x : Int) < m) = true ∧ ((x : Int) < m) = True)
theorem less_of (x : Nat) (m : Int) (h : (x : Int) < m) : Less x m := by
  have hne : ¬ (x : Int) = m := by omega
  exact ⟨by simpa using hne, by simpa using hne, eq_false hne, decide_eq_true h, eq_true h⟩
def More (x : Nat) (m : Int) : Prop := (((x : Int) != m) = true ∧ ((x : Int) == m) = false ∧ ((x : Int) = m) = False ∧ decide ((x : Int) < m) = false ∧ ((x : Int) < m) = False)
theorem more_of (x : Nat) (m : Int) (h : m < (x : Int)) : More x m := by
  have hne : ¬ (x : Int) = m := by omega
  exact ⟨by simpa using hne, by simpa using hne, eq_false hne, decide_eq_false (by omega), eq_false (by omega)⟩

set_option maxRecDepth 100000 in
set_option maxHeartbeats 16000000 in
theorem red_k (a b c d k : Nat) (ha : a < 67108864) (hb : b < 67108864) (hc : c < 67108864) (hd : d < 67108864) (hk : k < 67108864) (hl : k < 67108863) (w : World) : Calls Try.prog 91 #[.agg (wds .u64 [a, b, c, d, k])] w fun e w' => e = .returned (.agg (wds .u64 (limbsN (val [a, b, c, d, k] % pr)))) ∧ Below w.heap.size w w' := by
  have HV : L5 67108864 [a, b, c, d, k] := ⟨_, _, _, _, _, rfl, by omega, by omega, by omega, by omega, by omega⟩
  have C := fun W => carried_calls [a, b, c, d, k] (HV.mono (by decide)) W
  rw [carry_still _ HV] at C
  have HR := Lib.hid (low_red [a, b, c, d, k] HV (by rw [val5]; unfold pr; omega))
  obtain ⟨f1, f2, f3, f4, f5⟩ := less_of k 67108863 (by omega)
  have HI := Lib.hid (info5u (show [a, b, c, d, k].length = 5 from rfl))
  have HS := Aside0.mk (Two.start w 90 .u64 [a, b, c, d, k])
  clear HV ha hb hc hd hk hl
  go_enter Try.func91, Try.ntmps91
  refine wp_hide ?_
  intro Qx hQx
  have HQ := Lib.hid hQx
  clear hQx
  go_wp2_with (first | ((with_reducible refine wpList_load_row (o := ⟨some 6, .load 90 (.tmp 1), _, _, _, _⟩) ?l1a 90 (.tmp 1) ?l1b (w.heap.size) ?l1c 90 (wds .u64 [a, b, c, d, k]) (0, 0) ?l1z ?l1d ?l1e ?l1f ?l1g ?_); (case l1a => rfl); (case l1b => rfl); (case l1c => rfl); (case l1d => exact HS.out.a); (case l1e => exact Try.underlying90); (case l1f => rfl); (case l1g => exact HI.out)) | (go_at_call 108; with_reducible refine (C _).mono ?_; rintro e1 w1 ⟨rfl, hb1⟩; replace hb1 := Aside0.mk hb1) | ((with_reducible refine wpList_store_row (o := ⟨none, .store 90 (.tmp 1) (.tmp 7), _, _, _, _⟩) ?s2a 90 (.tmp 1) (.tmp 7) ?s2b (w.heap.size) (wds .u64 [a, b, c, d, k]) ?s2c ?s2d 90 (wds .u64 [a, b, c, d, k]) ?s2e ?s2f ?s2g ?s2h ?_); (case s2a => rfl); (case s2b => rfl); (case s2c => rfl); (case s2d => rfl); (case s2e => exact (HS.out.a.below hb1.out)); (case s2f => exact HI.out); (case s2g => rfl); (case s2h => exact wds_one _ _)))
  refine wp_world (fun W => Red w W w.heap.size w1.heap.size 90 [a, b, c, d, k]) ⟨?_, ?_, ?_, ?_, rfl, ?_⟩ ?_
  · exact ((HS.out.a.below hb1.out).row _).alloc _
  · exact ((HS.out.z.below hb1.out).rowOther _ (Nat.succ_ne_self _) _).alloc _
  · exact Blk.new' _ _ _ _ (by simp)
  · exact below_alloc (below_setRow (HS.out.l.trans (hb1.out.mono HS.out.l.size)) (Nat.le_refl _) _) _
  · exact (HS.out.z.below hb1.out).lt
  intro wb HW
  have HT := Aside0.mk HW
  clear HW HS hb1 C HI
  generalize w1.heap.size = h1 at HT ⊢
  refine wp_loop_rounds 6 ?_
  have x0 : wb.cell? ⟨w.heap.size, 4, none⟩ = some (.int .u64 k) ∧ wb.frozen? ⟨w.heap.size, 4, none⟩ = false := HT.out.1.at 4 _ rfl
  have y0 : wb.cell? ⟨h1, 4, none⟩ = some (.int .u64 67108863) ∧ wb.frozen? ⟨h1, 4, none⟩ = false := HT.out.2.2.1.at 4 _ rfl
  rw [rounds_succ]; go_wp2
  go_quiet (fail)
  have HD := Aside0.mk (HT.out.drewN nq)
  clear x0 y0 HT
  generalize wb.drewN nq = wq1 at HD ⊢
  have HT := HD
  clear HD
  have x0 : wq1.cell? ⟨w.heap.size, 4, none⟩ = some (.int .u64 k) ∧ wq1.frozen? ⟨w.heap.size, 4, none⟩ = false := HT.out.1.at 4 _ rfl
  have y0 : wq1.cell? ⟨h1, 4, none⟩ = some (.int .u64 67108863) ∧ wq1.frozen? ⟨h1, 4, none⟩ = false := HT.out.2.2.1.at 4 _ rfl
  go_wp2
  go_quiet (fail)
  have HD := Aside0.mk (HT.out.drewN nq)
  clear x0 y0 HT
  generalize wq1.drewN nq = wq2 at HD ⊢
  have HT := HD
  clear HD
  go_wp2_with (first | ((with_reducible refine wpList_load_row (o := ⟨some 27, .load 90 (.tmp 1), _, _, _, _⟩) ?l3a 90 (.tmp 1) ?l3b (w.heap.size) ?l3c 90 (wds .u64 [a, b, c, d, k]) (0, 0) ?l3z ?l3d ?l3e ?l3f ?l3g ?_); (case l3a => rfl); (case l3b => rfl); (case l3c => rfl); (case l3d => exact HT.out.1); (case l3e => exact Try.underlying90); (case l3f => rfl); (case l3g => exact info5u rfl)) | ((with_reducible refine wpList_store_row (o := ⟨none, .store 90 (.tmp 2) (.tmp 27), _, _, _, _⟩) ?s4a 90 (.tmp 2) (.tmp 27) ?s4b (w.heap.size + 1) (wds .u64 [a, b, c, d, k]) ?s4c ?s4d 90 (wds .u64 zeros5) ?s4e ?s4f ?s4g ?s4h ?_); (case s4a => rfl); (case s4b => rfl); (case s4c => rfl); (case s4d => rfl); (case s4e => exact HT.out.2.1); (case s4f => exact info5u rfl); (case s4g => rfl); (case s4h => exact wds_one _ _)))
  refine HQ.out _ _ _ ?_
  refine ret_row (p := 2) (ty := 90) rfl (w.heap.size + 1) 90 (wds .u64 [a, b, c, d, k]) _ rfl (HT.out.2.1.row _) Try.underlying90 rfl (info5u rfl) rfl ⟨by rw [HR.out], below_setRow HT.out.2.2.2.1 (Nat.le_succ _) _⟩

set_option maxRecDepth 100000 in
set_option maxHeartbeats 16000000 in
theorem red_d (a b c d : Nat) (ha : a < 67108864) (hb : b < 67108864) (hc : c < 67108864) (hd : d < 67108864) (hl : d < 67108863) (w : World) : Calls Try.prog 91 #[.agg (wds .u64 [a, b, c, d, 67108863])] w fun e w' => e = .returned (.agg (wds .u64 (limbsN (val [a, b, c, d, 67108863] % pr)))) ∧ Below w.heap.size w w' := by
  have HV : L5 67108864 [a, b, c, d, 67108863] := ⟨_, _, _, _, _, rfl, by omega, by omega, by omega, by omega, by omega⟩
  have C := fun W => carried_calls [a, b, c, d, 67108863] (HV.mono (by decide)) W
  rw [carry_still _ HV] at C
  have HR := Lib.hid (low_red [a, b, c, d, 67108863] HV (by rw [val5]; unfold pr; omega))
  obtain ⟨f1, f2, f3, f4, f5⟩ := less_of d 67108863 (by omega)
  have HI := Lib.hid (info5u (show [a, b, c, d, 67108863].length = 5 from rfl))
  have HS := Aside0.mk (Two.start w 90 .u64 [a, b, c, d, 67108863])
  clear HV ha hb hc hd hl
  go_enter Try.func91, Try.ntmps91
  refine wp_hide ?_
  intro Qx hQx
  have HQ := Lib.hid hQx
  clear hQx
  go_wp2_with (first | ((with_reducible refine wpList_load_row (o := ⟨some 6, .load 90 (.tmp 1), _, _, _, _⟩) ?l5a 90 (.tmp 1) ?l5b (w.heap.size) ?l5c 90 (wds .u64 [a, b, c, d, 67108863]) (0, 0) ?l5z ?l5d ?l5e ?l5f ?l5g ?_); (case l5a => rfl); (case l5b => rfl); (case l5c => rfl); (case l5d => exact HS.out.a); (case l5e => exact Try.underlying90); (case l5f => rfl); (case l5g => exact HI.out)) | (go_at_call 108; with_reducible refine (C _).mono ?_; rintro e1 w1 ⟨rfl, hb1⟩; replace hb1 := Aside0.mk hb1) | ((with_reducible refine wpList_store_row (o := ⟨none, .store 90 (.tmp 1) (.tmp 7), _, _, _, _⟩) ?s6a 90 (.tmp 1) (.tmp 7) ?s6b (w.heap.size) (wds .u64 [a, b, c, d, 67108863]) ?s6c ?s6d 90 (wds .u64 [a, b, c, d, 67108863]) ?s6e ?s6f ?s6g ?s6h ?_); (case s6a => rfl); (case s6b => rfl); (case s6c => rfl); (case s6d => rfl); (case s6e => exact (HS.out.a.below hb1.out)); (case s6f => exact HI.out); (case s6g => rfl); (case s6h => exact wds_one _ _)))
  refine wp_world (fun W => Red w W w.heap.size w1.heap.size 90 [a, b, c, d, 67108863]) ⟨?_, ?_, ?_, ?_, rfl, ?_⟩ ?_
  · exact ((HS.out.a.below hb1.out).row _).alloc _
  · exact ((HS.out.z.below hb1.out).rowOther _ (Nat.succ_ne_self _) _).alloc _
  · exact Blk.new' _ _ _ _ (by simp)
  · exact below_alloc (below_setRow (HS.out.l.trans (hb1.out.mono HS.out.l.size)) (Nat.le_refl _) _) _
  · exact (HS.out.z.below hb1.out).lt
  intro wb HW
  have HT := Aside0.mk HW
  clear HW HS hb1 C HI
  generalize w1.heap.size = h1 at HT ⊢
  refine wp_loop_rounds 6 ?_
  have x0 : wb.cell? ⟨w.heap.size, 4, none⟩ = some (.int .u64 67108863) ∧ wb.frozen? ⟨w.heap.size, 4, none⟩ = false := HT.out.1.at 4 _ rfl
  have y0 : wb.cell? ⟨h1, 4, none⟩ = some (.int .u64 67108863) ∧ wb.frozen? ⟨h1, 4, none⟩ = false := HT.out.2.2.1.at 4 _ rfl
  rw [rounds_succ]; go_wp2
  go_quiet (fail)
  have HD := Aside0.mk (HT.out.drewN nq)
  clear x0 y0 HT
  generalize wb.drewN nq = wq1 at HD ⊢
  have HT := HD
  clear HD
  go_wp2
  have x0 : wq1.cell? ⟨w.heap.size, 3, none⟩ = some (.int .u64 d) ∧ wq1.frozen? ⟨w.heap.size, 3, none⟩ = false := HT.out.1.at 3 _ rfl
  have y0 : wq1.cell? ⟨h1, 3, none⟩ = some (.int .u64 67108863) ∧ wq1.frozen? ⟨h1, 3, none⟩ = false := HT.out.2.2.1.at 3 _ rfl
  rw [rounds_succ]; go_wp2
  go_quiet (fail)
  have HD := Aside0.mk (HT.out.drewN nq)
  clear x0 y0 HT
  generalize wq1.drewN nq = wq2 at HD ⊢
  have HT := HD
  clear HD
  have x0 : wq2.cell? ⟨w.heap.size, 3, none⟩ = some (.int .u64 d) ∧ wq2.frozen? ⟨w.heap.size, 3, none⟩ = false := HT.out.1.at 3 _ rfl
  have y0 : wq2.cell? ⟨h1, 3, none⟩ = some (.int .u64 67108863) ∧ wq2.frozen? ⟨h1, 3, none⟩ = false := HT.out.2.2.1.at 3 _ rfl
  go_wp2
  go_quiet (fail)
  have HD := Aside0.mk (HT.out.drewN nq)
  clear x0 y0 HT
  generalize wq2.drewN nq = wq3 at HD ⊢
  have HT := HD
  clear HD
  go_wp2_with (first | ((with_reducible refine wpList_load_row (o := ⟨some 27, .load 90 (.tmp 1), _, _, _, _⟩) ?l7a 90 (.tmp 1) ?l7b (w.heap.size) ?l7c 90 (wds .u64 [a, b, c, d, 67108863]) (0, 0) ?l7z ?l7d ?l7e ?l7f ?l7g ?_); (case l7a => rfl); (case l7b => rfl); (case l7c => rfl); (case l7d => exact HT.out.1); (case l7e => exact Try.underlying90); (case l7f => rfl); (case l7g => exact info5u rfl)) | ((with_reducible refine wpList_store_row (o := ⟨none, .store 90 (.tmp 2) (.tmp 27), _, _, _, _⟩) ?s8a 90 (.tmp 2) (.tmp 27) ?s8b (w.heap.size + 1) (wds .u64 [a, b, c, d, 67108863]) ?s8c ?s8d 90 (wds .u64 zeros5) ?s8e ?s8f ?s8g ?s8h ?_); (case s8a => rfl); (case s8b => rfl); (case s8c => rfl); (case s8d => rfl); (case s8e => exact HT.out.2.1); (case s8f => exact info5u rfl); (case s8g => rfl); (case s8h => exact wds_one _ _)))
  refine HQ.out _ _ _ ?_
  refine ret_row (p := 2) (ty := 90) rfl (w.heap.size + 1) 90 (wds .u64 [a, b, c, d, 67108863]) _ rfl (HT.out.2.1.row _) Try.underlying90 rfl (info5u rfl) rfl ⟨by rw [HR.out], below_setRow HT.out.2.2.2.1 (Nat.le_succ _) _⟩

set_option maxRecDepth 100000 in
set_option maxHeartbeats 16000000 in
theorem red_c (a b c : Nat) (ha : a < 67108864) (hb : b < 67108864) (hc : c < 67108864) (hl : c < 67108863) (w : World) : Calls Try.prog 91 #[.agg (wds .u64 [a, b, c, 67108863, 67108863])] w fun e w' => e = .returned (.agg (wds .u64 (limbsN (val [a, b, c, 67108863, 67108863] % pr)))) ∧ Below w.heap.size w w' := by
  have HV : L5 67108864 [a, b, c, 67108863, 67108863] := ⟨_, _, _, _, _, rfl, by omega, by omega, by omega, by omega, by omega⟩
  have C := fun W => carried_calls [a, b, c, 67108863, 67108863] (HV.mono (by decide)) W
  rw [carry_still _ HV] at C
  have HR := Lib.hid (low_red [a, b, c, 67108863, 67108863] HV (by rw [val5]; unfold pr; omega))
  obtain ⟨f1, f2, f3, f4, f5⟩ := less_of c 67108863 (by omega)
  have HI := Lib.hid (info5u (show [a, b, c, 67108863, 67108863].length = 5 from rfl))
  have HS := Aside0.mk (Two.start w 90 .u64 [a, b, c, 67108863, 67108863])
  clear HV ha hb hc hl
  go_enter Try.func91, Try.ntmps91
  refine wp_hide ?_
  intro Qx hQx
  have HQ := Lib.hid hQx
  clear hQx
  go_wp2_with (first | ((with_reducible refine wpList_load_row (o := ⟨some 6, .load 90 (.tmp 1), _, _, _, _⟩) ?l9a 90 (.tmp 1) ?l9b (w.heap.size) ?l9c 90 (wds .u64 [a, b, c, 67108863, 67108863]) (0, 0) ?l9z ?l9d ?l9e ?l9f ?l9g ?_); (case l9a => rfl); (case l9b => rfl); (case l9c => rfl); (case l9d => exact HS.out.a); (case l9e => exact Try.underlying90); (case l9f => rfl); (case l9g => exact HI.out)) | (go_at_call 108; with_reducible refine (C _).mono ?_; rintro e1 w1 ⟨rfl, hb1⟩; replace hb1 := Aside0.mk hb1) | ((with_reducible refine wpList_store_row (o := ⟨none, .store 90 (.tmp 1) (.tmp 7), _, _, _, _⟩) ?s10a 90 (.tmp 1) (.tmp 7) ?s10b (w.heap.size) (wds .u64 [a, b, c, 67108863, 67108863]) ?s10c ?s10d 90 (wds .u64 [a, b, c, 67108863, 67108863]) ?s10e ?s10f ?s10g ?s10h ?_); (case s10a => rfl); (case s10b => rfl); (case s10c => rfl); (case s10d => rfl); (case s10e => exact (HS.out.a.below hb1.out)); (case s10f => exact HI.out); (case s10g => rfl); (case s10h => exact wds_one _ _)))
  refine wp_world (fun W => Red w W w.heap.size w1.heap.size 90 [a, b, c, 67108863, 67108863]) ⟨?_, ?_, ?_, ?_, rfl, ?_⟩ ?_
  · exact ((HS.out.a.below hb1.out).row _).alloc _
  · exact ((HS.out.z.below hb1.out).rowOther _ (Nat.succ_ne_self _) _).alloc _
  · exact Blk.new' _ _ _ _ (by simp)
  · exact below_alloc (below_setRow (HS.out.l.trans (hb1.out.mono HS.out.l.size)) (Nat.le_refl _) _) _
  · exact (HS.out.z.below hb1.out).lt
  intro wb HW
  have HT := Aside0.mk HW
  clear HW HS hb1 C HI
  generalize w1.heap.size = h1 at HT ⊢
  refine wp_loop_rounds 6 ?_
  have x0 : wb.cell? ⟨w.heap.size, 4, none⟩ = some (.int .u64 67108863) ∧ wb.frozen? ⟨w.heap.size, 4, none⟩ = false := HT.out.1.at 4 _ rfl
  have y0 : wb.cell? ⟨h1, 4, none⟩ = some (.int .u64 67108863) ∧ wb.frozen? ⟨h1, 4, none⟩ = false := HT.out.2.2.1.at 4 _ rfl
  rw [rounds_succ]; go_wp2
  go_quiet (fail)
  have HD := Aside0.mk (HT.out.drewN nq)
  clear x0 y0 HT
  generalize wb.drewN nq = wq1 at HD ⊢
  have HT := HD
  clear HD
  go_wp2
  have x0 : wq1.cell? ⟨w.heap.size, 3, none⟩ = some (.int .u64 67108863) ∧ wq1.frozen? ⟨w.heap.size, 3, none⟩ = false := HT.out.1.at 3 _ rfl
  have y0 : wq1.cell? ⟨h1, 3, none⟩ = some (.int .u64 67108863) ∧ wq1.frozen? ⟨h1, 3, none⟩ = false := HT.out.2.2.1.at 3 _ rfl
  rw [rounds_succ]; go_wp2
  go_quiet (fail)
  have HD := Aside0.mk (HT.out.drewN nq)
  clear x0 y0 HT
  generalize wq1.drewN nq = wq2 at HD ⊢
  have HT := HD
  clear HD
  go_wp2
  have x0 : wq2.cell? ⟨w.heap.size, 2, none⟩ = some (.int .u64 c) ∧ wq2.frozen? ⟨w.heap.size, 2, none⟩ = false := HT.out.1.at 2 _ rfl
  have y0 : wq2.cell? ⟨h1, 2, none⟩ = some (.int .u64 67108863) ∧ wq2.frozen? ⟨h1, 2, none⟩ = false := HT.out.2.2.1.at 2 _ rfl
  rw [rounds_succ]; go_wp2
  go_quiet (fail)
  have HD := Aside0.mk (HT.out.drewN nq)
  clear x0 y0 HT
  generalize wq2.drewN nq = wq3 at HD ⊢
  have HT := HD
  clear HD
  have x0 : wq3.cell? ⟨w.heap.size, 2, none⟩ = some (.int .u64 c) ∧ wq3.frozen? ⟨w.heap.size, 2, none⟩ = false := HT.out.1.at 2 _ rfl
  have y0 : wq3.cell? ⟨h1, 2, none⟩ = some (.int .u64 67108863) ∧ wq3.frozen? ⟨h1, 2, none⟩ = false := HT.out.2.2.1.at 2 _ rfl
  go_wp2
  go_quiet (fail)
  have HD := Aside0.mk (HT.out.drewN nq)
  clear x0 y0 HT
  generalize wq3.drewN nq = wq4 at HD ⊢
  have HT := HD
  clear HD
  go_wp2_with (first | ((with_reducible refine wpList_load_row (o := ⟨some 27, .load 90 (.tmp 1), _, _, _, _⟩) ?l11a 90 (.tmp 1) ?l11b (w.heap.size) ?l11c 90 (wds .u64 [a, b, c, 67108863, 67108863]) (0, 0) ?l11z ?l11d ?l11e ?l11f ?l11g ?_); (case l11a => rfl); (case l11b => rfl); (case l11c => rfl); (case l11d => exact HT.out.1); (case l11e => exact Try.underlying90); (case l11f => rfl); (case l11g => exact info5u rfl)) | ((with_reducible refine wpList_store_row (o := ⟨none, .store 90 (.tmp 2) (.tmp 27), _, _, _, _⟩) ?s12a 90 (.tmp 2) (.tmp 27) ?s12b (w.heap.size + 1) (wds .u64 [a, b, c, 67108863, 67108863]) ?s12c ?s12d 90 (wds .u64 zeros5) ?s12e ?s12f ?s12g ?s12h ?_); (case s12a => rfl); (case s12b => rfl); (case s12c => rfl); (case s12d => rfl); (case s12e => exact HT.out.2.1); (case s12f => exact info5u rfl); (case s12g => rfl); (case s12h => exact wds_one _ _)))
  refine HQ.out _ _ _ ?_
  refine ret_row (p := 2) (ty := 90) rfl (w.heap.size + 1) 90 (wds .u64 [a, b, c, 67108863, 67108863]) _ rfl (HT.out.2.1.row _) Try.underlying90 rfl (info5u rfl) rfl ⟨by rw [HR.out], below_setRow HT.out.2.2.2.1 (Nat.le_succ _) _⟩

set_option maxRecDepth 100000 in
set_option maxHeartbeats 16000000 in
theorem red_b (a b : Nat) (ha : a < 67108864) (hb : b < 67108864) (hl : b < 67108863) (w : World) : Calls Try.prog 91 #[.agg (wds .u64 [a, b, 67108863, 67108863, 67108863])] w fun e w' => e = .returned (.agg (wds .u64 (limbsN (val [a, b, 67108863, 67108863, 67108863] % pr)))) ∧ Below w.heap.size w w' := by
  have HV : L5 67108864 [a, b, 67108863, 67108863, 67108863] := ⟨_, _, _, _, _, rfl, by omega, by omega, by omega, by omega, by omega⟩
  have C := fun W => carried_calls [a, b, 67108863, 67108863, 67108863] (HV.mono (by decide)) W
  rw [carry_still _ HV] at C
  have HR := Lib.hid (low_red [a, b, 67108863, 67108863, 67108863] HV (by rw [val5]; unfold pr; omega))
  obtain ⟨f1, f2, f3, f4, f5⟩ := less_of b 67108863 (by omega)
  have HI := Lib.hid (info5u (show [a, b, 67108863, 67108863, 67108863].length = 5 from rfl))
  have HS := Aside0.mk (Two.start w 90 .u64 [a, b, 67108863, 67108863, 67108863])
  clear HV ha hb hl
  go_enter Try.func91, Try.ntmps91
  refine wp_hide ?_
  intro Qx hQx
  have HQ := Lib.hid hQx
  clear hQx
  go_wp2_with (first | ((with_reducible refine wpList_load_row (o := ⟨some 6, .load 90 (.tmp 1), _, _, _, _⟩) ?l13a 90 (.tmp 1) ?l13b (w.heap.size) ?l13c 90 (wds .u64 [a, b, 67108863, 67108863, 67108863]) (0, 0) ?l13z ?l13d ?l13e ?l13f ?l13g ?_); (case l13a => rfl); (case l13b => rfl); (case l13c => rfl); (case l13d => exact HS.out.a); (case l13e => exact Try.underlying90); (case l13f => rfl); (case l13g => exact HI.out)) | (go_at_call 108; with_reducible refine (C _).mono ?_; rintro e1 w1 ⟨rfl, hb1⟩; replace hb1 := Aside0.mk hb1) | ((with_reducible refine wpList_store_row (o := ⟨none, .store 90 (.tmp 1) (.tmp 7), _, _, _, _⟩) ?s14a 90 (.tmp 1) (.tmp 7) ?s14b (w.heap.size) (wds .u64 [a, b, 67108863, 67108863, 67108863]) ?s14c ?s14d 90 (wds .u64 [a, b, 67108863, 67108863, 67108863]) ?s14e ?s14f ?s14g ?s14h ?_); (case s14a => rfl); (case s14b => rfl); (case s14c => rfl); (case s14d => rfl); (case s14e => exact (HS.out.a.below hb1.out)); (case s14f => exact HI.out); (case s14g => rfl); (case s14h => exact wds_one _ _)))
  refine wp_world (fun W => Red w W w.heap.size w1.heap.size 90 [a, b, 67108863, 67108863, 67108863]) ⟨?_, ?_, ?_, ?_, rfl, ?_⟩ ?_
  · exact ((HS.out.a.below hb1.out).row _).alloc _
  · exact ((HS.out.z.below hb1.out).rowOther _ (Nat.succ_ne_self _) _).alloc _
  · exact Blk.new' _ _ _ _ (by simp)
  · exact below_alloc (below_setRow (HS.out.l.trans (hb1.out.mono HS.out.l.size)) (Nat.le_refl _) _) _
  · exact (HS.out.z.below hb1.out).lt
  intro wb HW
  have HT := Aside0.mk HW
  clear HW HS hb1 C HI
  generalize w1.heap.size = h1 at HT ⊢
  refine wp_loop_rounds 6 ?_
  have x0 : wb.cell? ⟨w.heap.size, 4, none⟩ = some (.int .u64 67108863) ∧ wb.frozen? ⟨w.heap.size, 4, none⟩ = false := HT.out.1.at 4 _ rfl
  have y0 : wb.cell? ⟨h1, 4, none⟩ = some (.int .u64 67108863) ∧ wb.frozen? ⟨h1, 4, none⟩ = false := HT.out.2.2.1.at 4 _ rfl
  rw [rounds_succ]; go_wp2
  go_quiet (fail)
  have HD := Aside0.mk (HT.out.drewN nq)
  clear x0 y0 HT
  generalize wb.drewN nq = wq1 at HD ⊢
  have HT := HD
  clear HD
  go_wp2
  have x0 : wq1.cell? ⟨w.heap.size, 3, none⟩ = some (.int .u64 67108863) ∧ wq1.frozen? ⟨w.heap.size, 3, none⟩ = false := HT.out.1.at 3 _ rfl
  have y0 : wq1.cell? ⟨h1, 3, none⟩ = some (.int .u64 67108863) ∧ wq1.frozen? ⟨h1, 3, none⟩ = false := HT.out.2.2.1.at 3 _ rfl
  rw [rounds_succ]; go_wp2
  go_quiet (fail)
  have HD := Aside0.mk (HT.out.drewN nq)
  clear x0 y0 HT
  generalize wq1.drewN nq = wq2 at HD ⊢
  have HT := HD
  clear HD
  go_wp2
  have x0 : wq2.cell? ⟨w.heap.size, 2, none⟩ = some (.int .u64 67108863) ∧ wq2.frozen? ⟨w.heap.size, 2, none⟩ = false := HT.out.1.at 2 _ rfl
  have y0 : wq2.cell? ⟨h1, 2, none⟩ = some (.int .u64 67108863) ∧ wq2.frozen? ⟨h1, 2, none⟩ = false := HT.out.2.2.1.at 2 _ rfl
  rw [rounds_succ]; go_wp2
  go_quiet (fail)
  have HD := Aside0.mk (HT.out.drewN nq)
  clear x0 y0 HT
  generalize wq2.drewN nq = wq3 at HD ⊢
  have HT := HD
  clear HD
  go_wp2
  have x0 : wq3.cell? ⟨w.heap.size, 1, none⟩ = some (.int .u64 b) ∧ wq3.frozen? ⟨w.heap.size, 1, none⟩ = false := HT.out.1.at 1 _ rfl
  have y0 : wq3.cell? ⟨h1, 1, none⟩ = some (.int .u64 67108863) ∧ wq3.frozen? ⟨h1, 1, none⟩ = false := HT.out.2.2.1.at 1 _ rfl
  rw [rounds_succ]; go_wp2
  go_quiet (fail)
  have HD := Aside0.mk (HT.out.drewN nq)
  clear x0 y0 HT
  generalize wq3.drewN nq = wq4 at HD ⊢
  have HT := HD
  clear HD
  have x0 : wq4.cell? ⟨w.heap.size, 1, none⟩ = some (.int .u64 b) ∧ wq4.frozen? ⟨w.heap.size, 1, none⟩ = false := HT.out.1.at 1 _ rfl
  have y0 : wq4.cell? ⟨h1, 1, none⟩ = some (.int .u64 67108863) ∧ wq4.frozen? ⟨h1, 1, none⟩ = false := HT.out.2.2.1.at 1 _ rfl
  go_wp2
  go_quiet (fail)
  have HD := Aside0.mk (HT.out.drewN nq)
  clear x0 y0 HT
  generalize wq4.drewN nq = wq5 at HD ⊢
  have HT := HD
  clear HD
  go_wp2_with (first | ((with_reducible refine wpList_load_row (o := ⟨some 27, .load 90 (.tmp 1), _, _, _, _⟩) ?l15a 90 (.tmp 1) ?l15b (w.heap.size) ?l15c 90 (wds .u64 [a, b, 67108863, 67108863, 67108863]) (0, 0) ?l15z ?l15d ?l15e ?l15f ?l15g ?_); (case l15a => rfl); (case l15b => rfl); (case l15c => rfl); (case l15d => exact HT.out.1); (case l15e => exact Try.underlying90); (case l15f => rfl); (case l15g => exact info5u rfl)) | ((with_reducible refine wpList_store_row (o := ⟨none, .store 90 (.tmp 2) (.tmp 27), _, _, _, _⟩) ?s16a 90 (.tmp 2) (.tmp 27) ?s16b (w.heap.size + 1) (wds .u64 [a, b, 67108863, 67108863, 67108863]) ?s16c ?s16d 90 (wds .u64 zeros5) ?s16e ?s16f ?s16g ?s16h ?_); (case s16a => rfl); (case s16b => rfl); (case s16c => rfl); (case s16d => rfl); (case s16e => exact HT.out.2.1); (case s16f => exact info5u rfl); (case s16g => rfl); (case s16h => exact wds_one _ _)))
  refine HQ.out _ _ _ ?_
  refine ret_row (p := 2) (ty := 90) rfl (w.heap.size + 1) 90 (wds .u64 [a, b, 67108863, 67108863, 67108863]) _ rfl (HT.out.2.1.row _) Try.underlying90 rfl (info5u rfl) rfl ⟨by rw [HR.out], below_setRow HT.out.2.2.2.1 (Nat.le_succ _) _⟩

set_option maxRecDepth 100000 in
set_option maxHeartbeats 16000000 in
theorem red_a (a : Nat) (ha : a < 67108864) (hl : a < 67108859) (w : World) : Calls Try.prog 91 #[.agg (wds .u64 [a, 67108863, 67108863, 67108863, 67108863])] w fun e w' => e = .returned (.agg (wds .u64 (limbsN (val [a, 67108863, 67108863, 67108863, 67108863] % pr)))) ∧ Below w.heap.size w w' := by
  have HV : L5 67108864 [a, 67108863, 67108863, 67108863, 67108863] := ⟨_, _, _, _, _, rfl, by omega, by omega, by omega, by omega, by omega⟩
  have C := fun W => carried_calls [a, 67108863, 67108863, 67108863, 67108863] (HV.mono (by decide)) W
  rw [carry_still _ HV] at C
  have HR := Lib.hid (low_red [a, 67108863, 67108863, 67108863, 67108863] HV (by rw [val5]; unfold pr; omega))
  obtain ⟨f1, f2, f3, f4, f5⟩ := less_of a 67108859 (by omega)
  have HI := Lib.hid (info5u (show [a, 67108863, 67108863, 67108863, 67108863].length = 5 from rfl))
  have HS := Aside0.mk (Two.start w 90 .u64 [a, 67108863, 67108863, 67108863, 67108863])
  clear HV ha hl
  go_enter Try.func91, Try.ntmps91
  refine wp_hide ?_
  intro Qx hQx
  have HQ := Lib.hid hQx
  clear hQx
  go_wp2_with (first | ((with_reducible refine wpList_load_row (o := ⟨some 6, .load 90 (.tmp 1), _, _, _, _⟩) ?l17a 90 (.tmp 1) ?l17b (w.heap.size) ?l17c 90 (wds .u64 [a, 67108863, 67108863, 67108863, 67108863]) (0, 0) ?l17z ?l17d ?l17e ?l17f ?l17g ?_); (case l17a => rfl); (case l17b => rfl); (case l17c => rfl); (case l17d => exact HS.out.a); (case l17e => exact Try.underlying90); (case l17f => rfl); (case l17g => exact HI.out)) | (go_at_call 108; with_reducible refine (C _).mono ?_; rintro e1 w1 ⟨rfl, hb1⟩; replace hb1 := Aside0.mk hb1) | ((with_reducible refine wpList_store_row (o := ⟨none, .store 90 (.tmp 1) (.tmp 7), _, _, _, _⟩) ?s18a 90 (.tmp 1) (.tmp 7) ?s18b (w.heap.size) (wds .u64 [a, 67108863, 67108863, 67108863, 67108863]) ?s18c ?s18d 90 (wds .u64 [a, 67108863, 67108863, 67108863, 67108863]) ?s18e ?s18f ?s18g ?s18h ?_); (case s18a => rfl); (case s18b => rfl); (case s18c => rfl); (case s18d => rfl); (case s18e => exact (HS.out.a.below hb1.out)); (case s18f => exact HI.out); (case s18g => rfl); (case s18h => exact wds_one _ _)))
  refine wp_world (fun W => Red w W w.heap.size w1.heap.size 90 [a, 67108863, 67108863, 67108863, 67108863]) ⟨?_, ?_, ?_, ?_, rfl, ?_⟩ ?_
  · exact ((HS.out.a.below hb1.out).row _).alloc _
  · exact ((HS.out.z.below hb1.out).rowOther _ (Nat.succ_ne_self _) _).alloc _
  · exact Blk.new' _ _ _ _ (by simp)
  · exact below_alloc (below_setRow (HS.out.l.trans (hb1.out.mono HS.out.l.size)) (Nat.le_refl _) _) _
  · exact (HS.out.z.below hb1.out).lt
  intro wb HW
  have HT := Aside0.mk HW
  clear HW HS hb1 C HI
  generalize w1.heap.size = h1 at HT ⊢
  refine wp_loop_rounds 6 ?_
  have x0 : wb.cell? ⟨w.heap.size, 4, none⟩ = some (.int .u64 67108863) ∧ wb.frozen? ⟨w.heap.size, 4, none⟩ = false := HT.out.1.at 4 _ rfl
  have y0 : wb.cell? ⟨h1, 4, none⟩ = some (.int .u64 67108863) ∧ wb.frozen? ⟨h1, 4, none⟩ = false := HT.out.2.2.1.at 4 _ rfl
  rw [rounds_succ]; go_wp2
  go_quiet (fail)
  have HD := Aside0.mk (HT.out.drewN nq)
  clear x0 y0 HT
  generalize wb.drewN nq = wq1 at HD ⊢
  have HT := HD
  clear HD
  go_wp2
  have x0 : wq1.cell? ⟨w.heap.size, 3, none⟩ = some (.int .u64 67108863) ∧ wq1.frozen? ⟨w.heap.size, 3, none⟩ = false := HT.out.1.at 3 _ rfl
  have y0 : wq1.cell? ⟨h1, 3, none⟩ = some (.int .u64 67108863) ∧ wq1.frozen? ⟨h1, 3, none⟩ = false := HT.out.2.2.1.at 3 _ rfl
  rw [rounds_succ]; go_wp2
  go_quiet (fail)
  have HD := Aside0.mk (HT.out.drewN nq)
  clear x0 y0 HT
  generalize wq1.drewN nq = wq2 at HD ⊢
  have HT := HD
  clear HD
  go_wp2
  have x0 : wq2.cell? ⟨w.heap.size, 2, none⟩ = some (.int .u64 67108863) ∧ wq2.frozen? ⟨w.heap.size, 2, none⟩ = false := HT.out.1.at 2 _ rfl
  have y0 : wq2.cell? ⟨h1, 2, none⟩ = some (.int .u64 67108863) ∧ wq2.frozen? ⟨h1, 2, none⟩ = false := HT.out.2.2.1.at 2 _ rfl
  rw [rounds_succ]; go_wp2
  go_quiet (fail)
  have HD := Aside0.mk (HT.out.drewN nq)
  clear x0 y0 HT
  generalize wq2.drewN nq = wq3 at HD ⊢
  have HT := HD
  clear HD
  go_wp2
  have x0 : wq3.cell? ⟨w.heap.size, 1, none⟩ = some (.int .u64 67108863) ∧ wq3.frozen? ⟨w.heap.size, 1, none⟩ = false := HT.out.1.at 1 _ rfl
  have y0 : wq3.cell? ⟨h1, 1, none⟩ = some (.int .u64 67108863) ∧ wq3.frozen? ⟨h1, 1, none⟩ = false := HT.out.2.2.1.at 1 _ rfl
  rw [rounds_succ]; go_wp2
  go_quiet (fail)
  have HD := Aside0.mk (HT.out.drewN nq)
  clear x0 y0 HT
  generalize wq3.drewN nq = wq4 at HD ⊢
  have HT := HD
  clear HD
  go_wp2
  have x0 : wq4.cell? ⟨w.heap.size, 0, none⟩ = some (.int .u64 a) ∧ wq4.frozen? ⟨w.heap.size, 0, none⟩ = false := HT.out.1.at 0 _ rfl
  have y0 : wq4.cell? ⟨h1, 0, none⟩ = some (.int .u64 67108859) ∧ wq4.frozen? ⟨h1, 0, none⟩ = false := HT.out.2.2.1.at 0 _ rfl
  rw [rounds_succ]; go_wp2
  go_quiet (fail)
  have HD := Aside0.mk (HT.out.drewN nq)
  clear x0 y0 HT
  generalize wq4.drewN nq = wq5 at HD ⊢
  have HT := HD
  clear HD
  have x0 : wq5.cell? ⟨w.heap.size, 0, none⟩ = some (.int .u64 a) ∧ wq5.frozen? ⟨w.heap.size, 0, none⟩ = false := HT.out.1.at 0 _ rfl
  have y0 : wq5.cell? ⟨h1, 0, none⟩ = some (.int .u64 67108859) ∧ wq5.frozen? ⟨h1, 0, none⟩ = false := HT.out.2.2.1.at 0 _ rfl
  go_wp2
  go_quiet (fail)
  have HD := Aside0.mk (HT.out.drewN nq)
  clear x0 y0 HT
  generalize wq5.drewN nq = wq6 at HD ⊢
  have HT := HD
  clear HD
  go_wp2_with (first | ((with_reducible refine wpList_load_row (o := ⟨some 27, .load 90 (.tmp 1), _, _, _, _⟩) ?l19a 90 (.tmp 1) ?l19b (w.heap.size) ?l19c 90 (wds .u64 [a, 67108863, 67108863, 67108863, 67108863]) (0, 0) ?l19z ?l19d ?l19e ?l19f ?l19g ?_); (case l19a => rfl); (case l19b => rfl); (case l19c => rfl); (case l19d => exact HT.out.1); (case l19e => exact Try.underlying90); (case l19f => rfl); (case l19g => exact info5u rfl)) | ((with_reducible refine wpList_store_row (o := ⟨none, .store 90 (.tmp 2) (.tmp 27), _, _, _, _⟩) ?s20a 90 (.tmp 2) (.tmp 27) ?s20b (w.heap.size + 1) (wds .u64 [a, 67108863, 67108863, 67108863, 67108863]) ?s20c ?s20d 90 (wds .u64 zeros5) ?s20e ?s20f ?s20g ?s20h ?_); (case s20a => rfl); (case s20b => rfl); (case s20c => rfl); (case s20d => rfl); (case s20e => exact HT.out.2.1); (case s20f => exact info5u rfl); (case s20g => rfl); (case s20h => exact wds_one _ _)))
  refine HQ.out _ _ _ ?_
  refine ret_row (p := 2) (ty := 90) rfl (w.heap.size + 1) 90 (wds .u64 [a, 67108863, 67108863, 67108863, 67108863]) _ rfl (HT.out.2.1.row _) Try.underlying90 rfl (info5u rfl) rfl ⟨by rw [HR.out], below_setRow HT.out.2.2.2.1 (Nat.le_succ _) _⟩

set_option maxRecDepth 100000 in
set_option maxHeartbeats 16000000 in
theorem red_m (a : Nat) (ha : a < 67108864) (hm : 67108859 < a) (w : World) : Calls Try.prog 91 #[.agg (wds .u64 [a, 67108863, 67108863, 67108863, 67108863])] w fun e w' => e = .returned (.agg (wds .u64 (limbsN (val [a, 67108863, 67108863, 67108863, 67108863] % pr)))) ∧ Below w.heap.size w w' := by
  have HV : L5 67108864 [a, 67108863, 67108863, 67108863, 67108863] := ⟨_, _, _, _, _, rfl, by omega, by omega, by omega, by omega, by omega⟩
  have C := fun W => carried_calls [a, 67108863, 67108863, 67108863, 67108863] (HV.mono (by decide)) W
  rw [carry_still _ HV] at C
  have HR := Lib.hid (high_red a (by omega) (by omega))
  obtain ⟨f1, f2, f3, f4, f5⟩ := more_of a 67108859 (by omega)
  obtain ⟨n, hn⟩ : ∃ n, a - 67108859 = n := ⟨_, rfl⟩
  have hs := sub_u64 a 67108859 n hn (by omega) (by omega)
  have hs' : IntKind.u64.wrap ((a : Int) - 67108859) = (n : Int) := hs
  rw [hn] at HR
  clear hs hn
  have hz : IntKind.u64.wrap 0 = 0 := rfl
  have HI := Lib.hid (info5u (show [a, 67108863, 67108863, 67108863, 67108863].length = 5 from rfl))
  have HS := Aside0.mk (Two.start w 90 .u64 [a, 67108863, 67108863, 67108863, 67108863])
  clear HV ha hm
  go_enter Try.func91, Try.ntmps91
  refine wp_hide ?_
  intro Qx hQx
  have HQ := Lib.hid hQx
  clear hQx
  go_wp2_with (first | ((with_reducible refine wpList_load_row (o := ⟨some 6, .load 90 (.tmp 1), _, _, _, _⟩) ?l21a 90 (.tmp 1) ?l21b (w.heap.size) ?l21c 90 (wds .u64 [a, 67108863, 67108863, 67108863, 67108863]) (0, 0) ?l21z ?l21d ?l21e ?l21f ?l21g ?_); (case l21a => rfl); (case l21b => rfl); (case l21c => rfl); (case l21d => exact HS.out.a); (case l21e => exact Try.underlying90); (case l21f => rfl); (case l21g => exact HI.out)) | (go_at_call 108; with_reducible refine (C _).mono ?_; rintro e1 w1 ⟨rfl, hb1⟩; replace hb1 := Aside0.mk hb1) | ((with_reducible refine wpList_store_row (o := ⟨none, .store 90 (.tmp 1) (.tmp 7), _, _, _, _⟩) ?s22a 90 (.tmp 1) (.tmp 7) ?s22b (w.heap.size) (wds .u64 [a, 67108863, 67108863, 67108863, 67108863]) ?s22c ?s22d 90 (wds .u64 [a, 67108863, 67108863, 67108863, 67108863]) ?s22e ?s22f ?s22g ?s22h ?_); (case s22a => rfl); (case s22b => rfl); (case s22c => rfl); (case s22d => rfl); (case s22e => exact (HS.out.a.below hb1.out)); (case s22f => exact HI.out); (case s22g => rfl); (case s22h => exact wds_one _ _)))
  refine wp_world (fun W => Red w W w.heap.size w1.heap.size 90 [a, 67108863, 67108863, 67108863, 67108863]) ⟨?_, ?_, ?_, ?_, rfl, ?_⟩ ?_
  · exact ((HS.out.a.below hb1.out).row _).alloc _
  · exact ((HS.out.z.below hb1.out).rowOther _ (Nat.succ_ne_self _) _).alloc _
  · exact Blk.new' _ _ _ _ (by simp)
  · exact below_alloc (below_setRow (HS.out.l.trans (hb1.out.mono HS.out.l.size)) (Nat.le_refl _) _) _
  · exact (HS.out.z.below hb1.out).lt
  intro wb HW
  have HT := Aside0.mk HW
  clear HW HS hb1 C HI
  generalize w1.heap.size = h1 at HT ⊢
  refine wp_loop_rounds 6 ?_
  have x0 : wb.cell? ⟨w.heap.size, 4, none⟩ = some (.int .u64 67108863) ∧ wb.frozen? ⟨w.heap.size, 4, none⟩ = false := HT.out.1.at 4 _ rfl
  have y0 : wb.cell? ⟨h1, 4, none⟩ = some (.int .u64 67108863) ∧ wb.frozen? ⟨h1, 4, none⟩ = false := HT.out.2.2.1.at 4 _ rfl
  rw [rounds_succ]; go_wp2
  go_quiet (fail)
  have HD := Aside0.mk (HT.out.drewN nq)
  clear x0 y0 HT
  generalize wb.drewN nq = wq1 at HD ⊢
  have HT := HD
  clear HD
  go_wp2
  have x0 : wq1.cell? ⟨w.heap.size, 3, none⟩ = some (.int .u64 67108863) ∧ wq1.frozen? ⟨w.heap.size, 3, none⟩ = false := HT.out.1.at 3 _ rfl
  have y0 : wq1.cell? ⟨h1, 3, none⟩ = some (.int .u64 67108863) ∧ wq1.frozen? ⟨h1, 3, none⟩ = false := HT.out.2.2.1.at 3 _ rfl
  rw [rounds_succ]; go_wp2
  go_quiet (fail)
  have HD := Aside0.mk (HT.out.drewN nq)
  clear x0 y0 HT
  generalize wq1.drewN nq = wq2 at HD ⊢
  have HT := HD
  clear HD
  go_wp2
  have x0 : wq2.cell? ⟨w.heap.size, 2, none⟩ = some (.int .u64 67108863) ∧ wq2.frozen? ⟨w.heap.size, 2, none⟩ = false := HT.out.1.at 2 _ rfl
  have y0 : wq2.cell? ⟨h1, 2, none⟩ = some (.int .u64 67108863) ∧ wq2.frozen? ⟨h1, 2, none⟩ = false := HT.out.2.2.1.at 2 _ rfl
  rw [rounds_succ]; go_wp2
  go_quiet (fail)
  have HD := Aside0.mk (HT.out.drewN nq)
  clear x0 y0 HT
  generalize wq2.drewN nq = wq3 at HD ⊢
  have HT := HD
  clear HD
  go_wp2
  have x0 : wq3.cell? ⟨w.heap.size, 1, none⟩ = some (.int .u64 67108863) ∧ wq3.frozen? ⟨w.heap.size, 1, none⟩ = false := HT.out.1.at 1 _ rfl
  have y0 : wq3.cell? ⟨h1, 1, none⟩ = some (.int .u64 67108863) ∧ wq3.frozen? ⟨h1, 1, none⟩ = false := HT.out.2.2.1.at 1 _ rfl
  rw [rounds_succ]; go_wp2
  go_quiet (fail)
  have HD := Aside0.mk (HT.out.drewN nq)
  clear x0 y0 HT
  generalize wq3.drewN nq = wq4 at HD ⊢
  have HT := HD
  clear HD
  go_wp2
  have x0 : wq4.cell? ⟨w.heap.size, 0, none⟩ = some (.int .u64 a) ∧ wq4.frozen? ⟨w.heap.size, 0, none⟩ = false := HT.out.1.at 0 _ rfl
  have y0 : wq4.cell? ⟨h1, 0, none⟩ = some (.int .u64 67108859) ∧ wq4.frozen? ⟨h1, 0, none⟩ = false := HT.out.2.2.1.at 0 _ rfl
  rw [rounds_succ]; go_wp2
  go_quiet (fail)
  have HD := Aside0.mk (HT.out.drewN nq)
  clear x0 y0 HT
  generalize wq4.drewN nq = wq5 at HD ⊢
  have HT := HD
  clear HD
  have x0 : wq5.cell? ⟨w.heap.size, 0, none⟩ = some (.int .u64 a) ∧ wq5.frozen? ⟨w.heap.size, 0, none⟩ = false := HT.out.1.at 0 _ rfl
  have y0 : wq5.cell? ⟨h1, 0, none⟩ = some (.int .u64 67108859) ∧ wq5.frozen? ⟨h1, 0, none⟩ = false := HT.out.2.2.1.at 0 _ rfl
  go_wp2
  go_quiet (fail)
  have HD := Aside0.mk (HT.out.drewN nq)
  clear x0 y0 HT
  generalize wq5.drewN nq = wq6 at HD ⊢
  have HT := HD
  clear HD
  go_wp2
  refine wp_loop_rounds 6 ?_
  have x0 : wq6.cell? ⟨w.heap.size, 0, none⟩ = some (.int .u64 a) ∧ wq6.frozen? ⟨w.heap.size, 0, none⟩ = false := HT.out.1.at 0 _ rfl
  have y0 : wq6.cell? ⟨h1, 0, none⟩ = some (.int .u64 67108859) ∧ wq6.frozen? ⟨h1, 0, none⟩ = false := HT.out.2.2.1.at 0 _ rfl
  rw [rounds_succ]; go_wp2
  go_still_tail 8, (by kernel_rfl)
  change wpList _ _ _ _ _ wq6.drew
  have HD := Aside0.mk HT.out.drew
  clear x0 y0 HT
  generalize wq6.drew = wd0 at HD ⊢
  have x0 : wd0.cell? ⟨w.heap.size, 0, none⟩ = some (.int .u64 a) ∧ wd0.frozen? ⟨w.heap.size, 0, none⟩ = false := HD.out.1.at 0 _ rfl
  go_wp2
  have HT : Aside0 (Red w (wd0.setCell ⟨w.heap.size, 0, none⟩ (.int .u64 n)) w.heap.size h1 90 [n, 67108863, 67108863, 67108863, 67108863]) := ⟨(HD.out.set 0 n).eq (show _ = [n, 67108863, 67108863, 67108863, 67108863] from rfl)⟩
  clear x0 HD
  generalize wd0.setCell ⟨w.heap.size, 0, none⟩ (.int .u64 n) = we0 at HT ⊢
  have x0 : we0.cell? ⟨w.heap.size, 1, none⟩ = some (.int .u64 67108863) ∧ we0.frozen? ⟨w.heap.size, 1, none⟩ = false := HT.out.1.at 1 _ rfl
  have y0 : we0.cell? ⟨h1, 1, none⟩ = some (.int .u64 67108863) ∧ we0.frozen? ⟨h1, 1, none⟩ = false := HT.out.2.2.1.at 1 _ rfl
  rw [rounds_succ]; go_wp2
  go_still_tail 8, (by kernel_rfl)
  change wpList _ _ _ _ _ we0.drew
  have HD := Aside0.mk HT.out.drew
  clear x0 y0 HT
  generalize we0.drew = wd1 at HD ⊢
  have x0 : wd1.cell? ⟨w.heap.size, 1, none⟩ = some (.int .u64 67108863) ∧ wd1.frozen? ⟨w.heap.size, 1, none⟩ = false := HD.out.1.at 1 _ rfl
  go_wp2
  have HT : Aside0 (Red w (wd1.setCell ⟨w.heap.size, 1, none⟩ (.int .u64 0)) w.heap.size h1 90 [n, 0, 67108863, 67108863, 67108863]) := ⟨(HD.out.set 1 0).eq (show _ = [n, 0, 67108863, 67108863, 67108863] from rfl)⟩
  clear x0 HD
  generalize wd1.setCell ⟨w.heap.size, 1, none⟩ (.int .u64 0) = we1 at HT ⊢
  have x0 : we1.cell? ⟨w.heap.size, 2, none⟩ = some (.int .u64 67108863) ∧ we1.frozen? ⟨w.heap.size, 2, none⟩ = false := HT.out.1.at 2 _ rfl
  have y0 : we1.cell? ⟨h1, 2, none⟩ = some (.int .u64 67108863) ∧ we1.frozen? ⟨h1, 2, none⟩ = false := HT.out.2.2.1.at 2 _ rfl
  rw [rounds_succ]; go_wp2
  go_still_tail 8, (by kernel_rfl)
  change wpList _ _ _ _ _ we1.drew
  have HD := Aside0.mk HT.out.drew
  clear x0 y0 HT
  generalize we1.drew = wd2 at HD ⊢
  have x0 : wd2.cell? ⟨w.heap.size, 2, none⟩ = some (.int .u64 67108863) ∧ wd2.frozen? ⟨w.heap.size, 2, none⟩ = false := HD.out.1.at 2 _ rfl
  go_wp2
  have HT : Aside0 (Red w (wd2.setCell ⟨w.heap.size, 2, none⟩ (.int .u64 0)) w.heap.size h1 90 [n, 0, 0, 67108863, 67108863]) := ⟨(HD.out.set 2 0).eq (show _ = [n, 0, 0, 67108863, 67108863] from rfl)⟩
  clear x0 HD
  generalize wd2.setCell ⟨w.heap.size, 2, none⟩ (.int .u64 0) = we2 at HT ⊢
  have x0 : we2.cell? ⟨w.heap.size, 3, none⟩ = some (.int .u64 67108863) ∧ we2.frozen? ⟨w.heap.size, 3, none⟩ = false := HT.out.1.at 3 _ rfl
  have y0 : we2.cell? ⟨h1, 3, none⟩ = some (.int .u64 67108863) ∧ we2.frozen? ⟨h1, 3, none⟩ = false := HT.out.2.2.1.at 3 _ rfl
  rw [rounds_succ]; go_wp2
  go_still_tail 8, (by kernel_rfl)
  change wpList _ _ _ _ _ we2.drew
  have HD := Aside0.mk HT.out.drew
  clear x0 y0 HT
  generalize we2.drew = wd3 at HD ⊢
  have x0 : wd3.cell? ⟨w.heap.size, 3, none⟩ = some (.int .u64 67108863) ∧ wd3.frozen? ⟨w.heap.size, 3, none⟩ = false := HD.out.1.at 3 _ rfl
  go_wp2
  have HT : Aside0 (Red w (wd3.setCell ⟨w.heap.size, 3, none⟩ (.int .u64 0)) w.heap.size h1 90 [n, 0, 0, 0, 67108863]) := ⟨(HD.out.set 3 0).eq (show _ = [n, 0, 0, 0, 67108863] from rfl)⟩
  clear x0 HD
  generalize wd3.setCell ⟨w.heap.size, 3, none⟩ (.int .u64 0) = we3 at HT ⊢
  have x0 : we3.cell? ⟨w.heap.size, 4, none⟩ = some (.int .u64 67108863) ∧ we3.frozen? ⟨w.heap.size, 4, none⟩ = false := HT.out.1.at 4 _ rfl
  have y0 : we3.cell? ⟨h1, 4, none⟩ = some (.int .u64 67108863) ∧ we3.frozen? ⟨h1, 4, none⟩ = false := HT.out.2.2.1.at 4 _ rfl
  rw [rounds_succ]; go_wp2
  go_still_tail 8, (by kernel_rfl)
  change wpList _ _ _ _ _ we3.drew
  have HD := Aside0.mk HT.out.drew
  clear x0 y0 HT
  generalize we3.drew = wd4 at HD ⊢
  have x0 : wd4.cell? ⟨w.heap.size, 4, none⟩ = some (.int .u64 67108863) ∧ wd4.frozen? ⟨w.heap.size, 4, none⟩ = false := HD.out.1.at 4 _ rfl
  go_wp2
  have HT : Aside0 (Red w (wd4.setCell ⟨w.heap.size, 4, none⟩ (.int .u64 0)) w.heap.size h1 90 [n, 0, 0, 0, 0]) := ⟨(HD.out.set 4 0).eq (show _ = [n, 0, 0, 0, 0] from rfl)⟩
  clear x0 HD
  generalize wd4.setCell ⟨w.heap.size, 4, none⟩ (.int .u64 0) = we4 at HT ⊢
  rw [rounds_succ]
  go_wp2_with (first | ((with_reducible refine wpList_load_row (o := ⟨some 40, .load 90 (.tmp 1), _, _, _, _⟩) ?l23a 90 (.tmp 1) ?l23b (w.heap.size) ?l23c 90 (wds .u64 [n, 0, 0, 0, 0]) (0, 0) ?l23z ?l23d ?l23e ?l23f ?l23g ?_); (case l23a => rfl); (case l23b => rfl); (case l23c => rfl); (case l23d => exact HT.out.1); (case l23e => exact Try.underlying90); (case l23f => rfl); (case l23g => exact info5u rfl)) | ((with_reducible refine wpList_store_row (o := ⟨none, .store 90 (.tmp 2) (.tmp 40), _, _, _, _⟩) ?s24a 90 (.tmp 2) (.tmp 40) ?s24b (w.heap.size + 1) (wds .u64 [n, 0, 0, 0, 0]) ?s24c ?s24d 90 (wds .u64 zeros5) ?s24e ?s24f ?s24g ?s24h ?_); (case s24a => rfl); (case s24b => rfl); (case s24c => rfl); (case s24d => rfl); (case s24e => exact HT.out.2.1); (case s24f => exact info5u rfl); (case s24g => rfl); (case s24h => exact wds_one _ _)))
  refine HQ.out _ _ _ ?_
  refine ret_row (p := 2) (ty := 90) rfl (w.heap.size + 1) 90 (wds .u64 [n, 0, 0, 0, 0]) _ rfl (HT.out.2.1.row _) Try.underlying90 rfl (info5u rfl) rfl ⟨by rw [HR.out], below_setRow HT.out.2.2.2.1 (Nat.le_succ _) _⟩

set_option maxRecDepth 100000 in
set_option maxHeartbeats 16000000 in
theorem red_z  (w : World) : Calls Try.prog 91 #[.agg (wds .u64 [67108859, 67108863, 67108863, 67108863, 67108863])] w fun e w' => e = .returned (.agg (wds .u64 (limbsN (val [67108859, 67108863, 67108863, 67108863, 67108863] % pr)))) ∧ Below w.heap.size w w' := by
  have HV : L5 67108864 [67108859, 67108863, 67108863, 67108863, 67108863] := ⟨_, _, _, _, _, rfl, by omega, by omega, by omega, by omega, by omega⟩
  have C := fun W => carried_calls [67108859, 67108863, 67108863, 67108863, 67108863] (HV.mono (by decide)) W
  rw [carry_still _ HV] at C
  have HR := Lib.hid (high_red 67108859 (by omega) (by omega))
  have hz : IntKind.u64.wrap 0 = 0 := rfl
  have HI := Lib.hid (info5u (show [67108859, 67108863, 67108863, 67108863, 67108863].length = 5 from rfl))
  have HS := Aside0.mk (Two.start w 90 .u64 [67108859, 67108863, 67108863, 67108863, 67108863])
  clear HV 
  go_enter Try.func91, Try.ntmps91
  refine wp_hide ?_
  intro Qx hQx
  have HQ := Lib.hid hQx
  clear hQx
  go_wp2_with (first | ((with_reducible refine wpList_load_row (o := ⟨some 6, .load 90 (.tmp 1), _, _, _, _⟩) ?l25a 90 (.tmp 1) ?l25b (w.heap.size) ?l25c 90 (wds .u64 [67108859, 67108863, 67108863, 67108863, 67108863]) (0, 0) ?l25z ?l25d ?l25e ?l25f ?l25g ?_); (case l25a => rfl); (case l25b => rfl); (case l25c => rfl); (case l25d => exact HS.out.a); (case l25e => exact Try.underlying90); (case l25f => rfl); (case l25g => exact HI.out)) | (go_at_call 108; with_reducible refine (C _).mono ?_; rintro e1 w1 ⟨rfl, hb1⟩; replace hb1 := Aside0.mk hb1) | ((with_reducible refine wpList_store_row (o := ⟨none, .store 90 (.tmp 1) (.tmp 7), _, _, _, _⟩) ?s26a 90 (.tmp 1) (.tmp 7) ?s26b (w.heap.size) (wds .u64 [67108859, 67108863, 67108863, 67108863, 67108863]) ?s26c ?s26d 90 (wds .u64 [67108859, 67108863, 67108863, 67108863, 67108863]) ?s26e ?s26f ?s26g ?s26h ?_); (case s26a => rfl); (case s26b => rfl); (case s26c => rfl); (case s26d => rfl); (case s26e => exact (HS.out.a.below hb1.out)); (case s26f => exact HI.out); (case s26g => rfl); (case s26h => exact wds_one _ _)))
  refine wp_world (fun W => Red w W w.heap.size w1.heap.size 90 [67108859, 67108863, 67108863, 67108863, 67108863]) ⟨?_, ?_, ?_, ?_, rfl, ?_⟩ ?_
  · exact ((HS.out.a.below hb1.out).row _).alloc _
  · exact ((HS.out.z.below hb1.out).rowOther _ (Nat.succ_ne_self _) _).alloc _
  · exact Blk.new' _ _ _ _ (by simp)
  · exact below_alloc (below_setRow (HS.out.l.trans (hb1.out.mono HS.out.l.size)) (Nat.le_refl _) _) _
  · exact (HS.out.z.below hb1.out).lt
  intro wb HW
  have HT := Aside0.mk HW
  clear HW HS hb1 C HI
  generalize w1.heap.size = h1 at HT ⊢
  refine wp_loop_rounds 6 ?_
  have x0 : wb.cell? ⟨w.heap.size, 4, none⟩ = some (.int .u64 67108863) ∧ wb.frozen? ⟨w.heap.size, 4, none⟩ = false := HT.out.1.at 4 _ rfl
  have y0 : wb.cell? ⟨h1, 4, none⟩ = some (.int .u64 67108863) ∧ wb.frozen? ⟨h1, 4, none⟩ = false := HT.out.2.2.1.at 4 _ rfl
  rw [rounds_succ]; go_wp2
  go_quiet (fail)
  have HD := Aside0.mk (HT.out.drewN nq)
  clear x0 y0 HT
  generalize wb.drewN nq = wq1 at HD ⊢
  have HT := HD
  clear HD
  go_wp2
  have x0 : wq1.cell? ⟨w.heap.size, 3, none⟩ = some (.int .u64 67108863) ∧ wq1.frozen? ⟨w.heap.size, 3, none⟩ = false := HT.out.1.at 3 _ rfl
  have y0 : wq1.cell? ⟨h1, 3, none⟩ = some (.int .u64 67108863) ∧ wq1.frozen? ⟨h1, 3, none⟩ = false := HT.out.2.2.1.at 3 _ rfl
  rw [rounds_succ]; go_wp2
  go_quiet (fail)
  have HD := Aside0.mk (HT.out.drewN nq)
  clear x0 y0 HT
  generalize wq1.drewN nq = wq2 at HD ⊢
  have HT := HD
  clear HD
  go_wp2
  have x0 : wq2.cell? ⟨w.heap.size, 2, none⟩ = some (.int .u64 67108863) ∧ wq2.frozen? ⟨w.heap.size, 2, none⟩ = false := HT.out.1.at 2 _ rfl
  have y0 : wq2.cell? ⟨h1, 2, none⟩ = some (.int .u64 67108863) ∧ wq2.frozen? ⟨h1, 2, none⟩ = false := HT.out.2.2.1.at 2 _ rfl
  rw [rounds_succ]; go_wp2
  go_quiet (fail)
  have HD := Aside0.mk (HT.out.drewN nq)
  clear x0 y0 HT
  generalize wq2.drewN nq = wq3 at HD ⊢
  have HT := HD
  clear HD
  go_wp2
  have x0 : wq3.cell? ⟨w.heap.size, 1, none⟩ = some (.int .u64 67108863) ∧ wq3.frozen? ⟨w.heap.size, 1, none⟩ = false := HT.out.1.at 1 _ rfl
  have y0 : wq3.cell? ⟨h1, 1, none⟩ = some (.int .u64 67108863) ∧ wq3.frozen? ⟨h1, 1, none⟩ = false := HT.out.2.2.1.at 1 _ rfl
  rw [rounds_succ]; go_wp2
  go_quiet (fail)
  have HD := Aside0.mk (HT.out.drewN nq)
  clear x0 y0 HT
  generalize wq3.drewN nq = wq4 at HD ⊢
  have HT := HD
  clear HD
  go_wp2
  have x0 : wq4.cell? ⟨w.heap.size, 0, none⟩ = some (.int .u64 67108859) ∧ wq4.frozen? ⟨w.heap.size, 0, none⟩ = false := HT.out.1.at 0 _ rfl
  have y0 : wq4.cell? ⟨h1, 0, none⟩ = some (.int .u64 67108859) ∧ wq4.frozen? ⟨h1, 0, none⟩ = false := HT.out.2.2.1.at 0 _ rfl
  rw [rounds_succ]; go_wp2
  go_quiet (fail)
  have HD := Aside0.mk (HT.out.drewN nq)
  clear x0 y0 HT
  generalize wq4.drewN nq = wq5 at HD ⊢
  have HT := HD
  clear HD
  go_wp2
  rw [rounds_succ]; go_wp2
  refine wp_loop_rounds 6 ?_
  have x0 : wq5.cell? ⟨w.heap.size, 0, none⟩ = some (.int .u64 67108859) ∧ wq5.frozen? ⟨w.heap.size, 0, none⟩ = false := HT.out.1.at 0 _ rfl
  have y0 : wq5.cell? ⟨h1, 0, none⟩ = some (.int .u64 67108859) ∧ wq5.frozen? ⟨h1, 0, none⟩ = false := HT.out.2.2.1.at 0 _ rfl
  rw [rounds_succ]; go_wp2
  go_still_tail 8, (by kernel_rfl)
  change wpList _ _ _ _ _ wq5.drew
  have HD := Aside0.mk HT.out.drew
  clear x0 y0 HT
  generalize wq5.drew = wd0 at HD ⊢
  have x0 : wd0.cell? ⟨w.heap.size, 0, none⟩ = some (.int .u64 67108859) ∧ wd0.frozen? ⟨w.heap.size, 0, none⟩ = false := HD.out.1.at 0 _ rfl
  go_wp2
  have HT : Aside0 (Red w (wd0.setCell ⟨w.heap.size, 0, none⟩ (.int .u64 0)) w.heap.size h1 90 [0, 67108863, 67108863, 67108863, 67108863]) := ⟨(HD.out.set 0 0).eq (show _ = [0, 67108863, 67108863, 67108863, 67108863] from rfl)⟩
  clear x0 HD
  generalize wd0.setCell ⟨w.heap.size, 0, none⟩ (.int .u64 0) = we0 at HT ⊢
  have x0 : we0.cell? ⟨w.heap.size, 1, none⟩ = some (.int .u64 67108863) ∧ we0.frozen? ⟨w.heap.size, 1, none⟩ = false := HT.out.1.at 1 _ rfl
  have y0 : we0.cell? ⟨h1, 1, none⟩ = some (.int .u64 67108863) ∧ we0.frozen? ⟨h1, 1, none⟩ = false := HT.out.2.2.1.at 1 _ rfl
  rw [rounds_succ]; go_wp2
  go_still_tail 8, (by kernel_rfl)
  change wpList _ _ _ _ _ we0.drew
  have HD := Aside0.mk HT.out.drew
  clear x0 y0 HT
  generalize we0.drew = wd1 at HD ⊢
  have x0 : wd1.cell? ⟨w.heap.size, 1, none⟩ = some (.int .u64 67108863) ∧ wd1.frozen? ⟨w.heap.size, 1, none⟩ = false := HD.out.1.at 1 _ rfl
  go_wp2
  have HT : Aside0 (Red w (wd1.setCell ⟨w.heap.size, 1, none⟩ (.int .u64 0)) w.heap.size h1 90 [0, 0, 67108863, 67108863, 67108863]) := ⟨(HD.out.set 1 0).eq (show _ = [0, 0, 67108863, 67108863, 67108863] from rfl)⟩
  clear x0 HD
  generalize wd1.setCell ⟨w.heap.size, 1, none⟩ (.int .u64 0) = we1 at HT ⊢
  have x0 : we1.cell? ⟨w.heap.size, 2, none⟩ = some (.int .u64 67108863) ∧ we1.frozen? ⟨w.heap.size, 2, none⟩ = false := HT.out.1.at 2 _ rfl
  have y0 : we1.cell? ⟨h1, 2, none⟩ = some (.int .u64 67108863) ∧ we1.frozen? ⟨h1, 2, none⟩ = false := HT.out.2.2.1.at 2 _ rfl
  rw [rounds_succ]; go_wp2
  go_still_tail 8, (by kernel_rfl)
  change wpList _ _ _ _ _ we1.drew
  have HD := Aside0.mk HT.out.drew
  clear x0 y0 HT
  generalize we1.drew = wd2 at HD ⊢
  have x0 : wd2.cell? ⟨w.heap.size, 2, none⟩ = some (.int .u64 67108863) ∧ wd2.frozen? ⟨w.heap.size, 2, none⟩ = false := HD.out.1.at 2 _ rfl
  go_wp2
  have HT : Aside0 (Red w (wd2.setCell ⟨w.heap.size, 2, none⟩ (.int .u64 0)) w.heap.size h1 90 [0, 0, 0, 67108863, 67108863]) := ⟨(HD.out.set 2 0).eq (show _ = [0, 0, 0, 67108863, 67108863] from rfl)⟩
  clear x0 HD
  generalize wd2.setCell ⟨w.heap.size, 2, none⟩ (.int .u64 0) = we2 at HT ⊢
  have x0 : we2.cell? ⟨w.heap.size, 3, none⟩ = some (.int .u64 67108863) ∧ we2.frozen? ⟨w.heap.size, 3, none⟩ = false := HT.out.1.at 3 _ rfl
  have y0 : we2.cell? ⟨h1, 3, none⟩ = some (.int .u64 67108863) ∧ we2.frozen? ⟨h1, 3, none⟩ = false := HT.out.2.2.1.at 3 _ rfl
  rw [rounds_succ]; go_wp2
  go_still_tail 8, (by kernel_rfl)
  change wpList _ _ _ _ _ we2.drew
  have HD := Aside0.mk HT.out.drew
  clear x0 y0 HT
  generalize we2.drew = wd3 at HD ⊢
  have x0 : wd3.cell? ⟨w.heap.size, 3, none⟩ = some (.int .u64 67108863) ∧ wd3.frozen? ⟨w.heap.size, 3, none⟩ = false := HD.out.1.at 3 _ rfl
  go_wp2
  have HT : Aside0 (Red w (wd3.setCell ⟨w.heap.size, 3, none⟩ (.int .u64 0)) w.heap.size h1 90 [0, 0, 0, 0, 67108863]) := ⟨(HD.out.set 3 0).eq (show _ = [0, 0, 0, 0, 67108863] from rfl)⟩
  clear x0 HD
  generalize wd3.setCell ⟨w.heap.size, 3, none⟩ (.int .u64 0) = we3 at HT ⊢
  have x0 : we3.cell? ⟨w.heap.size, 4, none⟩ = some (.int .u64 67108863) ∧ we3.frozen? ⟨w.heap.size, 4, none⟩ = false := HT.out.1.at 4 _ rfl
  have y0 : we3.cell? ⟨h1, 4, none⟩ = some (.int .u64 67108863) ∧ we3.frozen? ⟨h1, 4, none⟩ = false := HT.out.2.2.1.at 4 _ rfl
  rw [rounds_succ]; go_wp2
  go_still_tail 8, (by kernel_rfl)
  change wpList _ _ _ _ _ we3.drew
  have HD := Aside0.mk HT.out.drew
  clear x0 y0 HT
  generalize we3.drew = wd4 at HD ⊢
  have x0 : wd4.cell? ⟨w.heap.size, 4, none⟩ = some (.int .u64 67108863) ∧ wd4.frozen? ⟨w.heap.size, 4, none⟩ = false := HD.out.1.at 4 _ rfl
  go_wp2
  have HT : Aside0 (Red w (wd4.setCell ⟨w.heap.size, 4, none⟩ (.int .u64 0)) w.heap.size h1 90 [0, 0, 0, 0, 0]) := ⟨(HD.out.set 4 0).eq (show _ = [0, 0, 0, 0, 0] from rfl)⟩
  clear x0 HD
  generalize wd4.setCell ⟨w.heap.size, 4, none⟩ (.int .u64 0) = we4 at HT ⊢
  rw [rounds_succ]
  go_wp2_with (first | ((with_reducible refine wpList_load_row (o := ⟨some 40, .load 90 (.tmp 1), _, _, _, _⟩) ?l27a 90 (.tmp 1) ?l27b (w.heap.size) ?l27c 90 (wds .u64 [0, 0, 0, 0, 0]) (0, 0) ?l27z ?l27d ?l27e ?l27f ?l27g ?_); (case l27a => rfl); (case l27b => rfl); (case l27c => rfl); (case l27d => exact HT.out.1); (case l27e => exact Try.underlying90); (case l27f => rfl); (case l27g => exact info5u rfl)) | ((with_reducible refine wpList_store_row (o := ⟨none, .store 90 (.tmp 2) (.tmp 40), _, _, _, _⟩) ?s28a 90 (.tmp 2) (.tmp 40) ?s28b (w.heap.size + 1) (wds .u64 [0, 0, 0, 0, 0]) ?s28c ?s28d 90 (wds .u64 zeros5) ?s28e ?s28f ?s28g ?s28h ?_); (case s28a => rfl); (case s28b => rfl); (case s28c => rfl); (case s28d => rfl); (case s28e => exact HT.out.2.1); (case s28f => exact info5u rfl); (case s28g => rfl); (case s28h => exact wds_one _ _)))
  refine HQ.out _ _ _ ?_
  refine ret_row (p := 2) (ty := 90) rfl (w.heap.size + 1) 90 (wds .u64 [0, 0, 0, 0, 0]) _ rfl (HT.out.2.1.row _) Try.underlying90 rfl (info5u rfl) rfl ⟨by rw [HR.out], below_setRow HT.out.2.2.2.1 (Nat.le_succ _) _⟩

theorem reduced_calls (v : List Nat) (hv : L5 67108864 v) (w : World) : Calls Try.prog 91 #[.agg (wds .u64 v)] w fun e w' => e = .returned (.agg (wds .u64 (limbsN (val v % pr)))) ∧ Below w.heap.size w w' := by
  obtain ⟨a, b, c, d, k, rfl, ha, hb, hc, hd, hk⟩ := hv
  by_cases ek : k < 67108863
  · exact red_k a b c d k ha hb hc hd hk ek w
  obtain rfl : k = 67108863 := by omega
  by_cases ed : d < 67108863
  · exact red_d a b c d ha hb hc hd ed w
  obtain rfl : d = 67108863 := by omega
  by_cases ec : c < 67108863
  · exact red_c a b c ha hb hc ec w
  obtain rfl : c = 67108863 := by omega
  by_cases eb : b < 67108863
  · exact red_b a b ha hb eb w
  obtain rfl : b = 67108863 := by omega
  by_cases ea : a < 67108859
  · exact red_a a ha ea w
  by_cases em : 67108859 < a
  · exact red_m a ha em w
  obtain rfl : a = 67108859 := by omega
  exact red_z w
end

section
open Go.RowKit Go.Shelf Go.Proofs.YtihpnededldedaaW.PrintWords Go.Proofs.YtihpnededldedaaW.PrintLast Go.Proofs.YtihpnededldedaaW.PrintMore Go.Proofs.Ytihpnededldedaa.Pol

/-- Block g holds v, the next five zeros, the one behind s; all below is as it was. -/
def Les (w0 wr : World) (g : Nat) (t : TypeId) (v s : List Nat) : Prop := Blk wr g t (wds .i64 v) ∧ Blk wr (g + 1) t (wds .i64 zeros5) ∧ Blk wr (g + 1 + 1) t (wds .i64 s) ∧ Below w0.heap.size w0 wr ∧ w0.heap.size = g
theorem Les.start (w : World) (t : TypeId) (v : List Nat) : Les w (((w.alloc (.cells (wds .i64 v) t)).alloc (.cells (wds .i64 zeros5) t)).alloc (.cells (wds .i64 v) t)) w.heap.size t v v :=
  ⟨((Blk.new _ _ _).alloc _).alloc _, (Blk.new' _ _ _ _ (by simp)).alloc _, Blk.new' _ _ _ _ (by simp), below_alloc (below_alloc (below_alloc (Below.refl _ _) _) _) _, rfl⟩
theorem Les.drew {w0 wr : World} {g : Nat} {t : TypeId} {v s : List Nat} (H : Les w0 wr g t v s) : Les w0 wr.drew g t v s := ⟨H.1.drew, H.2.1.drew, H.2.2.1.drew, H.2.2.2.1.drew, H.2.2.2.2⟩
theorem Les.set {w0 wr : World} {g : Nat} {t : TypeId} {v s : List Nat} (H : Les w0 wr g t v s) (i n : Nat) : Les w0 (wr.setCell ⟨g + 1 + 1, i, none⟩ (.int .i64 (n : Int))) g t v (s.set i n) :=
  ⟨H.1.other _ (by simp <;> omega) _, H.2.1.other _ (by simp <;> omega) _, H.2.2.1.wset i n, H.2.2.2.1.setCell (p := ⟨g + 1 + 1, i, none⟩) (by have := H.2.2.2.2; simp; omega) _, H.2.2.2.2⟩
theorem Les.eq {w0 wr : World} {g : Nat} {t : TypeId} {v s s' : List Nat} (H : Les w0 wr g t v s) (e : s = s') : Les w0 wr g t v s' := e ▸ H
theorem less_names (a b c d k : Nat) (h : L5 67108864 [a, b, c, d, k]) : ∃ a1 q0 r0 b1 q1 r1 c1 q2 r2 d1 q3 r3 k1 q4 r4 : Nat,
    Hid (limbsN (val [a, b, c, d, k] % pr) = if q4 = 0 then [a, b, c, d, k] else [r0, r1, r2, r3, r4]) ∧ wrap64 ((a : Int) + 5) = a1 ∧
    ((a1 : Int) / 67108864 = q0 ∧ Go.bits .and .i64 (a1 : Int) 67108863 = r0) ∧ (IntKind.i64.wrap ((b : Int) + (q0 : Int)) = b1 ∧ (b1 : Int) / 67108864 = q1 ∧ Go.bits .and .i64 (b1 : Int) 67108863 = r1) ∧
    (IntKind.i64.wrap ((c : Int) + (q1 : Int)) = c1 ∧ (c1 : Int) / 67108864 = q2 ∧ Go.bits .and .i64 (c1 : Int) 67108863 = r2) ∧ (IntKind.i64.wrap ((d : Int) + (q2 : Int)) = d1 ∧ (d1 : Int) / 67108864 = q3 ∧ Go.bits .and .i64 (d1 : Int) 67108863 = r3) ∧
    (IntKind.i64.wrap ((k : Int) + (q3 : Int)) = k1 ∧ (k1 : Int) / 67108864 = q4 ∧ Go.bits .and .i64 (k1 : Int) 67108863 = r4) := by
  have hl := less_low a b c d k h
  have hh := less_high a b c d k h
  obtain ⟨_, _, _, _, _, e0, h1, h2, h3, h4, h5⟩ := h
  injection e0 with ea e0; injection e0 with eb e0; injection e0 with ec e0; injection e0 with ed e0; injection e0 with ee e0
  subst ea eb ec ed ee
  obtain ⟨a1, ha1⟩ : ∃ n, a + 5 = n := ⟨_, rfl⟩
  obtain ⟨q0, hq0⟩ : ∃ n, a1 / 67108864 = n := ⟨_, rfl⟩
  obtain ⟨b1, hb1⟩ : ∃ n, b + q0 = n := ⟨_, rfl⟩
  obtain ⟨q1, hq1⟩ : ∃ n, b1 / 67108864 = n := ⟨_, rfl⟩
  obtain ⟨c1, hc1⟩ : ∃ n, c + q1 = n := ⟨_, rfl⟩
  obtain ⟨q2, hq2⟩ : ∃ n, c1 / 67108864 = n := ⟨_, rfl⟩
  obtain ⟨d1, hd1⟩ : ∃ n, d + q2 = n := ⟨_, rfl⟩
  obtain ⟨q3, hq3⟩ : ∃ n, d1 / 67108864 = n := ⟨_, rfl⟩
  obtain ⟨k1, hk1⟩ : ∃ n, k + q3 = n := ⟨_, rfl⟩
  obtain ⟨q4, hq4⟩ : ∃ n, k1 / 67108864 = n := ⟨_, rfl⟩
  rw [ha1, hq0, hb1, hq1, hc1, hq2, hd1, hq3, hk1, hq4] at hl hh
  refine ⟨a1, q0, a1 % 67108864, b1, q1, b1 % 67108864, c1, q2, c1 % 67108864, d1, q3, d1 % 67108864, k1, q4, k1 % 67108864, Lib.hid ?_, ?_, ⟨div_int hq0, low_i64 _ (by omega)⟩, ⟨add_i64 _ _ _ hb1 (by omega), div_int hq1, low_i64 _ (by omega)⟩, ⟨add_i64 _ _ _ hc1 (by omega), div_int hq2, low_i64 _ (by omega)⟩, ⟨add_i64 _ _ _ hd1 (by omega), div_int hq3, low_i64 _ (by omega)⟩, ⟨add_i64 _ _ _ hk1 (by omega), div_int hq4, low_i64 _ (by omega)⟩⟩
  · by_cases hz : q4 = 0
    · rw [if_pos hz]; exact hl hz
    · rw [if_neg hz]; exact hh hz
  · rw [wrap_ok _ (by omega) (by omega)]; omega

set_option maxRecDepth 100000 in
set_option maxHeartbeats 16000000 in
theorem l03Less_calls (v : List Nat) (hv : L5 67108864 v) (w : World) : Calls Try.prog 83 #[.agg (wds .i64 v)] w fun e w' => e = .returned (.agg (wds .i64 (limbsN (val v % pr)))) ∧ Below w.heap.size w w' := by
  obtain ⟨a, b, c, d, k, rfl, hv1⟩ := hv
  obtain ⟨a1, q0, r0, b1, q1, r1, c1, q2, r2, d1, q3, r3, k1, q4, r4, HN, wa, ⟨y1, y2⟩, ⟨l0, l1, l2⟩, ⟨m0, m1, m2⟩, ⟨n0, n1, n2⟩, ⟨o0, o1, o2⟩⟩ := less_names a b c d k ⟨_, _, _, _, _, rfl, hv1⟩
  have HS := Aside0.mk (Les.start w 80 [a, b, c, d, k])
  have HS1 : Aside0 (Blk _ w.heap.size 80 #[.int .i64 a, .int .i64 b, .int .i64 c, .int .i64 d, .int .i64 k]) := ⟨(Two.start w 80 .i64 [a, b, c, d, k]).a⟩
  have z1 : IntKind.i64.wrap 1 = 1 := rfl
  have z2 : IntKind.i64.wrap 2 = 2 := rfl
  have z3 : IntKind.i64.wrap 3 = 3 := rfl
  have z4 : IntKind.i64.wrap 4 = 4 := rfl
  clear hv1
  generalize limbsN (val [a, b, c, d, k] % pr) = res at HN
  go_enter Try.func83, Try.ntmps83
  refine wp_hide ?_
  intro Qx hQx
  have HQ := Lib.hid hQx
  clear hQx
  go_upto_region 2 with (((with_reducible refine wpList_load_row (o := ⟨some 5, .load 80 (.tmp 1), _, _, _, _⟩) ?l1a 80 (.tmp 1) ?l1b (w.heap.size) ?l1c 80 (#[.int .i64 a, .int .i64 b, .int .i64 c, .int .i64 d, .int .i64 k]) (0, 0) ?l1z ?l1d ?l1e ?l1f ?l1g ?_); (case l1a => rfl); (case l1b => rfl); (case l1c => rfl); (case l1d => exact HS1.out); (case l1e => exact Try.underlying80); (case l1f => rfl); (case l1g => exact (by kernel_rfl))))
  refine wp_world (fun W => Les w W w.heap.size 80 [a, b, c, d, k] [a, b, c, d, k]) HS.out ?_
  intro wb HW
  have HT := Aside0.mk HW
  clear HW HS HS1
  have x0 : wb.cell? ⟨w.heap.size + 1 + 1, 0, none⟩ = some (.int .i64 (a : Int)) ∧ wb.frozen? ⟨w.heap.size + 1 + 1, 0, none⟩ = false := HT.out.2.2.1.at 0 _ rfl
  go_wp2
  have HT1 := Aside0.mk ((HT.out.set 0 a1).eq (show _ = [a1, b, c, d, k] from rfl))
  clear x0 HT
  generalize wb.setCell ⟨w.heap.size + 1 + 1, 0, none⟩ (.int .i64 (a1 : Int)) = wc at HT1 ⊢
  have HT := HT1
  clear HT1
  refine wp_loop_rounds 5 ?_
  have x0 : wc.cell? ⟨w.heap.size + 1 + 1, 0, none⟩ = some (.int .i64 (a1 : Int)) ∧ wc.frozen? ⟨w.heap.size + 1 + 1, 0, none⟩ = false := HT.out.2.2.1.at 0 _ rfl
  have x1 : wc.cell? ⟨w.heap.size + 1 + 1, 1, none⟩ = some (.int .i64 (b : Int)) ∧ wc.frozen? ⟨w.heap.size + 1 + 1, 1, none⟩ = false := HT.out.2.2.1.at 1 _ rfl
  rw [rounds_succ]; go_wp2
  go_still_tail 10, (by kernel_rfl)
  change wpList _ _ _ _ _ wc.drew
  have HD := Aside0.mk HT.out.drew
  clear x0 x1 HT
  generalize wc.drew = wa0 at HD ⊢
  have x0 : wa0.cell? ⟨w.heap.size + 1 + 1, 0, none⟩ = some (.int .i64 (a1 : Int)) ∧ wa0.frozen? ⟨w.heap.size + 1 + 1, 0, none⟩ = false := HD.out.2.2.1.at 0 _ rfl
  have x1 : wa0.cell? ⟨w.heap.size + 1 + 1, 1, none⟩ = some (.int .i64 (b : Int)) ∧ wa0.frozen? ⟨w.heap.size + 1 + 1, 1, none⟩ = false := HD.out.2.2.1.at 1 _ rfl
  go_wp2
  have HT := Aside0.mk (((HD.out.set 1 b1).set 0 r0).eq (show _ = [r0, b1, c, d, k] from rfl))
  clear x0 x1 HD
  generalize ((wa0.setCell ⟨w.heap.size + 1 + 1, 1, none⟩ (.int .i64 (b1 : Int))).setCell ⟨w.heap.size + 1 + 1, 0, none⟩ (.int .i64 (r0 : Int))) = wb0 at HT ⊢
  have x0 : wb0.cell? ⟨w.heap.size + 1 + 1, 1, none⟩ = some (.int .i64 (b1 : Int)) ∧ wb0.frozen? ⟨w.heap.size + 1 + 1, 1, none⟩ = false := HT.out.2.2.1.at 1 _ rfl
  have x1 : wb0.cell? ⟨w.heap.size + 1 + 1, 2, none⟩ = some (.int .i64 (c : Int)) ∧ wb0.frozen? ⟨w.heap.size + 1 + 1, 2, none⟩ = false := HT.out.2.2.1.at 2 _ rfl
  rw [rounds_succ]; go_wp2
  go_still_tail 10, (by kernel_rfl)
  change wpList _ _ _ _ _ wb0.drew
  have HD := Aside0.mk HT.out.drew
  clear x0 x1 HT
  generalize wb0.drew = wa1 at HD ⊢
  have x0 : wa1.cell? ⟨w.heap.size + 1 + 1, 1, none⟩ = some (.int .i64 (b1 : Int)) ∧ wa1.frozen? ⟨w.heap.size + 1 + 1, 1, none⟩ = false := HD.out.2.2.1.at 1 _ rfl
  have x1 : wa1.cell? ⟨w.heap.size + 1 + 1, 2, none⟩ = some (.int .i64 (c : Int)) ∧ wa1.frozen? ⟨w.heap.size + 1 + 1, 2, none⟩ = false := HD.out.2.2.1.at 2 _ rfl
  go_wp2
  have HT := Aside0.mk (((HD.out.set 2 c1).set 1 r1).eq (show _ = [r0, r1, c1, d, k] from rfl))
  clear x0 x1 HD
  generalize ((wa1.setCell ⟨w.heap.size + 1 + 1, 2, none⟩ (.int .i64 (c1 : Int))).setCell ⟨w.heap.size + 1 + 1, 1, none⟩ (.int .i64 (r1 : Int))) = wb1 at HT ⊢
  have x0 : wb1.cell? ⟨w.heap.size + 1 + 1, 2, none⟩ = some (.int .i64 (c1 : Int)) ∧ wb1.frozen? ⟨w.heap.size + 1 + 1, 2, none⟩ = false := HT.out.2.2.1.at 2 _ rfl
  have x1 : wb1.cell? ⟨w.heap.size + 1 + 1, 3, none⟩ = some (.int .i64 (d : Int)) ∧ wb1.frozen? ⟨w.heap.size + 1 + 1, 3, none⟩ = false := HT.out.2.2.1.at 3 _ rfl
  rw [rounds_succ]; go_wp2
  go_still_tail 10, (by kernel_rfl)
  change wpList _ _ _ _ _ wb1.drew
  have HD := Aside0.mk HT.out.drew
  clear x0 x1 HT
  generalize wb1.drew = wa2 at HD ⊢
  have x0 : wa2.cell? ⟨w.heap.size + 1 + 1, 2, none⟩ = some (.int .i64 (c1 : Int)) ∧ wa2.frozen? ⟨w.heap.size + 1 + 1, 2, none⟩ = false := HD.out.2.2.1.at 2 _ rfl
  have x1 : wa2.cell? ⟨w.heap.size + 1 + 1, 3, none⟩ = some (.int .i64 (d : Int)) ∧ wa2.frozen? ⟨w.heap.size + 1 + 1, 3, none⟩ = false := HD.out.2.2.1.at 3 _ rfl
  go_wp2
  have HT := Aside0.mk (((HD.out.set 3 d1).set 2 r2).eq (show _ = [r0, r1, r2, d1, k] from rfl))
  clear x0 x1 HD
  generalize ((wa2.setCell ⟨w.heap.size + 1 + 1, 3, none⟩ (.int .i64 (d1 : Int))).setCell ⟨w.heap.size + 1 + 1, 2, none⟩ (.int .i64 (r2 : Int))) = wb2 at HT ⊢
  have x0 : wb2.cell? ⟨w.heap.size + 1 + 1, 3, none⟩ = some (.int .i64 (d1 : Int)) ∧ wb2.frozen? ⟨w.heap.size + 1 + 1, 3, none⟩ = false := HT.out.2.2.1.at 3 _ rfl
  have x1 : wb2.cell? ⟨w.heap.size + 1 + 1, 4, none⟩ = some (.int .i64 (k : Int)) ∧ wb2.frozen? ⟨w.heap.size + 1 + 1, 4, none⟩ = false := HT.out.2.2.1.at 4 _ rfl
  rw [rounds_succ]; go_wp2
  go_still_tail 10, (by kernel_rfl)
  change wpList _ _ _ _ _ wb2.drew
  have HD := Aside0.mk HT.out.drew
  clear x0 x1 HT
  generalize wb2.drew = wa3 at HD ⊢
  have x0 : wa3.cell? ⟨w.heap.size + 1 + 1, 3, none⟩ = some (.int .i64 (d1 : Int)) ∧ wa3.frozen? ⟨w.heap.size + 1 + 1, 3, none⟩ = false := HD.out.2.2.1.at 3 _ rfl
  have x1 : wa3.cell? ⟨w.heap.size + 1 + 1, 4, none⟩ = some (.int .i64 (k : Int)) ∧ wa3.frozen? ⟨w.heap.size + 1 + 1, 4, none⟩ = false := HD.out.2.2.1.at 4 _ rfl
  go_wp2
  have HT := Aside0.mk (((HD.out.set 4 k1).set 3 r3).eq (show _ = [r0, r1, r2, r3, k1] from rfl))
  clear x0 x1 HD
  generalize ((wa3.setCell ⟨w.heap.size + 1 + 1, 4, none⟩ (.int .i64 (k1 : Int))).setCell ⟨w.heap.size + 1 + 1, 3, none⟩ (.int .i64 (r3 : Int))) = wb3 at HT ⊢
  have x0 : wb3.cell? ⟨w.heap.size + 1 + 1, 4, none⟩ = some (.int .i64 (k1 : Int)) ∧ wb3.frozen? ⟨w.heap.size + 1 + 1, 4, none⟩ = false := HT.out.2.2.1.at 4 _ rfl
  rw [rounds_succ]
  by_cases hz : q4 = 0
  · have t1 : ((q4 : Int) == 0) = true := by rw [hz]; rfl
    have t2 : ((q4 : Int) = 0) = True := eq_true (by omega)
    have H0 := Lib.hid (HN.out.trans (if_pos hz))
    obtain rfl := hz
    go_wp2_with (first | ((with_reducible refine wpList_load_row (o := ⟨some 33, .load 80 (.tmp 1), _, _, _, _⟩) ?l2a 80 (.tmp 1) ?l2b (w.heap.size) ?l2c 80 (wds .i64 [a, b, c, d, k]) (0, 0) ?l2z ?l2d ?l2e ?l2f ?l2g ?_); (case l2a => rfl); (case l2b => rfl); (case l2c => rfl); (case l2d => exact HT.out.1); (case l2e => exact Try.underlying80); (case l2f => rfl); (case l2g => exact info5i rfl)) | ((with_reducible refine wpList_store_row (o := ⟨none, .store 80 (.tmp 2) (.tmp 33), _, _, _, _⟩) ?s3a 80 (.tmp 2) (.tmp 33) ?s3b (w.heap.size + 1) (wds .i64 [a, b, c, d, k]) ?s3c ?s3d 80 (wds .i64 zeros5) ?s3e ?s3f ?s3g ?s3h ?_); (case s3a => rfl); (case s3b => rfl); (case s3c => rfl); (case s3d => rfl); (case s3e => exact HT.out.2.1); (case s3f => exact info5i rfl); (case s3g => rfl); (case s3h => exact wds_one _ _)))
    refine HQ.out _ _ _ ?_
    refine ret_row (p := 2) (ty := 80) rfl (w.heap.size + 1) 80 (wds .i64 [a, b, c, d, k]) _ rfl (HT.out.2.1.row _) Try.underlying80 rfl (info5i rfl) rfl ⟨by rw [H0.out], below_setRow HT.out.2.2.2.1 (Nat.le_succ _) _⟩
  · have t1 : ((q4 : Int) == 0) = false := by simp; omega
    have t2 : ((q4 : Int) = 0) = False := eq_false (by omega)
    have H0 := Lib.hid (HN.out.trans (if_neg hz))
    have hz' := Lib.hid hz
    clear hz
    go_upto_region 11 with (fail)
    have HD := Aside0.mk ((HT.out.set 4 r4).eq (show _ = [r0, r1, r2, r3, r4] from rfl))
    clear x0 HT
    generalize wb3.setCell ⟨w.heap.size + 1 + 1, 4, none⟩ (.int .i64 (r4 : Int)) = we at HD ⊢
    have HT := HD
    clear HD
    go_wp2_with (first | ((with_reducible refine wpList_load_row (o := ⟨some 38, .load 80 (.tmp 3), _, _, _, _⟩) ?l4a 80 (.tmp 3) ?l4b (w.heap.size + 1 + 1) ?l4c 80 (wds .i64 [r0, r1, r2, r3, r4]) (0, 0) ?l4z ?l4d ?l4e ?l4f ?l4g ?_); (case l4a => rfl); (case l4b => rfl); (case l4c => rfl); (case l4d => exact HT.out.2.2.1); (case l4e => exact Try.underlying80); (case l4f => rfl); (case l4g => exact info5i rfl)) | ((with_reducible refine wpList_store_row (o := ⟨none, .store 80 (.tmp 2) (.tmp 38), _, _, _, _⟩) ?s5a 80 (.tmp 2) (.tmp 38) ?s5b (w.heap.size + 1) (wds .i64 [r0, r1, r2, r3, r4]) ?s5c ?s5d 80 (wds .i64 zeros5) ?s5e ?s5f ?s5g ?s5h ?_); (case s5a => rfl); (case s5b => rfl); (case s5c => rfl); (case s5d => rfl); (case s5e => exact HT.out.2.1); (case s5f => exact info5i rfl); (case s5g => rfl); (case s5h => exact wds_one _ _)))
    refine HQ.out _ _ _ ?_
    refine ret_row (p := 2) (ty := 80) rfl (w.heap.size + 1) 80 (wds .i64 [r0, r1, r2, r3, r4]) _ rfl (HT.out.2.1.row _) Try.underlying80 rfl (info5i rfl) rfl ⟨by rw [H0.out], below_setRow HT.out.2.2.2.1 (Nat.le_succ _) _⟩
end

section
open Go.RowKit Go.Shelf Go.Proofs.YtihpnededldedaaW.PrintWords Go.Proofs.YtihpnededldedaaW.PrintLast Go.Proofs.YtihpnededldedaaW.PrintMore Go.Proofs.Ytihpnededldedaa.Pol

/-- A string's bytes as natural numbers. -/
def bts (t : ByteArray) (j : Nat) : Nat := (bt t (j : Int)).toNat
theorem bts_lt (t : ByteArray) (j : Nat) : bts t j < 256 := by have := bt_range t (j : Int); unfold bts; omega
theorem bts_int (t : ByteArray) (j : Nat) : bt t (j : Int) = (bts t j : Int) := by have := bt_range t (j : Int); unfold bts; omega
/-- Block g + 1 holds the limbs of the bytes so far, block g five zeros, the next the bytes; all below is as it was. -/
def Lim (w0 wr : World) (g : Nat) (T : TypeId) (t : ByteArray) (n : Nat) : Prop := Blk wr g T (wds .u64 zeros5) ∧ Blk wr (g + 1) T (wds .u64 (limbsN n)) ∧ Row wr (g + 1 + 1) .u8 (bytesOf t) ∧ Below w0.heap.size w0 wr ∧ w0.heap.size = g
theorem Lim.start (w : World) (T e : TypeId) (t : ByteArray) : Lim w (Lib.bytesWorld ((w.alloc (.cells (wds .u64 zeros5) T)).alloc (.cells (wds .u64 zeros5) T)) e t) w.heap.size T t 0 := by
  have hb := bytes_below (Below.refl ((w.alloc (.cells (wds .u64 zeros5) T)).alloc (.cells (wds .u64 zeros5) T)).heap.size ((w.alloc (.cells (wds .u64 zeros5) T)).alloc (.cells (wds .u64 zeros5) T))) (Nat.le_refl _) e t
  refine ⟨((Blk.new _ _ _).alloc _).below hb, ?_, ?_, (below_alloc (below_alloc (Below.refl _ _) _) _).trans (hb.mono (by simp; omega)), rfl⟩
  · exact Blk.below (Blk.new' _ _ _ _ (by simp)) hb
  · have := Row.bytes ((w.alloc (.cells (wds .u64 zeros5) T)).alloc (.cells (wds .u64 zeros5) T)) e t
    simpa using this
theorem Lim.set {w0 wr : World} {g : Nat} {T : TypeId} {t : ByteArray} {n m : Nat} (H : Lim w0 wr g T t n) (i v : Nat) (h : (limbsN n).set i v = limbsN m) : Lim w0 (wr.setCell ⟨g + 1, i, none⟩ (.int .u64 (v : Int))) g T t m :=
  ⟨H.1.other _ (by simp) _, (H.2.1.wset i v).eq (by rw [h]), H.2.2.1.other _ (by simp) _, H.2.2.2.1.setCell (p := ⟨g + 1, i, none⟩) (by have := H.2.2.2.2; simp; omega) _, H.2.2.2.2⟩
theorem Lim.drew {w0 wr : World} {g : Nat} {T : TypeId} {t : ByteArray} {n : Nat} (H : Lim w0 wr g T t n) : Lim w0 wr.drew g T t n := ⟨H.1.drew, H.2.1.drew, H.2.2.1.drew, H.2.2.2.1.drew, H.2.2.2.2⟩
theorem and_u8 (a b : Nat) (ha : a < 2 ^ 8) (hb : b < 2 ^ 8) : Go.bits .and .u8 (a : Int) (b : Int) = ((a &&& b : Nat) : Int) :=
  (bits_nat .u8 8 (by decide) (fun n h0 h1 => wraps_u8 n h0 h1) a b ha hb).1
theorem shl_one (r : Nat) (hr : r < 26) : IntKind.u64.wrap ((2 : Int) ^ r) = ((2 ^ r : Nat) : Int) := by
  have hp : 2 ^ r ≤ 2 ^ 25 := Nat.pow_le_pow_right (by decide) (by omega)
  have e : ((2 : Int) ^ r) = ((2 ^ r : Nat) : Int) := by push_cast; rfl
  rw [e]
  exact wraps_u64 _ (Int.natCast_nonneg _) (by omega)
/-- What one bit's step reckons. -/
theorem bit_names (t : ByteArray) (i b : Nat) (hi : i < 17) (hb : b < 8) (h16 : bts t 16 ≤ 1) (h1 : bts t i / 2 ^ b % 2 = 1) :
    ∃ q r P v n : Nat, (q < 5 ∧ (8 * i + b) / 26 = q ∧ (8 * i + b) % 26 = r ∧ r < 26) ∧ IntKind.u64.wrap ((2 : Int) ^ r) = (P : Int) ∧ (limbsN (bitsF (bts t) i b)).getD q 0 = v ∧
      Go.bits .or .u64 (v : Int) (P : Int) = (n : Int) ∧ (limbsN (bitsF (bts t) i b)).set q n = limbsN (bitsF (bts t) i (b + 1)) := by
  have hat : 8 * i + b < 130 := by
    by_cases e : i = 16
    · subst e
      have hz : b = 0 := by
        rcases Nat.eq_zero_or_pos b with h0 | h0
        · exact h0
        · have : bts t 16 / 2 ^ b = 0 := Nat.div_eq_of_lt (Nat.lt_of_le_of_lt h16 (Nat.one_lt_two_pow (by omega)))
          rw [this] at h1; cases h1
      omega
    · omega
  have hr : (8 * i + b) % 26 < 26 := Nat.mod_lt _ (by decide)
  refine ⟨(8 * i + b) / 26, (8 * i + b) % 26, 2 ^ ((8 * i + b) % 26), _, _, ⟨by omega, rfl, rfl, hr⟩, shl_one _ hr, rfl, or_u64 _ _ ?_ ?_, bit_in (bts t) (bts_lt t) i b h1 hat⟩
  · obtain ⟨a, b', c, d, e, hl, ha, hb', hc, hd, he⟩ := limbsN_L5 (bitsF (bts t) i b)
    rw [limb_at _ (limbsN_L5 _) _ (by omega)]
    exact Nat.lt_trans (Nat.mod_lt _ (by decide)) (by decide)
  · exact Nat.pow_lt_pow_right (by decide) (by omega)
theorem bit_of (y b : Nat) (hy : y < 256) : (y / 2 ^ b % 2 = 1 → Go.bits .and .u8 ((y : Int) / 2 ^ b) 1 = 1) ∧ (y / 2 ^ b % 2 = 0 → Go.bits .and .u8 ((y : Int) / 2 ^ b) 1 = 0) := by
  have hz : y / 2 ^ b < 256 := Nat.lt_of_le_of_lt (Nat.div_le_self _ _) hy
  have ha := and_u8 (y / 2 ^ b) 1 (by omega) (by decide)
  rw [Nat.and_one_is_mod] at ha
  push_cast at ha
  refine ⟨fun h => ?_, fun h => ?_⟩
  · have e := congrArg (fun n : Nat => (n : Int)) h
    push_cast at e
    rw [ha, e]
  · have e := congrArg (fun n : Nat => (n : Int)) h
    push_cast at e
    rw [ha, e]

set_option maxRecDepth 100000 in
set_option maxHeartbeats 8000000 in
theorem limbsOf_calls (t : ByteArray) (hs : t.size ≤ 17) (h16 : bts t 16 ≤ 1) (w : World) : Calls Try.prog 87 #[.string t] w fun e w' => e = .returned (.agg (wds .u64 (limbsN (numF (bts t) t.size)))) ∧ Below w.heap.size w w' := by
  have kb := fun W => print_bytes (P := Try.prog) 9 75 5 Try.underlying9 Try.underlying75 Try.underlying5 t W
  have H16 := Lib.hid h16
  clear h16
  go_enter Try.func87, Try.ntmps87
  refine wp_hide ?_
  intro Qx hQx
  have HQ := Lib.hid hQx
  clear hQx
  go_wp2
  clear kb
  go_loopg [11] t.size (fun gg s11 wr => ∃ i : Nat, s11 = .int .i64 i ∧ i ≤ t.size ∧ t.size ≤ gg + i ∧ Aside0 (Lim w wr w.heap.size 90 t (numF (bts t) i)))
  case atStart => exact ⟨0, rfl, by omega, by omega, ⟨Lim.start w _ _ t⟩⟩
  case round =>
    obtain ⟨i, rfl, hi, hg, HT⟩ := hrel
    by_cases hlt : i < t.size
    · have c1 : decide ((i : Int) < (t.size : Int)) = true := decide_eq_true (by omega)
      have c1' : decide (i < t.size) = true := decide_eq_true hlt
      obtain ⟨x0, _⟩ := HT.out.2.2.1.at (i : Int) (by omega) (by rw [bytesOf_length]; omega)
      rw [rd_bytesOf, bts_int, Int.toNat_natCast] at x0
      go_wp2
      have HF := Lib.hid (show bitsF (bts t) i 8 = numF (bts t) (i + 1) from bitsF_eight _ (bts_lt t) i)
      have hi17 : i < 17 := by omega
      rw [← bitsF_zero] at HT
      clear x0
      go_loopg [16] 8 (fun gg s16 wq => ∃ b : Nat, s16 = .int .i64 b ∧ b ≤ 8 ∧ 8 ≤ gg + b ∧ Aside0 (Lim w wq w.heap.size 90 t (bitsF (bts t) i b)))
      case atStart => exact ⟨0, rfl, by omega, by omega, HT⟩
      case round =>
        clear HT
        obtain ⟨b, rfl, hb, hg2, HT⟩ := hrel
        by_cases hltb : b < 8
        · have c2 : decide ((b : Int) < 8) = true := decide_eq_true (by omega)
          obtain ⟨hz1, hz0⟩ := bit_of (bts t i) b (bts_lt t i)
          by_cases h1 : bts t i / 2 ^ b % 2 = 1
          · obtain ⟨q, r, P, v, n, ⟨hq5, hq, hr, hr26⟩, hP, hv, hn, hset⟩ := bit_names t i b hi17 hltb H16.out h1
            have b1 := hz1 h1
            clear hz1 hz0 h1
            have x1 : wr.cell? ⟨w.heap.size + 1, q, none⟩ = some (.int .u64 (v : Int)) ∧ wr.frozen? ⟨w.heap.size + 1, q, none⟩ = false := by
              have := HT.out.2.1.wat q (by rw [(limbsN_L5 _).length]; exact hq5)
              rw [hv] at this; exact this
            have e1 : (8 * (i : Int) + (b : Int)) / 26 = (q : Int) := by omega
            have e2 : (8 * (i : Int) + (b : Int)) % 26 = (r : Int) := by omega
            have e3 : Int.tdiv (8 * (i : Int) + (b : Int)) 26 = (q : Int) := by rw [Int.tdiv_eq_ediv_of_nonneg (by omega)]; exact e1
            have e4 : Int.tmod (8 * (i : Int) + (b : Int)) 26 = (r : Int) := by rw [Int.tmod_eq_emod_of_nonneg (by omega)]; exact e2
            have p0 : (0 ≤ (q : Int)) = True := eq_true (by omega)
            have p1 : ((q : Int) < 5) = True := eq_true (by omega)
            have p2 : (q < 5) = True := eq_true hq5
            have p3 : (0 ≤ (r : Int)) = True := eq_true (by omega)
            have p4 : ((r : Int) < 0) = False := eq_false (by omega)
            have w1 : IntKind.i64.wrap (q : Int) = (q : Int) := wraps_i64 _ (by omega) (by omega)
            have w2 : IntKind.i64.wrap (r : Int) = (r : Int) := wraps_i64 _ (by omega) (by omega)
            have HSET := Lib.hid hset
            have HV := Lib.hid hv
            clear hset hv hq hr
            go_wp2
            go_still_tail 9, (by kernel_rfl)
            change wpList _ _ _ _ _ wr.drew
            have HD := Aside0.mk HT.out.drew
            clear x1 HT
            generalize wr.drew = wd at HD ⊢
            have x1 : wd.cell? ⟨w.heap.size + 1, q, none⟩ = some (.int .u64 (v : Int)) ∧ wd.frozen? ⟨w.heap.size + 1, q, none⟩ = false := by
              have := HD.out.2.1.wat q (by rw [(limbsN_L5 _).length]; exact hq5)
              rw [HV.out] at this; exact this
            go_wp2
            have HT := Aside0.mk (HD.out.set q n HSET.out)
            clear x1 HD HSET HV e1 e2 e3 e4 p0 p1 p2 p3 p4 w1 w2 hP hn b1
            generalize wd.setCell ⟨w.heap.size + 1, q, none⟩ (.int .u64 (n : Int)) = we at HT ⊢
            go_roundg (8 - (b + 1))
            case measure => omega
            case rel => exact ⟨b + 1, by go_num, by omega, by omega, HT⟩
          · have b0 := hz0 (by omega)
            rw [← bit_out (bts t) i b (by omega)] at HT
            clear hz1 hz0 h1
            go_wp2
            go_roundg (8 - (b + 1))
            case measure => omega
            case rel => exact ⟨b + 1, by go_num, by omega, by omega, HT⟩
        · have c2 : decide ((b : Int) < 8) = false := decide_eq_false (by omega)
          obtain rfl : b = 8 := by omega
          rw [HF.out] at HT
          clear HF
          go_wp2
          go_roundg (t.size - (i + 1))
          case measure => omega
          case rel => exact ⟨i + 1, by go_num, by omega, by omega, HT⟩
    · have c1 : decide ((i : Int) < (t.size : Int)) = false := decide_eq_false (by omega)
      have c1' : decide (i < t.size) = false := decide_eq_false hlt
      obtain rfl : i = t.size := by omega
      have hl5 := Lib.hid (limbsN_L5 (numF (bts t) t.size)).length
      go_wp2_with (first | ((with_reducible refine wpList_load_row (o := ⟨some 39, .load 90 (.tmp 3), _, _, _, _⟩) ?l1a 90 (.tmp 3) ?l1b (w.heap.size + 1) ?l1c 90 (wds .u64 (limbsN (numF (bts t) t.size))) (0, 0) ?l1z ?l1d ?l1e ?l1f ?l1g ?_); (case l1a => rfl); (case l1b => rfl); (case l1c => rfl); (case l1d => exact HT.out.2.1); (case l1e => exact Try.underlying90); (case l1f => rfl); (case l1g => exact info5u hl5.out)) | ((with_reducible refine wpList_store_row (o := ⟨none, .store 90 (.tmp 2) (.tmp 39), _, _, _, _⟩) ?s2a 90 (.tmp 2) (.tmp 39) ?s2b (w.heap.size) (wds .u64 (limbsN (numF (bts t) t.size))) ?s2c ?s2d 90 (wds .u64 zeros5) ?s2e ?s2f ?s2g ?s2h ?_); (case s2a => rfl); (case s2b => rfl); (case s2c => rfl); (case s2d => rfl); (case s2e => exact HT.out.1); (case s2f => exact info5u hl5.out); (case s2g => rw [wds_size, wds_size, hl5.out]; rfl); (case s2h => exact wds_one _ _)))
      refine HQ.out _ _ _ ?_
      refine ret_row (p := 2) (ty := 90) rfl w.heap.size 90 (wds .u64 (limbsN (numF (bts t) t.size))) _ rfl (HT.out.1.row _) Try.underlying90 rfl (info5u hl5.out) rfl ⟨rfl, below_setRow HT.out.2.2.2.1 (Nat.le_refl _) _⟩
end

section
open Go.RowKit Go.Shelf Go.Proofs.YtihpnededldedaaW.PrintWords Go.Proofs.YtihpnededldedaaW.PrintLast Go.Proofs.YtihpnededldedaaW.PrintMore Go.Proofs.Ytihpnededldedaa.Pol

/-- Block g holds five zeros, the next s; all below is as it was. -/
def Par (w0 wr : World) (g : Nat) (T : TypeId) (s : List Nat) : Prop := Blk wr g T (wds .i64 zeros5) ∧ Blk wr (g + 1) T (wds .i64 s) ∧ Below w0.heap.size w0 wr ∧ w0.heap.size = g
theorem Par.start (w : World) (T : TypeId) : Par w ((w.alloc (.cells (wds .i64 zeros5) T)).alloc (.cells (wds .i64 zeros5) T)) w.heap.size T (limbsN 0) :=
  ⟨(Blk.new _ _ _).alloc _, Blk.new' _ _ _ _ (by simp), below_alloc (below_alloc (Below.refl _ _) _) _, rfl⟩
theorem Par.set {w0 wr : World} {g : Nat} {T : TypeId} {s : List Nat} (H : Par w0 wr g T s) (i v : Nat) : Par w0 (wr.setCell ⟨g + 1, i, none⟩ (.int .i64 (v : Int))) g T (s.set i v) :=
  ⟨H.1.other _ (by simp) _, H.2.1.wset i v, H.2.2.1.setCell (p := ⟨g + 1, i, none⟩) (by have := H.2.2.2; simp; omega) _, H.2.2.2⟩
theorem Par.drew {w0 wr : World} {g : Nat} {T : TypeId} {s : List Nat} (H : Par w0 wr g T s) : Par w0 wr.drew g T s := ⟨H.1.drew, H.2.1.drew, H.2.2.1.drew, H.2.2.2⟩
theorem Par.eq {w0 wr : World} {g : Nat} {T : TypeId} {s s' : List Nat} (H : Par w0 wr g T s) (e : s = s') : Par w0 wr g T s' := e ▸ H
theorem shl_by (y r : Nat) (hy : y < 256) (hr : r < 26) : IntKind.i64.wrap ((y : Int) * 2 ^ r) = ((y * 2 ^ r : Nat) : Int) ∧ y * 2 ^ r < 2 ^ 34 := by
  have hp : 2 ^ r ≤ 2 ^ 25 := Nat.pow_le_pow_right (by decide) (by omega)
  have hm : y * 2 ^ r ≤ 255 * 2 ^ 25 := Nat.mul_le_mul (by omega) hp
  have e : ((y : Int) * 2 ^ r) = ((y * 2 ^ r : Nat) : Int) := by push_cast; rfl
  rw [e]
  exact ⟨wraps_i64 _ (Int.natCast_nonneg _) (by omega), by omega⟩
/-- What one byte's step reckons. -/
theorem part_names (t : ByteArray) (i : Nat) (hi : i < 17) :
    ∃ q r y s m v n : Nat, ((8 * i / 26 = q ∧ 8 * i % 26 = r ∧ r < 26 ∧ q < 5 ∧ (q = 4 → i ≠ 13 → True)) ∧ bts t i = y) ∧ IntKind.i64.wrap ((y : Int) * 2 ^ r) = (s : Int) ∧ Go.bits .and .i64 (s : Int) 67108863 = (m : Int) ∧
      (limbsN (numF (bts t) i)).getD q 0 = v ∧ IntKind.i64.wrap ((v : Int) + (m : Int)) = (n : Int) ∧
      (¬ (18 < r ∧ q < 4) → Hid ((limbsN (numF (bts t) i)).set q n = limbsN (numF (bts t) (i + 1)))) ∧
      (18 < r ∧ q < 4 → ∃ d v2 p n2 : Nat, d ≤ 26 ∧ IntKind.i64.wrap (26 - (r : Int)) = (d : Int) ∧ IntKind.i64.wrap ((q : Int) + 1) = ((q + 1 : Nat) : Int) ∧ (y : Int) / 2 ^ d = (p : Int) ∧
        ((limbsN (numF (bts t) i)).set q n).getD (q + 1) 0 = v2 ∧ IntKind.i64.wrap ((v2 : Int) + (p : Int)) = (n2 : Int) ∧ Hid (((limbsN (numF (bts t) i)).set q n).set (q + 1) n2 = limbsN (numF (bts t) (i + 1)))) := by
  have hb := bts_lt t i
  have hstep := byteStep i (numF (bts t) i) (bts t i) hi (numF_lt (bts t) (bts_lt t) i) hb
  have hr : 8 * i % 26 < 26 := Nat.mod_lt _ (by decide)
  obtain ⟨h1, h2⟩ := shl_by (bts t i) (8 * i % 26) hb hr
  have hv : ∀ q, (limbsN (numF (bts t) i)).getD q 0 < 67108864 := by
    intro q
    by_cases hq : q < 5
    · rw [limb_at _ (limbsN_L5 _) q hq]; exact Nat.mod_lt _ (by decide)
    · have : (limbsN (numF (bts t) i)).getD q 0 = 0 := by
        rw [List.getD_eq_getElem?_getD, List.getElem?_eq_none (by rw [(limbsN_L5 _).length]; omega)]; rfl
      omega
  have hm : bts t i * 2 ^ (8 * i % 26) % 67108864 < 67108864 := Nat.mod_lt _ (by decide)
  have hv1 := hv (8 * i / 26)
  unfold byteIn at hstep
  refine ⟨8 * i / 26, 8 * i % 26, bts t i, _, _, _, _, ⟨⟨rfl, rfl, hr, by omega, fun _ _ => trivial⟩, rfl⟩, h1, low_i64 _ (by omega), rfl, add_i64 _ _ _ rfl (by omega), fun hn => Lib.hid ?_, fun hy => ?_⟩
  · simp only [if_neg hn] at hstep
    exact hstep
  · simp only [if_pos hy] at hstep
    have hd : bts t i / 2 ^ (26 - 8 * i % 26) < 256 := Nat.lt_of_le_of_lt (Nat.div_le_self _ _) hb
    have hu : ((limbsN (numF (bts t) i)).set (8 * i / 26) ((limbsN (numF (bts t) i)).getD (8 * i / 26) 0 + bts t i * 2 ^ (8 * i % 26) % 67108864)).getD (8 * i / 26 + 1) 0 < 67108864 := by
      rw [List.getD_eq_getElem?_getD, List.getElem?_set_ne (by omega), ← List.getD_eq_getElem?_getD]; exact hv _
    refine ⟨26 - 8 * i % 26, _, bts t i / 2 ^ (26 - 8 * i % 26), _, by omega, ?_, ?_, by push_cast; rfl, rfl, add_i64 _ _ _ rfl (by omega), Lib.hid hstep⟩
    · rw [wraps_i64 _ (by omega) (by omega)]; omega
    · rw [wraps_i64 _ (by omega) (by omega)]; omega

set_option maxRecDepth 100000 in
set_option maxHeartbeats 8000000 in
theorem l03Parts_calls (t : ByteArray) (hs : 17 ≤ t.size) (w : World) : Calls Try.prog 80 #[.string t] w fun e w' => e = .returned (.agg (wds .i64 (limbsN (numF (bts t) 17)))) ∧ Below w.heap.size w w' := by
  go_enter Try.func80, Try.ntmps80
  refine wp_hide ?_
  intro Qx hQx
  have HQ := Lib.hid hQx
  clear hQx
  go_wp2
  go_loopg [4] 17 (fun gg s4 wr => ∃ i : Nat, s4 = .int .i64 i ∧ i ≤ 17 ∧ 17 ≤ gg + i ∧ Aside0 (Par w wr w.heap.size 80 (limbsN (numF (bts t) i))))
  case atStart => exact ⟨0, rfl, by omega, by omega, ⟨Par.start w _⟩⟩
  case round =>
    obtain ⟨i, rfl, hi, hg, HT⟩ := hrel
    by_cases hlt : i < 17
    · have c1 : decide ((i : Int) < 17) = true := decide_eq_true (by omega)
      obtain ⟨q, r, y, s, m, v, n, ⟨⟨hq, hr, hr26, hq5, _⟩, hy⟩, f1, f2, hv, f3, hno, hyes⟩ := part_names t i hlt
      have hlt' : i < t.size := by omega
      have hby : wrap64 ((t[i]'hlt').toNat : Int) = (y : Int) := by
        have h0 : bt t (i : Int) = ((t[i]'hlt').toNat : Int) := dif_pos hlt'
        have h1 := bts_lt t i
        rw [← h0, bts_int, hy]
        exact wrap_ok _ (by omega) (by omega)
      have hin : ((i : Int) < (t.size : Int)) = True := eq_true (by omega)
      have e1 : (8 * (i : Int)) / 26 = (q : Int) := by omega
      have e2 : (8 * (i : Int)) % 26 = (r : Int) := by omega
      have e3 : Int.tdiv (8 * (i : Int)) 26 = (q : Int) := by rw [Int.tdiv_eq_ediv_of_nonneg (by omega)]; exact e1
      have e4 : Int.tmod (8 * (i : Int)) 26 = (r : Int) := by rw [Int.tmod_eq_emod_of_nonneg (by omega)]; exact e2
      have p0 : (0 ≤ (q : Int)) = True := eq_true (by omega)
      have p1 : ((q : Int) < 5) = True := eq_true (by omega)
      have p2 : (q < 5) = True := eq_true hq5
      have p3 : (0 ≤ (r : Int)) = True := eq_true (by omega)
      have p4 : ((r : Int) < 0) = False := eq_false (by omega)
      have w1 : IntKind.i64.wrap (q : Int) = (q : Int) := wraps_i64 _ (by omega) (by omega)
      have w2 : IntKind.i64.wrap (r : Int) = (r : Int) := wraps_i64 _ (by omega) (by omega)
      have HV := Lib.hid hv
      have hwat : Hid (q < (limbsN (numF (bts t) i)).length) := Lib.hid (by rw [(limbsN_L5 _).length]; exact hq5)
      have hwat1 : Hid (q < 4 → q + 1 < ((limbsN (numF (bts t) i)).set q n).length) := Lib.hid (fun h => by rw [List.length_set, (limbsN_L5 _).length]; omega)
      generalize limbsN (numF (bts t) i) = cur at HT HV hno hyes hwat hwat1
      generalize hnxt : limbsN (numF (bts t) (i + 1)) = nxt at hno hyes
      have HNX := Lib.hid hnxt
      clear hnxt
      have x1 : wr.cell? ⟨w.heap.size + 1, q, none⟩ = some (.int .i64 (v : Int)) ∧ wr.frozen? ⟨w.heap.size + 1, q, none⟩ = false := by
        have := HT.out.2.1.wat q hwat.out
        rw [HV.out] at this; exact this
      have HNO := Lib.hid hno
      have HYES := Lib.hid hyes
      have HR := Lib.hid hr26
      clear hno hyes hv hq hr hy hr26
      go_wp2
      go_still_tail 11, (by kernel_rfl)
      change wpList _ _ _ _ _ wr.drew
      have HD := Aside0.mk HT.out.drew
      clear x1 HT
      generalize wr.drew = wd at HD ⊢
      have x1 : wd.cell? ⟨w.heap.size + 1, q, none⟩ = some (.int .i64 (v : Int)) ∧ wd.frozen? ⟨w.heap.size + 1, q, none⟩ = false := by
        have := HD.out.2.1.wat q hwat.out
        rw [HV.out] at this; exact this
      by_cases h18 : 18 < r
      · have t1 : decide ((18 : Int) < (r : Int)) = true := decide_eq_true (by omega)
        by_cases h4 : q < 4
        · have t2 : decide ((q : Int) < 4) = true := decide_eq_true (by omega)
          obtain ⟨d, v2, p, n2, hd26, g1, g2, g3, hv2, g4, HE⟩ := HYES.out ⟨h18, h4⟩
          have hw1 := hwat1.out h4
          have p5 : q + 1 < 5 := by omega
          go_wp2
          have HT := Aside0.mk (HD.out.set q n)
          clear x1 HD hwat1 HNO HYES
          generalize wd.setCell ⟨w.heap.size + 1, q, none⟩ (.int .i64 (n : Int)) = we at HT ⊢
          generalize cur.set q n = cur2 at HT hv2 HE hw1
          generalize q + 1 = q1 at g2 hv2 HE hw1 p5
          have p6 : (0 ≤ (q1 : Int)) = True := eq_true (by omega)
          have p7 : ((q1 : Int) < 5) = True := eq_true (by omega)
          have p8 : (q1 < 5) = True := eq_true p5
          have HV2 := Lib.hid hv2
          have HW1 := Lib.hid hw1
          have p11 : min d 64 = d := by omega
          have p9 : (0 ≤ (d : Int)) = True := eq_true (by omega)
          have p10 : ((d : Int) < 0) = False := eq_false (by omega)
          clear hv2 hw1 p5
          have x1 : we.cell? ⟨w.heap.size + 1, q1, none⟩ = some (.int .i64 (v2 : Int)) ∧ we.frozen? ⟨w.heap.size + 1, q1, none⟩ = false := by
            have := HT.out.2.1.wat q1 HW1.out
            rw [HV2.out] at this; exact this
          go_still_tail 12, (by kernel_rfl)
          change wpList _ _ _ _ _ we.drew
          have HD := Aside0.mk HT.out.drew
          clear x1 HT
          generalize we.drew = wf at HD ⊢
          have x1 : wf.cell? ⟨w.heap.size + 1, q1, none⟩ = some (.int .i64 (v2 : Int)) ∧ wf.frozen? ⟨w.heap.size + 1, q1, none⟩ = false := by
            have := HD.out.2.1.wat q1 HW1.out
            rw [HV2.out] at this; exact this
          go_wp2
          have HT := Aside0.mk ((HD.out.set q1 n2).eq (HE.out.trans HNX.out.symm))
          clear x1 HD HE e1 e2 e3 e4 p0 p1 p2 p3 p4 w1 w2 g1 g2 g3 g4 f1 f2 f3 p6 p7 p8 p9 p10 p11 hd26
          generalize wf.setCell ⟨w.heap.size + 1, q1, none⟩ (.int .i64 (n2 : Int)) = wg at HT ⊢
          go_roundg (17 - (i + 1))
          case measure => omega
          case rel => exact ⟨i + 1, by go_num, by omega, by omega, HT⟩
        · have t2 : decide ((q : Int) < 4) = false := decide_eq_false (by omega)
          have HE := HNO.out (fun h => h4 h.2)
          go_wp2
          have HT := Aside0.mk ((HD.out.set q n).eq (HE.out.trans HNX.out.symm))
          clear x1 HD HE e1 e2 e3 e4 p0 p1 p2 p3 p4 w1 w2 f1 f2 f3 hwat1 HNO HYES
          generalize wd.setCell ⟨w.heap.size + 1, q, none⟩ (.int .i64 (n : Int)) = we at HT ⊢
          go_roundg (17 - (i + 1))
          case measure => omega
          case rel => exact ⟨i + 1, by go_num, by omega, by omega, HT⟩
      · have t1 : decide ((18 : Int) < (r : Int)) = false := decide_eq_false (by omega)
        have HE := HNO.out (fun h => h18 h.1)
        go_wp2
        have HT := Aside0.mk ((HD.out.set q n).eq (HE.out.trans HNX.out.symm))
        clear x1 HD HE e1 e2 e3 e4 p0 p1 p2 p3 p4 w1 w2 f1 f2 f3 hwat1 HNO HYES
        generalize wd.setCell ⟨w.heap.size + 1, q, none⟩ (.int .i64 (n : Int)) = we at HT ⊢
        go_roundg (17 - (i + 1))
        case measure => omega
        case rel => exact ⟨i + 1, by go_num, by omega, by omega, HT⟩
    · have c1 : decide ((i : Int) < 17) = false := decide_eq_false (by omega)
      obtain rfl : i = 17 := by omega
      have hl5 := Lib.hid (limbsN_L5 (numF (bts t) 17)).length
      go_wp2_with (first | ((with_reducible refine wpList_load_row (o := ⟨some 49, .load 80 (.tmp 3), _, _, _, _⟩) ?l1a 80 (.tmp 3) ?l1b (w.heap.size + 1) ?l1c 80 (wds .i64 (limbsN (numF (bts t) 17))) (0, 0) ?l1z ?l1d ?l1e ?l1f ?l1g ?_); (case l1a => rfl); (case l1b => rfl); (case l1c => rfl); (case l1d => exact HT.out.2.1); (case l1e => exact Try.underlying80); (case l1f => rfl); (case l1g => exact info5i hl5.out)) | ((with_reducible refine wpList_store_row (o := ⟨none, .store 80 (.tmp 2) (.tmp 49), _, _, _, _⟩) ?s2a 80 (.tmp 2) (.tmp 49) ?s2b (w.heap.size) (wds .i64 (limbsN (numF (bts t) 17))) ?s2c ?s2d 80 (wds .i64 zeros5) ?s2e ?s2f ?s2g ?s2h ?_); (case s2a => rfl); (case s2b => rfl); (case s2c => rfl); (case s2d => rfl); (case s2e => exact HT.out.1); (case s2f => exact info5i hl5.out); (case s2g => rw [wds_size, wds_size, hl5.out]; rfl); (case s2h => exact wds_one _ _)))
      refine HQ.out _ _ _ ?_
      refine ret_row (p := 2) (ty := 80) rfl w.heap.size 80 (wds .i64 (limbsN (numF (bts t) 17))) _ rfl (HT.out.1.row _) Try.underlying80 rfl (info5i hl5.out) rfl ⟨rfl, below_setRow HT.out.2.2.1 (Nat.le_refl _) _⟩
end

section
open Go.RowKit Go.Shelf Go.Proofs.YtihpnededldedaaW.PrintWords Go.Proofs.YtihpnededldedaaW.PrintLast Go.Proofs.YtihpnededldedaaW.PrintMore Go.Proofs.Ytihpnededldedaa.Pol

/-- The first i bytes of the tag, and zeros behind. -/
def tagRow (n : Nat) (k : Nat → Nat) (i : Nat) : List Int := ((tagNums n k i).map fun (x : Nat) => (x : Int)) ++ List.replicate (16 - i) 0
theorem tagRow_length (n : Nat) (k : Nat → Nat) (i : Nat) (h : i ≤ 16) : (tagRow n k i).length = 16 := by
  unfold tagRow; rw [List.length_append, List.length_map, tagNums_length, List.length_replicate]; omega
theorem tagRow_set (n : Nat) (k : Nat → Nat) (i : Nat) (h : i < 16) : (tagRow n k i).set i (((tagSum n k i + (n / 256 ^ i % 256 + k i)) % 256 : Nat) : Int) = tagRow n k (i + 1) := by
  have e : List.replicate (16 - i) (0 : Int) = 0 :: List.replicate (16 - (i + 1)) 0 := by
    rw [show 16 - i = (16 - (i + 1)) + 1 by omega]; rfl
  unfold tagRow
  rw [e, List.set_append_right _ _ (by rw [List.length_map, tagNums_length]; omega), List.length_map, tagNums_length, Nat.sub_self, List.set_cons_zero, tagNums, List.map_append, List.append_assoc]
  rfl
theorem tagRow_end (n : Nat) (k : Nat → Nat) : tagRow n k 16 = (tagNums n k 16).map fun (x : Nat) => (x : Int) := by
  unfold tagRow; rw [Nat.sub_self, List.replicate_zero, List.append_nil]
theorem made16 : madeCells #[.int .u8 0] 16 = #[.int .u8 0, .int .u8 0, .int .u8 0, .int .u8 0, .int .u8 0, .int .u8 0, .int .u8 0, .int .u8 0, .int .u8 0, .int .u8 0, .int .u8 0, .int .u8 0, .int .u8 0, .int .u8 0, .int .u8 0, .int .u8 0] := by kernel_rfl
theorem Row.of_blk {w : World} {g : Nat} {t : TypeId} {k : IntKind} {xs : List Int} (h : Blk w g t (ints k xs)) : Row w g k xs := by
  refine ⟨h.lt, fun j hj => ?_⟩
  have := h.at j _ (ints_get k xs j hj)
  have e : rd xs (j : Int) = xs.getD j 0 := rfl
  rw [e] at this; exact this
/-- Block g holds v, the next the row; all below is as it was. -/
def Byt (w0 wr : World) (g : Nat) (T : TypeId) (v : List Nat) (xs : List Int) : Prop := Blk wr g T (wds .u64 v) ∧ Row wr (g + 1) .u8 xs ∧ Below w0.heap.size w0 wr ∧ w0.heap.size = g
theorem Byt.start (w : World) (T e : TypeId) (v : List Nat) (n : Nat) (k : Nat → Nat) : Byt w ((w.alloc (.cells (wds .u64 v) T)).alloc (.cells #[.int .u8 0, .int .u8 0, .int .u8 0, .int .u8 0, .int .u8 0, .int .u8 0, .int .u8 0, .int .u8 0, .int .u8 0, .int .u8 0, .int .u8 0, .int .u8 0, .int .u8 0, .int .u8 0, .int .u8 0, .int .u8 0] e)) w.heap.size T v (tagRow n k 0) :=
  ⟨(Blk.new _ _ _).alloc _, Row.of_blk (t := e) (Blk.new' _ _ _ _ (by simp)), below_alloc (below_alloc (Below.refl _ _) _) _, rfl⟩
theorem Byt.set {w0 wr : World} {g : Nat} {T : TypeId} {v : List Nat} {xs : List Int} (H : Byt w0 wr g T v xs) (i : Nat) (h : i < xs.length) (x : Int) : Byt w0 (wr.setCell ⟨g + 1, i, none⟩ (.int .u8 x)) g T v (xs.set i x) := by
  have hs := H.2.1.set (i : Int) (Int.natCast_nonneg _) (by omega) x
  rw [Int.toNat_natCast] at hs
  exact ⟨H.1.other _ (by simp) _, hs, H.2.2.1.setCell (p := ⟨g + 1, i, none⟩) (by have := H.2.2.2; simp; omega) _, H.2.2.2⟩
theorem and_one_u64 (v : Nat) (r : Nat) (hv : v < 67108864) : (v / 2 ^ r % 2 = 1 → Go.bits .and .u64 ((v : Int) / 2 ^ r) 1 = 1) ∧ (v / 2 ^ r % 2 = 0 → Go.bits .and .u64 ((v : Int) / 2 ^ r) 1 = 0) := by
  have hz : v / 2 ^ r < 67108864 := Nat.lt_of_le_of_lt (Nat.div_le_self _ _) hv
  have ha := and_u64 (v / 2 ^ r) 1 (by omega) (by decide)
  rw [Nat.and_one_is_mod] at ha
  push_cast at ha
  refine ⟨fun h => ?_, fun h => ?_⟩
  · have e := congrArg (fun n : Nat => (n : Int)) h
    push_cast at e
    rw [ha, e]
  · have e := congrArg (fun n : Nat => (n : Int)) h
    push_cast at e
    rw [ha, e]
theorem own_names (v : List Nat) (hv : L5 67108864 v) (i b : Nat) (hi : i < 16) (hb : b < 8) :
    ∃ q r x own own' : Nat, ((8 * i + b) / 26 = q ∧ (8 * i + b) % 26 = r ∧ r < 26 ∧ q < 5) ∧ v.getD q 0 = x ∧ val v / 256 ^ i % 2 ^ b = own ∧ val v / 256 ^ i % 2 ^ (b + 1) = own' ∧
      ((Go.bits .and .u64 ((x : Int) / 2 ^ r) 1 = 1 ∧ ∃ P : Nat, wrap64 ((2 : Int) ^ b) = (P : Int) ∧ Go.bits .or .i64 (own : Int) (P : Int) = (own' : Int)) ∨ (Go.bits .and .u64 ((x : Int) / 2 ^ r) 1 = 0 ∧ Go.bits .or .i64 (own : Int) 0 = (own' : Int))) := by
  have hat : 8 * i + b < 130 := by omega
  have hbit := bitOut v hv (8 * i + b) hat
  have hown := own_step (val v / 256 ^ i) b
  rw [byte_bit] at hown
  have hq : (8 * i + b) / 26 < 5 := by omega
  have hx : v.getD ((8 * i + b) / 26) 0 < 67108864 := by rw [limb_at v hv _ hq]; exact Nat.mod_lt _ (by decide)
  obtain ⟨h1, h0⟩ := and_one_u64 (v.getD ((8 * i + b) / 26) 0) ((8 * i + b) % 26) hx
  have hp : 2 ^ b ≤ 2 ^ 7 := Nat.pow_le_pow_right (by decide) (by omega)
  have hlt : val v / 256 ^ i % 2 ^ b < 2 ^ b := Nat.mod_lt _ (Nat.two_pow_pos b)
  refine ⟨_, _, _, _, _, ⟨rfl, rfl, Nat.mod_lt _ (by decide), hq⟩, rfl, rfl, rfl, ?_⟩
  rw [← hbit] at hown
  rcases Nat.mod_two_eq_zero_or_one (v.getD ((8 * i + b) / 26) 0 / 2 ^ ((8 * i + b) % 26)) with hz | hz
  · refine .inr ⟨h0 hz, ?_⟩
    rw [hz, Nat.zero_mul, Nat.or_zero] at hown
    have := or_i64' (val v / 256 ^ i % 2 ^ b) 0 (by omega) (by decide)
    rw [Nat.or_zero, hown] at this
    rw [hown]; exact this
  · refine .inl ⟨h1 hz, 2 ^ b, ?_, ?_⟩
    · have e : ((2 : Int) ^ b) = ((2 ^ b : Nat) : Int) := by push_cast; rfl
      rw [e]; exact wrap_ok _ (by omega) (by omega)
    · rw [hz, Nat.one_mul] at hown
      rw [or_i64' _ _ (by omega) (by omega), hown]

set_option maxRecDepth 100000 in
set_option maxHeartbeats 8000000 in
theorem bytes_calls (v : List Nat) (hv : L5 67108864 v) (key : ByteArray) (hk : 16 ≤ key.size) (w : World) : Calls Try.prog 92 #[.agg (wds .u64 v), .string key] w fun e w' => e = .returned (.string (strOfNums ((tagNums (val v) (bts key) 16).map fun (x : Nat) => (x : Int)))) ∧ Below w.heap.size w w' := by
  have mk := print_make (P := Try.prog) 75 5 .u8 1 Try.underlying75 (by kernel_rfl) (by decide) 16 (by decide)
  simp only [show ((16 : Nat) : Int) = 16 from rfl, made16] at mk
  have HV := Lib.hid hv
  have HK := Lib.hid hk
  clear hv hk
  go_enter Try.func92, Try.ntmps92
  refine wp_hide ?_
  intro Qx hQx
  have HQ := Lib.hid hQx
  clear hQx
  go_wp2
  clear mk
  go_loopg [6, 14] 16 (fun gg s6 s14 wr => ∃ i : Nat, s14 = .int .i64 i ∧ s6 = .int .i64 (tagSum (val v) (bts key) i) ∧ i ≤ 16 ∧ 16 ≤ gg + i ∧ Aside0 (Byt w wr w.heap.size 90 v (tagRow (val v) (bts key) i)))
  case atStart => exact ⟨0, rfl, rfl, by omega, by omega, ⟨Byt.start w _ _ v _ _⟩⟩
  case round =>
    obtain ⟨i, rfl, rfl, hi, hg, HT⟩ := hrel
    by_cases hlt : i < 16
    · have c1 : decide ((i : Int) < 16) = true := decide_eq_true (by omega)
      have hlt' : i < key.size := by have := HK.out; omega
      have hs1 := tagSum_le (val v) (bts key) (bts_lt key) i
      have HSUM := Lib.hid (show tagSum (val v) (bts key) (i + 1) = (tagSum (val v) (bts key) i + (val v / 256 ^ i % 256 + bts key i)) / 256 from rfl)
      have HSET := Lib.hid (tagRow_set (val v) (bts key) i hlt)
      have HLEN := Lib.hid (tagRow_length (val v) (bts key) i hi)
      generalize tagSum (val v) (bts key) i = cs at hs1 HSUM HSET ⊢
      go_wp2
      go_loopg [8, 17] 8 (fun gg s8 s17 wq => ∃ b own : Nat, s17 = .int .i64 b ∧ s8 = .int .i64 own ∧ b ≤ 8 ∧ 8 ≤ gg + b ∧ Aside0 (val v / 256 ^ i % 2 ^ b = own) ∧ Aside0 (Byt w wq w.heap.size 90 v (tagRow (val v) (bts key) i)))
      case atStart => exact ⟨0, 0, rfl, rfl, by omega, by omega, ⟨by rw [Nat.pow_zero, Nat.mod_one]⟩, HT⟩
      case round =>
        clear HT
        obtain ⟨b, own, rfl, rfl, hb, hg2, HO, HT⟩ := hrel
        by_cases hltb : b < 8
        · have c2 : decide ((b : Int) < 8) = true := decide_eq_true (by omega)
          obtain ⟨q, r, x, own0, own', ⟨hq, hr, hr26, hq5⟩, hx, ho, ho', hw⟩ := own_names v HV.out i b hlt hltb
          rw [HO.out] at ho
          subst ho
          have HO' := Aside0.mk ho'
          clear ho' HO
          have e1 : (8 * (i : Int) + (b : Int)) / 26 = (q : Int) := by omega
          have e2 : (8 * (i : Int) + (b : Int)) % 26 = (r : Int) := by omega
          have e3 : Int.tdiv (8 * (i : Int) + (b : Int)) 26 = (q : Int) := by rw [Int.tdiv_eq_ediv_of_nonneg (by omega)]; exact e1
          have e4 : Int.tmod (8 * (i : Int) + (b : Int)) 26 = (r : Int) := by rw [Int.tmod_eq_emod_of_nonneg (by omega)]; exact e2
          have p0 : (0 ≤ (q : Int)) = True := eq_true (by omega)
          have p1 : ((q : Int) < 5) = True := eq_true (by omega)
          have p2 : (q < 5) = True := eq_true hq5
          have p3 : (0 ≤ (r : Int)) = True := eq_true (by omega)
          have p4 : ((r : Int) < 0) = False := eq_false (by omega)
          have p5 : min r 64 = r := by omega
          have p6 : min b 64 = b := by omega
          have x1 : wr.cell? ⟨w.heap.size, q, none⟩ = some (.int .u64 (x : Int)) ∧ wr.frozen? ⟨w.heap.size, q, none⟩ = false := by
            have := HT.out.1.wat q (by rw [HV.out.length]; exact hq5)
            rw [hx] at this; exact this
          clear hx hq hr
          rcases hw with ⟨w1, P, w2, w3⟩ | ⟨w1, w2⟩
          · go_wp2
            go_roundg (8 - (b + 1))
            case measure => omega
            case rel => exact ⟨b + 1, own', by go_num, rfl, by omega, by omega, HO', HT⟩
          · go_wp2
            go_roundg (8 - (b + 1))
            case measure => omega
            case rel => exact ⟨b + 1, own', by go_num, rfl, by omega, by omega, HO', HT⟩
        · have c2 : decide ((b : Int) < 8) = false := decide_eq_false (by omega)
          obtain rfl : b = 8 := by omega
          have ho := HO.out
          rw [show (2 : Nat) ^ 8 = 256 from rfl] at ho
          rw [ho] at HSUM HSET
          have hown : own < 256 := by rw [← ho]; exact Nat.mod_lt _ (by decide)
          have hby : wrap64 ((key[i]'hlt').toNat : Int) = (bts key i : Int) := by
            have h0 : bt key (i : Int) = ((key[i]'hlt').toNat : Int) := dif_pos hlt'
            have h1 := bts_lt key i
            rw [← h0, bts_int]
            exact wrap_ok _ (by omega) (by omega)
          have hyl := bts_lt key i
          generalize bts key i = y at hby hyl HSUM HSET
          clear ho HO
          have x1 := HT.out.2.1.at (i : Int) (by omega) (by rw [HLEN.out]; omega)
          rw [Int.toNat_natCast] at x1
          go_wp2
          have HT2 : Aside0 (Byt w (wr.setCell ⟨w.heap.size + 1, i, none⟩ (.int .u8 (((cs : Int) + ((own : Int) + (y : Int))) % 256))) w.heap.size 90 v (tagRow (val v) (bts key) (i + 1))) := ⟨by
            have h := HT.out.set i (by rw [HLEN.out]; exact hlt) (((cs : Int) + ((own : Int) + (y : Int))) % 256)
            have e := HSET.out
            push_cast at e
            rw [e] at h; exact h⟩
          have HS6 := Lib.hid (show ((tagSum (val v) (bts key) (i + 1) : Nat) : Int) = ((cs : Int) + ((own : Int) + (y : Int))) / 256 by rw [HSUM.out]; push_cast; rfl)
          clear x1 HT HSET HSUM hby
          generalize wr.setCell ⟨w.heap.size + 1, i, none⟩ (.int .u8 (((cs : Int) + ((own : Int) + (y : Int))) % 256)) = we at HT2 ⊢
          go_roundg (16 - (i + 1))
          case measure => omega
          case rel => exact ⟨i + 1, by go_num, by rw [HS6.out], by omega, by omega, HT2⟩
    · have c1 : decide ((i : Int) < 16) = false := decide_eq_false (by omega)
      obtain rfl : i = 16 := by omega
      have hC := HT.out.2.1.C (by rw [tagRow_length _ _ _ (by omega)]; omega)
      rw [tagRow_length _ _ _ (by omega), tagRow_end] at hC
      have hcv : ∀ c : Nat, (convert 75 9 (.slice (some ⟨w.heap.size + 1, 0, none⟩) 16 c)).run Try.prog wr = .ok (.string (strOfNums ((tagNums (val v) (bts key) 16).map fun (x : Nat) => (x : Int)))) wr := fun c => by
        exact Kd.C_string Try.underlying75 Try.underlying5 Try.underlying9 hC
      generalize strOfNums ((tagNums (val v) (bts key) 16).map fun (x : Nat) => (x : Int)) = r at hcv HQ
      clear hC
      go_wp2
      refine HQ.out _ _ _ ?_
      go_ret
      exact ⟨rfl, HT.out.2.2.1⟩
end

end Go.Proofs.Ytihpnededldedaa.Leaf
