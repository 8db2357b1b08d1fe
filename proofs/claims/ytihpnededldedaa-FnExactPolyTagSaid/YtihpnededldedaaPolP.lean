/-
  The program's sum of limbs. Conditions: limbs below 2 to the 26.
-/
import Derived.Test.YtihpnededldedaaPolD
namespace Go.Proofs.Ytihpnededldedaa.Leaf
open Go.RowKit Go.Shelf Go.Proofs.YtihpnededldedaaW.PrintWords Go.Proofs.YtihpnededldedaaW.PrintLast Go.Proofs.YtihpnededldedaaW.PrintMore Go.Proofs.Ytihpnededldedaa.Pol

/-- Block g holds v, the next u, the next five zeros; all below is as it was. -/
def Tri (w0 wr : World) (g : Nat) (t : TypeId) (k : IntKind) (v u : List Nat) : Prop := Blk wr g t (wds k v) ∧ Blk wr (g + 1) t (wds k u) ∧ Blk wr (g + 1 + 1) t (wds k zeros5) ∧ Below w0.heap.size w0 wr ∧ w0.heap.size = g
theorem Tri.start (w : World) (t : TypeId) (k : IntKind) (v u : List Nat) : Tri w (((w.alloc (.cells (wds k v) t)).alloc (.cells (wds k u) t)).alloc (.cells (wds k zeros5) t)) w.heap.size t k v u :=
  ⟨((Blk.new _ _ _).alloc _).alloc _, (Blk.new' _ _ _ _ (by simp)).alloc _, Blk.new' _ _ _ _ (by simp), below_alloc (below_alloc (below_alloc (Below.refl _ _) _) _) _, rfl⟩
theorem Tri.set {w0 wr : World} {g : Nat} {t : TypeId} {k : IntKind} {v u : List Nat} (H : Tri w0 wr g t k v u) (i n : Nat) : Tri w0 (wr.setCell ⟨g, i, none⟩ (.int k (n : Int))) g t k (v.set i n) u :=
  ⟨H.1.wset i n, H.2.1.other _ (Nat.succ_ne_self _) _, H.2.2.1.other _ (by simp; omega) _, H.2.2.2.1.setCell (p := ⟨g, i, none⟩) (Nat.le_of_eq H.2.2.2.2) _, H.2.2.2.2⟩
theorem Tri.drew {w0 wr : World} {g : Nat} {t : TypeId} {k : IntKind} {v u : List Nat} (H : Tri w0 wr g t k v u) : Tri w0 wr.drew g t k v u := ⟨H.1.drew, H.2.1.drew, H.2.2.1.drew, H.2.2.2.1.drew, H.2.2.2.2⟩
theorem Tri.eq {w0 wr : World} {g : Nat} {t : TypeId} {k : IntKind} {v v' u : List Nat} (H : Tri w0 wr g t k v u) (e : v = v') : Tri w0 wr g t k v' u := e ▸ H
/-- What holds of the world at hand is all that is kept of it. -/
theorem wp_world {P : Program} {c : Code} {Q : Exit → Act → World → Prop} {a : Act} {W : World} (S : World → Prop) (hS : S W) (h : ∀ W', S W' → Code.wp P c Q a W') : Code.wp P c Q a W := h W hS
/-- The walk's end is kept closed: no step tries to reckon what is returned. -/
theorem wp_hide {P : Program} {c : Code} {Q : Exit → Act → World → Prop} {a : Act} {w : World} (h : ∀ Q' : Exit → Act → World → Prop, (∀ e a w, Q e a w → Q' e a w) → Code.wp P c Q' a w) : Code.wp P c Q a w := h Q fun _ _ _ h => h
theorem add_u64 (a b : Nat) (ha : a < 67108864) (hb : b < 67108864) : ∃ n : Nat, Hid (a + b = n) ∧ IntKind.u64.wrap ((a : Int) + (b : Int)) = (n : Int) :=
  ⟨a + b, Lib.hid rfl, add_w64 _ _ _ rfl (by omega)⟩

set_option maxRecDepth 100000 in
set_option maxHeartbeats 8000000 in
theorem plus_calls (v u : List Nat) (hv : L5 67108864 v) (hu : L5 67108864 u) (w : World) : Calls Try.prog 89 #[.agg (wds .u64 v), .agg (wds .u64 u)] w fun e w' => e = .returned (.agg (wds .u64 (carryN (addL v u) 3))) ∧ Below w.heap.size w w' := by
  have C := fun W => carried_calls (addL v u) ((addL_ok hv hu).1.mono (by decide)) W
  have H3 := Lib.hid (carry3 (addL v u) ((addL_ok hv hu).1.mono (by decide))).1
  have HA := Lib.hid (addL_ok hv hu).1.length
  obtain ⟨a, b, c, d, e, rfl, ha, hb, hc, hd, he⟩ := hv
  obtain ⟨r, s, t, x, y, rfl, hr, hs, ht, hx, hy⟩ := hu
  obtain ⟨n0, N0, s0⟩ := add_u64 a r ha hr
  obtain ⟨n1, N1, s1⟩ := add_u64 b s hb hs
  obtain ⟨n2, N2, s2⟩ := add_u64 c t hc ht
  obtain ⟨n3, N3, s3⟩ := add_u64 d x hd hx
  obtain ⟨n4, N4, s4⟩ := add_u64 e y he hy
  have HE := Lib.hid (show addL [a, b, c, d, e] [r, s, t, x, y] = [n0, n1, n2, n3, n4] by rw [← N0.out, ← N1.out, ← N2.out, ← N3.out, ← N4.out]; rfl)
  clear ha hb hc hd he hr hs ht hx hy N0 N1 N2 N3 N4
  generalize addL [a, b, c, d, e] [r, s, t, x, y] = q at C H3 HA HE
  have HS := Aside0.mk (Tri.start w 90 .u64 [a, b, c, d, e] [r, s, t, x, y])
  go_enter Try.func89, Try.ntmps89
  go_wp2
  refine wp_world (fun W => Tri w W w.heap.size 90 .u64 [a, b, c, d, e] [r, s, t, x, y]) HS.out ?_
  intro wb HW
  have HT := Aside0.mk HW
  clear HW HS
  refine wp_loop_rounds 6 ?_
  obtain ⟨x0, x1, x2, x3, x4⟩ := HT.out.1.five
  obtain ⟨y0, y1, y2, y3, y4⟩ := HT.out.2.1.five
  rw [rounds_succ]; go_wp2
  go_still_tail 8, (by kernel_rfl)
  change wpList _ _ _ _ _ wb.drew
  have T0 := Aside0.mk HT.out.drew
  clear x0 x1 x2 x3 x4 y0 y1 y2 y3 y4 HT
  generalize wb.drew = wa0 at T0 ⊢
  obtain ⟨x0, x1, x2, x3, x4⟩ := T0.out.1.five
  go_wp2
  have HT := Aside0.mk ((T0.out.set 0 n0).eq (show _ = [n0, b, c, d, e] from rfl))
  clear x0 x1 x2 x3 x4 T0
  generalize (wa0.setCell ⟨w.heap.size, 0, none⟩ (.int .u64 (n0 : Int))) = wb0 at HT ⊢
  obtain ⟨x0, x1, x2, x3, x4⟩ := HT.out.1.five
  obtain ⟨y0, y1, y2, y3, y4⟩ := HT.out.2.1.five
  rw [rounds_succ]; go_wp2
  go_still_tail 8, (by kernel_rfl)
  change wpList _ _ _ _ _ wb0.drew
  have T1 := Aside0.mk HT.out.drew
  clear x0 x1 x2 x3 x4 y0 y1 y2 y3 y4 HT
  generalize wb0.drew = wa1 at T1 ⊢
  obtain ⟨x0, x1, x2, x3, x4⟩ := T1.out.1.five
  go_wp2
  have HT := Aside0.mk ((T1.out.set 1 n1).eq (show _ = [n0, n1, c, d, e] from rfl))
  clear x0 x1 x2 x3 x4 T1
  generalize (wa1.setCell ⟨w.heap.size, 1, none⟩ (.int .u64 (n1 : Int))) = wb1 at HT ⊢
  obtain ⟨x0, x1, x2, x3, x4⟩ := HT.out.1.five
  obtain ⟨y0, y1, y2, y3, y4⟩ := HT.out.2.1.five
  rw [rounds_succ]; go_wp2
  go_still_tail 8, (by kernel_rfl)
  change wpList _ _ _ _ _ wb1.drew
  have T2 := Aside0.mk HT.out.drew
  clear x0 x1 x2 x3 x4 y0 y1 y2 y3 y4 HT
  generalize wb1.drew = wa2 at T2 ⊢
  obtain ⟨x0, x1, x2, x3, x4⟩ := T2.out.1.five
  go_wp2
  have HT := Aside0.mk ((T2.out.set 2 n2).eq (show _ = [n0, n1, n2, d, e] from rfl))
  clear x0 x1 x2 x3 x4 T2
  generalize (wa2.setCell ⟨w.heap.size, 2, none⟩ (.int .u64 (n2 : Int))) = wb2 at HT ⊢
  obtain ⟨x0, x1, x2, x3, x4⟩ := HT.out.1.five
  obtain ⟨y0, y1, y2, y3, y4⟩ := HT.out.2.1.five
  rw [rounds_succ]; go_wp2
  go_still_tail 8, (by kernel_rfl)
  change wpList _ _ _ _ _ wb2.drew
  have T3 := Aside0.mk HT.out.drew
  clear x0 x1 x2 x3 x4 y0 y1 y2 y3 y4 HT
  generalize wb2.drew = wa3 at T3 ⊢
  obtain ⟨x0, x1, x2, x3, x4⟩ := T3.out.1.five
  go_wp2
  have HT := Aside0.mk ((T3.out.set 3 n3).eq (show _ = [n0, n1, n2, n3, e] from rfl))
  clear x0 x1 x2 x3 x4 T3
  generalize (wa3.setCell ⟨w.heap.size, 3, none⟩ (.int .u64 (n3 : Int))) = wb3 at HT ⊢
  obtain ⟨x0, x1, x2, x3, x4⟩ := HT.out.1.five
  obtain ⟨y0, y1, y2, y3, y4⟩ := HT.out.2.1.five
  rw [rounds_succ]; go_wp2
  go_still_tail 8, (by kernel_rfl)
  change wpList _ _ _ _ _ wb3.drew
  have T4 := Aside0.mk HT.out.drew
  clear x0 x1 x2 x3 x4 y0 y1 y2 y3 y4 HT
  generalize wb3.drew = wa4 at T4 ⊢
  obtain ⟨x0, x1, x2, x3, x4⟩ := T4.out.1.five
  go_wp2
  have HT := Aside0.mk ((T4.out.set 4 n4).eq (show _ = [n0, n1, n2, n3, n4] from rfl))
  clear x0 x1 x2 x3 x4 T4
  generalize (wa4.setCell ⟨w.heap.size, 4, none⟩ (.int .u64 (n4 : Int))) = wb4 at HT ⊢
  rw [rounds_succ]
  have T6 := Aside0.mk (HT.out.eq HE.out.symm)
  clear HT HE
  go_wp2_with (first | ((with_reducible refine wpList_load_row (o := ⟨some 18, .load 90 (.tmp 2), _, _, _, _⟩) ?l1a 90 (.tmp 2) ?l1b (w.heap.size) ?l1c 90 (wds .u64 q) (0, 0) ?l1z ?l1d ?l1e ?l1f ?l1g ?_); (case l1a => rfl); (case l1b => rfl); (case l1c => rfl); (case l1d => exact T6.out.1); (case l1e => exact Try.underlying90); (case l1f => rfl); (case l1g => exact info5u HA.out)) | (go_at_call 108; with_reducible refine (C _).mono ?_; rintro e1 w1 ⟨rfl, hb1⟩; replace hb1 := Aside0.mk hb1) | ((with_reducible refine wpList_store_row (o := ⟨none, .store 90 (.tmp 4) (.tmp 19), _, _, _, _⟩) ?s2a 90 (.tmp 4) (.tmp 19) ?s2b (w.heap.size + 1 + 1) (wds .u64 (carryN q 3)) ?s2c ?s2d 90 (wds .u64 zeros5) ?s2e ?s2f ?s2g ?s2h ?_); (case s2a => rfl); (case s2b => rfl); (case s2c => rfl); (case s2d => rfl); (case s2e => exact (T6.out.2.2.1.below hb1.out)); (case s2f => exact info5u H3.out.length); (case s2g => rw [wds_size, wds_size, H3.out.length]; rfl); (case s2h => exact wds_one _ _)))
  refine ret_row (p := 4) (ty := 90) rfl (w.heap.size + 1 + 1) 90 (wds .u64 (carryN q 3)) _ rfl ((T6.out.2.2.1.below hb1.out).row _) Try.underlying90 rfl (info5u H3.out.length) rfl ⟨rfl, below_setRow (T6.out.2.2.2.1.trans (hb1.out.mono T6.out.2.2.2.1.size)) (by omega) _⟩

end Go.Proofs.Ytihpnededldedaa.Leaf
