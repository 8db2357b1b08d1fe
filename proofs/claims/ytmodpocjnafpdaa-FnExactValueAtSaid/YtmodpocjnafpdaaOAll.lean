/-
  (Oram).all: all blocks, the stash's first. Conditions: not more blocks than a bound.
-/
import Derived.Test.YtmodpocjnafpdaaConcat
import Derived.Test.YtmodpocjnafpdaaOraW
namespace Go.Proofs.Ytmodpocjnafpdaa.Leaf
open Go.RowKit Go.Shelf Go.Proofs.YtmodpocjnafpdaaW.PrintWords Go.Proofs.YtmodpocjnafpdaaW.PrintLast Go.Proofs.YtmodpocjnafpdaaW.PrintMore Go.Proofs.Ytmodpocjnafpdaa.POra

set_option maxRecDepth 100000 in
set_option maxHeartbeats 4000000 in
theorem all_c (x : Six) (p : List Int) (st : List S61) (bu : List (List S61)) (w : World) (h0 : Orm w x p st bu) (hs0 : st.length ≤ 1048576) (hb0 : bu.flatten.length ≤ 1048576) :
    Calls Try.prog 63 #[.agg #[.slice x.A0 p.length x.c0, .slice x.A1 st.length x.c1, .slice x.A2 bu.length x.c2]] w fun e w' => ∃ (A : Option Addr) (c : Nat), e = .returned (.slice A (st ++ bu.flatten).length c) ∧ Kd.C k61 w' A (st ++ bu.flatten).length (st ++ bu.flatten) ∧ (∀ ad, A = some ad → w.heap.size ≤ ad.block) ∧ Below w.heap.size w w' := by
  have h := Aside0.mk h0
  have HS := Aside0.mk hs0
  have HU := Aside0.mk hb0
  have HF := Aside0.mk (show slices_Clone_Block.f st = some st by unfold slices_Clone_Block.f; rw [if_pos (by omega)])
  have HL := Aside0.mk (show (st.length + bu.flatten.length) * 24 ≤ 140737488355328 by omega)
  have hinfo : (Try.prog.info? 61).map (fun i => (i.zero, i.size, i.bytes)) = some (some (.agg #[.int .i64 0, .int .i64 0, .int .i64 0]), 3, 24) := by kernel_rfl
  have HI := Lib.hid hinfo
  clear hinfo h0 hs0 hb0
  go_enter Try.func63, Try.ntmps63
  go_upto_region 1 with (first
    | ((with_reducible refine gate_dst (N := 1) rfl ?_); refine box_event ?hg (N := 1) ?hd (cs := #[.slice x.A0 p.length x.c0, .slice x.A1 st.length x.c1, .slice x.A2 bu.length x.c2]) (t := 40) ?hr ?_; (case hd => rfl); (case hg => rfl); (case hr => first | (go_simp; done) | (go_simp; rfl)); intro g0 hg0 w1 hbox0 hb; have H1 := Aside0.mk (h.out.below hb); have HB1 := Aside0.mk hb; have BX := Aside0.mk (show Box3 w1 g0 40 x p.length st.length bu.length from hbox0); clear hb h hbox0 hg0))
  have bd : Below w1.heap.size w1 w1.drew := below_drew (Below.refl _ _)
  have H2 := Aside0.mk (H1.out.below bd)
  have HB2 := Aside0.mk (HB1.out.trans (bd.mono HB1.out.size))
  have BX2 := Aside0.mk (BX.out.below bd)
  clear bd H1 HB1 BX
  refine start_ (n := 8) (S := fun W => W.cell? ⟨g0, 1, none⟩ = some (.slice x.A1 st.length x.c1) ∧ W.cell? ⟨g0, 2, none⟩ = some (.slice x.A2 bu.length x.c2)) (ds := []) #[false, false, false, false, false, false, false, false] (by kernel_rfl) rfl rfl ⟨BX2.out.cells.2.1, BX2.out.cells.2.2⟩ (fun hHeld => ?_)
  generalize w1.drew = w2 at H2 HB2 BX2 hHeld ⊢
  refine pure_ (i := 0) (N := some 3) (v := ?_) (a' := ?_) #[true, false, false, false, false, false, false, false] rfl rfl (by kernel_rfl) (fun _ _ _ h => h) (Or.inl ⟨by rfl, ?_⟩) ?_ ?_
  rotate_left
  · intro w'
    go_simp
    with_reducible rfl
  rotate_left
  · simp only [Act.put, List.setIfInBounds_toArray, List.set_cons_zero, List.set_cons_succ]
    rfl
  refine take_ (i := 1) (N := some 4) (v := ?_) (a' := ?_) #[true, true, false, false, false, false, false, false] rfl rfl (by kernel_rfl) (fun _ _ _ h => h) (Or.inl ⟨by rfl, ?_⟩) hHeld ?_ ?_
  rotate_left
  · rintro w' ⟨s0, s1⟩
    go_simp
    with_reducible rfl
  rotate_left
  · simp only [Act.put, List.setIfInBounds_toArray, List.set_cons_zero, List.set_cons_succ]
    rfl
  refine pure_ (i := 3) (N := some 6) (v := ?_) (a' := ?_) #[true, true, false, true, false, false, false, false] rfl rfl (by kernel_rfl) (fun _ _ _ h => h) (Or.inl ⟨by rfl, ?_⟩) ?_ ?_
  rotate_left
  · intro w'
    go_simp
    with_reducible rfl
  rotate_left
  · simp only [Act.put, List.setIfInBounds_toArray, List.set_cons_zero, List.set_cons_succ]
    rfl
  refine take_ (i := 4) (N := some 7) (v := ?_) (a' := ?_) #[true, true, false, true, true, false, false, false] rfl rfl (by kernel_rfl) (fun _ _ _ h => h) (Or.inl ⟨by rfl, ?_⟩) hHeld ?_ ?_
  rotate_left
  · rintro w' ⟨s0, s1⟩
    go_simp
    with_reducible rfl
  rotate_left
  · simp only [Act.put, List.setIfInBounds_toArray, List.set_cons_zero, List.set_cons_succ]
    rfl
  refine one_ (i := 2) (N := some 5) #[true, true, true, true, true, false, false, false] rfl rfl (by kernel_rfl) (by decide) (fun K hK => ?_)
  refine goes_ Try.func80 (by kernel_rfl) rfl #[.slice x.A1 st.length x.c1] (by rfl) rfl rfl (by (try simp only [List.map_toArray, List.map_cons, List.map_nil]); first | done | rfl) ?_
  refine (slices_Clone_Block.calls x.A1 x.c1 st st _ H2.out.h1 H2.out.l1 HF.out).mono ?_
  rintro e w3 ⟨v5, rfl, hr, hb⟩
  refine ⟨_, rfl, ?_⟩
  have H3 := Aside0.mk (H2.out.below hb)
  have R3 := Aside0.mk (Kd.R_lower hr HB2.out.size)
  have BX3 := Aside0.mk (BX2.out.below hb)
  have HB3 := Aside0.mk (HB2.out.trans (hb.mono HB2.out.size))
  clear hr hb H2 BX2 HB2
  refine hK.out _ _ ⟨BX3.out.cells.2.1, BX3.out.cells.2.2⟩ (fun hHeld => ?_)
  clear hK K
  refine norm_ (a' := ?_) ?_ ?_
  rotate_left
  · show Act.put _ (some 5) _ = _
    simp only [Act.put, List.setIfInBounds_toArray, List.set_cons_zero, List.set_cons_succ]
    rfl
  refine one_ (i := 5) (N := some 8) #[true, true, true, true, true, true, false, false] rfl rfl (by kernel_rfl) (by decide) (fun K hK => ?_)
  refine goes_ Try.func81 (by kernel_rfl) rfl #[.slice x.A2 bu.length x.c2] (by rfl) rfl rfl (by (try simp only [List.map_toArray, List.map_cons, List.map_nil]); first | done | rfl) ?_
  refine (concat_c x.A2 x.c2 bu HU.out _ H3.out.h2).mono ?_
  rintro e w4 ⟨v8, rfl, hr, hb⟩
  refine ⟨_, rfl, ?_⟩
  have R4 := Aside0.mk (Kd.R_below R3.out hb)
  have BX4 := Aside0.mk (BX3.out.below hb)
  have HB4 := Aside0.mk (HB3.out.trans (hb.mono HB3.out.size))
  obtain ⟨A8, c8, rfl⟩ := Kd.R_slice hr
  have C4 := Aside0.mk (Kd.R_reads' hr).2.2
  clear hr hb H3 R3 BX3 HB3
  refine hK.out _ _ ⟨BX4.out.cells.2.1, BX4.out.cells.2.2⟩ (fun hHeld => ?_)
  clear hK K
  refine norm_ (a' := ?_) ?_ ?_
  rotate_left
  · show Act.put _ (some 8) _ = _
    simp only [Act.put, List.setIfInBounds_toArray, List.set_cons_zero, List.set_cons_succ]
    rfl
  refine one_ (i := 6) (N := some 9) #[true, true, true, true, true, true, true, false] rfl rfl (by kernel_rfl) (by decide) (fun K hK => ?_)
  refine Kd.R_append_rows_step k61 (w0 := w) w.heap.size (by rfl) (.tmp 5) (.tmp 8) 37 61 (.agg #[.int .i64 0, .int .i64 0, .int .i64 0]) 24 rfl Try.underlying37 HI.out rfl (show 0 < 3 by decide) (by omega) v5 st bu.flatten _ _ _ (fun _ => True) (fun _ => False) rfl rfl R4.out C4.out (blk_KM _ _ _ _) (fun _ h => h.elim) (fun _ _ => trivial) HB4.out (below_size HB4.out) HL.out ?_
  intro v9 w5 ho hb hg hat
  obtain ⟨xs, hxs⟩ : ∃ xs, xs = st ++ bu.flatten := ⟨_, rfl⟩
  rw [← hxs] at ho
  have HX := Lib.hid hxs
  clear hxs
  have BX5 := Aside0.mk (show Box3 w5 g0 40 x p.length st.length bu.length from blk_grown (g := g0) BX4.out hg (Kd.R_ne R4.out BX4.out (by decide)))
  obtain ⟨A9, c9, rfl⟩ := Kd.R_slice ho
  have C5 := Aside0.mk (Kd.R_reads' ho).2.2
  have D5 := Aside0.mk (show ∀ ad, A9 = some ad → w.heap.size ≤ ad.block from fun ad e => Kd.R_base ho ad.block (by rw [e]; rfl))
  have HB5 := Aside0.mk hb
  clear ho hb hg hat R4 C4 BX4 HB4
  refine hK.out _ _ ⟨BX5.out.cells.2.1, BX5.out.cells.2.2⟩ (fun hHeld => ?_)
  clear hK K
  refine norm_ (a' := ?_) ?_ ?_
  rotate_left
  · show Act.put _ (some 9) _ = _
    simp only [Act.put, List.setIfInBounds_toArray, List.set_cons_zero, List.set_cons_succ]
    rfl
  refine pure_ (i := 7) (N := some 2) (v := ?_) (a' := ?_) #[true, true, true, true, true, true, true, true] rfl rfl (by kernel_rfl) (fun _ _ _ h => h) (Or.inl ⟨by rfl, ?_⟩) ?_ ?_
  rotate_left
  · intro w'
    go_simp
    with_reducible rfl
  rotate_left
  · simp only [Act.put, List.setIfInBounds_toArray, List.set_cons_zero, List.set_cons_succ]
    rfl
  refine done_ (by kernel_rfl) ?_
  go_wp2
  go_ret
  rw [← HX.out]
  exact ⟨A9, c9, rfl, C5.out, D5.out, HB5.out⟩

end Go.Proofs.Ytmodpocjnafpdaa.Leaf
