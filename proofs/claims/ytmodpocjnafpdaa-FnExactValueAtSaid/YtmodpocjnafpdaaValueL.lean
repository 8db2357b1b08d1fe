/-
  FnExactValueAt answers true: ValueAt gives what the reference gives. Conditions: none but those of the row.
-/
import Derived.Test.YtmodpocjnafpdaaValueP
import Derived.Test.YtmodpocjnafpdaaOokE
import Derived.Test.YtmodpocjnafpdaaPOrax16
namespace Go.Proofs.Ytmodpocjnafpdaa.Leaf
open Go.RowKit Go.Proofs.YtmodpocjnafpdaaW.PrintWords Go.Proofs.YtmodpocjnafpdaaW.PrintMore Go.Proofs.Ytmodpocjnafpdaa.POra

theorem specValueAt_c (k : Nat) (x : Six) (p : List Int) (st : List S61) (bu : List (List S61)) (id r1 r2 : Int) (w : World) (h : Orm w x p st bu) (hf : spec_ValueAt.f k p st bu id = some (r1, r2)) :
    Calls Try.prog 31 #[.agg #[.slice x.A0 p.length x.c0, .slice x.A1 st.length x.c1, .slice x.A2 bu.length x.c2], .int .i64 id] w fun e w' => e = .returned (.tuple #[.int .i64 r1, .int .i64 r2]) ∧ Below w.heap.size w w' :=
  spec_ValueAt.calls k x.A0 x.c0 p x.A1 x.c1 st x.A2 x.c2 bu id r1 r2 w h.h0 h.l0 h.h1 h.l1 h.h2 h.l2 hf

set_option maxRecDepth 100000 in
set_option maxHeartbeats 4000000 in
theorem ValueAt_walk1 (k : Nat) (x : Six) (p : List Int) (st : List S80) (bu : List (List S80)) (id x1 : Int) (w : World) (hA0 : OrL w x p st bu) (e1 : laws_szOram.f k p st bu 1048576 = some x1) (n1 : x1 < 0) :
    Calls Try.prog 9 #[.agg #[.slice x.A0 p.length x.c0, .slice x.A1 st.length x.c1, .slice x.A2 bu.length x.c2], .int .i64 id] w fun e w' => e = .returned (.bool true) ∧ Below w.heap.size w w' := by
  have hA := Aside0.mk hA0
  have E1 := Aside0.mk e1
  clear hA0 e1
  go_enter Try.func9, Try.ntmps9
  go_upto_region 2 with (first
    | ((with_reducible refine gate_dst (N := 2) rfl ?_); refine box_event ?hg (N := 2) ?hd (cs := #[.slice x.A0 p.length x.c0, .slice x.A1 st.length x.c1, .slice x.A2 bu.length x.c2]) (t := 34) ?hr ?_; (case hd => rfl); (case hg => rfl); (case hr => first | (go_simp; done) | (go_simp; rfl)); intro g0 hg0 w2 hbox0 hb; have H2 := Aside0.mk (One.mk (show Box3 w2 g0 34 x p.length st.length bu.length from hbox0) (hA.out.below hb) hb); clear hb hA hbox0 hg0))
  obtain ⟨a0, a1, a2⟩ := H2.out.b0.cells
  go_upto_region 3 with (go_at_call 17; refine (szOram_c k x p st bu 1048576 x1 _ H2.out.hA E1.out).mono ?_; rintro e w3 ⟨rfl, hb⟩; have H3 := Aside0.mk (H2.out.below hb); clear hb)
  clear a0 a1 a2 H2
  have d1 : decide (x1 < 0) = true := decide_eq_true n1
  go_wp2
  go_ret
  exact ⟨rfl, H3.out.bel⟩

set_option maxRecDepth 100000 in
set_option maxHeartbeats 4000000 in
theorem ValueAt_walk (k : Nat) (x : Six) (p : List Int) (st : List S80) (bu : List (List S80)) (id x1 : Int) (p' : List Int) (st' : List S61) (bu' : List (List S61)) (r1 r2 : Int) (w : World) (hA0 : OrL w x p st bu)
    (e1 : laws_szOram.f k p st bu 1048576 = some x1) (n1 : 0 ≤ x1) (e3 : laws_toOram.f k p st bu = some (p', st', bu')) (e5 : spec_ValueAt.f k p' st' bu' id = some (r1, r2))
    (e6 : ∀ (m : Six) (W : World), Orm W m p' st' bu' → Calls Try.prog 32 #[.agg #[.slice m.A0 p'.length m.c0, .slice m.A1 st'.length m.c1, .slice m.A2 bu'.length m.c2], .int .i64 id] W fun e w' => e = .returned (.tuple #[.int .i64 r1, .int .i64 r2]) ∧ Below W.heap.size W w')
    (e7 : laws_eqOram.f k p' st' bu' p' st' bu' = some true) :
    Calls Try.prog 9 #[.agg #[.slice x.A0 p.length x.c0, .slice x.A1 st.length x.c1, .slice x.A2 bu.length x.c2], .int .i64 id] w fun e w' => e = .returned (.bool true) ∧ Below w.heap.size w w' := by
  have hA := Aside0.mk hA0
  have E1 := Aside0.mk e1
  have E3 := Aside0.mk e3
  have E5 := Aside0.mk e5
  have E6 := Aside0.mk e6
  have E7 := Aside0.mk e7
  clear hA0 e1 e3 e5 e6 e7
  go_enter Try.func9, Try.ntmps9
  go_upto_region 2 with (first
    | ((with_reducible refine gate_dst (N := 2) rfl ?_); refine box_event ?hg (N := 2) ?hd (cs := #[.slice x.A0 p.length x.c0, .slice x.A1 st.length x.c1, .slice x.A2 bu.length x.c2]) (t := 34) ?hr ?_; (case hd => rfl); (case hg => rfl); (case hr => first | (go_simp; done) | (go_simp; rfl)); intro g0 hg0 w2 hbox0 hb; have H2 := Aside0.mk (One.mk (show Box3 w2 g0 34 x p.length st.length bu.length from hbox0) (hA.out.below hb) hb); clear hb hA hbox0 hg0))
  obtain ⟨a0, a1, a2⟩ := H2.out.b0.cells
  go_upto_region 3 with (go_at_call 17; refine (szOram_c k x p st bu 1048576 x1 _ H2.out.hA E1.out).mono ?_; rintro e w3 ⟨rfl, hb⟩; have H3 := Aside0.mk (H2.out.below hb); clear hb)
  clear a0 a1 a2 H2
  obtain ⟨a0, a1, a2⟩ := H3.out.b0.cells
  have d1 : decide (x1 < 0) = false := decide_eq_false (by omega)
  go_upto_region 6 with (first
    | (go_at_call 19; (with_reducible refine (toOram_c k x p st bu p' st' bu' _ H3.out.hA E3.out).mono ?_); rintro e w4 ⟨m0, rfl, hm, hb⟩; have H4 := Aside0.mk (H3.out.below hb); have M0 := Aside0.mk hm; clear hb hm H3)
    | (go_at_call 31; (with_reducible refine (specValueAt_c k m0 p' st' bu' id r1 r2 _ M0.out E5.out).mono ?_); rintro e w5 ⟨rfl, hb⟩; have H5 := Aside0.mk (H4.out.below hb); clear hb H4 M0))
  clear a0 a1 a2
  obtain ⟨a0, a1, a2⟩ := H5.out.b0.cells
  go_upto_region 7 with (first
    | (go_at_call 19; (with_reducible refine (toOram_c k x p st bu p' st' bu' _ H5.out.hA E3.out).mono ?_); rintro e w6 ⟨m1, rfl, hm, hb⟩; have H6 := Aside0.mk (H5.out.below hb); have M1 := Aside0.mk hm; clear hb hm H5 a0 a1 a2))
  have BX7 := Aside0.mk (Box3.new w6 40 m1 p'.length st'.length bu'.length)
  have bel7 : Below w6.heap.size w6 (w6.alloc (.cells #[.slice m1.A0 p'.length m1.c0, .slice m1.A1 st'.length m1.c1, .slice m1.A2 bu'.length m1.c2] 40)) := below_alloc (Below.refl _ _) _
  have H7 := Aside0.mk (H6.out.below bel7)
  have M7 := Aside0.mk (M1.out.below bel7)
  clear bel7 H6 M1
  generalize w6.alloc (.cells #[.slice m1.A0 p'.length m1.c0, .slice m1.A1 st'.length m1.c1, .slice m1.A2 bu'.length m1.c2] 40) = w7 at BX7 H7 M7 ⊢
  generalize w6.heap.size = gx at BX7 ⊢
  obtain ⟨a0, a1, a2⟩ := BX7.out.cells
  go_upto_region 8 with (first
    | (go_at_call 32; (with_reducible refine (E6.out m1 _ M7.out).mono ?_); rintro e w8 ⟨rfl, hb⟩; have H8 := Aside0.mk (H7.out.below hb); have M8 := Aside0.mk (M7.out.below hb); have BX8 := Aside0.mk (BX7.out.below hb); clear hb H7 M7 BX7 a0 a1 a2))
  have rr : (r1 != r1) = false := bne_self_eq_false r1
  have rr2 : (r2 != r2) = false := bne_self_eq_false r2
  go_wp2
  have H9 := Aside0.mk (H8.out.below (below_drew (Below.refl _ _)))
  have M9 := Aside0.mk (M8.out.below (below_drew (Below.refl _ _)))
  have BX9 := Aside0.mk (BX8.out.below (below_drew (Below.refl _ _)))
  clear H8 M8 BX8
  go_region_held3 (fun W => W.cell? ⟨gx, 0, none⟩ = some (.slice m1.A0 p'.length m1.c0) ∧ W.cell? ⟨gx, 1, none⟩ = some (.slice m1.A1 st'.length m1.c1) ∧ W.cell? ⟨gx, 2, none⟩ = some (.slice m1.A2 bu'.length m1.c2) ∧ W.cell? ⟨g0, 0, none⟩ = some (.slice x.A0 p.length x.c0) ∧ W.cell? ⟨g0, 1, none⟩ = some (.slice x.A1 st.length x.c1) ∧ W.cell? ⟨g0, 2, none⟩ = some (.slice x.A2 bu.length x.c2))
    (first | exact ⟨BX9.out.cells.1, BX9.out.cells.2.1, BX9.out.cells.2.2, H9.out.b0.cells.1, H9.out.b0.cells.2.1, H9.out.b0.cells.2.2⟩ | exact ⟨BX10.out.cells.1, BX10.out.cells.2.1, BX10.out.cells.2.2, H10.out.b0.cells.1, H10.out.b0.cells.2.1, H10.out.b0.cells.2.2⟩ | exact ⟨BX11.out.cells.1, BX11.out.cells.2.1, BX11.out.cells.2.2, H11.out.b0.cells.1, H11.out.b0.cells.2.1, H11.out.b0.cells.2.2⟩) (first
    | (go_at_call 19; (with_reducible refine (toOram_c k x p st bu p' st' bu' _ H9.out.hA E3.out).mono ?_); rintro e w10 ⟨m3, rfl, hm, hb⟩; have H10 := Aside0.mk (H9.out.below hb); have M10 := Aside0.mk (M9.out.below hb); have BX10 := Aside0.mk (BX9.out.below hb); have M3 := Aside0.mk hm; clear hb hm H9 M9 BX9)
    | (go_at_call 21; (with_reducible refine (eqOram_c k m1 m3 p' st' bu' p' st' bu' true _ M10.out M3.out E7.out).mono ?_); rintro e w11 ⟨rfl, hb⟩; have H11 := Aside0.mk (H10.out.below hb); have BX11 := Aside0.mk (BX10.out.below hb); clear hb M3 H10 M10 BX10))
  go_wp2
  go_ret
  exact ⟨rfl, H11.out.bel⟩

theorem FnExactValueAt_walk (x : Six) (p : List Int) (st : List S80) (bu : List (List S80)) (id : Int) (w : World) (hA : OrL w x p st bu) (iA : OrIn p st bu) :
    Calls Try.prog 9 #[.agg #[.slice x.A0 p.length x.c0, .slice x.A1 st.length x.c1, .slice x.A2 bu.length x.c2], .int .i64 id] w fun e w' => e = .returned (.bool true) ∧ Below w.heap.size w w' := by
  obtain ⟨x1, ⟨K1, e1⟩, h1⟩ := szOram_ev p st bu iA 1048576 (by decide) (by decide)
  rcases h1 with h1 | ⟨g0, g1, g2, g3, g4, g5⟩
  · exact ValueAt_walk1 K1 x p st bu id x1 w hA (e1 _ (Nat.le_refl _)) h1
  obtain ⟨K3, e3⟩ := toOram_ev p st bu g2 g3 g4 g5
  have rA : Rows (bu.map (List.map toBlk)) := ⟨by rw [List.length_map]; omega, fun z hz => by
    obtain ⟨v, hv, rfl⟩ := List.mem_map.1 hz
    have := g5 v hv
    rw [List.length_map]; omega⟩
  have rB : ∀ y ∈ bu.map (List.map toBlk), y.length ≤ 1048576 := fun z hz => by
    obtain ⟨v, hv, rfl⟩ := List.mem_map.1 hz
    have := g5 v hv
    rw [List.length_map]; omega
  have sA : (st.map toBlk).length ≤ 1048576 := by rw [List.length_map]; omega
  obtain ⟨K5, e5⟩ := specValue_ev p (st.map toBlk) (bu.map (List.map toBlk)) id sA rB
  have h7 := eqOram_ev p (st.map toBlk) (bu.map (List.map toBlk)) p (st.map toBlk) (bu.map (List.map toBlk)) (by omega) (by omega) rA
  rw [oramE_refl] at h7
  obtain ⟨K7, e7⟩ := h7
  exact ValueAt_walk (K1 + K3 + K5 + K7) x p st bu id x1 _ _ _ _ _ w hA (e1 _ (by omega)) g0 (e3 _ (by omega)) (e5 _ (by omega)) (fun m W hW => value_c m p _ _ id W hW sA) (e7 _ (by omega))

end Go.Proofs.Ytmodpocjnafpdaa.Leaf
