/-
  The walk of FnExactSameOram. Conditions: none but those of the row.
-/
import Derived.Test.YtmodpocjnafpdaaOraW
import Derived.Test.YtmodpocjnafpdaaPOrax3
import Derived.Test.YtmodpocjnafpdaaPOrax6
namespace Go.Proofs.Ytmodpocjnafpdaa.Leaf
open Go.RowKit Go.Proofs.YtmodpocjnafpdaaW.PrintWords Go.Proofs.YtmodpocjnafpdaaW.PrintMore Go.Proofs.Ytmodpocjnafpdaa.POra

theorem specSame_c (k : Nat) (x y : Six) (p : List Int) (st : List S61) (bu : List (List S61)) (q : List Int) (su : List S61) (cu : List (List S61)) (r : Bool) (w : World) (h : Orm w x p st bu) (g : Orm w y q su cu) (hf : spec_SameOram.f k p st bu q su cu = some r) :
    Calls Try.prog 18 #[.agg #[.slice x.A0 p.length x.c0, .slice x.A1 st.length x.c1, .slice x.A2 bu.length x.c2], .agg #[.slice y.A0 q.length y.c0, .slice y.A1 su.length y.c1, .slice y.A2 cu.length y.c2]] w fun e w' => e = .returned (.bool r) ∧ Below w.heap.size w w' :=
  spec_SameOram.calls k x.A0 x.c0 p x.A1 x.c1 st x.A2 x.c2 bu y.A0 y.c0 q y.A1 y.c1 su y.A2 y.c2 cu r w h.h0 h.l0 h.h1 h.l1 h.h2 h.l2 g.h0 g.l0 g.h1 g.l1 g.h2 g.l2 hf
theorem implSame_c (k : Nat) (x y : Six) (p : List Int) (st : List S61) (bu : List (List S61)) (q : List Int) (su : List S61) (cu : List (List S61)) (r : Bool) (w : World) (h : Orm w x p st bu) (g : Orm w y q su cu) (hf : impl_SameOram.f k p st bu q su cu = some r) :
    Calls Try.prog 20 #[.agg #[.slice x.A0 p.length x.c0, .slice x.A1 st.length x.c1, .slice x.A2 bu.length x.c2], .agg #[.slice y.A0 q.length y.c0, .slice y.A1 su.length y.c1, .slice y.A2 cu.length y.c2]] w fun e w' => e = .returned (.bool r) ∧ Below w.heap.size w w' :=
  impl_SameOram.calls k x.A0 x.c0 p x.A1 x.c1 st x.A2 x.c2 bu y.A0 y.c0 q y.A1 y.c1 su y.A2 y.c2 cu r w h.h0 h.l0 h.h1 h.l1 h.h2 h.l2 g.h0 g.l0 g.h1 g.l1 g.h2 g.l2 hf

/-- What holds from the boxing of the arguments on. -/
structure Two (w W : World) (g0 g1 : Nat) (x y : Six) (p : List Int) (st : List S80) (bu : List (List S80)) (q : List Int) (su : List S80) (cu : List (List S80)) : Prop where
  b0 : Box3 W g0 34 x p.length st.length bu.length
  b1 : Box3 W g1 34 y q.length su.length cu.length
  hA : OrL W x p st bu
  hB : OrL W y q su cu
  bel : Below w.heap.size w W
theorem Two.below {w W W' : World} {g0 g1 : Nat} {x y : Six} {p : List Int} {st : List S80} {bu : List (List S80)} {q : List Int} {su : List S80} {cu : List (List S80)} (h : Two w W g0 g1 x y p st bu q su cu) (hb : Below W.heap.size W W') : Two w W' g0 g1 x y p st bu q su cu :=
  ⟨h.b0.below hb, h.b1.below hb, h.hA.below hb, h.hB.below hb, h.bel.trans (hb.mono h.bel.size)⟩
theorem Two.six {w W : World} {g0 g1 : Nat} {x y : Six} {p : List Int} {st : List S80} {bu : List (List S80)} {q : List Int} {su : List S80} {cu : List (List S80)} (h : Two w W g0 g1 x y p st bu q su cu) :
    W.cell? ⟨g0, 0, none⟩ = some (.slice x.A0 p.length x.c0) ∧ W.cell? ⟨g0, 1, none⟩ = some (.slice x.A1 st.length x.c1) ∧ W.cell? ⟨g0, 2, none⟩ = some (.slice x.A2 bu.length x.c2) ∧ W.cell? ⟨g1, 0, none⟩ = some (.slice y.A0 q.length y.c0) ∧ W.cell? ⟨g1, 1, none⟩ = some (.slice y.A1 su.length y.c1) ∧ W.cell? ⟨g1, 2, none⟩ = some (.slice y.A2 cu.length y.c2) :=
  ⟨h.b0.cells.1, h.b0.cells.2.1, h.b0.cells.2.2, h.b1.cells.1, h.b1.cells.2.1, h.b1.cells.2.2⟩

set_option maxRecDepth 100000 in
set_option maxHeartbeats 4000000 in
theorem SameOram_walk1 (k : Nat) (x y : Six) (p : List Int) (st : List S80) (bu : List (List S80)) (q : List Int) (su : List S80) (cu : List (List S80))
    (x1 : Int) (w : World) (hA0 : OrL w x p st bu) (hB0 : OrL w y q su cu) (e1 : laws_szOram.f k p st bu 1048576 = some x1) (n1 : x1 < 0) :
    Calls Try.prog 5 #[.agg #[.slice x.A0 p.length x.c0, .slice x.A1 st.length x.c1, .slice x.A2 bu.length x.c2], .agg #[.slice y.A0 q.length y.c0, .slice y.A1 su.length y.c1, .slice y.A2 cu.length y.c2]] w fun e w' => e = .returned (.bool true) ∧ Below w.heap.size w w' := by
  have hA := Aside0.mk hA0
  have hB := Aside0.mk hB0
  clear hA0 hB0
  have E1 := Aside0.mk e1
  clear e1
  go_enter Try.func5, Try.ntmps5
  go_upto_region 2 with (first
    | ((with_reducible refine gate_dst (N := 2) rfl ?_); refine box_event ?hg (N := 2) ?hd (cs := #[.slice x.A0 p.length x.c0, .slice x.A1 st.length x.c1, .slice x.A2 bu.length x.c2]) (t := 34) ?hr ?_; (case hd => rfl); (case hg => rfl); (case hr => first | (go_simp; done) | (go_simp; rfl)); intro g0 hg0 w1 hbox0 hb; have HA := Aside0.mk (hA.out.below hb); have HB := Aside0.mk (hB.out.below hb); have HL := Aside0.mk hb; have BX := Aside0.mk (show Box3 w1 g0 34 x p.length st.length bu.length from hbox0); clear hb hA hB hbox0 hg0)
    | ((with_reducible refine gate_dst (N := 3) rfl ?_); refine box_event ?hg (N := 3) ?hd (cs := #[.slice y.A0 q.length y.c0, .slice y.A1 su.length y.c1, .slice y.A2 cu.length y.c2]) (t := 34) ?hr ?_; (case hd => rfl); (case hg => rfl); (case hr => first | (go_simp; done) | (go_simp; rfl)); intro g1 hg1 w2 hbox1 hb; have H2 := Aside0.mk (Two.mk (w := w) (BX.out.below hb) (show Box3 w2 g1 34 y q.length su.length cu.length from hbox1) (HA.out.below hb) (HB.out.below hb) (HL.out.trans (hb.mono HL.out.size))); clear hb HA HB HL BX hbox1 hg1))
  obtain ⟨a0, a1, a2⟩ := H2.out.b0.cells
  obtain ⟨b0, b1, b2⟩ := H2.out.b1.cells
  go_upto_region 3 with (go_at_call 17; refine (szOram_c k x p st bu 1048576 x1 _ H2.out.hA E1.out).mono ?_; rintro e w3 ⟨rfl, hb⟩; have H3 := Aside0.mk (H2.out.below hb); clear hb)
  clear a0 a1 a2 b0 b1 b2 H2
  have d1 : decide (x1 < 0) = true := decide_eq_true n1
  go_wp2
  go_ret
  exact ⟨rfl, H3.out.bel⟩

set_option maxRecDepth 100000 in
set_option maxHeartbeats 4000000 in
theorem SameOram_walk2 (k : Nat) (x y : Six) (p : List Int) (st : List S80) (bu : List (List S80)) (q : List Int) (su : List S80) (cu : List (List S80))
    (x1 x2 : Int) (w : World) (hA0 : OrL w x p st bu) (hB0 : OrL w y q su cu) (e1 : laws_szOram.f k p st bu 1048576 = some x1) (n1 : 0 ≤ x1) (e2 : laws_szOram.f k q su cu x1 = some x2) (n2 : x2 < 0) :
    Calls Try.prog 5 #[.agg #[.slice x.A0 p.length x.c0, .slice x.A1 st.length x.c1, .slice x.A2 bu.length x.c2], .agg #[.slice y.A0 q.length y.c0, .slice y.A1 su.length y.c1, .slice y.A2 cu.length y.c2]] w fun e w' => e = .returned (.bool true) ∧ Below w.heap.size w w' := by
  have hA := Aside0.mk hA0
  have hB := Aside0.mk hB0
  clear hA0 hB0
  have E1 := Aside0.mk e1
  have E2 := Aside0.mk e2
  clear e1 e2
  go_enter Try.func5, Try.ntmps5
  go_upto_region 2 with (first
    | ((with_reducible refine gate_dst (N := 2) rfl ?_); refine box_event ?hg (N := 2) ?hd (cs := #[.slice x.A0 p.length x.c0, .slice x.A1 st.length x.c1, .slice x.A2 bu.length x.c2]) (t := 34) ?hr ?_; (case hd => rfl); (case hg => rfl); (case hr => first | (go_simp; done) | (go_simp; rfl)); intro g0 hg0 w1 hbox0 hb; have HA := Aside0.mk (hA.out.below hb); have HB := Aside0.mk (hB.out.below hb); have HL := Aside0.mk hb; have BX := Aside0.mk (show Box3 w1 g0 34 x p.length st.length bu.length from hbox0); clear hb hA hB hbox0 hg0)
    | ((with_reducible refine gate_dst (N := 3) rfl ?_); refine box_event ?hg (N := 3) ?hd (cs := #[.slice y.A0 q.length y.c0, .slice y.A1 su.length y.c1, .slice y.A2 cu.length y.c2]) (t := 34) ?hr ?_; (case hd => rfl); (case hg => rfl); (case hr => first | (go_simp; done) | (go_simp; rfl)); intro g1 hg1 w2 hbox1 hb; have H2 := Aside0.mk (Two.mk (w := w) (BX.out.below hb) (show Box3 w2 g1 34 y q.length su.length cu.length from hbox1) (HA.out.below hb) (HB.out.below hb) (HL.out.trans (hb.mono HL.out.size))); clear hb HA HB HL BX hbox1 hg1))
  obtain ⟨a0, a1, a2⟩ := H2.out.b0.cells
  obtain ⟨b0, b1, b2⟩ := H2.out.b1.cells
  go_upto_region 3 with (go_at_call 17; refine (szOram_c k x p st bu 1048576 x1 _ H2.out.hA E1.out).mono ?_; rintro e w3 ⟨rfl, hb⟩; have H3 := Aside0.mk (H2.out.below hb); clear hb)
  clear a0 a1 a2 b0 b1 b2 H2
  obtain ⟨a0, a1, a2⟩ := H3.out.b0.cells
  obtain ⟨b0, b1, b2⟩ := H3.out.b1.cells
  have d1 : decide (x1 < 0) = false := decide_eq_false (by omega)
  have d2 : decide (x2 < 0) = true := decide_eq_true n2
  go_upto_region 6 with (go_at_call 17; refine (szOram_c k y q su cu x1 x2 _ H3.out.hB E2.out).mono ?_; rintro e w4 ⟨rfl, hb⟩; have H4 := Aside0.mk (H3.out.below hb); clear hb)
  clear a0 a1 a2 b0 b1 b2 H3
  go_wp2
  go_ret
  exact ⟨rfl, H4.out.bel⟩

set_option maxRecDepth 100000 in
set_option maxHeartbeats 4000000 in
theorem SameOram_walk (k : Nat) (x y : Six) (p : List Int) (st : List S80) (bu : List (List S80)) (q : List Int) (su : List S80) (cu : List (List S80))
    (x1 x2 : Int) (p' : List Int) (st' : List S61) (bu' : List (List S61)) (q' : List Int) (su' : List S61) (cu' : List (List S61)) (r : Bool)
    (w : World) (hA0 : OrL w x p st bu) (hB0 : OrL w y q su cu)
    (e1 : laws_szOram.f k p st bu 1048576 = some x1) (n1 : 0 ≤ x1) (e2 : laws_szOram.f k q su cu x1 = some x2) (n2 : 0 ≤ x2)
    (e3 : laws_toOram.f k p st bu = some (p', st', bu')) (e4 : laws_toOram.f k q su cu = some (q', su', cu'))
    (e5 : spec_SameOram.f k p' st' bu' q' su' cu' = some r) (e6 : impl_SameOram.f k p' st' bu' q' su' cu' = some r)
    (e7 : laws_eqOram.f k p' st' bu' p' st' bu' = some true) (e8 : laws_eqOram.f k q' su' cu' q' su' cu' = some true) :
    Calls Try.prog 5 #[.agg #[.slice x.A0 p.length x.c0, .slice x.A1 st.length x.c1, .slice x.A2 bu.length x.c2], .agg #[.slice y.A0 q.length y.c0, .slice y.A1 su.length y.c1, .slice y.A2 cu.length y.c2]] w fun e w' => e = .returned (.bool true) ∧ Below w.heap.size w w' := by
  have hA := Aside0.mk hA0
  have hB := Aside0.mk hB0
  clear hA0 hB0
  have E1 := Aside0.mk e1
  have E2 := Aside0.mk e2
  have E3 := Aside0.mk e3
  have E4 := Aside0.mk e4
  have E5 := Aside0.mk e5
  have E6 := Aside0.mk e6
  have E7 := Aside0.mk e7
  have E8 := Aside0.mk e8
  clear e1 e2 e3 e4 e5 e6 e7 e8
  go_enter Try.func5, Try.ntmps5
  go_upto_region 2 with (first
    | ((with_reducible refine gate_dst (N := 2) rfl ?_); refine box_event ?hg (N := 2) ?hd (cs := #[.slice x.A0 p.length x.c0, .slice x.A1 st.length x.c1, .slice x.A2 bu.length x.c2]) (t := 34) ?hr ?_; (case hd => rfl); (case hg => rfl); (case hr => first | (go_simp; done) | (go_simp; rfl)); intro g0 hg0 w1 hbox0 hb; have HA := Aside0.mk (hA.out.below hb); have HB := Aside0.mk (hB.out.below hb); have HL := Aside0.mk hb; have BX := Aside0.mk (show Box3 w1 g0 34 x p.length st.length bu.length from hbox0); clear hb hA hB hbox0 hg0)
    | ((with_reducible refine gate_dst (N := 3) rfl ?_); refine box_event ?hg (N := 3) ?hd (cs := #[.slice y.A0 q.length y.c0, .slice y.A1 su.length y.c1, .slice y.A2 cu.length y.c2]) (t := 34) ?hr ?_; (case hd => rfl); (case hg => rfl); (case hr => first | (go_simp; done) | (go_simp; rfl)); intro g1 hg1 w2 hbox1 hb; have H2 := Aside0.mk (Two.mk (w := w) (BX.out.below hb) (show Box3 w2 g1 34 y q.length su.length cu.length from hbox1) (HA.out.below hb) (HB.out.below hb) (HL.out.trans (hb.mono HL.out.size))); clear hb HA HB HL BX hbox1 hg1))
  obtain ⟨a0, a1, a2⟩ := H2.out.b0.cells
  obtain ⟨b0, b1, b2⟩ := H2.out.b1.cells
  go_upto_region 3 with (go_at_call 17; refine (szOram_c k x p st bu 1048576 x1 _ H2.out.hA E1.out).mono ?_; rintro e w3 ⟨rfl, hb⟩; have H3 := Aside0.mk (H2.out.below hb); clear hb)
  clear a0 a1 a2 b0 b1 b2 H2
  obtain ⟨a0, a1, a2⟩ := H3.out.b0.cells
  obtain ⟨b0, b1, b2⟩ := H3.out.b1.cells
  have d1 : decide (x1 < 0) = false := decide_eq_false (by omega)
  have d2 : decide (x2 < 0) = false := decide_eq_false (by omega)
  go_upto_region 6 with (go_at_call 17; refine (szOram_c k y q su cu x1 x2 _ H3.out.hB E2.out).mono ?_; rintro e w4 ⟨rfl, hb⟩; have H4 := Aside0.mk (H3.out.below hb); clear hb)
  clear a0 a1 a2 b0 b1 b2 H3
  obtain ⟨a0, a1, a2⟩ := H4.out.b0.cells
  obtain ⟨b0, b1, b2⟩ := H4.out.b1.cells
  go_wp2 --8
  have H5 := Aside0.mk (H4.out.below (below_drew (Below.refl _ _)))
  clear H4
  go_region_held3 (fun W => W.cell? ⟨g0, 0, none⟩ = some (.slice x.A0 p.length x.c0) ∧ W.cell? ⟨g0, 1, none⟩ = some (.slice x.A1 st.length x.c1) ∧ W.cell? ⟨g0, 2, none⟩ = some (.slice x.A2 bu.length x.c2) ∧ W.cell? ⟨g1, 0, none⟩ = some (.slice y.A0 q.length y.c0) ∧ W.cell? ⟨g1, 1, none⟩ = some (.slice y.A1 su.length y.c1) ∧ W.cell? ⟨g1, 2, none⟩ = some (.slice y.A2 cu.length y.c2))
    (first | exact Two.six H5.out | exact Two.six H6.out | exact Two.six H7.out | exact Two.six H8.out) (first
    | (go_at_call 19; with_reducible refine (toOram_c k x p st bu p' st' bu' _ H5.out.hA E3.out).mono ?_; rintro e w6 ⟨m1, rfl, hm, hb⟩; have H6 := Aside0.mk (H5.out.below hb); have M1 := Aside0.mk hm; clear hb hm H5)
    | (go_at_call 19; with_reducible refine (toOram_c k y q su cu q' su' cu' _ H6.out.hB E4.out).mono ?_; rintro e w7 ⟨m2, rfl, hm, hb⟩; have H7 := Aside0.mk (H6.out.below hb); have M2 := Aside0.mk hm; have M3 := Aside0.mk (M1.out.below hb); clear hb hm H6 M1)
    | (go_at_call 18; with_reducible refine (specSame_c k m1 m2 p' st' bu' q' su' cu' r _ M3.out M2.out E5.out).mono ?_; rintro e w8 ⟨rfl, hb⟩; have H8 := Aside0.mk (H7.out.below hb); clear hb H7 M2 M3))
  obtain ⟨a0, a1, a2, b0, b1, b2⟩ := Two.six H8.out
  go_upto_region 10 with (first
    | (go_at_call 19; with_reducible refine (toOram_c k x p st bu p' st' bu' _ H8.out.hA E3.out).mono ?_; rintro e w9 ⟨m1, rfl, hm, hb⟩; have H9 := Aside0.mk (H8.out.below hb); have M1 := Aside0.mk hm; clear hb hm a0 a1 a2 b0 b1 b2 H8))
  have BX10 := Aside0.mk (Box3.new w9 40 m1 p'.length st'.length bu'.length)
  have bel10 : Below w9.heap.size w9 (w9.alloc (.cells #[.slice m1.A0 p'.length m1.c0, .slice m1.A1 st'.length m1.c1, .slice m1.A2 bu'.length m1.c2] 40)) := below_alloc (Below.refl _ _) _
  have H10 := Aside0.mk (H9.out.below bel10)
  have N10 := Aside0.mk (M1.out.below bel10)
  clear bel10 H9 M1 
  generalize w9.alloc (.cells #[.slice m1.A0 p'.length m1.c0, .slice m1.A1 st'.length m1.c1, .slice m1.A2 bu'.length m1.c2] 40) = w10 at BX10 H10 N10  ⊢
  generalize w9.heap.size = gx10 at BX10 ⊢
  obtain ⟨a0, a1, a2, b0, b1, b2⟩ := Two.six H10.out
  go_upto_region 11 with (first
    | (go_at_call 19; with_reducible refine (toOram_c k y q su cu q' su' cu' _ H10.out.hB E4.out).mono ?_; rintro e w11 ⟨m2, rfl, hm, hb⟩; have H11 := Aside0.mk (H10.out.below hb); have M2 := Aside0.mk hm; have N11 := Aside0.mk (N10.out.below hb); have BX11 := Aside0.mk (BX10.out.below hb); clear hb hm a0 a1 a2 b0 b1 b2 H10 N10 BX10))
  have BX12 := Aside0.mk (Box3.new w11 40 m2 q'.length su'.length cu'.length)
  have bel12 : Below w11.heap.size w11 (w11.alloc (.cells #[.slice m2.A0 q'.length m2.c0, .slice m2.A1 su'.length m2.c1, .slice m2.A2 cu'.length m2.c2] 40)) := below_alloc (Below.refl _ _) _
  have H12 := Aside0.mk (H11.out.below bel12)
  have N12 := Aside0.mk (M2.out.below bel12)
  have NA12 := Aside0.mk (N11.out.below bel12)
  have BA12 := Aside0.mk (BX11.out.below bel12)
  clear bel12 H11 M2 N11 BX11
  generalize w11.alloc (.cells #[.slice m2.A0 q'.length m2.c0, .slice m2.A1 su'.length m2.c1, .slice m2.A2 cu'.length m2.c2] 40) = w12 at BX12 H12 N12 NA12 BA12 ⊢
  generalize w11.heap.size = gx12 at BX12 ⊢
  obtain ⟨a0, a1, a2⟩ := BA12.out.cells
  obtain ⟨b0, b1, b2⟩ := BX12.out.cells
  go_upto_region 12 with (first
    | (go_at_call 20; with_reducible refine (implSame_c k m1 m2 p' st' bu' q' su' cu' r _ NA12.out N12.out E6.out).mono ?_; rintro e w13 ⟨rfl, hb⟩; have H13 := Aside0.mk (H12.out.below hb); have N13 := Aside0.mk (N12.out.below hb); have NA13 := Aside0.mk (NA12.out.below hb); have BA13 := Aside0.mk (BA12.out.below hb); have BX13 := Aside0.mk (BX12.out.below hb); clear hb a0 a1 a2 b0 b1 b2 H12 N12 NA12 BA12 BX12))
  have rr : (r != r) = false := bne_self_eq_false r
  go_wp2
  have H14 := Aside0.mk (H13.out.below (below_drew (Below.refl _ _)))
  have N14 := Aside0.mk (N13.out.below (below_drew (Below.refl _ _)))
  have NA14 := Aside0.mk (NA13.out.below (below_drew (Below.refl _ _)))
  have BA14 := Aside0.mk (BA13.out.below (below_drew (Below.refl _ _)))
  have BX14 := Aside0.mk (BX13.out.below (below_drew (Below.refl _ _)))
  clear H13 N13 NA13 BA13 BX13
  go_region_held3 (fun W => W.cell? ⟨gx10, 0, none⟩ = some (.slice m1.A0 p'.length m1.c0) ∧ W.cell? ⟨gx10, 1, none⟩ = some (.slice m1.A1 st'.length m1.c1) ∧ W.cell? ⟨gx10, 2, none⟩ = some (.slice m1.A2 bu'.length m1.c2) ∧ W.cell? ⟨g0, 0, none⟩ = some (.slice x.A0 p.length x.c0) ∧ W.cell? ⟨g0, 1, none⟩ = some (.slice x.A1 st.length x.c1) ∧ W.cell? ⟨g0, 2, none⟩ = some (.slice x.A2 bu.length x.c2))
    (first | exact ⟨BA14.out.cells.1, BA14.out.cells.2.1, BA14.out.cells.2.2, H14.out.b0.cells.1, H14.out.b0.cells.2.1, H14.out.b0.cells.2.2⟩ | exact ⟨BA15.out.cells.1, BA15.out.cells.2.1, BA15.out.cells.2.2, H15.out.b0.cells.1, H15.out.b0.cells.2.1, H15.out.b0.cells.2.2⟩ | exact ⟨BA16.out.cells.1, BA16.out.cells.2.1, BA16.out.cells.2.2, H16.out.b0.cells.1, H16.out.b0.cells.2.1, H16.out.b0.cells.2.2⟩) (first
    | (go_at_call 19; with_reducible refine (toOram_c k x p st bu p' st' bu' _ H14.out.hA E3.out).mono ?_; rintro e w15 ⟨m3, rfl, hm, hb⟩; have H15 := Aside0.mk (H14.out.below hb); have N15 := Aside0.mk (N14.out.below hb); have NA15 := Aside0.mk (NA14.out.below hb); have BA15 := Aside0.mk (BA14.out.below hb); have BX15 := Aside0.mk (BX14.out.below hb); have M3 := Aside0.mk hm; clear hb hm H14 N14 NA14 BA14 BX14)
    | (go_at_call 21; with_reducible refine (eqOram_c k m1 m3 p' st' bu' p' st' bu' true _ NA15.out M3.out E7.out).mono ?_; rintro e w16 ⟨rfl, hb⟩; have H16 := Aside0.mk (H15.out.below hb); have N16 := Aside0.mk (N15.out.below hb); have NA16 := Aside0.mk (NA15.out.below hb); have BA16 := Aside0.mk (BA15.out.below hb); have BX16 := Aside0.mk (BX15.out.below hb); clear hb M3 H15 N15 NA15 BA15 BX15))
  go_wp2
  have H17 := Aside0.mk (H16.out.below (below_drew (Below.refl _ _)))
  have N17 := Aside0.mk (N16.out.below (below_drew (Below.refl _ _)))
  have NA17 := Aside0.mk (NA16.out.below (below_drew (Below.refl _ _)))
  have BA17 := Aside0.mk (BA16.out.below (below_drew (Below.refl _ _)))
  have BX17 := Aside0.mk (BX16.out.below (below_drew (Below.refl _ _)))
  clear H16 N16 NA16 BA16 BX16
  go_region_held3 (fun W => W.cell? ⟨gx12, 0, none⟩ = some (.slice m2.A0 q'.length m2.c0) ∧ W.cell? ⟨gx12, 1, none⟩ = some (.slice m2.A1 su'.length m2.c1) ∧ W.cell? ⟨gx12, 2, none⟩ = some (.slice m2.A2 cu'.length m2.c2) ∧ W.cell? ⟨g1, 0, none⟩ = some (.slice y.A0 q.length y.c0) ∧ W.cell? ⟨g1, 1, none⟩ = some (.slice y.A1 su.length y.c1) ∧ W.cell? ⟨g1, 2, none⟩ = some (.slice y.A2 cu.length y.c2))
    (first | exact ⟨BX17.out.cells.1, BX17.out.cells.2.1, BX17.out.cells.2.2, H17.out.b1.cells.1, H17.out.b1.cells.2.1, H17.out.b1.cells.2.2⟩ | exact ⟨BX18.out.cells.1, BX18.out.cells.2.1, BX18.out.cells.2.2, H18.out.b1.cells.1, H18.out.b1.cells.2.1, H18.out.b1.cells.2.2⟩ | exact ⟨BX19.out.cells.1, BX19.out.cells.2.1, BX19.out.cells.2.2, H19.out.b1.cells.1, H19.out.b1.cells.2.1, H19.out.b1.cells.2.2⟩) (first
    | (go_at_call 19; with_reducible refine (toOram_c k y q su cu q' su' cu' _ H17.out.hB E4.out).mono ?_; rintro e w18 ⟨m3, rfl, hm, hb⟩; have H18 := Aside0.mk (H17.out.below hb); have N18 := Aside0.mk (N17.out.below hb); have NA18 := Aside0.mk (NA17.out.below hb); have BA18 := Aside0.mk (BA17.out.below hb); have BX18 := Aside0.mk (BX17.out.below hb); have M3 := Aside0.mk hm; clear hb hm H17 N17 NA17 BA17 BX17)
    | (go_at_call 21; with_reducible refine (eqOram_c k m2 m3 q' su' cu' q' su' cu' true _ N18.out M3.out E8.out).mono ?_; rintro e w19 ⟨rfl, hb⟩; have H19 := Aside0.mk (H18.out.below hb); have N19 := Aside0.mk (N18.out.below hb); have NA19 := Aside0.mk (NA18.out.below hb); have BA19 := Aside0.mk (BA18.out.below hb); have BX19 := Aside0.mk (BX18.out.below hb); clear hb M3 H18 N18 NA18 BA18 BX18))
  go_wp2
  go_ret
  exact ⟨rfl, H19.out.bel⟩

end Go.Proofs.Ytmodpocjnafpdaa.Leaf
