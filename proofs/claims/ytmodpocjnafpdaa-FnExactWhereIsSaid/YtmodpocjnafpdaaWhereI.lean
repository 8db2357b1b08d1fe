/-
  The program's WhereIs walked. Conditions: a stash that memory bears.
-/
import Derived.Test.YtmodpocjnafpdaaWhere
import Derived.Laws.EntriesVeiled
namespace Go.Proofs.Ytmodpocjnafpdaa.Leaf
open Go.RowKit Go.Shelf Go.Proofs.YtmodpocjnafpdaaW.PrintWords Go.Proofs.YtmodpocjnafpdaaW.PrintLast Go.Proofs.YtmodpocjnafpdaaW.PrintMore Go.Proofs.Ytmodpocjnafpdaa.POra

def rowAt (id : Int) (bu : List (List S61)) : Int := firstR (fun r => r.any (hasId id)) 0 bu
def whereI (p : List Int) (st : List S61) (bu : List (List S61)) (id : Int) : Int × Int :=
  if codeI p st bu id = 0 then (if st.any (hasId id) = true then (-1, 0) else if 0 ≤ rowAt id bu then (rowAt id bu, 0) else (0, 5)) else (0, codeI p st bu id)
theorem box_cell (W : World) (t : TypeId) (v : Value) : (W.alloc (.cells #[v] t)).cell? ⟨W.heap.size, 0, none⟩ = some v := by simp [World.cell?_alloc_at]

set_option maxRecDepth 100000 in
set_option maxHeartbeats 4000000 in
theorem where_code (x : Six) (p : List Int) (st : List S61) (bu : List (List S61)) (id cd : Int) (w : World) (h0 : Orm w x p st bu)
    (hI : ∀ W, Orm W x p st bu → Calls Try.prog 65 #[.agg #[.slice x.A0 p.length x.c0, .slice x.A1 st.length x.c1, .slice x.A2 bu.length x.c2], .int .i64 id] W fun e w' => e = .returned (.int .i64 cd) ∧ Below W.heap.size W w') (hc : cd ≠ 0) :
    Calls Try.prog 30 #[.agg #[.slice x.A0 p.length x.c0, .slice x.A1 st.length x.c1, .slice x.A2 bu.length x.c2], .int .i64 id] w fun e w' => e = .returned (.tuple #[.int .i64 0, .int .i64 cd]) ∧ Below w.heap.size w w' := by
  have h := Aside0.mk h0
  clear h0
  have q1 : decide (cd = 0) = false := decide_eq_false hc
  have q2 : (cd != 0) = true := by simpa using hc
  go_enter Try.func30, Try.ntmps30
  go_upto_region 1 with (first
    | ((with_reducible refine gate_dst (N := 2) rfl ?_); refine box_event ?hg (N := 2) ?hd (cs := #[.slice x.A0 p.length x.c0, .slice x.A1 st.length x.c1, .slice x.A2 bu.length x.c2]) (t := 40) ?hr ?_; (case hd => rfl); (case hg => rfl); (case hr => first | (go_simp; done) | (go_simp; rfl)); intro g0 hg0 w1 hbox0 hb; have S1 := Aside0.mk (OkS.mk (h.out.below hb) (show Box3 w1 g0 40 x p.length st.length bu.length from hbox0) hb); clear hb h hbox0 hg0))
  have b2 : Below w1.heap.size w1 (w1.alloc (.cells #[.int .i64 id] 3)) := below_alloc (Below.refl _ _) _
  have S2 := Aside0.mk (S1.out.below b2)
  have I2 := Aside0.mk (box_cell w1 3 (.int .i64 id))
  clear b2 S1
  generalize w1.alloc (.cells #[.int .i64 id] 3) = w2 at S2 I2 ⊢
  generalize w1.heap.size = gi at I2 ⊢
  obtain ⟨a0, a1, a2⟩ := S2.out.X.cells
  have ci := I2.out
  have hcall := hI _ S2.out.H
  go_wp2_with (first
    | (go_at_call 65; (with_reducible refine hcall.mono ?_); rintro e w3 ⟨rfl, hb⟩; have S3 := Aside0.mk (S2.out.below hb); clear hb S2 I2 a0 a1 a2 ci))
  go_ret2
  exact ⟨rfl, S3.out.bel⟩

set_option maxRecDepth 100000 in
set_option maxHeartbeats 4000000 in
theorem where_stash (x : Six) (p : List Int) (st : List S61) (bu : List (List S61)) (id cd : Int) (w : World) (h0 : Orm w x p st bu)
    (hI : ∀ W, Orm W x p st bu → Calls Try.prog 65 #[.agg #[.slice x.A0 p.length x.c0, .slice x.A1 st.length x.c1, .slice x.A2 bu.length x.c2], .int .i64 id] W fun e w' => e = .returned (.int .i64 cd) ∧ Below W.heap.size W w') (hc : cd = 0) (hq : st.any (hasId id) = true) :
    Calls Try.prog 30 #[.agg #[.slice x.A0 p.length x.c0, .slice x.A1 st.length x.c1, .slice x.A2 bu.length x.c2], .int .i64 id] w fun e w' => e = .returned (.tuple #[.int .i64 (-1), .int .i64 0]) ∧ Below w.heap.size w w' := by
  have h := Aside0.mk h0
  clear h0
  subst hc
  go_enter Try.func30, Try.ntmps30
  go_upto_region 1 with (first
    | ((with_reducible refine gate_dst (N := 2) rfl ?_); refine box_event ?hg (N := 2) ?hd (cs := #[.slice x.A0 p.length x.c0, .slice x.A1 st.length x.c1, .slice x.A2 bu.length x.c2]) (t := 40) ?hr ?_; (case hd => rfl); (case hg => rfl); (case hr => first | (go_simp; done) | (go_simp; rfl)); intro g0 hg0 w1 hbox0 hb; have S1 := Aside0.mk (OkS.mk (h.out.below hb) (show Box3 w1 g0 40 x p.length st.length bu.length from hbox0) hb); clear hb h hbox0 hg0))
  have b2 : Below w1.heap.size w1 (w1.alloc (.cells #[.int .i64 id] 3)) := below_alloc (Below.refl _ _) _
  have S2 := Aside0.mk (S1.out.below b2)
  have I2 := Aside0.mk (box_cell w1 3 (.int .i64 id))
  clear b2 S1
  generalize w1.alloc (.cells #[.int .i64 id] 3) = w2 at S2 I2 ⊢
  generalize w1.heap.size = gi at I2 ⊢
  obtain ⟨a0, a1, a2⟩ := S2.out.X.cells
  have ci := I2.out
  have hcall := hI _ S2.out.H
  go_upto_region 5 with (first
    | (go_at_call 65; (with_reducible refine hcall.mono ?_); rintro e w3 ⟨rfl, hb⟩; have S3 := Aside0.mk (S2.out.below hb); have I3 := Aside0.mk (cell_below I2.out hb); clear hb S2 I2 a0 a1 a2 ci))
  have b4 : Below w3.heap.size w3 (w3.alloc (.cells #[.func (.func 66) #[] #[.pointer (some ⟨gi, 0, none⟩)]] 71)) := below_alloc (Below.refl _ _) _
  have S4 := Aside0.mk (S3.out.below b4)
  have I4 := Aside0.mk (cell_below I3.out b4)
  have T4 := Aside0.mk (box_cell w3 71 (.func (.func 66) #[] #[.pointer (some ⟨gi, 0, none⟩)]))
  clear b4 S3 I3
  generalize w3.alloc (.cells #[.func (.func 66) #[] #[.pointer (some ⟨gi, 0, none⟩)]] 71) = w4 at S4 I4 T4 ⊢
  generalize w3.heap.size = gt at T4 ⊢
  obtain ⟨a0, a1, a2⟩ := S4.out.X.cells
  have ct := T4.out
  have hany := containsFuncK 66 #[.pointer (some ⟨gi, 0, none⟩)] (hasId id) enters_is x.A1 x.c1 st w4 S4.out.H.h1 (isIt_pred gi id w4 I4.out)
  rw [hq] at hany
  go_wp2_with (first
    | (go_at_call 67; (with_reducible refine hany.mono ?_); rintro e w5 ⟨rfl, hb⟩; have S5 := Aside0.mk (S4.out.below hb); clear hb S4 I4 T4 a0 a1 a2 ct))
  go_ret2
  exact ⟨rfl, S5.out.bel⟩

set_option maxRecDepth 100000 in
set_option maxHeartbeats 4000000 in
theorem where_row (x : Six) (p : List Int) (st : List S61) (bu : List (List S61)) (id cd : Int) (w : World) (h0 : Orm w x p st bu)
    (hI : ∀ W, Orm W x p st bu → Calls Try.prog 65 #[.agg #[.slice x.A0 p.length x.c0, .slice x.A1 st.length x.c1, .slice x.A2 bu.length x.c2], .int .i64 id] W fun e w' => e = .returned (.int .i64 cd) ∧ Below W.heap.size W w') (hc : cd = 0) (hq : st.any (hasId id) = false) (z : Int) (hz : rowAt id bu = z) (h0z : 0 ≤ z) :
    Calls Try.prog 30 #[.agg #[.slice x.A0 p.length x.c0, .slice x.A1 st.length x.c1, .slice x.A2 bu.length x.c2], .int .i64 id] w fun e w' => e = .returned (.tuple #[.int .i64 z, .int .i64 0]) ∧ Below w.heap.size w w' := by
  have h := Aside0.mk h0
  clear h0
  subst hc
  have z1 : decide (0 ≤ z) = true := decide_eq_true h0z
  go_enter Try.func30, Try.ntmps30
  go_upto_region 1 with (first
    | ((with_reducible refine gate_dst (N := 2) rfl ?_); refine box_event ?hg (N := 2) ?hd (cs := #[.slice x.A0 p.length x.c0, .slice x.A1 st.length x.c1, .slice x.A2 bu.length x.c2]) (t := 40) ?hr ?_; (case hd => rfl); (case hg => rfl); (case hr => first | (go_simp; done) | (go_simp; rfl)); intro g0 hg0 w1 hbox0 hb; have S1 := Aside0.mk (OkS.mk (h.out.below hb) (show Box3 w1 g0 40 x p.length st.length bu.length from hbox0) hb); clear hb h hbox0 hg0))
  have b2 : Below w1.heap.size w1 (w1.alloc (.cells #[.int .i64 id] 3)) := below_alloc (Below.refl _ _) _
  have S2 := Aside0.mk (S1.out.below b2)
  have I2 := Aside0.mk (box_cell w1 3 (.int .i64 id))
  clear b2 S1
  generalize w1.alloc (.cells #[.int .i64 id] 3) = w2 at S2 I2 ⊢
  generalize w1.heap.size = gi at I2 ⊢
  obtain ⟨a0, a1, a2⟩ := S2.out.X.cells
  have ci := I2.out
  have hcall := hI _ S2.out.H
  go_upto_region 5 with (first
    | (go_at_call 65; (with_reducible refine hcall.mono ?_); rintro e w3 ⟨rfl, hb⟩; have S3 := Aside0.mk (S2.out.below hb); have I3 := Aside0.mk (cell_below I2.out hb); clear hb S2 I2 a0 a1 a2 ci))
  have b4 : Below w3.heap.size w3 (w3.alloc (.cells #[.func (.func 66) #[] #[.pointer (some ⟨gi, 0, none⟩)]] 71)) := below_alloc (Below.refl _ _) _
  have S4 := Aside0.mk (S3.out.below b4)
  have I4 := Aside0.mk (cell_below I3.out b4)
  have T4 := Aside0.mk (box_cell w3 71 (.func (.func 66) #[] #[.pointer (some ⟨gi, 0, none⟩)]))
  clear b4 S3 I3
  generalize w3.alloc (.cells #[.func (.func 66) #[] #[.pointer (some ⟨gi, 0, none⟩)]] 71) = w4 at S4 I4 T4 ⊢
  generalize w3.heap.size = gt at T4 ⊢
  obtain ⟨a0, a1, a2⟩ := S4.out.X.cells
  have ct := T4.out
  have hany := containsFuncK 66 #[.pointer (some ⟨gi, 0, none⟩)] (hasId id) enters_is x.A1 x.c1 st w4 S4.out.H.h1 (isIt_pred gi id w4 I4.out)
  rw [hq] at hany
  go_upto_region 7 with (first
    | (go_at_call 67; (with_reducible refine hany.mono ?_); rintro e w5 ⟨rfl, hb⟩; have S5 := Aside0.mk (S4.out.below hb); have I5 := Aside0.mk (cell_below I4.out hb); have T5 := Aside0.mk (cell_below T4.out hb); clear hb S4 I4 T4 a0 a1 a2 ct))
  obtain ⟨a0, a1, a2⟩ := S5.out.X.cells
  have hrow := indexRows 69 #[.pointer (some ⟨gt, 0, none⟩)] (fun r => r.any (hasId id)) enters_row x.A2 x.c2 bu w5 S5.out.H.h2 (fun W A c row hb hC => rowHas gt gi id A c row W hC (cell_below I5.out hb) (cell_below T5.out hb))
  rw [show firstR (fun r => r.any (hasId id)) 0 bu = z from hz] at hrow
  go_wp2_with (first
    | (go_at_call 68; (with_reducible refine hrow.mono ?_); rintro e w6 ⟨rfl, hb⟩; have S6 := Aside0.mk (S5.out.below hb); clear hb S5 I5 T5 a0 a1 a2))
  go_ret2
  exact ⟨rfl, S6.out.bel⟩

set_option maxRecDepth 100000 in
set_option maxHeartbeats 4000000 in
theorem where_none (x : Six) (p : List Int) (st : List S61) (bu : List (List S61)) (id cd : Int) (w : World) (h0 : Orm w x p st bu)
    (hI : ∀ W, Orm W x p st bu → Calls Try.prog 65 #[.agg #[.slice x.A0 p.length x.c0, .slice x.A1 st.length x.c1, .slice x.A2 bu.length x.c2], .int .i64 id] W fun e w' => e = .returned (.int .i64 cd) ∧ Below W.heap.size W w') (hc : cd = 0) (hq : st.any (hasId id) = false) (z : Int) (hz : rowAt id bu = z) (h0z : ¬ 0 ≤ z) :
    Calls Try.prog 30 #[.agg #[.slice x.A0 p.length x.c0, .slice x.A1 st.length x.c1, .slice x.A2 bu.length x.c2], .int .i64 id] w fun e w' => e = .returned (.tuple #[.int .i64 0, .int .i64 5]) ∧ Below w.heap.size w w' := by
  have h := Aside0.mk h0
  clear h0
  subst hc
  have z1 : decide (0 ≤ z) = false := decide_eq_false h0z
  go_enter Try.func30, Try.ntmps30
  go_upto_region 1 with (first
    | ((with_reducible refine gate_dst (N := 2) rfl ?_); refine box_event ?hg (N := 2) ?hd (cs := #[.slice x.A0 p.length x.c0, .slice x.A1 st.length x.c1, .slice x.A2 bu.length x.c2]) (t := 40) ?hr ?_; (case hd => rfl); (case hg => rfl); (case hr => first | (go_simp; done) | (go_simp; rfl)); intro g0 hg0 w1 hbox0 hb; have S1 := Aside0.mk (OkS.mk (h.out.below hb) (show Box3 w1 g0 40 x p.length st.length bu.length from hbox0) hb); clear hb h hbox0 hg0))
  have b2 : Below w1.heap.size w1 (w1.alloc (.cells #[.int .i64 id] 3)) := below_alloc (Below.refl _ _) _
  have S2 := Aside0.mk (S1.out.below b2)
  have I2 := Aside0.mk (box_cell w1 3 (.int .i64 id))
  clear b2 S1
  generalize w1.alloc (.cells #[.int .i64 id] 3) = w2 at S2 I2 ⊢
  generalize w1.heap.size = gi at I2 ⊢
  obtain ⟨a0, a1, a2⟩ := S2.out.X.cells
  have ci := I2.out
  have hcall := hI _ S2.out.H
  go_upto_region 5 with (first
    | (go_at_call 65; (with_reducible refine hcall.mono ?_); rintro e w3 ⟨rfl, hb⟩; have S3 := Aside0.mk (S2.out.below hb); have I3 := Aside0.mk (cell_below I2.out hb); clear hb S2 I2 a0 a1 a2 ci))
  have b4 : Below w3.heap.size w3 (w3.alloc (.cells #[.func (.func 66) #[] #[.pointer (some ⟨gi, 0, none⟩)]] 71)) := below_alloc (Below.refl _ _) _
  have S4 := Aside0.mk (S3.out.below b4)
  have I4 := Aside0.mk (cell_below I3.out b4)
  have T4 := Aside0.mk (box_cell w3 71 (.func (.func 66) #[] #[.pointer (some ⟨gi, 0, none⟩)]))
  clear b4 S3 I3
  generalize w3.alloc (.cells #[.func (.func 66) #[] #[.pointer (some ⟨gi, 0, none⟩)]] 71) = w4 at S4 I4 T4 ⊢
  generalize w3.heap.size = gt at T4 ⊢
  obtain ⟨a0, a1, a2⟩ := S4.out.X.cells
  have ct := T4.out
  have hany := containsFuncK 66 #[.pointer (some ⟨gi, 0, none⟩)] (hasId id) enters_is x.A1 x.c1 st w4 S4.out.H.h1 (isIt_pred gi id w4 I4.out)
  rw [hq] at hany
  go_upto_region 7 with (first
    | (go_at_call 67; (with_reducible refine hany.mono ?_); rintro e w5 ⟨rfl, hb⟩; have S5 := Aside0.mk (S4.out.below hb); have I5 := Aside0.mk (cell_below I4.out hb); have T5 := Aside0.mk (cell_below T4.out hb); clear hb S4 I4 T4 a0 a1 a2 ct))
  obtain ⟨a0, a1, a2⟩ := S5.out.X.cells
  have hrow := indexRows 69 #[.pointer (some ⟨gt, 0, none⟩)] (fun r => r.any (hasId id)) enters_row x.A2 x.c2 bu w5 S5.out.H.h2 (fun W A c row hb hC => rowHas gt gi id A c row W hC (cell_below I5.out hb) (cell_below T5.out hb))
  rw [show firstR (fun r => r.any (hasId id)) 0 bu = z from hz] at hrow
  go_wp2_with (first
    | (go_at_call 68; (with_reducible refine hrow.mono ?_); rintro e w6 ⟨rfl, hb⟩; have S6 := Aside0.mk (S5.out.below hb); clear hb S5 I5 T5 a0 a1 a2))
  go_ret2
  exact ⟨rfl, S6.out.bel⟩

end Go.Proofs.Ytmodpocjnafpdaa.Leaf
