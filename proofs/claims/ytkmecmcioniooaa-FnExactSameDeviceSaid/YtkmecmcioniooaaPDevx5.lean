-- Written by a program of this session (it turns the kit's print tool to leaves that were proved by hand). Lean checks it.
-- fixdev
import Derived.Test.YtkmecmcioniooaaPDevx0
import Derived.Test.YtkmecmcioniooaaPDevx2
import Derived.Test.YtkmecmcioniooaaPDevx3
import Derived.Test.YtkmecmcioniooaaPDevx4
import Derived.Test.YtkmecmcioniooaaCloneS
import Derived.Test.YtkmecmcioniooaaDevL
import Derived.Test.YtkmecmcioniooaaLeafE
namespace Go.Proofs.Ytkmecmcioniooaa.PDev
open Go.RowKit Go.Proofs.Ytkmecmcioniooaa.Leaf Go.Proofs.YtkmecmcioniooaaW.PrintWords Go.Proofs.YtkmecmcioniooaaW.PrintLast Go.Proofs.YtkmecmcioniooaaW.PrintMore
attribute [local go_sem] max2_int min2_int max_two min_two max_three min_three max_four min_four   -- for this text's walks alone
set_option linter.unusedVariables false
set_option linter.unusedSimpArgs false
abbrev rA_ := @Kd.R_alloc
abbrev rN_ := @Kd.R_drewN
abbrev rD_ := @Kd.R_drew
abbrev bN_ := @pw_below_drewN
abbrev bD_ := @below_drew1
abbrev bA_ := @below_alloc
abbrev bS_ := @below_set
abbrev kN_ := @blk_drewN
abbrev kD_ := @blk_drew
abbrev kA_ := @blk_alloc
abbrev aM_ := @Aside0.mk
abbrev rM_ := @Kd.R_mono
abbrev rF_ := @Kd.R_far
abbrev rB_ := @Kd.R_below
abbrev kB_ := @blk_below
abbrev rR_ := @Kd.R_reads'
abbrev cA_ := @Kd.C_alloc
abbrev cN_ := @Kd.C_drewN
abbrev cD_ := @Kd.C_drew
abbrev cB_ := @Kd.C_below
abbrev bZ_ := @below_size
abbrev bP_ := @below_step
abbrev kC_ := @blk_cell
abbrev rT_ := @Kd.R_types
abbrev rE_ := @Kd.R_elder'
abbrev kF_ := @blk_far
abbrev rW_ := @Kd.R_new'
abbrev rL_ := @Kd.R_lt
abbrev rO_ := @Kd.R_lower
abbrev kL_ := @blk_lt
abbrev rS_ := @Kd.R_base
abbrev kZ_ := @blk_frozen

/-! ### laws_FnExactSameDevice: function 4 -/
def laws_FnExactSameDevice.f (k : Nat) (l0_0 : List ByteArray) (l0_1 : List (S74)) (l1_0 : List ByteArray) (l1_1 : List (S74)) : Option (Bool) := (laws_szDevice.f k l0_0 l0_1 1048576).bind fun t159 => (if t159 < 0 then (some true) else ((laws_szDevice.f k l1_0 l1_1 t159).bind fun t160 => (if t160 < 0 then (some true) else ((laws_toDevice.f k l0_0 l0_1).bind fun bt161 => ((laws_toDevice.f k l1_0 l1_1).bind fun bt167 => ((spec_SameDevice.f k bt161.1 bt161.2 bt167.1 bt167.2).bind fun t173 => ((laws_toDevice.f k l0_0 l0_1).bind fun bt174 => ((laws_toDevice.f k l1_0 l1_1).bind fun bt181 => ((impl_SameDevice.f k bt174.1 bt174.2 bt181.1 bt181.2).bind fun t188 => (if (t188 != t173) = true then (some false) else ((laws_toDevice.f k l0_0 l0_1).bind fun bt189 => ((laws_eqDevice.f k bt174.1 bt174.2 bt189.1 bt189.2).bind fun t195 => (if t195 = true then ((laws_toDevice.f k l1_0 l1_1).bind fun bt196 => ((laws_eqDevice.f k bt181.1 bt181.2 bt196.1 bt196.2).bind fun t202 => (if t202 = true then (some true) else (some false)))) else (some false))))))))))))))
theorem laws_FnExactSameDevice.mono : ∀ a0 a1 a2 a3 k, LeO (laws_FnExactSameDevice.f k a0 a1 a2 a3) (laws_FnExactSameDevice.f (k + 1) a0 a1 a2 a3) := by
 intro a0 a1 a2 a3 k
 unfold laws_FnExactSameDevice.f
 repeat' first
   | (with_reducible exact impl_SameDevice.mono _ _ _ _ _)
   | (with_reducible exact laws_eqDevice.mono _ _ _ _ _)
   | (with_reducible exact laws_szDevice.mono _ _ _ _)
   | (with_reducible exact laws_toDevice.mono _ _ _)
   | (with_reducible exact spec_SameDevice.mono _ _ _ _ _)
   | (with_reducible exact LeO.refl _)
   | (with_reducible exact LeO.none _)
   | (with_reducible refine LeO.ite ?_ ?_)
   | (with_reducible refine LeO.bind ?_ (fun _ => ?_))
   | exact impl_SameDevice.mono _ _ _ _ _
   | exact laws_eqDevice.mono _ _ _ _ _
   | exact laws_szDevice.mono _ _ _ _
   | exact laws_toDevice.mono _ _ _
   | exact spec_SameDevice.mono _ _ _ _ _
   | exact LeO.none _
   | refine LeO.ite ?_ ?_
   | refine LeO.bind ?_ (fun _ => ?_)
set_option maxHeartbeats 8000000 in
set_option maxRecDepth 100000 in
theorem laws_FnExactSameDevice.calls (k : Nat) (A0_0 : Option Addr) (c0_0 : Nat) (l0_0 : List ByteArray) (A0_1 : Option Addr) (c0_1 : Nat) (l0_1 : List (S74)) (A1_0 : Option Addr) (c1_0 : Nat) (l1_0 : List ByteArray) (A1_1 : Option Addr) (c1_1 : Nat) (l1_1 : List (S74)) (r : Bool) (w : World) (hr0_0 : Kd.C Kd.string w A0_0 l0_0.length l0_0) (hc0_0 : l0_0.length ≤ c0_0) (hr0_1 : Kd.C k74 w A0_1 l0_1.length l0_1) (hc0_1 : l0_1.length ≤ c0_1) (hr1_0 : Kd.C Kd.string w A1_0 l1_0.length l1_0) (hc1_0 : l1_0.length ≤ c1_0) (hr1_1 : Kd.C k74 w A1_1 l1_1.length l1_1) (hc1_1 : l1_1.length ≤ c1_1) (h : laws_FnExactSameDevice.f k l0_0 l0_1 l1_0 l1_1 = some r) :
  Calls Try.prog 4 #[.agg #[.slice A0_0 l0_0.length c0_0, .slice A0_1 l0_1.length c0_1], .agg #[.slice A1_0 l1_0.length c1_0, .slice A1_1 l1_1.length c1_1]] w fun e w' => e = .returned (.bool r) ∧ Below w.heap.size w w' := by
 have hu32 := Try.underlying32
 have hu25 := Try.underlying25
 have HR0_0 := aM_ hr0_0
 have HC0_0 := aM_ hc0_0
 clear hr0_0 hc0_0
 have HR0_1 := aM_ hr0_1
 have HC0_1 := aM_ hc0_1
 clear hr0_1 hc0_1
 have HR1_0 := aM_ hr1_0
 have HC1_0 := aM_ hc1_0
 clear hr1_0 hc1_0
 have HR1_1 := aM_ hr1_1
 have HC1_1 := aM_ hc1_1
 clear hr1_1 hc1_1
 have HB := aM_ (Below.refl w.heap.size w)
 have H : ((laws_szDevice.f k l0_0 l0_1 1048576).bind fun t159 => (if t159 < 0 then (some true) else ((laws_szDevice.f k l1_0 l1_1 t159).bind fun t160 => (if t160 < 0 then (some true) else ((laws_toDevice.f k l0_0 l0_1).bind fun bt161 => ((laws_toDevice.f k l1_0 l1_1).bind fun bt167 => ((spec_SameDevice.f k bt161.1 bt161.2 bt167.1 bt167.2).bind fun t173 => ((laws_toDevice.f k l0_0 l0_1).bind fun bt174 => ((laws_toDevice.f k l1_0 l1_1).bind fun bt181 => ((impl_SameDevice.f k bt174.1 bt174.2 bt181.1 bt181.2).bind fun t188 => (if (t188 != t173) = true then (some false) else ((laws_toDevice.f k l0_0 l0_1).bind fun bt189 => ((laws_eqDevice.f k bt174.1 bt174.2 bt189.1 bt189.2).bind fun t195 => (if t195 = true then ((laws_toDevice.f k l1_0 l1_1).bind fun bt196 => ((laws_eqDevice.f k bt181.1 bt181.2 bt196.1 bt196.2).bind fun t202 => (if t202 = true then (some true) else (some false)))) else (some false))))))))))))))) = some r := h
 clear h
 replace H := Option.bind_eq_some_iff.mp H
 obtain ⟨t159, A30, H⟩ := H
 replace H : (if t159 < 0 then (some true) else ((laws_szDevice.f k l1_0 l1_1 t159).bind fun t160 => (if t160 < 0 then (some true) else ((laws_toDevice.f k l0_0 l0_1).bind fun bt161 => ((laws_toDevice.f k l1_0 l1_1).bind fun bt167 => ((spec_SameDevice.f k bt161.1 bt161.2 bt167.1 bt167.2).bind fun t173 => ((laws_toDevice.f k l0_0 l0_1).bind fun bt174 => ((laws_toDevice.f k l1_0 l1_1).bind fun bt181 => ((impl_SameDevice.f k bt174.1 bt174.2 bt181.1 bt181.2).bind fun t188 => (if (t188 != t173) = true then (some false) else ((laws_toDevice.f k l0_0 l0_1).bind fun bt189 => ((laws_eqDevice.f k bt174.1 bt174.2 bt189.1 bt189.2).bind fun t195 => (if t195 = true then ((laws_toDevice.f k l1_0 l1_1).bind fun bt196 => ((laws_eqDevice.f k bt181.1 bt181.2 bt196.1 bt196.2).bind fun t202 => (if t202 = true then (some true) else (some false)))) else (some false)))))))))))))) = some r := H
 have A3 := aM_ A30
 clear A30
 by_cases c4 : t159 < 0
 ·rw [if_pos c4] at H
  have c4b0 : decide (t159 < 0) = true := decide_eq_true c4
  clear c4
  obtain rfl := Option.some.inj H
  go_enter Try.func4, Try.ntmps4
  go_wp2_with (first | ((with_reducible refine gate_dst (N := 2) rfl ?_); refine box_event ?hg (N := 2) ?hd (cs := #[.slice A0_0 l0_0.length c0_0, .slice A0_1 l0_1.length c0_1]) (t := 32) ?hr ?_; (case hd => rfl); (case hg => rfl); (case hr => first | (go_simp; done) | (go_simp; rfl)); intro gb157 hg w5 hbox hb; have n0_ := aM_ (bP_ (by repeat (with_reducible first | exact HB.out | apply bA_ | apply bN_ | apply bD_)) hb); have n1_ := aM_ (hbox); have n2_ := aM_ ((by rw [hg]; exact (bZ_ (by repeat (with_reducible first | exact HB.out | apply bA_ | apply bN_ | apply bD_))) : w.heap.size ≤ gb157)); have n3_ := aM_ ((by rw [hg]; exact (bZ_ (by repeat (with_reducible first | exact HB.out | apply bA_ | apply bN_ | apply bD_))) : w.heap.size ≤ gb157)); clear HB; have HB := n0_; have BK157 := n1_; have GW157 := n2_; have GE157 := n3_; clear n0_ n1_ n2_ n3_; clear hb hbox hg) | ((with_reducible refine gate_dst (N := 3) rfl ?_); refine box_event ?hg (N := 3) ?hd (cs := #[.slice A1_0 l1_0.length c1_0, .slice A1_1 l1_1.length c1_1]) (t := 32) ?hr ?_; (case hd => rfl); (case hg => rfl); (case hr => first | (go_simp; done) | (go_simp; rfl)); intro gb158 hg w6 hbox hb; have n0_ := aM_ (kB_ (g := gb157) (o := .cells #[.slice A0_0 l0_0.length c0_0, .slice A0_1 l0_1.length c0_1] 32 (0, 0)) (by (with_reducible repeat (first | refine kN_ ?_ _ | refine kD_ ?_ | refine kA_ ?_ _)); exact BK157.out) hb); have n1_ := aM_ (bP_ (by repeat (with_reducible first | exact HB.out | apply bA_ | apply bN_ | apply bD_ | refine bS_ ?_ GE157.out)) hb); have n2_ := aM_ (hbox); have n3_ := aM_ ((by rw [hg]; exact (bZ_ (by repeat (with_reducible first | exact HB.out | apply bA_ | apply bN_ | apply bD_ | refine bS_ ?_ GE157.out))) : w.heap.size ≤ gb158)); have n4_ := aM_ ((by rw [hg]; exact (bZ_ (by repeat (with_reducible first | exact HB.out | apply bA_ | apply bN_ | apply bD_ | refine bS_ ?_ GE157.out))) : w.heap.size ≤ gb158)); have n5_ := aM_ ((by rw [hg]; exact Nat.ne_of_lt (kL_ (g := gb157) (o := .cells #[.slice A0_0 l0_0.length c0_0, .slice A0_1 l0_1.length c0_1] 32 (0, 0)) (by (with_reducible repeat (first | refine kN_ ?_ _ | refine kD_ ?_ | refine kA_ ?_ _)); exact BK157.out)) : gb157 ≠ gb158)); have n6_ := aM_ ((by rw [hg]; exact Nat.ne_of_gt (kL_ (g := gb157) (o := .cells #[.slice A0_0 l0_0.length c0_0, .slice A0_1 l0_1.length c0_1] 32 (0, 0)) (by (with_reducible repeat (first | refine kN_ ?_ _ | refine kD_ ?_ | refine kA_ ?_ _)); exact BK157.out)) : gb158 ≠ gb157)); clear BK157; clear HB; have BK157 := n0_; have HB := n1_; have BK158 := n2_; have GW158 := n3_; have GE158 := n4_; have NB157_158 := n5_; have NB158_157 := n6_; clear n0_ n1_ n2_ n3_ n4_ n5_ n6_; clear hb hbox hg; have hnb7 := NB157_158.out; have hnc7 := NB158_157.out; have hcz8_0 : w6.cell? ⟨gb157, 0, none⟩ = some (.slice A0_0 l0_0.length c0_0) := (kC_ BK157.out 0).trans rfl; have hcz8_1 : w6.cell? ⟨gb157, 1, none⟩ = some (.slice A0_1 l0_1.length c0_1) := (kC_ BK157.out 1).trans rfl; have hfz8_0 := kZ_ BK157.out 0; have hfz8_1 := kZ_ BK157.out 1) | ((with_reducible refine gate_callee (f := 14) rfl ?_); refine goesL_ (some 12) rfl rfl Try.func14 (by kernel_rfl) rfl #[.agg #[.slice A0_0 l0_0.length c0_0, .slice A0_1 l0_1.length c0_1], .int .i64 1048576] rfl (by (try simp only [List.map_toArray, List.map_cons, List.map_nil]); first | done | rfl | (simp only [List.length_drop, List.length_take]; rfl)) ?_; (with_reducible refine (laws_szDevice.calls k _ _ l0_0 _ _ l0_1 1048576 t159 _ ?side1 ?side2 ?side3 ?side4 A3.out).mono ?_); (case side1 => repeat (first | exact (cB_ HR0_0.out HB.out) | (with_reducible refine cA_ ?_ _) | (with_reducible refine cN_ ?_ _) | (with_reducible refine cD_ ?_))); (case side2 => exact HC0_0.out); (case side3 => repeat (first | exact (cB_ HR0_1.out HB.out) | (with_reducible refine cA_ ?_ _) | (with_reducible refine cN_ ?_ _) | (with_reducible refine cD_ ?_))); (case side4 => exact HC0_1.out); rintro e w9 ⟨rfl, hb⟩; refine ⟨_, rfl, ?_⟩; have n0_ := aM_ (kB_ (g := gb157) (o := .cells #[.slice A0_0 l0_0.length c0_0, .slice A0_1 l0_1.length c0_1] 32 (0, 0)) (by (with_reducible repeat (first | refine kN_ ?_ _ | refine kD_ ?_ | refine kA_ ?_ _)); exact BK157.out) hb); have n1_ := aM_ (kB_ (g := gb158) (o := .cells #[.slice A1_0 l1_0.length c1_0, .slice A1_1 l1_1.length c1_1] 32 (0, 0)) (by (with_reducible repeat (first | refine kN_ ?_ _ | refine kD_ ?_ | refine kA_ ?_ _)); exact BK158.out) hb); have n2_ := aM_ (bP_ (by repeat (with_reducible first | exact HB.out | apply bA_ | apply bN_ | apply bD_ | refine bS_ ?_ GE157.out | refine bS_ ?_ GE158.out)) hb); clear BK157; clear BK158; clear HB; have BK157 := n0_; have BK158 := n1_; have HB := n2_; clear n0_ n1_ n2_; (try clear hb); (try clear hb2); (try clear hk); (try clear hi)))
  go_ret
  exact ⟨by first | rfl | (simp [errW_none, errW_some] <;> rfl) | (simp [*, errW_none, errW_some] <;> rfl), by repeat (with_reducible first | exact HB.out | apply bA_ | apply bN_ | apply bD_ | refine bS_ ?_ GE157.out | refine bS_ ?_ GE158.out)⟩
 ·rw [if_neg c4] at H
  have c4b0 : decide (t159 < 0) = false := decide_eq_false c4
  clear c4
  replace H := Option.bind_eq_some_iff.mp H
  obtain ⟨t160, A100, H⟩ := H
  replace H : (if t160 < 0 then (some true) else ((laws_toDevice.f k l0_0 l0_1).bind fun bt161 => ((laws_toDevice.f k l1_0 l1_1).bind fun bt167 => ((spec_SameDevice.f k bt161.1 bt161.2 bt167.1 bt167.2).bind fun t173 => ((laws_toDevice.f k l0_0 l0_1).bind fun bt174 => ((laws_toDevice.f k l1_0 l1_1).bind fun bt181 => ((impl_SameDevice.f k bt174.1 bt174.2 bt181.1 bt181.2).bind fun t188 => (if (t188 != t173) = true then (some false) else ((laws_toDevice.f k l0_0 l0_1).bind fun bt189 => ((laws_eqDevice.f k bt174.1 bt174.2 bt189.1 bt189.2).bind fun t195 => (if t195 = true then ((laws_toDevice.f k l1_0 l1_1).bind fun bt196 => ((laws_eqDevice.f k bt181.1 bt181.2 bt196.1 bt196.2).bind fun t202 => (if t202 = true then (some true) else (some false)))) else (some false)))))))))))) = some r := H
  have A10 := aM_ A100
  clear A100
  by_cases c11 : t160 < 0
  ·rw [if_pos c11] at H
   have c11b0 : decide (t160 < 0) = true := decide_eq_true c11
   clear c11
   obtain rfl := Option.some.inj H
   go_enter Try.func4, Try.ntmps4
   go_wp2_with (first | ((with_reducible refine gate_dst (N := 2) rfl ?_); refine box_event ?hg (N := 2) ?hd (cs := #[.slice A0_0 l0_0.length c0_0, .slice A0_1 l0_1.length c0_1]) (t := 32) ?hr ?_; (case hd => rfl); (case hg => rfl); (case hr => first | (go_simp; done) | (go_simp; rfl)); intro gb157 hg w12 hbox hb; have n0_ := aM_ (bP_ (by repeat (with_reducible first | exact HB.out | apply bA_ | apply bN_ | apply bD_)) hb); have n1_ := aM_ (hbox); have n2_ := aM_ ((by rw [hg]; exact (bZ_ (by repeat (with_reducible first | exact HB.out | apply bA_ | apply bN_ | apply bD_))) : w.heap.size ≤ gb157)); have n3_ := aM_ ((by rw [hg]; exact (bZ_ (by repeat (with_reducible first | exact HB.out | apply bA_ | apply bN_ | apply bD_))) : w.heap.size ≤ gb157)); clear HB; have HB := n0_; have BK157 := n1_; have GW157 := n2_; have GE157 := n3_; clear n0_ n1_ n2_ n3_; clear hb hbox hg) | ((with_reducible refine gate_dst (N := 3) rfl ?_); refine box_event ?hg (N := 3) ?hd (cs := #[.slice A1_0 l1_0.length c1_0, .slice A1_1 l1_1.length c1_1]) (t := 32) ?hr ?_; (case hd => rfl); (case hg => rfl); (case hr => first | (go_simp; done) | (go_simp; rfl)); intro gb158 hg w13 hbox hb; have n0_ := aM_ (kB_ (g := gb157) (o := .cells #[.slice A0_0 l0_0.length c0_0, .slice A0_1 l0_1.length c0_1] 32 (0, 0)) (by (with_reducible repeat (first | refine kN_ ?_ _ | refine kD_ ?_ | refine kA_ ?_ _)); exact BK157.out) hb); have n1_ := aM_ (bP_ (by repeat (with_reducible first | exact HB.out | apply bA_ | apply bN_ | apply bD_ | refine bS_ ?_ GE157.out)) hb); have n2_ := aM_ (hbox); have n3_ := aM_ ((by rw [hg]; exact (bZ_ (by repeat (with_reducible first | exact HB.out | apply bA_ | apply bN_ | apply bD_ | refine bS_ ?_ GE157.out))) : w.heap.size ≤ gb158)); have n4_ := aM_ ((by rw [hg]; exact (bZ_ (by repeat (with_reducible first | exact HB.out | apply bA_ | apply bN_ | apply bD_ | refine bS_ ?_ GE157.out))) : w.heap.size ≤ gb158)); have n5_ := aM_ ((by rw [hg]; exact Nat.ne_of_lt (kL_ (g := gb157) (o := .cells #[.slice A0_0 l0_0.length c0_0, .slice A0_1 l0_1.length c0_1] 32 (0, 0)) (by (with_reducible repeat (first | refine kN_ ?_ _ | refine kD_ ?_ | refine kA_ ?_ _)); exact BK157.out)) : gb157 ≠ gb158)); have n6_ := aM_ ((by rw [hg]; exact Nat.ne_of_gt (kL_ (g := gb157) (o := .cells #[.slice A0_0 l0_0.length c0_0, .slice A0_1 l0_1.length c0_1] 32 (0, 0)) (by (with_reducible repeat (first | refine kN_ ?_ _ | refine kD_ ?_ | refine kA_ ?_ _)); exact BK157.out)) : gb158 ≠ gb157)); clear BK157; clear HB; have BK157 := n0_; have HB := n1_; have BK158 := n2_; have GW158 := n3_; have GE158 := n4_; have NB157_158 := n5_; have NB158_157 := n6_; clear n0_ n1_ n2_ n3_ n4_ n5_ n6_; clear hb hbox hg; have hnb14 := NB157_158.out; have hnc14 := NB158_157.out; have hcz15_0 : w13.cell? ⟨gb157, 0, none⟩ = some (.slice A0_0 l0_0.length c0_0) := (kC_ BK157.out 0).trans rfl; have hcz15_1 : w13.cell? ⟨gb157, 1, none⟩ = some (.slice A0_1 l0_1.length c0_1) := (kC_ BK157.out 1).trans rfl; have hfz15_0 := kZ_ BK157.out 0; have hfz15_1 := kZ_ BK157.out 1) | ((with_reducible refine gate_callee (f := 14) rfl ?_); refine goesL_ (some 12) rfl rfl Try.func14 (by kernel_rfl) rfl #[.agg #[.slice A0_0 l0_0.length c0_0, .slice A0_1 l0_1.length c0_1], .int .i64 1048576] rfl (by (try simp only [List.map_toArray, List.map_cons, List.map_nil]); first | done | rfl | (simp only [List.length_drop, List.length_take]; rfl)) ?_; (with_reducible refine (laws_szDevice.calls k _ _ l0_0 _ _ l0_1 1048576 t159 _ ?side1 ?side2 ?side3 ?side4 A3.out).mono ?_); (case side1 => repeat (first | exact (cB_ HR0_0.out HB.out) | (with_reducible refine cA_ ?_ _) | (with_reducible refine cN_ ?_ _) | (with_reducible refine cD_ ?_))); (case side2 => exact HC0_0.out); (case side3 => repeat (first | exact (cB_ HR0_1.out HB.out) | (with_reducible refine cA_ ?_ _) | (with_reducible refine cN_ ?_ _) | (with_reducible refine cD_ ?_))); (case side4 => exact HC0_1.out); rintro e w16 ⟨rfl, hb⟩; refine ⟨_, rfl, ?_⟩; have n0_ := aM_ (kB_ (g := gb157) (o := .cells #[.slice A0_0 l0_0.length c0_0, .slice A0_1 l0_1.length c0_1] 32 (0, 0)) (by (with_reducible repeat (first | refine kN_ ?_ _ | refine kD_ ?_ | refine kA_ ?_ _)); exact BK157.out) hb); have n1_ := aM_ (kB_ (g := gb158) (o := .cells #[.slice A1_0 l1_0.length c1_0, .slice A1_1 l1_1.length c1_1] 32 (0, 0)) (by (with_reducible repeat (first | refine kN_ ?_ _ | refine kD_ ?_ | refine kA_ ?_ _)); exact BK158.out) hb); have n2_ := aM_ (bP_ (by repeat (with_reducible first | exact HB.out | apply bA_ | apply bN_ | apply bD_ | refine bS_ ?_ GE157.out | refine bS_ ?_ GE158.out)) hb); clear BK157; clear BK158; clear HB; have BK157 := n0_; have BK158 := n1_; have HB := n2_; clear n0_ n1_ n2_; (try clear hb); (try clear hb2); (try clear hk); (try clear hi); have hcz17_0 : w16.cell? ⟨gb158, 0, none⟩ = some (.slice A1_0 l1_0.length c1_0) := (kC_ BK158.out 0).trans rfl; have hcz17_1 : w16.cell? ⟨gb158, 1, none⟩ = some (.slice A1_1 l1_1.length c1_1) := (kC_ BK158.out 1).trans rfl; have hfz17_0 := kZ_ BK158.out 0; have hfz17_1 := kZ_ BK158.out 1) | ((with_reducible refine gate_callee (f := 14) rfl ?_); refine goesL_ (some 17) rfl rfl Try.func14 (by kernel_rfl) rfl #[.agg #[.slice A1_0 l1_0.length c1_0, .slice A1_1 l1_1.length c1_1], .int .i64 t159] rfl (by (try simp only [List.map_toArray, List.map_cons, List.map_nil]); first | done | rfl | (simp only [List.length_drop, List.length_take]; rfl)) ?_; (with_reducible refine (laws_szDevice.calls k _ _ l1_0 _ _ l1_1 t159 t160 _ ?side1 ?side2 ?side3 ?side4 A10.out).mono ?_); (case side1 => repeat (first | exact (cB_ HR1_0.out HB.out) | (with_reducible refine cA_ ?_ _) | (with_reducible refine cN_ ?_ _) | (with_reducible refine cD_ ?_))); (case side2 => exact HC1_0.out); (case side3 => repeat (first | exact (cB_ HR1_1.out HB.out) | (with_reducible refine cA_ ?_ _) | (with_reducible refine cN_ ?_ _) | (with_reducible refine cD_ ?_))); (case side4 => exact HC1_1.out); rintro e w18 ⟨rfl, hb⟩; refine ⟨_, rfl, ?_⟩; have n0_ := aM_ (kB_ (g := gb157) (o := .cells #[.slice A0_0 l0_0.length c0_0, .slice A0_1 l0_1.length c0_1] 32 (0, 0)) (by (with_reducible repeat (first | refine kN_ ?_ _ | refine kD_ ?_ | refine kA_ ?_ _)); exact BK157.out) hb); have n1_ := aM_ (kB_ (g := gb158) (o := .cells #[.slice A1_0 l1_0.length c1_0, .slice A1_1 l1_1.length c1_1] 32 (0, 0)) (by (with_reducible repeat (first | refine kN_ ?_ _ | refine kD_ ?_ | refine kA_ ?_ _)); exact BK158.out) hb); have n2_ := aM_ (bP_ (by repeat (with_reducible first | exact HB.out | apply bA_ | apply bN_ | apply bD_ | refine bS_ ?_ GE157.out | refine bS_ ?_ GE158.out)) hb); clear BK157; clear BK158; clear HB; have BK157 := n0_; have BK158 := n1_; have HB := n2_; clear n0_ n1_ n2_; (try clear hb); (try clear hb2); (try clear hk); (try clear hi)))
   go_ret
   exact ⟨by first | rfl | (simp [errW_none, errW_some] <;> rfl) | (simp [*, errW_none, errW_some] <;> rfl), by repeat (with_reducible first | exact HB.out | apply bA_ | apply bN_ | apply bD_ | refine bS_ ?_ GE157.out | refine bS_ ?_ GE158.out)⟩
  ·rw [if_neg c11] at H
   have c11b0 : decide (t160 < 0) = false := decide_eq_false c11
   clear c11
   replace H := Option.bind_eq_some_iff.mp H
   obtain ⟨⟨t161, t164⟩, A190, H⟩ := H
   replace H : ((laws_toDevice.f k l1_0 l1_1).bind fun bt167 => ((spec_SameDevice.f k t161 t164 bt167.1 bt167.2).bind fun t173 => ((laws_toDevice.f k l0_0 l0_1).bind fun bt174 => ((laws_toDevice.f k l1_0 l1_1).bind fun bt181 => ((impl_SameDevice.f k bt174.1 bt174.2 bt181.1 bt181.2).bind fun t188 => (if (t188 != t173) = true then (some false) else ((laws_toDevice.f k l0_0 l0_1).bind fun bt189 => ((laws_eqDevice.f k bt174.1 bt174.2 bt189.1 bt189.2).bind fun t195 => (if t195 = true then ((laws_toDevice.f k l1_0 l1_1).bind fun bt196 => ((laws_eqDevice.f k bt181.1 bt181.2 bt196.1 bt196.2).bind fun t202 => (if t202 = true then (some true) else (some false)))) else (some false)))))))))) = some r := H
   have A19 := aM_ A190
   clear A190
   replace H := Option.bind_eq_some_iff.mp H
   obtain ⟨⟨t167, t170⟩, A200, H⟩ := H
   replace H : ((spec_SameDevice.f k t161 t164 t167 t170).bind fun t173 => ((laws_toDevice.f k l0_0 l0_1).bind fun bt174 => ((laws_toDevice.f k l1_0 l1_1).bind fun bt181 => ((impl_SameDevice.f k bt174.1 bt174.2 bt181.1 bt181.2).bind fun t188 => (if (t188 != t173) = true then (some false) else ((laws_toDevice.f k l0_0 l0_1).bind fun bt189 => ((laws_eqDevice.f k bt174.1 bt174.2 bt189.1 bt189.2).bind fun t195 => (if t195 = true then ((laws_toDevice.f k l1_0 l1_1).bind fun bt196 => ((laws_eqDevice.f k bt181.1 bt181.2 bt196.1 bt196.2).bind fun t202 => (if t202 = true then (some true) else (some false)))) else (some false))))))))) = some r := H
   have A20 := aM_ A200
   clear A200
   replace H := Option.bind_eq_some_iff.mp H
   obtain ⟨t173, A210, H⟩ := H
   replace H : ((laws_toDevice.f k l0_0 l0_1).bind fun bt174 => ((laws_toDevice.f k l1_0 l1_1).bind fun bt181 => ((impl_SameDevice.f k bt174.1 bt174.2 bt181.1 bt181.2).bind fun t188 => (if (t188 != t173) = true then (some false) else ((laws_toDevice.f k l0_0 l0_1).bind fun bt189 => ((laws_eqDevice.f k bt174.1 bt174.2 bt189.1 bt189.2).bind fun t195 => (if t195 = true then ((laws_toDevice.f k l1_0 l1_1).bind fun bt196 => ((laws_eqDevice.f k bt181.1 bt181.2 bt196.1 bt196.2).bind fun t202 => (if t202 = true then (some true) else (some false)))) else (some false)))))))) = some r := H
   have A21 := aM_ A210
   clear A210
   replace H := Option.bind_eq_some_iff.mp H
   obtain ⟨⟨t174, t177⟩, A220, H⟩ := H
   replace H : ((laws_toDevice.f k l1_0 l1_1).bind fun bt181 => ((impl_SameDevice.f k t174 t177 bt181.1 bt181.2).bind fun t188 => (if (t188 != t173) = true then (some false) else ((laws_toDevice.f k l0_0 l0_1).bind fun bt189 => ((laws_eqDevice.f k t174 t177 bt189.1 bt189.2).bind fun t195 => (if t195 = true then ((laws_toDevice.f k l1_0 l1_1).bind fun bt196 => ((laws_eqDevice.f k bt181.1 bt181.2 bt196.1 bt196.2).bind fun t202 => (if t202 = true then (some true) else (some false)))) else (some false))))))) = some r := H
   have A22 := aM_ A220
   clear A220
   replace H := Option.bind_eq_some_iff.mp H
   obtain ⟨⟨t181, t184⟩, A230, H⟩ := H
   replace H : ((impl_SameDevice.f k t174 t177 t181 t184).bind fun t188 => (if (t188 != t173) = true then (some false) else ((laws_toDevice.f k l0_0 l0_1).bind fun bt189 => ((laws_eqDevice.f k t174 t177 bt189.1 bt189.2).bind fun t195 => (if t195 = true then ((laws_toDevice.f k l1_0 l1_1).bind fun bt196 => ((laws_eqDevice.f k t181 t184 bt196.1 bt196.2).bind fun t202 => (if t202 = true then (some true) else (some false)))) else (some false)))))) = some r := H
   have A23 := aM_ A230
   clear A230
   replace H := Option.bind_eq_some_iff.mp H
   obtain ⟨t188, A240, H⟩ := H
   replace H : (if (t188 != t173) = true then (some false) else ((laws_toDevice.f k l0_0 l0_1).bind fun bt189 => ((laws_eqDevice.f k t174 t177 bt189.1 bt189.2).bind fun t195 => (if t195 = true then ((laws_toDevice.f k l1_0 l1_1).bind fun bt196 => ((laws_eqDevice.f k t181 t184 bt196.1 bt196.2).bind fun t202 => (if t202 = true then (some true) else (some false)))) else (some false))))) = some r := H
   have A24 := aM_ A240
   clear A240
   by_cases c25 : (t188 != t173) = true
   ·rw [if_pos c25] at H
    have c25b0 : (t188 != t173) = true := c25
    (try (have c25b1 : decide (t188 = t173) = false := by simpa using c25))
    (try (have c25b2 : (t188 == t173) = false := by simpa using c25))
    (try (have c25b3 : ¬ (t188 = t173) := by simpa using c25))
    clear c25
    obtain rfl := Option.some.inj H
    go_enter Try.func4, Try.ntmps4
    try go_wp2_with (first | ((with_reducible refine gate_dst (N := 2) rfl ?_); refine box_event ?hg (N := 2) ?hd (cs := #[.slice A0_0 l0_0.length c0_0, .slice A0_1 l0_1.length c0_1]) (t := 32) ?hr ?_; (case hd => rfl); (case hg => rfl); (case hr => first | (go_simp; done) | (go_simp; rfl)); intro gb157 hg w26 hbox hb; have n0_ := aM_ (bP_ (by repeat (with_reducible first | exact HB.out | apply bA_ | apply bN_ | apply bD_)) hb); have n1_ := aM_ (hbox); have n2_ := aM_ ((by rw [hg]; exact (bZ_ (by repeat (with_reducible first | exact HB.out | apply bA_ | apply bN_ | apply bD_))) : w.heap.size ≤ gb157)); have n3_ := aM_ ((by rw [hg]; exact (bZ_ (by repeat (with_reducible first | exact HB.out | apply bA_ | apply bN_ | apply bD_))) : w.heap.size ≤ gb157)); clear HB; have HB := n0_; have BK157 := n1_; have GW157 := n2_; have GE157 := n3_; clear n0_ n1_ n2_ n3_; clear hb hbox hg) | ((with_reducible refine gate_dst (N := 3) rfl ?_); refine box_event ?hg (N := 3) ?hd (cs := #[.slice A1_0 l1_0.length c1_0, .slice A1_1 l1_1.length c1_1]) (t := 32) ?hr ?_; (case hd => rfl); (case hg => rfl); (case hr => first | (go_simp; done) | (go_simp; rfl)); intro gb158 hg w27 hbox hb; have n0_ := aM_ (kB_ (g := gb157) (o := .cells #[.slice A0_0 l0_0.length c0_0, .slice A0_1 l0_1.length c0_1] 32 (0, 0)) (by (with_reducible repeat (first | refine kN_ ?_ _ | refine kD_ ?_ | refine kA_ ?_ _)); exact BK157.out) hb); have n1_ := aM_ (bP_ (by repeat (with_reducible first | exact HB.out | apply bA_ | apply bN_ | apply bD_ | refine bS_ ?_ GE157.out)) hb); have n2_ := aM_ (hbox); have n3_ := aM_ ((by rw [hg]; exact (bZ_ (by repeat (with_reducible first | exact HB.out | apply bA_ | apply bN_ | apply bD_ | refine bS_ ?_ GE157.out))) : w.heap.size ≤ gb158)); have n4_ := aM_ ((by rw [hg]; exact (bZ_ (by repeat (with_reducible first | exact HB.out | apply bA_ | apply bN_ | apply bD_ | refine bS_ ?_ GE157.out))) : w.heap.size ≤ gb158)); have n5_ := aM_ ((by rw [hg]; exact Nat.ne_of_lt (kL_ (g := gb157) (o := .cells #[.slice A0_0 l0_0.length c0_0, .slice A0_1 l0_1.length c0_1] 32 (0, 0)) (by (with_reducible repeat (first | refine kN_ ?_ _ | refine kD_ ?_ | refine kA_ ?_ _)); exact BK157.out)) : gb157 ≠ gb158)); have n6_ := aM_ ((by rw [hg]; exact Nat.ne_of_gt (kL_ (g := gb157) (o := .cells #[.slice A0_0 l0_0.length c0_0, .slice A0_1 l0_1.length c0_1] 32 (0, 0)) (by (with_reducible repeat (first | refine kN_ ?_ _ | refine kD_ ?_ | refine kA_ ?_ _)); exact BK157.out)) : gb158 ≠ gb157)); clear BK157; clear HB; have BK157 := n0_; have HB := n1_; have BK158 := n2_; have GW158 := n3_; have GE158 := n4_; have NB157_158 := n5_; have NB158_157 := n6_; clear n0_ n1_ n2_ n3_ n4_ n5_ n6_; clear hb hbox hg; have hnb28 := NB157_158.out; have hnc28 := NB158_157.out; have hcz29_0 : w27.cell? ⟨gb157, 0, none⟩ = some (.slice A0_0 l0_0.length c0_0) := (kC_ BK157.out 0).trans rfl; have hcz29_1 : w27.cell? ⟨gb157, 1, none⟩ = some (.slice A0_1 l0_1.length c0_1) := (kC_ BK157.out 1).trans rfl; have hfz29_0 := kZ_ BK157.out 0; have hfz29_1 := kZ_ BK157.out 1) | ((with_reducible refine gate_callee (f := 14) rfl ?_); refine goesL_ (some 12) rfl rfl Try.func14 (by kernel_rfl) rfl #[.agg #[.slice A0_0 l0_0.length c0_0, .slice A0_1 l0_1.length c0_1], .int .i64 1048576] rfl (by (try simp only [List.map_toArray, List.map_cons, List.map_nil]); first | done | rfl | (simp only [List.length_drop, List.length_take]; rfl)) ?_; (with_reducible refine (laws_szDevice.calls k _ _ l0_0 _ _ l0_1 1048576 t159 _ ?side1 ?side2 ?side3 ?side4 A3.out).mono ?_); (case side1 => repeat (first | exact (cB_ HR0_0.out HB.out) | (with_reducible refine cA_ ?_ _) | (with_reducible refine cN_ ?_ _) | (with_reducible refine cD_ ?_))); (case side2 => exact HC0_0.out); (case side3 => repeat (first | exact (cB_ HR0_1.out HB.out) | (with_reducible refine cA_ ?_ _) | (with_reducible refine cN_ ?_ _) | (with_reducible refine cD_ ?_))); (case side4 => exact HC0_1.out); rintro e w30 ⟨rfl, hb⟩; refine ⟨_, rfl, ?_⟩; have n0_ := aM_ (kB_ (g := gb157) (o := .cells #[.slice A0_0 l0_0.length c0_0, .slice A0_1 l0_1.length c0_1] 32 (0, 0)) (by (with_reducible repeat (first | refine kN_ ?_ _ | refine kD_ ?_ | refine kA_ ?_ _)); exact BK157.out) hb); have n1_ := aM_ (kB_ (g := gb158) (o := .cells #[.slice A1_0 l1_0.length c1_0, .slice A1_1 l1_1.length c1_1] 32 (0, 0)) (by (with_reducible repeat (first | refine kN_ ?_ _ | refine kD_ ?_ | refine kA_ ?_ _)); exact BK158.out) hb); have n2_ := aM_ (bP_ (by repeat (with_reducible first | exact HB.out | apply bA_ | apply bN_ | apply bD_ | refine bS_ ?_ GE157.out | refine bS_ ?_ GE158.out)) hb); clear BK157; clear BK158; clear HB; have BK157 := n0_; have BK158 := n1_; have HB := n2_; clear n0_ n1_ n2_; (try clear hb); (try clear hb2); (try clear hk); (try clear hi); have hcz31_0 : w30.cell? ⟨gb158, 0, none⟩ = some (.slice A1_0 l1_0.length c1_0) := (kC_ BK158.out 0).trans rfl; have hcz31_1 : w30.cell? ⟨gb158, 1, none⟩ = some (.slice A1_1 l1_1.length c1_1) := (kC_ BK158.out 1).trans rfl; have hfz31_0 := kZ_ BK158.out 0; have hfz31_1 := kZ_ BK158.out 1) | ((with_reducible refine gate_callee (f := 14) rfl ?_); refine goesL_ (some 17) rfl rfl Try.func14 (by kernel_rfl) rfl #[.agg #[.slice A1_0 l1_0.length c1_0, .slice A1_1 l1_1.length c1_1], .int .i64 t159] rfl (by (try simp only [List.map_toArray, List.map_cons, List.map_nil]); first | done | rfl | (simp only [List.length_drop, List.length_take]; rfl)) ?_; (with_reducible refine (laws_szDevice.calls k _ _ l1_0 _ _ l1_1 t159 t160 _ ?side1 ?side2 ?side3 ?side4 A10.out).mono ?_); (case side1 => repeat (first | exact (cB_ HR1_0.out HB.out) | (with_reducible refine cA_ ?_ _) | (with_reducible refine cN_ ?_ _) | (with_reducible refine cD_ ?_))); (case side2 => exact HC1_0.out); (case side3 => repeat (first | exact (cB_ HR1_1.out HB.out) | (with_reducible refine cA_ ?_ _) | (with_reducible refine cN_ ?_ _) | (with_reducible refine cD_ ?_))); (case side4 => exact HC1_1.out); rintro e w32 ⟨rfl, hb⟩; refine ⟨_, rfl, ?_⟩; have n0_ := aM_ (kB_ (g := gb157) (o := .cells #[.slice A0_0 l0_0.length c0_0, .slice A0_1 l0_1.length c0_1] 32 (0, 0)) (by (with_reducible repeat (first | refine kN_ ?_ _ | refine kD_ ?_ | refine kA_ ?_ _)); exact BK157.out) hb); have n1_ := aM_ (kB_ (g := gb158) (o := .cells #[.slice A1_0 l1_0.length c1_0, .slice A1_1 l1_1.length c1_1] 32 (0, 0)) (by (with_reducible repeat (first | refine kN_ ?_ _ | refine kD_ ?_ | refine kA_ ?_ _)); exact BK158.out) hb); have n2_ := aM_ (bP_ (by repeat (with_reducible first | exact HB.out | apply bA_ | apply bN_ | apply bD_ | refine bS_ ?_ GE157.out | refine bS_ ?_ GE158.out)) hb); clear BK157; clear BK158; clear HB; have BK157 := n0_; have BK158 := n1_; have HB := n2_; clear n0_ n1_ n2_; (try clear hb); (try clear hb2); (try clear hk); (try clear hi)))
    have n0_ := aM_ (kD_ BK157.out)
    have n1_ := aM_ (kD_ BK158.out)
    have n2_ := aM_ (bD_ HB.out)
    clear BK157
    clear BK158
    clear HB
    have BK157 := n0_
    have BK158 := n1_
    have HB := n2_
    clear n0_ n1_ n2_
    refine start_ (n := 6) (S := fun w' => w'.cell? ⟨gb157, 0, none⟩ = some (.slice A0_0 l0_0.length c0_0) ∧ w'.cell? ⟨gb157, 1, none⟩ = some (.slice A0_1 l0_1.length c0_1) ∧ w'.cell? ⟨gb158, 0, none⟩ = some (.slice A1_0 l1_0.length c1_0) ∧ w'.cell? ⟨gb158, 1, none⟩ = some (.slice A1_1 l1_1.length c1_1)) (ds := []) #[false, false, false, false, false, false] (by kernel_rfl) rfl rfl ⟨(kC_ BK157.out 0).trans rfl, (kC_ BK157.out 1).trans rfl, (kC_ BK158.out 0).trans rfl, (kC_ BK158.out 1).trans rfl⟩ (fun hHeld => ?_)
    generalize w32.drew = w33 at BK157 BK158 HB hHeld ⊢
    refine take_ (i := 0) (N := some 20) (v := ?_) (a' := ?_) #[true, false, false, false, false, false] rfl rfl (by kernel_rfl) (fun _ _ _ h => h) (Or.inl ⟨by rfl, ?_⟩) hHeld ?_ ?_
    rotate_left
    ·rintro w' ⟨s0, s1, s2, s3⟩
     go_simp
     with_reducible rfl
    rotate_left
    ·simp only [Act.put, List.setIfInBounds_toArray, List.set_cons_zero, List.set_cons_succ, i64_w, i32_w]
     rfl
    refine take_ (i := 2) (N := some 22) (v := ?_) (a' := ?_) #[true, false, true, false, false, false] rfl rfl (by kernel_rfl) (fun _ _ _ h => h) (Or.inl ⟨by rfl, ?_⟩) hHeld ?_ ?_
    rotate_left
    ·rintro w' ⟨s0, s1, s2, s3⟩
     go_simp
     with_reducible rfl
    rotate_left
    ·simp only [Act.put, List.setIfInBounds_toArray, List.set_cons_zero, List.set_cons_succ, i64_w, i32_w]
     rfl
    refine one_ (i := 1) (N := some 21) #[true, true, true, false, false, false] rfl rfl (by kernel_rfl) (by decide) (fun K hK => ?_)
    refine goes_ Try.func16 (by kernel_rfl) rfl #[.agg #[.slice A0_0 l0_0.length c0_0, .slice A0_1 l0_1.length c0_1]] (by rfl) rfl rfl (by (try simp only [List.map_toArray, List.map_cons, List.map_nil]); first | done | rfl | (simp only [List.length_drop, List.length_take]; rfl)) ?_
    with_reducible refine (laws_toDevice.calls k _ _ l0_0 _ _ l0_1 t161 t164 _ ?side1 ?side2 ?side3 ?side4 A19.out).mono ?_
    (case side1 => repeat (first | exact (cB_ HR0_0.out HB.out) | (with_reducible refine cA_ ?_ _) | (with_reducible refine cN_ ?_ _) | (with_reducible refine cD_ ?_)))
    (case side2 => exact HC0_0.out)
    (case side3 => repeat (first | exact (cB_ HR0_1.out HB.out) | (with_reducible refine cA_ ?_ _) | (with_reducible refine cN_ ?_ _) | (with_reducible refine cD_ ?_)))
    (case side4 => exact HC0_1.out)
    rintro e w34 ⟨v162, v165, rfl, ho0, ho1, hb⟩
    refine ⟨_, rfl, ?_⟩
    have n0_ := aM_ (rO_ ho0 (bZ_ (by repeat (with_reducible first | exact HB.out | apply bA_ | apply bN_ | apply bD_ | refine bS_ ?_ GE157.out | refine bS_ ?_ GE158.out))))
    have n1_ := aM_ (rO_ ho1 (bZ_ (by repeat (with_reducible first | exact HB.out | apply bA_ | apply bN_ | apply bD_ | refine bS_ ?_ GE157.out | refine bS_ ?_ GE158.out))))
    have n2_ := aM_ (kB_ (g := gb157) (o := .cells #[.slice A0_0 l0_0.length c0_0, .slice A0_1 l0_1.length c0_1] 32 (0, 0)) (by (with_reducible repeat (first | refine kN_ ?_ _ | refine kD_ ?_ | refine kA_ ?_ _)); exact BK157.out) hb)
    have n3_ := aM_ (kB_ (g := gb158) (o := .cells #[.slice A1_0 l1_0.length c1_0, .slice A1_1 l1_1.length c1_1] 32 (0, 0)) (by (with_reducible repeat (first | refine kN_ ?_ _ | refine kD_ ?_ | refine kA_ ?_ _)); exact BK158.out) hb)
    have n4_ := aM_ (bP_ (by repeat (with_reducible first | exact HB.out | apply bA_ | apply bN_ | apply bD_ | refine bS_ ?_ GE157.out | refine bS_ ?_ GE158.out)) hb)
    clear BK157
    clear BK158
    clear HB
    have HO163 := n0_
    have HO166 := n1_
    have BK157 := n2_
    have BK158 := n3_
    have HB := n4_
    clear n0_ n1_ n2_ n3_ n4_
    (try clear hb)
    (try clear hb2)
    (try clear hk)
    (try clear hi)
    (try clear ho0)
    (try clear ho1)
    refine hK.out _ _ ⟨(kC_ BK157.out 0).trans rfl, (kC_ BK157.out 1).trans rfl, (kC_ BK158.out 0).trans rfl, (kC_ BK158.out 1).trans rfl⟩ (fun hHeld => ?_)
    clear hK K
    refine norm_ (a' := ?_) ?_ ?_
    rotate_left
    ·show Act.put _ (some 21) _ = _
     simp only [Act.put, List.setIfInBounds_toArray, List.set_cons_zero, List.set_cons_succ, i64_w, i32_w]
     rfl
    refine one_ (i := 3) (N := some 23) #[true, true, true, true, false, false] rfl rfl (by kernel_rfl) (by decide) (fun K hK => ?_)
    refine goes_ Try.func16 (by kernel_rfl) rfl #[.agg #[.slice A1_0 l1_0.length c1_0, .slice A1_1 l1_1.length c1_1]] (by rfl) rfl rfl (by (try simp only [List.map_toArray, List.map_cons, List.map_nil]); first | done | rfl | (simp only [List.length_drop, List.length_take]; rfl)) ?_
    with_reducible refine (laws_toDevice.calls k _ _ l1_0 _ _ l1_1 t167 t170 _ ?side1 ?side2 ?side3 ?side4 A20.out).mono ?_
    (case side1 => repeat (first | exact (cB_ HR1_0.out HB.out) | (with_reducible refine cA_ ?_ _) | (with_reducible refine cN_ ?_ _) | (with_reducible refine cD_ ?_)))
    (case side2 => exact HC1_0.out)
    (case side3 => repeat (first | exact (cB_ HR1_1.out HB.out) | (with_reducible refine cA_ ?_ _) | (with_reducible refine cN_ ?_ _) | (with_reducible refine cD_ ?_)))
    (case side4 => exact HC1_1.out)
    rintro e w35 ⟨v168, v171, rfl, ho0, ho1, hb⟩
    refine ⟨_, rfl, ?_⟩
    have n0_ := aM_ (rE_ (by (with_reducible repeat (first | apply rA_ | apply rN_)); exact HO163.out) (rS_ ho0) hb)
    have n1_ := aM_ (rE_ (by (with_reducible repeat (first | apply rA_ | apply rN_)); exact HO166.out) (rS_ ho1) hb)
    have n2_ := aM_ (rO_ (rW_ ho0 (rL_ (by (with_reducible repeat (first | apply rA_ | apply rN_)); exact HO163.out))) (bZ_ (by repeat (with_reducible first | exact HB.out | apply bA_ | apply bN_ | apply bD_ | refine bS_ ?_ GE157.out | refine bS_ ?_ GE158.out))))
    have n3_ := aM_ (rO_ (rW_ ho1 (rL_ (by (with_reducible repeat (first | apply rA_ | apply rN_)); exact HO166.out))) (bZ_ (by repeat (with_reducible first | exact HB.out | apply bA_ | apply bN_ | apply bD_ | refine bS_ ?_ GE157.out | refine bS_ ?_ GE158.out))))
    have n4_ := aM_ (kB_ (g := gb157) (o := .cells #[.slice A0_0 l0_0.length c0_0, .slice A0_1 l0_1.length c0_1] 32 (0, 0)) (by (with_reducible repeat (first | refine kN_ ?_ _ | refine kD_ ?_ | refine kA_ ?_ _)); exact BK157.out) hb)
    have n5_ := aM_ (kB_ (g := gb158) (o := .cells #[.slice A1_0 l1_0.length c1_0, .slice A1_1 l1_1.length c1_1] 32 (0, 0)) (by (with_reducible repeat (first | refine kN_ ?_ _ | refine kD_ ?_ | refine kA_ ?_ _)); exact BK158.out) hb)
    have n6_ := aM_ (bP_ (by repeat (with_reducible first | exact HB.out | apply bA_ | apply bN_ | apply bD_ | refine bS_ ?_ GE157.out | refine bS_ ?_ GE158.out)) hb)
    clear HO163
    clear HO166
    clear BK157
    clear BK158
    clear HB
    have HO163 := n0_
    have HO166 := n1_
    have HO169 := n2_
    have HO172 := n3_
    have BK157 := n4_
    have BK158 := n5_
    have HB := n6_
    clear n0_ n1_ n2_ n3_ n4_ n5_ n6_
    (try clear hb)
    (try clear hb2)
    (try clear hk)
    (try clear hi)
    (try clear ho0)
    (try clear ho1)
    obtain ⟨Ao36, co36, eo36⟩ := Kd.R_slice HO163.out
    (first | subst eo36 | (injection eo36 with f1_ f2_ f3_; have f4_ := f1_.symm; have f5_ := f3_.symm; clear f1_ f2_ f3_; subst f4_; subst f5_))
    obtain ⟨Ao37, co37, eo37⟩ := Kd.R_slice HO166.out
    (first | subst eo37 | (injection eo37 with f1_ f2_ f3_; have f4_ := f1_.symm; have f5_ := f3_.symm; clear f1_ f2_ f3_; subst f4_; subst f5_))
    obtain ⟨Ao38, co38, eo38⟩ := Kd.R_slice HO169.out
    (first | subst eo38 | (injection eo38 with f1_ f2_ f3_; have f4_ := f1_.symm; have f5_ := f3_.symm; clear f1_ f2_ f3_; subst f4_; subst f5_))
    obtain ⟨Ao39, co39, eo39⟩ := Kd.R_slice HO172.out
    (first | subst eo39 | (injection eo39 with f1_ f2_ f3_; have f4_ := f1_.symm; have f5_ := f3_.symm; clear f1_ f2_ f3_; subst f4_; subst f5_))
    refine hK.out _ _ ⟨(kC_ BK157.out 0).trans rfl, (kC_ BK157.out 1).trans rfl, (kC_ BK158.out 0).trans rfl, (kC_ BK158.out 1).trans rfl⟩ (fun hHeld => ?_)
    clear hK K
    refine norm_ (a' := ?_) ?_ ?_
    rotate_left
    ·show Act.put _ (some 23) _ = _
     simp only [Act.put, List.setIfInBounds_toArray, List.set_cons_zero, List.set_cons_succ, i64_w, i32_w]
     rfl
    refine one_ (i := 4) (N := some 24) #[true, true, true, true, true, false] rfl rfl (by kernel_rfl) (by decide) (fun K hK => ?_)
    refine goes_ Try.func15 (by kernel_rfl) rfl #[.agg #[.slice Ao36 t161.length co36, .slice Ao37 t164.length co37], .agg #[.slice Ao38 t167.length co38, .slice Ao39 t170.length co39]] (by rfl) rfl rfl (by (try simp only [List.map_toArray, List.map_cons, List.map_nil]); first | done | rfl | (simp only [List.length_drop, List.length_take]; rfl)) ?_
    with_reducible refine (spec_SameDevice.calls k _ _ t161 _ _ t164 _ _ t167 _ _ t170 t173 _ ?side1 ?side2 ?side3 ?side4 ?side5 ?side6 ?side7 ?side8 A21.out).mono ?_
    (case side1 => repeat (first | exact (rR_ HO163.out).2.2 | (with_reducible refine cA_ ?_ _) | (with_reducible refine cN_ ?_ _) | (with_reducible refine cD_ ?_)))
    (case side2 => exact (rR_ HO163.out).2.1)
    (case side3 => repeat (first | exact (rR_ HO166.out).2.2 | (with_reducible refine cA_ ?_ _) | (with_reducible refine cN_ ?_ _) | (with_reducible refine cD_ ?_)))
    (case side4 => exact (rR_ HO166.out).2.1)
    (case side5 => repeat (first | exact (rR_ HO169.out).2.2 | (with_reducible refine cA_ ?_ _) | (with_reducible refine cN_ ?_ _) | (with_reducible refine cD_ ?_)))
    (case side6 => exact (rR_ HO169.out).2.1)
    (case side7 => repeat (first | exact (rR_ HO172.out).2.2 | (with_reducible refine cA_ ?_ _) | (with_reducible refine cN_ ?_ _) | (with_reducible refine cD_ ?_)))
    (case side8 => exact (rR_ HO172.out).2.1)
    rintro e w40 ⟨rfl, hb⟩
    refine ⟨_, rfl, ?_⟩
    have n0_ := aM_ (rB_ (by (with_reducible repeat (first | apply rA_ | apply rN_)); exact HO163.out) hb)
    have n1_ := aM_ (rB_ (by (with_reducible repeat (first | apply rA_ | apply rN_)); exact HO166.out) hb)
    have n2_ := aM_ (rB_ (by (with_reducible repeat (first | apply rA_ | apply rN_)); exact HO169.out) hb)
    have n3_ := aM_ (rB_ (by (with_reducible repeat (first | apply rA_ | apply rN_)); exact HO172.out) hb)
    have n4_ := aM_ (kB_ (g := gb157) (o := .cells #[.slice A0_0 l0_0.length c0_0, .slice A0_1 l0_1.length c0_1] 32 (0, 0)) (by (with_reducible repeat (first | refine kN_ ?_ _ | refine kD_ ?_ | refine kA_ ?_ _)); exact BK157.out) hb)
    have n5_ := aM_ (kB_ (g := gb158) (o := .cells #[.slice A1_0 l1_0.length c1_0, .slice A1_1 l1_1.length c1_1] 32 (0, 0)) (by (with_reducible repeat (first | refine kN_ ?_ _ | refine kD_ ?_ | refine kA_ ?_ _)); exact BK158.out) hb)
    have n6_ := aM_ (bP_ (by repeat (with_reducible first | exact HB.out | apply bA_ | apply bN_ | apply bD_ | refine bS_ ?_ GE157.out | refine bS_ ?_ GE158.out)) hb)
    clear HO163
    clear HO166
    clear HO169
    clear HO172
    clear BK157
    clear BK158
    clear HB
    have HO163 := n0_
    have HO166 := n1_
    have HO169 := n2_
    have HO172 := n3_
    have BK157 := n4_
    have BK158 := n5_
    have HB := n6_
    clear n0_ n1_ n2_ n3_ n4_ n5_ n6_
    (try clear hb)
    (try clear hb2)
    (try clear hk)
    (try clear hi)
    refine hK.out _ _ ⟨(kC_ BK157.out 0).trans rfl, (kC_ BK157.out 1).trans rfl, (kC_ BK158.out 0).trans rfl, (kC_ BK158.out 1).trans rfl⟩ (fun hHeld => ?_)
    clear hK K
    refine norm_ (a' := ?_) ?_ ?_
    rotate_left
    ·show Act.put _ (some 24) _ = _
     simp only [Act.put, List.setIfInBounds_toArray, List.set_cons_zero, List.set_cons_succ, i64_w, i32_w]
     rfl
    refine pure_ (i := 5) (N := some 6) (v := ?_) (a' := ?_) #[true, true, true, true, true, true] rfl rfl (by kernel_rfl) (fun _ _ _ h => h) (Or.inl ⟨by rfl, ?_⟩) ?_ ?_
    rotate_left
    ·intro w'
     go_simp
     with_reducible rfl
    rotate_left
    ·simp only [Act.put, List.setIfInBounds_toArray, List.set_cons_zero, List.set_cons_succ, i64_w, i32_w]
     rfl
    refine done_ (by kernel_rfl) ?_
    have hcz41_0 : w40.cell? ⟨gb157, 0, none⟩ = some (.slice A0_0 l0_0.length c0_0) := (kC_ BK157.out 0).trans rfl
    have hcz41_1 : w40.cell? ⟨gb157, 1, none⟩ = some (.slice A0_1 l0_1.length c0_1) := (kC_ BK157.out 1).trans rfl
    have hfz41_0 := kZ_ BK157.out 0
    have hfz41_1 := kZ_ BK157.out 1
    try go_wp2_with (first | ((with_reducible refine gate_callee (f := 16) rfl ?_); refine goesL_ (some 26) rfl rfl Try.func16 (by kernel_rfl) rfl #[.agg #[.slice A0_0 l0_0.length c0_0, .slice A0_1 l0_1.length c0_1]] rfl (by (try simp only [List.map_toArray, List.map_cons, List.map_nil]); first | done | rfl | (simp only [List.length_drop, List.length_take]; rfl)) ?_; (with_reducible refine (laws_toDevice.calls k _ _ l0_0 _ _ l0_1 t174 t177 _ ?side1 ?side2 ?side3 ?side4 A22.out).mono ?_); (case side1 => repeat (first | exact (cB_ HR0_0.out HB.out) | (with_reducible refine cA_ ?_ _) | (with_reducible refine cN_ ?_ _) | (with_reducible refine cD_ ?_))); (case side2 => exact HC0_0.out); (case side3 => repeat (first | exact (cB_ HR0_1.out HB.out) | (with_reducible refine cA_ ?_ _) | (with_reducible refine cN_ ?_ _) | (with_reducible refine cD_ ?_))); (case side4 => exact HC0_1.out); rintro e w42 ⟨v175, v178, rfl, ho0, ho1, hb⟩; refine ⟨_, rfl, ?_⟩; have n0_ := aM_ (rE_ (by (with_reducible repeat (first | apply rA_ | apply rN_)); exact HO163.out) (rS_ ho0) hb); have n1_ := aM_ (rE_ (by (with_reducible repeat (first | apply rA_ | apply rN_)); exact HO166.out) (rS_ ho1) hb); have n2_ := aM_ (rE_ (by (with_reducible repeat (first | apply rA_ | apply rN_)); exact HO169.out) (rS_ ho0) hb); have n3_ := aM_ (rE_ (by (with_reducible repeat (first | apply rA_ | apply rN_)); exact HO172.out) (rS_ ho1) hb); have n4_ := aM_ (rO_ (rW_ (rW_ ho0 (rL_ (by (with_reducible repeat (first | apply rA_ | apply rN_)); exact HO163.out))) (rL_ (by (with_reducible repeat (first | apply rA_ | apply rN_)); exact HO169.out))) (bZ_ (by repeat (with_reducible first | exact HB.out | apply bA_ | apply bN_ | apply bD_ | refine bS_ ?_ GE157.out | refine bS_ ?_ GE158.out)))); have n5_ := aM_ (rO_ (rW_ (rW_ ho1 (rL_ (by (with_reducible repeat (first | apply rA_ | apply rN_)); exact HO166.out))) (rL_ (by (with_reducible repeat (first | apply rA_ | apply rN_)); exact HO172.out))) (bZ_ (by repeat (with_reducible first | exact HB.out | apply bA_ | apply bN_ | apply bD_ | refine bS_ ?_ GE157.out | refine bS_ ?_ GE158.out)))); have n6_ := aM_ (kB_ (g := gb157) (o := .cells #[.slice A0_0 l0_0.length c0_0, .slice A0_1 l0_1.length c0_1] 32 (0, 0)) (by (with_reducible repeat (first | refine kN_ ?_ _ | refine kD_ ?_ | refine kA_ ?_ _)); exact BK157.out) hb); have n7_ := aM_ (kB_ (g := gb158) (o := .cells #[.slice A1_0 l1_0.length c1_0, .slice A1_1 l1_1.length c1_1] 32 (0, 0)) (by (with_reducible repeat (first | refine kN_ ?_ _ | refine kD_ ?_ | refine kA_ ?_ _)); exact BK158.out) hb); have n8_ := aM_ (bP_ (by repeat (with_reducible first | exact HB.out | apply bA_ | apply bN_ | apply bD_ | refine bS_ ?_ GE157.out | refine bS_ ?_ GE158.out)) hb); clear HO163; clear HO166; clear HO169; clear HO172; clear BK157; clear BK158; clear HB; have HO163 := n0_; have HO166 := n1_; have HO169 := n2_; have HO172 := n3_; have HO176 := n4_; have HO179 := n5_; have BK157 := n6_; have BK158 := n7_; have HB := n8_; clear n0_ n1_ n2_ n3_ n4_ n5_ n6_ n7_ n8_; (try clear hb); (try clear hb2); (try clear hk); (try clear hi); (try clear ho0); (try clear ho1)) | ((with_reducible refine gate_dst (N := 7) rfl ?_); refine box_event ?hg (N := 7) ?hd (cs := #[.slice none 0 0, .slice none 0 0]) (t := 25) ?hr ?_; (case hd => rfl); (case hg => rfl); (case hr => first | (go_simp; done) | (go_simp; rfl)); intro gb180 hg w43 hbox hb; have n0_ := aM_ (rB_ (by (with_reducible repeat (first | apply rA_ | apply rN_)); exact HO163.out) hb); have n1_ := aM_ (rB_ (by (with_reducible repeat (first | apply rA_ | apply rN_)); exact HO166.out) hb); have n2_ := aM_ (rB_ (by (with_reducible repeat (first | apply rA_ | apply rN_)); exact HO169.out) hb); have n3_ := aM_ (rB_ (by (with_reducible repeat (first | apply rA_ | apply rN_)); exact HO172.out) hb); have n4_ := aM_ (rB_ (by (with_reducible repeat (first | apply rA_ | apply rN_)); exact HO176.out) hb); have n5_ := aM_ (rB_ (by (with_reducible repeat (first | apply rA_ | apply rN_)); exact HO179.out) hb); have n6_ := aM_ (kB_ (g := gb157) (o := .cells #[.slice A0_0 l0_0.length c0_0, .slice A0_1 l0_1.length c0_1] 32 (0, 0)) (by (with_reducible repeat (first | refine kN_ ?_ _ | refine kD_ ?_ | refine kA_ ?_ _)); exact BK157.out) hb); have n7_ := aM_ (kB_ (g := gb158) (o := .cells #[.slice A1_0 l1_0.length c1_0, .slice A1_1 l1_1.length c1_1] 32 (0, 0)) (by (with_reducible repeat (first | refine kN_ ?_ _ | refine kD_ ?_ | refine kA_ ?_ _)); exact BK158.out) hb); have n8_ := aM_ (bP_ (by repeat (with_reducible first | exact HB.out | apply bA_ | apply bN_ | apply bD_ | refine bS_ ?_ GE157.out | refine bS_ ?_ GE158.out)) hb); have n9_ := aM_ (hbox); have n10_ := aM_ ((by rw [hg]; exact (bZ_ (by repeat (with_reducible first | exact HB.out | apply bA_ | apply bN_ | apply bD_ | refine bS_ ?_ GE157.out | refine bS_ ?_ GE158.out))) : w.heap.size ≤ gb180)); have n11_ := aM_ ((by rw [hg]; exact (bZ_ (by repeat (with_reducible first | exact HB.out | apply bA_ | apply bN_ | apply bD_ | refine bS_ ?_ GE157.out | refine bS_ ?_ GE158.out))) : w.heap.size ≤ gb180)); have n12_ := aM_ ((by rw [hg]; exact Nat.ne_of_lt (kL_ (g := gb157) (o := .cells #[.slice A0_0 l0_0.length c0_0, .slice A0_1 l0_1.length c0_1] 32 (0, 0)) (by (with_reducible repeat (first | refine kN_ ?_ _ | refine kD_ ?_ | refine kA_ ?_ _)); exact BK157.out)) : gb157 ≠ gb180)); have n13_ := aM_ ((by rw [hg]; exact Nat.ne_of_gt (kL_ (g := gb157) (o := .cells #[.slice A0_0 l0_0.length c0_0, .slice A0_1 l0_1.length c0_1] 32 (0, 0)) (by (with_reducible repeat (first | refine kN_ ?_ _ | refine kD_ ?_ | refine kA_ ?_ _)); exact BK157.out)) : gb180 ≠ gb157)); have n14_ := aM_ ((by rw [hg]; exact Nat.ne_of_lt (kL_ (g := gb158) (o := .cells #[.slice A1_0 l1_0.length c1_0, .slice A1_1 l1_1.length c1_1] 32 (0, 0)) (by (with_reducible repeat (first | refine kN_ ?_ _ | refine kD_ ?_ | refine kA_ ?_ _)); exact BK158.out)) : gb158 ≠ gb180)); have n15_ := aM_ ((by rw [hg]; exact Nat.ne_of_gt (kL_ (g := gb158) (o := .cells #[.slice A1_0 l1_0.length c1_0, .slice A1_1 l1_1.length c1_1] 32 (0, 0)) (by (with_reducible repeat (first | refine kN_ ?_ _ | refine kD_ ?_ | refine kA_ ?_ _)); exact BK158.out)) : gb180 ≠ gb158)); clear HO163; clear HO166; clear HO169; clear HO172; clear HO176; clear HO179; clear BK157; clear BK158; clear HB; have HO163 := n0_; have HO166 := n1_; have HO169 := n2_; have HO172 := n3_; have HO176 := n4_; have HO179 := n5_; have BK157 := n6_; have BK158 := n7_; have HB := n8_; have BK180 := n9_; have GW180 := n10_; have GE180 := n11_; have NB157_180 := n12_; have NB180_157 := n13_; have NB158_180 := n14_; have NB180_158 := n15_; clear n0_ n1_ n2_ n3_ n4_ n5_ n6_ n7_ n8_ n9_ n10_ n11_ n12_ n13_ n14_ n15_; clear hb hbox hg; obtain ⟨Ao44, co44, eo44⟩ := Kd.R_slice HO176.out; subst eo44; have hnb45 := NB180_157.out; have hnc45 := NB157_180.out; have hnb46 := NB180_158.out; have hnc46 := NB158_180.out; have hcz47_0 : w43.cell? ⟨gb180, 0, none⟩ = some (.slice none 0 0) := (kC_ BK180.out 0).trans rfl; have hcz47_1 : w43.cell? ⟨gb180, 1, none⟩ = some (.slice none 0 0) := (kC_ BK180.out 1).trans rfl; have hfz47_0 := kZ_ BK180.out 0; have hfz47_1 := kZ_ BK180.out 1; obtain ⟨Ao48, co48, eo48⟩ := Kd.R_slice HO179.out; subst eo48; have hcz49_0 : w43.cell? ⟨gb158, 0, none⟩ = some (.slice A1_0 l1_0.length c1_0) := (kC_ BK158.out 0).trans rfl; have hcz49_1 : w43.cell? ⟨gb158, 1, none⟩ = some (.slice A1_1 l1_1.length c1_1) := (kC_ BK158.out 1).trans rfl; have hfz49_0 := kZ_ BK158.out 0; have hfz49_1 := kZ_ BK158.out 1) | ((with_reducible refine gate_callee (f := 16) rfl ?_); refine goesL_ (some 28) rfl rfl Try.func16 (by kernel_rfl) rfl #[.agg #[.slice A1_0 l1_0.length c1_0, .slice A1_1 l1_1.length c1_1]] rfl (by (try simp only [List.map_toArray, List.map_cons, List.map_nil]); first | done | rfl | (simp only [List.length_drop, List.length_take]; rfl)) ?_; (with_reducible refine (laws_toDevice.calls k _ _ l1_0 _ _ l1_1 t181 t184 _ ?side1 ?side2 ?side3 ?side4 A23.out).mono ?_); (case side1 => exact cB_ HR1_0.out (by repeat (with_reducible first | exact HB.out | apply bA_ | apply bN_ | apply bD_ | refine bS_ ?_ GE157.out | refine bS_ ?_ GE158.out | refine bS_ ?_ GE180.out))); (case side2 => exact HC1_0.out); (case side3 => exact cB_ HR1_1.out (by repeat (with_reducible first | exact HB.out | apply bA_ | apply bN_ | apply bD_ | refine bS_ ?_ GE157.out | refine bS_ ?_ GE158.out | refine bS_ ?_ GE180.out))); (case side4 => exact HC1_1.out); rintro e w50 ⟨v182, v185, rfl, ho0, ho1, hb⟩; refine ⟨_, rfl, ?_⟩; have n0_ := aM_ (rE_ (by (with_reducible repeat (first | apply rA_ | apply rN_)); exact (rM_ (rF_ (p := ⟨gb180, 1, none⟩) (rF_ (p := ⟨gb180, 0, none⟩) (rT_ HO163.out BK180.out (by decide)) (fun _ hk => hk.2) (.slice Ao44 t174.length co44)) (fun _ hk => hk.2) (.slice Ao48 t177.length co48)) (fun _ h_ => h_.1))) (rS_ ho0) hb); have n1_ := aM_ (rE_ (by (with_reducible repeat (first | apply rA_ | apply rN_)); exact (rM_ (rF_ (p := ⟨gb180, 1, none⟩) (rF_ (p := ⟨gb180, 0, none⟩) (rT_ HO166.out BK180.out (by decide)) (fun _ hk => hk.2) (.slice Ao44 t174.length co44)) (fun _ hk => hk.2) (.slice Ao48 t177.length co48)) (fun _ h_ => h_.1))) (rS_ ho1) hb); have n2_ := aM_ (rE_ (by (with_reducible repeat (first | apply rA_ | apply rN_)); exact (rM_ (rF_ (p := ⟨gb180, 1, none⟩) (rF_ (p := ⟨gb180, 0, none⟩) (rT_ HO169.out BK180.out (by decide)) (fun _ hk => hk.2) (.slice Ao44 t174.length co44)) (fun _ hk => hk.2) (.slice Ao48 t177.length co48)) (fun _ h_ => h_.1))) (rS_ ho0) hb); have n3_ := aM_ (rE_ (by (with_reducible repeat (first | apply rA_ | apply rN_)); exact (rM_ (rF_ (p := ⟨gb180, 1, none⟩) (rF_ (p := ⟨gb180, 0, none⟩) (rT_ HO172.out BK180.out (by decide)) (fun _ hk => hk.2) (.slice Ao44 t174.length co44)) (fun _ hk => hk.2) (.slice Ao48 t177.length co48)) (fun _ h_ => h_.1))) (rS_ ho1) hb); have n4_ := aM_ (rE_ (by (with_reducible repeat (first | apply rA_ | apply rN_)); exact (rM_ (rF_ (p := ⟨gb180, 1, none⟩) (rF_ (p := ⟨gb180, 0, none⟩) (rT_ HO176.out BK180.out (by decide)) (fun _ hk => hk.2) (.slice Ao44 t174.length co44)) (fun _ hk => hk.2) (.slice Ao48 t177.length co48)) (fun _ h_ => h_.1))) (rS_ ho0) hb); have n5_ := aM_ (rE_ (by (with_reducible repeat (first | apply rA_ | apply rN_)); exact (rM_ (rF_ (p := ⟨gb180, 1, none⟩) (rF_ (p := ⟨gb180, 0, none⟩) (rT_ HO179.out BK180.out (by decide)) (fun _ hk => hk.2) (.slice Ao44 t174.length co44)) (fun _ hk => hk.2) (.slice Ao48 t177.length co48)) (fun _ h_ => h_.1))) (rS_ ho1) hb); have n6_ := aM_ (rO_ (rW_ (rW_ (rW_ ho0 (rL_ (by (with_reducible repeat (first | apply rA_ | apply rN_)); exact (rM_ (rF_ (p := ⟨gb180, 1, none⟩) (rF_ (p := ⟨gb180, 0, none⟩) (rT_ HO163.out BK180.out (by decide)) (fun _ hk => hk.2) (.slice Ao44 t174.length co44)) (fun _ hk => hk.2) (.slice Ao48 t177.length co48)) (fun _ h_ => h_.1))))) (rL_ (by (with_reducible repeat (first | apply rA_ | apply rN_)); exact (rM_ (rF_ (p := ⟨gb180, 1, none⟩) (rF_ (p := ⟨gb180, 0, none⟩) (rT_ HO169.out BK180.out (by decide)) (fun _ hk => hk.2) (.slice Ao44 t174.length co44)) (fun _ hk => hk.2) (.slice Ao48 t177.length co48)) (fun _ h_ => h_.1))))) (rL_ (by (with_reducible repeat (first | apply rA_ | apply rN_)); exact (rM_ (rF_ (p := ⟨gb180, 1, none⟩) (rF_ (p := ⟨gb180, 0, none⟩) (rT_ HO176.out BK180.out (by decide)) (fun _ hk => hk.2) (.slice Ao44 t174.length co44)) (fun _ hk => hk.2) (.slice Ao48 t177.length co48)) (fun _ h_ => h_.1))))) (bZ_ (by repeat (with_reducible first | exact HB.out | apply bA_ | apply bN_ | apply bD_ | refine bS_ ?_ GE157.out | refine bS_ ?_ GE158.out | refine bS_ ?_ GE180.out)))); have n7_ := aM_ (rO_ (rW_ (rW_ (rW_ ho1 (rL_ (by (with_reducible repeat (first | apply rA_ | apply rN_)); exact (rM_ (rF_ (p := ⟨gb180, 1, none⟩) (rF_ (p := ⟨gb180, 0, none⟩) (rT_ HO166.out BK180.out (by decide)) (fun _ hk => hk.2) (.slice Ao44 t174.length co44)) (fun _ hk => hk.2) (.slice Ao48 t177.length co48)) (fun _ h_ => h_.1))))) (rL_ (by (with_reducible repeat (first | apply rA_ | apply rN_)); exact (rM_ (rF_ (p := ⟨gb180, 1, none⟩) (rF_ (p := ⟨gb180, 0, none⟩) (rT_ HO172.out BK180.out (by decide)) (fun _ hk => hk.2) (.slice Ao44 t174.length co44)) (fun _ hk => hk.2) (.slice Ao48 t177.length co48)) (fun _ h_ => h_.1))))) (rL_ (by (with_reducible repeat (first | apply rA_ | apply rN_)); exact (rM_ (rF_ (p := ⟨gb180, 1, none⟩) (rF_ (p := ⟨gb180, 0, none⟩) (rT_ HO179.out BK180.out (by decide)) (fun _ hk => hk.2) (.slice Ao44 t174.length co44)) (fun _ hk => hk.2) (.slice Ao48 t177.length co48)) (fun _ h_ => h_.1))))) (bZ_ (by repeat (with_reducible first | exact HB.out | apply bA_ | apply bN_ | apply bD_ | refine bS_ ?_ GE157.out | refine bS_ ?_ GE158.out | refine bS_ ?_ GE180.out)))); have n8_ := aM_ (kB_ (g := gb157) (o := .cells #[.slice A0_0 l0_0.length c0_0, .slice A0_1 l0_1.length c0_1] 32 (0, 0)) (by (with_reducible repeat (first | refine kN_ ?_ _ | refine kD_ ?_ | refine kA_ ?_ _)); refine kF_ ?_ NB157_180.out _; (with_reducible repeat (first | refine kN_ ?_ _ | refine kD_ ?_ | refine kA_ ?_ _)); refine kF_ ?_ NB157_180.out _; (with_reducible repeat (first | refine kN_ ?_ _ | refine kD_ ?_ | refine kA_ ?_ _)); exact BK157.out) hb); have n9_ := aM_ (kB_ (g := gb158) (o := .cells #[.slice A1_0 l1_0.length c1_0, .slice A1_1 l1_1.length c1_1] 32 (0, 0)) (by (with_reducible repeat (first | refine kN_ ?_ _ | refine kD_ ?_ | refine kA_ ?_ _)); refine kF_ ?_ NB158_180.out _; (with_reducible repeat (first | refine kN_ ?_ _ | refine kD_ ?_ | refine kA_ ?_ _)); refine kF_ ?_ NB158_180.out _; (with_reducible repeat (first | refine kN_ ?_ _ | refine kD_ ?_ | refine kA_ ?_ _)); exact BK158.out) hb); have n10_ := aM_ (kB_ (g := gb180) (o := .cells #[.slice Ao44 t174.length co44, .slice Ao48 t177.length co48] 25 (0, 0)) (by (with_reducible repeat (first | refine kN_ ?_ _ | refine kD_ ?_ | refine kA_ ?_ _)); refine blk_put (cs := #[.slice Ao44 t174.length co44, .slice none 0 0]) ?_ 1 _ rfl; (with_reducible repeat (first | refine kN_ ?_ _ | refine kD_ ?_ | refine kA_ ?_ _)); refine blk_put (cs := #[.slice none 0 0, .slice none 0 0]) ?_ 0 _ rfl; (with_reducible repeat (first | refine kN_ ?_ _ | refine kD_ ?_ | refine kA_ ?_ _)); exact BK180.out) hb); have n11_ := aM_ (bP_ (by repeat (with_reducible first | exact HB.out | apply bA_ | apply bN_ | apply bD_ | refine bS_ ?_ GE157.out | refine bS_ ?_ GE158.out | refine bS_ ?_ GE180.out)) hb); clear HO163; clear HO166; clear HO169; clear HO172; clear HO176; clear HO179; clear BK157; clear BK158; clear BK180; clear HB; have HO163 := n0_; have HO166 := n1_; have HO169 := n2_; have HO172 := n3_; have HO176 := n4_; have HO179 := n5_; have HO183 := n6_; have HO186 := n7_; have BK157 := n8_; have BK158 := n9_; have BK180 := n10_; have HB := n11_; clear n0_ n1_ n2_ n3_ n4_ n5_ n6_ n7_ n8_ n9_ n10_ n11_; (try clear hb); (try clear hb2); (try clear hk); (try clear hi); (try clear ho0); (try clear ho1)) | ((with_reducible refine gate_dst (N := 8) rfl ?_); refine box_event ?hg (N := 8) ?hd (cs := #[.slice none 0 0, .slice none 0 0]) (t := 25) ?hr ?_; (case hd => rfl); (case hg => rfl); (case hr => first | (go_simp; done) | (go_simp; rfl)); intro gb187 hg w51 hbox hb; have n0_ := aM_ (rB_ (by (with_reducible repeat (first | apply rA_ | apply rN_)); exact HO163.out) hb); have n1_ := aM_ (rB_ (by (with_reducible repeat (first | apply rA_ | apply rN_)); exact HO166.out) hb); have n2_ := aM_ (rB_ (by (with_reducible repeat (first | apply rA_ | apply rN_)); exact HO169.out) hb); have n3_ := aM_ (rB_ (by (with_reducible repeat (first | apply rA_ | apply rN_)); exact HO172.out) hb); have n4_ := aM_ (rB_ (by (with_reducible repeat (first | apply rA_ | apply rN_)); exact HO176.out) hb); have n5_ := aM_ (rB_ (by (with_reducible repeat (first | apply rA_ | apply rN_)); exact HO179.out) hb); have n6_ := aM_ (rB_ (by (with_reducible repeat (first | apply rA_ | apply rN_)); exact HO183.out) hb); have n7_ := aM_ (rB_ (by (with_reducible repeat (first | apply rA_ | apply rN_)); exact HO186.out) hb); have n8_ := aM_ (kB_ (g := gb157) (o := .cells #[.slice A0_0 l0_0.length c0_0, .slice A0_1 l0_1.length c0_1] 32 (0, 0)) (by (with_reducible repeat (first | refine kN_ ?_ _ | refine kD_ ?_ | refine kA_ ?_ _)); exact BK157.out) hb); have n9_ := aM_ (kB_ (g := gb158) (o := .cells #[.slice A1_0 l1_0.length c1_0, .slice A1_1 l1_1.length c1_1] 32 (0, 0)) (by (with_reducible repeat (first | refine kN_ ?_ _ | refine kD_ ?_ | refine kA_ ?_ _)); exact BK158.out) hb); have n10_ := aM_ (kB_ (g := gb180) (o := .cells #[.slice Ao44 t174.length co44, .slice Ao48 t177.length co48] 25 (0, 0)) (by (with_reducible repeat (first | refine kN_ ?_ _ | refine kD_ ?_ | refine kA_ ?_ _)); exact BK180.out) hb); have n11_ := aM_ (bP_ (by repeat (with_reducible first | exact HB.out | apply bA_ | apply bN_ | apply bD_ | refine bS_ ?_ GE157.out | refine bS_ ?_ GE158.out | refine bS_ ?_ GE180.out)) hb); have n12_ := aM_ (hbox); have n13_ := aM_ ((by rw [hg]; exact (bZ_ (by repeat (with_reducible first | exact HB.out | apply bA_ | apply bN_ | apply bD_ | refine bS_ ?_ GE157.out | refine bS_ ?_ GE158.out | refine bS_ ?_ GE180.out))) : w.heap.size ≤ gb187)); have n14_ := aM_ ((by rw [hg]; exact (bZ_ (by repeat (with_reducible first | exact HB.out | apply bA_ | apply bN_ | apply bD_ | refine bS_ ?_ GE157.out | refine bS_ ?_ GE158.out | refine bS_ ?_ GE180.out))) : w.heap.size ≤ gb187)); have n15_ := aM_ ((by rw [hg]; exact Nat.ne_of_lt (kL_ (g := gb157) (o := .cells #[.slice A0_0 l0_0.length c0_0, .slice A0_1 l0_1.length c0_1] 32 (0, 0)) (by (with_reducible repeat (first | refine kN_ ?_ _ | refine kD_ ?_ | refine kA_ ?_ _)); exact BK157.out)) : gb157 ≠ gb187)); have n16_ := aM_ ((by rw [hg]; exact Nat.ne_of_gt (kL_ (g := gb157) (o := .cells #[.slice A0_0 l0_0.length c0_0, .slice A0_1 l0_1.length c0_1] 32 (0, 0)) (by (with_reducible repeat (first | refine kN_ ?_ _ | refine kD_ ?_ | refine kA_ ?_ _)); exact BK157.out)) : gb187 ≠ gb157)); have n17_ := aM_ ((by rw [hg]; exact Nat.ne_of_lt (kL_ (g := gb158) (o := .cells #[.slice A1_0 l1_0.length c1_0, .slice A1_1 l1_1.length c1_1] 32 (0, 0)) (by (with_reducible repeat (first | refine kN_ ?_ _ | refine kD_ ?_ | refine kA_ ?_ _)); exact BK158.out)) : gb158 ≠ gb187)); have n18_ := aM_ ((by rw [hg]; exact Nat.ne_of_gt (kL_ (g := gb158) (o := .cells #[.slice A1_0 l1_0.length c1_0, .slice A1_1 l1_1.length c1_1] 32 (0, 0)) (by (with_reducible repeat (first | refine kN_ ?_ _ | refine kD_ ?_ | refine kA_ ?_ _)); exact BK158.out)) : gb187 ≠ gb158)); have n19_ := aM_ ((by rw [hg]; exact Nat.ne_of_lt (kL_ (g := gb180) (o := .cells #[.slice Ao44 t174.length co44, .slice Ao48 t177.length co48] 25 (0, 0)) (by (with_reducible repeat (first | refine kN_ ?_ _ | refine kD_ ?_ | refine kA_ ?_ _)); exact BK180.out)) : gb180 ≠ gb187)); have n20_ := aM_ ((by rw [hg]; exact Nat.ne_of_gt (kL_ (g := gb180) (o := .cells #[.slice Ao44 t174.length co44, .slice Ao48 t177.length co48] 25 (0, 0)) (by (with_reducible repeat (first | refine kN_ ?_ _ | refine kD_ ?_ | refine kA_ ?_ _)); exact BK180.out)) : gb187 ≠ gb180)); clear HO163; clear HO166; clear HO169; clear HO172; clear HO176; clear HO179; clear HO183; clear HO186; clear BK157; clear BK158; clear BK180; clear HB; have HO163 := n0_; have HO166 := n1_; have HO169 := n2_; have HO172 := n3_; have HO176 := n4_; have HO179 := n5_; have HO183 := n6_; have HO186 := n7_; have BK157 := n8_; have BK158 := n9_; have BK180 := n10_; have HB := n11_; have BK187 := n12_; have GW187 := n13_; have GE187 := n14_; have NB157_187 := n15_; have NB187_157 := n16_; have NB158_187 := n17_; have NB187_158 := n18_; have NB180_187 := n19_; have NB187_180 := n20_; clear n0_ n1_ n2_ n3_ n4_ n5_ n6_ n7_ n8_ n9_ n10_ n11_ n12_ n13_ n14_ n15_ n16_ n17_ n18_ n19_ n20_; clear hb hbox hg; obtain ⟨Ao52, co52, eo52⟩ := Kd.R_slice HO183.out; subst eo52; have hnb53 := NB187_157.out; have hnc53 := NB157_187.out; have hnb54 := NB187_158.out; have hnc54 := NB158_187.out; have hnb55 := NB187_180.out; have hnc55 := NB180_187.out; have hcz56_0 : w51.cell? ⟨gb187, 0, none⟩ = some (.slice none 0 0) := (kC_ BK187.out 0).trans rfl; have hcz56_1 : w51.cell? ⟨gb187, 1, none⟩ = some (.slice none 0 0) := (kC_ BK187.out 1).trans rfl; have hfz56_0 := kZ_ BK187.out 0; have hfz56_1 := kZ_ BK187.out 1; obtain ⟨Ao57, co57, eo57⟩ := Kd.R_slice HO186.out; subst eo57; have hcz58_0 : w51.cell? ⟨gb180, 0, none⟩ = some (.slice Ao44 t174.length co44) := (kC_ BK180.out 0).trans rfl; have hcz58_1 : w51.cell? ⟨gb180, 1, none⟩ = some (.slice Ao48 t177.length co48) := (kC_ BK180.out 1).trans rfl; have hfz58_0 := kZ_ BK180.out 0; have hfz58_1 := kZ_ BK180.out 1) | ((with_reducible refine gate_callee (f := 17) rfl ?_); refine goesL_ (some 31) rfl rfl Try.func17 (by kernel_rfl) rfl #[.agg #[.slice Ao44 t174.length co44, .slice Ao48 t177.length co48], .agg #[.slice Ao52 t181.length co52, .slice Ao57 t184.length co57]] rfl (by (try simp only [List.map_toArray, List.map_cons, List.map_nil]); first | done | rfl | (simp only [List.length_drop, List.length_take]; rfl)) ?_; (with_reducible refine (impl_SameDevice.calls k _ _ t174 _ _ t177 _ _ t181 _ _ t184 t188 _ ?side1 ?side2 ?side3 ?side4 ?side5 ?side6 ?side7 ?side8 A24.out).mono ?_); (case side1 => refine (rR_ (e := 9) (base := w.heap.size) (ok := fun k_ => (((True ∧ some k_ ≠ (.slice Ao36 t161.length co36 : Value).ownBlock) ∧ some k_ ≠ (.slice Ao38 t167.length co38 : Value).ownBlock) ∧ some k_ ≠ (.slice Ao52 t181.length co52 : Value).ownBlock)) (n := t174.length) (c := co44) ?_).2.2; exact (by (with_reducible repeat (first | apply rA_ | apply rN_)); exact (rM_ (rF_ (p := ⟨gb187, 1, none⟩) (rF_ (p := ⟨gb187, 0, none⟩) (rT_ HO176.out BK187.out (by decide)) (fun _ hk => hk.2) (.slice Ao52 t181.length co52)) (fun _ hk => hk.2) (.slice Ao57 t184.length co57)) (fun _ h_ => h_.1)))); (case side2 => exact (rR_ HO176.out).2.1); (case side3 => refine (rR_ (e := 55) (base := w.heap.size) (ok := fun k_ => (((True ∧ some k_ ≠ (.slice Ao37 t164.length co37 : Value).ownBlock) ∧ some k_ ≠ (.slice Ao39 t170.length co39 : Value).ownBlock) ∧ some k_ ≠ (.slice Ao57 t184.length co57 : Value).ownBlock)) (n := t177.length) (c := co48) ?_).2.2; exact (by (with_reducible repeat (first | apply rA_ | apply rN_)); exact (rM_ (rF_ (p := ⟨gb187, 1, none⟩) (rF_ (p := ⟨gb187, 0, none⟩) (rT_ HO179.out BK187.out (by decide)) (fun _ hk => hk.2) (.slice Ao52 t181.length co52)) (fun _ hk => hk.2) (.slice Ao57 t184.length co57)) (fun _ h_ => h_.1)))); (case side4 => exact (rR_ HO179.out).2.1); (case side5 => refine (rR_ (e := 9) (base := w.heap.size) (ok := fun k_ => (((True ∧ some k_ ≠ (.slice Ao36 t161.length co36 : Value).ownBlock) ∧ some k_ ≠ (.slice Ao38 t167.length co38 : Value).ownBlock) ∧ some k_ ≠ (.slice Ao44 t174.length co44 : Value).ownBlock)) (n := t181.length) (c := co52) ?_).2.2; exact (by (with_reducible repeat (first | apply rA_ | apply rN_)); exact (rM_ (rF_ (p := ⟨gb187, 1, none⟩) (rF_ (p := ⟨gb187, 0, none⟩) (rT_ HO183.out BK187.out (by decide)) (fun _ hk => hk.2) (.slice Ao52 t181.length co52)) (fun _ hk => hk.2) (.slice Ao57 t184.length co57)) (fun _ h_ => h_.1)))); (case side6 => exact (rR_ HO183.out).2.1); (case side7 => refine (rR_ (e := 55) (base := w.heap.size) (ok := fun k_ => (((True ∧ some k_ ≠ (.slice Ao37 t164.length co37 : Value).ownBlock) ∧ some k_ ≠ (.slice Ao39 t170.length co39 : Value).ownBlock) ∧ some k_ ≠ (.slice Ao48 t177.length co48 : Value).ownBlock)) (n := t184.length) (c := co57) ?_).2.2; exact (by (with_reducible repeat (first | apply rA_ | apply rN_)); exact (rM_ (rF_ (p := ⟨gb187, 1, none⟩) (rF_ (p := ⟨gb187, 0, none⟩) (rT_ HO186.out BK187.out (by decide)) (fun _ hk => hk.2) (.slice Ao52 t181.length co52)) (fun _ hk => hk.2) (.slice Ao57 t184.length co57)) (fun _ h_ => h_.1)))); (case side8 => exact (rR_ HO186.out).2.1); rintro e w59 ⟨rfl, hb⟩; refine ⟨_, rfl, ?_⟩; have n0_ := aM_ (rB_ (by (with_reducible repeat (first | apply rA_ | apply rN_)); exact (rM_ (rF_ (p := ⟨gb187, 1, none⟩) (rF_ (p := ⟨gb187, 0, none⟩) (rT_ HO163.out BK187.out (by decide)) (fun _ hk => hk.2) (.slice Ao52 t181.length co52)) (fun _ hk => hk.2) (.slice Ao57 t184.length co57)) (fun _ h_ => h_.1))) hb); have n1_ := aM_ (rB_ (by (with_reducible repeat (first | apply rA_ | apply rN_)); exact (rM_ (rF_ (p := ⟨gb187, 1, none⟩) (rF_ (p := ⟨gb187, 0, none⟩) (rT_ HO166.out BK187.out (by decide)) (fun _ hk => hk.2) (.slice Ao52 t181.length co52)) (fun _ hk => hk.2) (.slice Ao57 t184.length co57)) (fun _ h_ => h_.1))) hb); have n2_ := aM_ (rB_ (by (with_reducible repeat (first | apply rA_ | apply rN_)); exact (rM_ (rF_ (p := ⟨gb187, 1, none⟩) (rF_ (p := ⟨gb187, 0, none⟩) (rT_ HO169.out BK187.out (by decide)) (fun _ hk => hk.2) (.slice Ao52 t181.length co52)) (fun _ hk => hk.2) (.slice Ao57 t184.length co57)) (fun _ h_ => h_.1))) hb); have n3_ := aM_ (rB_ (by (with_reducible repeat (first | apply rA_ | apply rN_)); exact (rM_ (rF_ (p := ⟨gb187, 1, none⟩) (rF_ (p := ⟨gb187, 0, none⟩) (rT_ HO172.out BK187.out (by decide)) (fun _ hk => hk.2) (.slice Ao52 t181.length co52)) (fun _ hk => hk.2) (.slice Ao57 t184.length co57)) (fun _ h_ => h_.1))) hb); have n4_ := aM_ (rB_ (by (with_reducible repeat (first | apply rA_ | apply rN_)); exact (rM_ (rF_ (p := ⟨gb187, 1, none⟩) (rF_ (p := ⟨gb187, 0, none⟩) (rT_ HO176.out BK187.out (by decide)) (fun _ hk => hk.2) (.slice Ao52 t181.length co52)) (fun _ hk => hk.2) (.slice Ao57 t184.length co57)) (fun _ h_ => h_.1))) hb); have n5_ := aM_ (rB_ (by (with_reducible repeat (first | apply rA_ | apply rN_)); exact (rM_ (rF_ (p := ⟨gb187, 1, none⟩) (rF_ (p := ⟨gb187, 0, none⟩) (rT_ HO179.out BK187.out (by decide)) (fun _ hk => hk.2) (.slice Ao52 t181.length co52)) (fun _ hk => hk.2) (.slice Ao57 t184.length co57)) (fun _ h_ => h_.1))) hb); have n6_ := aM_ (rB_ (by (with_reducible repeat (first | apply rA_ | apply rN_)); exact (rM_ (rF_ (p := ⟨gb187, 1, none⟩) (rF_ (p := ⟨gb187, 0, none⟩) (rT_ HO183.out BK187.out (by decide)) (fun _ hk => hk.2) (.slice Ao52 t181.length co52)) (fun _ hk => hk.2) (.slice Ao57 t184.length co57)) (fun _ h_ => h_.1))) hb); have n7_ := aM_ (rB_ (by (with_reducible repeat (first | apply rA_ | apply rN_)); exact (rM_ (rF_ (p := ⟨gb187, 1, none⟩) (rF_ (p := ⟨gb187, 0, none⟩) (rT_ HO186.out BK187.out (by decide)) (fun _ hk => hk.2) (.slice Ao52 t181.length co52)) (fun _ hk => hk.2) (.slice Ao57 t184.length co57)) (fun _ h_ => h_.1))) hb); have n8_ := aM_ (kB_ (g := gb157) (o := .cells #[.slice A0_0 l0_0.length c0_0, .slice A0_1 l0_1.length c0_1] 32 (0, 0)) (by (with_reducible repeat (first | refine kN_ ?_ _ | refine kD_ ?_ | refine kA_ ?_ _)); refine kF_ ?_ NB157_187.out _; (with_reducible repeat (first | refine kN_ ?_ _ | refine kD_ ?_ | refine kA_ ?_ _)); refine kF_ ?_ NB157_187.out _; (with_reducible repeat (first | refine kN_ ?_ _ | refine kD_ ?_ | refine kA_ ?_ _)); exact BK157.out) hb); have n9_ := aM_ (kB_ (g := gb158) (o := .cells #[.slice A1_0 l1_0.length c1_0, .slice A1_1 l1_1.length c1_1] 32 (0, 0)) (by (with_reducible repeat (first | refine kN_ ?_ _ | refine kD_ ?_ | refine kA_ ?_ _)); refine kF_ ?_ NB158_187.out _; (with_reducible repeat (first | refine kN_ ?_ _ | refine kD_ ?_ | refine kA_ ?_ _)); refine kF_ ?_ NB158_187.out _; (with_reducible repeat (first | refine kN_ ?_ _ | refine kD_ ?_ | refine kA_ ?_ _)); exact BK158.out) hb); have n10_ := aM_ (kB_ (g := gb180) (o := .cells #[.slice Ao44 t174.length co44, .slice Ao48 t177.length co48] 25 (0, 0)) (by (with_reducible repeat (first | refine kN_ ?_ _ | refine kD_ ?_ | refine kA_ ?_ _)); refine kF_ ?_ NB180_187.out _; (with_reducible repeat (first | refine kN_ ?_ _ | refine kD_ ?_ | refine kA_ ?_ _)); refine kF_ ?_ NB180_187.out _; (with_reducible repeat (first | refine kN_ ?_ _ | refine kD_ ?_ | refine kA_ ?_ _)); exact BK180.out) hb); have n11_ := aM_ (kB_ (g := gb187) (o := .cells #[.slice Ao52 t181.length co52, .slice Ao57 t184.length co57] 25 (0, 0)) (by (with_reducible repeat (first | refine kN_ ?_ _ | refine kD_ ?_ | refine kA_ ?_ _)); refine blk_put (cs := #[.slice Ao52 t181.length co52, .slice none 0 0]) ?_ 1 _ rfl; (with_reducible repeat (first | refine kN_ ?_ _ | refine kD_ ?_ | refine kA_ ?_ _)); refine blk_put (cs := #[.slice none 0 0, .slice none 0 0]) ?_ 0 _ rfl; (with_reducible repeat (first | refine kN_ ?_ _ | refine kD_ ?_ | refine kA_ ?_ _)); exact BK187.out) hb); have n12_ := aM_ (bP_ (by repeat (with_reducible first | exact HB.out | apply bA_ | apply bN_ | apply bD_ | refine bS_ ?_ GE157.out | refine bS_ ?_ GE158.out | refine bS_ ?_ GE180.out | refine bS_ ?_ GE187.out)) hb); clear HO163; clear HO166; clear HO169; clear HO172; clear HO176; clear HO179; clear HO183; clear HO186; clear BK157; clear BK158; clear BK180; clear BK187; clear HB; have HO163 := n0_; have HO166 := n1_; have HO169 := n2_; have HO172 := n3_; have HO176 := n4_; have HO179 := n5_; have HO183 := n6_; have HO186 := n7_; have BK157 := n8_; have BK158 := n9_; have BK180 := n10_; have BK187 := n11_; have HB := n12_; clear n0_ n1_ n2_ n3_ n4_ n5_ n6_ n7_ n8_ n9_ n10_ n11_ n12_; (try clear hb); (try clear hb2); (try clear hk); (try clear hi)))
    go_ret
    exact ⟨by first | rfl | (simp [errW_none, errW_some] <;> rfl) | (simp [*, errW_none, errW_some] <;> rfl), by repeat (with_reducible first | exact HB.out | apply bA_ | apply bN_ | apply bD_ | refine bS_ ?_ GE157.out | refine bS_ ?_ GE158.out | refine bS_ ?_ GE180.out | refine bS_ ?_ GE187.out)⟩
   ·rw [if_neg c25] at H
    have c25b0 : (t188 != t173) = false := by simpa using c25
    (try (have c25b1 : decide (t188 = t173) = true := by simpa using c25))
    (try (have c25b2 : (t188 == t173) = true := by simpa using c25))
    clear c25
    replace H := Option.bind_eq_some_iff.mp H
    obtain ⟨⟨t189, t192⟩, A600, H⟩ := H
    replace H : ((laws_eqDevice.f k t174 t177 t189 t192).bind fun t195 => (if t195 = true then ((laws_toDevice.f k l1_0 l1_1).bind fun bt196 => ((laws_eqDevice.f k t181 t184 bt196.1 bt196.2).bind fun t202 => (if t202 = true then (some true) else (some false)))) else (some false))) = some r := H
    have A60 := aM_ A600
    clear A600
    replace H := Option.bind_eq_some_iff.mp H
    obtain ⟨t195, A610, H⟩ := H
    replace H : (if t195 = true then ((laws_toDevice.f k l1_0 l1_1).bind fun bt196 => ((laws_eqDevice.f k t181 t184 bt196.1 bt196.2).bind fun t202 => (if t202 = true then (some true) else (some false)))) else (some false)) = some r := H
    have A61 := aM_ A610
    clear A610
    by_cases c62 : t195 = true
    ·subst c62
     have H1 : ((laws_toDevice.f k l1_0 l1_1).bind fun bt196 => ((laws_eqDevice.f k t181 t184 bt196.1 bt196.2).bind fun t202 => (if t202 = true then (some true) else (some false)))) = some r := by rw [if_pos rfl] at H; exact H
     clear H
     have H := H1
     clear H1
     replace H := Option.bind_eq_some_iff.mp H
     obtain ⟨⟨t196, t199⟩, A630, H⟩ := H
     replace H : ((laws_eqDevice.f k t181 t184 t196 t199).bind fun t202 => (if t202 = true then (some true) else (some false))) = some r := H
     have A63 := aM_ A630
     clear A630
     replace H := Option.bind_eq_some_iff.mp H
     obtain ⟨t202, A640, H⟩ := H
     replace H : (if t202 = true then (some true) else (some false)) = some r := H
     have A64 := aM_ A640
     clear A640
     by_cases c65 : t202 = true
     ·subst c65
      have H1 : (some true) = some r := by rw [if_pos rfl] at H; exact H
      clear H
      have H := H1
      clear H1
      obtain rfl := Option.some.inj H
      go_enter Try.func4, Try.ntmps4
      try go_wp2_with (first | ((with_reducible refine gate_dst (N := 2) rfl ?_); refine box_event ?hg (N := 2) ?hd (cs := #[.slice A0_0 l0_0.length c0_0, .slice A0_1 l0_1.length c0_1]) (t := 32) ?hr ?_; (case hd => rfl); (case hg => rfl); (case hr => first | (go_simp; done) | (go_simp; rfl)); intro gb157 hg w66 hbox hb; have n0_ := aM_ (bP_ (by repeat (with_reducible first | exact HB.out | apply bA_ | apply bN_ | apply bD_)) hb); have n1_ := aM_ (hbox); have n2_ := aM_ ((by rw [hg]; exact (bZ_ (by repeat (with_reducible first | exact HB.out | apply bA_ | apply bN_ | apply bD_))) : w.heap.size ≤ gb157)); have n3_ := aM_ ((by rw [hg]; exact (bZ_ (by repeat (with_reducible first | exact HB.out | apply bA_ | apply bN_ | apply bD_))) : w.heap.size ≤ gb157)); clear HB; have HB := n0_; have BK157 := n1_; have GW157 := n2_; have GE157 := n3_; clear n0_ n1_ n2_ n3_; clear hb hbox hg) | ((with_reducible refine gate_dst (N := 3) rfl ?_); refine box_event ?hg (N := 3) ?hd (cs := #[.slice A1_0 l1_0.length c1_0, .slice A1_1 l1_1.length c1_1]) (t := 32) ?hr ?_; (case hd => rfl); (case hg => rfl); (case hr => first | (go_simp; done) | (go_simp; rfl)); intro gb158 hg w67 hbox hb; have n0_ := aM_ (kB_ (g := gb157) (o := .cells #[.slice A0_0 l0_0.length c0_0, .slice A0_1 l0_1.length c0_1] 32 (0, 0)) (by (with_reducible repeat (first | refine kN_ ?_ _ | refine kD_ ?_ | refine kA_ ?_ _)); exact BK157.out) hb); have n1_ := aM_ (bP_ (by repeat (with_reducible first | exact HB.out | apply bA_ | apply bN_ | apply bD_ | refine bS_ ?_ GE157.out)) hb); have n2_ := aM_ (hbox); have n3_ := aM_ ((by rw [hg]; exact (bZ_ (by repeat (with_reducible first | exact HB.out | apply bA_ | apply bN_ | apply bD_ | refine bS_ ?_ GE157.out))) : w.heap.size ≤ gb158)); have n4_ := aM_ ((by rw [hg]; exact (bZ_ (by repeat (with_reducible first | exact HB.out | apply bA_ | apply bN_ | apply bD_ | refine bS_ ?_ GE157.out))) : w.heap.size ≤ gb158)); have n5_ := aM_ ((by rw [hg]; exact Nat.ne_of_lt (kL_ (g := gb157) (o := .cells #[.slice A0_0 l0_0.length c0_0, .slice A0_1 l0_1.length c0_1] 32 (0, 0)) (by (with_reducible repeat (first | refine kN_ ?_ _ | refine kD_ ?_ | refine kA_ ?_ _)); exact BK157.out)) : gb157 ≠ gb158)); have n6_ := aM_ ((by rw [hg]; exact Nat.ne_of_gt (kL_ (g := gb157) (o := .cells #[.slice A0_0 l0_0.length c0_0, .slice A0_1 l0_1.length c0_1] 32 (0, 0)) (by (with_reducible repeat (first | refine kN_ ?_ _ | refine kD_ ?_ | refine kA_ ?_ _)); exact BK157.out)) : gb158 ≠ gb157)); clear BK157; clear HB; have BK157 := n0_; have HB := n1_; have BK158 := n2_; have GW158 := n3_; have GE158 := n4_; have NB157_158 := n5_; have NB158_157 := n6_; clear n0_ n1_ n2_ n3_ n4_ n5_ n6_; clear hb hbox hg; have hnb68 := NB157_158.out; have hnc68 := NB158_157.out; have hcz69_0 : w67.cell? ⟨gb157, 0, none⟩ = some (.slice A0_0 l0_0.length c0_0) := (kC_ BK157.out 0).trans rfl; have hcz69_1 : w67.cell? ⟨gb157, 1, none⟩ = some (.slice A0_1 l0_1.length c0_1) := (kC_ BK157.out 1).trans rfl; have hfz69_0 := kZ_ BK157.out 0; have hfz69_1 := kZ_ BK157.out 1) | ((with_reducible refine gate_callee (f := 14) rfl ?_); refine goesL_ (some 12) rfl rfl Try.func14 (by kernel_rfl) rfl #[.agg #[.slice A0_0 l0_0.length c0_0, .slice A0_1 l0_1.length c0_1], .int .i64 1048576] rfl (by (try simp only [List.map_toArray, List.map_cons, List.map_nil]); first | done | rfl | (simp only [List.length_drop, List.length_take]; rfl)) ?_; (with_reducible refine (laws_szDevice.calls k _ _ l0_0 _ _ l0_1 1048576 t159 _ ?side1 ?side2 ?side3 ?side4 A3.out).mono ?_); (case side1 => repeat (first | exact (cB_ HR0_0.out HB.out) | (with_reducible refine cA_ ?_ _) | (with_reducible refine cN_ ?_ _) | (with_reducible refine cD_ ?_))); (case side2 => exact HC0_0.out); (case side3 => repeat (first | exact (cB_ HR0_1.out HB.out) | (with_reducible refine cA_ ?_ _) | (with_reducible refine cN_ ?_ _) | (with_reducible refine cD_ ?_))); (case side4 => exact HC0_1.out); rintro e w70 ⟨rfl, hb⟩; refine ⟨_, rfl, ?_⟩; have n0_ := aM_ (kB_ (g := gb157) (o := .cells #[.slice A0_0 l0_0.length c0_0, .slice A0_1 l0_1.length c0_1] 32 (0, 0)) (by (with_reducible repeat (first | refine kN_ ?_ _ | refine kD_ ?_ | refine kA_ ?_ _)); exact BK157.out) hb); have n1_ := aM_ (kB_ (g := gb158) (o := .cells #[.slice A1_0 l1_0.length c1_0, .slice A1_1 l1_1.length c1_1] 32 (0, 0)) (by (with_reducible repeat (first | refine kN_ ?_ _ | refine kD_ ?_ | refine kA_ ?_ _)); exact BK158.out) hb); have n2_ := aM_ (bP_ (by repeat (with_reducible first | exact HB.out | apply bA_ | apply bN_ | apply bD_ | refine bS_ ?_ GE157.out | refine bS_ ?_ GE158.out)) hb); clear BK157; clear BK158; clear HB; have BK157 := n0_; have BK158 := n1_; have HB := n2_; clear n0_ n1_ n2_; (try clear hb); (try clear hb2); (try clear hk); (try clear hi); have hcz71_0 : w70.cell? ⟨gb158, 0, none⟩ = some (.slice A1_0 l1_0.length c1_0) := (kC_ BK158.out 0).trans rfl; have hcz71_1 : w70.cell? ⟨gb158, 1, none⟩ = some (.slice A1_1 l1_1.length c1_1) := (kC_ BK158.out 1).trans rfl; have hfz71_0 := kZ_ BK158.out 0; have hfz71_1 := kZ_ BK158.out 1) | ((with_reducible refine gate_callee (f := 14) rfl ?_); refine goesL_ (some 17) rfl rfl Try.func14 (by kernel_rfl) rfl #[.agg #[.slice A1_0 l1_0.length c1_0, .slice A1_1 l1_1.length c1_1], .int .i64 t159] rfl (by (try simp only [List.map_toArray, List.map_cons, List.map_nil]); first | done | rfl | (simp only [List.length_drop, List.length_take]; rfl)) ?_; (with_reducible refine (laws_szDevice.calls k _ _ l1_0 _ _ l1_1 t159 t160 _ ?side1 ?side2 ?side3 ?side4 A10.out).mono ?_); (case side1 => repeat (first | exact (cB_ HR1_0.out HB.out) | (with_reducible refine cA_ ?_ _) | (with_reducible refine cN_ ?_ _) | (with_reducible refine cD_ ?_))); (case side2 => exact HC1_0.out); (case side3 => repeat (first | exact (cB_ HR1_1.out HB.out) | (with_reducible refine cA_ ?_ _) | (with_reducible refine cN_ ?_ _) | (with_reducible refine cD_ ?_))); (case side4 => exact HC1_1.out); rintro e w72 ⟨rfl, hb⟩; refine ⟨_, rfl, ?_⟩; have n0_ := aM_ (kB_ (g := gb157) (o := .cells #[.slice A0_0 l0_0.length c0_0, .slice A0_1 l0_1.length c0_1] 32 (0, 0)) (by (with_reducible repeat (first | refine kN_ ?_ _ | refine kD_ ?_ | refine kA_ ?_ _)); exact BK157.out) hb); have n1_ := aM_ (kB_ (g := gb158) (o := .cells #[.slice A1_0 l1_0.length c1_0, .slice A1_1 l1_1.length c1_1] 32 (0, 0)) (by (with_reducible repeat (first | refine kN_ ?_ _ | refine kD_ ?_ | refine kA_ ?_ _)); exact BK158.out) hb); have n2_ := aM_ (bP_ (by repeat (with_reducible first | exact HB.out | apply bA_ | apply bN_ | apply bD_ | refine bS_ ?_ GE157.out | refine bS_ ?_ GE158.out)) hb); clear BK157; clear BK158; clear HB; have BK157 := n0_; have BK158 := n1_; have HB := n2_; clear n0_ n1_ n2_; (try clear hb); (try clear hb2); (try clear hk); (try clear hi)))
      have n0_ := aM_ (kD_ BK157.out)
      have n1_ := aM_ (kD_ BK158.out)
      have n2_ := aM_ (bD_ HB.out)
      clear BK157
      clear BK158
      clear HB
      have BK157 := n0_
      have BK158 := n1_
      have HB := n2_
      clear n0_ n1_ n2_
      refine start_ (n := 6) (S := fun w' => w'.cell? ⟨gb157, 0, none⟩ = some (.slice A0_0 l0_0.length c0_0) ∧ w'.cell? ⟨gb157, 1, none⟩ = some (.slice A0_1 l0_1.length c0_1) ∧ w'.cell? ⟨gb158, 0, none⟩ = some (.slice A1_0 l1_0.length c1_0) ∧ w'.cell? ⟨gb158, 1, none⟩ = some (.slice A1_1 l1_1.length c1_1)) (ds := []) #[false, false, false, false, false, false] (by kernel_rfl) rfl rfl ⟨(kC_ BK157.out 0).trans rfl, (kC_ BK157.out 1).trans rfl, (kC_ BK158.out 0).trans rfl, (kC_ BK158.out 1).trans rfl⟩ (fun hHeld => ?_)
      generalize w72.drew = w73 at BK157 BK158 HB hHeld ⊢
      refine take_ (i := 0) (N := some 20) (v := ?_) (a' := ?_) #[true, false, false, false, false, false] rfl rfl (by kernel_rfl) (fun _ _ _ h => h) (Or.inl ⟨by rfl, ?_⟩) hHeld ?_ ?_
      rotate_left
      ·rintro w' ⟨s0, s1, s2, s3⟩
       go_simp
       with_reducible rfl
      rotate_left
      ·simp only [Act.put, List.setIfInBounds_toArray, List.set_cons_zero, List.set_cons_succ, i64_w, i32_w]
       rfl
      refine take_ (i := 2) (N := some 22) (v := ?_) (a' := ?_) #[true, false, true, false, false, false] rfl rfl (by kernel_rfl) (fun _ _ _ h => h) (Or.inl ⟨by rfl, ?_⟩) hHeld ?_ ?_
      rotate_left
      ·rintro w' ⟨s0, s1, s2, s3⟩
       go_simp
       with_reducible rfl
      rotate_left
      ·simp only [Act.put, List.setIfInBounds_toArray, List.set_cons_zero, List.set_cons_succ, i64_w, i32_w]
       rfl
      refine one_ (i := 1) (N := some 21) #[true, true, true, false, false, false] rfl rfl (by kernel_rfl) (by decide) (fun K hK => ?_)
      refine goes_ Try.func16 (by kernel_rfl) rfl #[.agg #[.slice A0_0 l0_0.length c0_0, .slice A0_1 l0_1.length c0_1]] (by rfl) rfl rfl (by (try simp only [List.map_toArray, List.map_cons, List.map_nil]); first | done | rfl | (simp only [List.length_drop, List.length_take]; rfl)) ?_
      with_reducible refine (laws_toDevice.calls k _ _ l0_0 _ _ l0_1 t161 t164 _ ?side1 ?side2 ?side3 ?side4 A19.out).mono ?_
      (case side1 => repeat (first | exact (cB_ HR0_0.out HB.out) | (with_reducible refine cA_ ?_ _) | (with_reducible refine cN_ ?_ _) | (with_reducible refine cD_ ?_)))
      (case side2 => exact HC0_0.out)
      (case side3 => repeat (first | exact (cB_ HR0_1.out HB.out) | (with_reducible refine cA_ ?_ _) | (with_reducible refine cN_ ?_ _) | (with_reducible refine cD_ ?_)))
      (case side4 => exact HC0_1.out)
      rintro e w74 ⟨v162, v165, rfl, ho0, ho1, hb⟩
      refine ⟨_, rfl, ?_⟩
      have n0_ := aM_ (rO_ ho0 (bZ_ (by repeat (with_reducible first | exact HB.out | apply bA_ | apply bN_ | apply bD_ | refine bS_ ?_ GE157.out | refine bS_ ?_ GE158.out))))
      have n1_ := aM_ (rO_ ho1 (bZ_ (by repeat (with_reducible first | exact HB.out | apply bA_ | apply bN_ | apply bD_ | refine bS_ ?_ GE157.out | refine bS_ ?_ GE158.out))))
      have n2_ := aM_ (kB_ (g := gb157) (o := .cells #[.slice A0_0 l0_0.length c0_0, .slice A0_1 l0_1.length c0_1] 32 (0, 0)) (by (with_reducible repeat (first | refine kN_ ?_ _ | refine kD_ ?_ | refine kA_ ?_ _)); exact BK157.out) hb)
      have n3_ := aM_ (kB_ (g := gb158) (o := .cells #[.slice A1_0 l1_0.length c1_0, .slice A1_1 l1_1.length c1_1] 32 (0, 0)) (by (with_reducible repeat (first | refine kN_ ?_ _ | refine kD_ ?_ | refine kA_ ?_ _)); exact BK158.out) hb)
      have n4_ := aM_ (bP_ (by repeat (with_reducible first | exact HB.out | apply bA_ | apply bN_ | apply bD_ | refine bS_ ?_ GE157.out | refine bS_ ?_ GE158.out)) hb)
      clear BK157
      clear BK158
      clear HB
      have HO163 := n0_
      have HO166 := n1_
      have BK157 := n2_
      have BK158 := n3_
      have HB := n4_
      clear n0_ n1_ n2_ n3_ n4_
      (try clear hb)
      (try clear hb2)
      (try clear hk)
      (try clear hi)
      (try clear ho0)
      (try clear ho1)
      refine hK.out _ _ ⟨(kC_ BK157.out 0).trans rfl, (kC_ BK157.out 1).trans rfl, (kC_ BK158.out 0).trans rfl, (kC_ BK158.out 1).trans rfl⟩ (fun hHeld => ?_)
      clear hK K
      refine norm_ (a' := ?_) ?_ ?_
      rotate_left
      ·show Act.put _ (some 21) _ = _
       simp only [Act.put, List.setIfInBounds_toArray, List.set_cons_zero, List.set_cons_succ, i64_w, i32_w]
       rfl
      refine one_ (i := 3) (N := some 23) #[true, true, true, true, false, false] rfl rfl (by kernel_rfl) (by decide) (fun K hK => ?_)
      refine goes_ Try.func16 (by kernel_rfl) rfl #[.agg #[.slice A1_0 l1_0.length c1_0, .slice A1_1 l1_1.length c1_1]] (by rfl) rfl rfl (by (try simp only [List.map_toArray, List.map_cons, List.map_nil]); first | done | rfl | (simp only [List.length_drop, List.length_take]; rfl)) ?_
      with_reducible refine (laws_toDevice.calls k _ _ l1_0 _ _ l1_1 t167 t170 _ ?side1 ?side2 ?side3 ?side4 A20.out).mono ?_
      (case side1 => repeat (first | exact (cB_ HR1_0.out HB.out) | (with_reducible refine cA_ ?_ _) | (with_reducible refine cN_ ?_ _) | (with_reducible refine cD_ ?_)))
      (case side2 => exact HC1_0.out)
      (case side3 => repeat (first | exact (cB_ HR1_1.out HB.out) | (with_reducible refine cA_ ?_ _) | (with_reducible refine cN_ ?_ _) | (with_reducible refine cD_ ?_)))
      (case side4 => exact HC1_1.out)
      rintro e w75 ⟨v168, v171, rfl, ho0, ho1, hb⟩
      refine ⟨_, rfl, ?_⟩
      have n0_ := aM_ (rE_ (by (with_reducible repeat (first | apply rA_ | apply rN_)); exact HO163.out) (rS_ ho0) hb)
      have n1_ := aM_ (rE_ (by (with_reducible repeat (first | apply rA_ | apply rN_)); exact HO166.out) (rS_ ho1) hb)
      have n2_ := aM_ (rO_ (rW_ ho0 (rL_ (by (with_reducible repeat (first | apply rA_ | apply rN_)); exact HO163.out))) (bZ_ (by repeat (with_reducible first | exact HB.out | apply bA_ | apply bN_ | apply bD_ | refine bS_ ?_ GE157.out | refine bS_ ?_ GE158.out))))
      have n3_ := aM_ (rO_ (rW_ ho1 (rL_ (by (with_reducible repeat (first | apply rA_ | apply rN_)); exact HO166.out))) (bZ_ (by repeat (with_reducible first | exact HB.out | apply bA_ | apply bN_ | apply bD_ | refine bS_ ?_ GE157.out | refine bS_ ?_ GE158.out))))
      have n4_ := aM_ (kB_ (g := gb157) (o := .cells #[.slice A0_0 l0_0.length c0_0, .slice A0_1 l0_1.length c0_1] 32 (0, 0)) (by (with_reducible repeat (first | refine kN_ ?_ _ | refine kD_ ?_ | refine kA_ ?_ _)); exact BK157.out) hb)
      have n5_ := aM_ (kB_ (g := gb158) (o := .cells #[.slice A1_0 l1_0.length c1_0, .slice A1_1 l1_1.length c1_1] 32 (0, 0)) (by (with_reducible repeat (first | refine kN_ ?_ _ | refine kD_ ?_ | refine kA_ ?_ _)); exact BK158.out) hb)
      have n6_ := aM_ (bP_ (by repeat (with_reducible first | exact HB.out | apply bA_ | apply bN_ | apply bD_ | refine bS_ ?_ GE157.out | refine bS_ ?_ GE158.out)) hb)
      clear HO163
      clear HO166
      clear BK157
      clear BK158
      clear HB
      have HO163 := n0_
      have HO166 := n1_
      have HO169 := n2_
      have HO172 := n3_
      have BK157 := n4_
      have BK158 := n5_
      have HB := n6_
      clear n0_ n1_ n2_ n3_ n4_ n5_ n6_
      (try clear hb)
      (try clear hb2)
      (try clear hk)
      (try clear hi)
      (try clear ho0)
      (try clear ho1)
      obtain ⟨Ao76, co76, eo76⟩ := Kd.R_slice HO163.out
      (first | subst eo76 | (injection eo76 with f1_ f2_ f3_; have f4_ := f1_.symm; have f5_ := f3_.symm; clear f1_ f2_ f3_; subst f4_; subst f5_))
      obtain ⟨Ao77, co77, eo77⟩ := Kd.R_slice HO166.out
      (first | subst eo77 | (injection eo77 with f1_ f2_ f3_; have f4_ := f1_.symm; have f5_ := f3_.symm; clear f1_ f2_ f3_; subst f4_; subst f5_))
      obtain ⟨Ao78, co78, eo78⟩ := Kd.R_slice HO169.out
      (first | subst eo78 | (injection eo78 with f1_ f2_ f3_; have f4_ := f1_.symm; have f5_ := f3_.symm; clear f1_ f2_ f3_; subst f4_; subst f5_))
      obtain ⟨Ao79, co79, eo79⟩ := Kd.R_slice HO172.out
      (first | subst eo79 | (injection eo79 with f1_ f2_ f3_; have f4_ := f1_.symm; have f5_ := f3_.symm; clear f1_ f2_ f3_; subst f4_; subst f5_))
      refine hK.out _ _ ⟨(kC_ BK157.out 0).trans rfl, (kC_ BK157.out 1).trans rfl, (kC_ BK158.out 0).trans rfl, (kC_ BK158.out 1).trans rfl⟩ (fun hHeld => ?_)
      clear hK K
      refine norm_ (a' := ?_) ?_ ?_
      rotate_left
      ·show Act.put _ (some 23) _ = _
       simp only [Act.put, List.setIfInBounds_toArray, List.set_cons_zero, List.set_cons_succ, i64_w, i32_w]
       rfl
      refine one_ (i := 4) (N := some 24) #[true, true, true, true, true, false] rfl rfl (by kernel_rfl) (by decide) (fun K hK => ?_)
      refine goes_ Try.func15 (by kernel_rfl) rfl #[.agg #[.slice Ao76 t161.length co76, .slice Ao77 t164.length co77], .agg #[.slice Ao78 t167.length co78, .slice Ao79 t170.length co79]] (by rfl) rfl rfl (by (try simp only [List.map_toArray, List.map_cons, List.map_nil]); first | done | rfl | (simp only [List.length_drop, List.length_take]; rfl)) ?_
      with_reducible refine (spec_SameDevice.calls k _ _ t161 _ _ t164 _ _ t167 _ _ t170 t173 _ ?side1 ?side2 ?side3 ?side4 ?side5 ?side6 ?side7 ?side8 A21.out).mono ?_
      (case side1 => repeat (first | exact (rR_ HO163.out).2.2 | (with_reducible refine cA_ ?_ _) | (with_reducible refine cN_ ?_ _) | (with_reducible refine cD_ ?_)))
      (case side2 => exact (rR_ HO163.out).2.1)
      (case side3 => repeat (first | exact (rR_ HO166.out).2.2 | (with_reducible refine cA_ ?_ _) | (with_reducible refine cN_ ?_ _) | (with_reducible refine cD_ ?_)))
      (case side4 => exact (rR_ HO166.out).2.1)
      (case side5 => repeat (first | exact (rR_ HO169.out).2.2 | (with_reducible refine cA_ ?_ _) | (with_reducible refine cN_ ?_ _) | (with_reducible refine cD_ ?_)))
      (case side6 => exact (rR_ HO169.out).2.1)
      (case side7 => repeat (first | exact (rR_ HO172.out).2.2 | (with_reducible refine cA_ ?_ _) | (with_reducible refine cN_ ?_ _) | (with_reducible refine cD_ ?_)))
      (case side8 => exact (rR_ HO172.out).2.1)
      rintro e w80 ⟨rfl, hb⟩
      refine ⟨_, rfl, ?_⟩
      have n0_ := aM_ (rB_ (by (with_reducible repeat (first | apply rA_ | apply rN_)); exact HO163.out) hb)
      have n1_ := aM_ (rB_ (by (with_reducible repeat (first | apply rA_ | apply rN_)); exact HO166.out) hb)
      have n2_ := aM_ (rB_ (by (with_reducible repeat (first | apply rA_ | apply rN_)); exact HO169.out) hb)
      have n3_ := aM_ (rB_ (by (with_reducible repeat (first | apply rA_ | apply rN_)); exact HO172.out) hb)
      have n4_ := aM_ (kB_ (g := gb157) (o := .cells #[.slice A0_0 l0_0.length c0_0, .slice A0_1 l0_1.length c0_1] 32 (0, 0)) (by (with_reducible repeat (first | refine kN_ ?_ _ | refine kD_ ?_ | refine kA_ ?_ _)); exact BK157.out) hb)
      have n5_ := aM_ (kB_ (g := gb158) (o := .cells #[.slice A1_0 l1_0.length c1_0, .slice A1_1 l1_1.length c1_1] 32 (0, 0)) (by (with_reducible repeat (first | refine kN_ ?_ _ | refine kD_ ?_ | refine kA_ ?_ _)); exact BK158.out) hb)
      have n6_ := aM_ (bP_ (by repeat (with_reducible first | exact HB.out | apply bA_ | apply bN_ | apply bD_ | refine bS_ ?_ GE157.out | refine bS_ ?_ GE158.out)) hb)
      clear HO163
      clear HO166
      clear HO169
      clear HO172
      clear BK157
      clear BK158
      clear HB
      have HO163 := n0_
      have HO166 := n1_
      have HO169 := n2_
      have HO172 := n3_
      have BK157 := n4_
      have BK158 := n5_
      have HB := n6_
      clear n0_ n1_ n2_ n3_ n4_ n5_ n6_
      (try clear hb)
      (try clear hb2)
      (try clear hk)
      (try clear hi)
      refine hK.out _ _ ⟨(kC_ BK157.out 0).trans rfl, (kC_ BK157.out 1).trans rfl, (kC_ BK158.out 0).trans rfl, (kC_ BK158.out 1).trans rfl⟩ (fun hHeld => ?_)
      clear hK K
      refine norm_ (a' := ?_) ?_ ?_
      rotate_left
      ·show Act.put _ (some 24) _ = _
       simp only [Act.put, List.setIfInBounds_toArray, List.set_cons_zero, List.set_cons_succ, i64_w, i32_w]
       rfl
      refine pure_ (i := 5) (N := some 6) (v := ?_) (a' := ?_) #[true, true, true, true, true, true] rfl rfl (by kernel_rfl) (fun _ _ _ h => h) (Or.inl ⟨by rfl, ?_⟩) ?_ ?_
      rotate_left
      ·intro w'
       go_simp
       with_reducible rfl
      rotate_left
      ·simp only [Act.put, List.setIfInBounds_toArray, List.set_cons_zero, List.set_cons_succ, i64_w, i32_w]
       rfl
      refine done_ (by kernel_rfl) ?_
      have hcz81_0 : w80.cell? ⟨gb157, 0, none⟩ = some (.slice A0_0 l0_0.length c0_0) := (kC_ BK157.out 0).trans rfl
      have hcz81_1 : w80.cell? ⟨gb157, 1, none⟩ = some (.slice A0_1 l0_1.length c0_1) := (kC_ BK157.out 1).trans rfl
      have hfz81_0 := kZ_ BK157.out 0
      have hfz81_1 := kZ_ BK157.out 1
      try go_wp2_with (first | ((with_reducible refine gate_callee (f := 16) rfl ?_); refine goesL_ (some 26) rfl rfl Try.func16 (by kernel_rfl) rfl #[.agg #[.slice A0_0 l0_0.length c0_0, .slice A0_1 l0_1.length c0_1]] rfl (by (try simp only [List.map_toArray, List.map_cons, List.map_nil]); first | done | rfl | (simp only [List.length_drop, List.length_take]; rfl)) ?_; (with_reducible refine (laws_toDevice.calls k _ _ l0_0 _ _ l0_1 t174 t177 _ ?side1 ?side2 ?side3 ?side4 A22.out).mono ?_); (case side1 => repeat (first | exact (cB_ HR0_0.out HB.out) | (with_reducible refine cA_ ?_ _) | (with_reducible refine cN_ ?_ _) | (with_reducible refine cD_ ?_))); (case side2 => exact HC0_0.out); (case side3 => repeat (first | exact (cB_ HR0_1.out HB.out) | (with_reducible refine cA_ ?_ _) | (with_reducible refine cN_ ?_ _) | (with_reducible refine cD_ ?_))); (case side4 => exact HC0_1.out); rintro e w82 ⟨v175, v178, rfl, ho0, ho1, hb⟩; refine ⟨_, rfl, ?_⟩; have n0_ := aM_ (rE_ (by (with_reducible repeat (first | apply rA_ | apply rN_)); exact HO163.out) (rS_ ho0) hb); have n1_ := aM_ (rE_ (by (with_reducible repeat (first | apply rA_ | apply rN_)); exact HO166.out) (rS_ ho1) hb); have n2_ := aM_ (rE_ (by (with_reducible repeat (first | apply rA_ | apply rN_)); exact HO169.out) (rS_ ho0) hb); have n3_ := aM_ (rE_ (by (with_reducible repeat (first | apply rA_ | apply rN_)); exact HO172.out) (rS_ ho1) hb); have n4_ := aM_ (rO_ (rW_ (rW_ ho0 (rL_ (by (with_reducible repeat (first | apply rA_ | apply rN_)); exact HO163.out))) (rL_ (by (with_reducible repeat (first | apply rA_ | apply rN_)); exact HO169.out))) (bZ_ (by repeat (with_reducible first | exact HB.out | apply bA_ | apply bN_ | apply bD_ | refine bS_ ?_ GE157.out | refine bS_ ?_ GE158.out)))); have n5_ := aM_ (rO_ (rW_ (rW_ ho1 (rL_ (by (with_reducible repeat (first | apply rA_ | apply rN_)); exact HO166.out))) (rL_ (by (with_reducible repeat (first | apply rA_ | apply rN_)); exact HO172.out))) (bZ_ (by repeat (with_reducible first | exact HB.out | apply bA_ | apply bN_ | apply bD_ | refine bS_ ?_ GE157.out | refine bS_ ?_ GE158.out)))); have n6_ := aM_ (kB_ (g := gb157) (o := .cells #[.slice A0_0 l0_0.length c0_0, .slice A0_1 l0_1.length c0_1] 32 (0, 0)) (by (with_reducible repeat (first | refine kN_ ?_ _ | refine kD_ ?_ | refine kA_ ?_ _)); exact BK157.out) hb); have n7_ := aM_ (kB_ (g := gb158) (o := .cells #[.slice A1_0 l1_0.length c1_0, .slice A1_1 l1_1.length c1_1] 32 (0, 0)) (by (with_reducible repeat (first | refine kN_ ?_ _ | refine kD_ ?_ | refine kA_ ?_ _)); exact BK158.out) hb); have n8_ := aM_ (bP_ (by repeat (with_reducible first | exact HB.out | apply bA_ | apply bN_ | apply bD_ | refine bS_ ?_ GE157.out | refine bS_ ?_ GE158.out)) hb); clear HO163; clear HO166; clear HO169; clear HO172; clear BK157; clear BK158; clear HB; have HO163 := n0_; have HO166 := n1_; have HO169 := n2_; have HO172 := n3_; have HO176 := n4_; have HO179 := n5_; have BK157 := n6_; have BK158 := n7_; have HB := n8_; clear n0_ n1_ n2_ n3_ n4_ n5_ n6_ n7_ n8_; (try clear hb); (try clear hb2); (try clear hk); (try clear hi); (try clear ho0); (try clear ho1)) | ((with_reducible refine gate_dst (N := 7) rfl ?_); refine box_event ?hg (N := 7) ?hd (cs := #[.slice none 0 0, .slice none 0 0]) (t := 25) ?hr ?_; (case hd => rfl); (case hg => rfl); (case hr => first | (go_simp; done) | (go_simp; rfl)); intro gb180 hg w83 hbox hb; have n0_ := aM_ (rB_ (by (with_reducible repeat (first | apply rA_ | apply rN_)); exact HO163.out) hb); have n1_ := aM_ (rB_ (by (with_reducible repeat (first | apply rA_ | apply rN_)); exact HO166.out) hb); have n2_ := aM_ (rB_ (by (with_reducible repeat (first | apply rA_ | apply rN_)); exact HO169.out) hb); have n3_ := aM_ (rB_ (by (with_reducible repeat (first | apply rA_ | apply rN_)); exact HO172.out) hb); have n4_ := aM_ (rB_ (by (with_reducible repeat (first | apply rA_ | apply rN_)); exact HO176.out) hb); have n5_ := aM_ (rB_ (by (with_reducible repeat (first | apply rA_ | apply rN_)); exact HO179.out) hb); have n6_ := aM_ (kB_ (g := gb157) (o := .cells #[.slice A0_0 l0_0.length c0_0, .slice A0_1 l0_1.length c0_1] 32 (0, 0)) (by (with_reducible repeat (first | refine kN_ ?_ _ | refine kD_ ?_ | refine kA_ ?_ _)); exact BK157.out) hb); have n7_ := aM_ (kB_ (g := gb158) (o := .cells #[.slice A1_0 l1_0.length c1_0, .slice A1_1 l1_1.length c1_1] 32 (0, 0)) (by (with_reducible repeat (first | refine kN_ ?_ _ | refine kD_ ?_ | refine kA_ ?_ _)); exact BK158.out) hb); have n8_ := aM_ (bP_ (by repeat (with_reducible first | exact HB.out | apply bA_ | apply bN_ | apply bD_ | refine bS_ ?_ GE157.out | refine bS_ ?_ GE158.out)) hb); have n9_ := aM_ (hbox); have n10_ := aM_ ((by rw [hg]; exact (bZ_ (by repeat (with_reducible first | exact HB.out | apply bA_ | apply bN_ | apply bD_ | refine bS_ ?_ GE157.out | refine bS_ ?_ GE158.out))) : w.heap.size ≤ gb180)); have n11_ := aM_ ((by rw [hg]; exact (bZ_ (by repeat (with_reducible first | exact HB.out | apply bA_ | apply bN_ | apply bD_ | refine bS_ ?_ GE157.out | refine bS_ ?_ GE158.out))) : w.heap.size ≤ gb180)); have n12_ := aM_ ((by rw [hg]; exact Nat.ne_of_lt (kL_ (g := gb157) (o := .cells #[.slice A0_0 l0_0.length c0_0, .slice A0_1 l0_1.length c0_1] 32 (0, 0)) (by (with_reducible repeat (first | refine kN_ ?_ _ | refine kD_ ?_ | refine kA_ ?_ _)); exact BK157.out)) : gb157 ≠ gb180)); have n13_ := aM_ ((by rw [hg]; exact Nat.ne_of_gt (kL_ (g := gb157) (o := .cells #[.slice A0_0 l0_0.length c0_0, .slice A0_1 l0_1.length c0_1] 32 (0, 0)) (by (with_reducible repeat (first | refine kN_ ?_ _ | refine kD_ ?_ | refine kA_ ?_ _)); exact BK157.out)) : gb180 ≠ gb157)); have n14_ := aM_ ((by rw [hg]; exact Nat.ne_of_lt (kL_ (g := gb158) (o := .cells #[.slice A1_0 l1_0.length c1_0, .slice A1_1 l1_1.length c1_1] 32 (0, 0)) (by (with_reducible repeat (first | refine kN_ ?_ _ | refine kD_ ?_ | refine kA_ ?_ _)); exact BK158.out)) : gb158 ≠ gb180)); have n15_ := aM_ ((by rw [hg]; exact Nat.ne_of_gt (kL_ (g := gb158) (o := .cells #[.slice A1_0 l1_0.length c1_0, .slice A1_1 l1_1.length c1_1] 32 (0, 0)) (by (with_reducible repeat (first | refine kN_ ?_ _ | refine kD_ ?_ | refine kA_ ?_ _)); exact BK158.out)) : gb180 ≠ gb158)); clear HO163; clear HO166; clear HO169; clear HO172; clear HO176; clear HO179; clear BK157; clear BK158; clear HB; have HO163 := n0_; have HO166 := n1_; have HO169 := n2_; have HO172 := n3_; have HO176 := n4_; have HO179 := n5_; have BK157 := n6_; have BK158 := n7_; have HB := n8_; have BK180 := n9_; have GW180 := n10_; have GE180 := n11_; have NB157_180 := n12_; have NB180_157 := n13_; have NB158_180 := n14_; have NB180_158 := n15_; clear n0_ n1_ n2_ n3_ n4_ n5_ n6_ n7_ n8_ n9_ n10_ n11_ n12_ n13_ n14_ n15_; clear hb hbox hg; obtain ⟨Ao84, co84, eo84⟩ := Kd.R_slice HO176.out; subst eo84; have hnb85 := NB180_157.out; have hnc85 := NB157_180.out; have hnb86 := NB180_158.out; have hnc86 := NB158_180.out; have hcz87_0 : w83.cell? ⟨gb180, 0, none⟩ = some (.slice none 0 0) := (kC_ BK180.out 0).trans rfl; have hcz87_1 : w83.cell? ⟨gb180, 1, none⟩ = some (.slice none 0 0) := (kC_ BK180.out 1).trans rfl; have hfz87_0 := kZ_ BK180.out 0; have hfz87_1 := kZ_ BK180.out 1; obtain ⟨Ao88, co88, eo88⟩ := Kd.R_slice HO179.out; subst eo88; have hcz89_0 : w83.cell? ⟨gb158, 0, none⟩ = some (.slice A1_0 l1_0.length c1_0) := (kC_ BK158.out 0).trans rfl; have hcz89_1 : w83.cell? ⟨gb158, 1, none⟩ = some (.slice A1_1 l1_1.length c1_1) := (kC_ BK158.out 1).trans rfl; have hfz89_0 := kZ_ BK158.out 0; have hfz89_1 := kZ_ BK158.out 1) | ((with_reducible refine gate_callee (f := 16) rfl ?_); refine goesL_ (some 28) rfl rfl Try.func16 (by kernel_rfl) rfl #[.agg #[.slice A1_0 l1_0.length c1_0, .slice A1_1 l1_1.length c1_1]] rfl (by (try simp only [List.map_toArray, List.map_cons, List.map_nil]); first | done | rfl | (simp only [List.length_drop, List.length_take]; rfl)) ?_; (with_reducible refine (laws_toDevice.calls k _ _ l1_0 _ _ l1_1 t181 t184 _ ?side1 ?side2 ?side3 ?side4 A23.out).mono ?_); (case side1 => exact cB_ HR1_0.out (by repeat (with_reducible first | exact HB.out | apply bA_ | apply bN_ | apply bD_ | refine bS_ ?_ GE157.out | refine bS_ ?_ GE158.out | refine bS_ ?_ GE180.out))); (case side2 => exact HC1_0.out); (case side3 => exact cB_ HR1_1.out (by repeat (with_reducible first | exact HB.out | apply bA_ | apply bN_ | apply bD_ | refine bS_ ?_ GE157.out | refine bS_ ?_ GE158.out | refine bS_ ?_ GE180.out))); (case side4 => exact HC1_1.out); rintro e w90 ⟨v182, v185, rfl, ho0, ho1, hb⟩; refine ⟨_, rfl, ?_⟩; have n0_ := aM_ (rE_ (by (with_reducible repeat (first | apply rA_ | apply rN_)); exact (rM_ (rF_ (p := ⟨gb180, 1, none⟩) (rF_ (p := ⟨gb180, 0, none⟩) (rT_ HO163.out BK180.out (by decide)) (fun _ hk => hk.2) (.slice Ao84 t174.length co84)) (fun _ hk => hk.2) (.slice Ao88 t177.length co88)) (fun _ h_ => h_.1))) (rS_ ho0) hb); have n1_ := aM_ (rE_ (by (with_reducible repeat (first | apply rA_ | apply rN_)); exact (rM_ (rF_ (p := ⟨gb180, 1, none⟩) (rF_ (p := ⟨gb180, 0, none⟩) (rT_ HO166.out BK180.out (by decide)) (fun _ hk => hk.2) (.slice Ao84 t174.length co84)) (fun _ hk => hk.2) (.slice Ao88 t177.length co88)) (fun _ h_ => h_.1))) (rS_ ho1) hb); have n2_ := aM_ (rE_ (by (with_reducible repeat (first | apply rA_ | apply rN_)); exact (rM_ (rF_ (p := ⟨gb180, 1, none⟩) (rF_ (p := ⟨gb180, 0, none⟩) (rT_ HO169.out BK180.out (by decide)) (fun _ hk => hk.2) (.slice Ao84 t174.length co84)) (fun _ hk => hk.2) (.slice Ao88 t177.length co88)) (fun _ h_ => h_.1))) (rS_ ho0) hb); have n3_ := aM_ (rE_ (by (with_reducible repeat (first | apply rA_ | apply rN_)); exact (rM_ (rF_ (p := ⟨gb180, 1, none⟩) (rF_ (p := ⟨gb180, 0, none⟩) (rT_ HO172.out BK180.out (by decide)) (fun _ hk => hk.2) (.slice Ao84 t174.length co84)) (fun _ hk => hk.2) (.slice Ao88 t177.length co88)) (fun _ h_ => h_.1))) (rS_ ho1) hb); have n4_ := aM_ (rE_ (by (with_reducible repeat (first | apply rA_ | apply rN_)); exact (rM_ (rF_ (p := ⟨gb180, 1, none⟩) (rF_ (p := ⟨gb180, 0, none⟩) (rT_ HO176.out BK180.out (by decide)) (fun _ hk => hk.2) (.slice Ao84 t174.length co84)) (fun _ hk => hk.2) (.slice Ao88 t177.length co88)) (fun _ h_ => h_.1))) (rS_ ho0) hb); have n5_ := aM_ (rE_ (by (with_reducible repeat (first | apply rA_ | apply rN_)); exact (rM_ (rF_ (p := ⟨gb180, 1, none⟩) (rF_ (p := ⟨gb180, 0, none⟩) (rT_ HO179.out BK180.out (by decide)) (fun _ hk => hk.2) (.slice Ao84 t174.length co84)) (fun _ hk => hk.2) (.slice Ao88 t177.length co88)) (fun _ h_ => h_.1))) (rS_ ho1) hb); have n6_ := aM_ (rO_ (rW_ (rW_ (rW_ ho0 (rL_ (by (with_reducible repeat (first | apply rA_ | apply rN_)); exact (rM_ (rF_ (p := ⟨gb180, 1, none⟩) (rF_ (p := ⟨gb180, 0, none⟩) (rT_ HO163.out BK180.out (by decide)) (fun _ hk => hk.2) (.slice Ao84 t174.length co84)) (fun _ hk => hk.2) (.slice Ao88 t177.length co88)) (fun _ h_ => h_.1))))) (rL_ (by (with_reducible repeat (first | apply rA_ | apply rN_)); exact (rM_ (rF_ (p := ⟨gb180, 1, none⟩) (rF_ (p := ⟨gb180, 0, none⟩) (rT_ HO169.out BK180.out (by decide)) (fun _ hk => hk.2) (.slice Ao84 t174.length co84)) (fun _ hk => hk.2) (.slice Ao88 t177.length co88)) (fun _ h_ => h_.1))))) (rL_ (by (with_reducible repeat (first | apply rA_ | apply rN_)); exact (rM_ (rF_ (p := ⟨gb180, 1, none⟩) (rF_ (p := ⟨gb180, 0, none⟩) (rT_ HO176.out BK180.out (by decide)) (fun _ hk => hk.2) (.slice Ao84 t174.length co84)) (fun _ hk => hk.2) (.slice Ao88 t177.length co88)) (fun _ h_ => h_.1))))) (bZ_ (by repeat (with_reducible first | exact HB.out | apply bA_ | apply bN_ | apply bD_ | refine bS_ ?_ GE157.out | refine bS_ ?_ GE158.out | refine bS_ ?_ GE180.out)))); have n7_ := aM_ (rO_ (rW_ (rW_ (rW_ ho1 (rL_ (by (with_reducible repeat (first | apply rA_ | apply rN_)); exact (rM_ (rF_ (p := ⟨gb180, 1, none⟩) (rF_ (p := ⟨gb180, 0, none⟩) (rT_ HO166.out BK180.out (by decide)) (fun _ hk => hk.2) (.slice Ao84 t174.length co84)) (fun _ hk => hk.2) (.slice Ao88 t177.length co88)) (fun _ h_ => h_.1))))) (rL_ (by (with_reducible repeat (first | apply rA_ | apply rN_)); exact (rM_ (rF_ (p := ⟨gb180, 1, none⟩) (rF_ (p := ⟨gb180, 0, none⟩) (rT_ HO172.out BK180.out (by decide)) (fun _ hk => hk.2) (.slice Ao84 t174.length co84)) (fun _ hk => hk.2) (.slice Ao88 t177.length co88)) (fun _ h_ => h_.1))))) (rL_ (by (with_reducible repeat (first | apply rA_ | apply rN_)); exact (rM_ (rF_ (p := ⟨gb180, 1, none⟩) (rF_ (p := ⟨gb180, 0, none⟩) (rT_ HO179.out BK180.out (by decide)) (fun _ hk => hk.2) (.slice Ao84 t174.length co84)) (fun _ hk => hk.2) (.slice Ao88 t177.length co88)) (fun _ h_ => h_.1))))) (bZ_ (by repeat (with_reducible first | exact HB.out | apply bA_ | apply bN_ | apply bD_ | refine bS_ ?_ GE157.out | refine bS_ ?_ GE158.out | refine bS_ ?_ GE180.out)))); have n8_ := aM_ (kB_ (g := gb157) (o := .cells #[.slice A0_0 l0_0.length c0_0, .slice A0_1 l0_1.length c0_1] 32 (0, 0)) (by (with_reducible repeat (first | refine kN_ ?_ _ | refine kD_ ?_ | refine kA_ ?_ _)); refine kF_ ?_ NB157_180.out _; (with_reducible repeat (first | refine kN_ ?_ _ | refine kD_ ?_ | refine kA_ ?_ _)); refine kF_ ?_ NB157_180.out _; (with_reducible repeat (first | refine kN_ ?_ _ | refine kD_ ?_ | refine kA_ ?_ _)); exact BK157.out) hb); have n9_ := aM_ (kB_ (g := gb158) (o := .cells #[.slice A1_0 l1_0.length c1_0, .slice A1_1 l1_1.length c1_1] 32 (0, 0)) (by (with_reducible repeat (first | refine kN_ ?_ _ | refine kD_ ?_ | refine kA_ ?_ _)); refine kF_ ?_ NB158_180.out _; (with_reducible repeat (first | refine kN_ ?_ _ | refine kD_ ?_ | refine kA_ ?_ _)); refine kF_ ?_ NB158_180.out _; (with_reducible repeat (first | refine kN_ ?_ _ | refine kD_ ?_ | refine kA_ ?_ _)); exact BK158.out) hb); have n10_ := aM_ (kB_ (g := gb180) (o := .cells #[.slice Ao84 t174.length co84, .slice Ao88 t177.length co88] 25 (0, 0)) (by (with_reducible repeat (first | refine kN_ ?_ _ | refine kD_ ?_ | refine kA_ ?_ _)); refine blk_put (cs := #[.slice Ao84 t174.length co84, .slice none 0 0]) ?_ 1 _ rfl; (with_reducible repeat (first | refine kN_ ?_ _ | refine kD_ ?_ | refine kA_ ?_ _)); refine blk_put (cs := #[.slice none 0 0, .slice none 0 0]) ?_ 0 _ rfl; (with_reducible repeat (first | refine kN_ ?_ _ | refine kD_ ?_ | refine kA_ ?_ _)); exact BK180.out) hb); have n11_ := aM_ (bP_ (by repeat (with_reducible first | exact HB.out | apply bA_ | apply bN_ | apply bD_ | refine bS_ ?_ GE157.out | refine bS_ ?_ GE158.out | refine bS_ ?_ GE180.out)) hb); clear HO163; clear HO166; clear HO169; clear HO172; clear HO176; clear HO179; clear BK157; clear BK158; clear BK180; clear HB; have HO163 := n0_; have HO166 := n1_; have HO169 := n2_; have HO172 := n3_; have HO176 := n4_; have HO179 := n5_; have HO183 := n6_; have HO186 := n7_; have BK157 := n8_; have BK158 := n9_; have BK180 := n10_; have HB := n11_; clear n0_ n1_ n2_ n3_ n4_ n5_ n6_ n7_ n8_ n9_ n10_ n11_; (try clear hb); (try clear hb2); (try clear hk); (try clear hi); (try clear ho0); (try clear ho1)) | ((with_reducible refine gate_dst (N := 8) rfl ?_); refine box_event ?hg (N := 8) ?hd (cs := #[.slice none 0 0, .slice none 0 0]) (t := 25) ?hr ?_; (case hd => rfl); (case hg => rfl); (case hr => first | (go_simp; done) | (go_simp; rfl)); intro gb187 hg w91 hbox hb; have n0_ := aM_ (rB_ (by (with_reducible repeat (first | apply rA_ | apply rN_)); exact HO163.out) hb); have n1_ := aM_ (rB_ (by (with_reducible repeat (first | apply rA_ | apply rN_)); exact HO166.out) hb); have n2_ := aM_ (rB_ (by (with_reducible repeat (first | apply rA_ | apply rN_)); exact HO169.out) hb); have n3_ := aM_ (rB_ (by (with_reducible repeat (first | apply rA_ | apply rN_)); exact HO172.out) hb); have n4_ := aM_ (rB_ (by (with_reducible repeat (first | apply rA_ | apply rN_)); exact HO176.out) hb); have n5_ := aM_ (rB_ (by (with_reducible repeat (first | apply rA_ | apply rN_)); exact HO179.out) hb); have n6_ := aM_ (rB_ (by (with_reducible repeat (first | apply rA_ | apply rN_)); exact HO183.out) hb); have n7_ := aM_ (rB_ (by (with_reducible repeat (first | apply rA_ | apply rN_)); exact HO186.out) hb); have n8_ := aM_ (kB_ (g := gb157) (o := .cells #[.slice A0_0 l0_0.length c0_0, .slice A0_1 l0_1.length c0_1] 32 (0, 0)) (by (with_reducible repeat (first | refine kN_ ?_ _ | refine kD_ ?_ | refine kA_ ?_ _)); exact BK157.out) hb); have n9_ := aM_ (kB_ (g := gb158) (o := .cells #[.slice A1_0 l1_0.length c1_0, .slice A1_1 l1_1.length c1_1] 32 (0, 0)) (by (with_reducible repeat (first | refine kN_ ?_ _ | refine kD_ ?_ | refine kA_ ?_ _)); exact BK158.out) hb); have n10_ := aM_ (kB_ (g := gb180) (o := .cells #[.slice Ao84 t174.length co84, .slice Ao88 t177.length co88] 25 (0, 0)) (by (with_reducible repeat (first | refine kN_ ?_ _ | refine kD_ ?_ | refine kA_ ?_ _)); exact BK180.out) hb); have n11_ := aM_ (bP_ (by repeat (with_reducible first | exact HB.out | apply bA_ | apply bN_ | apply bD_ | refine bS_ ?_ GE157.out | refine bS_ ?_ GE158.out | refine bS_ ?_ GE180.out)) hb); have n12_ := aM_ (hbox); have n13_ := aM_ ((by rw [hg]; exact (bZ_ (by repeat (with_reducible first | exact HB.out | apply bA_ | apply bN_ | apply bD_ | refine bS_ ?_ GE157.out | refine bS_ ?_ GE158.out | refine bS_ ?_ GE180.out))) : w.heap.size ≤ gb187)); have n14_ := aM_ ((by rw [hg]; exact (bZ_ (by repeat (with_reducible first | exact HB.out | apply bA_ | apply bN_ | apply bD_ | refine bS_ ?_ GE157.out | refine bS_ ?_ GE158.out | refine bS_ ?_ GE180.out))) : w.heap.size ≤ gb187)); have n15_ := aM_ ((by rw [hg]; exact Nat.ne_of_lt (kL_ (g := gb157) (o := .cells #[.slice A0_0 l0_0.length c0_0, .slice A0_1 l0_1.length c0_1] 32 (0, 0)) (by (with_reducible repeat (first | refine kN_ ?_ _ | refine kD_ ?_ | refine kA_ ?_ _)); exact BK157.out)) : gb157 ≠ gb187)); have n16_ := aM_ ((by rw [hg]; exact Nat.ne_of_gt (kL_ (g := gb157) (o := .cells #[.slice A0_0 l0_0.length c0_0, .slice A0_1 l0_1.length c0_1] 32 (0, 0)) (by (with_reducible repeat (first | refine kN_ ?_ _ | refine kD_ ?_ | refine kA_ ?_ _)); exact BK157.out)) : gb187 ≠ gb157)); have n17_ := aM_ ((by rw [hg]; exact Nat.ne_of_lt (kL_ (g := gb158) (o := .cells #[.slice A1_0 l1_0.length c1_0, .slice A1_1 l1_1.length c1_1] 32 (0, 0)) (by (with_reducible repeat (first | refine kN_ ?_ _ | refine kD_ ?_ | refine kA_ ?_ _)); exact BK158.out)) : gb158 ≠ gb187)); have n18_ := aM_ ((by rw [hg]; exact Nat.ne_of_gt (kL_ (g := gb158) (o := .cells #[.slice A1_0 l1_0.length c1_0, .slice A1_1 l1_1.length c1_1] 32 (0, 0)) (by (with_reducible repeat (first | refine kN_ ?_ _ | refine kD_ ?_ | refine kA_ ?_ _)); exact BK158.out)) : gb187 ≠ gb158)); have n19_ := aM_ ((by rw [hg]; exact Nat.ne_of_lt (kL_ (g := gb180) (o := .cells #[.slice Ao84 t174.length co84, .slice Ao88 t177.length co88] 25 (0, 0)) (by (with_reducible repeat (first | refine kN_ ?_ _ | refine kD_ ?_ | refine kA_ ?_ _)); exact BK180.out)) : gb180 ≠ gb187)); have n20_ := aM_ ((by rw [hg]; exact Nat.ne_of_gt (kL_ (g := gb180) (o := .cells #[.slice Ao84 t174.length co84, .slice Ao88 t177.length co88] 25 (0, 0)) (by (with_reducible repeat (first | refine kN_ ?_ _ | refine kD_ ?_ | refine kA_ ?_ _)); exact BK180.out)) : gb187 ≠ gb180)); clear HO163; clear HO166; clear HO169; clear HO172; clear HO176; clear HO179; clear HO183; clear HO186; clear BK157; clear BK158; clear BK180; clear HB; have HO163 := n0_; have HO166 := n1_; have HO169 := n2_; have HO172 := n3_; have HO176 := n4_; have HO179 := n5_; have HO183 := n6_; have HO186 := n7_; have BK157 := n8_; have BK158 := n9_; have BK180 := n10_; have HB := n11_; have BK187 := n12_; have GW187 := n13_; have GE187 := n14_; have NB157_187 := n15_; have NB187_157 := n16_; have NB158_187 := n17_; have NB187_158 := n18_; have NB180_187 := n19_; have NB187_180 := n20_; clear n0_ n1_ n2_ n3_ n4_ n5_ n6_ n7_ n8_ n9_ n10_ n11_ n12_ n13_ n14_ n15_ n16_ n17_ n18_ n19_ n20_; clear hb hbox hg; obtain ⟨Ao92, co92, eo92⟩ := Kd.R_slice HO183.out; subst eo92; have hnb93 := NB187_157.out; have hnc93 := NB157_187.out; have hnb94 := NB187_158.out; have hnc94 := NB158_187.out; have hnb95 := NB187_180.out; have hnc95 := NB180_187.out; have hcz96_0 : w91.cell? ⟨gb187, 0, none⟩ = some (.slice none 0 0) := (kC_ BK187.out 0).trans rfl; have hcz96_1 : w91.cell? ⟨gb187, 1, none⟩ = some (.slice none 0 0) := (kC_ BK187.out 1).trans rfl; have hfz96_0 := kZ_ BK187.out 0; have hfz96_1 := kZ_ BK187.out 1; obtain ⟨Ao97, co97, eo97⟩ := Kd.R_slice HO186.out; subst eo97; have hcz98_0 : w91.cell? ⟨gb180, 0, none⟩ = some (.slice Ao84 t174.length co84) := (kC_ BK180.out 0).trans rfl; have hcz98_1 : w91.cell? ⟨gb180, 1, none⟩ = some (.slice Ao88 t177.length co88) := (kC_ BK180.out 1).trans rfl; have hfz98_0 := kZ_ BK180.out 0; have hfz98_1 := kZ_ BK180.out 1) | ((with_reducible refine gate_callee (f := 17) rfl ?_); refine goesL_ (some 31) rfl rfl Try.func17 (by kernel_rfl) rfl #[.agg #[.slice Ao84 t174.length co84, .slice Ao88 t177.length co88], .agg #[.slice Ao92 t181.length co92, .slice Ao97 t184.length co97]] rfl (by (try simp only [List.map_toArray, List.map_cons, List.map_nil]); first | done | rfl | (simp only [List.length_drop, List.length_take]; rfl)) ?_; (with_reducible refine (impl_SameDevice.calls k _ _ t174 _ _ t177 _ _ t181 _ _ t184 t188 _ ?side1 ?side2 ?side3 ?side4 ?side5 ?side6 ?side7 ?side8 A24.out).mono ?_); (case side1 => refine (rR_ (e := 9) (base := w.heap.size) (ok := fun k_ => (((True ∧ some k_ ≠ (.slice Ao76 t161.length co76 : Value).ownBlock) ∧ some k_ ≠ (.slice Ao78 t167.length co78 : Value).ownBlock) ∧ some k_ ≠ (.slice Ao92 t181.length co92 : Value).ownBlock)) (n := t174.length) (c := co84) ?_).2.2; exact (by (with_reducible repeat (first | apply rA_ | apply rN_)); exact (rM_ (rF_ (p := ⟨gb187, 1, none⟩) (rF_ (p := ⟨gb187, 0, none⟩) (rT_ HO176.out BK187.out (by decide)) (fun _ hk => hk.2) (.slice Ao92 t181.length co92)) (fun _ hk => hk.2) (.slice Ao97 t184.length co97)) (fun _ h_ => h_.1)))); (case side2 => exact (rR_ HO176.out).2.1); (case side3 => refine (rR_ (e := 55) (base := w.heap.size) (ok := fun k_ => (((True ∧ some k_ ≠ (.slice Ao77 t164.length co77 : Value).ownBlock) ∧ some k_ ≠ (.slice Ao79 t170.length co79 : Value).ownBlock) ∧ some k_ ≠ (.slice Ao97 t184.length co97 : Value).ownBlock)) (n := t177.length) (c := co88) ?_).2.2; exact (by (with_reducible repeat (first | apply rA_ | apply rN_)); exact (rM_ (rF_ (p := ⟨gb187, 1, none⟩) (rF_ (p := ⟨gb187, 0, none⟩) (rT_ HO179.out BK187.out (by decide)) (fun _ hk => hk.2) (.slice Ao92 t181.length co92)) (fun _ hk => hk.2) (.slice Ao97 t184.length co97)) (fun _ h_ => h_.1)))); (case side4 => exact (rR_ HO179.out).2.1); (case side5 => refine (rR_ (e := 9) (base := w.heap.size) (ok := fun k_ => (((True ∧ some k_ ≠ (.slice Ao76 t161.length co76 : Value).ownBlock) ∧ some k_ ≠ (.slice Ao78 t167.length co78 : Value).ownBlock) ∧ some k_ ≠ (.slice Ao84 t174.length co84 : Value).ownBlock)) (n := t181.length) (c := co92) ?_).2.2; exact (by (with_reducible repeat (first | apply rA_ | apply rN_)); exact (rM_ (rF_ (p := ⟨gb187, 1, none⟩) (rF_ (p := ⟨gb187, 0, none⟩) (rT_ HO183.out BK187.out (by decide)) (fun _ hk => hk.2) (.slice Ao92 t181.length co92)) (fun _ hk => hk.2) (.slice Ao97 t184.length co97)) (fun _ h_ => h_.1)))); (case side6 => exact (rR_ HO183.out).2.1); (case side7 => refine (rR_ (e := 55) (base := w.heap.size) (ok := fun k_ => (((True ∧ some k_ ≠ (.slice Ao77 t164.length co77 : Value).ownBlock) ∧ some k_ ≠ (.slice Ao79 t170.length co79 : Value).ownBlock) ∧ some k_ ≠ (.slice Ao88 t177.length co88 : Value).ownBlock)) (n := t184.length) (c := co97) ?_).2.2; exact (by (with_reducible repeat (first | apply rA_ | apply rN_)); exact (rM_ (rF_ (p := ⟨gb187, 1, none⟩) (rF_ (p := ⟨gb187, 0, none⟩) (rT_ HO186.out BK187.out (by decide)) (fun _ hk => hk.2) (.slice Ao92 t181.length co92)) (fun _ hk => hk.2) (.slice Ao97 t184.length co97)) (fun _ h_ => h_.1)))); (case side8 => exact (rR_ HO186.out).2.1); rintro e w99 ⟨rfl, hb⟩; refine ⟨_, rfl, ?_⟩; have n0_ := aM_ (rB_ (by (with_reducible repeat (first | apply rA_ | apply rN_)); exact (rM_ (rF_ (p := ⟨gb187, 1, none⟩) (rF_ (p := ⟨gb187, 0, none⟩) (rT_ HO163.out BK187.out (by decide)) (fun _ hk => hk.2) (.slice Ao92 t181.length co92)) (fun _ hk => hk.2) (.slice Ao97 t184.length co97)) (fun _ h_ => h_.1))) hb); have n1_ := aM_ (rB_ (by (with_reducible repeat (first | apply rA_ | apply rN_)); exact (rM_ (rF_ (p := ⟨gb187, 1, none⟩) (rF_ (p := ⟨gb187, 0, none⟩) (rT_ HO166.out BK187.out (by decide)) (fun _ hk => hk.2) (.slice Ao92 t181.length co92)) (fun _ hk => hk.2) (.slice Ao97 t184.length co97)) (fun _ h_ => h_.1))) hb); have n2_ := aM_ (rB_ (by (with_reducible repeat (first | apply rA_ | apply rN_)); exact (rM_ (rF_ (p := ⟨gb187, 1, none⟩) (rF_ (p := ⟨gb187, 0, none⟩) (rT_ HO169.out BK187.out (by decide)) (fun _ hk => hk.2) (.slice Ao92 t181.length co92)) (fun _ hk => hk.2) (.slice Ao97 t184.length co97)) (fun _ h_ => h_.1))) hb); have n3_ := aM_ (rB_ (by (with_reducible repeat (first | apply rA_ | apply rN_)); exact (rM_ (rF_ (p := ⟨gb187, 1, none⟩) (rF_ (p := ⟨gb187, 0, none⟩) (rT_ HO172.out BK187.out (by decide)) (fun _ hk => hk.2) (.slice Ao92 t181.length co92)) (fun _ hk => hk.2) (.slice Ao97 t184.length co97)) (fun _ h_ => h_.1))) hb); have n4_ := aM_ (rB_ (by (with_reducible repeat (first | apply rA_ | apply rN_)); exact (rM_ (rF_ (p := ⟨gb187, 1, none⟩) (rF_ (p := ⟨gb187, 0, none⟩) (rT_ HO176.out BK187.out (by decide)) (fun _ hk => hk.2) (.slice Ao92 t181.length co92)) (fun _ hk => hk.2) (.slice Ao97 t184.length co97)) (fun _ h_ => h_.1))) hb); have n5_ := aM_ (rB_ (by (with_reducible repeat (first | apply rA_ | apply rN_)); exact (rM_ (rF_ (p := ⟨gb187, 1, none⟩) (rF_ (p := ⟨gb187, 0, none⟩) (rT_ HO179.out BK187.out (by decide)) (fun _ hk => hk.2) (.slice Ao92 t181.length co92)) (fun _ hk => hk.2) (.slice Ao97 t184.length co97)) (fun _ h_ => h_.1))) hb); have n6_ := aM_ (rB_ (by (with_reducible repeat (first | apply rA_ | apply rN_)); exact (rM_ (rF_ (p := ⟨gb187, 1, none⟩) (rF_ (p := ⟨gb187, 0, none⟩) (rT_ HO183.out BK187.out (by decide)) (fun _ hk => hk.2) (.slice Ao92 t181.length co92)) (fun _ hk => hk.2) (.slice Ao97 t184.length co97)) (fun _ h_ => h_.1))) hb); have n7_ := aM_ (rB_ (by (with_reducible repeat (first | apply rA_ | apply rN_)); exact (rM_ (rF_ (p := ⟨gb187, 1, none⟩) (rF_ (p := ⟨gb187, 0, none⟩) (rT_ HO186.out BK187.out (by decide)) (fun _ hk => hk.2) (.slice Ao92 t181.length co92)) (fun _ hk => hk.2) (.slice Ao97 t184.length co97)) (fun _ h_ => h_.1))) hb); have n8_ := aM_ (kB_ (g := gb157) (o := .cells #[.slice A0_0 l0_0.length c0_0, .slice A0_1 l0_1.length c0_1] 32 (0, 0)) (by (with_reducible repeat (first | refine kN_ ?_ _ | refine kD_ ?_ | refine kA_ ?_ _)); refine kF_ ?_ NB157_187.out _; (with_reducible repeat (first | refine kN_ ?_ _ | refine kD_ ?_ | refine kA_ ?_ _)); refine kF_ ?_ NB157_187.out _; (with_reducible repeat (first | refine kN_ ?_ _ | refine kD_ ?_ | refine kA_ ?_ _)); exact BK157.out) hb); have n9_ := aM_ (kB_ (g := gb158) (o := .cells #[.slice A1_0 l1_0.length c1_0, .slice A1_1 l1_1.length c1_1] 32 (0, 0)) (by (with_reducible repeat (first | refine kN_ ?_ _ | refine kD_ ?_ | refine kA_ ?_ _)); refine kF_ ?_ NB158_187.out _; (with_reducible repeat (first | refine kN_ ?_ _ | refine kD_ ?_ | refine kA_ ?_ _)); refine kF_ ?_ NB158_187.out _; (with_reducible repeat (first | refine kN_ ?_ _ | refine kD_ ?_ | refine kA_ ?_ _)); exact BK158.out) hb); have n10_ := aM_ (kB_ (g := gb180) (o := .cells #[.slice Ao84 t174.length co84, .slice Ao88 t177.length co88] 25 (0, 0)) (by (with_reducible repeat (first | refine kN_ ?_ _ | refine kD_ ?_ | refine kA_ ?_ _)); refine kF_ ?_ NB180_187.out _; (with_reducible repeat (first | refine kN_ ?_ _ | refine kD_ ?_ | refine kA_ ?_ _)); refine kF_ ?_ NB180_187.out _; (with_reducible repeat (first | refine kN_ ?_ _ | refine kD_ ?_ | refine kA_ ?_ _)); exact BK180.out) hb); have n11_ := aM_ (kB_ (g := gb187) (o := .cells #[.slice Ao92 t181.length co92, .slice Ao97 t184.length co97] 25 (0, 0)) (by (with_reducible repeat (first | refine kN_ ?_ _ | refine kD_ ?_ | refine kA_ ?_ _)); refine blk_put (cs := #[.slice Ao92 t181.length co92, .slice none 0 0]) ?_ 1 _ rfl; (with_reducible repeat (first | refine kN_ ?_ _ | refine kD_ ?_ | refine kA_ ?_ _)); refine blk_put (cs := #[.slice none 0 0, .slice none 0 0]) ?_ 0 _ rfl; (with_reducible repeat (first | refine kN_ ?_ _ | refine kD_ ?_ | refine kA_ ?_ _)); exact BK187.out) hb); have n12_ := aM_ (bP_ (by repeat (with_reducible first | exact HB.out | apply bA_ | apply bN_ | apply bD_ | refine bS_ ?_ GE157.out | refine bS_ ?_ GE158.out | refine bS_ ?_ GE180.out | refine bS_ ?_ GE187.out)) hb); clear HO163; clear HO166; clear HO169; clear HO172; clear HO176; clear HO179; clear HO183; clear HO186; clear BK157; clear BK158; clear BK180; clear BK187; clear HB; have HO163 := n0_; have HO166 := n1_; have HO169 := n2_; have HO172 := n3_; have HO176 := n4_; have HO179 := n5_; have HO183 := n6_; have HO186 := n7_; have BK157 := n8_; have BK158 := n9_; have BK180 := n10_; have BK187 := n11_; have HB := n12_; clear n0_ n1_ n2_ n3_ n4_ n5_ n6_ n7_ n8_ n9_ n10_ n11_ n12_; (try clear hb); (try clear hb2); (try clear hk); (try clear hi)))
      have n0_ := aM_ (rD_ HO163.out)
      have n1_ := aM_ (rD_ HO166.out)
      have n2_ := aM_ (rD_ HO169.out)
      have n3_ := aM_ (rD_ HO172.out)
      have n4_ := aM_ (rD_ HO176.out)
      have n5_ := aM_ (rD_ HO179.out)
      have n6_ := aM_ (rD_ HO183.out)
      have n7_ := aM_ (rD_ HO186.out)
      have n8_ := aM_ (kD_ BK157.out)
      have n9_ := aM_ (kD_ BK158.out)
      have n10_ := aM_ (kD_ BK180.out)
      have n11_ := aM_ (kD_ BK187.out)
      have n12_ := aM_ (bD_ HB.out)
      clear HO163
      clear HO166
      clear HO169
      clear HO172
      clear HO176
      clear HO179
      clear HO183
      clear HO186
      clear BK157
      clear BK158
      clear BK180
      clear BK187
      clear HB
      have HO163 := n0_
      have HO166 := n1_
      have HO169 := n2_
      have HO172 := n3_
      have HO176 := n4_
      have HO179 := n5_
      have HO183 := n6_
      have HO186 := n7_
      have BK157 := n8_
      have BK158 := n9_
      have BK180 := n10_
      have BK187 := n11_
      have HB := n12_
      clear n0_ n1_ n2_ n3_ n4_ n5_ n6_ n7_ n8_ n9_ n10_ n11_ n12_
      refine start_ (n := 5) (S := fun w' => w'.cell? ⟨gb180, 0, none⟩ = some (.slice Ao84 t174.length co84) ∧ w'.cell? ⟨gb180, 1, none⟩ = some (.slice Ao88 t177.length co88) ∧ w'.cell? ⟨gb157, 0, none⟩ = some (.slice A0_0 l0_0.length c0_0) ∧ w'.cell? ⟨gb157, 1, none⟩ = some (.slice A0_1 l0_1.length c0_1)) (ds := []) #[false, false, false, false, false] (by kernel_rfl) rfl rfl ⟨(kC_ BK180.out 0).trans rfl, (kC_ BK180.out 1).trans rfl, (kC_ BK157.out 0).trans rfl, (kC_ BK157.out 1).trans rfl⟩ (fun hHeld => ?_)
      generalize w99.drew = w100 at HO163 HO166 HO169 HO172 HO176 HO179 HO183 HO186 BK157 BK158 BK180 BK187 HB hHeld ⊢
      refine take_ (i := 0) (N := some 35) (v := ?_) (a' := ?_) #[true, false, false, false, false] rfl rfl (by kernel_rfl) (fun _ _ _ h => h) (Or.inl ⟨by rfl, ?_⟩) hHeld ?_ ?_
      rotate_left
      ·rintro w' ⟨s0, s1, s2, s3⟩
       go_simp
       with_reducible rfl
      rotate_left
      ·simp only [Act.put, List.setIfInBounds_toArray, List.set_cons_zero, List.set_cons_succ, i64_w, i32_w]
       rfl
      refine take_ (i := 1) (N := some 36) (v := ?_) (a' := ?_) #[true, true, false, false, false] rfl rfl (by kernel_rfl) (fun _ _ _ h => h) (Or.inl ⟨by rfl, ?_⟩) hHeld ?_ ?_
      rotate_left
      ·rintro w' ⟨s0, s1, s2, s3⟩
       go_simp
       with_reducible rfl
      rotate_left
      ·simp only [Act.put, List.setIfInBounds_toArray, List.set_cons_zero, List.set_cons_succ, i64_w, i32_w]
       rfl
      refine one_ (i := 2) (N := some 37) #[true, true, true, false, false] rfl rfl (by kernel_rfl) (by decide) (fun K hK => ?_)
      refine goes_ Try.func16 (by kernel_rfl) rfl #[.agg #[.slice A0_0 l0_0.length c0_0, .slice A0_1 l0_1.length c0_1]] (by rfl) rfl rfl (by (try simp only [List.map_toArray, List.map_cons, List.map_nil]); first | done | rfl | (simp only [List.length_drop, List.length_take]; rfl)) ?_
      with_reducible refine (laws_toDevice.calls k _ _ l0_0 _ _ l0_1 t189 t192 _ ?side1 ?side2 ?side3 ?side4 A60.out).mono ?_
      (case side1 => repeat (first | exact (cB_ HR0_0.out HB.out) | (with_reducible refine cA_ ?_ _) | (with_reducible refine cN_ ?_ _) | (with_reducible refine cD_ ?_)))
      (case side2 => exact HC0_0.out)
      (case side3 => repeat (first | exact (cB_ HR0_1.out HB.out) | (with_reducible refine cA_ ?_ _) | (with_reducible refine cN_ ?_ _) | (with_reducible refine cD_ ?_)))
      (case side4 => exact HC0_1.out)
      rintro e w101 ⟨v190, v193, rfl, ho0, ho1, hb⟩
      refine ⟨_, rfl, ?_⟩
      have n0_ := aM_ (rE_ (by (with_reducible repeat (first | apply rA_ | apply rN_)); exact HO163.out) (rS_ ho0) hb)
      have n1_ := aM_ (rE_ (by (with_reducible repeat (first | apply rA_ | apply rN_)); exact HO166.out) (rS_ ho1) hb)
      have n2_ := aM_ (rE_ (by (with_reducible repeat (first | apply rA_ | apply rN_)); exact HO169.out) (rS_ ho0) hb)
      have n3_ := aM_ (rE_ (by (with_reducible repeat (first | apply rA_ | apply rN_)); exact HO172.out) (rS_ ho1) hb)
      have n4_ := aM_ (rE_ (by (with_reducible repeat (first | apply rA_ | apply rN_)); exact HO176.out) (rS_ ho0) hb)
      have n5_ := aM_ (rE_ (by (with_reducible repeat (first | apply rA_ | apply rN_)); exact HO179.out) (rS_ ho1) hb)
      have n6_ := aM_ (rE_ (by (with_reducible repeat (first | apply rA_ | apply rN_)); exact HO183.out) (rS_ ho0) hb)
      have n7_ := aM_ (rE_ (by (with_reducible repeat (first | apply rA_ | apply rN_)); exact HO186.out) (rS_ ho1) hb)
      have n8_ := aM_ (rO_ (rW_ (rW_ (rW_ (rW_ ho0 (rL_ (by (with_reducible repeat (first | apply rA_ | apply rN_)); exact HO163.out))) (rL_ (by (with_reducible repeat (first | apply rA_ | apply rN_)); exact HO169.out))) (rL_ (by (with_reducible repeat (first | apply rA_ | apply rN_)); exact HO176.out))) (rL_ (by (with_reducible repeat (first | apply rA_ | apply rN_)); exact HO183.out))) (bZ_ (by repeat (with_reducible first | exact HB.out | apply bA_ | apply bN_ | apply bD_ | refine bS_ ?_ GE157.out | refine bS_ ?_ GE158.out | refine bS_ ?_ GE180.out | refine bS_ ?_ GE187.out))))
      have n9_ := aM_ (rO_ (rW_ (rW_ (rW_ (rW_ ho1 (rL_ (by (with_reducible repeat (first | apply rA_ | apply rN_)); exact HO166.out))) (rL_ (by (with_reducible repeat (first | apply rA_ | apply rN_)); exact HO172.out))) (rL_ (by (with_reducible repeat (first | apply rA_ | apply rN_)); exact HO179.out))) (rL_ (by (with_reducible repeat (first | apply rA_ | apply rN_)); exact HO186.out))) (bZ_ (by repeat (with_reducible first | exact HB.out | apply bA_ | apply bN_ | apply bD_ | refine bS_ ?_ GE157.out | refine bS_ ?_ GE158.out | refine bS_ ?_ GE180.out | refine bS_ ?_ GE187.out))))
      have n10_ := aM_ (kB_ (g := gb157) (o := .cells #[.slice A0_0 l0_0.length c0_0, .slice A0_1 l0_1.length c0_1] 32 (0, 0)) (by (with_reducible repeat (first | refine kN_ ?_ _ | refine kD_ ?_ | refine kA_ ?_ _)); exact BK157.out) hb)
      have n11_ := aM_ (kB_ (g := gb158) (o := .cells #[.slice A1_0 l1_0.length c1_0, .slice A1_1 l1_1.length c1_1] 32 (0, 0)) (by (with_reducible repeat (first | refine kN_ ?_ _ | refine kD_ ?_ | refine kA_ ?_ _)); exact BK158.out) hb)
      have n12_ := aM_ (kB_ (g := gb180) (o := .cells #[.slice Ao84 t174.length co84, .slice Ao88 t177.length co88] 25 (0, 0)) (by (with_reducible repeat (first | refine kN_ ?_ _ | refine kD_ ?_ | refine kA_ ?_ _)); exact BK180.out) hb)
      have n13_ := aM_ (kB_ (g := gb187) (o := .cells #[.slice Ao92 t181.length co92, .slice Ao97 t184.length co97] 25 (0, 0)) (by (with_reducible repeat (first | refine kN_ ?_ _ | refine kD_ ?_ | refine kA_ ?_ _)); exact BK187.out) hb)
      have n14_ := aM_ (bP_ (by repeat (with_reducible first | exact HB.out | apply bA_ | apply bN_ | apply bD_ | refine bS_ ?_ GE157.out | refine bS_ ?_ GE158.out | refine bS_ ?_ GE180.out | refine bS_ ?_ GE187.out)) hb)
      clear HO163
      clear HO166
      clear HO169
      clear HO172
      clear HO176
      clear HO179
      clear HO183
      clear HO186
      clear BK157
      clear BK158
      clear BK180
      clear BK187
      clear HB
      have HO163 := n0_
      have HO166 := n1_
      have HO169 := n2_
      have HO172 := n3_
      have HO176 := n4_
      have HO179 := n5_
      have HO183 := n6_
      have HO186 := n7_
      have HO191 := n8_
      have HO194 := n9_
      have BK157 := n10_
      have BK158 := n11_
      have BK180 := n12_
      have BK187 := n13_
      have HB := n14_
      clear n0_ n1_ n2_ n3_ n4_ n5_ n6_ n7_ n8_ n9_ n10_ n11_ n12_ n13_ n14_
      (try clear hb)
      (try clear hb2)
      (try clear hk)
      (try clear hi)
      (try clear ho0)
      (try clear ho1)
      obtain ⟨Ao102, co102, eo102⟩ := Kd.R_slice HO191.out
      (first | subst eo102 | (injection eo102 with f1_ f2_ f3_; have f4_ := f1_.symm; have f5_ := f3_.symm; clear f1_ f2_ f3_; subst f4_; subst f5_))
      obtain ⟨Ao103, co103, eo103⟩ := Kd.R_slice HO194.out
      (first | subst eo103 | (injection eo103 with f1_ f2_ f3_; have f4_ := f1_.symm; have f5_ := f3_.symm; clear f1_ f2_ f3_; subst f4_; subst f5_))
      refine hK.out _ _ ⟨(kC_ BK180.out 0).trans rfl, (kC_ BK180.out 1).trans rfl, (kC_ BK157.out 0).trans rfl, (kC_ BK157.out 1).trans rfl⟩ (fun hHeld => ?_)
      clear hK K
      refine norm_ (a' := ?_) ?_ ?_
      rotate_left
      ·show Act.put _ (some 37) _ = _
       simp only [Act.put, List.setIfInBounds_toArray, List.set_cons_zero, List.set_cons_succ, i64_w, i32_w]
       rfl
      refine one_ (i := 3) (N := some 38) #[true, true, true, true, false] rfl rfl (by kernel_rfl) (by decide) (fun K hK => ?_)
      refine goes_ Try.func11 (by kernel_rfl) rfl #[.agg #[.slice Ao84 t174.length co84, .slice Ao88 t177.length co88], .agg #[.slice Ao102 t189.length co102, .slice Ao103 t192.length co103]] (by rfl) rfl rfl (by (try simp only [List.map_toArray, List.map_cons, List.map_nil]); first | done | rfl | (simp only [List.length_drop, List.length_take]; rfl)) ?_
      with_reducible refine (laws_eqDevice.calls k _ _ t174 _ _ t177 _ _ t189 _ _ t192 true _ ?side1 ?side2 ?side3 ?side4 ?side5 ?side6 ?side7 ?side8 A61.out).mono ?_
      (case side1 => repeat (first | exact (rR_ HO176.out).2.2 | (with_reducible refine cA_ ?_ _) | (with_reducible refine cN_ ?_ _) | (with_reducible refine cD_ ?_)))
      (case side2 => exact (rR_ HO176.out).2.1)
      (case side3 => repeat (first | exact (rR_ HO179.out).2.2 | (with_reducible refine cA_ ?_ _) | (with_reducible refine cN_ ?_ _) | (with_reducible refine cD_ ?_)))
      (case side4 => exact (rR_ HO179.out).2.1)
      (case side5 => repeat (first | exact (rR_ HO191.out).2.2 | (with_reducible refine cA_ ?_ _) | (with_reducible refine cN_ ?_ _) | (with_reducible refine cD_ ?_)))
      (case side6 => exact (rR_ HO191.out).2.1)
      (case side7 => repeat (first | exact (rR_ HO194.out).2.2 | (with_reducible refine cA_ ?_ _) | (with_reducible refine cN_ ?_ _) | (with_reducible refine cD_ ?_)))
      (case side8 => exact (rR_ HO194.out).2.1)
      rintro e w104 ⟨rfl, hb⟩
      refine ⟨_, rfl, ?_⟩
      have n0_ := aM_ (rB_ (by (with_reducible repeat (first | apply rA_ | apply rN_)); exact HO163.out) hb)
      have n1_ := aM_ (rB_ (by (with_reducible repeat (first | apply rA_ | apply rN_)); exact HO166.out) hb)
      have n2_ := aM_ (rB_ (by (with_reducible repeat (first | apply rA_ | apply rN_)); exact HO169.out) hb)
      have n3_ := aM_ (rB_ (by (with_reducible repeat (first | apply rA_ | apply rN_)); exact HO172.out) hb)
      have n4_ := aM_ (rB_ (by (with_reducible repeat (first | apply rA_ | apply rN_)); exact HO176.out) hb)
      have n5_ := aM_ (rB_ (by (with_reducible repeat (first | apply rA_ | apply rN_)); exact HO179.out) hb)
      have n6_ := aM_ (rB_ (by (with_reducible repeat (first | apply rA_ | apply rN_)); exact HO183.out) hb)
      have n7_ := aM_ (rB_ (by (with_reducible repeat (first | apply rA_ | apply rN_)); exact HO186.out) hb)
      have n8_ := aM_ (rB_ (by (with_reducible repeat (first | apply rA_ | apply rN_)); exact HO191.out) hb)
      have n9_ := aM_ (rB_ (by (with_reducible repeat (first | apply rA_ | apply rN_)); exact HO194.out) hb)
      have n10_ := aM_ (kB_ (g := gb157) (o := .cells #[.slice A0_0 l0_0.length c0_0, .slice A0_1 l0_1.length c0_1] 32 (0, 0)) (by (with_reducible repeat (first | refine kN_ ?_ _ | refine kD_ ?_ | refine kA_ ?_ _)); exact BK157.out) hb)
      have n11_ := aM_ (kB_ (g := gb158) (o := .cells #[.slice A1_0 l1_0.length c1_0, .slice A1_1 l1_1.length c1_1] 32 (0, 0)) (by (with_reducible repeat (first | refine kN_ ?_ _ | refine kD_ ?_ | refine kA_ ?_ _)); exact BK158.out) hb)
      have n12_ := aM_ (kB_ (g := gb180) (o := .cells #[.slice Ao84 t174.length co84, .slice Ao88 t177.length co88] 25 (0, 0)) (by (with_reducible repeat (first | refine kN_ ?_ _ | refine kD_ ?_ | refine kA_ ?_ _)); exact BK180.out) hb)
      have n13_ := aM_ (kB_ (g := gb187) (o := .cells #[.slice Ao92 t181.length co92, .slice Ao97 t184.length co97] 25 (0, 0)) (by (with_reducible repeat (first | refine kN_ ?_ _ | refine kD_ ?_ | refine kA_ ?_ _)); exact BK187.out) hb)
      have n14_ := aM_ (bP_ (by repeat (with_reducible first | exact HB.out | apply bA_ | apply bN_ | apply bD_ | refine bS_ ?_ GE157.out | refine bS_ ?_ GE158.out | refine bS_ ?_ GE180.out | refine bS_ ?_ GE187.out)) hb)
      clear HO163
      clear HO166
      clear HO169
      clear HO172
      clear HO176
      clear HO179
      clear HO183
      clear HO186
      clear HO191
      clear HO194
      clear BK157
      clear BK158
      clear BK180
      clear BK187
      clear HB
      have HO163 := n0_
      have HO166 := n1_
      have HO169 := n2_
      have HO172 := n3_
      have HO176 := n4_
      have HO179 := n5_
      have HO183 := n6_
      have HO186 := n7_
      have HO191 := n8_
      have HO194 := n9_
      have BK157 := n10_
      have BK158 := n11_
      have BK180 := n12_
      have BK187 := n13_
      have HB := n14_
      clear n0_ n1_ n2_ n3_ n4_ n5_ n6_ n7_ n8_ n9_ n10_ n11_ n12_ n13_ n14_
      (try clear hb)
      (try clear hb2)
      (try clear hk)
      (try clear hi)
      refine hK.out _ _ ⟨(kC_ BK180.out 0).trans rfl, (kC_ BK180.out 1).trans rfl, (kC_ BK157.out 0).trans rfl, (kC_ BK157.out 1).trans rfl⟩ (fun hHeld => ?_)
      clear hK K
      refine norm_ (a' := ?_) ?_ ?_
      rotate_left
      ·show Act.put _ (some 38) _ = _
       simp only [Act.put, List.setIfInBounds_toArray, List.set_cons_zero, List.set_cons_succ, i64_w, i32_w]
       rfl
      refine pure_ (i := 4) (N := some 39) (v := ?_) (a' := ?_) #[true, true, true, true, true] rfl rfl (by kernel_rfl) (fun _ _ _ h => h) (Or.inl ⟨by rfl, ?_⟩) ?_ ?_
      rotate_left
      ·intro w'
       go_simp
       with_reducible rfl
      rotate_left
      ·simp only [Act.put, List.setIfInBounds_toArray, List.set_cons_zero, List.set_cons_succ, i64_w, i32_w]
       rfl
      refine done_ (by kernel_rfl) ?_
      try go_wp2
      have n0_ := aM_ (rD_ HO163.out)
      have n1_ := aM_ (rD_ HO166.out)
      have n2_ := aM_ (rD_ HO169.out)
      have n3_ := aM_ (rD_ HO172.out)
      have n4_ := aM_ (rD_ HO176.out)
      have n5_ := aM_ (rD_ HO179.out)
      have n6_ := aM_ (rD_ HO183.out)
      have n7_ := aM_ (rD_ HO186.out)
      have n8_ := aM_ (rD_ HO191.out)
      have n9_ := aM_ (rD_ HO194.out)
      have n10_ := aM_ (kD_ BK157.out)
      have n11_ := aM_ (kD_ BK158.out)
      have n12_ := aM_ (kD_ BK180.out)
      have n13_ := aM_ (kD_ BK187.out)
      have n14_ := aM_ (bD_ HB.out)
      clear HO163
      clear HO166
      clear HO169
      clear HO172
      clear HO176
      clear HO179
      clear HO183
      clear HO186
      clear HO191
      clear HO194
      clear BK157
      clear BK158
      clear BK180
      clear BK187
      clear HB
      have HO163 := n0_
      have HO166 := n1_
      have HO169 := n2_
      have HO172 := n3_
      have HO176 := n4_
      have HO179 := n5_
      have HO183 := n6_
      have HO186 := n7_
      have HO191 := n8_
      have HO194 := n9_
      have BK157 := n10_
      have BK158 := n11_
      have BK180 := n12_
      have BK187 := n13_
      have HB := n14_
      clear n0_ n1_ n2_ n3_ n4_ n5_ n6_ n7_ n8_ n9_ n10_ n11_ n12_ n13_ n14_
      refine start_ (n := 5) (S := fun w' => w'.cell? ⟨gb187, 0, none⟩ = some (.slice Ao92 t181.length co92) ∧ w'.cell? ⟨gb187, 1, none⟩ = some (.slice Ao97 t184.length co97) ∧ w'.cell? ⟨gb158, 0, none⟩ = some (.slice A1_0 l1_0.length c1_0) ∧ w'.cell? ⟨gb158, 1, none⟩ = some (.slice A1_1 l1_1.length c1_1)) (ds := []) #[false, false, false, false, false] (by kernel_rfl) rfl rfl ⟨(kC_ BK187.out 0).trans rfl, (kC_ BK187.out 1).trans rfl, (kC_ BK158.out 0).trans rfl, (kC_ BK158.out 1).trans rfl⟩ (fun hHeld => ?_)
      generalize w104.drew = w105 at HO163 HO166 HO169 HO172 HO176 HO179 HO183 HO186 HO191 HO194 BK157 BK158 BK180 BK187 HB hHeld ⊢
      refine take_ (i := 0) (N := some 40) (v := ?_) (a' := ?_) #[true, false, false, false, false] rfl rfl (by kernel_rfl) (fun _ _ _ h => h) (Or.inl ⟨by rfl, ?_⟩) hHeld ?_ ?_
      rotate_left
      ·rintro w' ⟨s0, s1, s2, s3⟩
       go_simp
       with_reducible rfl
      rotate_left
      ·simp only [Act.put, List.setIfInBounds_toArray, List.set_cons_zero, List.set_cons_succ, i64_w, i32_w]
       rfl
      refine take_ (i := 1) (N := some 41) (v := ?_) (a' := ?_) #[true, true, false, false, false] rfl rfl (by kernel_rfl) (fun _ _ _ h => h) (Or.inl ⟨by rfl, ?_⟩) hHeld ?_ ?_
      rotate_left
      ·rintro w' ⟨s0, s1, s2, s3⟩
       go_simp
       with_reducible rfl
      rotate_left
      ·simp only [Act.put, List.setIfInBounds_toArray, List.set_cons_zero, List.set_cons_succ, i64_w, i32_w]
       rfl
      refine one_ (i := 2) (N := some 42) #[true, true, true, false, false] rfl rfl (by kernel_rfl) (by decide) (fun K hK => ?_)
      refine goes_ Try.func16 (by kernel_rfl) rfl #[.agg #[.slice A1_0 l1_0.length c1_0, .slice A1_1 l1_1.length c1_1]] (by rfl) rfl rfl (by (try simp only [List.map_toArray, List.map_cons, List.map_nil]); first | done | rfl | (simp only [List.length_drop, List.length_take]; rfl)) ?_
      with_reducible refine (laws_toDevice.calls k _ _ l1_0 _ _ l1_1 t196 t199 _ ?side1 ?side2 ?side3 ?side4 A63.out).mono ?_
      (case side1 => repeat (first | exact (cB_ HR1_0.out HB.out) | (with_reducible refine cA_ ?_ _) | (with_reducible refine cN_ ?_ _) | (with_reducible refine cD_ ?_)))
      (case side2 => exact HC1_0.out)
      (case side3 => repeat (first | exact (cB_ HR1_1.out HB.out) | (with_reducible refine cA_ ?_ _) | (with_reducible refine cN_ ?_ _) | (with_reducible refine cD_ ?_)))
      (case side4 => exact HC1_1.out)
      rintro e w106 ⟨v197, v200, rfl, ho0, ho1, hb⟩
      refine ⟨_, rfl, ?_⟩
      have n0_ := aM_ (rE_ (by (with_reducible repeat (first | apply rA_ | apply rN_)); exact HO163.out) (rS_ ho0) hb)
      have n1_ := aM_ (rE_ (by (with_reducible repeat (first | apply rA_ | apply rN_)); exact HO166.out) (rS_ ho1) hb)
      have n2_ := aM_ (rE_ (by (with_reducible repeat (first | apply rA_ | apply rN_)); exact HO169.out) (rS_ ho0) hb)
      have n3_ := aM_ (rE_ (by (with_reducible repeat (first | apply rA_ | apply rN_)); exact HO172.out) (rS_ ho1) hb)
      have n4_ := aM_ (rE_ (by (with_reducible repeat (first | apply rA_ | apply rN_)); exact HO176.out) (rS_ ho0) hb)
      have n5_ := aM_ (rE_ (by (with_reducible repeat (first | apply rA_ | apply rN_)); exact HO179.out) (rS_ ho1) hb)
      have n6_ := aM_ (rE_ (by (with_reducible repeat (first | apply rA_ | apply rN_)); exact HO183.out) (rS_ ho0) hb)
      have n7_ := aM_ (rE_ (by (with_reducible repeat (first | apply rA_ | apply rN_)); exact HO186.out) (rS_ ho1) hb)
      have n8_ := aM_ (rE_ (by (with_reducible repeat (first | apply rA_ | apply rN_)); exact HO191.out) (rS_ ho0) hb)
      have n9_ := aM_ (rE_ (by (with_reducible repeat (first | apply rA_ | apply rN_)); exact HO194.out) (rS_ ho1) hb)
      have n10_ := aM_ (rO_ (rW_ (rW_ (rW_ (rW_ (rW_ ho0 (rL_ (by (with_reducible repeat (first | apply rA_ | apply rN_)); exact HO163.out))) (rL_ (by (with_reducible repeat (first | apply rA_ | apply rN_)); exact HO169.out))) (rL_ (by (with_reducible repeat (first | apply rA_ | apply rN_)); exact HO176.out))) (rL_ (by (with_reducible repeat (first | apply rA_ | apply rN_)); exact HO183.out))) (rL_ (by (with_reducible repeat (first | apply rA_ | apply rN_)); exact HO191.out))) (bZ_ (by repeat (with_reducible first | exact HB.out | apply bA_ | apply bN_ | apply bD_ | refine bS_ ?_ GE157.out | refine bS_ ?_ GE158.out | refine bS_ ?_ GE180.out | refine bS_ ?_ GE187.out))))
      have n11_ := aM_ (rO_ (rW_ (rW_ (rW_ (rW_ (rW_ ho1 (rL_ (by (with_reducible repeat (first | apply rA_ | apply rN_)); exact HO166.out))) (rL_ (by (with_reducible repeat (first | apply rA_ | apply rN_)); exact HO172.out))) (rL_ (by (with_reducible repeat (first | apply rA_ | apply rN_)); exact HO179.out))) (rL_ (by (with_reducible repeat (first | apply rA_ | apply rN_)); exact HO186.out))) (rL_ (by (with_reducible repeat (first | apply rA_ | apply rN_)); exact HO194.out))) (bZ_ (by repeat (with_reducible first | exact HB.out | apply bA_ | apply bN_ | apply bD_ | refine bS_ ?_ GE157.out | refine bS_ ?_ GE158.out | refine bS_ ?_ GE180.out | refine bS_ ?_ GE187.out))))
      have n12_ := aM_ (kB_ (g := gb157) (o := .cells #[.slice A0_0 l0_0.length c0_0, .slice A0_1 l0_1.length c0_1] 32 (0, 0)) (by (with_reducible repeat (first | refine kN_ ?_ _ | refine kD_ ?_ | refine kA_ ?_ _)); exact BK157.out) hb)
      have n13_ := aM_ (kB_ (g := gb158) (o := .cells #[.slice A1_0 l1_0.length c1_0, .slice A1_1 l1_1.length c1_1] 32 (0, 0)) (by (with_reducible repeat (first | refine kN_ ?_ _ | refine kD_ ?_ | refine kA_ ?_ _)); exact BK158.out) hb)
      have n14_ := aM_ (kB_ (g := gb180) (o := .cells #[.slice Ao84 t174.length co84, .slice Ao88 t177.length co88] 25 (0, 0)) (by (with_reducible repeat (first | refine kN_ ?_ _ | refine kD_ ?_ | refine kA_ ?_ _)); exact BK180.out) hb)
      have n15_ := aM_ (kB_ (g := gb187) (o := .cells #[.slice Ao92 t181.length co92, .slice Ao97 t184.length co97] 25 (0, 0)) (by (with_reducible repeat (first | refine kN_ ?_ _ | refine kD_ ?_ | refine kA_ ?_ _)); exact BK187.out) hb)
      have n16_ := aM_ (bP_ (by repeat (with_reducible first | exact HB.out | apply bA_ | apply bN_ | apply bD_ | refine bS_ ?_ GE157.out | refine bS_ ?_ GE158.out | refine bS_ ?_ GE180.out | refine bS_ ?_ GE187.out)) hb)
      clear HO163
      clear HO166
      clear HO169
      clear HO172
      clear HO176
      clear HO179
      clear HO183
      clear HO186
      clear HO191
      clear HO194
      clear BK157
      clear BK158
      clear BK180
      clear BK187
      clear HB
      have HO163 := n0_
      have HO166 := n1_
      have HO169 := n2_
      have HO172 := n3_
      have HO176 := n4_
      have HO179 := n5_
      have HO183 := n6_
      have HO186 := n7_
      have HO191 := n8_
      have HO194 := n9_
      have HO198 := n10_
      have HO201 := n11_
      have BK157 := n12_
      have BK158 := n13_
      have BK180 := n14_
      have BK187 := n15_
      have HB := n16_
      clear n0_ n1_ n2_ n3_ n4_ n5_ n6_ n7_ n8_ n9_ n10_ n11_ n12_ n13_ n14_ n15_ n16_
      (try clear hb)
      (try clear hb2)
      (try clear hk)
      (try clear hi)
      (try clear ho0)
      (try clear ho1)
      obtain ⟨Ao107, co107, eo107⟩ := Kd.R_slice HO198.out
      (first | subst eo107 | (injection eo107 with f1_ f2_ f3_; have f4_ := f1_.symm; have f5_ := f3_.symm; clear f1_ f2_ f3_; subst f4_; subst f5_))
      obtain ⟨Ao108, co108, eo108⟩ := Kd.R_slice HO201.out
      (first | subst eo108 | (injection eo108 with f1_ f2_ f3_; have f4_ := f1_.symm; have f5_ := f3_.symm; clear f1_ f2_ f3_; subst f4_; subst f5_))
      refine hK.out _ _ ⟨(kC_ BK187.out 0).trans rfl, (kC_ BK187.out 1).trans rfl, (kC_ BK158.out 0).trans rfl, (kC_ BK158.out 1).trans rfl⟩ (fun hHeld => ?_)
      clear hK K
      refine norm_ (a' := ?_) ?_ ?_
      rotate_left
      ·show Act.put _ (some 42) _ = _
       simp only [Act.put, List.setIfInBounds_toArray, List.set_cons_zero, List.set_cons_succ, i64_w, i32_w]
       rfl
      refine one_ (i := 3) (N := some 43) #[true, true, true, true, false] rfl rfl (by kernel_rfl) (by decide) (fun K hK => ?_)
      refine goes_ Try.func11 (by kernel_rfl) rfl #[.agg #[.slice Ao92 t181.length co92, .slice Ao97 t184.length co97], .agg #[.slice Ao107 t196.length co107, .slice Ao108 t199.length co108]] (by rfl) rfl rfl (by (try simp only [List.map_toArray, List.map_cons, List.map_nil]); first | done | rfl | (simp only [List.length_drop, List.length_take]; rfl)) ?_
      with_reducible refine (laws_eqDevice.calls k _ _ t181 _ _ t184 _ _ t196 _ _ t199 true _ ?side1 ?side2 ?side3 ?side4 ?side5 ?side6 ?side7 ?side8 A64.out).mono ?_
      (case side1 => repeat (first | exact (rR_ HO183.out).2.2 | (with_reducible refine cA_ ?_ _) | (with_reducible refine cN_ ?_ _) | (with_reducible refine cD_ ?_)))
      (case side2 => exact (rR_ HO183.out).2.1)
      (case side3 => repeat (first | exact (rR_ HO186.out).2.2 | (with_reducible refine cA_ ?_ _) | (with_reducible refine cN_ ?_ _) | (with_reducible refine cD_ ?_)))
      (case side4 => exact (rR_ HO186.out).2.1)
      (case side5 => repeat (first | exact (rR_ HO198.out).2.2 | (with_reducible refine cA_ ?_ _) | (with_reducible refine cN_ ?_ _) | (with_reducible refine cD_ ?_)))
      (case side6 => exact (rR_ HO198.out).2.1)
      (case side7 => repeat (first | exact (rR_ HO201.out).2.2 | (with_reducible refine cA_ ?_ _) | (with_reducible refine cN_ ?_ _) | (with_reducible refine cD_ ?_)))
      (case side8 => exact (rR_ HO201.out).2.1)
      rintro e w109 ⟨rfl, hb⟩
      refine ⟨_, rfl, ?_⟩
      have n0_ := aM_ (rB_ (by (with_reducible repeat (first | apply rA_ | apply rN_)); exact HO163.out) hb)
      have n1_ := aM_ (rB_ (by (with_reducible repeat (first | apply rA_ | apply rN_)); exact HO166.out) hb)
      have n2_ := aM_ (rB_ (by (with_reducible repeat (first | apply rA_ | apply rN_)); exact HO169.out) hb)
      have n3_ := aM_ (rB_ (by (with_reducible repeat (first | apply rA_ | apply rN_)); exact HO172.out) hb)
      have n4_ := aM_ (rB_ (by (with_reducible repeat (first | apply rA_ | apply rN_)); exact HO176.out) hb)
      have n5_ := aM_ (rB_ (by (with_reducible repeat (first | apply rA_ | apply rN_)); exact HO179.out) hb)
      have n6_ := aM_ (rB_ (by (with_reducible repeat (first | apply rA_ | apply rN_)); exact HO183.out) hb)
      have n7_ := aM_ (rB_ (by (with_reducible repeat (first | apply rA_ | apply rN_)); exact HO186.out) hb)
      have n8_ := aM_ (rB_ (by (with_reducible repeat (first | apply rA_ | apply rN_)); exact HO191.out) hb)
      have n9_ := aM_ (rB_ (by (with_reducible repeat (first | apply rA_ | apply rN_)); exact HO194.out) hb)
      have n10_ := aM_ (rB_ (by (with_reducible repeat (first | apply rA_ | apply rN_)); exact HO198.out) hb)
      have n11_ := aM_ (rB_ (by (with_reducible repeat (first | apply rA_ | apply rN_)); exact HO201.out) hb)
      have n12_ := aM_ (kB_ (g := gb157) (o := .cells #[.slice A0_0 l0_0.length c0_0, .slice A0_1 l0_1.length c0_1] 32 (0, 0)) (by (with_reducible repeat (first | refine kN_ ?_ _ | refine kD_ ?_ | refine kA_ ?_ _)); exact BK157.out) hb)
      have n13_ := aM_ (kB_ (g := gb158) (o := .cells #[.slice A1_0 l1_0.length c1_0, .slice A1_1 l1_1.length c1_1] 32 (0, 0)) (by (with_reducible repeat (first | refine kN_ ?_ _ | refine kD_ ?_ | refine kA_ ?_ _)); exact BK158.out) hb)
      have n14_ := aM_ (kB_ (g := gb180) (o := .cells #[.slice Ao84 t174.length co84, .slice Ao88 t177.length co88] 25 (0, 0)) (by (with_reducible repeat (first | refine kN_ ?_ _ | refine kD_ ?_ | refine kA_ ?_ _)); exact BK180.out) hb)
      have n15_ := aM_ (kB_ (g := gb187) (o := .cells #[.slice Ao92 t181.length co92, .slice Ao97 t184.length co97] 25 (0, 0)) (by (with_reducible repeat (first | refine kN_ ?_ _ | refine kD_ ?_ | refine kA_ ?_ _)); exact BK187.out) hb)
      have n16_ := aM_ (bP_ (by repeat (with_reducible first | exact HB.out | apply bA_ | apply bN_ | apply bD_ | refine bS_ ?_ GE157.out | refine bS_ ?_ GE158.out | refine bS_ ?_ GE180.out | refine bS_ ?_ GE187.out)) hb)
      clear HO163
      clear HO166
      clear HO169
      clear HO172
      clear HO176
      clear HO179
      clear HO183
      clear HO186
      clear HO191
      clear HO194
      clear HO198
      clear HO201
      clear BK157
      clear BK158
      clear BK180
      clear BK187
      clear HB
      have HO163 := n0_
      have HO166 := n1_
      have HO169 := n2_
      have HO172 := n3_
      have HO176 := n4_
      have HO179 := n5_
      have HO183 := n6_
      have HO186 := n7_
      have HO191 := n8_
      have HO194 := n9_
      have HO198 := n10_
      have HO201 := n11_
      have BK157 := n12_
      have BK158 := n13_
      have BK180 := n14_
      have BK187 := n15_
      have HB := n16_
      clear n0_ n1_ n2_ n3_ n4_ n5_ n6_ n7_ n8_ n9_ n10_ n11_ n12_ n13_ n14_ n15_ n16_
      (try clear hb)
      (try clear hb2)
      (try clear hk)
      (try clear hi)
      refine hK.out _ _ ⟨(kC_ BK187.out 0).trans rfl, (kC_ BK187.out 1).trans rfl, (kC_ BK158.out 0).trans rfl, (kC_ BK158.out 1).trans rfl⟩ (fun hHeld => ?_)
      clear hK K
      refine norm_ (a' := ?_) ?_ ?_
      rotate_left
      ·show Act.put _ (some 43) _ = _
       simp only [Act.put, List.setIfInBounds_toArray, List.set_cons_zero, List.set_cons_succ, i64_w, i32_w]
       rfl
      refine pure_ (i := 4) (N := some 44) (v := ?_) (a' := ?_) #[true, true, true, true, true] rfl rfl (by kernel_rfl) (fun _ _ _ h => h) (Or.inl ⟨by rfl, ?_⟩) ?_ ?_
      rotate_left
      ·intro w'
       go_simp
       with_reducible rfl
      rotate_left
      ·simp only [Act.put, List.setIfInBounds_toArray, List.set_cons_zero, List.set_cons_succ, i64_w, i32_w]
       rfl
      refine done_ (by kernel_rfl) ?_
      try go_wp2
      go_ret
      exact ⟨by first | rfl | (simp [errW_none, errW_some] <;> rfl) | (simp [*, errW_none, errW_some] <;> rfl), by repeat (with_reducible first | exact HB.out | apply bA_ | apply bN_ | apply bD_ | refine bS_ ?_ GE157.out | refine bS_ ?_ GE158.out | refine bS_ ?_ GE180.out | refine bS_ ?_ GE187.out)⟩
     ·replace c65 := Bool.eq_false_iff.mpr c65
      subst c65
      have H1 : (some false) = some r := by rw [if_neg (show ¬ (false = true) by decide)] at H; exact H
      clear H
      have H := H1
      clear H1
      obtain rfl := Option.some.inj H
      go_enter Try.func4, Try.ntmps4
      try go_wp2_with (first | ((with_reducible refine gate_dst (N := 2) rfl ?_); refine box_event ?hg (N := 2) ?hd (cs := #[.slice A0_0 l0_0.length c0_0, .slice A0_1 l0_1.length c0_1]) (t := 32) ?hr ?_; (case hd => rfl); (case hg => rfl); (case hr => first | (go_simp; done) | (go_simp; rfl)); intro gb157 hg w110 hbox hb; have n0_ := aM_ (bP_ (by repeat (with_reducible first | exact HB.out | apply bA_ | apply bN_ | apply bD_)) hb); have n1_ := aM_ (hbox); have n2_ := aM_ ((by rw [hg]; exact (bZ_ (by repeat (with_reducible first | exact HB.out | apply bA_ | apply bN_ | apply bD_))) : w.heap.size ≤ gb157)); have n3_ := aM_ ((by rw [hg]; exact (bZ_ (by repeat (with_reducible first | exact HB.out | apply bA_ | apply bN_ | apply bD_))) : w.heap.size ≤ gb157)); clear HB; have HB := n0_; have BK157 := n1_; have GW157 := n2_; have GE157 := n3_; clear n0_ n1_ n2_ n3_; clear hb hbox hg) | ((with_reducible refine gate_dst (N := 3) rfl ?_); refine box_event ?hg (N := 3) ?hd (cs := #[.slice A1_0 l1_0.length c1_0, .slice A1_1 l1_1.length c1_1]) (t := 32) ?hr ?_; (case hd => rfl); (case hg => rfl); (case hr => first | (go_simp; done) | (go_simp; rfl)); intro gb158 hg w111 hbox hb; have n0_ := aM_ (kB_ (g := gb157) (o := .cells #[.slice A0_0 l0_0.length c0_0, .slice A0_1 l0_1.length c0_1] 32 (0, 0)) (by (with_reducible repeat (first | refine kN_ ?_ _ | refine kD_ ?_ | refine kA_ ?_ _)); exact BK157.out) hb); have n1_ := aM_ (bP_ (by repeat (with_reducible first | exact HB.out | apply bA_ | apply bN_ | apply bD_ | refine bS_ ?_ GE157.out)) hb); have n2_ := aM_ (hbox); have n3_ := aM_ ((by rw [hg]; exact (bZ_ (by repeat (with_reducible first | exact HB.out | apply bA_ | apply bN_ | apply bD_ | refine bS_ ?_ GE157.out))) : w.heap.size ≤ gb158)); have n4_ := aM_ ((by rw [hg]; exact (bZ_ (by repeat (with_reducible first | exact HB.out | apply bA_ | apply bN_ | apply bD_ | refine bS_ ?_ GE157.out))) : w.heap.size ≤ gb158)); have n5_ := aM_ ((by rw [hg]; exact Nat.ne_of_lt (kL_ (g := gb157) (o := .cells #[.slice A0_0 l0_0.length c0_0, .slice A0_1 l0_1.length c0_1] 32 (0, 0)) (by (with_reducible repeat (first | refine kN_ ?_ _ | refine kD_ ?_ | refine kA_ ?_ _)); exact BK157.out)) : gb157 ≠ gb158)); have n6_ := aM_ ((by rw [hg]; exact Nat.ne_of_gt (kL_ (g := gb157) (o := .cells #[.slice A0_0 l0_0.length c0_0, .slice A0_1 l0_1.length c0_1] 32 (0, 0)) (by (with_reducible repeat (first | refine kN_ ?_ _ | refine kD_ ?_ | refine kA_ ?_ _)); exact BK157.out)) : gb158 ≠ gb157)); clear BK157; clear HB; have BK157 := n0_; have HB := n1_; have BK158 := n2_; have GW158 := n3_; have GE158 := n4_; have NB157_158 := n5_; have NB158_157 := n6_; clear n0_ n1_ n2_ n3_ n4_ n5_ n6_; clear hb hbox hg; have hnb112 := NB157_158.out; have hnc112 := NB158_157.out; have hcz113_0 : w111.cell? ⟨gb157, 0, none⟩ = some (.slice A0_0 l0_0.length c0_0) := (kC_ BK157.out 0).trans rfl; have hcz113_1 : w111.cell? ⟨gb157, 1, none⟩ = some (.slice A0_1 l0_1.length c0_1) := (kC_ BK157.out 1).trans rfl; have hfz113_0 := kZ_ BK157.out 0; have hfz113_1 := kZ_ BK157.out 1) | ((with_reducible refine gate_callee (f := 14) rfl ?_); refine goesL_ (some 12) rfl rfl Try.func14 (by kernel_rfl) rfl #[.agg #[.slice A0_0 l0_0.length c0_0, .slice A0_1 l0_1.length c0_1], .int .i64 1048576] rfl (by (try simp only [List.map_toArray, List.map_cons, List.map_nil]); first | done | rfl | (simp only [List.length_drop, List.length_take]; rfl)) ?_; (with_reducible refine (laws_szDevice.calls k _ _ l0_0 _ _ l0_1 1048576 t159 _ ?side1 ?side2 ?side3 ?side4 A3.out).mono ?_); (case side1 => repeat (first | exact (cB_ HR0_0.out HB.out) | (with_reducible refine cA_ ?_ _) | (with_reducible refine cN_ ?_ _) | (with_reducible refine cD_ ?_))); (case side2 => exact HC0_0.out); (case side3 => repeat (first | exact (cB_ HR0_1.out HB.out) | (with_reducible refine cA_ ?_ _) | (with_reducible refine cN_ ?_ _) | (with_reducible refine cD_ ?_))); (case side4 => exact HC0_1.out); rintro e w114 ⟨rfl, hb⟩; refine ⟨_, rfl, ?_⟩; have n0_ := aM_ (kB_ (g := gb157) (o := .cells #[.slice A0_0 l0_0.length c0_0, .slice A0_1 l0_1.length c0_1] 32 (0, 0)) (by (with_reducible repeat (first | refine kN_ ?_ _ | refine kD_ ?_ | refine kA_ ?_ _)); exact BK157.out) hb); have n1_ := aM_ (kB_ (g := gb158) (o := .cells #[.slice A1_0 l1_0.length c1_0, .slice A1_1 l1_1.length c1_1] 32 (0, 0)) (by (with_reducible repeat (first | refine kN_ ?_ _ | refine kD_ ?_ | refine kA_ ?_ _)); exact BK158.out) hb); have n2_ := aM_ (bP_ (by repeat (with_reducible first | exact HB.out | apply bA_ | apply bN_ | apply bD_ | refine bS_ ?_ GE157.out | refine bS_ ?_ GE158.out)) hb); clear BK157; clear BK158; clear HB; have BK157 := n0_; have BK158 := n1_; have HB := n2_; clear n0_ n1_ n2_; (try clear hb); (try clear hb2); (try clear hk); (try clear hi); have hcz115_0 : w114.cell? ⟨gb158, 0, none⟩ = some (.slice A1_0 l1_0.length c1_0) := (kC_ BK158.out 0).trans rfl; have hcz115_1 : w114.cell? ⟨gb158, 1, none⟩ = some (.slice A1_1 l1_1.length c1_1) := (kC_ BK158.out 1).trans rfl; have hfz115_0 := kZ_ BK158.out 0; have hfz115_1 := kZ_ BK158.out 1) | ((with_reducible refine gate_callee (f := 14) rfl ?_); refine goesL_ (some 17) rfl rfl Try.func14 (by kernel_rfl) rfl #[.agg #[.slice A1_0 l1_0.length c1_0, .slice A1_1 l1_1.length c1_1], .int .i64 t159] rfl (by (try simp only [List.map_toArray, List.map_cons, List.map_nil]); first | done | rfl | (simp only [List.length_drop, List.length_take]; rfl)) ?_; (with_reducible refine (laws_szDevice.calls k _ _ l1_0 _ _ l1_1 t159 t160 _ ?side1 ?side2 ?side3 ?side4 A10.out).mono ?_); (case side1 => repeat (first | exact (cB_ HR1_0.out HB.out) | (with_reducible refine cA_ ?_ _) | (with_reducible refine cN_ ?_ _) | (with_reducible refine cD_ ?_))); (case side2 => exact HC1_0.out); (case side3 => repeat (first | exact (cB_ HR1_1.out HB.out) | (with_reducible refine cA_ ?_ _) | (with_reducible refine cN_ ?_ _) | (with_reducible refine cD_ ?_))); (case side4 => exact HC1_1.out); rintro e w116 ⟨rfl, hb⟩; refine ⟨_, rfl, ?_⟩; have n0_ := aM_ (kB_ (g := gb157) (o := .cells #[.slice A0_0 l0_0.length c0_0, .slice A0_1 l0_1.length c0_1] 32 (0, 0)) (by (with_reducible repeat (first | refine kN_ ?_ _ | refine kD_ ?_ | refine kA_ ?_ _)); exact BK157.out) hb); have n1_ := aM_ (kB_ (g := gb158) (o := .cells #[.slice A1_0 l1_0.length c1_0, .slice A1_1 l1_1.length c1_1] 32 (0, 0)) (by (with_reducible repeat (first | refine kN_ ?_ _ | refine kD_ ?_ | refine kA_ ?_ _)); exact BK158.out) hb); have n2_ := aM_ (bP_ (by repeat (with_reducible first | exact HB.out | apply bA_ | apply bN_ | apply bD_ | refine bS_ ?_ GE157.out | refine bS_ ?_ GE158.out)) hb); clear BK157; clear BK158; clear HB; have BK157 := n0_; have BK158 := n1_; have HB := n2_; clear n0_ n1_ n2_; (try clear hb); (try clear hb2); (try clear hk); (try clear hi)))
      have n0_ := aM_ (kD_ BK157.out)
      have n1_ := aM_ (kD_ BK158.out)
      have n2_ := aM_ (bD_ HB.out)
      clear BK157
      clear BK158
      clear HB
      have BK157 := n0_
      have BK158 := n1_
      have HB := n2_
      clear n0_ n1_ n2_
      refine start_ (n := 6) (S := fun w' => w'.cell? ⟨gb157, 0, none⟩ = some (.slice A0_0 l0_0.length c0_0) ∧ w'.cell? ⟨gb157, 1, none⟩ = some (.slice A0_1 l0_1.length c0_1) ∧ w'.cell? ⟨gb158, 0, none⟩ = some (.slice A1_0 l1_0.length c1_0) ∧ w'.cell? ⟨gb158, 1, none⟩ = some (.slice A1_1 l1_1.length c1_1)) (ds := []) #[false, false, false, false, false, false] (by kernel_rfl) rfl rfl ⟨(kC_ BK157.out 0).trans rfl, (kC_ BK157.out 1).trans rfl, (kC_ BK158.out 0).trans rfl, (kC_ BK158.out 1).trans rfl⟩ (fun hHeld => ?_)
      generalize w116.drew = w117 at BK157 BK158 HB hHeld ⊢
      refine take_ (i := 0) (N := some 20) (v := ?_) (a' := ?_) #[true, false, false, false, false, false] rfl rfl (by kernel_rfl) (fun _ _ _ h => h) (Or.inl ⟨by rfl, ?_⟩) hHeld ?_ ?_
      rotate_left
      ·rintro w' ⟨s0, s1, s2, s3⟩
       go_simp
       with_reducible rfl
      rotate_left
      ·simp only [Act.put, List.setIfInBounds_toArray, List.set_cons_zero, List.set_cons_succ, i64_w, i32_w]
       rfl
      refine take_ (i := 2) (N := some 22) (v := ?_) (a' := ?_) #[true, false, true, false, false, false] rfl rfl (by kernel_rfl) (fun _ _ _ h => h) (Or.inl ⟨by rfl, ?_⟩) hHeld ?_ ?_
      rotate_left
      ·rintro w' ⟨s0, s1, s2, s3⟩
       go_simp
       with_reducible rfl
      rotate_left
      ·simp only [Act.put, List.setIfInBounds_toArray, List.set_cons_zero, List.set_cons_succ, i64_w, i32_w]
       rfl
      refine one_ (i := 1) (N := some 21) #[true, true, true, false, false, false] rfl rfl (by kernel_rfl) (by decide) (fun K hK => ?_)
      refine goes_ Try.func16 (by kernel_rfl) rfl #[.agg #[.slice A0_0 l0_0.length c0_0, .slice A0_1 l0_1.length c0_1]] (by rfl) rfl rfl (by (try simp only [List.map_toArray, List.map_cons, List.map_nil]); first | done | rfl | (simp only [List.length_drop, List.length_take]; rfl)) ?_
      with_reducible refine (laws_toDevice.calls k _ _ l0_0 _ _ l0_1 t161 t164 _ ?side1 ?side2 ?side3 ?side4 A19.out).mono ?_
      (case side1 => repeat (first | exact (cB_ HR0_0.out HB.out) | (with_reducible refine cA_ ?_ _) | (with_reducible refine cN_ ?_ _) | (with_reducible refine cD_ ?_)))
      (case side2 => exact HC0_0.out)
      (case side3 => repeat (first | exact (cB_ HR0_1.out HB.out) | (with_reducible refine cA_ ?_ _) | (with_reducible refine cN_ ?_ _) | (with_reducible refine cD_ ?_)))
      (case side4 => exact HC0_1.out)
      rintro e w118 ⟨v162, v165, rfl, ho0, ho1, hb⟩
      refine ⟨_, rfl, ?_⟩
      have n0_ := aM_ (rO_ ho0 (bZ_ (by repeat (with_reducible first | exact HB.out | apply bA_ | apply bN_ | apply bD_ | refine bS_ ?_ GE157.out | refine bS_ ?_ GE158.out))))
      have n1_ := aM_ (rO_ ho1 (bZ_ (by repeat (with_reducible first | exact HB.out | apply bA_ | apply bN_ | apply bD_ | refine bS_ ?_ GE157.out | refine bS_ ?_ GE158.out))))
      have n2_ := aM_ (kB_ (g := gb157) (o := .cells #[.slice A0_0 l0_0.length c0_0, .slice A0_1 l0_1.length c0_1] 32 (0, 0)) (by (with_reducible repeat (first | refine kN_ ?_ _ | refine kD_ ?_ | refine kA_ ?_ _)); exact BK157.out) hb)
      have n3_ := aM_ (kB_ (g := gb158) (o := .cells #[.slice A1_0 l1_0.length c1_0, .slice A1_1 l1_1.length c1_1] 32 (0, 0)) (by (with_reducible repeat (first | refine kN_ ?_ _ | refine kD_ ?_ | refine kA_ ?_ _)); exact BK158.out) hb)
      have n4_ := aM_ (bP_ (by repeat (with_reducible first | exact HB.out | apply bA_ | apply bN_ | apply bD_ | refine bS_ ?_ GE157.out | refine bS_ ?_ GE158.out)) hb)
      clear BK157
      clear BK158
      clear HB
      have HO163 := n0_
      have HO166 := n1_
      have BK157 := n2_
      have BK158 := n3_
      have HB := n4_
      clear n0_ n1_ n2_ n3_ n4_
      (try clear hb)
      (try clear hb2)
      (try clear hk)
      (try clear hi)
      (try clear ho0)
      (try clear ho1)
      refine hK.out _ _ ⟨(kC_ BK157.out 0).trans rfl, (kC_ BK157.out 1).trans rfl, (kC_ BK158.out 0).trans rfl, (kC_ BK158.out 1).trans rfl⟩ (fun hHeld => ?_)
      clear hK K
      refine norm_ (a' := ?_) ?_ ?_
      rotate_left
      ·show Act.put _ (some 21) _ = _
       simp only [Act.put, List.setIfInBounds_toArray, List.set_cons_zero, List.set_cons_succ, i64_w, i32_w]
       rfl
      refine one_ (i := 3) (N := some 23) #[true, true, true, true, false, false] rfl rfl (by kernel_rfl) (by decide) (fun K hK => ?_)
      refine goes_ Try.func16 (by kernel_rfl) rfl #[.agg #[.slice A1_0 l1_0.length c1_0, .slice A1_1 l1_1.length c1_1]] (by rfl) rfl rfl (by (try simp only [List.map_toArray, List.map_cons, List.map_nil]); first | done | rfl | (simp only [List.length_drop, List.length_take]; rfl)) ?_
      with_reducible refine (laws_toDevice.calls k _ _ l1_0 _ _ l1_1 t167 t170 _ ?side1 ?side2 ?side3 ?side4 A20.out).mono ?_
      (case side1 => repeat (first | exact (cB_ HR1_0.out HB.out) | (with_reducible refine cA_ ?_ _) | (with_reducible refine cN_ ?_ _) | (with_reducible refine cD_ ?_)))
      (case side2 => exact HC1_0.out)
      (case side3 => repeat (first | exact (cB_ HR1_1.out HB.out) | (with_reducible refine cA_ ?_ _) | (with_reducible refine cN_ ?_ _) | (with_reducible refine cD_ ?_)))
      (case side4 => exact HC1_1.out)
      rintro e w119 ⟨v168, v171, rfl, ho0, ho1, hb⟩
      refine ⟨_, rfl, ?_⟩
      have n0_ := aM_ (rE_ (by (with_reducible repeat (first | apply rA_ | apply rN_)); exact HO163.out) (rS_ ho0) hb)
      have n1_ := aM_ (rE_ (by (with_reducible repeat (first | apply rA_ | apply rN_)); exact HO166.out) (rS_ ho1) hb)
      have n2_ := aM_ (rO_ (rW_ ho0 (rL_ (by (with_reducible repeat (first | apply rA_ | apply rN_)); exact HO163.out))) (bZ_ (by repeat (with_reducible first | exact HB.out | apply bA_ | apply bN_ | apply bD_ | refine bS_ ?_ GE157.out | refine bS_ ?_ GE158.out))))
      have n3_ := aM_ (rO_ (rW_ ho1 (rL_ (by (with_reducible repeat (first | apply rA_ | apply rN_)); exact HO166.out))) (bZ_ (by repeat (with_reducible first | exact HB.out | apply bA_ | apply bN_ | apply bD_ | refine bS_ ?_ GE157.out | refine bS_ ?_ GE158.out))))
      have n4_ := aM_ (kB_ (g := gb157) (o := .cells #[.slice A0_0 l0_0.length c0_0, .slice A0_1 l0_1.length c0_1] 32 (0, 0)) (by (with_reducible repeat (first | refine kN_ ?_ _ | refine kD_ ?_ | refine kA_ ?_ _)); exact BK157.out) hb)
      have n5_ := aM_ (kB_ (g := gb158) (o := .cells #[.slice A1_0 l1_0.length c1_0, .slice A1_1 l1_1.length c1_1] 32 (0, 0)) (by (with_reducible repeat (first | refine kN_ ?_ _ | refine kD_ ?_ | refine kA_ ?_ _)); exact BK158.out) hb)
      have n6_ := aM_ (bP_ (by repeat (with_reducible first | exact HB.out | apply bA_ | apply bN_ | apply bD_ | refine bS_ ?_ GE157.out | refine bS_ ?_ GE158.out)) hb)
      clear HO163
      clear HO166
      clear BK157
      clear BK158
      clear HB
      have HO163 := n0_
      have HO166 := n1_
      have HO169 := n2_
      have HO172 := n3_
      have BK157 := n4_
      have BK158 := n5_
      have HB := n6_
      clear n0_ n1_ n2_ n3_ n4_ n5_ n6_
      (try clear hb)
      (try clear hb2)
      (try clear hk)
      (try clear hi)
      (try clear ho0)
      (try clear ho1)
      obtain ⟨Ao120, co120, eo120⟩ := Kd.R_slice HO163.out
      (first | subst eo120 | (injection eo120 with f1_ f2_ f3_; have f4_ := f1_.symm; have f5_ := f3_.symm; clear f1_ f2_ f3_; subst f4_; subst f5_))
      obtain ⟨Ao121, co121, eo121⟩ := Kd.R_slice HO166.out
      (first | subst eo121 | (injection eo121 with f1_ f2_ f3_; have f4_ := f1_.symm; have f5_ := f3_.symm; clear f1_ f2_ f3_; subst f4_; subst f5_))
      obtain ⟨Ao122, co122, eo122⟩ := Kd.R_slice HO169.out
      (first | subst eo122 | (injection eo122 with f1_ f2_ f3_; have f4_ := f1_.symm; have f5_ := f3_.symm; clear f1_ f2_ f3_; subst f4_; subst f5_))
      obtain ⟨Ao123, co123, eo123⟩ := Kd.R_slice HO172.out
      (first | subst eo123 | (injection eo123 with f1_ f2_ f3_; have f4_ := f1_.symm; have f5_ := f3_.symm; clear f1_ f2_ f3_; subst f4_; subst f5_))
      refine hK.out _ _ ⟨(kC_ BK157.out 0).trans rfl, (kC_ BK157.out 1).trans rfl, (kC_ BK158.out 0).trans rfl, (kC_ BK158.out 1).trans rfl⟩ (fun hHeld => ?_)
      clear hK K
      refine norm_ (a' := ?_) ?_ ?_
      rotate_left
      ·show Act.put _ (some 23) _ = _
       simp only [Act.put, List.setIfInBounds_toArray, List.set_cons_zero, List.set_cons_succ, i64_w, i32_w]
       rfl
      refine one_ (i := 4) (N := some 24) #[true, true, true, true, true, false] rfl rfl (by kernel_rfl) (by decide) (fun K hK => ?_)
      refine goes_ Try.func15 (by kernel_rfl) rfl #[.agg #[.slice Ao120 t161.length co120, .slice Ao121 t164.length co121], .agg #[.slice Ao122 t167.length co122, .slice Ao123 t170.length co123]] (by rfl) rfl rfl (by (try simp only [List.map_toArray, List.map_cons, List.map_nil]); first | done | rfl | (simp only [List.length_drop, List.length_take]; rfl)) ?_
      with_reducible refine (spec_SameDevice.calls k _ _ t161 _ _ t164 _ _ t167 _ _ t170 t173 _ ?side1 ?side2 ?side3 ?side4 ?side5 ?side6 ?side7 ?side8 A21.out).mono ?_
      (case side1 => repeat (first | exact (rR_ HO163.out).2.2 | (with_reducible refine cA_ ?_ _) | (with_reducible refine cN_ ?_ _) | (with_reducible refine cD_ ?_)))
      (case side2 => exact (rR_ HO163.out).2.1)
      (case side3 => repeat (first | exact (rR_ HO166.out).2.2 | (with_reducible refine cA_ ?_ _) | (with_reducible refine cN_ ?_ _) | (with_reducible refine cD_ ?_)))
      (case side4 => exact (rR_ HO166.out).2.1)
      (case side5 => repeat (first | exact (rR_ HO169.out).2.2 | (with_reducible refine cA_ ?_ _) | (with_reducible refine cN_ ?_ _) | (with_reducible refine cD_ ?_)))
      (case side6 => exact (rR_ HO169.out).2.1)
      (case side7 => repeat (first | exact (rR_ HO172.out).2.2 | (with_reducible refine cA_ ?_ _) | (with_reducible refine cN_ ?_ _) | (with_reducible refine cD_ ?_)))
      (case side8 => exact (rR_ HO172.out).2.1)
      rintro e w124 ⟨rfl, hb⟩
      refine ⟨_, rfl, ?_⟩
      have n0_ := aM_ (rB_ (by (with_reducible repeat (first | apply rA_ | apply rN_)); exact HO163.out) hb)
      have n1_ := aM_ (rB_ (by (with_reducible repeat (first | apply rA_ | apply rN_)); exact HO166.out) hb)
      have n2_ := aM_ (rB_ (by (with_reducible repeat (first | apply rA_ | apply rN_)); exact HO169.out) hb)
      have n3_ := aM_ (rB_ (by (with_reducible repeat (first | apply rA_ | apply rN_)); exact HO172.out) hb)
      have n4_ := aM_ (kB_ (g := gb157) (o := .cells #[.slice A0_0 l0_0.length c0_0, .slice A0_1 l0_1.length c0_1] 32 (0, 0)) (by (with_reducible repeat (first | refine kN_ ?_ _ | refine kD_ ?_ | refine kA_ ?_ _)); exact BK157.out) hb)
      have n5_ := aM_ (kB_ (g := gb158) (o := .cells #[.slice A1_0 l1_0.length c1_0, .slice A1_1 l1_1.length c1_1] 32 (0, 0)) (by (with_reducible repeat (first | refine kN_ ?_ _ | refine kD_ ?_ | refine kA_ ?_ _)); exact BK158.out) hb)
      have n6_ := aM_ (bP_ (by repeat (with_reducible first | exact HB.out | apply bA_ | apply bN_ | apply bD_ | refine bS_ ?_ GE157.out | refine bS_ ?_ GE158.out)) hb)
      clear HO163
      clear HO166
      clear HO169
      clear HO172
      clear BK157
      clear BK158
      clear HB
      have HO163 := n0_
      have HO166 := n1_
      have HO169 := n2_
      have HO172 := n3_
      have BK157 := n4_
      have BK158 := n5_
      have HB := n6_
      clear n0_ n1_ n2_ n3_ n4_ n5_ n6_
      (try clear hb)
      (try clear hb2)
      (try clear hk)
      (try clear hi)
      refine hK.out _ _ ⟨(kC_ BK157.out 0).trans rfl, (kC_ BK157.out 1).trans rfl, (kC_ BK158.out 0).trans rfl, (kC_ BK158.out 1).trans rfl⟩ (fun hHeld => ?_)
      clear hK K
      refine norm_ (a' := ?_) ?_ ?_
      rotate_left
      ·show Act.put _ (some 24) _ = _
       simp only [Act.put, List.setIfInBounds_toArray, List.set_cons_zero, List.set_cons_succ, i64_w, i32_w]
       rfl
      refine pure_ (i := 5) (N := some 6) (v := ?_) (a' := ?_) #[true, true, true, true, true, true] rfl rfl (by kernel_rfl) (fun _ _ _ h => h) (Or.inl ⟨by rfl, ?_⟩) ?_ ?_
      rotate_left
      ·intro w'
       go_simp
       with_reducible rfl
      rotate_left
      ·simp only [Act.put, List.setIfInBounds_toArray, List.set_cons_zero, List.set_cons_succ, i64_w, i32_w]
       rfl
      refine done_ (by kernel_rfl) ?_
      have hcz125_0 : w124.cell? ⟨gb157, 0, none⟩ = some (.slice A0_0 l0_0.length c0_0) := (kC_ BK157.out 0).trans rfl
      have hcz125_1 : w124.cell? ⟨gb157, 1, none⟩ = some (.slice A0_1 l0_1.length c0_1) := (kC_ BK157.out 1).trans rfl
      have hfz125_0 := kZ_ BK157.out 0
      have hfz125_1 := kZ_ BK157.out 1
      try go_wp2_with (first | ((with_reducible refine gate_callee (f := 16) rfl ?_); refine goesL_ (some 26) rfl rfl Try.func16 (by kernel_rfl) rfl #[.agg #[.slice A0_0 l0_0.length c0_0, .slice A0_1 l0_1.length c0_1]] rfl (by (try simp only [List.map_toArray, List.map_cons, List.map_nil]); first | done | rfl | (simp only [List.length_drop, List.length_take]; rfl)) ?_; (with_reducible refine (laws_toDevice.calls k _ _ l0_0 _ _ l0_1 t174 t177 _ ?side1 ?side2 ?side3 ?side4 A22.out).mono ?_); (case side1 => repeat (first | exact (cB_ HR0_0.out HB.out) | (with_reducible refine cA_ ?_ _) | (with_reducible refine cN_ ?_ _) | (with_reducible refine cD_ ?_))); (case side2 => exact HC0_0.out); (case side3 => repeat (first | exact (cB_ HR0_1.out HB.out) | (with_reducible refine cA_ ?_ _) | (with_reducible refine cN_ ?_ _) | (with_reducible refine cD_ ?_))); (case side4 => exact HC0_1.out); rintro e w126 ⟨v175, v178, rfl, ho0, ho1, hb⟩; refine ⟨_, rfl, ?_⟩; have n0_ := aM_ (rE_ (by (with_reducible repeat (first | apply rA_ | apply rN_)); exact HO163.out) (rS_ ho0) hb); have n1_ := aM_ (rE_ (by (with_reducible repeat (first | apply rA_ | apply rN_)); exact HO166.out) (rS_ ho1) hb); have n2_ := aM_ (rE_ (by (with_reducible repeat (first | apply rA_ | apply rN_)); exact HO169.out) (rS_ ho0) hb); have n3_ := aM_ (rE_ (by (with_reducible repeat (first | apply rA_ | apply rN_)); exact HO172.out) (rS_ ho1) hb); have n4_ := aM_ (rO_ (rW_ (rW_ ho0 (rL_ (by (with_reducible repeat (first | apply rA_ | apply rN_)); exact HO163.out))) (rL_ (by (with_reducible repeat (first | apply rA_ | apply rN_)); exact HO169.out))) (bZ_ (by repeat (with_reducible first | exact HB.out | apply bA_ | apply bN_ | apply bD_ | refine bS_ ?_ GE157.out | refine bS_ ?_ GE158.out)))); have n5_ := aM_ (rO_ (rW_ (rW_ ho1 (rL_ (by (with_reducible repeat (first | apply rA_ | apply rN_)); exact HO166.out))) (rL_ (by (with_reducible repeat (first | apply rA_ | apply rN_)); exact HO172.out))) (bZ_ (by repeat (with_reducible first | exact HB.out | apply bA_ | apply bN_ | apply bD_ | refine bS_ ?_ GE157.out | refine bS_ ?_ GE158.out)))); have n6_ := aM_ (kB_ (g := gb157) (o := .cells #[.slice A0_0 l0_0.length c0_0, .slice A0_1 l0_1.length c0_1] 32 (0, 0)) (by (with_reducible repeat (first | refine kN_ ?_ _ | refine kD_ ?_ | refine kA_ ?_ _)); exact BK157.out) hb); have n7_ := aM_ (kB_ (g := gb158) (o := .cells #[.slice A1_0 l1_0.length c1_0, .slice A1_1 l1_1.length c1_1] 32 (0, 0)) (by (with_reducible repeat (first | refine kN_ ?_ _ | refine kD_ ?_ | refine kA_ ?_ _)); exact BK158.out) hb); have n8_ := aM_ (bP_ (by repeat (with_reducible first | exact HB.out | apply bA_ | apply bN_ | apply bD_ | refine bS_ ?_ GE157.out | refine bS_ ?_ GE158.out)) hb); clear HO163; clear HO166; clear HO169; clear HO172; clear BK157; clear BK158; clear HB; have HO163 := n0_; have HO166 := n1_; have HO169 := n2_; have HO172 := n3_; have HO176 := n4_; have HO179 := n5_; have BK157 := n6_; have BK158 := n7_; have HB := n8_; clear n0_ n1_ n2_ n3_ n4_ n5_ n6_ n7_ n8_; (try clear hb); (try clear hb2); (try clear hk); (try clear hi); (try clear ho0); (try clear ho1)) | ((with_reducible refine gate_dst (N := 7) rfl ?_); refine box_event ?hg (N := 7) ?hd (cs := #[.slice none 0 0, .slice none 0 0]) (t := 25) ?hr ?_; (case hd => rfl); (case hg => rfl); (case hr => first | (go_simp; done) | (go_simp; rfl)); intro gb180 hg w127 hbox hb; have n0_ := aM_ (rB_ (by (with_reducible repeat (first | apply rA_ | apply rN_)); exact HO163.out) hb); have n1_ := aM_ (rB_ (by (with_reducible repeat (first | apply rA_ | apply rN_)); exact HO166.out) hb); have n2_ := aM_ (rB_ (by (with_reducible repeat (first | apply rA_ | apply rN_)); exact HO169.out) hb); have n3_ := aM_ (rB_ (by (with_reducible repeat (first | apply rA_ | apply rN_)); exact HO172.out) hb); have n4_ := aM_ (rB_ (by (with_reducible repeat (first | apply rA_ | apply rN_)); exact HO176.out) hb); have n5_ := aM_ (rB_ (by (with_reducible repeat (first | apply rA_ | apply rN_)); exact HO179.out) hb); have n6_ := aM_ (kB_ (g := gb157) (o := .cells #[.slice A0_0 l0_0.length c0_0, .slice A0_1 l0_1.length c0_1] 32 (0, 0)) (by (with_reducible repeat (first | refine kN_ ?_ _ | refine kD_ ?_ | refine kA_ ?_ _)); exact BK157.out) hb); have n7_ := aM_ (kB_ (g := gb158) (o := .cells #[.slice A1_0 l1_0.length c1_0, .slice A1_1 l1_1.length c1_1] 32 (0, 0)) (by (with_reducible repeat (first | refine kN_ ?_ _ | refine kD_ ?_ | refine kA_ ?_ _)); exact BK158.out) hb); have n8_ := aM_ (bP_ (by repeat (with_reducible first | exact HB.out | apply bA_ | apply bN_ | apply bD_ | refine bS_ ?_ GE157.out | refine bS_ ?_ GE158.out)) hb); have n9_ := aM_ (hbox); have n10_ := aM_ ((by rw [hg]; exact (bZ_ (by repeat (with_reducible first | exact HB.out | apply bA_ | apply bN_ | apply bD_ | refine bS_ ?_ GE157.out | refine bS_ ?_ GE158.out))) : w.heap.size ≤ gb180)); have n11_ := aM_ ((by rw [hg]; exact (bZ_ (by repeat (with_reducible first | exact HB.out | apply bA_ | apply bN_ | apply bD_ | refine bS_ ?_ GE157.out | refine bS_ ?_ GE158.out))) : w.heap.size ≤ gb180)); have n12_ := aM_ ((by rw [hg]; exact Nat.ne_of_lt (kL_ (g := gb157) (o := .cells #[.slice A0_0 l0_0.length c0_0, .slice A0_1 l0_1.length c0_1] 32 (0, 0)) (by (with_reducible repeat (first | refine kN_ ?_ _ | refine kD_ ?_ | refine kA_ ?_ _)); exact BK157.out)) : gb157 ≠ gb180)); have n13_ := aM_ ((by rw [hg]; exact Nat.ne_of_gt (kL_ (g := gb157) (o := .cells #[.slice A0_0 l0_0.length c0_0, .slice A0_1 l0_1.length c0_1] 32 (0, 0)) (by (with_reducible repeat (first | refine kN_ ?_ _ | refine kD_ ?_ | refine kA_ ?_ _)); exact BK157.out)) : gb180 ≠ gb157)); have n14_ := aM_ ((by rw [hg]; exact Nat.ne_of_lt (kL_ (g := gb158) (o := .cells #[.slice A1_0 l1_0.length c1_0, .slice A1_1 l1_1.length c1_1] 32 (0, 0)) (by (with_reducible repeat (first | refine kN_ ?_ _ | refine kD_ ?_ | refine kA_ ?_ _)); exact BK158.out)) : gb158 ≠ gb180)); have n15_ := aM_ ((by rw [hg]; exact Nat.ne_of_gt (kL_ (g := gb158) (o := .cells #[.slice A1_0 l1_0.length c1_0, .slice A1_1 l1_1.length c1_1] 32 (0, 0)) (by (with_reducible repeat (first | refine kN_ ?_ _ | refine kD_ ?_ | refine kA_ ?_ _)); exact BK158.out)) : gb180 ≠ gb158)); clear HO163; clear HO166; clear HO169; clear HO172; clear HO176; clear HO179; clear BK157; clear BK158; clear HB; have HO163 := n0_; have HO166 := n1_; have HO169 := n2_; have HO172 := n3_; have HO176 := n4_; have HO179 := n5_; have BK157 := n6_; have BK158 := n7_; have HB := n8_; have BK180 := n9_; have GW180 := n10_; have GE180 := n11_; have NB157_180 := n12_; have NB180_157 := n13_; have NB158_180 := n14_; have NB180_158 := n15_; clear n0_ n1_ n2_ n3_ n4_ n5_ n6_ n7_ n8_ n9_ n10_ n11_ n12_ n13_ n14_ n15_; clear hb hbox hg; obtain ⟨Ao128, co128, eo128⟩ := Kd.R_slice HO176.out; subst eo128; have hnb129 := NB180_157.out; have hnc129 := NB157_180.out; have hnb130 := NB180_158.out; have hnc130 := NB158_180.out; have hcz131_0 : w127.cell? ⟨gb180, 0, none⟩ = some (.slice none 0 0) := (kC_ BK180.out 0).trans rfl; have hcz131_1 : w127.cell? ⟨gb180, 1, none⟩ = some (.slice none 0 0) := (kC_ BK180.out 1).trans rfl; have hfz131_0 := kZ_ BK180.out 0; have hfz131_1 := kZ_ BK180.out 1; obtain ⟨Ao132, co132, eo132⟩ := Kd.R_slice HO179.out; subst eo132; have hcz133_0 : w127.cell? ⟨gb158, 0, none⟩ = some (.slice A1_0 l1_0.length c1_0) := (kC_ BK158.out 0).trans rfl; have hcz133_1 : w127.cell? ⟨gb158, 1, none⟩ = some (.slice A1_1 l1_1.length c1_1) := (kC_ BK158.out 1).trans rfl; have hfz133_0 := kZ_ BK158.out 0; have hfz133_1 := kZ_ BK158.out 1) | ((with_reducible refine gate_callee (f := 16) rfl ?_); refine goesL_ (some 28) rfl rfl Try.func16 (by kernel_rfl) rfl #[.agg #[.slice A1_0 l1_0.length c1_0, .slice A1_1 l1_1.length c1_1]] rfl (by (try simp only [List.map_toArray, List.map_cons, List.map_nil]); first | done | rfl | (simp only [List.length_drop, List.length_take]; rfl)) ?_; (with_reducible refine (laws_toDevice.calls k _ _ l1_0 _ _ l1_1 t181 t184 _ ?side1 ?side2 ?side3 ?side4 A23.out).mono ?_); (case side1 => exact cB_ HR1_0.out (by repeat (with_reducible first | exact HB.out | apply bA_ | apply bN_ | apply bD_ | refine bS_ ?_ GE157.out | refine bS_ ?_ GE158.out | refine bS_ ?_ GE180.out))); (case side2 => exact HC1_0.out); (case side3 => exact cB_ HR1_1.out (by repeat (with_reducible first | exact HB.out | apply bA_ | apply bN_ | apply bD_ | refine bS_ ?_ GE157.out | refine bS_ ?_ GE158.out | refine bS_ ?_ GE180.out))); (case side4 => exact HC1_1.out); rintro e w134 ⟨v182, v185, rfl, ho0, ho1, hb⟩; refine ⟨_, rfl, ?_⟩; have n0_ := aM_ (rE_ (by (with_reducible repeat (first | apply rA_ | apply rN_)); exact (rM_ (rF_ (p := ⟨gb180, 1, none⟩) (rF_ (p := ⟨gb180, 0, none⟩) (rT_ HO163.out BK180.out (by decide)) (fun _ hk => hk.2) (.slice Ao128 t174.length co128)) (fun _ hk => hk.2) (.slice Ao132 t177.length co132)) (fun _ h_ => h_.1))) (rS_ ho0) hb); have n1_ := aM_ (rE_ (by (with_reducible repeat (first | apply rA_ | apply rN_)); exact (rM_ (rF_ (p := ⟨gb180, 1, none⟩) (rF_ (p := ⟨gb180, 0, none⟩) (rT_ HO166.out BK180.out (by decide)) (fun _ hk => hk.2) (.slice Ao128 t174.length co128)) (fun _ hk => hk.2) (.slice Ao132 t177.length co132)) (fun _ h_ => h_.1))) (rS_ ho1) hb); have n2_ := aM_ (rE_ (by (with_reducible repeat (first | apply rA_ | apply rN_)); exact (rM_ (rF_ (p := ⟨gb180, 1, none⟩) (rF_ (p := ⟨gb180, 0, none⟩) (rT_ HO169.out BK180.out (by decide)) (fun _ hk => hk.2) (.slice Ao128 t174.length co128)) (fun _ hk => hk.2) (.slice Ao132 t177.length co132)) (fun _ h_ => h_.1))) (rS_ ho0) hb); have n3_ := aM_ (rE_ (by (with_reducible repeat (first | apply rA_ | apply rN_)); exact (rM_ (rF_ (p := ⟨gb180, 1, none⟩) (rF_ (p := ⟨gb180, 0, none⟩) (rT_ HO172.out BK180.out (by decide)) (fun _ hk => hk.2) (.slice Ao128 t174.length co128)) (fun _ hk => hk.2) (.slice Ao132 t177.length co132)) (fun _ h_ => h_.1))) (rS_ ho1) hb); have n4_ := aM_ (rE_ (by (with_reducible repeat (first | apply rA_ | apply rN_)); exact (rM_ (rF_ (p := ⟨gb180, 1, none⟩) (rF_ (p := ⟨gb180, 0, none⟩) (rT_ HO176.out BK180.out (by decide)) (fun _ hk => hk.2) (.slice Ao128 t174.length co128)) (fun _ hk => hk.2) (.slice Ao132 t177.length co132)) (fun _ h_ => h_.1))) (rS_ ho0) hb); have n5_ := aM_ (rE_ (by (with_reducible repeat (first | apply rA_ | apply rN_)); exact (rM_ (rF_ (p := ⟨gb180, 1, none⟩) (rF_ (p := ⟨gb180, 0, none⟩) (rT_ HO179.out BK180.out (by decide)) (fun _ hk => hk.2) (.slice Ao128 t174.length co128)) (fun _ hk => hk.2) (.slice Ao132 t177.length co132)) (fun _ h_ => h_.1))) (rS_ ho1) hb); have n6_ := aM_ (rO_ (rW_ (rW_ (rW_ ho0 (rL_ (by (with_reducible repeat (first | apply rA_ | apply rN_)); exact (rM_ (rF_ (p := ⟨gb180, 1, none⟩) (rF_ (p := ⟨gb180, 0, none⟩) (rT_ HO163.out BK180.out (by decide)) (fun _ hk => hk.2) (.slice Ao128 t174.length co128)) (fun _ hk => hk.2) (.slice Ao132 t177.length co132)) (fun _ h_ => h_.1))))) (rL_ (by (with_reducible repeat (first | apply rA_ | apply rN_)); exact (rM_ (rF_ (p := ⟨gb180, 1, none⟩) (rF_ (p := ⟨gb180, 0, none⟩) (rT_ HO169.out BK180.out (by decide)) (fun _ hk => hk.2) (.slice Ao128 t174.length co128)) (fun _ hk => hk.2) (.slice Ao132 t177.length co132)) (fun _ h_ => h_.1))))) (rL_ (by (with_reducible repeat (first | apply rA_ | apply rN_)); exact (rM_ (rF_ (p := ⟨gb180, 1, none⟩) (rF_ (p := ⟨gb180, 0, none⟩) (rT_ HO176.out BK180.out (by decide)) (fun _ hk => hk.2) (.slice Ao128 t174.length co128)) (fun _ hk => hk.2) (.slice Ao132 t177.length co132)) (fun _ h_ => h_.1))))) (bZ_ (by repeat (with_reducible first | exact HB.out | apply bA_ | apply bN_ | apply bD_ | refine bS_ ?_ GE157.out | refine bS_ ?_ GE158.out | refine bS_ ?_ GE180.out)))); have n7_ := aM_ (rO_ (rW_ (rW_ (rW_ ho1 (rL_ (by (with_reducible repeat (first | apply rA_ | apply rN_)); exact (rM_ (rF_ (p := ⟨gb180, 1, none⟩) (rF_ (p := ⟨gb180, 0, none⟩) (rT_ HO166.out BK180.out (by decide)) (fun _ hk => hk.2) (.slice Ao128 t174.length co128)) (fun _ hk => hk.2) (.slice Ao132 t177.length co132)) (fun _ h_ => h_.1))))) (rL_ (by (with_reducible repeat (first | apply rA_ | apply rN_)); exact (rM_ (rF_ (p := ⟨gb180, 1, none⟩) (rF_ (p := ⟨gb180, 0, none⟩) (rT_ HO172.out BK180.out (by decide)) (fun _ hk => hk.2) (.slice Ao128 t174.length co128)) (fun _ hk => hk.2) (.slice Ao132 t177.length co132)) (fun _ h_ => h_.1))))) (rL_ (by (with_reducible repeat (first | apply rA_ | apply rN_)); exact (rM_ (rF_ (p := ⟨gb180, 1, none⟩) (rF_ (p := ⟨gb180, 0, none⟩) (rT_ HO179.out BK180.out (by decide)) (fun _ hk => hk.2) (.slice Ao128 t174.length co128)) (fun _ hk => hk.2) (.slice Ao132 t177.length co132)) (fun _ h_ => h_.1))))) (bZ_ (by repeat (with_reducible first | exact HB.out | apply bA_ | apply bN_ | apply bD_ | refine bS_ ?_ GE157.out | refine bS_ ?_ GE158.out | refine bS_ ?_ GE180.out)))); have n8_ := aM_ (kB_ (g := gb157) (o := .cells #[.slice A0_0 l0_0.length c0_0, .slice A0_1 l0_1.length c0_1] 32 (0, 0)) (by (with_reducible repeat (first | refine kN_ ?_ _ | refine kD_ ?_ | refine kA_ ?_ _)); refine kF_ ?_ NB157_180.out _; (with_reducible repeat (first | refine kN_ ?_ _ | refine kD_ ?_ | refine kA_ ?_ _)); refine kF_ ?_ NB157_180.out _; (with_reducible repeat (first | refine kN_ ?_ _ | refine kD_ ?_ | refine kA_ ?_ _)); exact BK157.out) hb); have n9_ := aM_ (kB_ (g := gb158) (o := .cells #[.slice A1_0 l1_0.length c1_0, .slice A1_1 l1_1.length c1_1] 32 (0, 0)) (by (with_reducible repeat (first | refine kN_ ?_ _ | refine kD_ ?_ | refine kA_ ?_ _)); refine kF_ ?_ NB158_180.out _; (with_reducible repeat (first | refine kN_ ?_ _ | refine kD_ ?_ | refine kA_ ?_ _)); refine kF_ ?_ NB158_180.out _; (with_reducible repeat (first | refine kN_ ?_ _ | refine kD_ ?_ | refine kA_ ?_ _)); exact BK158.out) hb); have n10_ := aM_ (kB_ (g := gb180) (o := .cells #[.slice Ao128 t174.length co128, .slice Ao132 t177.length co132] 25 (0, 0)) (by (with_reducible repeat (first | refine kN_ ?_ _ | refine kD_ ?_ | refine kA_ ?_ _)); refine blk_put (cs := #[.slice Ao128 t174.length co128, .slice none 0 0]) ?_ 1 _ rfl; (with_reducible repeat (first | refine kN_ ?_ _ | refine kD_ ?_ | refine kA_ ?_ _)); refine blk_put (cs := #[.slice none 0 0, .slice none 0 0]) ?_ 0 _ rfl; (with_reducible repeat (first | refine kN_ ?_ _ | refine kD_ ?_ | refine kA_ ?_ _)); exact BK180.out) hb); have n11_ := aM_ (bP_ (by repeat (with_reducible first | exact HB.out | apply bA_ | apply bN_ | apply bD_ | refine bS_ ?_ GE157.out | refine bS_ ?_ GE158.out | refine bS_ ?_ GE180.out)) hb); clear HO163; clear HO166; clear HO169; clear HO172; clear HO176; clear HO179; clear BK157; clear BK158; clear BK180; clear HB; have HO163 := n0_; have HO166 := n1_; have HO169 := n2_; have HO172 := n3_; have HO176 := n4_; have HO179 := n5_; have HO183 := n6_; have HO186 := n7_; have BK157 := n8_; have BK158 := n9_; have BK180 := n10_; have HB := n11_; clear n0_ n1_ n2_ n3_ n4_ n5_ n6_ n7_ n8_ n9_ n10_ n11_; (try clear hb); (try clear hb2); (try clear hk); (try clear hi); (try clear ho0); (try clear ho1)) | ((with_reducible refine gate_dst (N := 8) rfl ?_); refine box_event ?hg (N := 8) ?hd (cs := #[.slice none 0 0, .slice none 0 0]) (t := 25) ?hr ?_; (case hd => rfl); (case hg => rfl); (case hr => first | (go_simp; done) | (go_simp; rfl)); intro gb187 hg w135 hbox hb; have n0_ := aM_ (rB_ (by (with_reducible repeat (first | apply rA_ | apply rN_)); exact HO163.out) hb); have n1_ := aM_ (rB_ (by (with_reducible repeat (first | apply rA_ | apply rN_)); exact HO166.out) hb); have n2_ := aM_ (rB_ (by (with_reducible repeat (first | apply rA_ | apply rN_)); exact HO169.out) hb); have n3_ := aM_ (rB_ (by (with_reducible repeat (first | apply rA_ | apply rN_)); exact HO172.out) hb); have n4_ := aM_ (rB_ (by (with_reducible repeat (first | apply rA_ | apply rN_)); exact HO176.out) hb); have n5_ := aM_ (rB_ (by (with_reducible repeat (first | apply rA_ | apply rN_)); exact HO179.out) hb); have n6_ := aM_ (rB_ (by (with_reducible repeat (first | apply rA_ | apply rN_)); exact HO183.out) hb); have n7_ := aM_ (rB_ (by (with_reducible repeat (first | apply rA_ | apply rN_)); exact HO186.out) hb); have n8_ := aM_ (kB_ (g := gb157) (o := .cells #[.slice A0_0 l0_0.length c0_0, .slice A0_1 l0_1.length c0_1] 32 (0, 0)) (by (with_reducible repeat (first | refine kN_ ?_ _ | refine kD_ ?_ | refine kA_ ?_ _)); exact BK157.out) hb); have n9_ := aM_ (kB_ (g := gb158) (o := .cells #[.slice A1_0 l1_0.length c1_0, .slice A1_1 l1_1.length c1_1] 32 (0, 0)) (by (with_reducible repeat (first | refine kN_ ?_ _ | refine kD_ ?_ | refine kA_ ?_ _)); exact BK158.out) hb); have n10_ := aM_ (kB_ (g := gb180) (o := .cells #[.slice Ao128 t174.length co128, .slice Ao132 t177.length co132] 25 (0, 0)) (by (with_reducible repeat (first | refine kN_ ?_ _ | refine kD_ ?_ | refine kA_ ?_ _)); exact BK180.out) hb); have n11_ := aM_ (bP_ (by repeat (with_reducible first | exact HB.out | apply bA_ | apply bN_ | apply bD_ | refine bS_ ?_ GE157.out | refine bS_ ?_ GE158.out | refine bS_ ?_ GE180.out)) hb); have n12_ := aM_ (hbox); have n13_ := aM_ ((by rw [hg]; exact (bZ_ (by repeat (with_reducible first | exact HB.out | apply bA_ | apply bN_ | apply bD_ | refine bS_ ?_ GE157.out | refine bS_ ?_ GE158.out | refine bS_ ?_ GE180.out))) : w.heap.size ≤ gb187)); have n14_ := aM_ ((by rw [hg]; exact (bZ_ (by repeat (with_reducible first | exact HB.out | apply bA_ | apply bN_ | apply bD_ | refine bS_ ?_ GE157.out | refine bS_ ?_ GE158.out | refine bS_ ?_ GE180.out))) : w.heap.size ≤ gb187)); have n15_ := aM_ ((by rw [hg]; exact Nat.ne_of_lt (kL_ (g := gb157) (o := .cells #[.slice A0_0 l0_0.length c0_0, .slice A0_1 l0_1.length c0_1] 32 (0, 0)) (by (with_reducible repeat (first | refine kN_ ?_ _ | refine kD_ ?_ | refine kA_ ?_ _)); exact BK157.out)) : gb157 ≠ gb187)); have n16_ := aM_ ((by rw [hg]; exact Nat.ne_of_gt (kL_ (g := gb157) (o := .cells #[.slice A0_0 l0_0.length c0_0, .slice A0_1 l0_1.length c0_1] 32 (0, 0)) (by (with_reducible repeat (first | refine kN_ ?_ _ | refine kD_ ?_ | refine kA_ ?_ _)); exact BK157.out)) : gb187 ≠ gb157)); have n17_ := aM_ ((by rw [hg]; exact Nat.ne_of_lt (kL_ (g := gb158) (o := .cells #[.slice A1_0 l1_0.length c1_0, .slice A1_1 l1_1.length c1_1] 32 (0, 0)) (by (with_reducible repeat (first | refine kN_ ?_ _ | refine kD_ ?_ | refine kA_ ?_ _)); exact BK158.out)) : gb158 ≠ gb187)); have n18_ := aM_ ((by rw [hg]; exact Nat.ne_of_gt (kL_ (g := gb158) (o := .cells #[.slice A1_0 l1_0.length c1_0, .slice A1_1 l1_1.length c1_1] 32 (0, 0)) (by (with_reducible repeat (first | refine kN_ ?_ _ | refine kD_ ?_ | refine kA_ ?_ _)); exact BK158.out)) : gb187 ≠ gb158)); have n19_ := aM_ ((by rw [hg]; exact Nat.ne_of_lt (kL_ (g := gb180) (o := .cells #[.slice Ao128 t174.length co128, .slice Ao132 t177.length co132] 25 (0, 0)) (by (with_reducible repeat (first | refine kN_ ?_ _ | refine kD_ ?_ | refine kA_ ?_ _)); exact BK180.out)) : gb180 ≠ gb187)); have n20_ := aM_ ((by rw [hg]; exact Nat.ne_of_gt (kL_ (g := gb180) (o := .cells #[.slice Ao128 t174.length co128, .slice Ao132 t177.length co132] 25 (0, 0)) (by (with_reducible repeat (first | refine kN_ ?_ _ | refine kD_ ?_ | refine kA_ ?_ _)); exact BK180.out)) : gb187 ≠ gb180)); clear HO163; clear HO166; clear HO169; clear HO172; clear HO176; clear HO179; clear HO183; clear HO186; clear BK157; clear BK158; clear BK180; clear HB; have HO163 := n0_; have HO166 := n1_; have HO169 := n2_; have HO172 := n3_; have HO176 := n4_; have HO179 := n5_; have HO183 := n6_; have HO186 := n7_; have BK157 := n8_; have BK158 := n9_; have BK180 := n10_; have HB := n11_; have BK187 := n12_; have GW187 := n13_; have GE187 := n14_; have NB157_187 := n15_; have NB187_157 := n16_; have NB158_187 := n17_; have NB187_158 := n18_; have NB180_187 := n19_; have NB187_180 := n20_; clear n0_ n1_ n2_ n3_ n4_ n5_ n6_ n7_ n8_ n9_ n10_ n11_ n12_ n13_ n14_ n15_ n16_ n17_ n18_ n19_ n20_; clear hb hbox hg; obtain ⟨Ao136, co136, eo136⟩ := Kd.R_slice HO183.out; subst eo136; have hnb137 := NB187_157.out; have hnc137 := NB157_187.out; have hnb138 := NB187_158.out; have hnc138 := NB158_187.out; have hnb139 := NB187_180.out; have hnc139 := NB180_187.out; have hcz140_0 : w135.cell? ⟨gb187, 0, none⟩ = some (.slice none 0 0) := (kC_ BK187.out 0).trans rfl; have hcz140_1 : w135.cell? ⟨gb187, 1, none⟩ = some (.slice none 0 0) := (kC_ BK187.out 1).trans rfl; have hfz140_0 := kZ_ BK187.out 0; have hfz140_1 := kZ_ BK187.out 1; obtain ⟨Ao141, co141, eo141⟩ := Kd.R_slice HO186.out; subst eo141; have hcz142_0 : w135.cell? ⟨gb180, 0, none⟩ = some (.slice Ao128 t174.length co128) := (kC_ BK180.out 0).trans rfl; have hcz142_1 : w135.cell? ⟨gb180, 1, none⟩ = some (.slice Ao132 t177.length co132) := (kC_ BK180.out 1).trans rfl; have hfz142_0 := kZ_ BK180.out 0; have hfz142_1 := kZ_ BK180.out 1) | ((with_reducible refine gate_callee (f := 17) rfl ?_); refine goesL_ (some 31) rfl rfl Try.func17 (by kernel_rfl) rfl #[.agg #[.slice Ao128 t174.length co128, .slice Ao132 t177.length co132], .agg #[.slice Ao136 t181.length co136, .slice Ao141 t184.length co141]] rfl (by (try simp only [List.map_toArray, List.map_cons, List.map_nil]); first | done | rfl | (simp only [List.length_drop, List.length_take]; rfl)) ?_; (with_reducible refine (impl_SameDevice.calls k _ _ t174 _ _ t177 _ _ t181 _ _ t184 t188 _ ?side1 ?side2 ?side3 ?side4 ?side5 ?side6 ?side7 ?side8 A24.out).mono ?_); (case side1 => refine (rR_ (e := 9) (base := w.heap.size) (ok := fun k_ => (((True ∧ some k_ ≠ (.slice Ao120 t161.length co120 : Value).ownBlock) ∧ some k_ ≠ (.slice Ao122 t167.length co122 : Value).ownBlock) ∧ some k_ ≠ (.slice Ao136 t181.length co136 : Value).ownBlock)) (n := t174.length) (c := co128) ?_).2.2; exact (by (with_reducible repeat (first | apply rA_ | apply rN_)); exact (rM_ (rF_ (p := ⟨gb187, 1, none⟩) (rF_ (p := ⟨gb187, 0, none⟩) (rT_ HO176.out BK187.out (by decide)) (fun _ hk => hk.2) (.slice Ao136 t181.length co136)) (fun _ hk => hk.2) (.slice Ao141 t184.length co141)) (fun _ h_ => h_.1)))); (case side2 => exact (rR_ HO176.out).2.1); (case side3 => refine (rR_ (e := 55) (base := w.heap.size) (ok := fun k_ => (((True ∧ some k_ ≠ (.slice Ao121 t164.length co121 : Value).ownBlock) ∧ some k_ ≠ (.slice Ao123 t170.length co123 : Value).ownBlock) ∧ some k_ ≠ (.slice Ao141 t184.length co141 : Value).ownBlock)) (n := t177.length) (c := co132) ?_).2.2; exact (by (with_reducible repeat (first | apply rA_ | apply rN_)); exact (rM_ (rF_ (p := ⟨gb187, 1, none⟩) (rF_ (p := ⟨gb187, 0, none⟩) (rT_ HO179.out BK187.out (by decide)) (fun _ hk => hk.2) (.slice Ao136 t181.length co136)) (fun _ hk => hk.2) (.slice Ao141 t184.length co141)) (fun _ h_ => h_.1)))); (case side4 => exact (rR_ HO179.out).2.1); (case side5 => refine (rR_ (e := 9) (base := w.heap.size) (ok := fun k_ => (((True ∧ some k_ ≠ (.slice Ao120 t161.length co120 : Value).ownBlock) ∧ some k_ ≠ (.slice Ao122 t167.length co122 : Value).ownBlock) ∧ some k_ ≠ (.slice Ao128 t174.length co128 : Value).ownBlock)) (n := t181.length) (c := co136) ?_).2.2; exact (by (with_reducible repeat (first | apply rA_ | apply rN_)); exact (rM_ (rF_ (p := ⟨gb187, 1, none⟩) (rF_ (p := ⟨gb187, 0, none⟩) (rT_ HO183.out BK187.out (by decide)) (fun _ hk => hk.2) (.slice Ao136 t181.length co136)) (fun _ hk => hk.2) (.slice Ao141 t184.length co141)) (fun _ h_ => h_.1)))); (case side6 => exact (rR_ HO183.out).2.1); (case side7 => refine (rR_ (e := 55) (base := w.heap.size) (ok := fun k_ => (((True ∧ some k_ ≠ (.slice Ao121 t164.length co121 : Value).ownBlock) ∧ some k_ ≠ (.slice Ao123 t170.length co123 : Value).ownBlock) ∧ some k_ ≠ (.slice Ao132 t177.length co132 : Value).ownBlock)) (n := t184.length) (c := co141) ?_).2.2; exact (by (with_reducible repeat (first | apply rA_ | apply rN_)); exact (rM_ (rF_ (p := ⟨gb187, 1, none⟩) (rF_ (p := ⟨gb187, 0, none⟩) (rT_ HO186.out BK187.out (by decide)) (fun _ hk => hk.2) (.slice Ao136 t181.length co136)) (fun _ hk => hk.2) (.slice Ao141 t184.length co141)) (fun _ h_ => h_.1)))); (case side8 => exact (rR_ HO186.out).2.1); rintro e w143 ⟨rfl, hb⟩; refine ⟨_, rfl, ?_⟩; have n0_ := aM_ (rB_ (by (with_reducible repeat (first | apply rA_ | apply rN_)); exact (rM_ (rF_ (p := ⟨gb187, 1, none⟩) (rF_ (p := ⟨gb187, 0, none⟩) (rT_ HO163.out BK187.out (by decide)) (fun _ hk => hk.2) (.slice Ao136 t181.length co136)) (fun _ hk => hk.2) (.slice Ao141 t184.length co141)) (fun _ h_ => h_.1))) hb); have n1_ := aM_ (rB_ (by (with_reducible repeat (first | apply rA_ | apply rN_)); exact (rM_ (rF_ (p := ⟨gb187, 1, none⟩) (rF_ (p := ⟨gb187, 0, none⟩) (rT_ HO166.out BK187.out (by decide)) (fun _ hk => hk.2) (.slice Ao136 t181.length co136)) (fun _ hk => hk.2) (.slice Ao141 t184.length co141)) (fun _ h_ => h_.1))) hb); have n2_ := aM_ (rB_ (by (with_reducible repeat (first | apply rA_ | apply rN_)); exact (rM_ (rF_ (p := ⟨gb187, 1, none⟩) (rF_ (p := ⟨gb187, 0, none⟩) (rT_ HO169.out BK187.out (by decide)) (fun _ hk => hk.2) (.slice Ao136 t181.length co136)) (fun _ hk => hk.2) (.slice Ao141 t184.length co141)) (fun _ h_ => h_.1))) hb); have n3_ := aM_ (rB_ (by (with_reducible repeat (first | apply rA_ | apply rN_)); exact (rM_ (rF_ (p := ⟨gb187, 1, none⟩) (rF_ (p := ⟨gb187, 0, none⟩) (rT_ HO172.out BK187.out (by decide)) (fun _ hk => hk.2) (.slice Ao136 t181.length co136)) (fun _ hk => hk.2) (.slice Ao141 t184.length co141)) (fun _ h_ => h_.1))) hb); have n4_ := aM_ (rB_ (by (with_reducible repeat (first | apply rA_ | apply rN_)); exact (rM_ (rF_ (p := ⟨gb187, 1, none⟩) (rF_ (p := ⟨gb187, 0, none⟩) (rT_ HO176.out BK187.out (by decide)) (fun _ hk => hk.2) (.slice Ao136 t181.length co136)) (fun _ hk => hk.2) (.slice Ao141 t184.length co141)) (fun _ h_ => h_.1))) hb); have n5_ := aM_ (rB_ (by (with_reducible repeat (first | apply rA_ | apply rN_)); exact (rM_ (rF_ (p := ⟨gb187, 1, none⟩) (rF_ (p := ⟨gb187, 0, none⟩) (rT_ HO179.out BK187.out (by decide)) (fun _ hk => hk.2) (.slice Ao136 t181.length co136)) (fun _ hk => hk.2) (.slice Ao141 t184.length co141)) (fun _ h_ => h_.1))) hb); have n6_ := aM_ (rB_ (by (with_reducible repeat (first | apply rA_ | apply rN_)); exact (rM_ (rF_ (p := ⟨gb187, 1, none⟩) (rF_ (p := ⟨gb187, 0, none⟩) (rT_ HO183.out BK187.out (by decide)) (fun _ hk => hk.2) (.slice Ao136 t181.length co136)) (fun _ hk => hk.2) (.slice Ao141 t184.length co141)) (fun _ h_ => h_.1))) hb); have n7_ := aM_ (rB_ (by (with_reducible repeat (first | apply rA_ | apply rN_)); exact (rM_ (rF_ (p := ⟨gb187, 1, none⟩) (rF_ (p := ⟨gb187, 0, none⟩) (rT_ HO186.out BK187.out (by decide)) (fun _ hk => hk.2) (.slice Ao136 t181.length co136)) (fun _ hk => hk.2) (.slice Ao141 t184.length co141)) (fun _ h_ => h_.1))) hb); have n8_ := aM_ (kB_ (g := gb157) (o := .cells #[.slice A0_0 l0_0.length c0_0, .slice A0_1 l0_1.length c0_1] 32 (0, 0)) (by (with_reducible repeat (first | refine kN_ ?_ _ | refine kD_ ?_ | refine kA_ ?_ _)); refine kF_ ?_ NB157_187.out _; (with_reducible repeat (first | refine kN_ ?_ _ | refine kD_ ?_ | refine kA_ ?_ _)); refine kF_ ?_ NB157_187.out _; (with_reducible repeat (first | refine kN_ ?_ _ | refine kD_ ?_ | refine kA_ ?_ _)); exact BK157.out) hb); have n9_ := aM_ (kB_ (g := gb158) (o := .cells #[.slice A1_0 l1_0.length c1_0, .slice A1_1 l1_1.length c1_1] 32 (0, 0)) (by (with_reducible repeat (first | refine kN_ ?_ _ | refine kD_ ?_ | refine kA_ ?_ _)); refine kF_ ?_ NB158_187.out _; (with_reducible repeat (first | refine kN_ ?_ _ | refine kD_ ?_ | refine kA_ ?_ _)); refine kF_ ?_ NB158_187.out _; (with_reducible repeat (first | refine kN_ ?_ _ | refine kD_ ?_ | refine kA_ ?_ _)); exact BK158.out) hb); have n10_ := aM_ (kB_ (g := gb180) (o := .cells #[.slice Ao128 t174.length co128, .slice Ao132 t177.length co132] 25 (0, 0)) (by (with_reducible repeat (first | refine kN_ ?_ _ | refine kD_ ?_ | refine kA_ ?_ _)); refine kF_ ?_ NB180_187.out _; (with_reducible repeat (first | refine kN_ ?_ _ | refine kD_ ?_ | refine kA_ ?_ _)); refine kF_ ?_ NB180_187.out _; (with_reducible repeat (first | refine kN_ ?_ _ | refine kD_ ?_ | refine kA_ ?_ _)); exact BK180.out) hb); have n11_ := aM_ (kB_ (g := gb187) (o := .cells #[.slice Ao136 t181.length co136, .slice Ao141 t184.length co141] 25 (0, 0)) (by (with_reducible repeat (first | refine kN_ ?_ _ | refine kD_ ?_ | refine kA_ ?_ _)); refine blk_put (cs := #[.slice Ao136 t181.length co136, .slice none 0 0]) ?_ 1 _ rfl; (with_reducible repeat (first | refine kN_ ?_ _ | refine kD_ ?_ | refine kA_ ?_ _)); refine blk_put (cs := #[.slice none 0 0, .slice none 0 0]) ?_ 0 _ rfl; (with_reducible repeat (first | refine kN_ ?_ _ | refine kD_ ?_ | refine kA_ ?_ _)); exact BK187.out) hb); have n12_ := aM_ (bP_ (by repeat (with_reducible first | exact HB.out | apply bA_ | apply bN_ | apply bD_ | refine bS_ ?_ GE157.out | refine bS_ ?_ GE158.out | refine bS_ ?_ GE180.out | refine bS_ ?_ GE187.out)) hb); clear HO163; clear HO166; clear HO169; clear HO172; clear HO176; clear HO179; clear HO183; clear HO186; clear BK157; clear BK158; clear BK180; clear BK187; clear HB; have HO163 := n0_; have HO166 := n1_; have HO169 := n2_; have HO172 := n3_; have HO176 := n4_; have HO179 := n5_; have HO183 := n6_; have HO186 := n7_; have BK157 := n8_; have BK158 := n9_; have BK180 := n10_; have BK187 := n11_; have HB := n12_; clear n0_ n1_ n2_ n3_ n4_ n5_ n6_ n7_ n8_ n9_ n10_ n11_ n12_; (try clear hb); (try clear hb2); (try clear hk); (try clear hi)))
      have n0_ := aM_ (rD_ HO163.out)
      have n1_ := aM_ (rD_ HO166.out)
      have n2_ := aM_ (rD_ HO169.out)
      have n3_ := aM_ (rD_ HO172.out)
      have n4_ := aM_ (rD_ HO176.out)
      have n5_ := aM_ (rD_ HO179.out)
      have n6_ := aM_ (rD_ HO183.out)
      have n7_ := aM_ (rD_ HO186.out)
      have n8_ := aM_ (kD_ BK157.out)
      have n9_ := aM_ (kD_ BK158.out)
      have n10_ := aM_ (kD_ BK180.out)
      have n11_ := aM_ (kD_ BK187.out)
      have n12_ := aM_ (bD_ HB.out)
      clear HO163
      clear HO166
      clear HO169
      clear HO172
      clear HO176
      clear HO179
      clear HO183
      clear HO186
      clear BK157
      clear BK158
      clear BK180
      clear BK187
      clear HB
      have HO163 := n0_
      have HO166 := n1_
      have HO169 := n2_
      have HO172 := n3_
      have HO176 := n4_
      have HO179 := n5_
      have HO183 := n6_
      have HO186 := n7_
      have BK157 := n8_
      have BK158 := n9_
      have BK180 := n10_
      have BK187 := n11_
      have HB := n12_
      clear n0_ n1_ n2_ n3_ n4_ n5_ n6_ n7_ n8_ n9_ n10_ n11_ n12_
      refine start_ (n := 5) (S := fun w' => w'.cell? ⟨gb180, 0, none⟩ = some (.slice Ao128 t174.length co128) ∧ w'.cell? ⟨gb180, 1, none⟩ = some (.slice Ao132 t177.length co132) ∧ w'.cell? ⟨gb157, 0, none⟩ = some (.slice A0_0 l0_0.length c0_0) ∧ w'.cell? ⟨gb157, 1, none⟩ = some (.slice A0_1 l0_1.length c0_1)) (ds := []) #[false, false, false, false, false] (by kernel_rfl) rfl rfl ⟨(kC_ BK180.out 0).trans rfl, (kC_ BK180.out 1).trans rfl, (kC_ BK157.out 0).trans rfl, (kC_ BK157.out 1).trans rfl⟩ (fun hHeld => ?_)
      generalize w143.drew = w144 at HO163 HO166 HO169 HO172 HO176 HO179 HO183 HO186 BK157 BK158 BK180 BK187 HB hHeld ⊢
      refine take_ (i := 0) (N := some 35) (v := ?_) (a' := ?_) #[true, false, false, false, false] rfl rfl (by kernel_rfl) (fun _ _ _ h => h) (Or.inl ⟨by rfl, ?_⟩) hHeld ?_ ?_
      rotate_left
      ·rintro w' ⟨s0, s1, s2, s3⟩
       go_simp
       with_reducible rfl
      rotate_left
      ·simp only [Act.put, List.setIfInBounds_toArray, List.set_cons_zero, List.set_cons_succ, i64_w, i32_w]
       rfl
      refine take_ (i := 1) (N := some 36) (v := ?_) (a' := ?_) #[true, true, false, false, false] rfl rfl (by kernel_rfl) (fun _ _ _ h => h) (Or.inl ⟨by rfl, ?_⟩) hHeld ?_ ?_
      rotate_left
      ·rintro w' ⟨s0, s1, s2, s3⟩
       go_simp
       with_reducible rfl
      rotate_left
      ·simp only [Act.put, List.setIfInBounds_toArray, List.set_cons_zero, List.set_cons_succ, i64_w, i32_w]
       rfl
      refine one_ (i := 2) (N := some 37) #[true, true, true, false, false] rfl rfl (by kernel_rfl) (by decide) (fun K hK => ?_)
      refine goes_ Try.func16 (by kernel_rfl) rfl #[.agg #[.slice A0_0 l0_0.length c0_0, .slice A0_1 l0_1.length c0_1]] (by rfl) rfl rfl (by (try simp only [List.map_toArray, List.map_cons, List.map_nil]); first | done | rfl | (simp only [List.length_drop, List.length_take]; rfl)) ?_
      with_reducible refine (laws_toDevice.calls k _ _ l0_0 _ _ l0_1 t189 t192 _ ?side1 ?side2 ?side3 ?side4 A60.out).mono ?_
      (case side1 => repeat (first | exact (cB_ HR0_0.out HB.out) | (with_reducible refine cA_ ?_ _) | (with_reducible refine cN_ ?_ _) | (with_reducible refine cD_ ?_)))
      (case side2 => exact HC0_0.out)
      (case side3 => repeat (first | exact (cB_ HR0_1.out HB.out) | (with_reducible refine cA_ ?_ _) | (with_reducible refine cN_ ?_ _) | (with_reducible refine cD_ ?_)))
      (case side4 => exact HC0_1.out)
      rintro e w145 ⟨v190, v193, rfl, ho0, ho1, hb⟩
      refine ⟨_, rfl, ?_⟩
      have n0_ := aM_ (rE_ (by (with_reducible repeat (first | apply rA_ | apply rN_)); exact HO163.out) (rS_ ho0) hb)
      have n1_ := aM_ (rE_ (by (with_reducible repeat (first | apply rA_ | apply rN_)); exact HO166.out) (rS_ ho1) hb)
      have n2_ := aM_ (rE_ (by (with_reducible repeat (first | apply rA_ | apply rN_)); exact HO169.out) (rS_ ho0) hb)
      have n3_ := aM_ (rE_ (by (with_reducible repeat (first | apply rA_ | apply rN_)); exact HO172.out) (rS_ ho1) hb)
      have n4_ := aM_ (rE_ (by (with_reducible repeat (first | apply rA_ | apply rN_)); exact HO176.out) (rS_ ho0) hb)
      have n5_ := aM_ (rE_ (by (with_reducible repeat (first | apply rA_ | apply rN_)); exact HO179.out) (rS_ ho1) hb)
      have n6_ := aM_ (rE_ (by (with_reducible repeat (first | apply rA_ | apply rN_)); exact HO183.out) (rS_ ho0) hb)
      have n7_ := aM_ (rE_ (by (with_reducible repeat (first | apply rA_ | apply rN_)); exact HO186.out) (rS_ ho1) hb)
      have n8_ := aM_ (rO_ (rW_ (rW_ (rW_ (rW_ ho0 (rL_ (by (with_reducible repeat (first | apply rA_ | apply rN_)); exact HO163.out))) (rL_ (by (with_reducible repeat (first | apply rA_ | apply rN_)); exact HO169.out))) (rL_ (by (with_reducible repeat (first | apply rA_ | apply rN_)); exact HO176.out))) (rL_ (by (with_reducible repeat (first | apply rA_ | apply rN_)); exact HO183.out))) (bZ_ (by repeat (with_reducible first | exact HB.out | apply bA_ | apply bN_ | apply bD_ | refine bS_ ?_ GE157.out | refine bS_ ?_ GE158.out | refine bS_ ?_ GE180.out | refine bS_ ?_ GE187.out))))
      have n9_ := aM_ (rO_ (rW_ (rW_ (rW_ (rW_ ho1 (rL_ (by (with_reducible repeat (first | apply rA_ | apply rN_)); exact HO166.out))) (rL_ (by (with_reducible repeat (first | apply rA_ | apply rN_)); exact HO172.out))) (rL_ (by (with_reducible repeat (first | apply rA_ | apply rN_)); exact HO179.out))) (rL_ (by (with_reducible repeat (first | apply rA_ | apply rN_)); exact HO186.out))) (bZ_ (by repeat (with_reducible first | exact HB.out | apply bA_ | apply bN_ | apply bD_ | refine bS_ ?_ GE157.out | refine bS_ ?_ GE158.out | refine bS_ ?_ GE180.out | refine bS_ ?_ GE187.out))))
      have n10_ := aM_ (kB_ (g := gb157) (o := .cells #[.slice A0_0 l0_0.length c0_0, .slice A0_1 l0_1.length c0_1] 32 (0, 0)) (by (with_reducible repeat (first | refine kN_ ?_ _ | refine kD_ ?_ | refine kA_ ?_ _)); exact BK157.out) hb)
      have n11_ := aM_ (kB_ (g := gb158) (o := .cells #[.slice A1_0 l1_0.length c1_0, .slice A1_1 l1_1.length c1_1] 32 (0, 0)) (by (with_reducible repeat (first | refine kN_ ?_ _ | refine kD_ ?_ | refine kA_ ?_ _)); exact BK158.out) hb)
      have n12_ := aM_ (kB_ (g := gb180) (o := .cells #[.slice Ao128 t174.length co128, .slice Ao132 t177.length co132] 25 (0, 0)) (by (with_reducible repeat (first | refine kN_ ?_ _ | refine kD_ ?_ | refine kA_ ?_ _)); exact BK180.out) hb)
      have n13_ := aM_ (kB_ (g := gb187) (o := .cells #[.slice Ao136 t181.length co136, .slice Ao141 t184.length co141] 25 (0, 0)) (by (with_reducible repeat (first | refine kN_ ?_ _ | refine kD_ ?_ | refine kA_ ?_ _)); exact BK187.out) hb)
      have n14_ := aM_ (bP_ (by repeat (with_reducible first | exact HB.out | apply bA_ | apply bN_ | apply bD_ | refine bS_ ?_ GE157.out | refine bS_ ?_ GE158.out | refine bS_ ?_ GE180.out | refine bS_ ?_ GE187.out)) hb)
      clear HO163
      clear HO166
      clear HO169
      clear HO172
      clear HO176
      clear HO179
      clear HO183
      clear HO186
      clear BK157
      clear BK158
      clear BK180
      clear BK187
      clear HB
      have HO163 := n0_
      have HO166 := n1_
      have HO169 := n2_
      have HO172 := n3_
      have HO176 := n4_
      have HO179 := n5_
      have HO183 := n6_
      have HO186 := n7_
      have HO191 := n8_
      have HO194 := n9_
      have BK157 := n10_
      have BK158 := n11_
      have BK180 := n12_
      have BK187 := n13_
      have HB := n14_
      clear n0_ n1_ n2_ n3_ n4_ n5_ n6_ n7_ n8_ n9_ n10_ n11_ n12_ n13_ n14_
      (try clear hb)
      (try clear hb2)
      (try clear hk)
      (try clear hi)
      (try clear ho0)
      (try clear ho1)
      obtain ⟨Ao146, co146, eo146⟩ := Kd.R_slice HO191.out
      (first | subst eo146 | (injection eo146 with f1_ f2_ f3_; have f4_ := f1_.symm; have f5_ := f3_.symm; clear f1_ f2_ f3_; subst f4_; subst f5_))
      obtain ⟨Ao147, co147, eo147⟩ := Kd.R_slice HO194.out
      (first | subst eo147 | (injection eo147 with f1_ f2_ f3_; have f4_ := f1_.symm; have f5_ := f3_.symm; clear f1_ f2_ f3_; subst f4_; subst f5_))
      refine hK.out _ _ ⟨(kC_ BK180.out 0).trans rfl, (kC_ BK180.out 1).trans rfl, (kC_ BK157.out 0).trans rfl, (kC_ BK157.out 1).trans rfl⟩ (fun hHeld => ?_)
      clear hK K
      refine norm_ (a' := ?_) ?_ ?_
      rotate_left
      ·show Act.put _ (some 37) _ = _
       simp only [Act.put, List.setIfInBounds_toArray, List.set_cons_zero, List.set_cons_succ, i64_w, i32_w]
       rfl
      refine one_ (i := 3) (N := some 38) #[true, true, true, true, false] rfl rfl (by kernel_rfl) (by decide) (fun K hK => ?_)
      refine goes_ Try.func11 (by kernel_rfl) rfl #[.agg #[.slice Ao128 t174.length co128, .slice Ao132 t177.length co132], .agg #[.slice Ao146 t189.length co146, .slice Ao147 t192.length co147]] (by rfl) rfl rfl (by (try simp only [List.map_toArray, List.map_cons, List.map_nil]); first | done | rfl | (simp only [List.length_drop, List.length_take]; rfl)) ?_
      with_reducible refine (laws_eqDevice.calls k _ _ t174 _ _ t177 _ _ t189 _ _ t192 true _ ?side1 ?side2 ?side3 ?side4 ?side5 ?side6 ?side7 ?side8 A61.out).mono ?_
      (case side1 => repeat (first | exact (rR_ HO176.out).2.2 | (with_reducible refine cA_ ?_ _) | (with_reducible refine cN_ ?_ _) | (with_reducible refine cD_ ?_)))
      (case side2 => exact (rR_ HO176.out).2.1)
      (case side3 => repeat (first | exact (rR_ HO179.out).2.2 | (with_reducible refine cA_ ?_ _) | (with_reducible refine cN_ ?_ _) | (with_reducible refine cD_ ?_)))
      (case side4 => exact (rR_ HO179.out).2.1)
      (case side5 => repeat (first | exact (rR_ HO191.out).2.2 | (with_reducible refine cA_ ?_ _) | (with_reducible refine cN_ ?_ _) | (with_reducible refine cD_ ?_)))
      (case side6 => exact (rR_ HO191.out).2.1)
      (case side7 => repeat (first | exact (rR_ HO194.out).2.2 | (with_reducible refine cA_ ?_ _) | (with_reducible refine cN_ ?_ _) | (with_reducible refine cD_ ?_)))
      (case side8 => exact (rR_ HO194.out).2.1)
      rintro e w148 ⟨rfl, hb⟩
      refine ⟨_, rfl, ?_⟩
      have n0_ := aM_ (rB_ (by (with_reducible repeat (first | apply rA_ | apply rN_)); exact HO163.out) hb)
      have n1_ := aM_ (rB_ (by (with_reducible repeat (first | apply rA_ | apply rN_)); exact HO166.out) hb)
      have n2_ := aM_ (rB_ (by (with_reducible repeat (first | apply rA_ | apply rN_)); exact HO169.out) hb)
      have n3_ := aM_ (rB_ (by (with_reducible repeat (first | apply rA_ | apply rN_)); exact HO172.out) hb)
      have n4_ := aM_ (rB_ (by (with_reducible repeat (first | apply rA_ | apply rN_)); exact HO176.out) hb)
      have n5_ := aM_ (rB_ (by (with_reducible repeat (first | apply rA_ | apply rN_)); exact HO179.out) hb)
      have n6_ := aM_ (rB_ (by (with_reducible repeat (first | apply rA_ | apply rN_)); exact HO183.out) hb)
      have n7_ := aM_ (rB_ (by (with_reducible repeat (first | apply rA_ | apply rN_)); exact HO186.out) hb)
      have n8_ := aM_ (rB_ (by (with_reducible repeat (first | apply rA_ | apply rN_)); exact HO191.out) hb)
      have n9_ := aM_ (rB_ (by (with_reducible repeat (first | apply rA_ | apply rN_)); exact HO194.out) hb)
      have n10_ := aM_ (kB_ (g := gb157) (o := .cells #[.slice A0_0 l0_0.length c0_0, .slice A0_1 l0_1.length c0_1] 32 (0, 0)) (by (with_reducible repeat (first | refine kN_ ?_ _ | refine kD_ ?_ | refine kA_ ?_ _)); exact BK157.out) hb)
      have n11_ := aM_ (kB_ (g := gb158) (o := .cells #[.slice A1_0 l1_0.length c1_0, .slice A1_1 l1_1.length c1_1] 32 (0, 0)) (by (with_reducible repeat (first | refine kN_ ?_ _ | refine kD_ ?_ | refine kA_ ?_ _)); exact BK158.out) hb)
      have n12_ := aM_ (kB_ (g := gb180) (o := .cells #[.slice Ao128 t174.length co128, .slice Ao132 t177.length co132] 25 (0, 0)) (by (with_reducible repeat (first | refine kN_ ?_ _ | refine kD_ ?_ | refine kA_ ?_ _)); exact BK180.out) hb)
      have n13_ := aM_ (kB_ (g := gb187) (o := .cells #[.slice Ao136 t181.length co136, .slice Ao141 t184.length co141] 25 (0, 0)) (by (with_reducible repeat (first | refine kN_ ?_ _ | refine kD_ ?_ | refine kA_ ?_ _)); exact BK187.out) hb)
      have n14_ := aM_ (bP_ (by repeat (with_reducible first | exact HB.out | apply bA_ | apply bN_ | apply bD_ | refine bS_ ?_ GE157.out | refine bS_ ?_ GE158.out | refine bS_ ?_ GE180.out | refine bS_ ?_ GE187.out)) hb)
      clear HO163
      clear HO166
      clear HO169
      clear HO172
      clear HO176
      clear HO179
      clear HO183
      clear HO186
      clear HO191
      clear HO194
      clear BK157
      clear BK158
      clear BK180
      clear BK187
      clear HB
      have HO163 := n0_
      have HO166 := n1_
      have HO169 := n2_
      have HO172 := n3_
      have HO176 := n4_
      have HO179 := n5_
      have HO183 := n6_
      have HO186 := n7_
      have HO191 := n8_
      have HO194 := n9_
      have BK157 := n10_
      have BK158 := n11_
      have BK180 := n12_
      have BK187 := n13_
      have HB := n14_
      clear n0_ n1_ n2_ n3_ n4_ n5_ n6_ n7_ n8_ n9_ n10_ n11_ n12_ n13_ n14_
      (try clear hb)
      (try clear hb2)
      (try clear hk)
      (try clear hi)
      refine hK.out _ _ ⟨(kC_ BK180.out 0).trans rfl, (kC_ BK180.out 1).trans rfl, (kC_ BK157.out 0).trans rfl, (kC_ BK157.out 1).trans rfl⟩ (fun hHeld => ?_)
      clear hK K
      refine norm_ (a' := ?_) ?_ ?_
      rotate_left
      ·show Act.put _ (some 38) _ = _
       simp only [Act.put, List.setIfInBounds_toArray, List.set_cons_zero, List.set_cons_succ, i64_w, i32_w]
       rfl
      refine pure_ (i := 4) (N := some 39) (v := ?_) (a' := ?_) #[true, true, true, true, true] rfl rfl (by kernel_rfl) (fun _ _ _ h => h) (Or.inl ⟨by rfl, ?_⟩) ?_ ?_
      rotate_left
      ·intro w'
       go_simp
       with_reducible rfl
      rotate_left
      ·simp only [Act.put, List.setIfInBounds_toArray, List.set_cons_zero, List.set_cons_succ, i64_w, i32_w]
       rfl
      refine done_ (by kernel_rfl) ?_
      try go_wp2
      have n0_ := aM_ (rD_ HO163.out)
      have n1_ := aM_ (rD_ HO166.out)
      have n2_ := aM_ (rD_ HO169.out)
      have n3_ := aM_ (rD_ HO172.out)
      have n4_ := aM_ (rD_ HO176.out)
      have n5_ := aM_ (rD_ HO179.out)
      have n6_ := aM_ (rD_ HO183.out)
      have n7_ := aM_ (rD_ HO186.out)
      have n8_ := aM_ (rD_ HO191.out)
      have n9_ := aM_ (rD_ HO194.out)
      have n10_ := aM_ (kD_ BK157.out)
      have n11_ := aM_ (kD_ BK158.out)
      have n12_ := aM_ (kD_ BK180.out)
      have n13_ := aM_ (kD_ BK187.out)
      have n14_ := aM_ (bD_ HB.out)
      clear HO163
      clear HO166
      clear HO169
      clear HO172
      clear HO176
      clear HO179
      clear HO183
      clear HO186
      clear HO191
      clear HO194
      clear BK157
      clear BK158
      clear BK180
      clear BK187
      clear HB
      have HO163 := n0_
      have HO166 := n1_
      have HO169 := n2_
      have HO172 := n3_
      have HO176 := n4_
      have HO179 := n5_
      have HO183 := n6_
      have HO186 := n7_
      have HO191 := n8_
      have HO194 := n9_
      have BK157 := n10_
      have BK158 := n11_
      have BK180 := n12_
      have BK187 := n13_
      have HB := n14_
      clear n0_ n1_ n2_ n3_ n4_ n5_ n6_ n7_ n8_ n9_ n10_ n11_ n12_ n13_ n14_
      refine start_ (n := 5) (S := fun w' => w'.cell? ⟨gb187, 0, none⟩ = some (.slice Ao136 t181.length co136) ∧ w'.cell? ⟨gb187, 1, none⟩ = some (.slice Ao141 t184.length co141) ∧ w'.cell? ⟨gb158, 0, none⟩ = some (.slice A1_0 l1_0.length c1_0) ∧ w'.cell? ⟨gb158, 1, none⟩ = some (.slice A1_1 l1_1.length c1_1)) (ds := []) #[false, false, false, false, false] (by kernel_rfl) rfl rfl ⟨(kC_ BK187.out 0).trans rfl, (kC_ BK187.out 1).trans rfl, (kC_ BK158.out 0).trans rfl, (kC_ BK158.out 1).trans rfl⟩ (fun hHeld => ?_)
      generalize w148.drew = w149 at HO163 HO166 HO169 HO172 HO176 HO179 HO183 HO186 HO191 HO194 BK157 BK158 BK180 BK187 HB hHeld ⊢
      refine take_ (i := 0) (N := some 40) (v := ?_) (a' := ?_) #[true, false, false, false, false] rfl rfl (by kernel_rfl) (fun _ _ _ h => h) (Or.inl ⟨by rfl, ?_⟩) hHeld ?_ ?_
      rotate_left
      ·rintro w' ⟨s0, s1, s2, s3⟩
       go_simp
       with_reducible rfl
      rotate_left
      ·simp only [Act.put, List.setIfInBounds_toArray, List.set_cons_zero, List.set_cons_succ, i64_w, i32_w]
       rfl
      refine take_ (i := 1) (N := some 41) (v := ?_) (a' := ?_) #[true, true, false, false, false] rfl rfl (by kernel_rfl) (fun _ _ _ h => h) (Or.inl ⟨by rfl, ?_⟩) hHeld ?_ ?_
      rotate_left
      ·rintro w' ⟨s0, s1, s2, s3⟩
       go_simp
       with_reducible rfl
      rotate_left
      ·simp only [Act.put, List.setIfInBounds_toArray, List.set_cons_zero, List.set_cons_succ, i64_w, i32_w]
       rfl
      refine one_ (i := 2) (N := some 42) #[true, true, true, false, false] rfl rfl (by kernel_rfl) (by decide) (fun K hK => ?_)
      refine goes_ Try.func16 (by kernel_rfl) rfl #[.agg #[.slice A1_0 l1_0.length c1_0, .slice A1_1 l1_1.length c1_1]] (by rfl) rfl rfl (by (try simp only [List.map_toArray, List.map_cons, List.map_nil]); first | done | rfl | (simp only [List.length_drop, List.length_take]; rfl)) ?_
      with_reducible refine (laws_toDevice.calls k _ _ l1_0 _ _ l1_1 t196 t199 _ ?side1 ?side2 ?side3 ?side4 A63.out).mono ?_
      (case side1 => repeat (first | exact (cB_ HR1_0.out HB.out) | (with_reducible refine cA_ ?_ _) | (with_reducible refine cN_ ?_ _) | (with_reducible refine cD_ ?_)))
      (case side2 => exact HC1_0.out)
      (case side3 => repeat (first | exact (cB_ HR1_1.out HB.out) | (with_reducible refine cA_ ?_ _) | (with_reducible refine cN_ ?_ _) | (with_reducible refine cD_ ?_)))
      (case side4 => exact HC1_1.out)
      rintro e w150 ⟨v197, v200, rfl, ho0, ho1, hb⟩
      refine ⟨_, rfl, ?_⟩
      have n0_ := aM_ (rE_ (by (with_reducible repeat (first | apply rA_ | apply rN_)); exact HO163.out) (rS_ ho0) hb)
      have n1_ := aM_ (rE_ (by (with_reducible repeat (first | apply rA_ | apply rN_)); exact HO166.out) (rS_ ho1) hb)
      have n2_ := aM_ (rE_ (by (with_reducible repeat (first | apply rA_ | apply rN_)); exact HO169.out) (rS_ ho0) hb)
      have n3_ := aM_ (rE_ (by (with_reducible repeat (first | apply rA_ | apply rN_)); exact HO172.out) (rS_ ho1) hb)
      have n4_ := aM_ (rE_ (by (with_reducible repeat (first | apply rA_ | apply rN_)); exact HO176.out) (rS_ ho0) hb)
      have n5_ := aM_ (rE_ (by (with_reducible repeat (first | apply rA_ | apply rN_)); exact HO179.out) (rS_ ho1) hb)
      have n6_ := aM_ (rE_ (by (with_reducible repeat (first | apply rA_ | apply rN_)); exact HO183.out) (rS_ ho0) hb)
      have n7_ := aM_ (rE_ (by (with_reducible repeat (first | apply rA_ | apply rN_)); exact HO186.out) (rS_ ho1) hb)
      have n8_ := aM_ (rE_ (by (with_reducible repeat (first | apply rA_ | apply rN_)); exact HO191.out) (rS_ ho0) hb)
      have n9_ := aM_ (rE_ (by (with_reducible repeat (first | apply rA_ | apply rN_)); exact HO194.out) (rS_ ho1) hb)
      have n10_ := aM_ (rO_ (rW_ (rW_ (rW_ (rW_ (rW_ ho0 (rL_ (by (with_reducible repeat (first | apply rA_ | apply rN_)); exact HO163.out))) (rL_ (by (with_reducible repeat (first | apply rA_ | apply rN_)); exact HO169.out))) (rL_ (by (with_reducible repeat (first | apply rA_ | apply rN_)); exact HO176.out))) (rL_ (by (with_reducible repeat (first | apply rA_ | apply rN_)); exact HO183.out))) (rL_ (by (with_reducible repeat (first | apply rA_ | apply rN_)); exact HO191.out))) (bZ_ (by repeat (with_reducible first | exact HB.out | apply bA_ | apply bN_ | apply bD_ | refine bS_ ?_ GE157.out | refine bS_ ?_ GE158.out | refine bS_ ?_ GE180.out | refine bS_ ?_ GE187.out))))
      have n11_ := aM_ (rO_ (rW_ (rW_ (rW_ (rW_ (rW_ ho1 (rL_ (by (with_reducible repeat (first | apply rA_ | apply rN_)); exact HO166.out))) (rL_ (by (with_reducible repeat (first | apply rA_ | apply rN_)); exact HO172.out))) (rL_ (by (with_reducible repeat (first | apply rA_ | apply rN_)); exact HO179.out))) (rL_ (by (with_reducible repeat (first | apply rA_ | apply rN_)); exact HO186.out))) (rL_ (by (with_reducible repeat (first | apply rA_ | apply rN_)); exact HO194.out))) (bZ_ (by repeat (with_reducible first | exact HB.out | apply bA_ | apply bN_ | apply bD_ | refine bS_ ?_ GE157.out | refine bS_ ?_ GE158.out | refine bS_ ?_ GE180.out | refine bS_ ?_ GE187.out))))
      have n12_ := aM_ (kB_ (g := gb157) (o := .cells #[.slice A0_0 l0_0.length c0_0, .slice A0_1 l0_1.length c0_1] 32 (0, 0)) (by (with_reducible repeat (first | refine kN_ ?_ _ | refine kD_ ?_ | refine kA_ ?_ _)); exact BK157.out) hb)
      have n13_ := aM_ (kB_ (g := gb158) (o := .cells #[.slice A1_0 l1_0.length c1_0, .slice A1_1 l1_1.length c1_1] 32 (0, 0)) (by (with_reducible repeat (first | refine kN_ ?_ _ | refine kD_ ?_ | refine kA_ ?_ _)); exact BK158.out) hb)
      have n14_ := aM_ (kB_ (g := gb180) (o := .cells #[.slice Ao128 t174.length co128, .slice Ao132 t177.length co132] 25 (0, 0)) (by (with_reducible repeat (first | refine kN_ ?_ _ | refine kD_ ?_ | refine kA_ ?_ _)); exact BK180.out) hb)
      have n15_ := aM_ (kB_ (g := gb187) (o := .cells #[.slice Ao136 t181.length co136, .slice Ao141 t184.length co141] 25 (0, 0)) (by (with_reducible repeat (first | refine kN_ ?_ _ | refine kD_ ?_ | refine kA_ ?_ _)); exact BK187.out) hb)
      have n16_ := aM_ (bP_ (by repeat (with_reducible first | exact HB.out | apply bA_ | apply bN_ | apply bD_ | refine bS_ ?_ GE157.out | refine bS_ ?_ GE158.out | refine bS_ ?_ GE180.out | refine bS_ ?_ GE187.out)) hb)
      clear HO163
      clear HO166
      clear HO169
      clear HO172
      clear HO176
      clear HO179
      clear HO183
      clear HO186
      clear HO191
      clear HO194
      clear BK157
      clear BK158
      clear BK180
      clear BK187
      clear HB
      have HO163 := n0_
      have HO166 := n1_
      have HO169 := n2_
      have HO172 := n3_
      have HO176 := n4_
      have HO179 := n5_
      have HO183 := n6_
      have HO186 := n7_
      have HO191 := n8_
      have HO194 := n9_
      have HO198 := n10_
      have HO201 := n11_
      have BK157 := n12_
      have BK158 := n13_
      have BK180 := n14_
      have BK187 := n15_
      have HB := n16_
      clear n0_ n1_ n2_ n3_ n4_ n5_ n6_ n7_ n8_ n9_ n10_ n11_ n12_ n13_ n14_ n15_ n16_
      (try clear hb)
      (try clear hb2)
      (try clear hk)
      (try clear hi)
      (try clear ho0)
      (try clear ho1)
      obtain ⟨Ao151, co151, eo151⟩ := Kd.R_slice HO198.out
      (first | subst eo151 | (injection eo151 with f1_ f2_ f3_; have f4_ := f1_.symm; have f5_ := f3_.symm; clear f1_ f2_ f3_; subst f4_; subst f5_))
      obtain ⟨Ao152, co152, eo152⟩ := Kd.R_slice HO201.out
      (first | subst eo152 | (injection eo152 with f1_ f2_ f3_; have f4_ := f1_.symm; have f5_ := f3_.symm; clear f1_ f2_ f3_; subst f4_; subst f5_))
      refine hK.out _ _ ⟨(kC_ BK187.out 0).trans rfl, (kC_ BK187.out 1).trans rfl, (kC_ BK158.out 0).trans rfl, (kC_ BK158.out 1).trans rfl⟩ (fun hHeld => ?_)
      clear hK K
      refine norm_ (a' := ?_) ?_ ?_
      rotate_left
      ·show Act.put _ (some 42) _ = _
       simp only [Act.put, List.setIfInBounds_toArray, List.set_cons_zero, List.set_cons_succ, i64_w, i32_w]
       rfl
      refine one_ (i := 3) (N := some 43) #[true, true, true, true, false] rfl rfl (by kernel_rfl) (by decide) (fun K hK => ?_)
      refine goes_ Try.func11 (by kernel_rfl) rfl #[.agg #[.slice Ao136 t181.length co136, .slice Ao141 t184.length co141], .agg #[.slice Ao151 t196.length co151, .slice Ao152 t199.length co152]] (by rfl) rfl rfl (by (try simp only [List.map_toArray, List.map_cons, List.map_nil]); first | done | rfl | (simp only [List.length_drop, List.length_take]; rfl)) ?_
      with_reducible refine (laws_eqDevice.calls k _ _ t181 _ _ t184 _ _ t196 _ _ t199 false _ ?side1 ?side2 ?side3 ?side4 ?side5 ?side6 ?side7 ?side8 A64.out).mono ?_
      (case side1 => repeat (first | exact (rR_ HO183.out).2.2 | (with_reducible refine cA_ ?_ _) | (with_reducible refine cN_ ?_ _) | (with_reducible refine cD_ ?_)))
      (case side2 => exact (rR_ HO183.out).2.1)
      (case side3 => repeat (first | exact (rR_ HO186.out).2.2 | (with_reducible refine cA_ ?_ _) | (with_reducible refine cN_ ?_ _) | (with_reducible refine cD_ ?_)))
      (case side4 => exact (rR_ HO186.out).2.1)
      (case side5 => repeat (first | exact (rR_ HO198.out).2.2 | (with_reducible refine cA_ ?_ _) | (with_reducible refine cN_ ?_ _) | (with_reducible refine cD_ ?_)))
      (case side6 => exact (rR_ HO198.out).2.1)
      (case side7 => repeat (first | exact (rR_ HO201.out).2.2 | (with_reducible refine cA_ ?_ _) | (with_reducible refine cN_ ?_ _) | (with_reducible refine cD_ ?_)))
      (case side8 => exact (rR_ HO201.out).2.1)
      rintro e w153 ⟨rfl, hb⟩
      refine ⟨_, rfl, ?_⟩
      have n0_ := aM_ (rB_ (by (with_reducible repeat (first | apply rA_ | apply rN_)); exact HO163.out) hb)
      have n1_ := aM_ (rB_ (by (with_reducible repeat (first | apply rA_ | apply rN_)); exact HO166.out) hb)
      have n2_ := aM_ (rB_ (by (with_reducible repeat (first | apply rA_ | apply rN_)); exact HO169.out) hb)
      have n3_ := aM_ (rB_ (by (with_reducible repeat (first | apply rA_ | apply rN_)); exact HO172.out) hb)
      have n4_ := aM_ (rB_ (by (with_reducible repeat (first | apply rA_ | apply rN_)); exact HO176.out) hb)
      have n5_ := aM_ (rB_ (by (with_reducible repeat (first | apply rA_ | apply rN_)); exact HO179.out) hb)
      have n6_ := aM_ (rB_ (by (with_reducible repeat (first | apply rA_ | apply rN_)); exact HO183.out) hb)
      have n7_ := aM_ (rB_ (by (with_reducible repeat (first | apply rA_ | apply rN_)); exact HO186.out) hb)
      have n8_ := aM_ (rB_ (by (with_reducible repeat (first | apply rA_ | apply rN_)); exact HO191.out) hb)
      have n9_ := aM_ (rB_ (by (with_reducible repeat (first | apply rA_ | apply rN_)); exact HO194.out) hb)
      have n10_ := aM_ (rB_ (by (with_reducible repeat (first | apply rA_ | apply rN_)); exact HO198.out) hb)
      have n11_ := aM_ (rB_ (by (with_reducible repeat (first | apply rA_ | apply rN_)); exact HO201.out) hb)
      have n12_ := aM_ (kB_ (g := gb157) (o := .cells #[.slice A0_0 l0_0.length c0_0, .slice A0_1 l0_1.length c0_1] 32 (0, 0)) (by (with_reducible repeat (first | refine kN_ ?_ _ | refine kD_ ?_ | refine kA_ ?_ _)); exact BK157.out) hb)
      have n13_ := aM_ (kB_ (g := gb158) (o := .cells #[.slice A1_0 l1_0.length c1_0, .slice A1_1 l1_1.length c1_1] 32 (0, 0)) (by (with_reducible repeat (first | refine kN_ ?_ _ | refine kD_ ?_ | refine kA_ ?_ _)); exact BK158.out) hb)
      have n14_ := aM_ (kB_ (g := gb180) (o := .cells #[.slice Ao128 t174.length co128, .slice Ao132 t177.length co132] 25 (0, 0)) (by (with_reducible repeat (first | refine kN_ ?_ _ | refine kD_ ?_ | refine kA_ ?_ _)); exact BK180.out) hb)
      have n15_ := aM_ (kB_ (g := gb187) (o := .cells #[.slice Ao136 t181.length co136, .slice Ao141 t184.length co141] 25 (0, 0)) (by (with_reducible repeat (first | refine kN_ ?_ _ | refine kD_ ?_ | refine kA_ ?_ _)); exact BK187.out) hb)
      have n16_ := aM_ (bP_ (by repeat (with_reducible first | exact HB.out | apply bA_ | apply bN_ | apply bD_ | refine bS_ ?_ GE157.out | refine bS_ ?_ GE158.out | refine bS_ ?_ GE180.out | refine bS_ ?_ GE187.out)) hb)
      clear HO163
      clear HO166
      clear HO169
      clear HO172
      clear HO176
      clear HO179
      clear HO183
      clear HO186
      clear HO191
      clear HO194
      clear HO198
      clear HO201
      clear BK157
      clear BK158
      clear BK180
      clear BK187
      clear HB
      have HO163 := n0_
      have HO166 := n1_
      have HO169 := n2_
      have HO172 := n3_
      have HO176 := n4_
      have HO179 := n5_
      have HO183 := n6_
      have HO186 := n7_
      have HO191 := n8_
      have HO194 := n9_
      have HO198 := n10_
      have HO201 := n11_
      have BK157 := n12_
      have BK158 := n13_
      have BK180 := n14_
      have BK187 := n15_
      have HB := n16_
      clear n0_ n1_ n2_ n3_ n4_ n5_ n6_ n7_ n8_ n9_ n10_ n11_ n12_ n13_ n14_ n15_ n16_
      (try clear hb)
      (try clear hb2)
      (try clear hk)
      (try clear hi)
      refine hK.out _ _ ⟨(kC_ BK187.out 0).trans rfl, (kC_ BK187.out 1).trans rfl, (kC_ BK158.out 0).trans rfl, (kC_ BK158.out 1).trans rfl⟩ (fun hHeld => ?_)
      clear hK K
      refine norm_ (a' := ?_) ?_ ?_
      rotate_left
      ·show Act.put _ (some 43) _ = _
       simp only [Act.put, List.setIfInBounds_toArray, List.set_cons_zero, List.set_cons_succ, i64_w, i32_w]
       rfl
      refine pure_ (i := 4) (N := some 44) (v := ?_) (a' := ?_) #[true, true, true, true, true] rfl rfl (by kernel_rfl) (fun _ _ _ h => h) (Or.inl ⟨by rfl, ?_⟩) ?_ ?_
      rotate_left
      ·intro w'
       go_simp
       with_reducible rfl
      rotate_left
      ·simp only [Act.put, List.setIfInBounds_toArray, List.set_cons_zero, List.set_cons_succ, i64_w, i32_w]
       rfl
      refine done_ (by kernel_rfl) ?_
      try go_wp2
      go_ret
      exact ⟨by first | rfl | (simp [errW_none, errW_some] <;> rfl) | (simp [*, errW_none, errW_some] <;> rfl), by repeat (with_reducible first | exact HB.out | apply bA_ | apply bN_ | apply bD_ | refine bS_ ?_ GE157.out | refine bS_ ?_ GE158.out | refine bS_ ?_ GE180.out | refine bS_ ?_ GE187.out)⟩
    ·replace c62 := Bool.eq_false_iff.mpr c62
     subst c62
     have H1 : (some false) = some r := by rw [if_neg (show ¬ (false = true) by decide)] at H; exact H
     clear H
     have H := H1
     clear H1
     obtain rfl := Option.some.inj H
     go_enter Try.func4, Try.ntmps4
     try go_wp2_with (first | ((with_reducible refine gate_dst (N := 2) rfl ?_); refine box_event ?hg (N := 2) ?hd (cs := #[.slice A0_0 l0_0.length c0_0, .slice A0_1 l0_1.length c0_1]) (t := 32) ?hr ?_; (case hd => rfl); (case hg => rfl); (case hr => first | (go_simp; done) | (go_simp; rfl)); intro gb157 hg w154 hbox hb; have n0_ := aM_ (bP_ (by repeat (with_reducible first | exact HB.out | apply bA_ | apply bN_ | apply bD_)) hb); have n1_ := aM_ (hbox); have n2_ := aM_ ((by rw [hg]; exact (bZ_ (by repeat (with_reducible first | exact HB.out | apply bA_ | apply bN_ | apply bD_))) : w.heap.size ≤ gb157)); have n3_ := aM_ ((by rw [hg]; exact (bZ_ (by repeat (with_reducible first | exact HB.out | apply bA_ | apply bN_ | apply bD_))) : w.heap.size ≤ gb157)); clear HB; have HB := n0_; have BK157 := n1_; have GW157 := n2_; have GE157 := n3_; clear n0_ n1_ n2_ n3_; clear hb hbox hg) | ((with_reducible refine gate_dst (N := 3) rfl ?_); refine box_event ?hg (N := 3) ?hd (cs := #[.slice A1_0 l1_0.length c1_0, .slice A1_1 l1_1.length c1_1]) (t := 32) ?hr ?_; (case hd => rfl); (case hg => rfl); (case hr => first | (go_simp; done) | (go_simp; rfl)); intro gb158 hg w155 hbox hb; have n0_ := aM_ (kB_ (g := gb157) (o := .cells #[.slice A0_0 l0_0.length c0_0, .slice A0_1 l0_1.length c0_1] 32 (0, 0)) (by (with_reducible repeat (first | refine kN_ ?_ _ | refine kD_ ?_ | refine kA_ ?_ _)); exact BK157.out) hb); have n1_ := aM_ (bP_ (by repeat (with_reducible first | exact HB.out | apply bA_ | apply bN_ | apply bD_ | refine bS_ ?_ GE157.out)) hb); have n2_ := aM_ (hbox); have n3_ := aM_ ((by rw [hg]; exact (bZ_ (by repeat (with_reducible first | exact HB.out | apply bA_ | apply bN_ | apply bD_ | refine bS_ ?_ GE157.out))) : w.heap.size ≤ gb158)); have n4_ := aM_ ((by rw [hg]; exact (bZ_ (by repeat (with_reducible first | exact HB.out | apply bA_ | apply bN_ | apply bD_ | refine bS_ ?_ GE157.out))) : w.heap.size ≤ gb158)); have n5_ := aM_ ((by rw [hg]; exact Nat.ne_of_lt (kL_ (g := gb157) (o := .cells #[.slice A0_0 l0_0.length c0_0, .slice A0_1 l0_1.length c0_1] 32 (0, 0)) (by (with_reducible repeat (first | refine kN_ ?_ _ | refine kD_ ?_ | refine kA_ ?_ _)); exact BK157.out)) : gb157 ≠ gb158)); have n6_ := aM_ ((by rw [hg]; exact Nat.ne_of_gt (kL_ (g := gb157) (o := .cells #[.slice A0_0 l0_0.length c0_0, .slice A0_1 l0_1.length c0_1] 32 (0, 0)) (by (with_reducible repeat (first | refine kN_ ?_ _ | refine kD_ ?_ | refine kA_ ?_ _)); exact BK157.out)) : gb158 ≠ gb157)); clear BK157; clear HB; have BK157 := n0_; have HB := n1_; have BK158 := n2_; have GW158 := n3_; have GE158 := n4_; have NB157_158 := n5_; have NB158_157 := n6_; clear n0_ n1_ n2_ n3_ n4_ n5_ n6_; clear hb hbox hg; have hnb156 := NB157_158.out; have hnc156 := NB158_157.out; have hcz157_0 : w155.cell? ⟨gb157, 0, none⟩ = some (.slice A0_0 l0_0.length c0_0) := (kC_ BK157.out 0).trans rfl; have hcz157_1 : w155.cell? ⟨gb157, 1, none⟩ = some (.slice A0_1 l0_1.length c0_1) := (kC_ BK157.out 1).trans rfl; have hfz157_0 := kZ_ BK157.out 0; have hfz157_1 := kZ_ BK157.out 1) | ((with_reducible refine gate_callee (f := 14) rfl ?_); refine goesL_ (some 12) rfl rfl Try.func14 (by kernel_rfl) rfl #[.agg #[.slice A0_0 l0_0.length c0_0, .slice A0_1 l0_1.length c0_1], .int .i64 1048576] rfl (by (try simp only [List.map_toArray, List.map_cons, List.map_nil]); first | done | rfl | (simp only [List.length_drop, List.length_take]; rfl)) ?_; (with_reducible refine (laws_szDevice.calls k _ _ l0_0 _ _ l0_1 1048576 t159 _ ?side1 ?side2 ?side3 ?side4 A3.out).mono ?_); (case side1 => repeat (first | exact (cB_ HR0_0.out HB.out) | (with_reducible refine cA_ ?_ _) | (with_reducible refine cN_ ?_ _) | (with_reducible refine cD_ ?_))); (case side2 => exact HC0_0.out); (case side3 => repeat (first | exact (cB_ HR0_1.out HB.out) | (with_reducible refine cA_ ?_ _) | (with_reducible refine cN_ ?_ _) | (with_reducible refine cD_ ?_))); (case side4 => exact HC0_1.out); rintro e w158 ⟨rfl, hb⟩; refine ⟨_, rfl, ?_⟩; have n0_ := aM_ (kB_ (g := gb157) (o := .cells #[.slice A0_0 l0_0.length c0_0, .slice A0_1 l0_1.length c0_1] 32 (0, 0)) (by (with_reducible repeat (first | refine kN_ ?_ _ | refine kD_ ?_ | refine kA_ ?_ _)); exact BK157.out) hb); have n1_ := aM_ (kB_ (g := gb158) (o := .cells #[.slice A1_0 l1_0.length c1_0, .slice A1_1 l1_1.length c1_1] 32 (0, 0)) (by (with_reducible repeat (first | refine kN_ ?_ _ | refine kD_ ?_ | refine kA_ ?_ _)); exact BK158.out) hb); have n2_ := aM_ (bP_ (by repeat (with_reducible first | exact HB.out | apply bA_ | apply bN_ | apply bD_ | refine bS_ ?_ GE157.out | refine bS_ ?_ GE158.out)) hb); clear BK157; clear BK158; clear HB; have BK157 := n0_; have BK158 := n1_; have HB := n2_; clear n0_ n1_ n2_; (try clear hb); (try clear hb2); (try clear hk); (try clear hi); have hcz159_0 : w158.cell? ⟨gb158, 0, none⟩ = some (.slice A1_0 l1_0.length c1_0) := (kC_ BK158.out 0).trans rfl; have hcz159_1 : w158.cell? ⟨gb158, 1, none⟩ = some (.slice A1_1 l1_1.length c1_1) := (kC_ BK158.out 1).trans rfl; have hfz159_0 := kZ_ BK158.out 0; have hfz159_1 := kZ_ BK158.out 1) | ((with_reducible refine gate_callee (f := 14) rfl ?_); refine goesL_ (some 17) rfl rfl Try.func14 (by kernel_rfl) rfl #[.agg #[.slice A1_0 l1_0.length c1_0, .slice A1_1 l1_1.length c1_1], .int .i64 t159] rfl (by (try simp only [List.map_toArray, List.map_cons, List.map_nil]); first | done | rfl | (simp only [List.length_drop, List.length_take]; rfl)) ?_; (with_reducible refine (laws_szDevice.calls k _ _ l1_0 _ _ l1_1 t159 t160 _ ?side1 ?side2 ?side3 ?side4 A10.out).mono ?_); (case side1 => repeat (first | exact (cB_ HR1_0.out HB.out) | (with_reducible refine cA_ ?_ _) | (with_reducible refine cN_ ?_ _) | (with_reducible refine cD_ ?_))); (case side2 => exact HC1_0.out); (case side3 => repeat (first | exact (cB_ HR1_1.out HB.out) | (with_reducible refine cA_ ?_ _) | (with_reducible refine cN_ ?_ _) | (with_reducible refine cD_ ?_))); (case side4 => exact HC1_1.out); rintro e w160 ⟨rfl, hb⟩; refine ⟨_, rfl, ?_⟩; have n0_ := aM_ (kB_ (g := gb157) (o := .cells #[.slice A0_0 l0_0.length c0_0, .slice A0_1 l0_1.length c0_1] 32 (0, 0)) (by (with_reducible repeat (first | refine kN_ ?_ _ | refine kD_ ?_ | refine kA_ ?_ _)); exact BK157.out) hb); have n1_ := aM_ (kB_ (g := gb158) (o := .cells #[.slice A1_0 l1_0.length c1_0, .slice A1_1 l1_1.length c1_1] 32 (0, 0)) (by (with_reducible repeat (first | refine kN_ ?_ _ | refine kD_ ?_ | refine kA_ ?_ _)); exact BK158.out) hb); have n2_ := aM_ (bP_ (by repeat (with_reducible first | exact HB.out | apply bA_ | apply bN_ | apply bD_ | refine bS_ ?_ GE157.out | refine bS_ ?_ GE158.out)) hb); clear BK157; clear BK158; clear HB; have BK157 := n0_; have BK158 := n1_; have HB := n2_; clear n0_ n1_ n2_; (try clear hb); (try clear hb2); (try clear hk); (try clear hi)))
     have n0_ := aM_ (kD_ BK157.out)
     have n1_ := aM_ (kD_ BK158.out)
     have n2_ := aM_ (bD_ HB.out)
     clear BK157
     clear BK158
     clear HB
     have BK157 := n0_
     have BK158 := n1_
     have HB := n2_
     clear n0_ n1_ n2_
     refine start_ (n := 6) (S := fun w' => w'.cell? ⟨gb157, 0, none⟩ = some (.slice A0_0 l0_0.length c0_0) ∧ w'.cell? ⟨gb157, 1, none⟩ = some (.slice A0_1 l0_1.length c0_1) ∧ w'.cell? ⟨gb158, 0, none⟩ = some (.slice A1_0 l1_0.length c1_0) ∧ w'.cell? ⟨gb158, 1, none⟩ = some (.slice A1_1 l1_1.length c1_1)) (ds := []) #[false, false, false, false, false, false] (by kernel_rfl) rfl rfl ⟨(kC_ BK157.out 0).trans rfl, (kC_ BK157.out 1).trans rfl, (kC_ BK158.out 0).trans rfl, (kC_ BK158.out 1).trans rfl⟩ (fun hHeld => ?_)
     generalize w160.drew = w161 at BK157 BK158 HB hHeld ⊢
     refine take_ (i := 0) (N := some 20) (v := ?_) (a' := ?_) #[true, false, false, false, false, false] rfl rfl (by kernel_rfl) (fun _ _ _ h => h) (Or.inl ⟨by rfl, ?_⟩) hHeld ?_ ?_
     rotate_left
     ·rintro w' ⟨s0, s1, s2, s3⟩
      go_simp
      with_reducible rfl
     rotate_left
     ·simp only [Act.put, List.setIfInBounds_toArray, List.set_cons_zero, List.set_cons_succ, i64_w, i32_w]
      rfl
     refine take_ (i := 2) (N := some 22) (v := ?_) (a' := ?_) #[true, false, true, false, false, false] rfl rfl (by kernel_rfl) (fun _ _ _ h => h) (Or.inl ⟨by rfl, ?_⟩) hHeld ?_ ?_
     rotate_left
     ·rintro w' ⟨s0, s1, s2, s3⟩
      go_simp
      with_reducible rfl
     rotate_left
     ·simp only [Act.put, List.setIfInBounds_toArray, List.set_cons_zero, List.set_cons_succ, i64_w, i32_w]
      rfl
     refine one_ (i := 1) (N := some 21) #[true, true, true, false, false, false] rfl rfl (by kernel_rfl) (by decide) (fun K hK => ?_)
     refine goes_ Try.func16 (by kernel_rfl) rfl #[.agg #[.slice A0_0 l0_0.length c0_0, .slice A0_1 l0_1.length c0_1]] (by rfl) rfl rfl (by (try simp only [List.map_toArray, List.map_cons, List.map_nil]); first | done | rfl | (simp only [List.length_drop, List.length_take]; rfl)) ?_
     with_reducible refine (laws_toDevice.calls k _ _ l0_0 _ _ l0_1 t161 t164 _ ?side1 ?side2 ?side3 ?side4 A19.out).mono ?_
     (case side1 => repeat (first | exact (cB_ HR0_0.out HB.out) | (with_reducible refine cA_ ?_ _) | (with_reducible refine cN_ ?_ _) | (with_reducible refine cD_ ?_)))
     (case side2 => exact HC0_0.out)
     (case side3 => repeat (first | exact (cB_ HR0_1.out HB.out) | (with_reducible refine cA_ ?_ _) | (with_reducible refine cN_ ?_ _) | (with_reducible refine cD_ ?_)))
     (case side4 => exact HC0_1.out)
     rintro e w162 ⟨v162, v165, rfl, ho0, ho1, hb⟩
     refine ⟨_, rfl, ?_⟩
     have n0_ := aM_ (rO_ ho0 (bZ_ (by repeat (with_reducible first | exact HB.out | apply bA_ | apply bN_ | apply bD_ | refine bS_ ?_ GE157.out | refine bS_ ?_ GE158.out))))
     have n1_ := aM_ (rO_ ho1 (bZ_ (by repeat (with_reducible first | exact HB.out | apply bA_ | apply bN_ | apply bD_ | refine bS_ ?_ GE157.out | refine bS_ ?_ GE158.out))))
     have n2_ := aM_ (kB_ (g := gb157) (o := .cells #[.slice A0_0 l0_0.length c0_0, .slice A0_1 l0_1.length c0_1] 32 (0, 0)) (by (with_reducible repeat (first | refine kN_ ?_ _ | refine kD_ ?_ | refine kA_ ?_ _)); exact BK157.out) hb)
     have n3_ := aM_ (kB_ (g := gb158) (o := .cells #[.slice A1_0 l1_0.length c1_0, .slice A1_1 l1_1.length c1_1] 32 (0, 0)) (by (with_reducible repeat (first | refine kN_ ?_ _ | refine kD_ ?_ | refine kA_ ?_ _)); exact BK158.out) hb)
     have n4_ := aM_ (bP_ (by repeat (with_reducible first | exact HB.out | apply bA_ | apply bN_ | apply bD_ | refine bS_ ?_ GE157.out | refine bS_ ?_ GE158.out)) hb)
     clear BK157
     clear BK158
     clear HB
     have HO163 := n0_
     have HO166 := n1_
     have BK157 := n2_
     have BK158 := n3_
     have HB := n4_
     clear n0_ n1_ n2_ n3_ n4_
     (try clear hb)
     (try clear hb2)
     (try clear hk)
     (try clear hi)
     (try clear ho0)
     (try clear ho1)
     refine hK.out _ _ ⟨(kC_ BK157.out 0).trans rfl, (kC_ BK157.out 1).trans rfl, (kC_ BK158.out 0).trans rfl, (kC_ BK158.out 1).trans rfl⟩ (fun hHeld => ?_)
     clear hK K
     refine norm_ (a' := ?_) ?_ ?_
     rotate_left
     ·show Act.put _ (some 21) _ = _
      simp only [Act.put, List.setIfInBounds_toArray, List.set_cons_zero, List.set_cons_succ, i64_w, i32_w]
      rfl
     refine one_ (i := 3) (N := some 23) #[true, true, true, true, false, false] rfl rfl (by kernel_rfl) (by decide) (fun K hK => ?_)
     refine goes_ Try.func16 (by kernel_rfl) rfl #[.agg #[.slice A1_0 l1_0.length c1_0, .slice A1_1 l1_1.length c1_1]] (by rfl) rfl rfl (by (try simp only [List.map_toArray, List.map_cons, List.map_nil]); first | done | rfl | (simp only [List.length_drop, List.length_take]; rfl)) ?_
     with_reducible refine (laws_toDevice.calls k _ _ l1_0 _ _ l1_1 t167 t170 _ ?side1 ?side2 ?side3 ?side4 A20.out).mono ?_
     (case side1 => repeat (first | exact (cB_ HR1_0.out HB.out) | (with_reducible refine cA_ ?_ _) | (with_reducible refine cN_ ?_ _) | (with_reducible refine cD_ ?_)))
     (case side2 => exact HC1_0.out)
     (case side3 => repeat (first | exact (cB_ HR1_1.out HB.out) | (with_reducible refine cA_ ?_ _) | (with_reducible refine cN_ ?_ _) | (with_reducible refine cD_ ?_)))
     (case side4 => exact HC1_1.out)
     rintro e w163 ⟨v168, v171, rfl, ho0, ho1, hb⟩
     refine ⟨_, rfl, ?_⟩
     have n0_ := aM_ (rE_ (by (with_reducible repeat (first | apply rA_ | apply rN_)); exact HO163.out) (rS_ ho0) hb)
     have n1_ := aM_ (rE_ (by (with_reducible repeat (first | apply rA_ | apply rN_)); exact HO166.out) (rS_ ho1) hb)
     have n2_ := aM_ (rO_ (rW_ ho0 (rL_ (by (with_reducible repeat (first | apply rA_ | apply rN_)); exact HO163.out))) (bZ_ (by repeat (with_reducible first | exact HB.out | apply bA_ | apply bN_ | apply bD_ | refine bS_ ?_ GE157.out | refine bS_ ?_ GE158.out))))
     have n3_ := aM_ (rO_ (rW_ ho1 (rL_ (by (with_reducible repeat (first | apply rA_ | apply rN_)); exact HO166.out))) (bZ_ (by repeat (with_reducible first | exact HB.out | apply bA_ | apply bN_ | apply bD_ | refine bS_ ?_ GE157.out | refine bS_ ?_ GE158.out))))
     have n4_ := aM_ (kB_ (g := gb157) (o := .cells #[.slice A0_0 l0_0.length c0_0, .slice A0_1 l0_1.length c0_1] 32 (0, 0)) (by (with_reducible repeat (first | refine kN_ ?_ _ | refine kD_ ?_ | refine kA_ ?_ _)); exact BK157.out) hb)
     have n5_ := aM_ (kB_ (g := gb158) (o := .cells #[.slice A1_0 l1_0.length c1_0, .slice A1_1 l1_1.length c1_1] 32 (0, 0)) (by (with_reducible repeat (first | refine kN_ ?_ _ | refine kD_ ?_ | refine kA_ ?_ _)); exact BK158.out) hb)
     have n6_ := aM_ (bP_ (by repeat (with_reducible first | exact HB.out | apply bA_ | apply bN_ | apply bD_ | refine bS_ ?_ GE157.out | refine bS_ ?_ GE158.out)) hb)
     clear HO163
     clear HO166
     clear BK157
     clear BK158
     clear HB
     have HO163 := n0_
     have HO166 := n1_
     have HO169 := n2_
     have HO172 := n3_
     have BK157 := n4_
     have BK158 := n5_
     have HB := n6_
     clear n0_ n1_ n2_ n3_ n4_ n5_ n6_
     (try clear hb)
     (try clear hb2)
     (try clear hk)
     (try clear hi)
     (try clear ho0)
     (try clear ho1)
     obtain ⟨Ao164, co164, eo164⟩ := Kd.R_slice HO163.out
     (first | subst eo164 | (injection eo164 with f1_ f2_ f3_; have f4_ := f1_.symm; have f5_ := f3_.symm; clear f1_ f2_ f3_; subst f4_; subst f5_))
     obtain ⟨Ao165, co165, eo165⟩ := Kd.R_slice HO166.out
     (first | subst eo165 | (injection eo165 with f1_ f2_ f3_; have f4_ := f1_.symm; have f5_ := f3_.symm; clear f1_ f2_ f3_; subst f4_; subst f5_))
     obtain ⟨Ao166, co166, eo166⟩ := Kd.R_slice HO169.out
     (first | subst eo166 | (injection eo166 with f1_ f2_ f3_; have f4_ := f1_.symm; have f5_ := f3_.symm; clear f1_ f2_ f3_; subst f4_; subst f5_))
     obtain ⟨Ao167, co167, eo167⟩ := Kd.R_slice HO172.out
     (first | subst eo167 | (injection eo167 with f1_ f2_ f3_; have f4_ := f1_.symm; have f5_ := f3_.symm; clear f1_ f2_ f3_; subst f4_; subst f5_))
     refine hK.out _ _ ⟨(kC_ BK157.out 0).trans rfl, (kC_ BK157.out 1).trans rfl, (kC_ BK158.out 0).trans rfl, (kC_ BK158.out 1).trans rfl⟩ (fun hHeld => ?_)
     clear hK K
     refine norm_ (a' := ?_) ?_ ?_
     rotate_left
     ·show Act.put _ (some 23) _ = _
      simp only [Act.put, List.setIfInBounds_toArray, List.set_cons_zero, List.set_cons_succ, i64_w, i32_w]
      rfl
     refine one_ (i := 4) (N := some 24) #[true, true, true, true, true, false] rfl rfl (by kernel_rfl) (by decide) (fun K hK => ?_)
     refine goes_ Try.func15 (by kernel_rfl) rfl #[.agg #[.slice Ao164 t161.length co164, .slice Ao165 t164.length co165], .agg #[.slice Ao166 t167.length co166, .slice Ao167 t170.length co167]] (by rfl) rfl rfl (by (try simp only [List.map_toArray, List.map_cons, List.map_nil]); first | done | rfl | (simp only [List.length_drop, List.length_take]; rfl)) ?_
     with_reducible refine (spec_SameDevice.calls k _ _ t161 _ _ t164 _ _ t167 _ _ t170 t173 _ ?side1 ?side2 ?side3 ?side4 ?side5 ?side6 ?side7 ?side8 A21.out).mono ?_
     (case side1 => repeat (first | exact (rR_ HO163.out).2.2 | (with_reducible refine cA_ ?_ _) | (with_reducible refine cN_ ?_ _) | (with_reducible refine cD_ ?_)))
     (case side2 => exact (rR_ HO163.out).2.1)
     (case side3 => repeat (first | exact (rR_ HO166.out).2.2 | (with_reducible refine cA_ ?_ _) | (with_reducible refine cN_ ?_ _) | (with_reducible refine cD_ ?_)))
     (case side4 => exact (rR_ HO166.out).2.1)
     (case side5 => repeat (first | exact (rR_ HO169.out).2.2 | (with_reducible refine cA_ ?_ _) | (with_reducible refine cN_ ?_ _) | (with_reducible refine cD_ ?_)))
     (case side6 => exact (rR_ HO169.out).2.1)
     (case side7 => repeat (first | exact (rR_ HO172.out).2.2 | (with_reducible refine cA_ ?_ _) | (with_reducible refine cN_ ?_ _) | (with_reducible refine cD_ ?_)))
     (case side8 => exact (rR_ HO172.out).2.1)
     rintro e w168 ⟨rfl, hb⟩
     refine ⟨_, rfl, ?_⟩
     have n0_ := aM_ (rB_ (by (with_reducible repeat (first | apply rA_ | apply rN_)); exact HO163.out) hb)
     have n1_ := aM_ (rB_ (by (with_reducible repeat (first | apply rA_ | apply rN_)); exact HO166.out) hb)
     have n2_ := aM_ (rB_ (by (with_reducible repeat (first | apply rA_ | apply rN_)); exact HO169.out) hb)
     have n3_ := aM_ (rB_ (by (with_reducible repeat (first | apply rA_ | apply rN_)); exact HO172.out) hb)
     have n4_ := aM_ (kB_ (g := gb157) (o := .cells #[.slice A0_0 l0_0.length c0_0, .slice A0_1 l0_1.length c0_1] 32 (0, 0)) (by (with_reducible repeat (first | refine kN_ ?_ _ | refine kD_ ?_ | refine kA_ ?_ _)); exact BK157.out) hb)
     have n5_ := aM_ (kB_ (g := gb158) (o := .cells #[.slice A1_0 l1_0.length c1_0, .slice A1_1 l1_1.length c1_1] 32 (0, 0)) (by (with_reducible repeat (first | refine kN_ ?_ _ | refine kD_ ?_ | refine kA_ ?_ _)); exact BK158.out) hb)
     have n6_ := aM_ (bP_ (by repeat (with_reducible first | exact HB.out | apply bA_ | apply bN_ | apply bD_ | refine bS_ ?_ GE157.out | refine bS_ ?_ GE158.out)) hb)
     clear HO163
     clear HO166
     clear HO169
     clear HO172
     clear BK157
     clear BK158
     clear HB
     have HO163 := n0_
     have HO166 := n1_
     have HO169 := n2_
     have HO172 := n3_
     have BK157 := n4_
     have BK158 := n5_
     have HB := n6_
     clear n0_ n1_ n2_ n3_ n4_ n5_ n6_
     (try clear hb)
     (try clear hb2)
     (try clear hk)
     (try clear hi)
     refine hK.out _ _ ⟨(kC_ BK157.out 0).trans rfl, (kC_ BK157.out 1).trans rfl, (kC_ BK158.out 0).trans rfl, (kC_ BK158.out 1).trans rfl⟩ (fun hHeld => ?_)
     clear hK K
     refine norm_ (a' := ?_) ?_ ?_
     rotate_left
     ·show Act.put _ (some 24) _ = _
      simp only [Act.put, List.setIfInBounds_toArray, List.set_cons_zero, List.set_cons_succ, i64_w, i32_w]
      rfl
     refine pure_ (i := 5) (N := some 6) (v := ?_) (a' := ?_) #[true, true, true, true, true, true] rfl rfl (by kernel_rfl) (fun _ _ _ h => h) (Or.inl ⟨by rfl, ?_⟩) ?_ ?_
     rotate_left
     ·intro w'
      go_simp
      with_reducible rfl
     rotate_left
     ·simp only [Act.put, List.setIfInBounds_toArray, List.set_cons_zero, List.set_cons_succ, i64_w, i32_w]
      rfl
     refine done_ (by kernel_rfl) ?_
     have hcz169_0 : w168.cell? ⟨gb157, 0, none⟩ = some (.slice A0_0 l0_0.length c0_0) := (kC_ BK157.out 0).trans rfl
     have hcz169_1 : w168.cell? ⟨gb157, 1, none⟩ = some (.slice A0_1 l0_1.length c0_1) := (kC_ BK157.out 1).trans rfl
     have hfz169_0 := kZ_ BK157.out 0
     have hfz169_1 := kZ_ BK157.out 1
     try go_wp2_with (first | ((with_reducible refine gate_callee (f := 16) rfl ?_); refine goesL_ (some 26) rfl rfl Try.func16 (by kernel_rfl) rfl #[.agg #[.slice A0_0 l0_0.length c0_0, .slice A0_1 l0_1.length c0_1]] rfl (by (try simp only [List.map_toArray, List.map_cons, List.map_nil]); first | done | rfl | (simp only [List.length_drop, List.length_take]; rfl)) ?_; (with_reducible refine (laws_toDevice.calls k _ _ l0_0 _ _ l0_1 t174 t177 _ ?side1 ?side2 ?side3 ?side4 A22.out).mono ?_); (case side1 => repeat (first | exact (cB_ HR0_0.out HB.out) | (with_reducible refine cA_ ?_ _) | (with_reducible refine cN_ ?_ _) | (with_reducible refine cD_ ?_))); (case side2 => exact HC0_0.out); (case side3 => repeat (first | exact (cB_ HR0_1.out HB.out) | (with_reducible refine cA_ ?_ _) | (with_reducible refine cN_ ?_ _) | (with_reducible refine cD_ ?_))); (case side4 => exact HC0_1.out); rintro e w170 ⟨v175, v178, rfl, ho0, ho1, hb⟩; refine ⟨_, rfl, ?_⟩; have n0_ := aM_ (rE_ (by (with_reducible repeat (first | apply rA_ | apply rN_)); exact HO163.out) (rS_ ho0) hb); have n1_ := aM_ (rE_ (by (with_reducible repeat (first | apply rA_ | apply rN_)); exact HO166.out) (rS_ ho1) hb); have n2_ := aM_ (rE_ (by (with_reducible repeat (first | apply rA_ | apply rN_)); exact HO169.out) (rS_ ho0) hb); have n3_ := aM_ (rE_ (by (with_reducible repeat (first | apply rA_ | apply rN_)); exact HO172.out) (rS_ ho1) hb); have n4_ := aM_ (rO_ (rW_ (rW_ ho0 (rL_ (by (with_reducible repeat (first | apply rA_ | apply rN_)); exact HO163.out))) (rL_ (by (with_reducible repeat (first | apply rA_ | apply rN_)); exact HO169.out))) (bZ_ (by repeat (with_reducible first | exact HB.out | apply bA_ | apply bN_ | apply bD_ | refine bS_ ?_ GE157.out | refine bS_ ?_ GE158.out)))); have n5_ := aM_ (rO_ (rW_ (rW_ ho1 (rL_ (by (with_reducible repeat (first | apply rA_ | apply rN_)); exact HO166.out))) (rL_ (by (with_reducible repeat (first | apply rA_ | apply rN_)); exact HO172.out))) (bZ_ (by repeat (with_reducible first | exact HB.out | apply bA_ | apply bN_ | apply bD_ | refine bS_ ?_ GE157.out | refine bS_ ?_ GE158.out)))); have n6_ := aM_ (kB_ (g := gb157) (o := .cells #[.slice A0_0 l0_0.length c0_0, .slice A0_1 l0_1.length c0_1] 32 (0, 0)) (by (with_reducible repeat (first | refine kN_ ?_ _ | refine kD_ ?_ | refine kA_ ?_ _)); exact BK157.out) hb); have n7_ := aM_ (kB_ (g := gb158) (o := .cells #[.slice A1_0 l1_0.length c1_0, .slice A1_1 l1_1.length c1_1] 32 (0, 0)) (by (with_reducible repeat (first | refine kN_ ?_ _ | refine kD_ ?_ | refine kA_ ?_ _)); exact BK158.out) hb); have n8_ := aM_ (bP_ (by repeat (with_reducible first | exact HB.out | apply bA_ | apply bN_ | apply bD_ | refine bS_ ?_ GE157.out | refine bS_ ?_ GE158.out)) hb); clear HO163; clear HO166; clear HO169; clear HO172; clear BK157; clear BK158; clear HB; have HO163 := n0_; have HO166 := n1_; have HO169 := n2_; have HO172 := n3_; have HO176 := n4_; have HO179 := n5_; have BK157 := n6_; have BK158 := n7_; have HB := n8_; clear n0_ n1_ n2_ n3_ n4_ n5_ n6_ n7_ n8_; (try clear hb); (try clear hb2); (try clear hk); (try clear hi); (try clear ho0); (try clear ho1)) | ((with_reducible refine gate_dst (N := 7) rfl ?_); refine box_event ?hg (N := 7) ?hd (cs := #[.slice none 0 0, .slice none 0 0]) (t := 25) ?hr ?_; (case hd => rfl); (case hg => rfl); (case hr => first | (go_simp; done) | (go_simp; rfl)); intro gb180 hg w171 hbox hb; have n0_ := aM_ (rB_ (by (with_reducible repeat (first | apply rA_ | apply rN_)); exact HO163.out) hb); have n1_ := aM_ (rB_ (by (with_reducible repeat (first | apply rA_ | apply rN_)); exact HO166.out) hb); have n2_ := aM_ (rB_ (by (with_reducible repeat (first | apply rA_ | apply rN_)); exact HO169.out) hb); have n3_ := aM_ (rB_ (by (with_reducible repeat (first | apply rA_ | apply rN_)); exact HO172.out) hb); have n4_ := aM_ (rB_ (by (with_reducible repeat (first | apply rA_ | apply rN_)); exact HO176.out) hb); have n5_ := aM_ (rB_ (by (with_reducible repeat (first | apply rA_ | apply rN_)); exact HO179.out) hb); have n6_ := aM_ (kB_ (g := gb157) (o := .cells #[.slice A0_0 l0_0.length c0_0, .slice A0_1 l0_1.length c0_1] 32 (0, 0)) (by (with_reducible repeat (first | refine kN_ ?_ _ | refine kD_ ?_ | refine kA_ ?_ _)); exact BK157.out) hb); have n7_ := aM_ (kB_ (g := gb158) (o := .cells #[.slice A1_0 l1_0.length c1_0, .slice A1_1 l1_1.length c1_1] 32 (0, 0)) (by (with_reducible repeat (first | refine kN_ ?_ _ | refine kD_ ?_ | refine kA_ ?_ _)); exact BK158.out) hb); have n8_ := aM_ (bP_ (by repeat (with_reducible first | exact HB.out | apply bA_ | apply bN_ | apply bD_ | refine bS_ ?_ GE157.out | refine bS_ ?_ GE158.out)) hb); have n9_ := aM_ (hbox); have n10_ := aM_ ((by rw [hg]; exact (bZ_ (by repeat (with_reducible first | exact HB.out | apply bA_ | apply bN_ | apply bD_ | refine bS_ ?_ GE157.out | refine bS_ ?_ GE158.out))) : w.heap.size ≤ gb180)); have n11_ := aM_ ((by rw [hg]; exact (bZ_ (by repeat (with_reducible first | exact HB.out | apply bA_ | apply bN_ | apply bD_ | refine bS_ ?_ GE157.out | refine bS_ ?_ GE158.out))) : w.heap.size ≤ gb180)); have n12_ := aM_ ((by rw [hg]; exact Nat.ne_of_lt (kL_ (g := gb157) (o := .cells #[.slice A0_0 l0_0.length c0_0, .slice A0_1 l0_1.length c0_1] 32 (0, 0)) (by (with_reducible repeat (first | refine kN_ ?_ _ | refine kD_ ?_ | refine kA_ ?_ _)); exact BK157.out)) : gb157 ≠ gb180)); have n13_ := aM_ ((by rw [hg]; exact Nat.ne_of_gt (kL_ (g := gb157) (o := .cells #[.slice A0_0 l0_0.length c0_0, .slice A0_1 l0_1.length c0_1] 32 (0, 0)) (by (with_reducible repeat (first | refine kN_ ?_ _ | refine kD_ ?_ | refine kA_ ?_ _)); exact BK157.out)) : gb180 ≠ gb157)); have n14_ := aM_ ((by rw [hg]; exact Nat.ne_of_lt (kL_ (g := gb158) (o := .cells #[.slice A1_0 l1_0.length c1_0, .slice A1_1 l1_1.length c1_1] 32 (0, 0)) (by (with_reducible repeat (first | refine kN_ ?_ _ | refine kD_ ?_ | refine kA_ ?_ _)); exact BK158.out)) : gb158 ≠ gb180)); have n15_ := aM_ ((by rw [hg]; exact Nat.ne_of_gt (kL_ (g := gb158) (o := .cells #[.slice A1_0 l1_0.length c1_0, .slice A1_1 l1_1.length c1_1] 32 (0, 0)) (by (with_reducible repeat (first | refine kN_ ?_ _ | refine kD_ ?_ | refine kA_ ?_ _)); exact BK158.out)) : gb180 ≠ gb158)); clear HO163; clear HO166; clear HO169; clear HO172; clear HO176; clear HO179; clear BK157; clear BK158; clear HB; have HO163 := n0_; have HO166 := n1_; have HO169 := n2_; have HO172 := n3_; have HO176 := n4_; have HO179 := n5_; have BK157 := n6_; have BK158 := n7_; have HB := n8_; have BK180 := n9_; have GW180 := n10_; have GE180 := n11_; have NB157_180 := n12_; have NB180_157 := n13_; have NB158_180 := n14_; have NB180_158 := n15_; clear n0_ n1_ n2_ n3_ n4_ n5_ n6_ n7_ n8_ n9_ n10_ n11_ n12_ n13_ n14_ n15_; clear hb hbox hg; obtain ⟨Ao172, co172, eo172⟩ := Kd.R_slice HO176.out; subst eo172; have hnb173 := NB180_157.out; have hnc173 := NB157_180.out; have hnb174 := NB180_158.out; have hnc174 := NB158_180.out; have hcz175_0 : w171.cell? ⟨gb180, 0, none⟩ = some (.slice none 0 0) := (kC_ BK180.out 0).trans rfl; have hcz175_1 : w171.cell? ⟨gb180, 1, none⟩ = some (.slice none 0 0) := (kC_ BK180.out 1).trans rfl; have hfz175_0 := kZ_ BK180.out 0; have hfz175_1 := kZ_ BK180.out 1; obtain ⟨Ao176, co176, eo176⟩ := Kd.R_slice HO179.out; subst eo176; have hcz177_0 : w171.cell? ⟨gb158, 0, none⟩ = some (.slice A1_0 l1_0.length c1_0) := (kC_ BK158.out 0).trans rfl; have hcz177_1 : w171.cell? ⟨gb158, 1, none⟩ = some (.slice A1_1 l1_1.length c1_1) := (kC_ BK158.out 1).trans rfl; have hfz177_0 := kZ_ BK158.out 0; have hfz177_1 := kZ_ BK158.out 1) | ((with_reducible refine gate_callee (f := 16) rfl ?_); refine goesL_ (some 28) rfl rfl Try.func16 (by kernel_rfl) rfl #[.agg #[.slice A1_0 l1_0.length c1_0, .slice A1_1 l1_1.length c1_1]] rfl (by (try simp only [List.map_toArray, List.map_cons, List.map_nil]); first | done | rfl | (simp only [List.length_drop, List.length_take]; rfl)) ?_; (with_reducible refine (laws_toDevice.calls k _ _ l1_0 _ _ l1_1 t181 t184 _ ?side1 ?side2 ?side3 ?side4 A23.out).mono ?_); (case side1 => exact cB_ HR1_0.out (by repeat (with_reducible first | exact HB.out | apply bA_ | apply bN_ | apply bD_ | refine bS_ ?_ GE157.out | refine bS_ ?_ GE158.out | refine bS_ ?_ GE180.out))); (case side2 => exact HC1_0.out); (case side3 => exact cB_ HR1_1.out (by repeat (with_reducible first | exact HB.out | apply bA_ | apply bN_ | apply bD_ | refine bS_ ?_ GE157.out | refine bS_ ?_ GE158.out | refine bS_ ?_ GE180.out))); (case side4 => exact HC1_1.out); rintro e w178 ⟨v182, v185, rfl, ho0, ho1, hb⟩; refine ⟨_, rfl, ?_⟩; have n0_ := aM_ (rE_ (by (with_reducible repeat (first | apply rA_ | apply rN_)); exact (rM_ (rF_ (p := ⟨gb180, 1, none⟩) (rF_ (p := ⟨gb180, 0, none⟩) (rT_ HO163.out BK180.out (by decide)) (fun _ hk => hk.2) (.slice Ao172 t174.length co172)) (fun _ hk => hk.2) (.slice Ao176 t177.length co176)) (fun _ h_ => h_.1))) (rS_ ho0) hb); have n1_ := aM_ (rE_ (by (with_reducible repeat (first | apply rA_ | apply rN_)); exact (rM_ (rF_ (p := ⟨gb180, 1, none⟩) (rF_ (p := ⟨gb180, 0, none⟩) (rT_ HO166.out BK180.out (by decide)) (fun _ hk => hk.2) (.slice Ao172 t174.length co172)) (fun _ hk => hk.2) (.slice Ao176 t177.length co176)) (fun _ h_ => h_.1))) (rS_ ho1) hb); have n2_ := aM_ (rE_ (by (with_reducible repeat (first | apply rA_ | apply rN_)); exact (rM_ (rF_ (p := ⟨gb180, 1, none⟩) (rF_ (p := ⟨gb180, 0, none⟩) (rT_ HO169.out BK180.out (by decide)) (fun _ hk => hk.2) (.slice Ao172 t174.length co172)) (fun _ hk => hk.2) (.slice Ao176 t177.length co176)) (fun _ h_ => h_.1))) (rS_ ho0) hb); have n3_ := aM_ (rE_ (by (with_reducible repeat (first | apply rA_ | apply rN_)); exact (rM_ (rF_ (p := ⟨gb180, 1, none⟩) (rF_ (p := ⟨gb180, 0, none⟩) (rT_ HO172.out BK180.out (by decide)) (fun _ hk => hk.2) (.slice Ao172 t174.length co172)) (fun _ hk => hk.2) (.slice Ao176 t177.length co176)) (fun _ h_ => h_.1))) (rS_ ho1) hb); have n4_ := aM_ (rE_ (by (with_reducible repeat (first | apply rA_ | apply rN_)); exact (rM_ (rF_ (p := ⟨gb180, 1, none⟩) (rF_ (p := ⟨gb180, 0, none⟩) (rT_ HO176.out BK180.out (by decide)) (fun _ hk => hk.2) (.slice Ao172 t174.length co172)) (fun _ hk => hk.2) (.slice Ao176 t177.length co176)) (fun _ h_ => h_.1))) (rS_ ho0) hb); have n5_ := aM_ (rE_ (by (with_reducible repeat (first | apply rA_ | apply rN_)); exact (rM_ (rF_ (p := ⟨gb180, 1, none⟩) (rF_ (p := ⟨gb180, 0, none⟩) (rT_ HO179.out BK180.out (by decide)) (fun _ hk => hk.2) (.slice Ao172 t174.length co172)) (fun _ hk => hk.2) (.slice Ao176 t177.length co176)) (fun _ h_ => h_.1))) (rS_ ho1) hb); have n6_ := aM_ (rO_ (rW_ (rW_ (rW_ ho0 (rL_ (by (with_reducible repeat (first | apply rA_ | apply rN_)); exact (rM_ (rF_ (p := ⟨gb180, 1, none⟩) (rF_ (p := ⟨gb180, 0, none⟩) (rT_ HO163.out BK180.out (by decide)) (fun _ hk => hk.2) (.slice Ao172 t174.length co172)) (fun _ hk => hk.2) (.slice Ao176 t177.length co176)) (fun _ h_ => h_.1))))) (rL_ (by (with_reducible repeat (first | apply rA_ | apply rN_)); exact (rM_ (rF_ (p := ⟨gb180, 1, none⟩) (rF_ (p := ⟨gb180, 0, none⟩) (rT_ HO169.out BK180.out (by decide)) (fun _ hk => hk.2) (.slice Ao172 t174.length co172)) (fun _ hk => hk.2) (.slice Ao176 t177.length co176)) (fun _ h_ => h_.1))))) (rL_ (by (with_reducible repeat (first | apply rA_ | apply rN_)); exact (rM_ (rF_ (p := ⟨gb180, 1, none⟩) (rF_ (p := ⟨gb180, 0, none⟩) (rT_ HO176.out BK180.out (by decide)) (fun _ hk => hk.2) (.slice Ao172 t174.length co172)) (fun _ hk => hk.2) (.slice Ao176 t177.length co176)) (fun _ h_ => h_.1))))) (bZ_ (by repeat (with_reducible first | exact HB.out | apply bA_ | apply bN_ | apply bD_ | refine bS_ ?_ GE157.out | refine bS_ ?_ GE158.out | refine bS_ ?_ GE180.out)))); have n7_ := aM_ (rO_ (rW_ (rW_ (rW_ ho1 (rL_ (by (with_reducible repeat (first | apply rA_ | apply rN_)); exact (rM_ (rF_ (p := ⟨gb180, 1, none⟩) (rF_ (p := ⟨gb180, 0, none⟩) (rT_ HO166.out BK180.out (by decide)) (fun _ hk => hk.2) (.slice Ao172 t174.length co172)) (fun _ hk => hk.2) (.slice Ao176 t177.length co176)) (fun _ h_ => h_.1))))) (rL_ (by (with_reducible repeat (first | apply rA_ | apply rN_)); exact (rM_ (rF_ (p := ⟨gb180, 1, none⟩) (rF_ (p := ⟨gb180, 0, none⟩) (rT_ HO172.out BK180.out (by decide)) (fun _ hk => hk.2) (.slice Ao172 t174.length co172)) (fun _ hk => hk.2) (.slice Ao176 t177.length co176)) (fun _ h_ => h_.1))))) (rL_ (by (with_reducible repeat (first | apply rA_ | apply rN_)); exact (rM_ (rF_ (p := ⟨gb180, 1, none⟩) (rF_ (p := ⟨gb180, 0, none⟩) (rT_ HO179.out BK180.out (by decide)) (fun _ hk => hk.2) (.slice Ao172 t174.length co172)) (fun _ hk => hk.2) (.slice Ao176 t177.length co176)) (fun _ h_ => h_.1))))) (bZ_ (by repeat (with_reducible first | exact HB.out | apply bA_ | apply bN_ | apply bD_ | refine bS_ ?_ GE157.out | refine bS_ ?_ GE158.out | refine bS_ ?_ GE180.out)))); have n8_ := aM_ (kB_ (g := gb157) (o := .cells #[.slice A0_0 l0_0.length c0_0, .slice A0_1 l0_1.length c0_1] 32 (0, 0)) (by (with_reducible repeat (first | refine kN_ ?_ _ | refine kD_ ?_ | refine kA_ ?_ _)); refine kF_ ?_ NB157_180.out _; (with_reducible repeat (first | refine kN_ ?_ _ | refine kD_ ?_ | refine kA_ ?_ _)); refine kF_ ?_ NB157_180.out _; (with_reducible repeat (first | refine kN_ ?_ _ | refine kD_ ?_ | refine kA_ ?_ _)); exact BK157.out) hb); have n9_ := aM_ (kB_ (g := gb158) (o := .cells #[.slice A1_0 l1_0.length c1_0, .slice A1_1 l1_1.length c1_1] 32 (0, 0)) (by (with_reducible repeat (first | refine kN_ ?_ _ | refine kD_ ?_ | refine kA_ ?_ _)); refine kF_ ?_ NB158_180.out _; (with_reducible repeat (first | refine kN_ ?_ _ | refine kD_ ?_ | refine kA_ ?_ _)); refine kF_ ?_ NB158_180.out _; (with_reducible repeat (first | refine kN_ ?_ _ | refine kD_ ?_ | refine kA_ ?_ _)); exact BK158.out) hb); have n10_ := aM_ (kB_ (g := gb180) (o := .cells #[.slice Ao172 t174.length co172, .slice Ao176 t177.length co176] 25 (0, 0)) (by (with_reducible repeat (first | refine kN_ ?_ _ | refine kD_ ?_ | refine kA_ ?_ _)); refine blk_put (cs := #[.slice Ao172 t174.length co172, .slice none 0 0]) ?_ 1 _ rfl; (with_reducible repeat (first | refine kN_ ?_ _ | refine kD_ ?_ | refine kA_ ?_ _)); refine blk_put (cs := #[.slice none 0 0, .slice none 0 0]) ?_ 0 _ rfl; (with_reducible repeat (first | refine kN_ ?_ _ | refine kD_ ?_ | refine kA_ ?_ _)); exact BK180.out) hb); have n11_ := aM_ (bP_ (by repeat (with_reducible first | exact HB.out | apply bA_ | apply bN_ | apply bD_ | refine bS_ ?_ GE157.out | refine bS_ ?_ GE158.out | refine bS_ ?_ GE180.out)) hb); clear HO163; clear HO166; clear HO169; clear HO172; clear HO176; clear HO179; clear BK157; clear BK158; clear BK180; clear HB; have HO163 := n0_; have HO166 := n1_; have HO169 := n2_; have HO172 := n3_; have HO176 := n4_; have HO179 := n5_; have HO183 := n6_; have HO186 := n7_; have BK157 := n8_; have BK158 := n9_; have BK180 := n10_; have HB := n11_; clear n0_ n1_ n2_ n3_ n4_ n5_ n6_ n7_ n8_ n9_ n10_ n11_; (try clear hb); (try clear hb2); (try clear hk); (try clear hi); (try clear ho0); (try clear ho1)) | ((with_reducible refine gate_dst (N := 8) rfl ?_); refine box_event ?hg (N := 8) ?hd (cs := #[.slice none 0 0, .slice none 0 0]) (t := 25) ?hr ?_; (case hd => rfl); (case hg => rfl); (case hr => first | (go_simp; done) | (go_simp; rfl)); intro gb187 hg w179 hbox hb; have n0_ := aM_ (rB_ (by (with_reducible repeat (first | apply rA_ | apply rN_)); exact HO163.out) hb); have n1_ := aM_ (rB_ (by (with_reducible repeat (first | apply rA_ | apply rN_)); exact HO166.out) hb); have n2_ := aM_ (rB_ (by (with_reducible repeat (first | apply rA_ | apply rN_)); exact HO169.out) hb); have n3_ := aM_ (rB_ (by (with_reducible repeat (first | apply rA_ | apply rN_)); exact HO172.out) hb); have n4_ := aM_ (rB_ (by (with_reducible repeat (first | apply rA_ | apply rN_)); exact HO176.out) hb); have n5_ := aM_ (rB_ (by (with_reducible repeat (first | apply rA_ | apply rN_)); exact HO179.out) hb); have n6_ := aM_ (rB_ (by (with_reducible repeat (first | apply rA_ | apply rN_)); exact HO183.out) hb); have n7_ := aM_ (rB_ (by (with_reducible repeat (first | apply rA_ | apply rN_)); exact HO186.out) hb); have n8_ := aM_ (kB_ (g := gb157) (o := .cells #[.slice A0_0 l0_0.length c0_0, .slice A0_1 l0_1.length c0_1] 32 (0, 0)) (by (with_reducible repeat (first | refine kN_ ?_ _ | refine kD_ ?_ | refine kA_ ?_ _)); exact BK157.out) hb); have n9_ := aM_ (kB_ (g := gb158) (o := .cells #[.slice A1_0 l1_0.length c1_0, .slice A1_1 l1_1.length c1_1] 32 (0, 0)) (by (with_reducible repeat (first | refine kN_ ?_ _ | refine kD_ ?_ | refine kA_ ?_ _)); exact BK158.out) hb); have n10_ := aM_ (kB_ (g := gb180) (o := .cells #[.slice Ao172 t174.length co172, .slice Ao176 t177.length co176] 25 (0, 0)) (by (with_reducible repeat (first | refine kN_ ?_ _ | refine kD_ ?_ | refine kA_ ?_ _)); exact BK180.out) hb); have n11_ := aM_ (bP_ (by repeat (with_reducible first | exact HB.out | apply bA_ | apply bN_ | apply bD_ | refine bS_ ?_ GE157.out | refine bS_ ?_ GE158.out | refine bS_ ?_ GE180.out)) hb); have n12_ := aM_ (hbox); have n13_ := aM_ ((by rw [hg]; exact (bZ_ (by repeat (with_reducible first | exact HB.out | apply bA_ | apply bN_ | apply bD_ | refine bS_ ?_ GE157.out | refine bS_ ?_ GE158.out | refine bS_ ?_ GE180.out))) : w.heap.size ≤ gb187)); have n14_ := aM_ ((by rw [hg]; exact (bZ_ (by repeat (with_reducible first | exact HB.out | apply bA_ | apply bN_ | apply bD_ | refine bS_ ?_ GE157.out | refine bS_ ?_ GE158.out | refine bS_ ?_ GE180.out))) : w.heap.size ≤ gb187)); have n15_ := aM_ ((by rw [hg]; exact Nat.ne_of_lt (kL_ (g := gb157) (o := .cells #[.slice A0_0 l0_0.length c0_0, .slice A0_1 l0_1.length c0_1] 32 (0, 0)) (by (with_reducible repeat (first | refine kN_ ?_ _ | refine kD_ ?_ | refine kA_ ?_ _)); exact BK157.out)) : gb157 ≠ gb187)); have n16_ := aM_ ((by rw [hg]; exact Nat.ne_of_gt (kL_ (g := gb157) (o := .cells #[.slice A0_0 l0_0.length c0_0, .slice A0_1 l0_1.length c0_1] 32 (0, 0)) (by (with_reducible repeat (first | refine kN_ ?_ _ | refine kD_ ?_ | refine kA_ ?_ _)); exact BK157.out)) : gb187 ≠ gb157)); have n17_ := aM_ ((by rw [hg]; exact Nat.ne_of_lt (kL_ (g := gb158) (o := .cells #[.slice A1_0 l1_0.length c1_0, .slice A1_1 l1_1.length c1_1] 32 (0, 0)) (by (with_reducible repeat (first | refine kN_ ?_ _ | refine kD_ ?_ | refine kA_ ?_ _)); exact BK158.out)) : gb158 ≠ gb187)); have n18_ := aM_ ((by rw [hg]; exact Nat.ne_of_gt (kL_ (g := gb158) (o := .cells #[.slice A1_0 l1_0.length c1_0, .slice A1_1 l1_1.length c1_1] 32 (0, 0)) (by (with_reducible repeat (first | refine kN_ ?_ _ | refine kD_ ?_ | refine kA_ ?_ _)); exact BK158.out)) : gb187 ≠ gb158)); have n19_ := aM_ ((by rw [hg]; exact Nat.ne_of_lt (kL_ (g := gb180) (o := .cells #[.slice Ao172 t174.length co172, .slice Ao176 t177.length co176] 25 (0, 0)) (by (with_reducible repeat (first | refine kN_ ?_ _ | refine kD_ ?_ | refine kA_ ?_ _)); exact BK180.out)) : gb180 ≠ gb187)); have n20_ := aM_ ((by rw [hg]; exact Nat.ne_of_gt (kL_ (g := gb180) (o := .cells #[.slice Ao172 t174.length co172, .slice Ao176 t177.length co176] 25 (0, 0)) (by (with_reducible repeat (first | refine kN_ ?_ _ | refine kD_ ?_ | refine kA_ ?_ _)); exact BK180.out)) : gb187 ≠ gb180)); clear HO163; clear HO166; clear HO169; clear HO172; clear HO176; clear HO179; clear HO183; clear HO186; clear BK157; clear BK158; clear BK180; clear HB; have HO163 := n0_; have HO166 := n1_; have HO169 := n2_; have HO172 := n3_; have HO176 := n4_; have HO179 := n5_; have HO183 := n6_; have HO186 := n7_; have BK157 := n8_; have BK158 := n9_; have BK180 := n10_; have HB := n11_; have BK187 := n12_; have GW187 := n13_; have GE187 := n14_; have NB157_187 := n15_; have NB187_157 := n16_; have NB158_187 := n17_; have NB187_158 := n18_; have NB180_187 := n19_; have NB187_180 := n20_; clear n0_ n1_ n2_ n3_ n4_ n5_ n6_ n7_ n8_ n9_ n10_ n11_ n12_ n13_ n14_ n15_ n16_ n17_ n18_ n19_ n20_; clear hb hbox hg; obtain ⟨Ao180, co180, eo180⟩ := Kd.R_slice HO183.out; subst eo180; have hnb181 := NB187_157.out; have hnc181 := NB157_187.out; have hnb182 := NB187_158.out; have hnc182 := NB158_187.out; have hnb183 := NB187_180.out; have hnc183 := NB180_187.out; have hcz184_0 : w179.cell? ⟨gb187, 0, none⟩ = some (.slice none 0 0) := (kC_ BK187.out 0).trans rfl; have hcz184_1 : w179.cell? ⟨gb187, 1, none⟩ = some (.slice none 0 0) := (kC_ BK187.out 1).trans rfl; have hfz184_0 := kZ_ BK187.out 0; have hfz184_1 := kZ_ BK187.out 1; obtain ⟨Ao185, co185, eo185⟩ := Kd.R_slice HO186.out; subst eo185; have hcz186_0 : w179.cell? ⟨gb180, 0, none⟩ = some (.slice Ao172 t174.length co172) := (kC_ BK180.out 0).trans rfl; have hcz186_1 : w179.cell? ⟨gb180, 1, none⟩ = some (.slice Ao176 t177.length co176) := (kC_ BK180.out 1).trans rfl; have hfz186_0 := kZ_ BK180.out 0; have hfz186_1 := kZ_ BK180.out 1) | ((with_reducible refine gate_callee (f := 17) rfl ?_); refine goesL_ (some 31) rfl rfl Try.func17 (by kernel_rfl) rfl #[.agg #[.slice Ao172 t174.length co172, .slice Ao176 t177.length co176], .agg #[.slice Ao180 t181.length co180, .slice Ao185 t184.length co185]] rfl (by (try simp only [List.map_toArray, List.map_cons, List.map_nil]); first | done | rfl | (simp only [List.length_drop, List.length_take]; rfl)) ?_; (with_reducible refine (impl_SameDevice.calls k _ _ t174 _ _ t177 _ _ t181 _ _ t184 t188 _ ?side1 ?side2 ?side3 ?side4 ?side5 ?side6 ?side7 ?side8 A24.out).mono ?_); (case side1 => refine (rR_ (e := 9) (base := w.heap.size) (ok := fun k_ => (((True ∧ some k_ ≠ (.slice Ao164 t161.length co164 : Value).ownBlock) ∧ some k_ ≠ (.slice Ao166 t167.length co166 : Value).ownBlock) ∧ some k_ ≠ (.slice Ao180 t181.length co180 : Value).ownBlock)) (n := t174.length) (c := co172) ?_).2.2; exact (by (with_reducible repeat (first | apply rA_ | apply rN_)); exact (rM_ (rF_ (p := ⟨gb187, 1, none⟩) (rF_ (p := ⟨gb187, 0, none⟩) (rT_ HO176.out BK187.out (by decide)) (fun _ hk => hk.2) (.slice Ao180 t181.length co180)) (fun _ hk => hk.2) (.slice Ao185 t184.length co185)) (fun _ h_ => h_.1)))); (case side2 => exact (rR_ HO176.out).2.1); (case side3 => refine (rR_ (e := 55) (base := w.heap.size) (ok := fun k_ => (((True ∧ some k_ ≠ (.slice Ao165 t164.length co165 : Value).ownBlock) ∧ some k_ ≠ (.slice Ao167 t170.length co167 : Value).ownBlock) ∧ some k_ ≠ (.slice Ao185 t184.length co185 : Value).ownBlock)) (n := t177.length) (c := co176) ?_).2.2; exact (by (with_reducible repeat (first | apply rA_ | apply rN_)); exact (rM_ (rF_ (p := ⟨gb187, 1, none⟩) (rF_ (p := ⟨gb187, 0, none⟩) (rT_ HO179.out BK187.out (by decide)) (fun _ hk => hk.2) (.slice Ao180 t181.length co180)) (fun _ hk => hk.2) (.slice Ao185 t184.length co185)) (fun _ h_ => h_.1)))); (case side4 => exact (rR_ HO179.out).2.1); (case side5 => refine (rR_ (e := 9) (base := w.heap.size) (ok := fun k_ => (((True ∧ some k_ ≠ (.slice Ao164 t161.length co164 : Value).ownBlock) ∧ some k_ ≠ (.slice Ao166 t167.length co166 : Value).ownBlock) ∧ some k_ ≠ (.slice Ao172 t174.length co172 : Value).ownBlock)) (n := t181.length) (c := co180) ?_).2.2; exact (by (with_reducible repeat (first | apply rA_ | apply rN_)); exact (rM_ (rF_ (p := ⟨gb187, 1, none⟩) (rF_ (p := ⟨gb187, 0, none⟩) (rT_ HO183.out BK187.out (by decide)) (fun _ hk => hk.2) (.slice Ao180 t181.length co180)) (fun _ hk => hk.2) (.slice Ao185 t184.length co185)) (fun _ h_ => h_.1)))); (case side6 => exact (rR_ HO183.out).2.1); (case side7 => refine (rR_ (e := 55) (base := w.heap.size) (ok := fun k_ => (((True ∧ some k_ ≠ (.slice Ao165 t164.length co165 : Value).ownBlock) ∧ some k_ ≠ (.slice Ao167 t170.length co167 : Value).ownBlock) ∧ some k_ ≠ (.slice Ao176 t177.length co176 : Value).ownBlock)) (n := t184.length) (c := co185) ?_).2.2; exact (by (with_reducible repeat (first | apply rA_ | apply rN_)); exact (rM_ (rF_ (p := ⟨gb187, 1, none⟩) (rF_ (p := ⟨gb187, 0, none⟩) (rT_ HO186.out BK187.out (by decide)) (fun _ hk => hk.2) (.slice Ao180 t181.length co180)) (fun _ hk => hk.2) (.slice Ao185 t184.length co185)) (fun _ h_ => h_.1)))); (case side8 => exact (rR_ HO186.out).2.1); rintro e w187 ⟨rfl, hb⟩; refine ⟨_, rfl, ?_⟩; have n0_ := aM_ (rB_ (by (with_reducible repeat (first | apply rA_ | apply rN_)); exact (rM_ (rF_ (p := ⟨gb187, 1, none⟩) (rF_ (p := ⟨gb187, 0, none⟩) (rT_ HO163.out BK187.out (by decide)) (fun _ hk => hk.2) (.slice Ao180 t181.length co180)) (fun _ hk => hk.2) (.slice Ao185 t184.length co185)) (fun _ h_ => h_.1))) hb); have n1_ := aM_ (rB_ (by (with_reducible repeat (first | apply rA_ | apply rN_)); exact (rM_ (rF_ (p := ⟨gb187, 1, none⟩) (rF_ (p := ⟨gb187, 0, none⟩) (rT_ HO166.out BK187.out (by decide)) (fun _ hk => hk.2) (.slice Ao180 t181.length co180)) (fun _ hk => hk.2) (.slice Ao185 t184.length co185)) (fun _ h_ => h_.1))) hb); have n2_ := aM_ (rB_ (by (with_reducible repeat (first | apply rA_ | apply rN_)); exact (rM_ (rF_ (p := ⟨gb187, 1, none⟩) (rF_ (p := ⟨gb187, 0, none⟩) (rT_ HO169.out BK187.out (by decide)) (fun _ hk => hk.2) (.slice Ao180 t181.length co180)) (fun _ hk => hk.2) (.slice Ao185 t184.length co185)) (fun _ h_ => h_.1))) hb); have n3_ := aM_ (rB_ (by (with_reducible repeat (first | apply rA_ | apply rN_)); exact (rM_ (rF_ (p := ⟨gb187, 1, none⟩) (rF_ (p := ⟨gb187, 0, none⟩) (rT_ HO172.out BK187.out (by decide)) (fun _ hk => hk.2) (.slice Ao180 t181.length co180)) (fun _ hk => hk.2) (.slice Ao185 t184.length co185)) (fun _ h_ => h_.1))) hb); have n4_ := aM_ (rB_ (by (with_reducible repeat (first | apply rA_ | apply rN_)); exact (rM_ (rF_ (p := ⟨gb187, 1, none⟩) (rF_ (p := ⟨gb187, 0, none⟩) (rT_ HO176.out BK187.out (by decide)) (fun _ hk => hk.2) (.slice Ao180 t181.length co180)) (fun _ hk => hk.2) (.slice Ao185 t184.length co185)) (fun _ h_ => h_.1))) hb); have n5_ := aM_ (rB_ (by (with_reducible repeat (first | apply rA_ | apply rN_)); exact (rM_ (rF_ (p := ⟨gb187, 1, none⟩) (rF_ (p := ⟨gb187, 0, none⟩) (rT_ HO179.out BK187.out (by decide)) (fun _ hk => hk.2) (.slice Ao180 t181.length co180)) (fun _ hk => hk.2) (.slice Ao185 t184.length co185)) (fun _ h_ => h_.1))) hb); have n6_ := aM_ (rB_ (by (with_reducible repeat (first | apply rA_ | apply rN_)); exact (rM_ (rF_ (p := ⟨gb187, 1, none⟩) (rF_ (p := ⟨gb187, 0, none⟩) (rT_ HO183.out BK187.out (by decide)) (fun _ hk => hk.2) (.slice Ao180 t181.length co180)) (fun _ hk => hk.2) (.slice Ao185 t184.length co185)) (fun _ h_ => h_.1))) hb); have n7_ := aM_ (rB_ (by (with_reducible repeat (first | apply rA_ | apply rN_)); exact (rM_ (rF_ (p := ⟨gb187, 1, none⟩) (rF_ (p := ⟨gb187, 0, none⟩) (rT_ HO186.out BK187.out (by decide)) (fun _ hk => hk.2) (.slice Ao180 t181.length co180)) (fun _ hk => hk.2) (.slice Ao185 t184.length co185)) (fun _ h_ => h_.1))) hb); have n8_ := aM_ (kB_ (g := gb157) (o := .cells #[.slice A0_0 l0_0.length c0_0, .slice A0_1 l0_1.length c0_1] 32 (0, 0)) (by (with_reducible repeat (first | refine kN_ ?_ _ | refine kD_ ?_ | refine kA_ ?_ _)); refine kF_ ?_ NB157_187.out _; (with_reducible repeat (first | refine kN_ ?_ _ | refine kD_ ?_ | refine kA_ ?_ _)); refine kF_ ?_ NB157_187.out _; (with_reducible repeat (first | refine kN_ ?_ _ | refine kD_ ?_ | refine kA_ ?_ _)); exact BK157.out) hb); have n9_ := aM_ (kB_ (g := gb158) (o := .cells #[.slice A1_0 l1_0.length c1_0, .slice A1_1 l1_1.length c1_1] 32 (0, 0)) (by (with_reducible repeat (first | refine kN_ ?_ _ | refine kD_ ?_ | refine kA_ ?_ _)); refine kF_ ?_ NB158_187.out _; (with_reducible repeat (first | refine kN_ ?_ _ | refine kD_ ?_ | refine kA_ ?_ _)); refine kF_ ?_ NB158_187.out _; (with_reducible repeat (first | refine kN_ ?_ _ | refine kD_ ?_ | refine kA_ ?_ _)); exact BK158.out) hb); have n10_ := aM_ (kB_ (g := gb180) (o := .cells #[.slice Ao172 t174.length co172, .slice Ao176 t177.length co176] 25 (0, 0)) (by (with_reducible repeat (first | refine kN_ ?_ _ | refine kD_ ?_ | refine kA_ ?_ _)); refine kF_ ?_ NB180_187.out _; (with_reducible repeat (first | refine kN_ ?_ _ | refine kD_ ?_ | refine kA_ ?_ _)); refine kF_ ?_ NB180_187.out _; (with_reducible repeat (first | refine kN_ ?_ _ | refine kD_ ?_ | refine kA_ ?_ _)); exact BK180.out) hb); have n11_ := aM_ (kB_ (g := gb187) (o := .cells #[.slice Ao180 t181.length co180, .slice Ao185 t184.length co185] 25 (0, 0)) (by (with_reducible repeat (first | refine kN_ ?_ _ | refine kD_ ?_ | refine kA_ ?_ _)); refine blk_put (cs := #[.slice Ao180 t181.length co180, .slice none 0 0]) ?_ 1 _ rfl; (with_reducible repeat (first | refine kN_ ?_ _ | refine kD_ ?_ | refine kA_ ?_ _)); refine blk_put (cs := #[.slice none 0 0, .slice none 0 0]) ?_ 0 _ rfl; (with_reducible repeat (first | refine kN_ ?_ _ | refine kD_ ?_ | refine kA_ ?_ _)); exact BK187.out) hb); have n12_ := aM_ (bP_ (by repeat (with_reducible first | exact HB.out | apply bA_ | apply bN_ | apply bD_ | refine bS_ ?_ GE157.out | refine bS_ ?_ GE158.out | refine bS_ ?_ GE180.out | refine bS_ ?_ GE187.out)) hb); clear HO163; clear HO166; clear HO169; clear HO172; clear HO176; clear HO179; clear HO183; clear HO186; clear BK157; clear BK158; clear BK180; clear BK187; clear HB; have HO163 := n0_; have HO166 := n1_; have HO169 := n2_; have HO172 := n3_; have HO176 := n4_; have HO179 := n5_; have HO183 := n6_; have HO186 := n7_; have BK157 := n8_; have BK158 := n9_; have BK180 := n10_; have BK187 := n11_; have HB := n12_; clear n0_ n1_ n2_ n3_ n4_ n5_ n6_ n7_ n8_ n9_ n10_ n11_ n12_; (try clear hb); (try clear hb2); (try clear hk); (try clear hi)))
     have n0_ := aM_ (rD_ HO163.out)
     have n1_ := aM_ (rD_ HO166.out)
     have n2_ := aM_ (rD_ HO169.out)
     have n3_ := aM_ (rD_ HO172.out)
     have n4_ := aM_ (rD_ HO176.out)
     have n5_ := aM_ (rD_ HO179.out)
     have n6_ := aM_ (rD_ HO183.out)
     have n7_ := aM_ (rD_ HO186.out)
     have n8_ := aM_ (kD_ BK157.out)
     have n9_ := aM_ (kD_ BK158.out)
     have n10_ := aM_ (kD_ BK180.out)
     have n11_ := aM_ (kD_ BK187.out)
     have n12_ := aM_ (bD_ HB.out)
     clear HO163
     clear HO166
     clear HO169
     clear HO172
     clear HO176
     clear HO179
     clear HO183
     clear HO186
     clear BK157
     clear BK158
     clear BK180
     clear BK187
     clear HB
     have HO163 := n0_
     have HO166 := n1_
     have HO169 := n2_
     have HO172 := n3_
     have HO176 := n4_
     have HO179 := n5_
     have HO183 := n6_
     have HO186 := n7_
     have BK157 := n8_
     have BK158 := n9_
     have BK180 := n10_
     have BK187 := n11_
     have HB := n12_
     clear n0_ n1_ n2_ n3_ n4_ n5_ n6_ n7_ n8_ n9_ n10_ n11_ n12_
     refine start_ (n := 5) (S := fun w' => w'.cell? ⟨gb180, 0, none⟩ = some (.slice Ao172 t174.length co172) ∧ w'.cell? ⟨gb180, 1, none⟩ = some (.slice Ao176 t177.length co176) ∧ w'.cell? ⟨gb157, 0, none⟩ = some (.slice A0_0 l0_0.length c0_0) ∧ w'.cell? ⟨gb157, 1, none⟩ = some (.slice A0_1 l0_1.length c0_1)) (ds := []) #[false, false, false, false, false] (by kernel_rfl) rfl rfl ⟨(kC_ BK180.out 0).trans rfl, (kC_ BK180.out 1).trans rfl, (kC_ BK157.out 0).trans rfl, (kC_ BK157.out 1).trans rfl⟩ (fun hHeld => ?_)
     generalize w187.drew = w188 at HO163 HO166 HO169 HO172 HO176 HO179 HO183 HO186 BK157 BK158 BK180 BK187 HB hHeld ⊢
     refine take_ (i := 0) (N := some 35) (v := ?_) (a' := ?_) #[true, false, false, false, false] rfl rfl (by kernel_rfl) (fun _ _ _ h => h) (Or.inl ⟨by rfl, ?_⟩) hHeld ?_ ?_
     rotate_left
     ·rintro w' ⟨s0, s1, s2, s3⟩
      go_simp
      with_reducible rfl
     rotate_left
     ·simp only [Act.put, List.setIfInBounds_toArray, List.set_cons_zero, List.set_cons_succ, i64_w, i32_w]
      rfl
     refine take_ (i := 1) (N := some 36) (v := ?_) (a' := ?_) #[true, true, false, false, false] rfl rfl (by kernel_rfl) (fun _ _ _ h => h) (Or.inl ⟨by rfl, ?_⟩) hHeld ?_ ?_
     rotate_left
     ·rintro w' ⟨s0, s1, s2, s3⟩
      go_simp
      with_reducible rfl
     rotate_left
     ·simp only [Act.put, List.setIfInBounds_toArray, List.set_cons_zero, List.set_cons_succ, i64_w, i32_w]
      rfl
     refine one_ (i := 2) (N := some 37) #[true, true, true, false, false] rfl rfl (by kernel_rfl) (by decide) (fun K hK => ?_)
     refine goes_ Try.func16 (by kernel_rfl) rfl #[.agg #[.slice A0_0 l0_0.length c0_0, .slice A0_1 l0_1.length c0_1]] (by rfl) rfl rfl (by (try simp only [List.map_toArray, List.map_cons, List.map_nil]); first | done | rfl | (simp only [List.length_drop, List.length_take]; rfl)) ?_
     with_reducible refine (laws_toDevice.calls k _ _ l0_0 _ _ l0_1 t189 t192 _ ?side1 ?side2 ?side3 ?side4 A60.out).mono ?_
     (case side1 => repeat (first | exact (cB_ HR0_0.out HB.out) | (with_reducible refine cA_ ?_ _) | (with_reducible refine cN_ ?_ _) | (with_reducible refine cD_ ?_)))
     (case side2 => exact HC0_0.out)
     (case side3 => repeat (first | exact (cB_ HR0_1.out HB.out) | (with_reducible refine cA_ ?_ _) | (with_reducible refine cN_ ?_ _) | (with_reducible refine cD_ ?_)))
     (case side4 => exact HC0_1.out)
     rintro e w189 ⟨v190, v193, rfl, ho0, ho1, hb⟩
     refine ⟨_, rfl, ?_⟩
     have n0_ := aM_ (rE_ (by (with_reducible repeat (first | apply rA_ | apply rN_)); exact HO163.out) (rS_ ho0) hb)
     have n1_ := aM_ (rE_ (by (with_reducible repeat (first | apply rA_ | apply rN_)); exact HO166.out) (rS_ ho1) hb)
     have n2_ := aM_ (rE_ (by (with_reducible repeat (first | apply rA_ | apply rN_)); exact HO169.out) (rS_ ho0) hb)
     have n3_ := aM_ (rE_ (by (with_reducible repeat (first | apply rA_ | apply rN_)); exact HO172.out) (rS_ ho1) hb)
     have n4_ := aM_ (rE_ (by (with_reducible repeat (first | apply rA_ | apply rN_)); exact HO176.out) (rS_ ho0) hb)
     have n5_ := aM_ (rE_ (by (with_reducible repeat (first | apply rA_ | apply rN_)); exact HO179.out) (rS_ ho1) hb)
     have n6_ := aM_ (rE_ (by (with_reducible repeat (first | apply rA_ | apply rN_)); exact HO183.out) (rS_ ho0) hb)
     have n7_ := aM_ (rE_ (by (with_reducible repeat (first | apply rA_ | apply rN_)); exact HO186.out) (rS_ ho1) hb)
     have n8_ := aM_ (rO_ (rW_ (rW_ (rW_ (rW_ ho0 (rL_ (by (with_reducible repeat (first | apply rA_ | apply rN_)); exact HO163.out))) (rL_ (by (with_reducible repeat (first | apply rA_ | apply rN_)); exact HO169.out))) (rL_ (by (with_reducible repeat (first | apply rA_ | apply rN_)); exact HO176.out))) (rL_ (by (with_reducible repeat (first | apply rA_ | apply rN_)); exact HO183.out))) (bZ_ (by repeat (with_reducible first | exact HB.out | apply bA_ | apply bN_ | apply bD_ | refine bS_ ?_ GE157.out | refine bS_ ?_ GE158.out | refine bS_ ?_ GE180.out | refine bS_ ?_ GE187.out))))
     have n9_ := aM_ (rO_ (rW_ (rW_ (rW_ (rW_ ho1 (rL_ (by (with_reducible repeat (first | apply rA_ | apply rN_)); exact HO166.out))) (rL_ (by (with_reducible repeat (first | apply rA_ | apply rN_)); exact HO172.out))) (rL_ (by (with_reducible repeat (first | apply rA_ | apply rN_)); exact HO179.out))) (rL_ (by (with_reducible repeat (first | apply rA_ | apply rN_)); exact HO186.out))) (bZ_ (by repeat (with_reducible first | exact HB.out | apply bA_ | apply bN_ | apply bD_ | refine bS_ ?_ GE157.out | refine bS_ ?_ GE158.out | refine bS_ ?_ GE180.out | refine bS_ ?_ GE187.out))))
     have n10_ := aM_ (kB_ (g := gb157) (o := .cells #[.slice A0_0 l0_0.length c0_0, .slice A0_1 l0_1.length c0_1] 32 (0, 0)) (by (with_reducible repeat (first | refine kN_ ?_ _ | refine kD_ ?_ | refine kA_ ?_ _)); exact BK157.out) hb)
     have n11_ := aM_ (kB_ (g := gb158) (o := .cells #[.slice A1_0 l1_0.length c1_0, .slice A1_1 l1_1.length c1_1] 32 (0, 0)) (by (with_reducible repeat (first | refine kN_ ?_ _ | refine kD_ ?_ | refine kA_ ?_ _)); exact BK158.out) hb)
     have n12_ := aM_ (kB_ (g := gb180) (o := .cells #[.slice Ao172 t174.length co172, .slice Ao176 t177.length co176] 25 (0, 0)) (by (with_reducible repeat (first | refine kN_ ?_ _ | refine kD_ ?_ | refine kA_ ?_ _)); exact BK180.out) hb)
     have n13_ := aM_ (kB_ (g := gb187) (o := .cells #[.slice Ao180 t181.length co180, .slice Ao185 t184.length co185] 25 (0, 0)) (by (with_reducible repeat (first | refine kN_ ?_ _ | refine kD_ ?_ | refine kA_ ?_ _)); exact BK187.out) hb)
     have n14_ := aM_ (bP_ (by repeat (with_reducible first | exact HB.out | apply bA_ | apply bN_ | apply bD_ | refine bS_ ?_ GE157.out | refine bS_ ?_ GE158.out | refine bS_ ?_ GE180.out | refine bS_ ?_ GE187.out)) hb)
     clear HO163
     clear HO166
     clear HO169
     clear HO172
     clear HO176
     clear HO179
     clear HO183
     clear HO186
     clear BK157
     clear BK158
     clear BK180
     clear BK187
     clear HB
     have HO163 := n0_
     have HO166 := n1_
     have HO169 := n2_
     have HO172 := n3_
     have HO176 := n4_
     have HO179 := n5_
     have HO183 := n6_
     have HO186 := n7_
     have HO191 := n8_
     have HO194 := n9_
     have BK157 := n10_
     have BK158 := n11_
     have BK180 := n12_
     have BK187 := n13_
     have HB := n14_
     clear n0_ n1_ n2_ n3_ n4_ n5_ n6_ n7_ n8_ n9_ n10_ n11_ n12_ n13_ n14_
     (try clear hb)
     (try clear hb2)
     (try clear hk)
     (try clear hi)
     (try clear ho0)
     (try clear ho1)
     obtain ⟨Ao190, co190, eo190⟩ := Kd.R_slice HO191.out
     (first | subst eo190 | (injection eo190 with f1_ f2_ f3_; have f4_ := f1_.symm; have f5_ := f3_.symm; clear f1_ f2_ f3_; subst f4_; subst f5_))
     obtain ⟨Ao191, co191, eo191⟩ := Kd.R_slice HO194.out
     (first | subst eo191 | (injection eo191 with f1_ f2_ f3_; have f4_ := f1_.symm; have f5_ := f3_.symm; clear f1_ f2_ f3_; subst f4_; subst f5_))
     refine hK.out _ _ ⟨(kC_ BK180.out 0).trans rfl, (kC_ BK180.out 1).trans rfl, (kC_ BK157.out 0).trans rfl, (kC_ BK157.out 1).trans rfl⟩ (fun hHeld => ?_)
     clear hK K
     refine norm_ (a' := ?_) ?_ ?_
     rotate_left
     ·show Act.put _ (some 37) _ = _
      simp only [Act.put, List.setIfInBounds_toArray, List.set_cons_zero, List.set_cons_succ, i64_w, i32_w]
      rfl
     refine one_ (i := 3) (N := some 38) #[true, true, true, true, false] rfl rfl (by kernel_rfl) (by decide) (fun K hK => ?_)
     refine goes_ Try.func11 (by kernel_rfl) rfl #[.agg #[.slice Ao172 t174.length co172, .slice Ao176 t177.length co176], .agg #[.slice Ao190 t189.length co190, .slice Ao191 t192.length co191]] (by rfl) rfl rfl (by (try simp only [List.map_toArray, List.map_cons, List.map_nil]); first | done | rfl | (simp only [List.length_drop, List.length_take]; rfl)) ?_
     with_reducible refine (laws_eqDevice.calls k _ _ t174 _ _ t177 _ _ t189 _ _ t192 false _ ?side1 ?side2 ?side3 ?side4 ?side5 ?side6 ?side7 ?side8 A61.out).mono ?_
     (case side1 => repeat (first | exact (rR_ HO176.out).2.2 | (with_reducible refine cA_ ?_ _) | (with_reducible refine cN_ ?_ _) | (with_reducible refine cD_ ?_)))
     (case side2 => exact (rR_ HO176.out).2.1)
     (case side3 => repeat (first | exact (rR_ HO179.out).2.2 | (with_reducible refine cA_ ?_ _) | (with_reducible refine cN_ ?_ _) | (with_reducible refine cD_ ?_)))
     (case side4 => exact (rR_ HO179.out).2.1)
     (case side5 => repeat (first | exact (rR_ HO191.out).2.2 | (with_reducible refine cA_ ?_ _) | (with_reducible refine cN_ ?_ _) | (with_reducible refine cD_ ?_)))
     (case side6 => exact (rR_ HO191.out).2.1)
     (case side7 => repeat (first | exact (rR_ HO194.out).2.2 | (with_reducible refine cA_ ?_ _) | (with_reducible refine cN_ ?_ _) | (with_reducible refine cD_ ?_)))
     (case side8 => exact (rR_ HO194.out).2.1)
     rintro e w192 ⟨rfl, hb⟩
     refine ⟨_, rfl, ?_⟩
     have n0_ := aM_ (rB_ (by (with_reducible repeat (first | apply rA_ | apply rN_)); exact HO163.out) hb)
     have n1_ := aM_ (rB_ (by (with_reducible repeat (first | apply rA_ | apply rN_)); exact HO166.out) hb)
     have n2_ := aM_ (rB_ (by (with_reducible repeat (first | apply rA_ | apply rN_)); exact HO169.out) hb)
     have n3_ := aM_ (rB_ (by (with_reducible repeat (first | apply rA_ | apply rN_)); exact HO172.out) hb)
     have n4_ := aM_ (rB_ (by (with_reducible repeat (first | apply rA_ | apply rN_)); exact HO176.out) hb)
     have n5_ := aM_ (rB_ (by (with_reducible repeat (first | apply rA_ | apply rN_)); exact HO179.out) hb)
     have n6_ := aM_ (rB_ (by (with_reducible repeat (first | apply rA_ | apply rN_)); exact HO183.out) hb)
     have n7_ := aM_ (rB_ (by (with_reducible repeat (first | apply rA_ | apply rN_)); exact HO186.out) hb)
     have n8_ := aM_ (rB_ (by (with_reducible repeat (first | apply rA_ | apply rN_)); exact HO191.out) hb)
     have n9_ := aM_ (rB_ (by (with_reducible repeat (first | apply rA_ | apply rN_)); exact HO194.out) hb)
     have n10_ := aM_ (kB_ (g := gb157) (o := .cells #[.slice A0_0 l0_0.length c0_0, .slice A0_1 l0_1.length c0_1] 32 (0, 0)) (by (with_reducible repeat (first | refine kN_ ?_ _ | refine kD_ ?_ | refine kA_ ?_ _)); exact BK157.out) hb)
     have n11_ := aM_ (kB_ (g := gb158) (o := .cells #[.slice A1_0 l1_0.length c1_0, .slice A1_1 l1_1.length c1_1] 32 (0, 0)) (by (with_reducible repeat (first | refine kN_ ?_ _ | refine kD_ ?_ | refine kA_ ?_ _)); exact BK158.out) hb)
     have n12_ := aM_ (kB_ (g := gb180) (o := .cells #[.slice Ao172 t174.length co172, .slice Ao176 t177.length co176] 25 (0, 0)) (by (with_reducible repeat (first | refine kN_ ?_ _ | refine kD_ ?_ | refine kA_ ?_ _)); exact BK180.out) hb)
     have n13_ := aM_ (kB_ (g := gb187) (o := .cells #[.slice Ao180 t181.length co180, .slice Ao185 t184.length co185] 25 (0, 0)) (by (with_reducible repeat (first | refine kN_ ?_ _ | refine kD_ ?_ | refine kA_ ?_ _)); exact BK187.out) hb)
     have n14_ := aM_ (bP_ (by repeat (with_reducible first | exact HB.out | apply bA_ | apply bN_ | apply bD_ | refine bS_ ?_ GE157.out | refine bS_ ?_ GE158.out | refine bS_ ?_ GE180.out | refine bS_ ?_ GE187.out)) hb)
     clear HO163
     clear HO166
     clear HO169
     clear HO172
     clear HO176
     clear HO179
     clear HO183
     clear HO186
     clear HO191
     clear HO194
     clear BK157
     clear BK158
     clear BK180
     clear BK187
     clear HB
     have HO163 := n0_
     have HO166 := n1_
     have HO169 := n2_
     have HO172 := n3_
     have HO176 := n4_
     have HO179 := n5_
     have HO183 := n6_
     have HO186 := n7_
     have HO191 := n8_
     have HO194 := n9_
     have BK157 := n10_
     have BK158 := n11_
     have BK180 := n12_
     have BK187 := n13_
     have HB := n14_
     clear n0_ n1_ n2_ n3_ n4_ n5_ n6_ n7_ n8_ n9_ n10_ n11_ n12_ n13_ n14_
     (try clear hb)
     (try clear hb2)
     (try clear hk)
     (try clear hi)
     refine hK.out _ _ ⟨(kC_ BK180.out 0).trans rfl, (kC_ BK180.out 1).trans rfl, (kC_ BK157.out 0).trans rfl, (kC_ BK157.out 1).trans rfl⟩ (fun hHeld => ?_)
     clear hK K
     refine norm_ (a' := ?_) ?_ ?_
     rotate_left
     ·show Act.put _ (some 38) _ = _
      simp only [Act.put, List.setIfInBounds_toArray, List.set_cons_zero, List.set_cons_succ, i64_w, i32_w]
      rfl
     refine pure_ (i := 4) (N := some 39) (v := ?_) (a' := ?_) #[true, true, true, true, true] rfl rfl (by kernel_rfl) (fun _ _ _ h => h) (Or.inl ⟨by rfl, ?_⟩) ?_ ?_
     rotate_left
     ·intro w'
      go_simp
      with_reducible rfl
     rotate_left
     ·simp only [Act.put, List.setIfInBounds_toArray, List.set_cons_zero, List.set_cons_succ, i64_w, i32_w]
      rfl
     refine done_ (by kernel_rfl) ?_
     try go_wp2
     go_ret
     exact ⟨by first | rfl | (simp [errW_none, errW_some] <;> rfl) | (simp [*, errW_none, errW_some] <;> rfl), by repeat (with_reducible first | exact HB.out | apply bA_ | apply bN_ | apply bD_ | refine bS_ ?_ GE157.out | refine bS_ ?_ GE158.out | refine bS_ ?_ GE180.out | refine bS_ ?_ GE187.out)⟩

end Go.Proofs.Ytkmecmcioniooaa.PDev
