-- Written by a program of this session (it turns the kit's print tool to leaves that were proved by hand). Lean checks it.
import Derived.Test.YtkmecmcioniooaaPDevx0
import Derived.Test.YtkmecmcioniooaaPDevx2
import Derived.Test.YtkmecmcioniooaaPDevx3
import Derived.Test.YtkmecmcioniooaaPDevx4
import Derived.Test.YtkmecmcioniooaaPDevx8
import Derived.Test.YtkmecmcioniooaaPDevx9
import Derived.Test.YtkmecmcioniooaaPDevx12
import Derived.Test.YtkmecmcioniooaaPDevx13
import Derived.Test.YtkmecmcioniooaaCloneS
import Derived.Test.YtkmecmcioniooaaDevL
import Derived.Test.YtkmecmcioniooaaLeafE
namespace Go.Proofs.Ytkmecmcioniooaa.PDev
open Go.RowKit Go.Proofs.Ytkmecmcioniooaa.Leaf Go.Proofs.YtkmecmcioniooaaW.PrintWords Go.Proofs.YtkmecmcioniooaaW.PrintLast Go.Proofs.YtkmecmcioniooaaW.PrintMore
attribute [local go_sem] max2_int min2_int max_two min_two max_three min_three max_four min_four   -- for this text's walks alone
set_option linter.unusedVariables false
set_option linter.unusedSimpArgs false
abbrev rA_ := @Kd.R_alloc
abbrev rN_ := @Kd.R_drewN
abbrev rD_ := @Kd.R_drew
abbrev bN_ := @pw_below_drewN
abbrev bD_ := @below_drew1
abbrev bA_ := @below_alloc
abbrev bS_ := @below_set
abbrev kN_ := @blk_drewN
abbrev kD_ := @blk_drew
abbrev kA_ := @blk_alloc
abbrev aM_ := @Aside0.mk
abbrev rM_ := @Kd.R_mono
abbrev rF_ := @Kd.R_far
abbrev rB_ := @Kd.R_below
abbrev kB_ := @blk_below
abbrev rR_ := @Kd.R_reads'
abbrev cA_ := @Kd.C_alloc
abbrev cN_ := @Kd.C_drewN
abbrev cB_ := @Kd.C_below
abbrev bZ_ := @below_size
abbrev bP_ := @below_step
abbrev kC_ := @blk_cell
abbrev rT_ := @Kd.R_types
abbrev rE_ := @Kd.R_elder'
abbrev kF_ := @blk_far
abbrev kK_ := @blk_kept
abbrev rQ_ := @Kd.R_ne
abbrev rW_ := @Kd.R_new'
abbrev rL_ := @Kd.R_lt
abbrev rO_ := @Kd.R_lower
abbrev kL_ := @blk_lt
abbrev rS_ := @Kd.R_base
abbrev kZ_ := @blk_frozen
mutual
def laws_FnExactCrashWith.j0 : Nat → List Int → Int → List Int → Int → Bool → List ByteArray → List (S74) → List ByteArray → List (S55) → List ByteArray → List (S55) → List ByteArray → List (S55) → Option (Bool)
 | 0, _, _, _, _, _, _, _, _, _, _, _, _, _ => none
 | k + 1, x1, x7, x9, x11, x51, x453000, x453001, x471000, x471001, x478000, x478001, x489000, x489001 => if x51 = true then (some false) else ((laws_toDevice.f k x453000 x453001).bind fun bt490 => ((laws_eqDevice.f k x478000 x478001 bt490.1 bt490.2).bind fun t496 => (if t496 = true then ((laws_toIntS.f k x1).bind fun t497 => ((laws_eqIntS.f k x9 t497).bind fun t500 => (if t500 = true then ((laws_markDevice.f k x478000 x478001 1).bind fun bt501 => ((laws_markIntS.f k x9 bt501.1).bind fun bt504 => (if bt504.1 < 0 then (laws_FnExactCrashWith.j1 k x1 x7 true x453000 x453001 x471000 x471001 x489000 x489001) else ((laws_eqDevice.f k x489000 x489001 x471000 x471001).bind fun t506 => (if t506 = true then (laws_FnExactCrashWith.j1 k x1 x7 (x11 != x7) x453000 x453001 x471000 x471001 x489000 x489001) else (laws_FnExactCrashWith.j1 k x1 x7 true x453000 x453001 x471000 x471001 x489000 x489001)))))) else (some false)))) else (some false))))
def laws_FnExactCrashWith.j1 : Nat → List Int → Int → Bool → List ByteArray → List (S74) → List ByteArray → List (S55) → List ByteArray → List (S55) → Option (Bool)
 | 0, _, _, _, _, _, _, _, _, _ => none
 | k + 1, x1, x7, x80, x453000, x453001, x471000, x471001, x489000, x489001 => if x80 = true then (some false) else ((laws_markDevice.f k x489000 x489001 1).bind fun bt507 => ((laws_heldDevice.f k bt507.2.1 bt507.2.2 1).bind fun t510 => (if t510 < 0 then (some false) else (if t510 = bt507.1 then ((laws_toDevice.f k x453000 x453001).bind fun bt511 => ((laws_toIntS.f k x1).bind fun t517 => ((impl_CrashWith.f k bt511.1 bt511.2 t517).bind fun bt520 => ((laws_eqDevice.f k bt520.1 bt520.2.1 x471000 x471001).bind fun t528 => (if t528 = true then (laws_FnExactCrashWith.j2 k bt507.1 (bt520.2.2 != x7) bt507.2.1 bt507.2.2) else (laws_FnExactCrashWith.j2 k bt507.1 true bt507.2.1 bt507.2.2)))))) else (some false)))))
def laws_FnExactCrashWith.j2 : Nat → Int → Bool → List ByteArray → List (S55) → Option (Bool)
 | 0, _, _, _, _ => none
 | k + 1, x13, x108, x489000, x489001 => if x108 = true then (some false) else ((laws_heldDevice.f k x489000 x489001 1).bind fun t529 => (if t529 < 0 then (some false) else (if t529 = x13 then (some true) else (some false))))
end
def laws_FnExactCrashWith.f (k : Nat) (l0_0 : List ByteArray) (l0_1 : List (S74)) (l1 : List Int) : Option (Bool) := if (l1.length : Int) > 1048576 then (some true) else ((laws_szDevice.f k l0_0 l0_1 1048576).bind fun t453 => (if t453 < 0 then (some true) else ((laws_toDevice.f k l0_0 l0_1).bind fun bt454 => ((laws_toIntS.f k l1).bind fun t460 => ((spec_CrashWith.f k bt454.1 bt454.2 t460).bind fun bt463 => ((laws_toDevice.f k l0_0 l0_1).bind fun bt471 => ((laws_toIntS.f k l1).bind fun t478 => ((impl_CrashWith.f k bt471.1 bt471.2 t478).bind fun bt481 => ((laws_eqDevice.f k bt481.1 bt481.2.1 bt463.1 bt463.2.1).bind fun t489 => (if t489 = true then (laws_FnExactCrashWith.j0 k l1 bt463.2.2 t478 bt481.2.2 (bt481.2.2 != bt463.2.2) l0_0 l0_1 bt463.1 bt463.2.1 bt471.1 bt471.2 bt481.1 bt481.2.1) else (laws_FnExactCrashWith.j0 k l1 bt463.2.2 t478 bt481.2.2 true l0_0 l0_1 bt463.1 bt463.2.1 bt471.1 bt471.2 bt481.1 bt481.2.1)))))))))))
set_option maxHeartbeats 8000000 in
set_option maxRecDepth 100000 in
theorem laws_FnExactCrashWith.calls (k : Nat) (A0_0 : Option Addr) (c0_0 : Nat) (l0_0 : List ByteArray) (A0_1 : Option Addr) (c0_1 : Nat) (l0_1 : List (S74)) (A1 : Option Addr) (c1 : Nat) (l1 : List Int) (r : Bool) (w : World) (hr0_0 : Kd.C Kd.string w A0_0 l0_0.length l0_0) (hc0_0 : l0_0.length ≤ c0_0) (hr0_1 : Kd.C k74 w A0_1 l0_1.length l0_1) (hc0_1 : l0_1.length ≤ c0_1) (hr1 : Kd.C (Kd.int .i64) w A1 l1.length l1) (hc1 : l1.length ≤ c1) (h : laws_FnExactCrashWith.f k l0_0 l0_1 l1 = some r) :
  Calls Try.prog 8 #[.agg #[.slice A0_0 l0_0.length c0_0, .slice A0_1 l0_1.length c0_1], .slice A1 l1.length c1] w fun e w' => e = .returned (.bool r) ∧ Below w.heap.size w w' := by
 have hu32 := Try.underlying32
 have hu25 := Try.underlying25
 have HR0_0 := aM_ hr0_0
 have HC0_0 := aM_ hc0_0
 clear hr0_0 hc0_0
 have HR0_1 := aM_ hr0_1
 have HC0_1 := aM_ hc0_1
 clear hr0_1 hc0_1
 have HR1 := aM_ hr1
 have HC1 := aM_ hc1
 clear hr1 hc1
 have HB := aM_ (Below.refl w.heap.size w)
 have H : (if (l1.length : Int) > 1048576 then (some true) else ((laws_szDevice.f k l0_0 l0_1 1048576).bind fun t453 => (if t453 < 0 then (some true) else ((laws_toDevice.f k l0_0 l0_1).bind fun bt454 => ((laws_toIntS.f k l1).bind fun t460 => ((spec_CrashWith.f k bt454.1 bt454.2 t460).bind fun bt463 => ((laws_toDevice.f k l0_0 l0_1).bind fun bt471 => ((laws_toIntS.f k l1).bind fun t478 => ((impl_CrashWith.f k bt471.1 bt471.2 t478).bind fun bt481 => ((laws_eqDevice.f k bt481.1 bt481.2.1 bt463.1 bt463.2.1).bind fun t489 => (if t489 = true then (laws_FnExactCrashWith.j0 k l1 bt463.2.2 t478 bt481.2.2 (bt481.2.2 != bt463.2.2) l0_0 l0_1 bt463.1 bt463.2.1 bt471.1 bt471.2 bt481.1 bt481.2.1) else (laws_FnExactCrashWith.j0 k l1 bt463.2.2 t478 bt481.2.2 true l0_0 l0_1 bt463.1 bt463.2.1 bt471.1 bt471.2 bt481.1 bt481.2.1)))))))))))) = some r := h
 clear h
 by_cases c3 : (l1.length : Int) > 1048576
 ·rw [if_pos c3] at H
  have c3b0 : decide (1048576 < (l1.length : Int)) = true := decide_eq_true c3
  have c3b1 : decide (1048576 < l1.length) = true := decide_eq_true (by omega)
  clear c3
  obtain rfl := Option.some.inj H
  go_enter Try.func8, Try.ntmps8
  go_wp2_with (first | ((with_reducible refine gate_dst (N := 2) rfl ?_); refine box_event ?hg (N := 2) ?hd (cs := #[.slice A0_0 l0_0.length c0_0, .slice A0_1 l0_1.length c0_1]) (t := 32) ?hr ?_; (case hd => rfl); (case hg => rfl); (case hr => first | (go_simp; done) | (go_simp; rfl)); intro gb452 hg w4 hbox hb; have n0_ := aM_ (bP_ (by repeat (with_reducible first | exact HB.out | apply bA_ | apply bN_)) hb); have n1_ := aM_ (hbox); have n2_ := aM_ ((by rw [hg]; exact (bZ_ (by repeat (with_reducible first | exact HB.out | apply bA_ | apply bN_))) : w.heap.size ≤ gb452)); have n3_ := aM_ ((by rw [hg]; exact (bZ_ (by repeat (with_reducible first | exact HB.out | apply bA_ | apply bN_))) : w.heap.size ≤ gb452)); clear HB; have HB := n0_; have BK452 := n1_; have GW452 := n2_; have GE452 := n3_; clear n0_ n1_ n2_ n3_; clear hb hbox hg))
  go_ret
  exact ⟨by first | rfl | (simp [errW_none, errW_some] <;> rfl) | (simp [*, errW_none, errW_some] <;> rfl), by repeat (with_reducible first | exact HB.out | apply bA_ | apply bN_ | refine bS_ ?_ GE452.out)⟩
 ·rw [if_neg c3] at H
  have c3b0 : decide (1048576 < (l1.length : Int)) = false := decide_eq_false c3
  have c3b1 : decide (1048576 < l1.length) = false := decide_eq_false (by omega)
  clear c3
  replace H := Option.bind_eq_some_iff.mp H
  obtain ⟨t453, A50, H⟩ := H
  replace H : (if t453 < 0 then (some true) else ((laws_toDevice.f k l0_0 l0_1).bind fun bt454 => ((laws_toIntS.f k l1).bind fun t460 => ((spec_CrashWith.f k bt454.1 bt454.2 t460).bind fun bt463 => ((laws_toDevice.f k l0_0 l0_1).bind fun bt471 => ((laws_toIntS.f k l1).bind fun t478 => ((impl_CrashWith.f k bt471.1 bt471.2 t478).bind fun bt481 => ((laws_eqDevice.f k bt481.1 bt481.2.1 bt463.1 bt463.2.1).bind fun t489 => (if t489 = true then (laws_FnExactCrashWith.j0 k l1 bt463.2.2 t478 bt481.2.2 (bt481.2.2 != bt463.2.2) l0_0 l0_1 bt463.1 bt463.2.1 bt471.1 bt471.2 bt481.1 bt481.2.1) else (laws_FnExactCrashWith.j0 k l1 bt463.2.2 t478 bt481.2.2 true l0_0 l0_1 bt463.1 bt463.2.1 bt471.1 bt471.2 bt481.1 bt481.2.1)))))))))) = some r := H
  have A5 := aM_ A50
  clear A50
  by_cases c6 : t453 < 0
  ·rw [if_pos c6] at H
   have c6b0 : decide (t453 < 0) = true := decide_eq_true c6
   clear c6
   obtain rfl := Option.some.inj H
   go_enter Try.func8, Try.ntmps8
   go_wp2_with (first | ((with_reducible refine gate_dst (N := 2) rfl ?_); refine box_event ?hg (N := 2) ?hd (cs := #[.slice A0_0 l0_0.length c0_0, .slice A0_1 l0_1.length c0_1]) (t := 32) ?hr ?_; (case hd => rfl); (case hg => rfl); (case hr => first | (go_simp; done) | (go_simp; rfl)); intro gb452 hg w7 hbox hb; have n0_ := aM_ (bP_ (by repeat (with_reducible first | exact HB.out | apply bA_ | apply bN_)) hb); have n1_ := aM_ (hbox); have n2_ := aM_ ((by rw [hg]; exact (bZ_ (by repeat (with_reducible first | exact HB.out | apply bA_ | apply bN_))) : w.heap.size ≤ gb452)); have n3_ := aM_ ((by rw [hg]; exact (bZ_ (by repeat (with_reducible first | exact HB.out | apply bA_ | apply bN_))) : w.heap.size ≤ gb452)); clear HB; have HB := n0_; have BK452 := n1_; have GW452 := n2_; have GE452 := n3_; clear n0_ n1_ n2_ n3_; clear hb hbox hg; have hcz8_0 : w7.cell? ⟨gb452, 0, none⟩ = some (.slice A0_0 l0_0.length c0_0) := (kC_ BK452.out 0).trans rfl; have hcz8_1 : w7.cell? ⟨gb452, 1, none⟩ = some (.slice A0_1 l0_1.length c0_1) := (kC_ BK452.out 1).trans rfl; have hfz8_0 := kZ_ BK452.out 0; have hfz8_1 := kZ_ BK452.out 1) | ((with_reducible refine gate_callee (f := 14) rfl ?_); refine goesL_ (some 22) rfl rfl Try.func14 (by kernel_rfl) rfl #[.agg #[.slice A0_0 l0_0.length c0_0, .slice A0_1 l0_1.length c0_1], .int .i64 1048576] rfl (by (try simp only [List.map_toArray, List.map_cons, List.map_nil]); first | done | rfl | (simp only [List.length_drop, List.length_take]; rfl)) ?_; (with_reducible refine (laws_szDevice.calls k _ _ l0_0 _ _ l0_1 1048576 t453 _ ?side1 ?side2 ?side3 ?side4 A5.out).mono ?_); (case side1 => repeat (first | exact (cB_ HR0_0.out HB.out) | (with_reducible refine cA_ ?_ _) | (with_reducible refine cN_ ?_ _))); (case side2 => exact HC0_0.out); (case side3 => repeat (first | exact (cB_ HR0_1.out HB.out) | (with_reducible refine cA_ ?_ _) | (with_reducible refine cN_ ?_ _))); (case side4 => exact HC0_1.out); rintro e w9 ⟨rfl, hb⟩; refine ⟨_, rfl, ?_⟩; have n0_ := aM_ (kB_ (g := gb452) (o := .cells #[.slice A0_0 l0_0.length c0_0, .slice A0_1 l0_1.length c0_1] 32 (0, 0)) (by (with_reducible repeat (first | refine kN_ ?_ _ | refine kA_ ?_ _)); exact BK452.out) hb); have n1_ := aM_ (bP_ (by repeat (with_reducible first | exact HB.out | apply bA_ | apply bN_ | refine bS_ ?_ GE452.out)) hb); clear BK452; clear HB; have BK452 := n0_; have HB := n1_; clear n0_ n1_; (try clear hb); (try clear hb2); (try clear hk); (try clear hi)))
   go_ret
   exact ⟨by first | rfl | (simp [errW_none, errW_some] <;> rfl) | (simp [*, errW_none, errW_some] <;> rfl), by repeat (with_reducible first | exact HB.out | apply bA_ | apply bN_ | refine bS_ ?_ GE452.out)⟩
  ·rw [if_neg c6] at H
   have c6b0 : decide (t453 < 0) = false := decide_eq_false c6
   clear c6
   replace H := Option.bind_eq_some_iff.mp H
   obtain ⟨⟨t454, t457⟩, A100, H⟩ := H
   replace H : ((laws_toIntS.f k l1).bind fun t460 => ((spec_CrashWith.f k t454 t457 t460).bind fun bt463 => ((laws_toDevice.f k l0_0 l0_1).bind fun bt471 => ((laws_toIntS.f k l1).bind fun t478 => ((impl_CrashWith.f k bt471.1 bt471.2 t478).bind fun bt481 => ((laws_eqDevice.f k bt481.1 bt481.2.1 bt463.1 bt463.2.1).bind fun t489 => (if t489 = true then (laws_FnExactCrashWith.j0 k l1 bt463.2.2 t478 bt481.2.2 (bt481.2.2 != bt463.2.2) l0_0 l0_1 bt463.1 bt463.2.1 bt471.1 bt471.2 bt481.1 bt481.2.1) else (laws_FnExactCrashWith.j0 k l1 bt463.2.2 t478 bt481.2.2 true l0_0 l0_1 bt463.1 bt463.2.1 bt471.1 bt471.2 bt481.1 bt481.2.1)))))))) = some r := H
   have A10 := aM_ A100
   clear A100
   replace H := Option.bind_eq_some_iff.mp H
   obtain ⟨t460, A110, H⟩ := H
   replace H : ((spec_CrashWith.f k t454 t457 t460).bind fun bt463 => ((laws_toDevice.f k l0_0 l0_1).bind fun bt471 => ((laws_toIntS.f k l1).bind fun t478 => ((impl_CrashWith.f k bt471.1 bt471.2 t478).bind fun bt481 => ((laws_eqDevice.f k bt481.1 bt481.2.1 bt463.1 bt463.2.1).bind fun t489 => (if t489 = true then (laws_FnExactCrashWith.j0 k l1 bt463.2.2 t478 bt481.2.2 (bt481.2.2 != bt463.2.2) l0_0 l0_1 bt463.1 bt463.2.1 bt471.1 bt471.2 bt481.1 bt481.2.1) else (laws_FnExactCrashWith.j0 k l1 bt463.2.2 t478 bt481.2.2 true l0_0 l0_1 bt463.1 bt463.2.1 bt471.1 bt471.2 bt481.1 bt481.2.1))))))) = some r := H
   have A11 := aM_ A110
   clear A110
   replace H := Option.bind_eq_some_iff.mp H
   obtain ⟨⟨t463, t466, t469⟩, A120, H⟩ := H
   replace H : ((laws_toDevice.f k l0_0 l0_1).bind fun bt471 => ((laws_toIntS.f k l1).bind fun t478 => ((impl_CrashWith.f k bt471.1 bt471.2 t478).bind fun bt481 => ((laws_eqDevice.f k bt481.1 bt481.2.1 t463 t466).bind fun t489 => (if t489 = true then (laws_FnExactCrashWith.j0 k l1 t469 t478 bt481.2.2 (bt481.2.2 != t469) l0_0 l0_1 t463 t466 bt471.1 bt471.2 bt481.1 bt481.2.1) else (laws_FnExactCrashWith.j0 k l1 t469 t478 bt481.2.2 true l0_0 l0_1 t463 t466 bt471.1 bt471.2 bt481.1 bt481.2.1)))))) = some r := H
   have A12 := aM_ A120
   clear A120
   replace H := Option.bind_eq_some_iff.mp H
   obtain ⟨⟨t471, t474⟩, A130, H⟩ := H
   replace H : ((laws_toIntS.f k l1).bind fun t478 => ((impl_CrashWith.f k t471 t474 t478).bind fun bt481 => ((laws_eqDevice.f k bt481.1 bt481.2.1 t463 t466).bind fun t489 => (if t489 = true then (laws_FnExactCrashWith.j0 k l1 t469 t478 bt481.2.2 (bt481.2.2 != t469) l0_0 l0_1 t463 t466 t471 t474 bt481.1 bt481.2.1) else (laws_FnExactCrashWith.j0 k l1 t469 t478 bt481.2.2 true l0_0 l0_1 t463 t466 t471 t474 bt481.1 bt481.2.1))))) = some r := H
   have A13 := aM_ A130
   clear A130
   replace H := Option.bind_eq_some_iff.mp H
   obtain ⟨t478, A140, H⟩ := H
   replace H : ((impl_CrashWith.f k t471 t474 t478).bind fun bt481 => ((laws_eqDevice.f k bt481.1 bt481.2.1 t463 t466).bind fun t489 => (if t489 = true then (laws_FnExactCrashWith.j0 k l1 t469 t478 bt481.2.2 (bt481.2.2 != t469) l0_0 l0_1 t463 t466 t471 t474 bt481.1 bt481.2.1) else (laws_FnExactCrashWith.j0 k l1 t469 t478 bt481.2.2 true l0_0 l0_1 t463 t466 t471 t474 bt481.1 bt481.2.1)))) = some r := H
   have A14 := aM_ A140
   clear A140
   replace H := Option.bind_eq_some_iff.mp H
   obtain ⟨⟨t481, t484, t487⟩, A150, H⟩ := H
   replace H : ((laws_eqDevice.f k t481 t484 t463 t466).bind fun t489 => (if t489 = true then (laws_FnExactCrashWith.j0 k l1 t469 t478 t487 (t487 != t469) l0_0 l0_1 t463 t466 t471 t474 t481 t484) else (laws_FnExactCrashWith.j0 k l1 t469 t478 t487 true l0_0 l0_1 t463 t466 t471 t474 t481 t484))) = some r := H
   have A15 := aM_ A150
   clear A150
   have HC16 := aM_ H
   clear H
   go_enter Try.func8, Try.ntmps8
   go_upto_region 11 with (first | ((with_reducible refine gate_dst (N := 2) rfl ?_); refine box_event ?hg (N := 2) ?hd (cs := #[.slice A0_0 l0_0.length c0_0, .slice A0_1 l0_1.length c0_1]) (t := 32) ?hr ?_; (case hd => rfl); (case hg => rfl); (case hr => first | (go_simp; done) | (go_simp; rfl)); intro gb452 hg w17 hbox hb; have n0_ := aM_ (bP_ (by repeat (with_reducible first | exact HB.out | apply bA_ | apply bN_)) hb); have n1_ := aM_ (hbox); have n2_ := aM_ ((by rw [hg]; exact (bZ_ (by repeat (with_reducible first | exact HB.out | apply bA_ | apply bN_))) : w.heap.size ≤ gb452)); have n3_ := aM_ ((by rw [hg]; exact (bZ_ (by repeat (with_reducible first | exact HB.out | apply bA_ | apply bN_))) : w.heap.size ≤ gb452)); clear HB; have HB := n0_; have BK452 := n1_; have GW452 := n2_; have GE452 := n3_; clear n0_ n1_ n2_ n3_; clear hb hbox hg; have hcz18_0 : w17.cell? ⟨gb452, 0, none⟩ = some (.slice A0_0 l0_0.length c0_0) := (kC_ BK452.out 0).trans rfl; have hcz18_1 : w17.cell? ⟨gb452, 1, none⟩ = some (.slice A0_1 l0_1.length c0_1) := (kC_ BK452.out 1).trans rfl; have hfz18_0 := kZ_ BK452.out 0; have hfz18_1 := kZ_ BK452.out 1) | ((with_reducible refine gate_callee (f := 14) rfl ?_); refine goesL_ (some 22) rfl rfl Try.func14 (by kernel_rfl) rfl #[.agg #[.slice A0_0 l0_0.length c0_0, .slice A0_1 l0_1.length c0_1], .int .i64 1048576] rfl (by (try simp only [List.map_toArray, List.map_cons, List.map_nil]); first | done | rfl | (simp only [List.length_drop, List.length_take]; rfl)) ?_; (with_reducible refine (laws_szDevice.calls k _ _ l0_0 _ _ l0_1 1048576 t453 _ ?side1 ?side2 ?side3 ?side4 A5.out).mono ?_); (case side1 => repeat (first | exact (cB_ HR0_0.out HB.out) | (with_reducible refine cA_ ?_ _) | (with_reducible refine cN_ ?_ _))); (case side2 => exact HC0_0.out); (case side3 => repeat (first | exact (cB_ HR0_1.out HB.out) | (with_reducible refine cA_ ?_ _) | (with_reducible refine cN_ ?_ _))); (case side4 => exact HC0_1.out); rintro e w19 ⟨rfl, hb⟩; refine ⟨_, rfl, ?_⟩; have n0_ := aM_ (kB_ (g := gb452) (o := .cells #[.slice A0_0 l0_0.length c0_0, .slice A0_1 l0_1.length c0_1] 32 (0, 0)) (by (with_reducible repeat (first | refine kN_ ?_ _ | refine kA_ ?_ _)); exact BK452.out) hb); have n1_ := aM_ (bP_ (by repeat (with_reducible first | exact HB.out | apply bA_ | apply bN_ | refine bS_ ?_ GE452.out)) hb); clear BK452; clear HB; have BK452 := n0_; have HB := n1_; clear n0_ n1_; (try clear hb); (try clear hb2); (try clear hk); (try clear hi); have hcz20_0 : w19.cell? ⟨gb452, 0, none⟩ = some (.slice A0_0 l0_0.length c0_0) := (kC_ BK452.out 0).trans rfl; have hcz20_1 : w19.cell? ⟨gb452, 1, none⟩ = some (.slice A0_1 l0_1.length c0_1) := (kC_ BK452.out 1).trans rfl; have hfz20_0 := kZ_ BK452.out 0; have hfz20_1 := kZ_ BK452.out 1) | ((with_reducible refine gate_callee (f := 16) rfl ?_); refine goesL_ (some 27) rfl rfl Try.func16 (by kernel_rfl) rfl #[.agg #[.slice A0_0 l0_0.length c0_0, .slice A0_1 l0_1.length c0_1]] rfl (by (try simp only [List.map_toArray, List.map_cons, List.map_nil]); first | done | rfl | (simp only [List.length_drop, List.length_take]; rfl)) ?_; (with_reducible refine (laws_toDevice.calls k _ _ l0_0 _ _ l0_1 t454 t457 _ ?side1 ?side2 ?side3 ?side4 A10.out).mono ?_); (case side1 => repeat (first | exact (cB_ HR0_0.out HB.out) | (with_reducible refine cA_ ?_ _) | (with_reducible refine cN_ ?_ _))); (case side2 => exact HC0_0.out); (case side3 => repeat (first | exact (cB_ HR0_1.out HB.out) | (with_reducible refine cA_ ?_ _) | (with_reducible refine cN_ ?_ _))); (case side4 => exact HC0_1.out); rintro e w21 ⟨v455, v458, rfl, ho0, ho1, hb⟩; refine ⟨_, rfl, ?_⟩; have n0_ := aM_ (rO_ ho0 (bZ_ (by repeat (with_reducible first | exact HB.out | apply bA_ | apply bN_ | refine bS_ ?_ GE452.out)))); have n1_ := aM_ (rO_ ho1 (bZ_ (by repeat (with_reducible first | exact HB.out | apply bA_ | apply bN_ | refine bS_ ?_ GE452.out)))); have n2_ := aM_ (kB_ (g := gb452) (o := .cells #[.slice A0_0 l0_0.length c0_0, .slice A0_1 l0_1.length c0_1] 32 (0, 0)) (by (with_reducible repeat (first | refine kN_ ?_ _ | refine kA_ ?_ _)); exact BK452.out) hb); have n3_ := aM_ (bP_ (by repeat (with_reducible first | exact HB.out | apply bA_ | apply bN_ | refine bS_ ?_ GE452.out)) hb); clear BK452; clear HB; have HO456 := n0_; have HO459 := n1_; have BK452 := n2_; have HB := n3_; clear n0_ n1_ n2_ n3_; (try clear hb); (try clear hb2); (try clear hk); (try clear hi); (try clear ho0); (try clear ho1)) | ((with_reducible refine gate_callee (f := 25) rfl ?_); refine goesL_ (some 29) rfl rfl Try.func25 (by kernel_rfl) rfl #[.slice A1 l1.length c1] rfl (by (try simp only [List.map_toArray, List.map_cons, List.map_nil]); first | done | rfl | (simp only [List.length_drop, List.length_take]; rfl)) ?_; (with_reducible refine (laws_toIntS.calls k _ _ l1 t460 _ ?side1 ?side2 A11.out).mono ?_); (case side1 => repeat (first | exact (cB_ HR1.out HB.out) | (with_reducible refine cA_ ?_ _) | (with_reducible refine cN_ ?_ _))); (case side2 => exact HC1.out); rintro e w22 ⟨v461, rfl, ho0, hb⟩; refine ⟨_, rfl, ?_⟩; have n0_ := aM_ (rB_ (by (with_reducible repeat (first | apply rA_ | apply rN_)); exact HO456.out) hb); have n1_ := aM_ (rB_ (by (with_reducible repeat (first | apply rA_ | apply rN_)); exact HO459.out) hb); have n2_ := aM_ (rO_ ho0 (bZ_ (by repeat (with_reducible first | exact HB.out | apply bA_ | apply bN_ | refine bS_ ?_ GE452.out)))); have n3_ := aM_ (kB_ (g := gb452) (o := .cells #[.slice A0_0 l0_0.length c0_0, .slice A0_1 l0_1.length c0_1] 32 (0, 0)) (by (with_reducible repeat (first | refine kN_ ?_ _ | refine kA_ ?_ _)); exact BK452.out) hb); have n4_ := aM_ (bP_ (by repeat (with_reducible first | exact HB.out | apply bA_ | apply bN_ | refine bS_ ?_ GE452.out)) hb); clear HO456; clear HO459; clear BK452; clear HB; have HO456 := n0_; have HO459 := n1_; have HO462 := n2_; have BK452 := n3_; have HB := n4_; clear n0_ n1_ n2_ n3_ n4_; (try clear hb); (try clear hb2); (try clear hk); (try clear hi); (try clear ho0); obtain ⟨Ao23, co23, eo23⟩ := Kd.R_slice HO456.out; subst eo23; obtain ⟨Ao24, co24, eo24⟩ := Kd.R_slice HO459.out; subst eo24; obtain ⟨Ao25, co25, eo25⟩ := Kd.R_slice HO462.out; subst eo25) | ((with_reducible refine gate_callee (f := 24) rfl ?_); refine goesL_ (some 30) rfl rfl Try.func24 (by kernel_rfl) rfl #[.agg #[.slice Ao23 t454.length co23, .slice Ao24 t457.length co24], .slice Ao25 t460.length co25] rfl (by (try simp only [List.map_toArray, List.map_cons, List.map_nil]); first | done | rfl | (simp only [List.length_drop, List.length_take]; rfl)) ?_; (with_reducible refine (spec_CrashWith.calls k _ _ t454 _ _ t457 _ _ t460 t463 t466 t469 _ ?side1 ?side2 ?side3 ?side4 ?side5 ?side6 A12.out).mono ?_); (case side1 => repeat (first | exact (rR_ HO456.out).2.2 | (with_reducible refine cA_ ?_ _) | (with_reducible refine cN_ ?_ _))); (case side2 => exact (rR_ HO456.out).2.1); (case side3 => repeat (first | exact (rR_ HO459.out).2.2 | (with_reducible refine cA_ ?_ _) | (with_reducible refine cN_ ?_ _))); (case side4 => exact (rR_ HO459.out).2.1); (case side5 => repeat (first | exact (rR_ HO462.out).2.2 | (with_reducible refine cA_ ?_ _) | (with_reducible refine cN_ ?_ _))); (case side6 => exact (rR_ HO462.out).2.1); rintro e w26 ⟨v464, v467, rfl, ho0, ho1, hb⟩; refine ⟨_, rfl, ?_⟩; have n0_ := aM_ (rE_ (by (with_reducible repeat (first | apply rA_ | apply rN_)); exact HO456.out) (rS_ ho0) hb); have n1_ := aM_ (rE_ (by (with_reducible repeat (first | apply rA_ | apply rN_)); exact HO459.out) (rS_ ho1) hb); have n2_ := aM_ (rB_ (by (with_reducible repeat (first | apply rA_ | apply rN_)); exact HO462.out) hb); have n3_ := aM_ (rO_ (rW_ ho0 (rL_ (by (with_reducible repeat (first | apply rA_ | apply rN_)); exact HO456.out))) (bZ_ (by repeat (with_reducible first | exact HB.out | apply bA_ | apply bN_ | refine bS_ ?_ GE452.out)))); have n4_ := aM_ (rO_ (rW_ ho1 (rL_ (by (with_reducible repeat (first | apply rA_ | apply rN_)); exact HO459.out))) (bZ_ (by repeat (with_reducible first | exact HB.out | apply bA_ | apply bN_ | refine bS_ ?_ GE452.out)))); have n5_ := aM_ (kB_ (g := gb452) (o := .cells #[.slice A0_0 l0_0.length c0_0, .slice A0_1 l0_1.length c0_1] 32 (0, 0)) (by (with_reducible repeat (first | refine kN_ ?_ _ | refine kA_ ?_ _)); exact BK452.out) hb); have n6_ := aM_ (bP_ (by repeat (with_reducible first | exact HB.out | apply bA_ | apply bN_ | refine bS_ ?_ GE452.out)) hb); clear HO456; clear HO459; clear HO462; clear BK452; clear HB; have HO456 := n0_; have HO459 := n1_; have HO462 := n2_; have HO465 := n3_; have HO468 := n4_; have BK452 := n5_; have HB := n6_; clear n0_ n1_ n2_ n3_ n4_ n5_ n6_; (try clear hb); (try clear hb2); (try clear hk); (try clear hi); (try clear ho0); (try clear ho1)) | ((with_reducible refine gate_dst (N := 6) rfl ?_); refine box_event ?hg (N := 6) ?hd (cs := #[.slice none 0 0, .slice none 0 0]) (t := 25) ?hr ?_; (case hd => rfl); (case hg => rfl); (case hr => first | (go_simp; done) | (go_simp; rfl)); intro gb470 hg w27 hbox hb; have n0_ := aM_ (rB_ (by (with_reducible repeat (first | apply rA_ | apply rN_)); exact HO456.out) hb); have n1_ := aM_ (rB_ (by (with_reducible repeat (first | apply rA_ | apply rN_)); exact HO459.out) hb); have n2_ := aM_ (rB_ (by (with_reducible repeat (first | apply rA_ | apply rN_)); exact HO462.out) hb); have n3_ := aM_ (rB_ (by (with_reducible repeat (first | apply rA_ | apply rN_)); exact HO465.out) hb); have n4_ := aM_ (rB_ (by (with_reducible repeat (first | apply rA_ | apply rN_)); exact HO468.out) hb); have n5_ := aM_ (kB_ (g := gb452) (o := .cells #[.slice A0_0 l0_0.length c0_0, .slice A0_1 l0_1.length c0_1] 32 (0, 0)) (by (with_reducible repeat (first | refine kN_ ?_ _ | refine kA_ ?_ _)); exact BK452.out) hb); have n6_ := aM_ (bP_ (by repeat (with_reducible first | exact HB.out | apply bA_ | apply bN_ | refine bS_ ?_ GE452.out)) hb); have n7_ := aM_ (hbox); have n8_ := aM_ ((by rw [hg]; exact (bZ_ (by repeat (with_reducible first | exact HB.out | apply bA_ | apply bN_ | refine bS_ ?_ GE452.out))) : w.heap.size ≤ gb470)); have n9_ := aM_ ((by rw [hg]; exact (bZ_ (by repeat (with_reducible first | exact HB.out | apply bA_ | apply bN_ | refine bS_ ?_ GE452.out))) : w.heap.size ≤ gb470)); have n10_ := aM_ ((by rw [hg]; exact Nat.ne_of_lt (kL_ (g := gb452) (o := .cells #[.slice A0_0 l0_0.length c0_0, .slice A0_1 l0_1.length c0_1] 32 (0, 0)) (by (with_reducible repeat (first | refine kN_ ?_ _ | refine kA_ ?_ _)); exact BK452.out)) : gb452 ≠ gb470)); have n11_ := aM_ ((by rw [hg]; exact Nat.ne_of_gt (kL_ (g := gb452) (o := .cells #[.slice A0_0 l0_0.length c0_0, .slice A0_1 l0_1.length c0_1] 32 (0, 0)) (by (with_reducible repeat (first | refine kN_ ?_ _ | refine kA_ ?_ _)); exact BK452.out)) : gb470 ≠ gb452)); clear HO456; clear HO459; clear HO462; clear HO465; clear HO468; clear BK452; clear HB; have HO456 := n0_; have HO459 := n1_; have HO462 := n2_; have HO465 := n3_; have HO468 := n4_; have BK452 := n5_; have HB := n6_; have BK470 := n7_; have GW470 := n8_; have GE470 := n9_; have NB452_470 := n10_; have NB470_452 := n11_; clear n0_ n1_ n2_ n3_ n4_ n5_ n6_ n7_ n8_ n9_ n10_ n11_; clear hb hbox hg; obtain ⟨Ao28, co28, eo28⟩ := Kd.R_slice HO465.out; subst eo28; have hnb29 := NB470_452.out; have hnc29 := NB452_470.out; have hcz30_0 : w27.cell? ⟨gb470, 0, none⟩ = some (.slice none 0 0) := (kC_ BK470.out 0).trans rfl; have hcz30_1 : w27.cell? ⟨gb470, 1, none⟩ = some (.slice none 0 0) := (kC_ BK470.out 1).trans rfl; have hfz30_0 := kZ_ BK470.out 0; have hfz30_1 := kZ_ BK470.out 1; obtain ⟨Ao31, co31, eo31⟩ := Kd.R_slice HO468.out; subst eo31; have hcz32_0 : w27.cell? ⟨gb452, 0, none⟩ = some (.slice A0_0 l0_0.length c0_0) := (kC_ BK452.out 0).trans rfl; have hcz32_1 : w27.cell? ⟨gb452, 1, none⟩ = some (.slice A0_1 l0_1.length c0_1) := (kC_ BK452.out 1).trans rfl; have hfz32_0 := kZ_ BK452.out 0; have hfz32_1 := kZ_ BK452.out 1) | ((with_reducible refine gate_callee (f := 16) rfl ?_); refine goesL_ (some 34) rfl rfl Try.func16 (by kernel_rfl) rfl #[.agg #[.slice A0_0 l0_0.length c0_0, .slice A0_1 l0_1.length c0_1]] rfl (by (try simp only [List.map_toArray, List.map_cons, List.map_nil]); first | done | rfl | (simp only [List.length_drop, List.length_take]; rfl)) ?_; (with_reducible refine (laws_toDevice.calls k _ _ l0_0 _ _ l0_1 t471 t474 _ ?side1 ?side2 ?side3 ?side4 A13.out).mono ?_); (case side1 => exact cB_ HR0_0.out (by repeat (with_reducible first | exact HB.out | apply bA_ | apply bN_ | refine bS_ ?_ GE452.out | refine bS_ ?_ GE470.out))); (case side2 => exact HC0_0.out); (case side3 => exact cB_ HR0_1.out (by repeat (with_reducible first | exact HB.out | apply bA_ | apply bN_ | refine bS_ ?_ GE452.out | refine bS_ ?_ GE470.out))); (case side4 => exact HC0_1.out); rintro e w33 ⟨v472, v475, rfl, ho0, ho1, hb⟩; refine ⟨_, rfl, ?_⟩; have n0_ := aM_ (rE_ (by (with_reducible repeat (first | apply rA_ | apply rN_)); exact (rM_ (rF_ (p := ⟨gb470, 1, none⟩) (rF_ (p := ⟨gb470, 0, none⟩) (rT_ HO456.out BK470.out (by decide)) (fun _ hk => hk.2) (.slice Ao28 t463.length co28)) (fun _ hk => hk.2) (.slice Ao31 t466.length co31)) (fun _ h_ => h_.1))) (rS_ ho0) hb); have n1_ := aM_ (rE_ (by (with_reducible repeat (first | apply rA_ | apply rN_)); exact (rM_ (rF_ (p := ⟨gb470, 1, none⟩) (rF_ (p := ⟨gb470, 0, none⟩) (rT_ HO459.out BK470.out (by decide)) (fun _ hk => hk.2) (.slice Ao28 t463.length co28)) (fun _ hk => hk.2) (.slice Ao31 t466.length co31)) (fun _ h_ => h_.1))) (rS_ ho1) hb); have n2_ := aM_ (rB_ (by (with_reducible repeat (first | apply rA_ | apply rN_)); exact (rM_ (rF_ (p := ⟨gb470, 1, none⟩) (rF_ (p := ⟨gb470, 0, none⟩) (rT_ HO462.out BK470.out (by decide)) (fun _ hk => hk.2) (.slice Ao28 t463.length co28)) (fun _ hk => hk.2) (.slice Ao31 t466.length co31)) (fun _ h_ => h_.1))) hb); have n3_ := aM_ (rE_ (by (with_reducible repeat (first | apply rA_ | apply rN_)); exact (rM_ (rF_ (p := ⟨gb470, 1, none⟩) (rF_ (p := ⟨gb470, 0, none⟩) (rT_ HO465.out BK470.out (by decide)) (fun _ hk => hk.2) (.slice Ao28 t463.length co28)) (fun _ hk => hk.2) (.slice Ao31 t466.length co31)) (fun _ h_ => h_.1))) (rS_ ho0) hb); have n4_ := aM_ (rE_ (by (with_reducible repeat (first | apply rA_ | apply rN_)); exact (rM_ (rF_ (p := ⟨gb470, 1, none⟩) (rF_ (p := ⟨gb470, 0, none⟩) (rT_ HO468.out BK470.out (by decide)) (fun _ hk => hk.2) (.slice Ao28 t463.length co28)) (fun _ hk => hk.2) (.slice Ao31 t466.length co31)) (fun _ h_ => h_.1))) (rS_ ho1) hb); have n5_ := aM_ (rO_ (rW_ (rW_ ho0 (rL_ (by (with_reducible repeat (first | apply rA_ | apply rN_)); exact (rM_ (rF_ (p := ⟨gb470, 1, none⟩) (rF_ (p := ⟨gb470, 0, none⟩) (rT_ HO456.out BK470.out (by decide)) (fun _ hk => hk.2) (.slice Ao28 t463.length co28)) (fun _ hk => hk.2) (.slice Ao31 t466.length co31)) (fun _ h_ => h_.1))))) (rL_ (by (with_reducible repeat (first | apply rA_ | apply rN_)); exact (rM_ (rF_ (p := ⟨gb470, 1, none⟩) (rF_ (p := ⟨gb470, 0, none⟩) (rT_ HO465.out BK470.out (by decide)) (fun _ hk => hk.2) (.slice Ao28 t463.length co28)) (fun _ hk => hk.2) (.slice Ao31 t466.length co31)) (fun _ h_ => h_.1))))) (bZ_ (by repeat (with_reducible first | exact HB.out | apply bA_ | apply bN_ | refine bS_ ?_ GE452.out | refine bS_ ?_ GE470.out)))); have n6_ := aM_ (rO_ (rW_ (rW_ ho1 (rL_ (by (with_reducible repeat (first | apply rA_ | apply rN_)); exact (rM_ (rF_ (p := ⟨gb470, 1, none⟩) (rF_ (p := ⟨gb470, 0, none⟩) (rT_ HO459.out BK470.out (by decide)) (fun _ hk => hk.2) (.slice Ao28 t463.length co28)) (fun _ hk => hk.2) (.slice Ao31 t466.length co31)) (fun _ h_ => h_.1))))) (rL_ (by (with_reducible repeat (first | apply rA_ | apply rN_)); exact (rM_ (rF_ (p := ⟨gb470, 1, none⟩) (rF_ (p := ⟨gb470, 0, none⟩) (rT_ HO468.out BK470.out (by decide)) (fun _ hk => hk.2) (.slice Ao28 t463.length co28)) (fun _ hk => hk.2) (.slice Ao31 t466.length co31)) (fun _ h_ => h_.1))))) (bZ_ (by repeat (with_reducible first | exact HB.out | apply bA_ | apply bN_ | refine bS_ ?_ GE452.out | refine bS_ ?_ GE470.out)))); have n7_ := aM_ (kB_ (g := gb452) (o := .cells #[.slice A0_0 l0_0.length c0_0, .slice A0_1 l0_1.length c0_1] 32 (0, 0)) (by (with_reducible repeat (first | refine kN_ ?_ _ | refine kA_ ?_ _)); refine kF_ ?_ NB452_470.out _; (with_reducible repeat (first | refine kN_ ?_ _ | refine kA_ ?_ _)); refine kF_ ?_ NB452_470.out _; (with_reducible repeat (first | refine kN_ ?_ _ | refine kA_ ?_ _)); exact BK452.out) hb); have n8_ := aM_ (kB_ (g := gb470) (o := .cells #[.slice Ao28 t463.length co28, .slice Ao31 t466.length co31] 25 (0, 0)) (by (with_reducible repeat (first | refine kN_ ?_ _ | refine kA_ ?_ _)); refine blk_put (cs := #[.slice Ao28 t463.length co28, .slice none 0 0]) ?_ 1 _ rfl; (with_reducible repeat (first | refine kN_ ?_ _ | refine kA_ ?_ _)); refine blk_put (cs := #[.slice none 0 0, .slice none 0 0]) ?_ 0 _ rfl; (with_reducible repeat (first | refine kN_ ?_ _ | refine kA_ ?_ _)); exact BK470.out) hb); have n9_ := aM_ (bP_ (by repeat (with_reducible first | exact HB.out | apply bA_ | apply bN_ | refine bS_ ?_ GE452.out | refine bS_ ?_ GE470.out)) hb); clear HO456; clear HO459; clear HO462; clear HO465; clear HO468; clear BK452; clear BK470; clear HB; have HO456 := n0_; have HO459 := n1_; have HO462 := n2_; have HO465 := n3_; have HO468 := n4_; have HO473 := n5_; have HO476 := n6_; have BK452 := n7_; have BK470 := n8_; have HB := n9_; clear n0_ n1_ n2_ n3_ n4_ n5_ n6_ n7_ n8_ n9_; (try clear hb); (try clear hb2); (try clear hk); (try clear hi); (try clear ho0); (try clear ho1)) | ((with_reducible refine gate_dst (N := 8) rfl ?_); refine box_event ?hg (N := 8) ?hd (cs := #[.slice none 0 0, .slice none 0 0]) (t := 25) ?hr ?_; (case hd => rfl); (case hg => rfl); (case hr => first | (go_simp; done) | (go_simp; rfl)); intro gb477 hg w34 hbox hb; have n0_ := aM_ (rB_ (by (with_reducible repeat (first | apply rA_ | apply rN_)); exact HO456.out) hb); have n1_ := aM_ (rB_ (by (with_reducible repeat (first | apply rA_ | apply rN_)); exact HO459.out) hb); have n2_ := aM_ (rB_ (by (with_reducible repeat (first | apply rA_ | apply rN_)); exact HO462.out) hb); have n3_ := aM_ (rB_ (by (with_reducible repeat (first | apply rA_ | apply rN_)); exact HO465.out) hb); have n4_ := aM_ (rB_ (by (with_reducible repeat (first | apply rA_ | apply rN_)); exact HO468.out) hb); have n5_ := aM_ (rB_ (by (with_reducible repeat (first | apply rA_ | apply rN_)); exact HO473.out) hb); have n6_ := aM_ (rB_ (by (with_reducible repeat (first | apply rA_ | apply rN_)); exact HO476.out) hb); have n7_ := aM_ (kB_ (g := gb452) (o := .cells #[.slice A0_0 l0_0.length c0_0, .slice A0_1 l0_1.length c0_1] 32 (0, 0)) (by (with_reducible repeat (first | refine kN_ ?_ _ | refine kA_ ?_ _)); exact BK452.out) hb); have n8_ := aM_ (kB_ (g := gb470) (o := .cells #[.slice Ao28 t463.length co28, .slice Ao31 t466.length co31] 25 (0, 0)) (by (with_reducible repeat (first | refine kN_ ?_ _ | refine kA_ ?_ _)); exact BK470.out) hb); have n9_ := aM_ (bP_ (by repeat (with_reducible first | exact HB.out | apply bA_ | apply bN_ | refine bS_ ?_ GE452.out | refine bS_ ?_ GE470.out)) hb); have n10_ := aM_ (hbox); have n11_ := aM_ ((by rw [hg]; exact (bZ_ (by repeat (with_reducible first | exact HB.out | apply bA_ | apply bN_ | refine bS_ ?_ GE452.out | refine bS_ ?_ GE470.out))) : w.heap.size ≤ gb477)); have n12_ := aM_ ((by rw [hg]; exact (bZ_ (by repeat (with_reducible first | exact HB.out | apply bA_ | apply bN_ | refine bS_ ?_ GE452.out | refine bS_ ?_ GE470.out))) : w.heap.size ≤ gb477)); have n13_ := aM_ ((by rw [hg]; exact Nat.ne_of_lt (kL_ (g := gb452) (o := .cells #[.slice A0_0 l0_0.length c0_0, .slice A0_1 l0_1.length c0_1] 32 (0, 0)) (by (with_reducible repeat (first | refine kN_ ?_ _ | refine kA_ ?_ _)); exact BK452.out)) : gb452 ≠ gb477)); have n14_ := aM_ ((by rw [hg]; exact Nat.ne_of_gt (kL_ (g := gb452) (o := .cells #[.slice A0_0 l0_0.length c0_0, .slice A0_1 l0_1.length c0_1] 32 (0, 0)) (by (with_reducible repeat (first | refine kN_ ?_ _ | refine kA_ ?_ _)); exact BK452.out)) : gb477 ≠ gb452)); have n15_ := aM_ ((by rw [hg]; exact Nat.ne_of_lt (kL_ (g := gb470) (o := .cells #[.slice Ao28 t463.length co28, .slice Ao31 t466.length co31] 25 (0, 0)) (by (with_reducible repeat (first | refine kN_ ?_ _ | refine kA_ ?_ _)); exact BK470.out)) : gb470 ≠ gb477)); have n16_ := aM_ ((by rw [hg]; exact Nat.ne_of_gt (kL_ (g := gb470) (o := .cells #[.slice Ao28 t463.length co28, .slice Ao31 t466.length co31] 25 (0, 0)) (by (with_reducible repeat (first | refine kN_ ?_ _ | refine kA_ ?_ _)); exact BK470.out)) : gb477 ≠ gb470)); clear HO456; clear HO459; clear HO462; clear HO465; clear HO468; clear HO473; clear HO476; clear BK452; clear BK470; clear HB; have HO456 := n0_; have HO459 := n1_; have HO462 := n2_; have HO465 := n3_; have HO468 := n4_; have HO473 := n5_; have HO476 := n6_; have BK452 := n7_; have BK470 := n8_; have HB := n9_; have BK477 := n10_; have GW477 := n11_; have GE477 := n12_; have NB452_477 := n13_; have NB477_452 := n14_; have NB470_477 := n15_; have NB477_470 := n16_; clear n0_ n1_ n2_ n3_ n4_ n5_ n6_ n7_ n8_ n9_ n10_ n11_ n12_ n13_ n14_ n15_ n16_; clear hb hbox hg; obtain ⟨Ao35, co35, eo35⟩ := Kd.R_slice HO473.out; subst eo35; have hnb36 := NB477_452.out; have hnc36 := NB452_477.out; have hnb37 := NB477_470.out; have hnc37 := NB470_477.out; have hcz38_0 : w34.cell? ⟨gb477, 0, none⟩ = some (.slice none 0 0) := (kC_ BK477.out 0).trans rfl; have hcz38_1 : w34.cell? ⟨gb477, 1, none⟩ = some (.slice none 0 0) := (kC_ BK477.out 1).trans rfl; have hfz38_0 := kZ_ BK477.out 0; have hfz38_1 := kZ_ BK477.out 1; obtain ⟨Ao39, co39, eo39⟩ := Kd.R_slice HO476.out; subst eo39) | ((with_reducible refine gate_callee (f := 25) rfl ?_); refine goesL_ (some 36) rfl rfl Try.func25 (by kernel_rfl) rfl #[.slice A1 l1.length c1] rfl (by (try simp only [List.map_toArray, List.map_cons, List.map_nil]); first | done | rfl | (simp only [List.length_drop, List.length_take]; rfl)) ?_; (with_reducible refine (laws_toIntS.calls k _ _ l1 t478 _ ?side1 ?side2 A14.out).mono ?_); (case side1 => exact cB_ HR1.out (by repeat (with_reducible first | exact HB.out | apply bA_ | apply bN_ | refine bS_ ?_ GE452.out | refine bS_ ?_ GE470.out | refine bS_ ?_ GE477.out))); (case side2 => exact HC1.out); rintro e w40 ⟨v479, rfl, ho0, hb⟩; refine ⟨_, rfl, ?_⟩; have n0_ := aM_ (rB_ (by (with_reducible repeat (first | apply rA_ | apply rN_)); exact (rM_ (rF_ (p := ⟨gb477, 1, none⟩) (rF_ (p := ⟨gb477, 0, none⟩) (rT_ HO456.out BK477.out (by decide)) (fun _ hk => hk.2) (.slice Ao35 t471.length co35)) (fun _ hk => hk.2) (.slice Ao39 t474.length co39)) (fun _ h_ => h_.1))) hb); have n1_ := aM_ (rB_ (by (with_reducible repeat (first | apply rA_ | apply rN_)); exact (rM_ (rF_ (p := ⟨gb477, 1, none⟩) (rF_ (p := ⟨gb477, 0, none⟩) (rT_ HO459.out BK477.out (by decide)) (fun _ hk => hk.2) (.slice Ao35 t471.length co35)) (fun _ hk => hk.2) (.slice Ao39 t474.length co39)) (fun _ h_ => h_.1))) hb); have n2_ := aM_ (rE_ (by (with_reducible repeat (first | apply rA_ | apply rN_)); exact (rM_ (rF_ (p := ⟨gb477, 1, none⟩) (rF_ (p := ⟨gb477, 0, none⟩) (rT_ HO462.out BK477.out (by decide)) (fun _ hk => hk.2) (.slice Ao35 t471.length co35)) (fun _ hk => hk.2) (.slice Ao39 t474.length co39)) (fun _ h_ => h_.1))) (rS_ ho0) hb); have n3_ := aM_ (rB_ (by (with_reducible repeat (first | apply rA_ | apply rN_)); exact (rM_ (rF_ (p := ⟨gb477, 1, none⟩) (rF_ (p := ⟨gb477, 0, none⟩) (rT_ HO465.out BK477.out (by decide)) (fun _ hk => hk.2) (.slice Ao35 t471.length co35)) (fun _ hk => hk.2) (.slice Ao39 t474.length co39)) (fun _ h_ => h_.1))) hb); have n4_ := aM_ (rB_ (by (with_reducible repeat (first | apply rA_ | apply rN_)); exact (rM_ (rF_ (p := ⟨gb477, 1, none⟩) (rF_ (p := ⟨gb477, 0, none⟩) (rT_ HO468.out BK477.out (by decide)) (fun _ hk => hk.2) (.slice Ao35 t471.length co35)) (fun _ hk => hk.2) (.slice Ao39 t474.length co39)) (fun _ h_ => h_.1))) hb); have n5_ := aM_ (rB_ (by (with_reducible repeat (first | apply rA_ | apply rN_)); exact (rM_ (rF_ (p := ⟨gb477, 1, none⟩) (rF_ (p := ⟨gb477, 0, none⟩) (rT_ HO473.out BK477.out (by decide)) (fun _ hk => hk.2) (.slice Ao35 t471.length co35)) (fun _ hk => hk.2) (.slice Ao39 t474.length co39)) (fun _ h_ => h_.1))) hb); have n6_ := aM_ (rB_ (by (with_reducible repeat (first | apply rA_ | apply rN_)); exact (rM_ (rF_ (p := ⟨gb477, 1, none⟩) (rF_ (p := ⟨gb477, 0, none⟩) (rT_ HO476.out BK477.out (by decide)) (fun _ hk => hk.2) (.slice Ao35 t471.length co35)) (fun _ hk => hk.2) (.slice Ao39 t474.length co39)) (fun _ h_ => h_.1))) hb); have n7_ := aM_ (rO_ (rW_ ho0 (rL_ (by (with_reducible repeat (first | apply rA_ | apply rN_)); exact (rM_ (rF_ (p := ⟨gb477, 1, none⟩) (rF_ (p := ⟨gb477, 0, none⟩) (rT_ HO462.out BK477.out (by decide)) (fun _ hk => hk.2) (.slice Ao35 t471.length co35)) (fun _ hk => hk.2) (.slice Ao39 t474.length co39)) (fun _ h_ => h_.1))))) (bZ_ (by repeat (with_reducible first | exact HB.out | apply bA_ | apply bN_ | refine bS_ ?_ GE452.out | refine bS_ ?_ GE470.out | refine bS_ ?_ GE477.out)))); have n8_ := aM_ (kB_ (g := gb452) (o := .cells #[.slice A0_0 l0_0.length c0_0, .slice A0_1 l0_1.length c0_1] 32 (0, 0)) (by (with_reducible repeat (first | refine kN_ ?_ _ | refine kA_ ?_ _)); refine kF_ ?_ NB452_477.out _; (with_reducible repeat (first | refine kN_ ?_ _ | refine kA_ ?_ _)); refine kF_ ?_ NB452_477.out _; (with_reducible repeat (first | refine kN_ ?_ _ | refine kA_ ?_ _)); exact BK452.out) hb); have n9_ := aM_ (kB_ (g := gb470) (o := .cells #[.slice Ao28 t463.length co28, .slice Ao31 t466.length co31] 25 (0, 0)) (by (with_reducible repeat (first | refine kN_ ?_ _ | refine kA_ ?_ _)); refine kF_ ?_ NB470_477.out _; (with_reducible repeat (first | refine kN_ ?_ _ | refine kA_ ?_ _)); refine kF_ ?_ NB470_477.out _; (with_reducible repeat (first | refine kN_ ?_ _ | refine kA_ ?_ _)); exact BK470.out) hb); have n10_ := aM_ (kB_ (g := gb477) (o := .cells #[.slice Ao35 t471.length co35, .slice Ao39 t474.length co39] 25 (0, 0)) (by (with_reducible repeat (first | refine kN_ ?_ _ | refine kA_ ?_ _)); refine blk_put (cs := #[.slice Ao35 t471.length co35, .slice none 0 0]) ?_ 1 _ rfl; (with_reducible repeat (first | refine kN_ ?_ _ | refine kA_ ?_ _)); refine blk_put (cs := #[.slice none 0 0, .slice none 0 0]) ?_ 0 _ rfl; (with_reducible repeat (first | refine kN_ ?_ _ | refine kA_ ?_ _)); exact BK477.out) hb); have n11_ := aM_ (bP_ (by repeat (with_reducible first | exact HB.out | apply bA_ | apply bN_ | refine bS_ ?_ GE452.out | refine bS_ ?_ GE470.out | refine bS_ ?_ GE477.out)) hb); clear HO456; clear HO459; clear HO462; clear HO465; clear HO468; clear HO473; clear HO476; clear BK452; clear BK470; clear BK477; clear HB; have HO456 := n0_; have HO459 := n1_; have HO462 := n2_; have HO465 := n3_; have HO468 := n4_; have HO473 := n5_; have HO476 := n6_; have HO480 := n7_; have BK452 := n8_; have BK470 := n9_; have BK477 := n10_; have HB := n11_; clear n0_ n1_ n2_ n3_ n4_ n5_ n6_ n7_ n8_ n9_ n10_ n11_; (try clear hb); (try clear hb2); (try clear hk); (try clear hi); (try clear ho0); have hcz41_0 : w40.cell? ⟨gb477, 0, none⟩ = some (.slice Ao35 t471.length co35) := (kC_ BK477.out 0).trans rfl; have hcz41_1 : w40.cell? ⟨gb477, 1, none⟩ = some (.slice Ao39 t474.length co39) := (kC_ BK477.out 1).trans rfl; have hfz41_0 := kZ_ BK477.out 0; have hfz41_1 := kZ_ BK477.out 1; obtain ⟨Ao42, co42, eo42⟩ := Kd.R_slice HO480.out; subst eo42) | ((with_reducible refine gate_callee (f := 26) rfl ?_); refine goesL_ (some 40) rfl rfl Try.func26 (by kernel_rfl) rfl #[.agg #[.slice Ao35 t471.length co35, .slice Ao39 t474.length co39], .slice Ao42 t478.length co42] rfl (by (try simp only [List.map_toArray, List.map_cons, List.map_nil]); first | done | rfl | (simp only [List.length_drop, List.length_take]; rfl)) ?_; (with_reducible refine (impl_CrashWith.calls k _ _ t471 _ _ t474 _ _ t478 t481 t484 t487 _ ?side1 ?side2 ?side3 ?side4 ?side5 ?side6 A15.out).mono ?_); (case side1 => repeat (first | exact (rR_ HO473.out).2.2 | (with_reducible refine cA_ ?_ _) | (with_reducible refine cN_ ?_ _))); (case side2 => exact (rR_ HO473.out).2.1); (case side3 => repeat (first | exact (rR_ HO476.out).2.2 | (with_reducible refine cA_ ?_ _) | (with_reducible refine cN_ ?_ _))); (case side4 => exact (rR_ HO476.out).2.1); (case side5 => repeat (first | exact (rR_ HO480.out).2.2 | (with_reducible refine cA_ ?_ _) | (with_reducible refine cN_ ?_ _))); (case side6 => exact (rR_ HO480.out).2.1); rintro e w43 ⟨v482, v485, rfl, ho0, ho1, hb⟩; refine ⟨_, rfl, ?_⟩; have n0_ := aM_ (rE_ (by (with_reducible repeat (first | apply rA_ | apply rN_)); exact HO456.out) (rS_ ho0) hb); have n1_ := aM_ (rE_ (by (with_reducible repeat (first | apply rA_ | apply rN_)); exact HO459.out) (rS_ ho1) hb); have n2_ := aM_ (rB_ (by (with_reducible repeat (first | apply rA_ | apply rN_)); exact HO462.out) hb); have n3_ := aM_ (rE_ (by (with_reducible repeat (first | apply rA_ | apply rN_)); exact HO465.out) (rS_ ho0) hb); have n4_ := aM_ (rE_ (by (with_reducible repeat (first | apply rA_ | apply rN_)); exact HO468.out) (rS_ ho1) hb); have n5_ := aM_ (rE_ (by (with_reducible repeat (first | apply rA_ | apply rN_)); exact HO473.out) (rS_ ho0) hb); have n6_ := aM_ (rE_ (by (with_reducible repeat (first | apply rA_ | apply rN_)); exact HO476.out) (rS_ ho1) hb); have n7_ := aM_ (rB_ (by (with_reducible repeat (first | apply rA_ | apply rN_)); exact HO480.out) hb); have n8_ := aM_ (rO_ (rW_ (rW_ (rW_ ho0 (rL_ (by (with_reducible repeat (first | apply rA_ | apply rN_)); exact HO456.out))) (rL_ (by (with_reducible repeat (first | apply rA_ | apply rN_)); exact HO465.out))) (rL_ (by (with_reducible repeat (first | apply rA_ | apply rN_)); exact HO473.out))) (bZ_ (by repeat (with_reducible first | exact HB.out | apply bA_ | apply bN_ | refine bS_ ?_ GE452.out | refine bS_ ?_ GE470.out | refine bS_ ?_ GE477.out)))); have n9_ := aM_ (rO_ (rW_ (rW_ (rW_ ho1 (rL_ (by (with_reducible repeat (first | apply rA_ | apply rN_)); exact HO459.out))) (rL_ (by (with_reducible repeat (first | apply rA_ | apply rN_)); exact HO468.out))) (rL_ (by (with_reducible repeat (first | apply rA_ | apply rN_)); exact HO476.out))) (bZ_ (by repeat (with_reducible first | exact HB.out | apply bA_ | apply bN_ | refine bS_ ?_ GE452.out | refine bS_ ?_ GE470.out | refine bS_ ?_ GE477.out)))); have n10_ := aM_ (kB_ (g := gb452) (o := .cells #[.slice A0_0 l0_0.length c0_0, .slice A0_1 l0_1.length c0_1] 32 (0, 0)) (by (with_reducible repeat (first | refine kN_ ?_ _ | refine kA_ ?_ _)); exact BK452.out) hb); have n11_ := aM_ (kB_ (g := gb470) (o := .cells #[.slice Ao28 t463.length co28, .slice Ao31 t466.length co31] 25 (0, 0)) (by (with_reducible repeat (first | refine kN_ ?_ _ | refine kA_ ?_ _)); exact BK470.out) hb); have n12_ := aM_ (kB_ (g := gb477) (o := .cells #[.slice Ao35 t471.length co35, .slice Ao39 t474.length co39] 25 (0, 0)) (by (with_reducible repeat (first | refine kN_ ?_ _ | refine kA_ ?_ _)); exact BK477.out) hb); have n13_ := aM_ (bP_ (by repeat (with_reducible first | exact HB.out | apply bA_ | apply bN_ | refine bS_ ?_ GE452.out | refine bS_ ?_ GE470.out | refine bS_ ?_ GE477.out)) hb); clear HO456; clear HO459; clear HO462; clear HO465; clear HO468; clear HO473; clear HO476; clear HO480; clear BK452; clear BK470; clear BK477; clear HB; have HO456 := n0_; have HO459 := n1_; have HO462 := n2_; have HO465 := n3_; have HO468 := n4_; have HO473 := n5_; have HO476 := n6_; have HO480 := n7_; have HO483 := n8_; have HO486 := n9_; have BK452 := n10_; have BK470 := n11_; have BK477 := n12_; have HB := n13_; clear n0_ n1_ n2_ n3_ n4_ n5_ n6_ n7_ n8_ n9_ n10_ n11_ n12_ n13_; (try clear hb); (try clear hb2); (try clear hk); (try clear hi); (try clear ho0); (try clear ho1)) | ((with_reducible refine gate_dst (N := 10) rfl ?_); refine box_event ?hg (N := 10) ?hd (cs := #[.slice none 0 0, .slice none 0 0]) (t := 25) ?hr ?_; (case hd => rfl); (case hg => rfl); (case hr => first | (go_simp; done) | (go_simp; rfl)); intro gb488 hg w44 hbox hb; have n0_ := aM_ (rB_ (by (with_reducible repeat (first | apply rA_ | apply rN_)); exact HO456.out) hb); have n1_ := aM_ (rB_ (by (with_reducible repeat (first | apply rA_ | apply rN_)); exact HO459.out) hb); have n2_ := aM_ (rB_ (by (with_reducible repeat (first | apply rA_ | apply rN_)); exact HO462.out) hb); have n3_ := aM_ (rB_ (by (with_reducible repeat (first | apply rA_ | apply rN_)); exact HO465.out) hb); have n4_ := aM_ (rB_ (by (with_reducible repeat (first | apply rA_ | apply rN_)); exact HO468.out) hb); have n5_ := aM_ (rB_ (by (with_reducible repeat (first | apply rA_ | apply rN_)); exact HO473.out) hb); have n6_ := aM_ (rB_ (by (with_reducible repeat (first | apply rA_ | apply rN_)); exact HO476.out) hb); have n7_ := aM_ (rB_ (by (with_reducible repeat (first | apply rA_ | apply rN_)); exact HO480.out) hb); have n8_ := aM_ (rB_ (by (with_reducible repeat (first | apply rA_ | apply rN_)); exact HO483.out) hb); have n9_ := aM_ (rB_ (by (with_reducible repeat (first | apply rA_ | apply rN_)); exact HO486.out) hb); have n10_ := aM_ (kB_ (g := gb452) (o := .cells #[.slice A0_0 l0_0.length c0_0, .slice A0_1 l0_1.length c0_1] 32 (0, 0)) (by (with_reducible repeat (first | refine kN_ ?_ _ | refine kA_ ?_ _)); exact BK452.out) hb); have n11_ := aM_ (kB_ (g := gb470) (o := .cells #[.slice Ao28 t463.length co28, .slice Ao31 t466.length co31] 25 (0, 0)) (by (with_reducible repeat (first | refine kN_ ?_ _ | refine kA_ ?_ _)); exact BK470.out) hb); have n12_ := aM_ (kB_ (g := gb477) (o := .cells #[.slice Ao35 t471.length co35, .slice Ao39 t474.length co39] 25 (0, 0)) (by (with_reducible repeat (first | refine kN_ ?_ _ | refine kA_ ?_ _)); exact BK477.out) hb); have n13_ := aM_ (bP_ (by repeat (with_reducible first | exact HB.out | apply bA_ | apply bN_ | refine bS_ ?_ GE452.out | refine bS_ ?_ GE470.out | refine bS_ ?_ GE477.out)) hb); have n14_ := aM_ (hbox); have n15_ := aM_ ((by rw [hg]; exact (bZ_ (by repeat (with_reducible first | exact HB.out | apply bA_ | apply bN_ | refine bS_ ?_ GE452.out | refine bS_ ?_ GE470.out | refine bS_ ?_ GE477.out))) : w.heap.size ≤ gb488)); have n16_ := aM_ ((by rw [hg]; exact (bZ_ (by repeat (with_reducible first | exact HB.out | apply bA_ | apply bN_ | refine bS_ ?_ GE452.out | refine bS_ ?_ GE470.out | refine bS_ ?_ GE477.out))) : w.heap.size ≤ gb488)); have n17_ := aM_ ((by rw [hg]; exact Nat.ne_of_lt (kL_ (g := gb452) (o := .cells #[.slice A0_0 l0_0.length c0_0, .slice A0_1 l0_1.length c0_1] 32 (0, 0)) (by (with_reducible repeat (first | refine kN_ ?_ _ | refine kA_ ?_ _)); exact BK452.out)) : gb452 ≠ gb488)); have n18_ := aM_ ((by rw [hg]; exact Nat.ne_of_gt (kL_ (g := gb452) (o := .cells #[.slice A0_0 l0_0.length c0_0, .slice A0_1 l0_1.length c0_1] 32 (0, 0)) (by (with_reducible repeat (first | refine kN_ ?_ _ | refine kA_ ?_ _)); exact BK452.out)) : gb488 ≠ gb452)); have n19_ := aM_ ((by rw [hg]; exact Nat.ne_of_lt (kL_ (g := gb470) (o := .cells #[.slice Ao28 t463.length co28, .slice Ao31 t466.length co31] 25 (0, 0)) (by (with_reducible repeat (first | refine kN_ ?_ _ | refine kA_ ?_ _)); exact BK470.out)) : gb470 ≠ gb488)); have n20_ := aM_ ((by rw [hg]; exact Nat.ne_of_gt (kL_ (g := gb470) (o := .cells #[.slice Ao28 t463.length co28, .slice Ao31 t466.length co31] 25 (0, 0)) (by (with_reducible repeat (first | refine kN_ ?_ _ | refine kA_ ?_ _)); exact BK470.out)) : gb488 ≠ gb470)); have n21_ := aM_ ((by rw [hg]; exact Nat.ne_of_lt (kL_ (g := gb477) (o := .cells #[.slice Ao35 t471.length co35, .slice Ao39 t474.length co39] 25 (0, 0)) (by (with_reducible repeat (first | refine kN_ ?_ _ | refine kA_ ?_ _)); exact BK477.out)) : gb477 ≠ gb488)); have n22_ := aM_ ((by rw [hg]; exact Nat.ne_of_gt (kL_ (g := gb477) (o := .cells #[.slice Ao35 t471.length co35, .slice Ao39 t474.length co39] 25 (0, 0)) (by (with_reducible repeat (first | refine kN_ ?_ _ | refine kA_ ?_ _)); exact BK477.out)) : gb488 ≠ gb477)); clear HO456; clear HO459; clear HO462; clear HO465; clear HO468; clear HO473; clear HO476; clear HO480; clear HO483; clear HO486; clear BK452; clear BK470; clear BK477; clear HB; have HO456 := n0_; have HO459 := n1_; have HO462 := n2_; have HO465 := n3_; have HO468 := n4_; have HO473 := n5_; have HO476 := n6_; have HO480 := n7_; have HO483 := n8_; have HO486 := n9_; have BK452 := n10_; have BK470 := n11_; have BK477 := n12_; have HB := n13_; have BK488 := n14_; have GW488 := n15_; have GE488 := n16_; have NB452_488 := n17_; have NB488_452 := n18_; have NB470_488 := n19_; have NB488_470 := n20_; have NB477_488 := n21_; have NB488_477 := n22_; clear n0_ n1_ n2_ n3_ n4_ n5_ n6_ n7_ n8_ n9_ n10_ n11_ n12_ n13_ n14_ n15_ n16_ n17_ n18_ n19_ n20_ n21_ n22_; clear hb hbox hg; obtain ⟨Ao45, co45, eo45⟩ := Kd.R_slice HO483.out; subst eo45; have hnb46 := NB488_452.out; have hnc46 := NB452_488.out; have hnb47 := NB488_470.out; have hnc47 := NB470_488.out; have hnb48 := NB488_477.out; have hnc48 := NB477_488.out; have hcz49_0 : w44.cell? ⟨gb488, 0, none⟩ = some (.slice none 0 0) := (kC_ BK488.out 0).trans rfl; have hcz49_1 : w44.cell? ⟨gb488, 1, none⟩ = some (.slice none 0 0) := (kC_ BK488.out 1).trans rfl; have hfz49_0 := kZ_ BK488.out 0; have hfz49_1 := kZ_ BK488.out 1; obtain ⟨Ao50, co50, eo50⟩ := Kd.R_slice HO486.out; subst eo50))
   (try simp only [Act.put, List.setIfInBounds_toArray, List.set_cons_zero, List.set_cons_succ])
   go_cut [51] (fun v51 wc => ∃ (kq : Nat) (x51_15 : Bool), v51 = .bool x51_15 ∧ Aside0 (laws_FnExactCrashWith.j0 kq l1 t469 t478 t487 x51_15 l0_0 l0_1 t463 t466 t471 t474 t481 t484 = some r) ∧ Aside0 (kq ≤ k) ∧ Aside0 (Kd.R (Kd.int .i64) 3 wc w.heap.size (fun _ => True) (.slice Ao42 t478.length co42) t478) ∧ Aside0 (Kd.R Kd.string 9 wc w.heap.size (fun k_ => some k_ ≠ ((.slice Ao35 t471.length co35) : Value).ownBlock ∧ some k_ ≠ ((.slice Ao45 t481.length co45) : Value).ownBlock) (.slice Ao28 t463.length co28) t463) ∧ Aside0 (Kd.R k55 55 wc w.heap.size (fun k_ => some k_ ≠ ((.slice Ao39 t474.length co39) : Value).ownBlock ∧ some k_ ≠ ((.slice Ao50 t484.length co50) : Value).ownBlock) (.slice Ao31 t466.length co31) t466) ∧ Aside0 (Kd.R Kd.string 9 wc w.heap.size (fun k_ => some k_ ≠ ((.slice Ao28 t463.length co28) : Value).ownBlock ∧ some k_ ≠ ((.slice Ao45 t481.length co45) : Value).ownBlock) (.slice Ao35 t471.length co35) t471) ∧ Aside0 (Kd.R k55 55 wc w.heap.size (fun k_ => some k_ ≠ ((.slice Ao31 t466.length co31) : Value).ownBlock ∧ some k_ ≠ ((.slice Ao50 t484.length co50) : Value).ownBlock) (.slice Ao39 t474.length co39) t474) ∧ Aside0 (Kd.R Kd.string 9 wc w.heap.size (fun k_ => some k_ ≠ ((.slice Ao28 t463.length co28) : Value).ownBlock ∧ some k_ ≠ ((.slice Ao35 t471.length co35) : Value).ownBlock) (.slice Ao45 t481.length co45) t481) ∧ Aside0 (Kd.R k55 55 wc w.heap.size (fun k_ => some k_ ≠ ((.slice Ao31 t466.length co31) : Value).ownBlock ∧ some k_ ≠ ((.slice Ao39 t474.length co39) : Value).ownBlock) (.slice Ao50 t484.length co50) t484) ∧ Aside0 (wc.heap[gb452]? = some (.cells #[(.slice A0_0 l0_0.length c0_0), (.slice A0_1 l0_1.length c0_1)] 32 (0, 0))) ∧ Aside0 (wc.heap[gb470]? = some (.cells #[(.slice Ao28 t463.length co28), (.slice Ao31 t466.length co31)] 25 (0, 0))) ∧ Aside0 (wc.heap[gb477]? = some (.cells #[(.slice Ao35 t471.length co35), (.slice Ao39 t474.length co39)] 25 (0, 0))) ∧ Aside0 (wc.heap[gb488]? = some (.cells #[(.slice Ao45 t481.length co45), (.slice Ao50 t484.length co50)] 25 (0, 0))) ∧ Aside0 (Below w.heap.size w wc))
   case first =>
    have H := HC16.out
    clear HC16
    replace H := Option.bind_eq_some_iff.mp H
    obtain ⟨t489, A510, H⟩ := H
    replace H : (if t489 = true then (laws_FnExactCrashWith.j0 k l1 t469 t478 t487 (t487 != t469) l0_0 l0_1 t463 t466 t471 t474 t481 t484) else (laws_FnExactCrashWith.j0 k l1 t469 t478 t487 true l0_0 l0_1 t463 t466 t471 t474 t481 t484)) = some r := H
    have A51 := aM_ A510
    clear A510
    by_cases c52 : t489 = true
    ·subst c52
     have H1 : (laws_FnExactCrashWith.j0 k l1 t469 t478 t487 (t487 != t469) l0_0 l0_1 t463 t466 t471 t474 t481 t484) = some r := by rw [if_pos rfl] at H; exact H
     clear H
     have H := H1
     clear H1
     have H' := aM_ H
     clear H
     have hnb53 := NB488_452.out
     have hnc53 := NB452_488.out
     have hnb54 := NB488_470.out
     have hnc54 := NB470_488.out
     have hnb55 := NB488_477.out
     have hnc55 := NB477_488.out
     have hcz56_0 : w44.cell? ⟨gb488, 0, none⟩ = some (.slice none 0 0) := (kC_ BK488.out 0).trans rfl
     have hcz56_1 : w44.cell? ⟨gb488, 1, none⟩ = some (.slice none 0 0) := (kC_ BK488.out 1).trans rfl
     have hfz56_0 := kZ_ BK488.out 0
     have hfz56_1 := kZ_ BK488.out 1
     have hnb57 := NB470_452.out
     have hnc57 := NB452_470.out
     have hnb58 := NB470_477.out
     have hnc58 := NB477_470.out
     have hcz59_0 : w44.cell? ⟨gb470, 0, none⟩ = some (.slice Ao28 t463.length co28) := (kC_ BK470.out 0).trans rfl
     have hcz59_1 : w44.cell? ⟨gb470, 1, none⟩ = some (.slice Ao31 t466.length co31) := (kC_ BK470.out 1).trans rfl
     have hfz59_0 := kZ_ BK470.out 0
     have hfz59_1 := kZ_ BK470.out 1
     go_wp2_with (first | ((with_reducible refine gate_callee (f := 11) rfl ?_); refine goesL_ (some 45) rfl rfl Try.func11 (by kernel_rfl) rfl #[.agg #[.slice Ao45 t481.length co45, .slice Ao50 t484.length co50], .agg #[.slice Ao28 t463.length co28, .slice Ao31 t466.length co31]] rfl (by (try simp only [List.map_toArray, List.map_cons, List.map_nil]); first | done | rfl | (simp only [List.length_drop, List.length_take]; rfl)) ?_; (with_reducible refine (laws_eqDevice.calls k _ _ t481 _ _ t484 _ _ t463 _ _ t466 true _ ?side1 ?side2 ?side3 ?side4 ?side5 ?side6 ?side7 ?side8 A51.out).mono ?_); (case side1 => refine (rR_ (e := 9) (base := w.heap.size) (ok := fun k_ => (((True ∧ some k_ ≠ (.slice Ao23 t454.length co23 : Value).ownBlock) ∧ some k_ ≠ (.slice Ao28 t463.length co28 : Value).ownBlock) ∧ some k_ ≠ (.slice Ao35 t471.length co35 : Value).ownBlock)) (n := t481.length) (c := co45) ?_).2.2; exact (by (with_reducible repeat (first | apply rA_ | apply rN_)); exact (rM_ (rF_ (p := ⟨gb488, 1, none⟩) (rF_ (p := ⟨gb488, 0, none⟩) (rT_ HO483.out BK488.out (by decide)) (fun _ hk => hk.2) (.slice Ao45 t481.length co45)) (fun _ hk => hk.2) (.slice Ao50 t484.length co50)) (fun _ h_ => h_.1)))); (case side2 => exact (rR_ HO483.out).2.1); (case side3 => refine (rR_ (e := 55) (base := w.heap.size) (ok := fun k_ => (((True ∧ some k_ ≠ (.slice Ao24 t457.length co24 : Value).ownBlock) ∧ some k_ ≠ (.slice Ao31 t466.length co31 : Value).ownBlock) ∧ some k_ ≠ (.slice Ao39 t474.length co39 : Value).ownBlock)) (n := t484.length) (c := co50) ?_).2.2; exact (by (with_reducible repeat (first | apply rA_ | apply rN_)); exact (rM_ (rF_ (p := ⟨gb488, 1, none⟩) (rF_ (p := ⟨gb488, 0, none⟩) (rT_ HO486.out BK488.out (by decide)) (fun _ hk => hk.2) (.slice Ao45 t481.length co45)) (fun _ hk => hk.2) (.slice Ao50 t484.length co50)) (fun _ h_ => h_.1)))); (case side4 => exact (rR_ HO486.out).2.1); (case side5 => refine (rR_ (e := 9) (base := w.heap.size) (ok := fun k_ => (((True ∧ some k_ ≠ (.slice Ao23 t454.length co23 : Value).ownBlock) ∧ some k_ ≠ (.slice Ao35 t471.length co35 : Value).ownBlock) ∧ some k_ ≠ (.slice Ao45 t481.length co45 : Value).ownBlock)) (n := t463.length) (c := co28) ?_).2.2; exact (by (with_reducible repeat (first | apply rA_ | apply rN_)); exact (rM_ (rF_ (p := ⟨gb488, 1, none⟩) (rF_ (p := ⟨gb488, 0, none⟩) (rT_ HO465.out BK488.out (by decide)) (fun _ hk => hk.2) (.slice Ao45 t481.length co45)) (fun _ hk => hk.2) (.slice Ao50 t484.length co50)) (fun _ h_ => h_.1)))); (case side6 => exact (rR_ HO465.out).2.1); (case side7 => refine (rR_ (e := 55) (base := w.heap.size) (ok := fun k_ => (((True ∧ some k_ ≠ (.slice Ao24 t457.length co24 : Value).ownBlock) ∧ some k_ ≠ (.slice Ao39 t474.length co39 : Value).ownBlock) ∧ some k_ ≠ (.slice Ao50 t484.length co50 : Value).ownBlock)) (n := t466.length) (c := co31) ?_).2.2; exact (by (with_reducible repeat (first | apply rA_ | apply rN_)); exact (rM_ (rF_ (p := ⟨gb488, 1, none⟩) (rF_ (p := ⟨gb488, 0, none⟩) (rT_ HO468.out BK488.out (by decide)) (fun _ hk => hk.2) (.slice Ao45 t481.length co45)) (fun _ hk => hk.2) (.slice Ao50 t484.length co50)) (fun _ h_ => h_.1)))); (case side8 => exact (rR_ HO468.out).2.1); rintro e w60 ⟨rfl, hb⟩; refine ⟨_, rfl, ?_⟩; have n0_ := aM_ (rB_ (by (with_reducible repeat (first | apply rA_ | apply rN_)); exact (rM_ (rF_ (p := ⟨gb488, 1, none⟩) (rF_ (p := ⟨gb488, 0, none⟩) (rT_ HO456.out BK488.out (by decide)) (fun _ hk => hk.2) (.slice Ao45 t481.length co45)) (fun _ hk => hk.2) (.slice Ao50 t484.length co50)) (fun _ h_ => h_.1))) hb); have n1_ := aM_ (rB_ (by (with_reducible repeat (first | apply rA_ | apply rN_)); exact (rM_ (rF_ (p := ⟨gb488, 1, none⟩) (rF_ (p := ⟨gb488, 0, none⟩) (rT_ HO459.out BK488.out (by decide)) (fun _ hk => hk.2) (.slice Ao45 t481.length co45)) (fun _ hk => hk.2) (.slice Ao50 t484.length co50)) (fun _ h_ => h_.1))) hb); have n2_ := aM_ (rB_ (by (with_reducible repeat (first | apply rA_ | apply rN_)); exact (rM_ (rF_ (p := ⟨gb488, 1, none⟩) (rF_ (p := ⟨gb488, 0, none⟩) (rT_ HO462.out BK488.out (by decide)) (fun _ hk => hk.2) (.slice Ao45 t481.length co45)) (fun _ hk => hk.2) (.slice Ao50 t484.length co50)) (fun _ h_ => h_.1))) hb); have n3_ := aM_ (rB_ (by (with_reducible repeat (first | apply rA_ | apply rN_)); exact (rM_ (rF_ (p := ⟨gb488, 1, none⟩) (rF_ (p := ⟨gb488, 0, none⟩) (rT_ HO465.out BK488.out (by decide)) (fun _ hk => hk.2) (.slice Ao45 t481.length co45)) (fun _ hk => hk.2) (.slice Ao50 t484.length co50)) (fun _ h_ => h_.1))) hb); have n4_ := aM_ (rB_ (by (with_reducible repeat (first | apply rA_ | apply rN_)); exact (rM_ (rF_ (p := ⟨gb488, 1, none⟩) (rF_ (p := ⟨gb488, 0, none⟩) (rT_ HO468.out BK488.out (by decide)) (fun _ hk => hk.2) (.slice Ao45 t481.length co45)) (fun _ hk => hk.2) (.slice Ao50 t484.length co50)) (fun _ h_ => h_.1))) hb); have n5_ := aM_ (rB_ (by (with_reducible repeat (first | apply rA_ | apply rN_)); exact (rM_ (rF_ (p := ⟨gb488, 1, none⟩) (rF_ (p := ⟨gb488, 0, none⟩) (rT_ HO473.out BK488.out (by decide)) (fun _ hk => hk.2) (.slice Ao45 t481.length co45)) (fun _ hk => hk.2) (.slice Ao50 t484.length co50)) (fun _ h_ => h_.1))) hb); have n6_ := aM_ (rB_ (by (with_reducible repeat (first | apply rA_ | apply rN_)); exact (rM_ (rF_ (p := ⟨gb488, 1, none⟩) (rF_ (p := ⟨gb488, 0, none⟩) (rT_ HO476.out BK488.out (by decide)) (fun _ hk => hk.2) (.slice Ao45 t481.length co45)) (fun _ hk => hk.2) (.slice Ao50 t484.length co50)) (fun _ h_ => h_.1))) hb); have n7_ := aM_ (rB_ (by (with_reducible repeat (first | apply rA_ | apply rN_)); exact (rM_ (rF_ (p := ⟨gb488, 1, none⟩) (rF_ (p := ⟨gb488, 0, none⟩) (rT_ HO480.out BK488.out (by decide)) (fun _ hk => hk.2) (.slice Ao45 t481.length co45)) (fun _ hk => hk.2) (.slice Ao50 t484.length co50)) (fun _ h_ => h_.1))) hb); have n8_ := aM_ (rB_ (by (with_reducible repeat (first | apply rA_ | apply rN_)); exact (rM_ (rF_ (p := ⟨gb488, 1, none⟩) (rF_ (p := ⟨gb488, 0, none⟩) (rT_ HO483.out BK488.out (by decide)) (fun _ hk => hk.2) (.slice Ao45 t481.length co45)) (fun _ hk => hk.2) (.slice Ao50 t484.length co50)) (fun _ h_ => h_.1))) hb); have n9_ := aM_ (rB_ (by (with_reducible repeat (first | apply rA_ | apply rN_)); exact (rM_ (rF_ (p := ⟨gb488, 1, none⟩) (rF_ (p := ⟨gb488, 0, none⟩) (rT_ HO486.out BK488.out (by decide)) (fun _ hk => hk.2) (.slice Ao45 t481.length co45)) (fun _ hk => hk.2) (.slice Ao50 t484.length co50)) (fun _ h_ => h_.1))) hb); have n10_ := aM_ (kB_ (g := gb452) (o := .cells #[.slice A0_0 l0_0.length c0_0, .slice A0_1 l0_1.length c0_1] 32 (0, 0)) (by (with_reducible repeat (first | refine kN_ ?_ _ | refine kA_ ?_ _)); refine kF_ ?_ NB452_488.out _; (with_reducible repeat (first | refine kN_ ?_ _ | refine kA_ ?_ _)); refine kF_ ?_ NB452_488.out _; (with_reducible repeat (first | refine kN_ ?_ _ | refine kA_ ?_ _)); exact BK452.out) hb); have n11_ := aM_ (kB_ (g := gb470) (o := .cells #[.slice Ao28 t463.length co28, .slice Ao31 t466.length co31] 25 (0, 0)) (by (with_reducible repeat (first | refine kN_ ?_ _ | refine kA_ ?_ _)); refine kF_ ?_ NB470_488.out _; (with_reducible repeat (first | refine kN_ ?_ _ | refine kA_ ?_ _)); refine kF_ ?_ NB470_488.out _; (with_reducible repeat (first | refine kN_ ?_ _ | refine kA_ ?_ _)); exact BK470.out) hb); have n12_ := aM_ (kB_ (g := gb477) (o := .cells #[.slice Ao35 t471.length co35, .slice Ao39 t474.length co39] 25 (0, 0)) (by (with_reducible repeat (first | refine kN_ ?_ _ | refine kA_ ?_ _)); refine kF_ ?_ NB477_488.out _; (with_reducible repeat (first | refine kN_ ?_ _ | refine kA_ ?_ _)); refine kF_ ?_ NB477_488.out _; (with_reducible repeat (first | refine kN_ ?_ _ | refine kA_ ?_ _)); exact BK477.out) hb); have n13_ := aM_ (kB_ (g := gb488) (o := .cells #[.slice Ao45 t481.length co45, .slice Ao50 t484.length co50] 25 (0, 0)) (by (with_reducible repeat (first | refine kN_ ?_ _ | refine kA_ ?_ _)); refine blk_put (cs := #[.slice Ao45 t481.length co45, .slice none 0 0]) ?_ 1 _ rfl; (with_reducible repeat (first | refine kN_ ?_ _ | refine kA_ ?_ _)); refine blk_put (cs := #[.slice none 0 0, .slice none 0 0]) ?_ 0 _ rfl; (with_reducible repeat (first | refine kN_ ?_ _ | refine kA_ ?_ _)); exact BK488.out) hb); have n14_ := aM_ (bP_ (by repeat (with_reducible first | exact HB.out | apply bA_ | apply bN_ | refine bS_ ?_ GE452.out | refine bS_ ?_ GE470.out | refine bS_ ?_ GE477.out | refine bS_ ?_ GE488.out)) hb); clear HO456; clear HO459; clear HO462; clear HO465; clear HO468; clear HO473; clear HO476; clear HO480; clear HO483; clear HO486; clear BK452; clear BK470; clear BK477; clear BK488; clear HB; have HO456 := n0_; have HO459 := n1_; have HO462 := n2_; have HO465 := n3_; have HO468 := n4_; have HO473 := n5_; have HO476 := n6_; have HO480 := n7_; have HO483 := n8_; have HO486 := n9_; have BK452 := n10_; have BK470 := n11_; have BK477 := n12_; have BK488 := n13_; have HB := n14_; clear n0_ n1_ n2_ n3_ n4_ n5_ n6_ n7_ n8_ n9_ n10_ n11_ n12_ n13_ n14_; (try clear hb); (try clear hb2); (try clear hk); (try clear hi)))
     go_meet
     case rel => exact ⟨_, ((t487 != t469)), (by first | rfl | (simp [*]; done)), H', ⟨by first | omega | exact Nat.le_refl _⟩, ⟨by (with_reducible repeat (first | apply rA_ | apply rN_)); exact rM_ HO480.out (fun _ hk => trivial)⟩, ⟨by (with_reducible repeat (first | apply rA_ | apply rN_)); exact rM_ HO465.out (fun _ hk => ⟨hk.1.2, hk.2⟩)⟩, ⟨by (with_reducible repeat (first | apply rA_ | apply rN_)); exact rM_ HO468.out (fun _ hk => ⟨hk.1.2, hk.2⟩)⟩, ⟨by (with_reducible repeat (first | apply rA_ | apply rN_)); exact rM_ HO473.out (fun _ hk => ⟨hk.1.2, hk.2⟩)⟩, ⟨by (with_reducible repeat (first | apply rA_ | apply rN_)); exact rM_ HO476.out (fun _ hk => ⟨hk.1.2, hk.2⟩)⟩, ⟨by (with_reducible repeat (first | apply rA_ | apply rN_)); exact rM_ HO483.out (fun _ hk => ⟨hk.1.2, hk.2⟩)⟩, ⟨by (with_reducible repeat (first | apply rA_ | apply rN_)); exact rM_ HO486.out (fun _ hk => ⟨hk.1.2, hk.2⟩)⟩, ⟨by (with_reducible repeat (first | refine kN_ ?_ _ | refine kA_ ?_ _)); exact BK452.out⟩, ⟨by (with_reducible repeat (first | refine kN_ ?_ _ | refine kA_ ?_ _)); exact BK470.out⟩, ⟨by (with_reducible repeat (first | refine kN_ ?_ _ | refine kA_ ?_ _)); exact BK477.out⟩, ⟨by (with_reducible repeat (first | refine kN_ ?_ _ | refine kA_ ?_ _)); exact BK488.out⟩, ⟨by repeat (with_reducible first | exact HB.out | apply bA_ | apply bN_ | refine bS_ ?_ GE452.out | refine bS_ ?_ GE470.out | refine bS_ ?_ GE477.out | refine bS_ ?_ GE488.out)⟩⟩
    ·replace c52 := Bool.eq_false_iff.mpr c52
     subst c52
     have H1 : (laws_FnExactCrashWith.j0 k l1 t469 t478 t487 true l0_0 l0_1 t463 t466 t471 t474 t481 t484) = some r := by rw [if_neg (show ¬ (false = true) by decide)] at H; exact H
     clear H
     have H := H1
     clear H1
     have H' := aM_ H
     clear H
     have hnb61 := NB488_452.out
     have hnc61 := NB452_488.out
     have hnb62 := NB488_470.out
     have hnc62 := NB470_488.out
     have hnb63 := NB488_477.out
     have hnc63 := NB477_488.out
     have hcz64_0 : w44.cell? ⟨gb488, 0, none⟩ = some (.slice none 0 0) := (kC_ BK488.out 0).trans rfl
     have hcz64_1 : w44.cell? ⟨gb488, 1, none⟩ = some (.slice none 0 0) := (kC_ BK488.out 1).trans rfl
     have hfz64_0 := kZ_ BK488.out 0
     have hfz64_1 := kZ_ BK488.out 1
     have hnb65 := NB470_452.out
     have hnc65 := NB452_470.out
     have hnb66 := NB470_477.out
     have hnc66 := NB477_470.out
     have hcz67_0 : w44.cell? ⟨gb470, 0, none⟩ = some (.slice Ao28 t463.length co28) := (kC_ BK470.out 0).trans rfl
     have hcz67_1 : w44.cell? ⟨gb470, 1, none⟩ = some (.slice Ao31 t466.length co31) := (kC_ BK470.out 1).trans rfl
     have hfz67_0 := kZ_ BK470.out 0
     have hfz67_1 := kZ_ BK470.out 1
     go_wp2_with (first | ((with_reducible refine gate_callee (f := 11) rfl ?_); refine goesL_ (some 45) rfl rfl Try.func11 (by kernel_rfl) rfl #[.agg #[.slice Ao45 t481.length co45, .slice Ao50 t484.length co50], .agg #[.slice Ao28 t463.length co28, .slice Ao31 t466.length co31]] rfl (by (try simp only [List.map_toArray, List.map_cons, List.map_nil]); first | done | rfl | (simp only [List.length_drop, List.length_take]; rfl)) ?_; (with_reducible refine (laws_eqDevice.calls k _ _ t481 _ _ t484 _ _ t463 _ _ t466 false _ ?side1 ?side2 ?side3 ?side4 ?side5 ?side6 ?side7 ?side8 A51.out).mono ?_); (case side1 => refine (rR_ (e := 9) (base := w.heap.size) (ok := fun k_ => (((True ∧ some k_ ≠ (.slice Ao23 t454.length co23 : Value).ownBlock) ∧ some k_ ≠ (.slice Ao28 t463.length co28 : Value).ownBlock) ∧ some k_ ≠ (.slice Ao35 t471.length co35 : Value).ownBlock)) (n := t481.length) (c := co45) ?_).2.2; exact (by (with_reducible repeat (first | apply rA_ | apply rN_)); exact (rM_ (rF_ (p := ⟨gb488, 1, none⟩) (rF_ (p := ⟨gb488, 0, none⟩) (rT_ HO483.out BK488.out (by decide)) (fun _ hk => hk.2) (.slice Ao45 t481.length co45)) (fun _ hk => hk.2) (.slice Ao50 t484.length co50)) (fun _ h_ => h_.1)))); (case side2 => exact (rR_ HO483.out).2.1); (case side3 => refine (rR_ (e := 55) (base := w.heap.size) (ok := fun k_ => (((True ∧ some k_ ≠ (.slice Ao24 t457.length co24 : Value).ownBlock) ∧ some k_ ≠ (.slice Ao31 t466.length co31 : Value).ownBlock) ∧ some k_ ≠ (.slice Ao39 t474.length co39 : Value).ownBlock)) (n := t484.length) (c := co50) ?_).2.2; exact (by (with_reducible repeat (first | apply rA_ | apply rN_)); exact (rM_ (rF_ (p := ⟨gb488, 1, none⟩) (rF_ (p := ⟨gb488, 0, none⟩) (rT_ HO486.out BK488.out (by decide)) (fun _ hk => hk.2) (.slice Ao45 t481.length co45)) (fun _ hk => hk.2) (.slice Ao50 t484.length co50)) (fun _ h_ => h_.1)))); (case side4 => exact (rR_ HO486.out).2.1); (case side5 => refine (rR_ (e := 9) (base := w.heap.size) (ok := fun k_ => (((True ∧ some k_ ≠ (.slice Ao23 t454.length co23 : Value).ownBlock) ∧ some k_ ≠ (.slice Ao35 t471.length co35 : Value).ownBlock) ∧ some k_ ≠ (.slice Ao45 t481.length co45 : Value).ownBlock)) (n := t463.length) (c := co28) ?_).2.2; exact (by (with_reducible repeat (first | apply rA_ | apply rN_)); exact (rM_ (rF_ (p := ⟨gb488, 1, none⟩) (rF_ (p := ⟨gb488, 0, none⟩) (rT_ HO465.out BK488.out (by decide)) (fun _ hk => hk.2) (.slice Ao45 t481.length co45)) (fun _ hk => hk.2) (.slice Ao50 t484.length co50)) (fun _ h_ => h_.1)))); (case side6 => exact (rR_ HO465.out).2.1); (case side7 => refine (rR_ (e := 55) (base := w.heap.size) (ok := fun k_ => (((True ∧ some k_ ≠ (.slice Ao24 t457.length co24 : Value).ownBlock) ∧ some k_ ≠ (.slice Ao39 t474.length co39 : Value).ownBlock) ∧ some k_ ≠ (.slice Ao50 t484.length co50 : Value).ownBlock)) (n := t466.length) (c := co31) ?_).2.2; exact (by (with_reducible repeat (first | apply rA_ | apply rN_)); exact (rM_ (rF_ (p := ⟨gb488, 1, none⟩) (rF_ (p := ⟨gb488, 0, none⟩) (rT_ HO468.out BK488.out (by decide)) (fun _ hk => hk.2) (.slice Ao45 t481.length co45)) (fun _ hk => hk.2) (.slice Ao50 t484.length co50)) (fun _ h_ => h_.1)))); (case side8 => exact (rR_ HO468.out).2.1); rintro e w68 ⟨rfl, hb⟩; refine ⟨_, rfl, ?_⟩; have n0_ := aM_ (rB_ (by (with_reducible repeat (first | apply rA_ | apply rN_)); exact (rM_ (rF_ (p := ⟨gb488, 1, none⟩) (rF_ (p := ⟨gb488, 0, none⟩) (rT_ HO456.out BK488.out (by decide)) (fun _ hk => hk.2) (.slice Ao45 t481.length co45)) (fun _ hk => hk.2) (.slice Ao50 t484.length co50)) (fun _ h_ => h_.1))) hb); have n1_ := aM_ (rB_ (by (with_reducible repeat (first | apply rA_ | apply rN_)); exact (rM_ (rF_ (p := ⟨gb488, 1, none⟩) (rF_ (p := ⟨gb488, 0, none⟩) (rT_ HO459.out BK488.out (by decide)) (fun _ hk => hk.2) (.slice Ao45 t481.length co45)) (fun _ hk => hk.2) (.slice Ao50 t484.length co50)) (fun _ h_ => h_.1))) hb); have n2_ := aM_ (rB_ (by (with_reducible repeat (first | apply rA_ | apply rN_)); exact (rM_ (rF_ (p := ⟨gb488, 1, none⟩) (rF_ (p := ⟨gb488, 0, none⟩) (rT_ HO462.out BK488.out (by decide)) (fun _ hk => hk.2) (.slice Ao45 t481.length co45)) (fun _ hk => hk.2) (.slice Ao50 t484.length co50)) (fun _ h_ => h_.1))) hb); have n3_ := aM_ (rB_ (by (with_reducible repeat (first | apply rA_ | apply rN_)); exact (rM_ (rF_ (p := ⟨gb488, 1, none⟩) (rF_ (p := ⟨gb488, 0, none⟩) (rT_ HO465.out BK488.out (by decide)) (fun _ hk => hk.2) (.slice Ao45 t481.length co45)) (fun _ hk => hk.2) (.slice Ao50 t484.length co50)) (fun _ h_ => h_.1))) hb); have n4_ := aM_ (rB_ (by (with_reducible repeat (first | apply rA_ | apply rN_)); exact (rM_ (rF_ (p := ⟨gb488, 1, none⟩) (rF_ (p := ⟨gb488, 0, none⟩) (rT_ HO468.out BK488.out (by decide)) (fun _ hk => hk.2) (.slice Ao45 t481.length co45)) (fun _ hk => hk.2) (.slice Ao50 t484.length co50)) (fun _ h_ => h_.1))) hb); have n5_ := aM_ (rB_ (by (with_reducible repeat (first | apply rA_ | apply rN_)); exact (rM_ (rF_ (p := ⟨gb488, 1, none⟩) (rF_ (p := ⟨gb488, 0, none⟩) (rT_ HO473.out BK488.out (by decide)) (fun _ hk => hk.2) (.slice Ao45 t481.length co45)) (fun _ hk => hk.2) (.slice Ao50 t484.length co50)) (fun _ h_ => h_.1))) hb); have n6_ := aM_ (rB_ (by (with_reducible repeat (first | apply rA_ | apply rN_)); exact (rM_ (rF_ (p := ⟨gb488, 1, none⟩) (rF_ (p := ⟨gb488, 0, none⟩) (rT_ HO476.out BK488.out (by decide)) (fun _ hk => hk.2) (.slice Ao45 t481.length co45)) (fun _ hk => hk.2) (.slice Ao50 t484.length co50)) (fun _ h_ => h_.1))) hb); have n7_ := aM_ (rB_ (by (with_reducible repeat (first | apply rA_ | apply rN_)); exact (rM_ (rF_ (p := ⟨gb488, 1, none⟩) (rF_ (p := ⟨gb488, 0, none⟩) (rT_ HO480.out BK488.out (by decide)) (fun _ hk => hk.2) (.slice Ao45 t481.length co45)) (fun _ hk => hk.2) (.slice Ao50 t484.length co50)) (fun _ h_ => h_.1))) hb); have n8_ := aM_ (rB_ (by (with_reducible repeat (first | apply rA_ | apply rN_)); exact (rM_ (rF_ (p := ⟨gb488, 1, none⟩) (rF_ (p := ⟨gb488, 0, none⟩) (rT_ HO483.out BK488.out (by decide)) (fun _ hk => hk.2) (.slice Ao45 t481.length co45)) (fun _ hk => hk.2) (.slice Ao50 t484.length co50)) (fun _ h_ => h_.1))) hb); have n9_ := aM_ (rB_ (by (with_reducible repeat (first | apply rA_ | apply rN_)); exact (rM_ (rF_ (p := ⟨gb488, 1, none⟩) (rF_ (p := ⟨gb488, 0, none⟩) (rT_ HO486.out BK488.out (by decide)) (fun _ hk => hk.2) (.slice Ao45 t481.length co45)) (fun _ hk => hk.2) (.slice Ao50 t484.length co50)) (fun _ h_ => h_.1))) hb); have n10_ := aM_ (kB_ (g := gb452) (o := .cells #[.slice A0_0 l0_0.length c0_0, .slice A0_1 l0_1.length c0_1] 32 (0, 0)) (by (with_reducible repeat (first | refine kN_ ?_ _ | refine kA_ ?_ _)); refine kF_ ?_ NB452_488.out _; (with_reducible repeat (first | refine kN_ ?_ _ | refine kA_ ?_ _)); refine kF_ ?_ NB452_488.out _; (with_reducible repeat (first | refine kN_ ?_ _ | refine kA_ ?_ _)); exact BK452.out) hb); have n11_ := aM_ (kB_ (g := gb470) (o := .cells #[.slice Ao28 t463.length co28, .slice Ao31 t466.length co31] 25 (0, 0)) (by (with_reducible repeat (first | refine kN_ ?_ _ | refine kA_ ?_ _)); refine kF_ ?_ NB470_488.out _; (with_reducible repeat (first | refine kN_ ?_ _ | refine kA_ ?_ _)); refine kF_ ?_ NB470_488.out _; (with_reducible repeat (first | refine kN_ ?_ _ | refine kA_ ?_ _)); exact BK470.out) hb); have n12_ := aM_ (kB_ (g := gb477) (o := .cells #[.slice Ao35 t471.length co35, .slice Ao39 t474.length co39] 25 (0, 0)) (by (with_reducible repeat (first | refine kN_ ?_ _ | refine kA_ ?_ _)); refine kF_ ?_ NB477_488.out _; (with_reducible repeat (first | refine kN_ ?_ _ | refine kA_ ?_ _)); refine kF_ ?_ NB477_488.out _; (with_reducible repeat (first | refine kN_ ?_ _ | refine kA_ ?_ _)); exact BK477.out) hb); have n13_ := aM_ (kB_ (g := gb488) (o := .cells #[.slice Ao45 t481.length co45, .slice Ao50 t484.length co50] 25 (0, 0)) (by (with_reducible repeat (first | refine kN_ ?_ _ | refine kA_ ?_ _)); refine blk_put (cs := #[.slice Ao45 t481.length co45, .slice none 0 0]) ?_ 1 _ rfl; (with_reducible repeat (first | refine kN_ ?_ _ | refine kA_ ?_ _)); refine blk_put (cs := #[.slice none 0 0, .slice none 0 0]) ?_ 0 _ rfl; (with_reducible repeat (first | refine kN_ ?_ _ | refine kA_ ?_ _)); exact BK488.out) hb); have n14_ := aM_ (bP_ (by repeat (with_reducible first | exact HB.out | apply bA_ | apply bN_ | refine bS_ ?_ GE452.out | refine bS_ ?_ GE470.out | refine bS_ ?_ GE477.out | refine bS_ ?_ GE488.out)) hb); clear HO456; clear HO459; clear HO462; clear HO465; clear HO468; clear HO473; clear HO476; clear HO480; clear HO483; clear HO486; clear BK452; clear BK470; clear BK477; clear BK488; clear HB; have HO456 := n0_; have HO459 := n1_; have HO462 := n2_; have HO465 := n3_; have HO468 := n4_; have HO473 := n5_; have HO476 := n6_; have HO480 := n7_; have HO483 := n8_; have HO486 := n9_; have BK452 := n10_; have BK470 := n11_; have BK477 := n12_; have BK488 := n13_; have HB := n14_; clear n0_ n1_ n2_ n3_ n4_ n5_ n6_ n7_ n8_ n9_ n10_ n11_ n12_ n13_ n14_; (try clear hb); (try clear hb2); (try clear hk); (try clear hi)))
     go_meet
     case rel => exact ⟨_, (true), (by first | rfl | (simp [*]; done)), H', ⟨by first | omega | exact Nat.le_refl _⟩, ⟨by (with_reducible repeat (first | apply rA_ | apply rN_)); exact rM_ HO480.out (fun _ hk => trivial)⟩, ⟨by (with_reducible repeat (first | apply rA_ | apply rN_)); exact rM_ HO465.out (fun _ hk => ⟨hk.1.2, hk.2⟩)⟩, ⟨by (with_reducible repeat (first | apply rA_ | apply rN_)); exact rM_ HO468.out (fun _ hk => ⟨hk.1.2, hk.2⟩)⟩, ⟨by (with_reducible repeat (first | apply rA_ | apply rN_)); exact rM_ HO473.out (fun _ hk => ⟨hk.1.2, hk.2⟩)⟩, ⟨by (with_reducible repeat (first | apply rA_ | apply rN_)); exact rM_ HO476.out (fun _ hk => ⟨hk.1.2, hk.2⟩)⟩, ⟨by (with_reducible repeat (first | apply rA_ | apply rN_)); exact rM_ HO483.out (fun _ hk => ⟨hk.1.2, hk.2⟩)⟩, ⟨by (with_reducible repeat (first | apply rA_ | apply rN_)); exact rM_ HO486.out (fun _ hk => ⟨hk.1.2, hk.2⟩)⟩, ⟨by (with_reducible repeat (first | refine kN_ ?_ _ | refine kA_ ?_ _)); exact BK452.out⟩, ⟨by (with_reducible repeat (first | refine kN_ ?_ _ | refine kA_ ?_ _)); exact BK470.out⟩, ⟨by (with_reducible repeat (first | refine kN_ ?_ _ | refine kA_ ?_ _)); exact BK477.out⟩, ⟨by (with_reducible repeat (first | refine kN_ ?_ _ | refine kA_ ?_ _)); exact BK488.out⟩, ⟨by repeat (with_reducible first | exact HB.out | apply bA_ | apply bN_ | refine bS_ ?_ GE452.out | refine bS_ ?_ GE470.out | refine bS_ ?_ GE477.out | refine bS_ ?_ GE488.out)⟩⟩
   case rest =>
    clear HC16
    try clear c1
    try clear c2
    try clear p2
    try clear c3
    try clear c3b0
    try clear c3b1
    try clear c4
    try clear c5
    try clear c6
    try clear c6b0
    try clear c8
    try clear c11
    try clear c14
    try clear c16
    try clear c24
    try clear c25
    try clear c26
    try clear c29
    try clear c36
    try clear c37
    try clear c46
    try clear c47
    try clear c48
    try clear c52
    try clear c53
    try clear c54
    try clear c55
    try clear c57
    try clear c58
    try clear c61
    try clear c62
    try clear c63
    try clear c65
    try clear c66
    try clear hcz18_0
    try clear hcz18_1
    try clear hcz20_0
    try clear hcz20_1
    try clear hcz30_0
    try clear hcz30_1
    try clear hcz32_0
    try clear hcz32_1
    try clear hcz38_0
    try clear hcz38_1
    try clear hcz41_0
    try clear hcz41_1
    try clear hcz49_0
    try clear hcz49_1
    try clear hcz56_0
    try clear hcz56_1
    try clear hcz59_0
    try clear hcz59_1
    try clear hcz64_0
    try clear hcz64_1
    try clear hcz67_0
    try clear hcz67_1
    try clear hcz8_0
    try clear hcz8_1
    try clear hfz18_0
    try clear hfz18_1
    try clear hfz20_0
    try clear hfz20_1
    try clear hfz30_0
    try clear hfz30_1
    try clear hfz32_0
    try clear hfz32_1
    try clear hfz38_0
    try clear hfz38_1
    try clear hfz41_0
    try clear hfz41_1
    try clear hfz49_0
    try clear hfz49_1
    try clear hfz56_0
    try clear hfz56_1
    try clear hfz59_0
    try clear hfz59_1
    try clear hfz64_0
    try clear hfz64_1
    try clear hfz67_0
    try clear hfz67_1
    try clear hfz8_0
    try clear hfz8_1
    obtain ⟨kq, x51_15, rfl, HA, HJ15, HO_9, HO_471000, HO_471001, HO_478000, HO_478001, HO_489000, HO_489001, BK452, BK470, BK477, BK488, HB⟩ := hcut
    cases kq with
    | zero => exact absurd HA.out (by simp [laws_FnExactCrashWith.j0])
    | succ kj15 =>
     have H := HA.out
     clear HA
     simp only [laws_FnExactCrashWith.j0] at H
     by_cases c69 : x51_15 = true
     ·subst c69
      have H1 : (some false) = some r := by rw [if_pos rfl] at H; exact H
      clear H
      have H := H1
      clear H1
      obtain rfl := Option.some.inj H
      go_wp2
      go_ret
      exact ⟨by first | rfl | (simp [errW_none, errW_some] <;> rfl) | (simp [*, errW_none, errW_some] <;> rfl), by repeat (with_reducible first | exact HB.out | apply bA_ | apply bN_ | refine bS_ ?_ GE452.out | refine bS_ ?_ GE470.out | refine bS_ ?_ GE477.out | refine bS_ ?_ GE488.out)⟩
     ·replace c69 := Bool.eq_false_iff.mpr c69
      subst c69
      have H1 : ((laws_toDevice.f kj15 l0_0 l0_1).bind fun bt490 => ((laws_eqDevice.f kj15 t471 t474 bt490.1 bt490.2).bind fun t496 => (if t496 = true then ((laws_toIntS.f kj15 l1).bind fun t497 => ((laws_eqIntS.f kj15 t478 t497).bind fun t500 => (if t500 = true then ((laws_markDevice.f kj15 t471 t474 1).bind fun bt501 => ((laws_markIntS.f kj15 t478 bt501.1).bind fun bt504 => (if bt504.1 < 0 then (laws_FnExactCrashWith.j1 kj15 l1 t469 true l0_0 l0_1 t463 t466 t481 t484) else ((laws_eqDevice.f kj15 t481 t484 t463 t466).bind fun t506 => (if t506 = true then (laws_FnExactCrashWith.j1 kj15 l1 t469 (t487 != t469) l0_0 l0_1 t463 t466 t481 t484) else (laws_FnExactCrashWith.j1 kj15 l1 t469 true l0_0 l0_1 t463 t466 t481 t484)))))) else (some false)))) else (some false)))) = some r := by rw [if_neg (show ¬ (false = true) by decide)] at H; exact H
      clear H
      have H := H1
      clear H1
      replace H := Option.bind_eq_some_iff.mp H
      obtain ⟨⟨t490, t493⟩, A700, H⟩ := H
      replace H : ((laws_eqDevice.f kj15 t471 t474 t490 t493).bind fun t496 => (if t496 = true then ((laws_toIntS.f kj15 l1).bind fun t497 => ((laws_eqIntS.f kj15 t478 t497).bind fun t500 => (if t500 = true then ((laws_markDevice.f kj15 t471 t474 1).bind fun bt501 => ((laws_markIntS.f kj15 t478 bt501.1).bind fun bt504 => (if bt504.1 < 0 then (laws_FnExactCrashWith.j1 kj15 l1 t469 true l0_0 l0_1 t463 t466 t481 t484) else ((laws_eqDevice.f kj15 t481 t484 t463 t466).bind fun t506 => (if t506 = true then (laws_FnExactCrashWith.j1 kj15 l1 t469 (t487 != t469) l0_0 l0_1 t463 t466 t481 t484) else (laws_FnExactCrashWith.j1 kj15 l1 t469 true l0_0 l0_1 t463 t466 t481 t484)))))) else (some false)))) else (some false))) = some r := H
      have A70 := aM_ A700
      clear A700
      replace H := Option.bind_eq_some_iff.mp H
      obtain ⟨t496, A710, H⟩ := H
      replace H : (if t496 = true then ((laws_toIntS.f kj15 l1).bind fun t497 => ((laws_eqIntS.f kj15 t478 t497).bind fun t500 => (if t500 = true then ((laws_markDevice.f kj15 t471 t474 1).bind fun bt501 => ((laws_markIntS.f kj15 t478 bt501.1).bind fun bt504 => (if bt504.1 < 0 then (laws_FnExactCrashWith.j1 kj15 l1 t469 true l0_0 l0_1 t463 t466 t481 t484) else ((laws_eqDevice.f kj15 t481 t484 t463 t466).bind fun t506 => (if t506 = true then (laws_FnExactCrashWith.j1 kj15 l1 t469 (t487 != t469) l0_0 l0_1 t463 t466 t481 t484) else (laws_FnExactCrashWith.j1 kj15 l1 t469 true l0_0 l0_1 t463 t466 t481 t484)))))) else (some false)))) else (some false)) = some r := H
      have A71 := aM_ A710
      clear A710
      by_cases c72 : t496 = true
      ·subst c72
       have H1 : ((laws_toIntS.f kj15 l1).bind fun t497 => ((laws_eqIntS.f kj15 t478 t497).bind fun t500 => (if t500 = true then ((laws_markDevice.f kj15 t471 t474 1).bind fun bt501 => ((laws_markIntS.f kj15 t478 bt501.1).bind fun bt504 => (if bt504.1 < 0 then (laws_FnExactCrashWith.j1 kj15 l1 t469 true l0_0 l0_1 t463 t466 t481 t484) else ((laws_eqDevice.f kj15 t481 t484 t463 t466).bind fun t506 => (if t506 = true then (laws_FnExactCrashWith.j1 kj15 l1 t469 (t487 != t469) l0_0 l0_1 t463 t466 t481 t484) else (laws_FnExactCrashWith.j1 kj15 l1 t469 true l0_0 l0_1 t463 t466 t481 t484)))))) else (some false)))) = some r := by rw [if_pos rfl] at H; exact H
       clear H
       have H := H1
       clear H1
       replace H := Option.bind_eq_some_iff.mp H
       obtain ⟨t497, A730, H⟩ := H
       replace H : ((laws_eqIntS.f kj15 t478 t497).bind fun t500 => (if t500 = true then ((laws_markDevice.f kj15 t471 t474 1).bind fun bt501 => ((laws_markIntS.f kj15 t478 bt501.1).bind fun bt504 => (if bt504.1 < 0 then (laws_FnExactCrashWith.j1 kj15 l1 t469 true l0_0 l0_1 t463 t466 t481 t484) else ((laws_eqDevice.f kj15 t481 t484 t463 t466).bind fun t506 => (if t506 = true then (laws_FnExactCrashWith.j1 kj15 l1 t469 (t487 != t469) l0_0 l0_1 t463 t466 t481 t484) else (laws_FnExactCrashWith.j1 kj15 l1 t469 true l0_0 l0_1 t463 t466 t481 t484)))))) else (some false))) = some r := H
       have A73 := aM_ A730
       clear A730
       replace H := Option.bind_eq_some_iff.mp H
       obtain ⟨t500, A740, H⟩ := H
       replace H : (if t500 = true then ((laws_markDevice.f kj15 t471 t474 1).bind fun bt501 => ((laws_markIntS.f kj15 t478 bt501.1).bind fun bt504 => (if bt504.1 < 0 then (laws_FnExactCrashWith.j1 kj15 l1 t469 true l0_0 l0_1 t463 t466 t481 t484) else ((laws_eqDevice.f kj15 t481 t484 t463 t466).bind fun t506 => (if t506 = true then (laws_FnExactCrashWith.j1 kj15 l1 t469 (t487 != t469) l0_0 l0_1 t463 t466 t481 t484) else (laws_FnExactCrashWith.j1 kj15 l1 t469 true l0_0 l0_1 t463 t466 t481 t484)))))) else (some false)) = some r := H
       have A74 := aM_ A740
       clear A740
       by_cases c75 : t500 = true
       ·subst c75
        have H1 : ((laws_markDevice.f kj15 t471 t474 1).bind fun bt501 => ((laws_markIntS.f kj15 t478 bt501.1).bind fun bt504 => (if bt504.1 < 0 then (laws_FnExactCrashWith.j1 kj15 l1 t469 true l0_0 l0_1 t463 t466 t481 t484) else ((laws_eqDevice.f kj15 t481 t484 t463 t466).bind fun t506 => (if t506 = true then (laws_FnExactCrashWith.j1 kj15 l1 t469 (t487 != t469) l0_0 l0_1 t463 t466 t481 t484) else (laws_FnExactCrashWith.j1 kj15 l1 t469 true l0_0 l0_1 t463 t466 t481 t484)))))) = some r := by rw [if_pos rfl] at H; exact H
        clear H
        have H := H1
        clear H1
        replace H := Option.bind_eq_some_iff.mp H
        obtain ⟨⟨t501, t502, t503⟩, A760, H⟩ := H
        replace H : ((laws_markIntS.f kj15 t478 t501).bind fun bt504 => (if bt504.1 < 0 then (laws_FnExactCrashWith.j1 kj15 l1 t469 true l0_0 l0_1 t463 t466 t481 t484) else ((laws_eqDevice.f kj15 t481 t484 t463 t466).bind fun t506 => (if t506 = true then (laws_FnExactCrashWith.j1 kj15 l1 t469 (t487 != t469) l0_0 l0_1 t463 t466 t481 t484) else (laws_FnExactCrashWith.j1 kj15 l1 t469 true l0_0 l0_1 t463 t466 t481 t484))))) = some r := H
        have A76 := aM_ A760
        clear A760
        replace H := Option.bind_eq_some_iff.mp H
        obtain ⟨⟨t504, t505⟩, A770, H⟩ := H
        replace H : (if t504 < 0 then (laws_FnExactCrashWith.j1 kj15 l1 t469 true l0_0 l0_1 t463 t466 t481 t484) else ((laws_eqDevice.f kj15 t481 t484 t463 t466).bind fun t506 => (if t506 = true then (laws_FnExactCrashWith.j1 kj15 l1 t469 (t487 != t469) l0_0 l0_1 t463 t466 t481 t484) else (laws_FnExactCrashWith.j1 kj15 l1 t469 true l0_0 l0_1 t463 t466 t481 t484)))) = some r := H
        have A77 := aM_ A770
        clear A770
        have HC78 := aM_ H
        clear H
        try go_wp2
        have n0_ := aM_ (rD_ HO_9.out)
        have n1_ := aM_ (rD_ HO_471000.out)
        have n2_ := aM_ (rD_ HO_471001.out)
        have n3_ := aM_ (rD_ HO_478000.out)
        have n4_ := aM_ (rD_ HO_478001.out)
        have n5_ := aM_ (rD_ HO_489000.out)
        have n6_ := aM_ (rD_ HO_489001.out)
        have n7_ := aM_ (kD_ BK452.out)
        have n8_ := aM_ (kD_ BK470.out)
        have n9_ := aM_ (kD_ BK477.out)
        have n10_ := aM_ (kD_ BK488.out)
        have n11_ := aM_ (bD_ HB.out)
        clear HO_9
        clear HO_471000
        clear HO_471001
        clear HO_478000
        clear HO_478001
        clear HO_489000
        clear HO_489001
        clear BK452
        clear BK470
        clear BK477
        clear BK488
        clear HB
        have HO_9 := n0_
        have HO_471000 := n1_
        have HO_471001 := n2_
        have HO_478000 := n3_
        have HO_478001 := n4_
        have HO_489000 := n5_
        have HO_489001 := n6_
        have BK452 := n7_
        have BK470 := n8_
        have BK477 := n9_
        have BK488 := n10_
        have HB := n11_
        clear n0_ n1_ n2_ n3_ n4_ n5_ n6_ n7_ n8_ n9_ n10_ n11_
        refine start_ (n := 5) (S := fun w' => w'.cell? ⟨gb477, 0, none⟩ = some (.slice Ao35 t471.length co35) ∧ w'.cell? ⟨gb477, 1, none⟩ = some (.slice Ao39 t474.length co39) ∧ w'.cell? ⟨gb452, 0, none⟩ = some (.slice A0_0 l0_0.length c0_0) ∧ w'.cell? ⟨gb452, 1, none⟩ = some (.slice A0_1 l0_1.length c0_1)) (ds := []) #[false, false, false, false, false] (by kernel_rfl) rfl rfl ⟨(kC_ BK477.out 0).trans rfl, (kC_ BK477.out 1).trans rfl, (kC_ BK452.out 0).trans rfl, (kC_ BK452.out 1).trans rfl⟩ (fun hHeld => ?_)
        generalize wc.drew = w79 at HO_9 HO_471000 HO_471001 HO_478000 HO_478001 HO_489000 HO_489001 BK452 BK470 BK477 BK488 HB hHeld ⊢
        refine take_ (i := 0) (N := some 52) (v := ?_) (a' := ?_) #[true, false, false, false, false] rfl rfl (by kernel_rfl) (fun _ _ _ h => h) (Or.inl ⟨by rfl, ?_⟩) hHeld ?_ ?_
        rotate_left
        ·rintro w' ⟨s0, s1, s2, s3⟩
         go_simp
         with_reducible rfl
        rotate_left
        ·simp only [Act.put, List.setIfInBounds_toArray, List.set_cons_zero, List.set_cons_succ, i64_w, i32_w]
         rfl
        refine take_ (i := 1) (N := some 53) (v := ?_) (a' := ?_) #[true, true, false, false, false] rfl rfl (by kernel_rfl) (fun _ _ _ h => h) (Or.inl ⟨by rfl, ?_⟩) hHeld ?_ ?_
        rotate_left
        ·rintro w' ⟨s0, s1, s2, s3⟩
         go_simp
         with_reducible rfl
        rotate_left
        ·simp only [Act.put, List.setIfInBounds_toArray, List.set_cons_zero, List.set_cons_succ, i64_w, i32_w]
         rfl
        refine one_ (i := 2) (N := some 54) #[true, true, true, false, false] rfl rfl (by kernel_rfl) (by decide) (fun K hK => ?_)
        refine goes_ Try.func16 (by kernel_rfl) rfl #[.agg #[.slice A0_0 l0_0.length c0_0, .slice A0_1 l0_1.length c0_1]] (by rfl) rfl rfl (by (try simp only [List.map_toArray, List.map_cons, List.map_nil]); first | done | rfl | (simp only [List.length_drop, List.length_take]; rfl)) ?_
        with_reducible refine (laws_toDevice.calls kj15 _ _ l0_0 _ _ l0_1 t490 t493 _ ?side1 ?side2 ?side3 ?side4 A70.out).mono ?_
        (case side1 => repeat (first | exact (cB_ HR0_0.out HB.out) | (with_reducible refine cA_ ?_ _) | (with_reducible refine cN_ ?_ _)))
        (case side2 => exact HC0_0.out)
        (case side3 => repeat (first | exact (cB_ HR0_1.out HB.out) | (with_reducible refine cA_ ?_ _) | (with_reducible refine cN_ ?_ _)))
        (case side4 => exact HC0_1.out)
        rintro e w80 ⟨v491, v494, rfl, ho0, ho1, hb⟩
        refine ⟨_, rfl, ?_⟩
        have n0_ := aM_ (rB_ (by (with_reducible repeat (first | apply rA_ | apply rN_)); exact HO_9.out) hb)
        have n1_ := aM_ (rE_ (by (with_reducible repeat (first | apply rA_ | apply rN_)); exact HO_471000.out) (rS_ ho0) hb)
        have n2_ := aM_ (rE_ (by (with_reducible repeat (first | apply rA_ | apply rN_)); exact HO_471001.out) (rS_ ho1) hb)
        have n3_ := aM_ (rE_ (by (with_reducible repeat (first | apply rA_ | apply rN_)); exact HO_478000.out) (rS_ ho0) hb)
        have n4_ := aM_ (rE_ (by (with_reducible repeat (first | apply rA_ | apply rN_)); exact HO_478001.out) (rS_ ho1) hb)
        have n5_ := aM_ (rE_ (by (with_reducible repeat (first | apply rA_ | apply rN_)); exact HO_489000.out) (rS_ ho0) hb)
        have n6_ := aM_ (rE_ (by (with_reducible repeat (first | apply rA_ | apply rN_)); exact HO_489001.out) (rS_ ho1) hb)
        have n7_ := aM_ (rO_ (rW_ (rW_ (rW_ ho0 (rL_ (by (with_reducible repeat (first | apply rA_ | apply rN_)); exact HO_471000.out))) (rL_ (by (with_reducible repeat (first | apply rA_ | apply rN_)); exact HO_478000.out))) (rL_ (by (with_reducible repeat (first | apply rA_ | apply rN_)); exact HO_489000.out))) (bZ_ (by repeat (with_reducible first | exact HB.out | apply bA_ | apply bN_ | refine bS_ ?_ GE452.out | refine bS_ ?_ GE470.out | refine bS_ ?_ GE477.out | refine bS_ ?_ GE488.out))))
        have n8_ := aM_ (rO_ (rW_ (rW_ (rW_ ho1 (rL_ (by (with_reducible repeat (first | apply rA_ | apply rN_)); exact HO_471001.out))) (rL_ (by (with_reducible repeat (first | apply rA_ | apply rN_)); exact HO_478001.out))) (rL_ (by (with_reducible repeat (first | apply rA_ | apply rN_)); exact HO_489001.out))) (bZ_ (by repeat (with_reducible first | exact HB.out | apply bA_ | apply bN_ | refine bS_ ?_ GE452.out | refine bS_ ?_ GE470.out | refine bS_ ?_ GE477.out | refine bS_ ?_ GE488.out))))
        have n9_ := aM_ (kB_ (g := gb452) (o := .cells #[.slice A0_0 l0_0.length c0_0, .slice A0_1 l0_1.length c0_1] 32 (0, 0)) (by (with_reducible repeat (first | refine kN_ ?_ _ | refine kA_ ?_ _)); exact BK452.out) hb)
        have n10_ := aM_ (kB_ (g := gb470) (o := .cells #[.slice Ao28 t463.length co28, .slice Ao31 t466.length co31] 25 (0, 0)) (by (with_reducible repeat (first | refine kN_ ?_ _ | refine kA_ ?_ _)); exact BK470.out) hb)
        have n11_ := aM_ (kB_ (g := gb477) (o := .cells #[.slice Ao35 t471.length co35, .slice Ao39 t474.length co39] 25 (0, 0)) (by (with_reducible repeat (first | refine kN_ ?_ _ | refine kA_ ?_ _)); exact BK477.out) hb)
        have n12_ := aM_ (kB_ (g := gb488) (o := .cells #[.slice Ao45 t481.length co45, .slice Ao50 t484.length co50] 25 (0, 0)) (by (with_reducible repeat (first | refine kN_ ?_ _ | refine kA_ ?_ _)); exact BK488.out) hb)
        have n13_ := aM_ (bP_ (by repeat (with_reducible first | exact HB.out | apply bA_ | apply bN_ | refine bS_ ?_ GE452.out | refine bS_ ?_ GE470.out | refine bS_ ?_ GE477.out | refine bS_ ?_ GE488.out)) hb)
        clear HO_9
        clear HO_471000
        clear HO_471001
        clear HO_478000
        clear HO_478001
        clear HO_489000
        clear HO_489001
        clear BK452
        clear BK470
        clear BK477
        clear BK488
        clear HB
        have HO_9 := n0_
        have HO_471000 := n1_
        have HO_471001 := n2_
        have HO_478000 := n3_
        have HO_478001 := n4_
        have HO_489000 := n5_
        have HO_489001 := n6_
        have HO492 := n7_
        have HO495 := n8_
        have BK452 := n9_
        have BK470 := n10_
        have BK477 := n11_
        have BK488 := n12_
        have HB := n13_
        clear n0_ n1_ n2_ n3_ n4_ n5_ n6_ n7_ n8_ n9_ n10_ n11_ n12_ n13_
        (try clear hb)
        (try clear hb2)
        (try clear hk)
        (try clear hi)
        (try clear ho0)
        (try clear ho1)
        obtain ⟨Ao81, co81, eo81⟩ := Kd.R_slice HO492.out
        (first | subst eo81 | (injection eo81 with f1_ f2_ f3_; have f4_ := f1_.symm; have f5_ := f3_.symm; clear f1_ f2_ f3_; subst f4_; subst f5_))
        obtain ⟨Ao82, co82, eo82⟩ := Kd.R_slice HO495.out
        (first | subst eo82 | (injection eo82 with f1_ f2_ f3_; have f4_ := f1_.symm; have f5_ := f3_.symm; clear f1_ f2_ f3_; subst f4_; subst f5_))
        refine hK.out _ _ ⟨(kC_ BK477.out 0).trans rfl, (kC_ BK477.out 1).trans rfl, (kC_ BK452.out 0).trans rfl, (kC_ BK452.out 1).trans rfl⟩ (fun hHeld => ?_)
        clear hK K
        refine norm_ (a' := ?_) ?_ ?_
        rotate_left
        ·show Act.put _ (some 54) _ = _
         simp only [Act.put, List.setIfInBounds_toArray, List.set_cons_zero, List.set_cons_succ, i64_w, i32_w]
         rfl
        refine one_ (i := 3) (N := some 55) #[true, true, true, true, false] rfl rfl (by kernel_rfl) (by decide) (fun K hK => ?_)
        refine goes_ Try.func11 (by kernel_rfl) rfl #[.agg #[.slice Ao35 t471.length co35, .slice Ao39 t474.length co39], .agg #[.slice Ao81 t490.length co81, .slice Ao82 t493.length co82]] (by rfl) rfl rfl (by (try simp only [List.map_toArray, List.map_cons, List.map_nil]); first | done | rfl | (simp only [List.length_drop, List.length_take]; rfl)) ?_
        with_reducible refine (laws_eqDevice.calls kj15 _ _ t471 _ _ t474 _ _ t490 _ _ t493 true _ ?side1 ?side2 ?side3 ?side4 ?side5 ?side6 ?side7 ?side8 A71.out).mono ?_
        (case side1 => repeat (first | exact (rR_ HO_478000.out).2.2 | (with_reducible refine cA_ ?_ _) | (with_reducible refine cN_ ?_ _)))
        (case side2 => exact (rR_ HO_478000.out).2.1)
        (case side3 => repeat (first | exact (rR_ HO_478001.out).2.2 | (with_reducible refine cA_ ?_ _) | (with_reducible refine cN_ ?_ _)))
        (case side4 => exact (rR_ HO_478001.out).2.1)
        (case side5 => repeat (first | exact (rR_ HO492.out).2.2 | (with_reducible refine cA_ ?_ _) | (with_reducible refine cN_ ?_ _)))
        (case side6 => exact (rR_ HO492.out).2.1)
        (case side7 => repeat (first | exact (rR_ HO495.out).2.2 | (with_reducible refine cA_ ?_ _) | (with_reducible refine cN_ ?_ _)))
        (case side8 => exact (rR_ HO495.out).2.1)
        rintro e w83 ⟨rfl, hb⟩
        refine ⟨_, rfl, ?_⟩
        have n0_ := aM_ (rB_ (by (with_reducible repeat (first | apply rA_ | apply rN_)); exact HO_9.out) hb)
        have n1_ := aM_ (rB_ (by (with_reducible repeat (first | apply rA_ | apply rN_)); exact HO_471000.out) hb)
        have n2_ := aM_ (rB_ (by (with_reducible repeat (first | apply rA_ | apply rN_)); exact HO_471001.out) hb)
        have n3_ := aM_ (rB_ (by (with_reducible repeat (first | apply rA_ | apply rN_)); exact HO_478000.out) hb)
        have n4_ := aM_ (rB_ (by (with_reducible repeat (first | apply rA_ | apply rN_)); exact HO_478001.out) hb)
        have n5_ := aM_ (rB_ (by (with_reducible repeat (first | apply rA_ | apply rN_)); exact HO_489000.out) hb)
        have n6_ := aM_ (rB_ (by (with_reducible repeat (first | apply rA_ | apply rN_)); exact HO_489001.out) hb)
        have n7_ := aM_ (rB_ (by (with_reducible repeat (first | apply rA_ | apply rN_)); exact HO492.out) hb)
        have n8_ := aM_ (rB_ (by (with_reducible repeat (first | apply rA_ | apply rN_)); exact HO495.out) hb)
        have n9_ := aM_ (kB_ (g := gb452) (o := .cells #[.slice A0_0 l0_0.length c0_0, .slice A0_1 l0_1.length c0_1] 32 (0, 0)) (by (with_reducible repeat (first | refine kN_ ?_ _ | refine kA_ ?_ _)); exact BK452.out) hb)
        have n10_ := aM_ (kB_ (g := gb470) (o := .cells #[.slice Ao28 t463.length co28, .slice Ao31 t466.length co31] 25 (0, 0)) (by (with_reducible repeat (first | refine kN_ ?_ _ | refine kA_ ?_ _)); exact BK470.out) hb)
        have n11_ := aM_ (kB_ (g := gb477) (o := .cells #[.slice Ao35 t471.length co35, .slice Ao39 t474.length co39] 25 (0, 0)) (by (with_reducible repeat (first | refine kN_ ?_ _ | refine kA_ ?_ _)); exact BK477.out) hb)
        have n12_ := aM_ (kB_ (g := gb488) (o := .cells #[.slice Ao45 t481.length co45, .slice Ao50 t484.length co50] 25 (0, 0)) (by (with_reducible repeat (first | refine kN_ ?_ _ | refine kA_ ?_ _)); exact BK488.out) hb)
        have n13_ := aM_ (bP_ (by repeat (with_reducible first | exact HB.out | apply bA_ | apply bN_ | refine bS_ ?_ GE452.out | refine bS_ ?_ GE470.out | refine bS_ ?_ GE477.out | refine bS_ ?_ GE488.out)) hb)
        clear HO_9
        clear HO_471000
        clear HO_471001
        clear HO_478000
        clear HO_478001
        clear HO_489000
        clear HO_489001
        clear HO492
        clear HO495
        clear BK452
        clear BK470
        clear BK477
        clear BK488
        clear HB
        have HO_9 := n0_
        have HO_471000 := n1_
        have HO_471001 := n2_
        have HO_478000 := n3_
        have HO_478001 := n4_
        have HO_489000 := n5_
        have HO_489001 := n6_
        have HO492 := n7_
        have HO495 := n8_
        have BK452 := n9_
        have BK470 := n10_
        have BK477 := n11_
        have BK488 := n12_
        have HB := n13_
        clear n0_ n1_ n2_ n3_ n4_ n5_ n6_ n7_ n8_ n9_ n10_ n11_ n12_ n13_
        (try clear hb)
        (try clear hb2)
        (try clear hk)
        (try clear hi)
        refine hK.out _ _ ⟨(kC_ BK477.out 0).trans rfl, (kC_ BK477.out 1).trans rfl, (kC_ BK452.out 0).trans rfl, (kC_ BK452.out 1).trans rfl⟩ (fun hHeld => ?_)
        clear hK K
        refine norm_ (a' := ?_) ?_ ?_
        rotate_left
        ·show Act.put _ (some 55) _ = _
         simp only [Act.put, List.setIfInBounds_toArray, List.set_cons_zero, List.set_cons_succ, i64_w, i32_w]
         rfl
        refine pure_ (i := 4) (N := some 56) (v := ?_) (a' := ?_) #[true, true, true, true, true] rfl rfl (by kernel_rfl) (fun _ _ _ h => h) (Or.inl ⟨by rfl, ?_⟩) ?_ ?_
        rotate_left
        ·intro w'
         go_simp
         with_reducible rfl
        rotate_left
        ·simp only [Act.put, List.setIfInBounds_toArray, List.set_cons_zero, List.set_cons_succ, i64_w, i32_w]
         rfl
        refine done_ (by kernel_rfl) ?_
        go_upto_region 17 with (first | ((with_reducible refine gate_callee (f := 25) rfl ?_); refine goesL_ (some 59) rfl rfl Try.func25 (by kernel_rfl) rfl #[.slice A1 l1.length c1] rfl (by (try simp only [List.map_toArray, List.map_cons, List.map_nil]); first | done | rfl | (simp only [List.length_drop, List.length_take]; rfl)) ?_; (with_reducible refine (laws_toIntS.calls kj15 _ _ l1 t497 _ ?side1 ?side2 A73.out).mono ?_); (case side1 => repeat (first | exact (cB_ HR1.out HB.out) | (with_reducible refine cA_ ?_ _) | (with_reducible refine cN_ ?_ _))); (case side2 => exact HC1.out); rintro e w84 ⟨v498, rfl, ho0, hb⟩; refine ⟨_, rfl, ?_⟩; have n0_ := aM_ (rE_ (by (with_reducible repeat (first | apply rA_ | apply rN_)); exact HO_9.out) (rS_ ho0) hb); have n1_ := aM_ (rB_ (by (with_reducible repeat (first | apply rA_ | apply rN_)); exact HO_471000.out) hb); have n2_ := aM_ (rB_ (by (with_reducible repeat (first | apply rA_ | apply rN_)); exact HO_471001.out) hb); have n3_ := aM_ (rB_ (by (with_reducible repeat (first | apply rA_ | apply rN_)); exact HO_478000.out) hb); have n4_ := aM_ (rB_ (by (with_reducible repeat (first | apply rA_ | apply rN_)); exact HO_478001.out) hb); have n5_ := aM_ (rB_ (by (with_reducible repeat (first | apply rA_ | apply rN_)); exact HO_489000.out) hb); have n6_ := aM_ (rB_ (by (with_reducible repeat (first | apply rA_ | apply rN_)); exact HO_489001.out) hb); have n7_ := aM_ (rB_ (by (with_reducible repeat (first | apply rA_ | apply rN_)); exact HO492.out) hb); have n8_ := aM_ (rB_ (by (with_reducible repeat (first | apply rA_ | apply rN_)); exact HO495.out) hb); have n9_ := aM_ (rO_ (rW_ ho0 (rL_ (by (with_reducible repeat (first | apply rA_ | apply rN_)); exact HO_9.out))) (bZ_ (by repeat (with_reducible first | exact HB.out | apply bA_ | apply bN_ | refine bS_ ?_ GE452.out | refine bS_ ?_ GE470.out | refine bS_ ?_ GE477.out | refine bS_ ?_ GE488.out)))); have n10_ := aM_ (kB_ (g := gb452) (o := .cells #[.slice A0_0 l0_0.length c0_0, .slice A0_1 l0_1.length c0_1] 32 (0, 0)) (by (with_reducible repeat (first | refine kN_ ?_ _ | refine kA_ ?_ _)); exact BK452.out) hb); have n11_ := aM_ (kB_ (g := gb470) (o := .cells #[.slice Ao28 t463.length co28, .slice Ao31 t466.length co31] 25 (0, 0)) (by (with_reducible repeat (first | refine kN_ ?_ _ | refine kA_ ?_ _)); exact BK470.out) hb); have n12_ := aM_ (kB_ (g := gb477) (o := .cells #[.slice Ao35 t471.length co35, .slice Ao39 t474.length co39] 25 (0, 0)) (by (with_reducible repeat (first | refine kN_ ?_ _ | refine kA_ ?_ _)); exact BK477.out) hb); have n13_ := aM_ (kB_ (g := gb488) (o := .cells #[.slice Ao45 t481.length co45, .slice Ao50 t484.length co50] 25 (0, 0)) (by (with_reducible repeat (first | refine kN_ ?_ _ | refine kA_ ?_ _)); exact BK488.out) hb); have n14_ := aM_ (bP_ (by repeat (with_reducible first | exact HB.out | apply bA_ | apply bN_ | refine bS_ ?_ GE452.out | refine bS_ ?_ GE470.out | refine bS_ ?_ GE477.out | refine bS_ ?_ GE488.out)) hb); clear HO_9; clear HO_471000; clear HO_471001; clear HO_478000; clear HO_478001; clear HO_489000; clear HO_489001; clear HO492; clear HO495; clear BK452; clear BK470; clear BK477; clear BK488; clear HB; have HO_9 := n0_; have HO_471000 := n1_; have HO_471001 := n2_; have HO_478000 := n3_; have HO_478001 := n4_; have HO_489000 := n5_; have HO_489001 := n6_; have HO492 := n7_; have HO495 := n8_; have HO499 := n9_; have BK452 := n10_; have BK470 := n11_; have BK477 := n12_; have BK488 := n13_; have HB := n14_; clear n0_ n1_ n2_ n3_ n4_ n5_ n6_ n7_ n8_ n9_ n10_ n11_ n12_ n13_ n14_; (try clear hb); (try clear hb2); (try clear hk); (try clear hi); (try clear ho0); obtain ⟨Ao85, co85, eo85⟩ := Kd.R_slice HO499.out; subst eo85) | ((with_reducible refine gate_callee (f := 27) rfl ?_); refine goesL_ (some 60) rfl rfl Try.func27 (by kernel_rfl) rfl #[.slice Ao42 t478.length co42, .slice Ao85 t497.length co85] rfl (by (try simp only [List.map_toArray, List.map_cons, List.map_nil]); first | done | rfl | (simp only [List.length_drop, List.length_take]; rfl)) ?_; (with_reducible refine (laws_eqIntS.calls kj15 _ _ t478 _ _ t497 true _ ?side1 ?side2 ?side3 ?side4 A74.out).mono ?_); (case side1 => repeat (first | exact (rR_ HO_9.out).2.2 | (with_reducible refine cA_ ?_ _) | (with_reducible refine cN_ ?_ _))); (case side2 => exact (rR_ HO_9.out).2.1); (case side3 => repeat (first | exact (rR_ HO499.out).2.2 | (with_reducible refine cA_ ?_ _) | (with_reducible refine cN_ ?_ _))); (case side4 => exact (rR_ HO499.out).2.1); rintro e w' ⟨rfl, ⟨nd, rfl⟩⟩; refine ⟨_, rfl, ?_⟩; have hnb86 := NB477_452.out; have hnc86 := NB452_477.out; have hnb87 := NB477_470.out; have hnc87 := NB470_477.out; have hnb88 := NB477_488.out; have hnc88 := NB488_477.out; have hcz89_0 : w84.cell? ⟨gb477, 0, none⟩ = some (.slice Ao35 t471.length co35) := (kC_ BK477.out 0).trans rfl; have hcz89_1 : w84.cell? ⟨gb477, 1, none⟩ = some (.slice Ao39 t474.length co39) := (kC_ BK477.out 1).trans rfl; have hfz89_0 := kZ_ BK477.out 0; have hfz89_1 := kZ_ BK477.out 1))
        have n_ := aM_ (rN_ HO_478000.out nd); clear HO_478000; have HO_478000 := n_; clear n_
        have n_ := aM_ (rN_ HO_478001.out nd); clear HO_478001; have HO_478001 := n_; clear n_
        have n_ := aM_ (rN_ HO_9.out nd); clear HO_9; have HO_9 := n_; clear n_
        have n_ := aM_ (rN_ HO_471000.out nd); clear HO_471000; have HO_471000 := n_; clear n_
        have n_ := aM_ (rN_ HO_471001.out nd); clear HO_471001; have HO_471001 := n_; clear n_
        have n_ := aM_ (rN_ HO_489000.out nd); clear HO_489000; have HO_489000 := n_; clear n_
        have n_ := aM_ (rN_ HO_489001.out nd); clear HO_489001; have HO_489001 := n_; clear n_
        have n_ := aM_ (rN_ HO492.out nd); clear HO492; have HO492 := n_; clear n_
        have n_ := aM_ (rN_ HO495.out nd); clear HO495; have HO495 := n_; clear n_
        have n_ := aM_ (rN_ HO499.out nd); clear HO499; have HO499 := n_; clear n_
        have n_ := aM_ (kN_ BK452.out nd); clear BK452; have BK452 := n_; clear n_
        have n_ := aM_ (kN_ BK470.out nd); clear BK470; have BK470 := n_; clear n_
        have n_ := aM_ (kN_ BK477.out nd); clear BK477; have BK477 := n_; clear n_
        have n_ := aM_ (kN_ BK488.out nd); clear BK488; have BK488 := n_; clear n_
        go_upto_region 19 with ((with_reducible refine gate_callee (f := 12) rfl ?_); refine goesL_ (some 64) rfl rfl Try.func12 (by kernel_rfl) rfl #[.agg #[.slice Ao35 t471.length co35, .slice Ao39 t474.length co39], .int .i64 1] rfl (by (try simp only [List.map_toArray, List.map_cons, List.map_nil]); first | done | rfl | (simp only [List.length_drop, List.length_take]; rfl)) ?_; (with_reducible refine (laws_markDevice.calls kj15 (fun k_ => some k_ = (.slice Ao35 t471.length co35 : Value).ownBlock) (.slice Ao35 t471.length co35) t471 (fun k_ => some k_ = (.slice Ao39 t474.length co39 : Value).ownBlock) (.slice Ao39 t474.length co39) t474 1 t501 t502 t503 w _ ?side1 ?side2 ?side3 A76.out).mono ?_); (case side1 => repeat (with_reducible first | exact HB.out | apply bA_ | apply bN_ | refine bS_ ?_ GE452.out | refine bS_ ?_ GE470.out | refine bS_ ?_ GE477.out | refine bS_ ?_ GE488.out)); (case side2 => exact Kd.R_tight rfl HO_478000.out); (case side3 => exact Kd.R_tight rfl HO_478001.out); rintro e w90 ⟨rfl, hy0, hy1, hb, hkp⟩; refine ⟨_, rfl, ?_⟩; have n0_ := aM_ (rM_ (ok' := fun k_ => some k_ ≠ (.slice Ao85 t497.length co85 : Value).ownBlock) (Kd.R_keptB ((Kd.R_apart' (Kd.R_apart' HO_9.out (Kd.R_typed HO_478000.out) (by decide)) (Kd.R_typed HO_478001.out) (by decide))) hkp (fun k_ hk_ hs_ => Or.elim hs_ (fun e_ => (hk_.1.2) e_) (fun e_ => (hk_.2) e_))) (fun k_ hk_ => hk_.1.1.1.2)); have n1_ := aM_ (rM_ (ok' := fun k_ => some k_ ≠ (.slice Ao35 t471.length co35 : Value).ownBlock ∧ some k_ ≠ (.slice Ao45 t481.length co45 : Value).ownBlock ∧ some k_ ≠ (.slice Ao81 t490.length co81 : Value).ownBlock) (Kd.R_keptB ((Kd.R_apart' HO_471000.out (Kd.R_typed HO_478001.out) (by decide))) hkp (fun k_ hk_ hs_ => Or.elim hs_ (fun e_ => (hk_.1.1.1) e_) (fun e_ => (hk_.2) e_))) (fun k_ hk_ => ⟨hk_.1.1.1.1, hk_.1.1.1.2, hk_.1.1.2⟩)); have n2_ := aM_ (rM_ (ok' := fun k_ => some k_ ≠ (.slice Ao39 t474.length co39 : Value).ownBlock ∧ some k_ ≠ (.slice Ao50 t484.length co50 : Value).ownBlock ∧ some k_ ≠ (.slice Ao82 t493.length co82 : Value).ownBlock) (Kd.R_keptB ((Kd.R_apart' HO_471001.out (Kd.R_typed HO_478000.out) (by decide))) hkp (fun k_ hk_ hs_ => Or.elim hs_ (fun e_ => (hk_.2) e_) (fun e_ => (hk_.1.1.1) e_))) (fun k_ hk_ => ⟨hk_.1.1.1.1, hk_.1.1.1.2, hk_.1.1.2⟩)); have n3_ := aM_ (Kd.R_reok rfl hy0 (fun k_ e_ => HO_478000.out.1 k_ e_)); have n4_ := aM_ (Kd.R_reok rfl hy1 (fun k_ e_ => HO_478001.out.1 k_ e_)); have n5_ := aM_ (rM_ (ok' := fun k_ => some k_ ≠ (.slice Ao28 t463.length co28 : Value).ownBlock ∧ some k_ ≠ (.slice Ao35 t471.length co35 : Value).ownBlock ∧ some k_ ≠ (.slice Ao81 t490.length co81 : Value).ownBlock) (Kd.R_keptB ((Kd.R_apart' HO_489000.out (Kd.R_typed HO_478001.out) (by decide))) hkp (fun k_ hk_ hs_ => Or.elim hs_ (fun e_ => (hk_.1.1.2) e_) (fun e_ => (hk_.2) e_))) (fun k_ hk_ => ⟨hk_.1.1.1.1, hk_.1.1.1.2, hk_.1.1.2⟩)); have n6_ := aM_ (rM_ (ok' := fun k_ => some k_ ≠ (.slice Ao31 t466.length co31 : Value).ownBlock ∧ some k_ ≠ (.slice Ao39 t474.length co39 : Value).ownBlock ∧ some k_ ≠ (.slice Ao82 t493.length co82 : Value).ownBlock) (Kd.R_keptB ((Kd.R_apart' HO_489001.out (Kd.R_typed HO_478000.out) (by decide))) hkp (fun k_ hk_ hs_ => Or.elim hs_ (fun e_ => (hk_.2) e_) (fun e_ => (hk_.1.1.2) e_))) (fun k_ hk_ => ⟨hk_.1.1.1.1, hk_.1.1.1.2, hk_.1.1.2⟩)); have n7_ := aM_ (kK_ (by exact BK452.out) hkp (fun hs_ => Or.elim hs_ (fun e_ => (fun e_ => (rQ_ HO_478000.out BK452.out (by decide)) e_) e_) (fun e_ => (fun e_ => (rQ_ HO_478001.out BK452.out (by decide)) e_) e_))); have n8_ := aM_ (kK_ (by exact BK470.out) hkp (fun hs_ => Or.elim hs_ (fun e_ => (fun e_ => (rQ_ HO_478000.out BK470.out (by decide)) e_) e_) (fun e_ => (fun e_ => (rQ_ HO_478001.out BK470.out (by decide)) e_) e_))); have n9_ := aM_ (kK_ (by exact BK477.out) hkp (fun hs_ => Or.elim hs_ (fun e_ => (fun e_ => (rQ_ HO_478000.out BK477.out (by decide)) e_) e_) (fun e_ => (fun e_ => (rQ_ HO_478001.out BK477.out (by decide)) e_) e_))); have n10_ := aM_ (kK_ (by exact BK488.out) hkp (fun hs_ => Or.elim hs_ (fun e_ => (fun e_ => (rQ_ HO_478000.out BK488.out (by decide)) e_) e_) (fun e_ => (fun e_ => (rQ_ HO_478001.out BK488.out (by decide)) e_) e_))); have n11_ := aM_ (rM_ (ok' := fun k_ => some k_ ≠ (.slice Ao28 t463.length co28 : Value).ownBlock ∧ some k_ ≠ (.slice Ao35 t471.length co35 : Value).ownBlock ∧ some k_ ≠ (.slice Ao45 t481.length co45 : Value).ownBlock) (Kd.R_keptB ((Kd.R_apart' HO492.out (Kd.R_typed HO_478001.out) (by decide))) hkp (fun k_ hk_ hs_ => Or.elim hs_ (fun e_ => (hk_.1.1.2) e_) (fun e_ => (hk_.2) e_))) (fun k_ hk_ => ⟨hk_.1.1.1.1.2, hk_.1.1.1.2, hk_.1.1.2⟩)); have n12_ := aM_ (rM_ (ok' := fun k_ => some k_ ≠ (.slice Ao31 t466.length co31 : Value).ownBlock ∧ some k_ ≠ (.slice Ao39 t474.length co39 : Value).ownBlock ∧ some k_ ≠ (.slice Ao50 t484.length co50 : Value).ownBlock) (Kd.R_keptB ((Kd.R_apart' HO495.out (Kd.R_typed HO_478000.out) (by decide))) hkp (fun k_ hk_ hs_ => Or.elim hs_ (fun e_ => (hk_.2) e_) (fun e_ => (hk_.1.1.2) e_))) (fun k_ hk_ => ⟨hk_.1.1.1.1.2, hk_.1.1.1.2, hk_.1.1.2⟩)); have n13_ := aM_ (rM_ (ok' := fun k_ => some k_ ≠ (.slice Ao42 t478.length co42 : Value).ownBlock) (Kd.R_keptB ((Kd.R_apart' (Kd.R_apart' HO499.out (Kd.R_typed HO_478000.out) (by decide)) (Kd.R_typed HO_478001.out) (by decide))) hkp (fun k_ hk_ hs_ => Or.elim hs_ (fun e_ => (hk_.1.2) e_) (fun e_ => (hk_.2) e_))) (fun k_ hk_ => hk_.1.1.1.2)); have n14_ := aM_ (hb); clear HO_9; clear HO_471000; clear HO_471001; clear HO_478000; clear HO_478001; clear HO_489000; clear HO_489001; clear BK452; clear BK470; clear BK477; clear BK488; clear HO492; clear HO495; clear HO499; clear HB; have HO_9 := n0_; have HO_471000 := n1_; have HO_471001 := n2_; have HO_478000 := n3_; have HO_478001 := n4_; have HO_489000 := n5_; have HO_489001 := n6_; have BK452 := n7_; have BK470 := n8_; have BK477 := n9_; have BK488 := n10_; have HO492 := n11_; have HO495 := n12_; have HO499 := n13_; have HB := n14_; clear n0_ n1_ n2_ n3_ n4_ n5_ n6_ n7_ n8_ n9_ n10_ n11_ n12_ n13_ n14_; (try clear hb); (try clear hkp); (try clear hy0); (try clear hy1))
        go_upto_region 20 with ((with_reducible refine gate_callee (f := 28) rfl ?_); refine goesL_ (some 67) rfl rfl Try.func28 (by kernel_rfl) rfl #[.slice Ao42 t478.length co42, .int .i64 t501] rfl (by (try simp only [List.map_toArray, List.map_cons, List.map_nil]); first | done | rfl | (simp only [List.length_drop, List.length_take]; rfl)) ?_; (with_reducible refine (laws_markIntS.calls kj15 (fun k_ => some k_ = (.slice Ao42 t478.length co42 : Value).ownBlock) (.slice Ao42 t478.length co42) t478 t501 t504 t505 w _ ?side1 ?side2 A77.out).mono ?_); (case side1 => repeat (with_reducible first | exact HB.out | apply bA_ | apply bN_ | refine bS_ ?_ GE452.out | refine bS_ ?_ GE470.out | refine bS_ ?_ GE477.out | refine bS_ ?_ GE488.out)); (case side2 => exact Kd.R_tight rfl HO_9.out); rintro e w91 ⟨rfl, hy0, hb, hkp⟩; refine ⟨_, rfl, ?_⟩; have n0_ := aM_ (Kd.R_reok rfl hy0 (fun k_ e_ => HO_9.out.1 k_ e_)); have n1_ := aM_ (rM_ (ok' := fun k_ => some k_ ≠ (.slice Ao35 t471.length co35 : Value).ownBlock ∧ some k_ ≠ (.slice Ao45 t481.length co45 : Value).ownBlock ∧ some k_ ≠ (.slice Ao81 t490.length co81 : Value).ownBlock) (Kd.R_keptB ((Kd.R_apart' HO_471000.out (Kd.R_typed HO_9.out) (by decide))) hkp (fun k_ hk_ hs_ => (hk_.2) hs_)) (fun k_ hk_ => ⟨hk_.1.1.1, hk_.1.1.2.1, hk_.1.1.2.2⟩)); have n2_ := aM_ (rM_ (ok' := fun k_ => some k_ ≠ (.slice Ao39 t474.length co39 : Value).ownBlock ∧ some k_ ≠ (.slice Ao50 t484.length co50 : Value).ownBlock ∧ some k_ ≠ (.slice Ao82 t493.length co82 : Value).ownBlock) (Kd.R_keptB ((Kd.R_apart' HO_471001.out (Kd.R_typed HO_9.out) (by decide))) hkp (fun k_ hk_ hs_ => (hk_.2) hs_)) (fun k_ hk_ => ⟨hk_.1.1.1, hk_.1.1.2.1, hk_.1.1.2.2⟩)); have n3_ := aM_ (rM_ (ok' := fun k_ => some k_ ≠ (.slice Ao28 t463.length co28 : Value).ownBlock ∧ some k_ ≠ (.slice Ao45 t481.length co45 : Value).ownBlock ∧ some k_ ≠ (.slice Ao81 t490.length co81 : Value).ownBlock) (Kd.R_keptB ((Kd.R_apart' HO_478000.out (Kd.R_typed HO_9.out) (by decide))) hkp (fun k_ hk_ hs_ => (hk_.2) hs_)) (fun k_ hk_ => ⟨hk_.1.1.1.1, hk_.1.1.1.2, hk_.1.1.2⟩)); have n4_ := aM_ (rM_ (ok' := fun k_ => some k_ ≠ (.slice Ao31 t466.length co31 : Value).ownBlock ∧ some k_ ≠ (.slice Ao50 t484.length co50 : Value).ownBlock ∧ some k_ ≠ (.slice Ao82 t493.length co82 : Value).ownBlock) (Kd.R_keptB ((Kd.R_apart' HO_478001.out (Kd.R_typed HO_9.out) (by decide))) hkp (fun k_ hk_ hs_ => (hk_.2) hs_)) (fun k_ hk_ => ⟨hk_.1.1.1.1, hk_.1.1.1.2, hk_.1.1.2⟩)); have n5_ := aM_ (rM_ (ok' := fun k_ => some k_ ≠ (.slice Ao28 t463.length co28 : Value).ownBlock ∧ some k_ ≠ (.slice Ao35 t471.length co35 : Value).ownBlock ∧ some k_ ≠ (.slice Ao81 t490.length co81 : Value).ownBlock) (Kd.R_keptB ((Kd.R_apart' HO_489000.out (Kd.R_typed HO_9.out) (by decide))) hkp (fun k_ hk_ hs_ => (hk_.2) hs_)) (fun k_ hk_ => ⟨hk_.1.1.1, hk_.1.1.2.1, hk_.1.1.2.2⟩)); have n6_ := aM_ (rM_ (ok' := fun k_ => some k_ ≠ (.slice Ao31 t466.length co31 : Value).ownBlock ∧ some k_ ≠ (.slice Ao39 t474.length co39 : Value).ownBlock ∧ some k_ ≠ (.slice Ao82 t493.length co82 : Value).ownBlock) (Kd.R_keptB ((Kd.R_apart' HO_489001.out (Kd.R_typed HO_9.out) (by decide))) hkp (fun k_ hk_ hs_ => (hk_.2) hs_)) (fun k_ hk_ => ⟨hk_.1.1.1, hk_.1.1.2.1, hk_.1.1.2.2⟩)); have n7_ := aM_ (kK_ (by exact BK452.out) hkp (fun hs_ => (fun e_ => (rQ_ HO_9.out BK452.out (by decide)) e_) hs_)); have n8_ := aM_ (kK_ (by exact BK470.out) hkp (fun hs_ => (fun e_ => (rQ_ HO_9.out BK470.out (by decide)) e_) hs_)); have n9_ := aM_ (kK_ (by exact BK477.out) hkp (fun hs_ => (fun e_ => (rQ_ HO_9.out BK477.out (by decide)) e_) hs_)); have n10_ := aM_ (kK_ (by exact BK488.out) hkp (fun hs_ => (fun e_ => (rQ_ HO_9.out BK488.out (by decide)) e_) hs_)); have n11_ := aM_ (rM_ (ok' := fun k_ => some k_ ≠ (.slice Ao28 t463.length co28 : Value).ownBlock ∧ some k_ ≠ (.slice Ao35 t471.length co35 : Value).ownBlock ∧ some k_ ≠ (.slice Ao45 t481.length co45 : Value).ownBlock) (Kd.R_keptB ((Kd.R_apart' HO492.out (Kd.R_typed HO_9.out) (by decide))) hkp (fun k_ hk_ hs_ => (hk_.2) hs_)) (fun k_ hk_ => ⟨hk_.1.1.1, hk_.1.1.2.1, hk_.1.1.2.2⟩)); have n12_ := aM_ (rM_ (ok' := fun k_ => some k_ ≠ (.slice Ao31 t466.length co31 : Value).ownBlock ∧ some k_ ≠ (.slice Ao39 t474.length co39 : Value).ownBlock ∧ some k_ ≠ (.slice Ao50 t484.length co50 : Value).ownBlock) (Kd.R_keptB ((Kd.R_apart' HO495.out (Kd.R_typed HO_9.out) (by decide))) hkp (fun k_ hk_ hs_ => (hk_.2) hs_)) (fun k_ hk_ => ⟨hk_.1.1.1, hk_.1.1.2.1, hk_.1.1.2.2⟩)); have n13_ := aM_ (rM_ (ok' := fun k_ => some k_ ≠ (.slice Ao42 t478.length co42 : Value).ownBlock) (Kd.R_keptB (HO499.out) hkp (fun k_ hk_ hs_ => (hk_) hs_)) (fun k_ hk_ => hk_.1)); have n14_ := aM_ (hb); clear HO_9; clear HO_471000; clear HO_471001; clear HO_478000; clear HO_478001; clear HO_489000; clear HO_489001; clear BK452; clear BK470; clear BK477; clear BK488; clear HO492; clear HO495; clear HO499; clear HB; have HO_9 := n0_; have HO_471000 := n1_; have HO_471001 := n2_; have HO_478000 := n3_; have HO_478001 := n4_; have HO_489000 := n5_; have HO_489001 := n6_; have BK452 := n7_; have BK470 := n8_; have BK477 := n9_; have BK488 := n10_; have HO492 := n11_; have HO495 := n12_; have HO499 := n13_; have HB := n14_; clear n0_ n1_ n2_ n3_ n4_ n5_ n6_ n7_ n8_ n9_ n10_ n11_ n12_ n13_ n14_; (try clear hb); (try clear hkp); (try clear hy0))
        (try simp only [Act.put, List.setIfInBounds_toArray, List.set_cons_zero, List.set_cons_succ])
        go_cut [80] (fun v80 wc => ∃ (kq : Nat) (x80_77 : Bool), v80 = .bool x80_77 ∧ Aside0 (laws_FnExactCrashWith.j1 kq l1 t469 x80_77 l0_0 l0_1 t463 t466 t481 t484 = some r) ∧ Aside0 (kq ≤ kj15) ∧ Aside0 (Kd.R Kd.string 9 wc w.heap.size (fun k_ => some k_ ≠ ((.slice Ao35 t471.length co35) : Value).ownBlock ∧ some k_ ≠ ((.slice Ao45 t481.length co45) : Value).ownBlock) (.slice Ao28 t463.length co28) t463) ∧ Aside0 (Kd.R k55 55 wc w.heap.size (fun k_ => some k_ ≠ ((.slice Ao39 t474.length co39) : Value).ownBlock ∧ some k_ ≠ ((.slice Ao50 t484.length co50) : Value).ownBlock) (.slice Ao31 t466.length co31) t466) ∧ Aside0 (Kd.R Kd.string 9 wc w.heap.size (fun k_ => some k_ ≠ ((.slice Ao28 t463.length co28) : Value).ownBlock ∧ some k_ ≠ ((.slice Ao45 t481.length co45) : Value).ownBlock) (.slice Ao35 t471.length co35) t502) ∧ Aside0 (Kd.R k55 55 wc w.heap.size (fun k_ => some k_ ≠ ((.slice Ao31 t466.length co31) : Value).ownBlock ∧ some k_ ≠ ((.slice Ao50 t484.length co50) : Value).ownBlock) (.slice Ao39 t474.length co39) t503) ∧ Aside0 (Kd.R Kd.string 9 wc w.heap.size (fun k_ => some k_ ≠ ((.slice Ao28 t463.length co28) : Value).ownBlock ∧ some k_ ≠ ((.slice Ao35 t471.length co35) : Value).ownBlock) (.slice Ao45 t481.length co45) t481) ∧ Aside0 (Kd.R k55 55 wc w.heap.size (fun k_ => some k_ ≠ ((.slice Ao31 t466.length co31) : Value).ownBlock ∧ some k_ ≠ ((.slice Ao39 t474.length co39) : Value).ownBlock) (.slice Ao50 t484.length co50) t484) ∧ Aside0 (wc.heap[gb452]? = some (.cells #[(.slice A0_0 l0_0.length c0_0), (.slice A0_1 l0_1.length c0_1)] 32 (0, 0))) ∧ Aside0 (wc.heap[gb470]? = some (.cells #[(.slice Ao28 t463.length co28), (.slice Ao31 t466.length co31)] 25 (0, 0))) ∧ Aside0 (wc.heap[gb477]? = some (.cells #[(.slice Ao35 t471.length co35), (.slice Ao39 t474.length co39)] 25 (0, 0))) ∧ Aside0 (wc.heap[gb488]? = some (.cells #[(.slice Ao45 t481.length co45), (.slice Ao50 t484.length co50)] 25 (0, 0))) ∧ Aside0 (Below w.heap.size w wc))
        case first =>
         have H := HC78.out
         clear HC78
         by_cases c92 : t504 < 0
         ·rw [if_pos c92] at H
          have c92b0 : decide (t504 < 0) = true := decide_eq_true c92
          clear c92
          (first | rw [c92b0] | (simp only [i64_w, i32_w]; rw [c92b0]) | skip)
          have H' := aM_ H
          clear H
          go_wp2
          go_meet
          case rel => exact ⟨_, (true), (by first | rfl | (simp [*]; done)), H', ⟨by have := HJ15.out; first | omega | exact Nat.le_refl _⟩, ⟨by (with_reducible repeat (first | apply rA_ | apply rN_)); exact rM_ HO_471000.out (fun _ hk => ⟨hk.1, hk.2.1⟩)⟩, ⟨by (with_reducible repeat (first | apply rA_ | apply rN_)); exact rM_ HO_471001.out (fun _ hk => ⟨hk.1, hk.2.1⟩)⟩, ⟨by (with_reducible repeat (first | apply rA_ | apply rN_)); exact rM_ HO_478000.out (fun _ hk => ⟨hk.1, hk.2.1⟩)⟩, ⟨by (with_reducible repeat (first | apply rA_ | apply rN_)); exact rM_ HO_478001.out (fun _ hk => ⟨hk.1, hk.2.1⟩)⟩, ⟨by (with_reducible repeat (first | apply rA_ | apply rN_)); exact rM_ HO_489000.out (fun _ hk => ⟨hk.1, hk.2.1⟩)⟩, ⟨by (with_reducible repeat (first | apply rA_ | apply rN_)); exact rM_ HO_489001.out (fun _ hk => ⟨hk.1, hk.2.1⟩)⟩, ⟨by (with_reducible repeat (first | refine kN_ ?_ _ | refine kA_ ?_ _)); exact BK452.out⟩, ⟨by (with_reducible repeat (first | refine kN_ ?_ _ | refine kA_ ?_ _)); exact BK470.out⟩, ⟨by (with_reducible repeat (first | refine kN_ ?_ _ | refine kA_ ?_ _)); exact BK477.out⟩, ⟨by (with_reducible repeat (first | refine kN_ ?_ _ | refine kA_ ?_ _)); exact BK488.out⟩, ⟨by repeat (with_reducible first | exact HB.out | apply bA_ | apply bN_ | refine bS_ ?_ GE452.out | refine bS_ ?_ GE470.out | refine bS_ ?_ GE477.out | refine bS_ ?_ GE488.out)⟩⟩
         ·rw [if_neg c92] at H
          have c92b0 : decide (t504 < 0) = false := decide_eq_false c92
          clear c92
          (first | rw [c92b0] | (simp only [i64_w, i32_w]; rw [c92b0]) | skip)
          replace H := Option.bind_eq_some_iff.mp H
          obtain ⟨t506, A930, H⟩ := H
          replace H : (if t506 = true then (laws_FnExactCrashWith.j1 kj15 l1 t469 (t487 != t469) l0_0 l0_1 t463 t466 t481 t484) else (laws_FnExactCrashWith.j1 kj15 l1 t469 true l0_0 l0_1 t463 t466 t481 t484)) = some r := H
          have A93 := aM_ A930
          clear A930
          by_cases c94 : t506 = true
          ·subst c94
           have H1 : (laws_FnExactCrashWith.j1 kj15 l1 t469 (t487 != t469) l0_0 l0_1 t463 t466 t481 t484) = some r := by rw [if_pos rfl] at H; exact H
           clear H
           have H := H1
           clear H1
           have H' := aM_ H
           clear H
           have hnb95 := NB488_452.out
           have hnc95 := NB452_488.out
           have hnb96 := NB488_470.out
           have hnc96 := NB470_488.out
           have hnb97 := NB488_477.out
           have hnc97 := NB477_488.out
           have hcz98_0 : w91.cell? ⟨gb488, 0, none⟩ = some (.slice Ao45 t481.length co45) := (kC_ BK488.out 0).trans rfl
           have hcz98_1 : w91.cell? ⟨gb488, 1, none⟩ = some (.slice Ao50 t484.length co50) := (kC_ BK488.out 1).trans rfl
           have hfz98_0 := kZ_ BK488.out 0
           have hfz98_1 := kZ_ BK488.out 1
           have hnb99 := NB470_452.out
           have hnc99 := NB452_470.out
           have hnb100 := NB470_477.out
           have hnc100 := NB477_470.out
           have hcz101_0 : w91.cell? ⟨gb470, 0, none⟩ = some (.slice Ao28 t463.length co28) := (kC_ BK470.out 0).trans rfl
           have hcz101_1 : w91.cell? ⟨gb470, 1, none⟩ = some (.slice Ao31 t466.length co31) := (kC_ BK470.out 1).trans rfl
           have hfz101_0 := kZ_ BK470.out 0
           have hfz101_1 := kZ_ BK470.out 1
           go_wp2_with (first | (go_at_call 11; (with_reducible refine (laws_eqDevice.calls kj15 _ _ t481 _ _ t484 _ _ t463 _ _ t466 true _ ?side1 ?side2 ?side3 ?side4 ?side5 ?side6 ?side7 ?side8 A93.out).mono ?_); (case side1 => repeat (first | exact (rR_ HO_489000.out).2.2 | (with_reducible refine cA_ ?_ _) | (with_reducible refine cN_ ?_ _))); (case side2 => exact (rR_ HO_489000.out).2.1); (case side3 => repeat (first | exact (rR_ HO_489001.out).2.2 | (with_reducible refine cA_ ?_ _) | (with_reducible refine cN_ ?_ _))); (case side4 => exact (rR_ HO_489001.out).2.1); (case side5 => repeat (first | exact (rR_ HO_471000.out).2.2 | (with_reducible refine cA_ ?_ _) | (with_reducible refine cN_ ?_ _))); (case side6 => exact (rR_ HO_471000.out).2.1); (case side7 => repeat (first | exact (rR_ HO_471001.out).2.2 | (with_reducible refine cA_ ?_ _) | (with_reducible refine cN_ ?_ _))); (case side8 => exact (rR_ HO_471001.out).2.1); rintro e w102 ⟨rfl, hb⟩; have n0_ := aM_ (rB_ (by (with_reducible repeat (first | apply rA_ | apply rN_)); exact HO_9.out) hb); have n1_ := aM_ (rB_ (by (with_reducible repeat (first | apply rA_ | apply rN_)); exact HO_471000.out) hb); have n2_ := aM_ (rB_ (by (with_reducible repeat (first | apply rA_ | apply rN_)); exact HO_471001.out) hb); have n3_ := aM_ (rB_ (by (with_reducible repeat (first | apply rA_ | apply rN_)); exact HO_478000.out) hb); have n4_ := aM_ (rB_ (by (with_reducible repeat (first | apply rA_ | apply rN_)); exact HO_478001.out) hb); have n5_ := aM_ (rB_ (by (with_reducible repeat (first | apply rA_ | apply rN_)); exact HO_489000.out) hb); have n6_ := aM_ (rB_ (by (with_reducible repeat (first | apply rA_ | apply rN_)); exact HO_489001.out) hb); have n7_ := aM_ (rB_ (by (with_reducible repeat (first | apply rA_ | apply rN_)); exact HO492.out) hb); have n8_ := aM_ (rB_ (by (with_reducible repeat (first | apply rA_ | apply rN_)); exact HO495.out) hb); have n9_ := aM_ (rB_ (by (with_reducible repeat (first | apply rA_ | apply rN_)); exact HO499.out) hb); have n10_ := aM_ (kB_ (g := gb452) (o := .cells #[.slice A0_0 l0_0.length c0_0, .slice A0_1 l0_1.length c0_1] 32 (0, 0)) (by (with_reducible repeat (first | refine kN_ ?_ _ | refine kA_ ?_ _)); exact BK452.out) hb); have n11_ := aM_ (kB_ (g := gb470) (o := .cells #[.slice Ao28 t463.length co28, .slice Ao31 t466.length co31] 25 (0, 0)) (by (with_reducible repeat (first | refine kN_ ?_ _ | refine kA_ ?_ _)); exact BK470.out) hb); have n12_ := aM_ (kB_ (g := gb477) (o := .cells #[.slice Ao35 t471.length co35, .slice Ao39 t474.length co39] 25 (0, 0)) (by (with_reducible repeat (first | refine kN_ ?_ _ | refine kA_ ?_ _)); exact BK477.out) hb); have n13_ := aM_ (kB_ (g := gb488) (o := .cells #[.slice Ao45 t481.length co45, .slice Ao50 t484.length co50] 25 (0, 0)) (by (with_reducible repeat (first | refine kN_ ?_ _ | refine kA_ ?_ _)); exact BK488.out) hb); have n14_ := aM_ (bP_ (by repeat (with_reducible first | exact HB.out | apply bA_ | apply bN_ | refine bS_ ?_ GE452.out | refine bS_ ?_ GE470.out | refine bS_ ?_ GE477.out | refine bS_ ?_ GE488.out)) hb); clear HO_9; clear HO_471000; clear HO_471001; clear HO_478000; clear HO_478001; clear HO_489000; clear HO_489001; clear HO492; clear HO495; clear HO499; clear BK452; clear BK470; clear BK477; clear BK488; clear HB; have HO_9 := n0_; have HO_471000 := n1_; have HO_471001 := n2_; have HO_478000 := n3_; have HO_478001 := n4_; have HO_489000 := n5_; have HO_489001 := n6_; have HO492 := n7_; have HO495 := n8_; have HO499 := n9_; have BK452 := n10_; have BK470 := n11_; have BK477 := n12_; have BK488 := n13_; have HB := n14_; clear n0_ n1_ n2_ n3_ n4_ n5_ n6_ n7_ n8_ n9_ n10_ n11_ n12_ n13_ n14_; (try clear hb); (try clear hb2); (try clear hk); (try clear hi)))
           go_meet
           case rel => exact ⟨_, ((t487 != t469)), (by first | rfl | (simp [*]; done)), H', ⟨by have := HJ15.out; first | omega | exact Nat.le_refl _⟩, ⟨by (with_reducible repeat (first | apply rA_ | apply rN_)); exact rM_ HO_471000.out (fun _ hk => ⟨hk.1, hk.2.1⟩)⟩, ⟨by (with_reducible repeat (first | apply rA_ | apply rN_)); exact rM_ HO_471001.out (fun _ hk => ⟨hk.1, hk.2.1⟩)⟩, ⟨by (with_reducible repeat (first | apply rA_ | apply rN_)); exact rM_ HO_478000.out (fun _ hk => ⟨hk.1, hk.2.1⟩)⟩, ⟨by (with_reducible repeat (first | apply rA_ | apply rN_)); exact rM_ HO_478001.out (fun _ hk => ⟨hk.1, hk.2.1⟩)⟩, ⟨by (with_reducible repeat (first | apply rA_ | apply rN_)); exact rM_ HO_489000.out (fun _ hk => ⟨hk.1, hk.2.1⟩)⟩, ⟨by (with_reducible repeat (first | apply rA_ | apply rN_)); exact rM_ HO_489001.out (fun _ hk => ⟨hk.1, hk.2.1⟩)⟩, ⟨by (with_reducible repeat (first | refine kN_ ?_ _ | refine kA_ ?_ _)); exact BK452.out⟩, ⟨by (with_reducible repeat (first | refine kN_ ?_ _ | refine kA_ ?_ _)); exact BK470.out⟩, ⟨by (with_reducible repeat (first | refine kN_ ?_ _ | refine kA_ ?_ _)); exact BK477.out⟩, ⟨by (with_reducible repeat (first | refine kN_ ?_ _ | refine kA_ ?_ _)); exact BK488.out⟩, ⟨by repeat (with_reducible first | exact HB.out | apply bA_ | apply bN_ | refine bS_ ?_ GE452.out | refine bS_ ?_ GE470.out | refine bS_ ?_ GE477.out | refine bS_ ?_ GE488.out)⟩⟩
          ·replace c94 := Bool.eq_false_iff.mpr c94
           subst c94
           have H1 : (laws_FnExactCrashWith.j1 kj15 l1 t469 true l0_0 l0_1 t463 t466 t481 t484) = some r := by rw [if_neg (show ¬ (false = true) by decide)] at H; exact H
           clear H
           have H := H1
           clear H1
           have H' := aM_ H
           clear H
           have hnb103 := NB488_452.out
           have hnc103 := NB452_488.out
           have hnb104 := NB488_470.out
           have hnc104 := NB470_488.out
           have hnb105 := NB488_477.out
           have hnc105 := NB477_488.out
           have hcz106_0 : w91.cell? ⟨gb488, 0, none⟩ = some (.slice Ao45 t481.length co45) := (kC_ BK488.out 0).trans rfl
           have hcz106_1 : w91.cell? ⟨gb488, 1, none⟩ = some (.slice Ao50 t484.length co50) := (kC_ BK488.out 1).trans rfl
           have hfz106_0 := kZ_ BK488.out 0
           have hfz106_1 := kZ_ BK488.out 1
           have hnb107 := NB470_452.out
           have hnc107 := NB452_470.out
           have hnb108 := NB470_477.out
           have hnc108 := NB477_470.out
           have hcz109_0 : w91.cell? ⟨gb470, 0, none⟩ = some (.slice Ao28 t463.length co28) := (kC_ BK470.out 0).trans rfl
           have hcz109_1 : w91.cell? ⟨gb470, 1, none⟩ = some (.slice Ao31 t466.length co31) := (kC_ BK470.out 1).trans rfl
           have hfz109_0 := kZ_ BK470.out 0
           have hfz109_1 := kZ_ BK470.out 1
           go_wp2_with (first | (go_at_call 11; (with_reducible refine (laws_eqDevice.calls kj15 _ _ t481 _ _ t484 _ _ t463 _ _ t466 false _ ?side1 ?side2 ?side3 ?side4 ?side5 ?side6 ?side7 ?side8 A93.out).mono ?_); (case side1 => repeat (first | exact (rR_ HO_489000.out).2.2 | (with_reducible refine cA_ ?_ _) | (with_reducible refine cN_ ?_ _))); (case side2 => exact (rR_ HO_489000.out).2.1); (case side3 => repeat (first | exact (rR_ HO_489001.out).2.2 | (with_reducible refine cA_ ?_ _) | (with_reducible refine cN_ ?_ _))); (case side4 => exact (rR_ HO_489001.out).2.1); (case side5 => repeat (first | exact (rR_ HO_471000.out).2.2 | (with_reducible refine cA_ ?_ _) | (with_reducible refine cN_ ?_ _))); (case side6 => exact (rR_ HO_471000.out).2.1); (case side7 => repeat (first | exact (rR_ HO_471001.out).2.2 | (with_reducible refine cA_ ?_ _) | (with_reducible refine cN_ ?_ _))); (case side8 => exact (rR_ HO_471001.out).2.1); rintro e w110 ⟨rfl, hb⟩; have n0_ := aM_ (rB_ (by (with_reducible repeat (first | apply rA_ | apply rN_)); exact HO_9.out) hb); have n1_ := aM_ (rB_ (by (with_reducible repeat (first | apply rA_ | apply rN_)); exact HO_471000.out) hb); have n2_ := aM_ (rB_ (by (with_reducible repeat (first | apply rA_ | apply rN_)); exact HO_471001.out) hb); have n3_ := aM_ (rB_ (by (with_reducible repeat (first | apply rA_ | apply rN_)); exact HO_478000.out) hb); have n4_ := aM_ (rB_ (by (with_reducible repeat (first | apply rA_ | apply rN_)); exact HO_478001.out) hb); have n5_ := aM_ (rB_ (by (with_reducible repeat (first | apply rA_ | apply rN_)); exact HO_489000.out) hb); have n6_ := aM_ (rB_ (by (with_reducible repeat (first | apply rA_ | apply rN_)); exact HO_489001.out) hb); have n7_ := aM_ (rB_ (by (with_reducible repeat (first | apply rA_ | apply rN_)); exact HO492.out) hb); have n8_ := aM_ (rB_ (by (with_reducible repeat (first | apply rA_ | apply rN_)); exact HO495.out) hb); have n9_ := aM_ (rB_ (by (with_reducible repeat (first | apply rA_ | apply rN_)); exact HO499.out) hb); have n10_ := aM_ (kB_ (g := gb452) (o := .cells #[.slice A0_0 l0_0.length c0_0, .slice A0_1 l0_1.length c0_1] 32 (0, 0)) (by (with_reducible repeat (first | refine kN_ ?_ _ | refine kA_ ?_ _)); exact BK452.out) hb); have n11_ := aM_ (kB_ (g := gb470) (o := .cells #[.slice Ao28 t463.length co28, .slice Ao31 t466.length co31] 25 (0, 0)) (by (with_reducible repeat (first | refine kN_ ?_ _ | refine kA_ ?_ _)); exact BK470.out) hb); have n12_ := aM_ (kB_ (g := gb477) (o := .cells #[.slice Ao35 t471.length co35, .slice Ao39 t474.length co39] 25 (0, 0)) (by (with_reducible repeat (first | refine kN_ ?_ _ | refine kA_ ?_ _)); exact BK477.out) hb); have n13_ := aM_ (kB_ (g := gb488) (o := .cells #[.slice Ao45 t481.length co45, .slice Ao50 t484.length co50] 25 (0, 0)) (by (with_reducible repeat (first | refine kN_ ?_ _ | refine kA_ ?_ _)); exact BK488.out) hb); have n14_ := aM_ (bP_ (by repeat (with_reducible first | exact HB.out | apply bA_ | apply bN_ | refine bS_ ?_ GE452.out | refine bS_ ?_ GE470.out | refine bS_ ?_ GE477.out | refine bS_ ?_ GE488.out)) hb); clear HO_9; clear HO_471000; clear HO_471001; clear HO_478000; clear HO_478001; clear HO_489000; clear HO_489001; clear HO492; clear HO495; clear HO499; clear BK452; clear BK470; clear BK477; clear BK488; clear HB; have HO_9 := n0_; have HO_471000 := n1_; have HO_471001 := n2_; have HO_478000 := n3_; have HO_478001 := n4_; have HO_489000 := n5_; have HO_489001 := n6_; have HO492 := n7_; have HO495 := n8_; have HO499 := n9_; have BK452 := n10_; have BK470 := n11_; have BK477 := n12_; have BK488 := n13_; have HB := n14_; clear n0_ n1_ n2_ n3_ n4_ n5_ n6_ n7_ n8_ n9_ n10_ n11_ n12_ n13_ n14_; (try clear hb); (try clear hb2); (try clear hk); (try clear hi)))
           go_meet
           case rel => exact ⟨_, (true), (by first | rfl | (simp [*]; done)), H', ⟨by have := HJ15.out; first | omega | exact Nat.le_refl _⟩, ⟨by (with_reducible repeat (first | apply rA_ | apply rN_)); exact rM_ HO_471000.out (fun _ hk => ⟨hk.1, hk.2.1⟩)⟩, ⟨by (with_reducible repeat (first | apply rA_ | apply rN_)); exact rM_ HO_471001.out (fun _ hk => ⟨hk.1, hk.2.1⟩)⟩, ⟨by (with_reducible repeat (first | apply rA_ | apply rN_)); exact rM_ HO_478000.out (fun _ hk => ⟨hk.1, hk.2.1⟩)⟩, ⟨by (with_reducible repeat (first | apply rA_ | apply rN_)); exact rM_ HO_478001.out (fun _ hk => ⟨hk.1, hk.2.1⟩)⟩, ⟨by (with_reducible repeat (first | apply rA_ | apply rN_)); exact rM_ HO_489000.out (fun _ hk => ⟨hk.1, hk.2.1⟩)⟩, ⟨by (with_reducible repeat (first | apply rA_ | apply rN_)); exact rM_ HO_489001.out (fun _ hk => ⟨hk.1, hk.2.1⟩)⟩, ⟨by (with_reducible repeat (first | refine kN_ ?_ _ | refine kA_ ?_ _)); exact BK452.out⟩, ⟨by (with_reducible repeat (first | refine kN_ ?_ _ | refine kA_ ?_ _)); exact BK470.out⟩, ⟨by (with_reducible repeat (first | refine kN_ ?_ _ | refine kA_ ?_ _)); exact BK477.out⟩, ⟨by (with_reducible repeat (first | refine kN_ ?_ _ | refine kA_ ?_ _)); exact BK488.out⟩, ⟨by repeat (with_reducible first | exact HB.out | apply bA_ | apply bN_ | refine bS_ ?_ GE452.out | refine bS_ ?_ GE470.out | refine bS_ ?_ GE477.out | refine bS_ ?_ GE488.out)⟩⟩
        case rest =>
         clear HC78
         try clear c1
         try clear c2
         try clear p2
         try clear c3
         try clear c3b0
         try clear c3b1
         try clear c4
         try clear c5
         try clear c6
         try clear c6b0
         try clear c7
         try clear c8
         try clear c9
         try clear c10
         try clear c11
         try clear c12
         try clear c14
         try clear c16
         try clear c24
         try clear c25
         try clear c26
         try clear c27
         try clear c28
         try clear c29
         try clear c36
         try clear c37
         try clear c46
         try clear c47
         try clear c48
         try clear c52
         try clear c53
         try clear c54
         try clear c55
         try clear c57
         try clear c58
         try clear c61
         try clear c62
         try clear c63
         try clear c65
         try clear c66
         try clear c69
         try clear c72
         try clear c75
         try clear c86
         try clear c87
         try clear c88
         try clear c92
         try clear c92b0
         try clear c94
         try clear c95
         try clear c96
         try clear c97
         try clear c99
         try clear c100
         try clear c103
         try clear c104
         try clear c105
         try clear c107
         try clear c108
         try clear hcz101_0
         try clear hcz101_1
         try clear hcz106_0
         try clear hcz106_1
         try clear hcz109_0
         try clear hcz109_1
         try clear hcz18_0
         try clear hcz18_1
         try clear hcz20_0
         try clear hcz20_1
         try clear hcz30_0
         try clear hcz30_1
         try clear hcz32_0
         try clear hcz32_1
         try clear hcz38_0
         try clear hcz38_1
         try clear hcz41_0
         try clear hcz41_1
         try clear hcz49_0
         try clear hcz49_1
         try clear hcz56_0
         try clear hcz56_1
         try clear hcz59_0
         try clear hcz59_1
         try clear hcz64_0
         try clear hcz64_1
         try clear hcz67_0
         try clear hcz67_1
         try clear hcz89_0
         try clear hcz89_1
         try clear hcz8_0
         try clear hcz8_1
         try clear hcz98_0
         try clear hcz98_1
         try clear hfz101_0
         try clear hfz101_1
         try clear hfz106_0
         try clear hfz106_1
         try clear hfz109_0
         try clear hfz109_1
         try clear hfz18_0
         try clear hfz18_1
         try clear hfz20_0
         try clear hfz20_1
         try clear hfz30_0
         try clear hfz30_1
         try clear hfz32_0
         try clear hfz32_1
         try clear hfz38_0
         try clear hfz38_1
         try clear hfz41_0
         try clear hfz41_1
         try clear hfz49_0
         try clear hfz49_1
         try clear hfz56_0
         try clear hfz56_1
         try clear hfz59_0
         try clear hfz59_1
         try clear hfz64_0
         try clear hfz64_1
         try clear hfz67_0
         try clear hfz67_1
         try clear hfz89_0
         try clear hfz89_1
         try clear hfz8_0
         try clear hfz8_1
         try clear hfz98_0
         try clear hfz98_1
         try clear p2
         obtain ⟨kq, x80_77, rfl, HA, HJ77, HO_471000, HO_471001, HO_478000, HO_478001, HO_489000, HO_489001, BK452, BK470, BK477, BK488, HB⟩ := hcut
         have hl478000_77 := (rR_ HO_478000.out).1
         rw [hl478000_77] at HO_478000
         (try simp only [hl478000_77])
         (try simp only [hl478000_77] at BK452)
         (try simp only [hl478000_77] at BK470)
         (try simp only [hl478000_77] at BK477)
         (try simp only [hl478000_77] at BK488)
         (try simp only [hl478000_77] at HO_471000)
         (try simp only [hl478000_77] at HO_471001)
         (try simp only [hl478000_77] at HO_478001)
         (try simp only [hl478000_77] at HO_489000)
         (try simp only [hl478000_77] at HO_489001)
         have hl478001_77 := (rR_ HO_478001.out).1
         rw [hl478001_77] at HO_478001
         (try simp only [hl478001_77])
         (try simp only [hl478001_77] at BK452)
         (try simp only [hl478001_77] at BK470)
         (try simp only [hl478001_77] at BK477)
         (try simp only [hl478001_77] at BK488)
         (try simp only [hl478001_77] at HO_471000)
         (try simp only [hl478001_77] at HO_471001)
         (try simp only [hl478001_77] at HO_478000)
         (try simp only [hl478001_77] at HO_489000)
         (try simp only [hl478001_77] at HO_489001)
         cases kq with
         | zero => exact absurd HA.out (by simp [laws_FnExactCrashWith.j1])
         | succ kj77 =>
          have H := HA.out
          clear HA
          simp only [laws_FnExactCrashWith.j1] at H
          by_cases c111 : x80_77 = true
          ·subst c111
           have H1 : (some false) = some r := by rw [if_pos rfl] at H; exact H
           clear H
           have H := H1
           clear H1
           obtain rfl := Option.some.inj H
           go_wp2
           go_ret
           exact ⟨by first | rfl | (simp [errW_none, errW_some] <;> rfl) | (simp [*, errW_none, errW_some] <;> rfl), by repeat (with_reducible first | exact HB.out | apply bA_ | apply bN_ | refine bS_ ?_ GE452.out | refine bS_ ?_ GE470.out | refine bS_ ?_ GE477.out | refine bS_ ?_ GE488.out)⟩
          ·replace c111 := Bool.eq_false_iff.mpr c111
           subst c111
           have H1 : ((laws_markDevice.f kj77 t481 t484 1).bind fun bt507 => ((laws_heldDevice.f kj77 bt507.2.1 bt507.2.2 1).bind fun t510 => (if t510 < 0 then (some false) else (if t510 = bt507.1 then ((laws_toDevice.f kj77 l0_0 l0_1).bind fun bt511 => ((laws_toIntS.f kj77 l1).bind fun t517 => ((impl_CrashWith.f kj77 bt511.1 bt511.2 t517).bind fun bt520 => ((laws_eqDevice.f kj77 bt520.1 bt520.2.1 t463 t466).bind fun t528 => (if t528 = true then (laws_FnExactCrashWith.j2 kj77 bt507.1 (bt520.2.2 != t469) bt507.2.1 bt507.2.2) else (laws_FnExactCrashWith.j2 kj77 bt507.1 true bt507.2.1 bt507.2.2)))))) else (some false))))) = some r := by rw [if_neg (show ¬ (false = true) by decide)] at H; exact H
           clear H
           have H := H1
           clear H1
           replace H := Option.bind_eq_some_iff.mp H
           obtain ⟨⟨t507, t508, t509⟩, A1120, H⟩ := H
           replace H : ((laws_heldDevice.f kj77 t508 t509 1).bind fun t510 => (if t510 < 0 then (some false) else (if t510 = t507 then ((laws_toDevice.f kj77 l0_0 l0_1).bind fun bt511 => ((laws_toIntS.f kj77 l1).bind fun t517 => ((impl_CrashWith.f kj77 bt511.1 bt511.2 t517).bind fun bt520 => ((laws_eqDevice.f kj77 bt520.1 bt520.2.1 t463 t466).bind fun t528 => (if t528 = true then (laws_FnExactCrashWith.j2 kj77 t507 (bt520.2.2 != t469) t508 t509) else (laws_FnExactCrashWith.j2 kj77 t507 true t508 t509)))))) else (some false)))) = some r := H
           have A112 := aM_ A1120
           clear A1120
           replace H := Option.bind_eq_some_iff.mp H
           obtain ⟨t510, A1130, H⟩ := H
           replace H : (if t510 < 0 then (some false) else (if t510 = t507 then ((laws_toDevice.f kj77 l0_0 l0_1).bind fun bt511 => ((laws_toIntS.f kj77 l1).bind fun t517 => ((impl_CrashWith.f kj77 bt511.1 bt511.2 t517).bind fun bt520 => ((laws_eqDevice.f kj77 bt520.1 bt520.2.1 t463 t466).bind fun t528 => (if t528 = true then (laws_FnExactCrashWith.j2 kj77 t507 (bt520.2.2 != t469) t508 t509) else (laws_FnExactCrashWith.j2 kj77 t507 true t508 t509)))))) else (some false))) = some r := H
           have A113 := aM_ A1130
           clear A1130
           by_cases c114 : t510 < 0
           ·rw [if_pos c114] at H
            have c114b0 : decide (t510 < 0) = true := decide_eq_true c114
            clear c114
            obtain rfl := Option.some.inj H
            have hnb115 := NB488_452.out
            have hnc115 := NB452_488.out
            have hnb116 := NB488_470.out
            have hnc116 := NB470_488.out
            have hnb117 := NB488_477.out
            have hnc117 := NB477_488.out
            have hcz118_0 : wc.cell? ⟨gb488, 0, none⟩ = some (.slice Ao45 t481.length co45) := (kC_ BK488.out 0).trans rfl
            have hcz118_1 : wc.cell? ⟨gb488, 1, none⟩ = some (.slice Ao50 t484.length co50) := (kC_ BK488.out 1).trans rfl
            have hfz118_0 := kZ_ BK488.out 0
            have hfz118_1 := kZ_ BK488.out 1
            go_wp2_with (first | ((with_reducible refine gate_callee (f := 12) rfl ?_); refine goesL_ (some 83) rfl rfl Try.func12 (by kernel_rfl) rfl #[.agg #[.slice Ao45 t481.length co45, .slice Ao50 t484.length co50], .int .i64 1] rfl (by (try simp only [List.map_toArray, List.map_cons, List.map_nil]); first | done | rfl | (simp only [List.length_drop, List.length_take]; rfl)) ?_; (with_reducible refine (laws_markDevice.calls kj77 (fun k_ => some k_ = (.slice Ao45 t481.length co45 : Value).ownBlock) (.slice Ao45 t481.length co45) t481 (fun k_ => some k_ = (.slice Ao50 t484.length co50 : Value).ownBlock) (.slice Ao50 t484.length co50) t484 1 t507 t508 t509 w _ ?side1 ?side2 ?side3 A112.out).mono ?_); (case side1 => repeat (with_reducible first | exact HB.out | apply bA_ | apply bN_ | refine bS_ ?_ GE452.out | refine bS_ ?_ GE470.out | refine bS_ ?_ GE477.out | refine bS_ ?_ GE488.out)); (case side2 => exact Kd.R_tight rfl HO_489000.out); (case side3 => exact Kd.R_tight rfl HO_489001.out); rintro e w119 ⟨rfl, hy0, hy1, hb, hkp⟩; refine ⟨_, rfl, ?_⟩; have n0_ := aM_ (rM_ (ok' := fun k_ => some k_ ≠ (.slice Ao35 t502.length co35 : Value).ownBlock ∧ some k_ ≠ (.slice Ao45 t481.length co45 : Value).ownBlock) (Kd.R_keptB ((Kd.R_apart' HO_471000.out (Kd.R_typed HO_489001.out) (by decide))) hkp (fun k_ hk_ hs_ => Or.elim hs_ (fun e_ => (hk_.1.2) e_) (fun e_ => (hk_.2) e_))) (fun k_ hk_ => ⟨hk_.1.1.1, hk_.1.1.2⟩)); have n1_ := aM_ (rM_ (ok' := fun k_ => some k_ ≠ (.slice Ao39 t503.length co39 : Value).ownBlock ∧ some k_ ≠ (.slice Ao50 t484.length co50 : Value).ownBlock) (Kd.R_keptB ((Kd.R_apart' HO_471001.out (Kd.R_typed HO_489000.out) (by decide))) hkp (fun k_ hk_ hs_ => Or.elim hs_ (fun e_ => (hk_.2) e_) (fun e_ => (hk_.1.2) e_))) (fun k_ hk_ => ⟨hk_.1.1.1, hk_.1.1.2⟩)); have n2_ := aM_ (rM_ (ok' := fun k_ => some k_ ≠ (.slice Ao28 t463.length co28 : Value).ownBlock ∧ some k_ ≠ (.slice Ao45 t481.length co45 : Value).ownBlock) (Kd.R_keptB ((Kd.R_apart' HO_478000.out (Kd.R_typed HO_489001.out) (by decide))) hkp (fun k_ hk_ hs_ => Or.elim hs_ (fun e_ => (hk_.1.2) e_) (fun e_ => (hk_.2) e_))) (fun k_ hk_ => ⟨hk_.1.1.1, hk_.1.1.2⟩)); have n3_ := aM_ (rM_ (ok' := fun k_ => some k_ ≠ (.slice Ao31 t466.length co31 : Value).ownBlock ∧ some k_ ≠ (.slice Ao50 t484.length co50 : Value).ownBlock) (Kd.R_keptB ((Kd.R_apart' HO_478001.out (Kd.R_typed HO_489000.out) (by decide))) hkp (fun k_ hk_ hs_ => Or.elim hs_ (fun e_ => (hk_.2) e_) (fun e_ => (hk_.1.2) e_))) (fun k_ hk_ => ⟨hk_.1.1.1, hk_.1.1.2⟩)); have n4_ := aM_ (Kd.R_reok rfl hy0 (fun k_ e_ => HO_489000.out.1 k_ e_)); have n5_ := aM_ (Kd.R_reok rfl hy1 (fun k_ e_ => HO_489001.out.1 k_ e_)); have n6_ := aM_ (kK_ (by (with_reducible repeat (first | refine kN_ ?_ _ | refine kA_ ?_ _)); exact BK452.out) hkp (fun hs_ => Or.elim hs_ (fun e_ => (fun e_ => (rQ_ HO_489000.out BK452.out (by decide)) e_) e_) (fun e_ => (fun e_ => (rQ_ HO_489001.out BK452.out (by decide)) e_) e_))); have n7_ := aM_ (kK_ (by (with_reducible repeat (first | refine kN_ ?_ _ | refine kA_ ?_ _)); exact BK470.out) hkp (fun hs_ => Or.elim hs_ (fun e_ => (fun e_ => (rQ_ HO_489000.out BK470.out (by decide)) e_) e_) (fun e_ => (fun e_ => (rQ_ HO_489001.out BK470.out (by decide)) e_) e_))); have n8_ := aM_ (kK_ (by (with_reducible repeat (first | refine kN_ ?_ _ | refine kA_ ?_ _)); exact BK477.out) hkp (fun hs_ => Or.elim hs_ (fun e_ => (fun e_ => (rQ_ HO_489000.out BK477.out (by decide)) e_) e_) (fun e_ => (fun e_ => (rQ_ HO_489001.out BK477.out (by decide)) e_) e_))); have n9_ := aM_ (kK_ (by (with_reducible repeat (first | refine kN_ ?_ _ | refine kA_ ?_ _)); exact BK488.out) hkp (fun hs_ => Or.elim hs_ (fun e_ => (fun e_ => (rQ_ HO_489000.out BK488.out (by decide)) e_) e_) (fun e_ => (fun e_ => (rQ_ HO_489001.out BK488.out (by decide)) e_) e_))); have n10_ := aM_ (hb); clear HO_471000; clear HO_471001; clear HO_478000; clear HO_478001; clear HO_489000; clear HO_489001; clear BK452; clear BK470; clear BK477; clear BK488; clear HB; have HO_471000 := n0_; have HO_471001 := n1_; have HO_478000 := n2_; have HO_478001 := n3_; have HO_489000 := n4_; have HO_489001 := n5_; have BK452 := n6_; have BK470 := n7_; have BK477 := n8_; have BK488 := n9_; have HB := n10_; clear n0_ n1_ n2_ n3_ n4_ n5_ n6_ n7_ n8_ n9_ n10_; (try clear hb); (try clear hkp); (try clear hy0); (try clear hy1); have hcz120_0 : w119.cell? ⟨gb488, 0, none⟩ = some (.slice Ao45 t481.length co45) := (kC_ BK488.out 0).trans rfl; have hcz120_1 : w119.cell? ⟨gb488, 1, none⟩ = some (.slice Ao50 t484.length co50) := (kC_ BK488.out 1).trans rfl; have hfz120_0 := kZ_ BK488.out 0; have hfz120_1 := kZ_ BK488.out 1) | ((with_reducible refine gate_callee (f := 13) rfl ?_); refine goesL_ (some 86) rfl rfl Try.func13 (by kernel_rfl) rfl #[.agg #[.slice Ao45 t508.length co45, .slice Ao50 t509.length co50], .int .i64 1] rfl (by (try simp only [List.map_toArray, List.map_cons, List.map_nil]); first | done | (rw [show t508.length = t481.length from (rR_ HO_489000.out).1.symm, show t509.length = t484.length from (rR_ HO_489001.out).1.symm] <;> rfl) | rfl | (simp only [List.length_drop, List.length_take]; rfl)) ?_; (with_reducible refine (laws_heldDevice.calls kj77 _ _ t508 _ _ t509 1 t510 _ ?side1 ?side2 ?side3 ?side4 A113.out).mono ?_); (case side1 => repeat (first | exact (rR_ HO_489000.out).2.2 | (with_reducible refine cA_ ?_ _) | (with_reducible refine cN_ ?_ _))); (case side2 => rw [show t508.length = t481.length from (rR_ HO_489000.out).1.symm]; exact (rR_ HO_489000.out).2.1); (case side3 => repeat (first | exact (rR_ HO_489001.out).2.2 | (with_reducible refine cA_ ?_ _) | (with_reducible refine cN_ ?_ _))); (case side4 => rw [show t509.length = t484.length from (rR_ HO_489001.out).1.symm]; exact (rR_ HO_489001.out).2.1); rintro e w121 ⟨rfl, hb⟩; refine ⟨_, rfl, ?_⟩; have n0_ := aM_ (rB_ (by (with_reducible repeat (first | apply rA_ | apply rN_)); exact HO_471000.out) hb); have n1_ := aM_ (rB_ (by (with_reducible repeat (first | apply rA_ | apply rN_)); exact HO_471001.out) hb); have n2_ := aM_ (rB_ (by (with_reducible repeat (first | apply rA_ | apply rN_)); exact HO_478000.out) hb); have n3_ := aM_ (rB_ (by (with_reducible repeat (first | apply rA_ | apply rN_)); exact HO_478001.out) hb); have n4_ := aM_ (rB_ (by (with_reducible repeat (first | apply rA_ | apply rN_)); exact HO_489000.out) hb); have n5_ := aM_ (rB_ (by (with_reducible repeat (first | apply rA_ | apply rN_)); exact HO_489001.out) hb); have n6_ := aM_ (kB_ (g := gb452) (o := .cells #[.slice A0_0 l0_0.length c0_0, .slice A0_1 l0_1.length c0_1] 32 (0, 0)) (by (with_reducible repeat (first | refine kN_ ?_ _ | refine kA_ ?_ _)); exact BK452.out) hb); have n7_ := aM_ (kB_ (g := gb470) (o := .cells #[.slice Ao28 t463.length co28, .slice Ao31 t466.length co31] 25 (0, 0)) (by (with_reducible repeat (first | refine kN_ ?_ _ | refine kA_ ?_ _)); exact BK470.out) hb); have n8_ := aM_ (kB_ (g := gb477) (o := .cells #[.slice Ao35 t502.length co35, .slice Ao39 t503.length co39] 25 (0, 0)) (by (with_reducible repeat (first | refine kN_ ?_ _ | refine kA_ ?_ _)); exact BK477.out) hb); have n9_ := aM_ (kB_ (g := gb488) (o := .cells #[.slice Ao45 t481.length co45, .slice Ao50 t484.length co50] 25 (0, 0)) (by (with_reducible repeat (first | refine kN_ ?_ _ | refine kA_ ?_ _)); exact BK488.out) hb); have n10_ := aM_ (bP_ (by repeat (with_reducible first | exact HB.out | apply bA_ | apply bN_ | refine bS_ ?_ GE452.out | refine bS_ ?_ GE470.out | refine bS_ ?_ GE477.out | refine bS_ ?_ GE488.out)) hb); clear HO_471000; clear HO_471001; clear HO_478000; clear HO_478001; clear HO_489000; clear HO_489001; clear BK452; clear BK470; clear BK477; clear BK488; clear HB; have HO_471000 := n0_; have HO_471001 := n1_; have HO_478000 := n2_; have HO_478001 := n3_; have HO_489000 := n4_; have HO_489001 := n5_; have BK452 := n6_; have BK470 := n7_; have BK477 := n8_; have BK488 := n9_; have HB := n10_; clear n0_ n1_ n2_ n3_ n4_ n5_ n6_ n7_ n8_ n9_ n10_; (try clear hb); (try clear hb2); (try clear hk); (try clear hi)))
            go_ret
            exact ⟨by first | rfl | (simp [errW_none, errW_some] <;> rfl) | (simp [*, errW_none, errW_some] <;> rfl), by repeat (with_reducible first | exact HB.out | apply bA_ | apply bN_ | refine bS_ ?_ GE452.out | refine bS_ ?_ GE470.out | refine bS_ ?_ GE477.out | refine bS_ ?_ GE488.out)⟩
           ·rw [if_neg c114] at H
            have c114b0 : decide (t510 < 0) = false := decide_eq_false c114
            clear c114
            by_cases c122 : t510 = t507
            ·rw [if_pos c122] at H
             have c122b0 : (t510 == t507) = true := beq_iff_eq.mpr c122
             have c122b1 : (t510 != t507) = false := bne_eq_false_iff_eq.mpr c122
             clear c122
             replace H := Option.bind_eq_some_iff.mp H
             obtain ⟨⟨t511, t514⟩, A1230, H⟩ := H
             replace H : ((laws_toIntS.f kj77 l1).bind fun t517 => ((impl_CrashWith.f kj77 t511 t514 t517).bind fun bt520 => ((laws_eqDevice.f kj77 bt520.1 bt520.2.1 t463 t466).bind fun t528 => (if t528 = true then (laws_FnExactCrashWith.j2 kj77 t507 (bt520.2.2 != t469) t508 t509) else (laws_FnExactCrashWith.j2 kj77 t507 true t508 t509))))) = some r := H
             have A123 := aM_ A1230
             clear A1230
             replace H := Option.bind_eq_some_iff.mp H
             obtain ⟨t517, A1240, H⟩ := H
             replace H : ((impl_CrashWith.f kj77 t511 t514 t517).bind fun bt520 => ((laws_eqDevice.f kj77 bt520.1 bt520.2.1 t463 t466).bind fun t528 => (if t528 = true then (laws_FnExactCrashWith.j2 kj77 t507 (bt520.2.2 != t469) t508 t509) else (laws_FnExactCrashWith.j2 kj77 t507 true t508 t509)))) = some r := H
             have A124 := aM_ A1240
             clear A1240
             replace H := Option.bind_eq_some_iff.mp H
             obtain ⟨⟨t520, t523, t526⟩, A1250, H⟩ := H
             replace H : ((laws_eqDevice.f kj77 t520 t523 t463 t466).bind fun t528 => (if t528 = true then (laws_FnExactCrashWith.j2 kj77 t507 (t526 != t469) t508 t509) else (laws_FnExactCrashWith.j2 kj77 t507 true t508 t509))) = some r := H
             have A125 := aM_ A1250
             clear A1250
             have HC126 := aM_ H
             clear H
             have hnb127 := NB488_452.out
             have hnc127 := NB452_488.out
             have hnb128 := NB488_470.out
             have hnc128 := NB470_488.out
             have hnb129 := NB488_477.out
             have hnc129 := NB477_488.out
             have hcz130_0 : wc.cell? ⟨gb488, 0, none⟩ = some (.slice Ao45 t481.length co45) := (kC_ BK488.out 0).trans rfl
             have hcz130_1 : wc.cell? ⟨gb488, 1, none⟩ = some (.slice Ao50 t484.length co50) := (kC_ BK488.out 1).trans rfl
             have hfz130_0 := kZ_ BK488.out 0
             have hfz130_1 := kZ_ BK488.out 1
             go_upto_region 31 with (first | ((with_reducible refine gate_callee (f := 12) rfl ?_); refine goesL_ (some 83) rfl rfl Try.func12 (by kernel_rfl) rfl #[.agg #[.slice Ao45 t481.length co45, .slice Ao50 t484.length co50], .int .i64 1] rfl (by (try simp only [List.map_toArray, List.map_cons, List.map_nil]); first | done | rfl | (simp only [List.length_drop, List.length_take]; rfl)) ?_; (with_reducible refine (laws_markDevice.calls kj77 (fun k_ => some k_ = (.slice Ao45 t481.length co45 : Value).ownBlock) (.slice Ao45 t481.length co45) t481 (fun k_ => some k_ = (.slice Ao50 t484.length co50 : Value).ownBlock) (.slice Ao50 t484.length co50) t484 1 t507 t508 t509 w _ ?side1 ?side2 ?side3 A112.out).mono ?_); (case side1 => repeat (with_reducible first | exact HB.out | apply bA_ | apply bN_ | refine bS_ ?_ GE452.out | refine bS_ ?_ GE470.out | refine bS_ ?_ GE477.out | refine bS_ ?_ GE488.out)); (case side2 => exact Kd.R_tight rfl HO_489000.out); (case side3 => exact Kd.R_tight rfl HO_489001.out); rintro e w131 ⟨rfl, hy0, hy1, hb, hkp⟩; refine ⟨_, rfl, ?_⟩; have n0_ := aM_ (rM_ (ok' := fun k_ => some k_ ≠ (.slice Ao35 t502.length co35 : Value).ownBlock ∧ some k_ ≠ (.slice Ao45 t481.length co45 : Value).ownBlock) (Kd.R_keptB ((Kd.R_apart' HO_471000.out (Kd.R_typed HO_489001.out) (by decide))) hkp (fun k_ hk_ hs_ => Or.elim hs_ (fun e_ => (hk_.1.2) e_) (fun e_ => (hk_.2) e_))) (fun k_ hk_ => ⟨hk_.1.1.1, hk_.1.1.2⟩)); have n1_ := aM_ (rM_ (ok' := fun k_ => some k_ ≠ (.slice Ao39 t503.length co39 : Value).ownBlock ∧ some k_ ≠ (.slice Ao50 t484.length co50 : Value).ownBlock) (Kd.R_keptB ((Kd.R_apart' HO_471001.out (Kd.R_typed HO_489000.out) (by decide))) hkp (fun k_ hk_ hs_ => Or.elim hs_ (fun e_ => (hk_.2) e_) (fun e_ => (hk_.1.2) e_))) (fun k_ hk_ => ⟨hk_.1.1.1, hk_.1.1.2⟩)); have n2_ := aM_ (rM_ (ok' := fun k_ => some k_ ≠ (.slice Ao28 t463.length co28 : Value).ownBlock ∧ some k_ ≠ (.slice Ao45 t481.length co45 : Value).ownBlock) (Kd.R_keptB ((Kd.R_apart' HO_478000.out (Kd.R_typed HO_489001.out) (by decide))) hkp (fun k_ hk_ hs_ => Or.elim hs_ (fun e_ => (hk_.1.2) e_) (fun e_ => (hk_.2) e_))) (fun k_ hk_ => ⟨hk_.1.1.1, hk_.1.1.2⟩)); have n3_ := aM_ (rM_ (ok' := fun k_ => some k_ ≠ (.slice Ao31 t466.length co31 : Value).ownBlock ∧ some k_ ≠ (.slice Ao50 t484.length co50 : Value).ownBlock) (Kd.R_keptB ((Kd.R_apart' HO_478001.out (Kd.R_typed HO_489000.out) (by decide))) hkp (fun k_ hk_ hs_ => Or.elim hs_ (fun e_ => (hk_.2) e_) (fun e_ => (hk_.1.2) e_))) (fun k_ hk_ => ⟨hk_.1.1.1, hk_.1.1.2⟩)); have n4_ := aM_ (Kd.R_reok rfl hy0 (fun k_ e_ => HO_489000.out.1 k_ e_)); have n5_ := aM_ (Kd.R_reok rfl hy1 (fun k_ e_ => HO_489001.out.1 k_ e_)); have n6_ := aM_ (kK_ (by (with_reducible repeat (first | refine kN_ ?_ _ | refine kA_ ?_ _)); exact BK452.out) hkp (fun hs_ => Or.elim hs_ (fun e_ => (fun e_ => (rQ_ HO_489000.out BK452.out (by decide)) e_) e_) (fun e_ => (fun e_ => (rQ_ HO_489001.out BK452.out (by decide)) e_) e_))); have n7_ := aM_ (kK_ (by (with_reducible repeat (first | refine kN_ ?_ _ | refine kA_ ?_ _)); exact BK470.out) hkp (fun hs_ => Or.elim hs_ (fun e_ => (fun e_ => (rQ_ HO_489000.out BK470.out (by decide)) e_) e_) (fun e_ => (fun e_ => (rQ_ HO_489001.out BK470.out (by decide)) e_) e_))); have n8_ := aM_ (kK_ (by (with_reducible repeat (first | refine kN_ ?_ _ | refine kA_ ?_ _)); exact BK477.out) hkp (fun hs_ => Or.elim hs_ (fun e_ => (fun e_ => (rQ_ HO_489000.out BK477.out (by decide)) e_) e_) (fun e_ => (fun e_ => (rQ_ HO_489001.out BK477.out (by decide)) e_) e_))); have n9_ := aM_ (kK_ (by (with_reducible repeat (first | refine kN_ ?_ _ | refine kA_ ?_ _)); exact BK488.out) hkp (fun hs_ => Or.elim hs_ (fun e_ => (fun e_ => (rQ_ HO_489000.out BK488.out (by decide)) e_) e_) (fun e_ => (fun e_ => (rQ_ HO_489001.out BK488.out (by decide)) e_) e_))); have n10_ := aM_ (hb); clear HO_471000; clear HO_471001; clear HO_478000; clear HO_478001; clear HO_489000; clear HO_489001; clear BK452; clear BK470; clear BK477; clear BK488; clear HB; have HO_471000 := n0_; have HO_471001 := n1_; have HO_478000 := n2_; have HO_478001 := n3_; have HO_489000 := n4_; have HO_489001 := n5_; have BK452 := n6_; have BK470 := n7_; have BK477 := n8_; have BK488 := n9_; have HB := n10_; clear n0_ n1_ n2_ n3_ n4_ n5_ n6_ n7_ n8_ n9_ n10_; (try clear hb); (try clear hkp); (try clear hy0); (try clear hy1); have hcz132_0 : w131.cell? ⟨gb488, 0, none⟩ = some (.slice Ao45 t481.length co45) := (kC_ BK488.out 0).trans rfl; have hcz132_1 : w131.cell? ⟨gb488, 1, none⟩ = some (.slice Ao50 t484.length co50) := (kC_ BK488.out 1).trans rfl; have hfz132_0 := kZ_ BK488.out 0; have hfz132_1 := kZ_ BK488.out 1) | ((with_reducible refine gate_callee (f := 13) rfl ?_); refine goesL_ (some 86) rfl rfl Try.func13 (by kernel_rfl) rfl #[.agg #[.slice Ao45 t508.length co45, .slice Ao50 t509.length co50], .int .i64 1] rfl (by (try simp only [List.map_toArray, List.map_cons, List.map_nil]); first | done | (rw [show t508.length = t481.length from (rR_ HO_489000.out).1.symm, show t509.length = t484.length from (rR_ HO_489001.out).1.symm] <;> rfl) | rfl | (simp only [List.length_drop, List.length_take]; rfl)) ?_; (with_reducible refine (laws_heldDevice.calls kj77 _ _ t508 _ _ t509 1 t510 _ ?side1 ?side2 ?side3 ?side4 A113.out).mono ?_); (case side1 => repeat (first | exact (rR_ HO_489000.out).2.2 | (with_reducible refine cA_ ?_ _) | (with_reducible refine cN_ ?_ _))); (case side2 => rw [show t508.length = t481.length from (rR_ HO_489000.out).1.symm]; exact (rR_ HO_489000.out).2.1); (case side3 => repeat (first | exact (rR_ HO_489001.out).2.2 | (with_reducible refine cA_ ?_ _) | (with_reducible refine cN_ ?_ _))); (case side4 => rw [show t509.length = t484.length from (rR_ HO_489001.out).1.symm]; exact (rR_ HO_489001.out).2.1); rintro e w133 ⟨rfl, hb⟩; refine ⟨_, rfl, ?_⟩; have n0_ := aM_ (rB_ (by (with_reducible repeat (first | apply rA_ | apply rN_)); exact HO_471000.out) hb); have n1_ := aM_ (rB_ (by (with_reducible repeat (first | apply rA_ | apply rN_)); exact HO_471001.out) hb); have n2_ := aM_ (rB_ (by (with_reducible repeat (first | apply rA_ | apply rN_)); exact HO_478000.out) hb); have n3_ := aM_ (rB_ (by (with_reducible repeat (first | apply rA_ | apply rN_)); exact HO_478001.out) hb); have n4_ := aM_ (rB_ (by (with_reducible repeat (first | apply rA_ | apply rN_)); exact HO_489000.out) hb); have n5_ := aM_ (rB_ (by (with_reducible repeat (first | apply rA_ | apply rN_)); exact HO_489001.out) hb); have n6_ := aM_ (kB_ (g := gb452) (o := .cells #[.slice A0_0 l0_0.length c0_0, .slice A0_1 l0_1.length c0_1] 32 (0, 0)) (by (with_reducible repeat (first | refine kN_ ?_ _ | refine kA_ ?_ _)); exact BK452.out) hb); have n7_ := aM_ (kB_ (g := gb470) (o := .cells #[.slice Ao28 t463.length co28, .slice Ao31 t466.length co31] 25 (0, 0)) (by (with_reducible repeat (first | refine kN_ ?_ _ | refine kA_ ?_ _)); exact BK470.out) hb); have n8_ := aM_ (kB_ (g := gb477) (o := .cells #[.slice Ao35 t502.length co35, .slice Ao39 t503.length co39] 25 (0, 0)) (by (with_reducible repeat (first | refine kN_ ?_ _ | refine kA_ ?_ _)); exact BK477.out) hb); have n9_ := aM_ (kB_ (g := gb488) (o := .cells #[.slice Ao45 t481.length co45, .slice Ao50 t484.length co50] 25 (0, 0)) (by (with_reducible repeat (first | refine kN_ ?_ _ | refine kA_ ?_ _)); exact BK488.out) hb); have n10_ := aM_ (bP_ (by repeat (with_reducible first | exact HB.out | apply bA_ | apply bN_ | refine bS_ ?_ GE452.out | refine bS_ ?_ GE470.out | refine bS_ ?_ GE477.out | refine bS_ ?_ GE488.out)) hb); clear HO_471000; clear HO_471001; clear HO_478000; clear HO_478001; clear HO_489000; clear HO_489001; clear BK452; clear BK470; clear BK477; clear BK488; clear HB; have HO_471000 := n0_; have HO_471001 := n1_; have HO_478000 := n2_; have HO_478001 := n3_; have HO_489000 := n4_; have HO_489001 := n5_; have BK452 := n6_; have BK470 := n7_; have BK477 := n8_; have BK488 := n9_; have HB := n10_; clear n0_ n1_ n2_ n3_ n4_ n5_ n6_ n7_ n8_ n9_ n10_; (try clear hb); (try clear hb2); (try clear hk); (try clear hi); have hnb134 := NB452_470.out; have hnc134 := NB470_452.out; have hnb135 := NB452_477.out; have hnc135 := NB477_452.out; have hcz136_0 : w133.cell? ⟨gb452, 0, none⟩ = some (.slice A0_0 l0_0.length c0_0) := (kC_ BK452.out 0).trans rfl; have hcz136_1 : w133.cell? ⟨gb452, 1, none⟩ = some (.slice A0_1 l0_1.length c0_1) := (kC_ BK452.out 1).trans rfl; have hfz136_0 := kZ_ BK452.out 0; have hfz136_1 := kZ_ BK452.out 1) | ((with_reducible refine gate_callee (f := 16) rfl ?_); refine goesL_ (some 94) rfl rfl Try.func16 (by kernel_rfl) rfl #[.agg #[.slice A0_0 l0_0.length c0_0, .slice A0_1 l0_1.length c0_1]] rfl (by (try simp only [List.map_toArray, List.map_cons, List.map_nil]); first | done | rfl | (simp only [List.length_drop, List.length_take]; rfl)) ?_; (with_reducible refine (laws_toDevice.calls kj77 _ _ l0_0 _ _ l0_1 t511 t514 _ ?side1 ?side2 ?side3 ?side4 A123.out).mono ?_); (case side1 => repeat (first | exact (cB_ HR0_0.out HB.out) | (with_reducible refine cA_ ?_ _) | (with_reducible refine cN_ ?_ _))); (case side2 => exact HC0_0.out); (case side3 => repeat (first | exact (cB_ HR0_1.out HB.out) | (with_reducible refine cA_ ?_ _) | (with_reducible refine cN_ ?_ _))); (case side4 => exact HC0_1.out); rintro e w137 ⟨v512, v515, rfl, ho0, ho1, hb⟩; refine ⟨_, rfl, ?_⟩; have n0_ := aM_ (rE_ (by (with_reducible repeat (first | apply rA_ | apply rN_)); exact HO_471000.out) (rS_ ho0) hb); have n1_ := aM_ (rE_ (by (with_reducible repeat (first | apply rA_ | apply rN_)); exact HO_471001.out) (rS_ ho1) hb); have n2_ := aM_ (rE_ (by (with_reducible repeat (first | apply rA_ | apply rN_)); exact HO_478000.out) (rS_ ho0) hb); have n3_ := aM_ (rE_ (by (with_reducible repeat (first | apply rA_ | apply rN_)); exact HO_478001.out) (rS_ ho1) hb); have n4_ := aM_ (rE_ (by (with_reducible repeat (first | apply rA_ | apply rN_)); exact HO_489000.out) (rS_ ho0) hb); have n5_ := aM_ (rE_ (by (with_reducible repeat (first | apply rA_ | apply rN_)); exact HO_489001.out) (rS_ ho1) hb); have n6_ := aM_ (rO_ (rW_ (rW_ (rW_ ho0 (rL_ (by (with_reducible repeat (first | apply rA_ | apply rN_)); exact HO_471000.out))) (rL_ (by (with_reducible repeat (first | apply rA_ | apply rN_)); exact HO_478000.out))) (rL_ (by (with_reducible repeat (first | apply rA_ | apply rN_)); exact HO_489000.out))) (bZ_ (by repeat (with_reducible first | exact HB.out | apply bA_ | apply bN_ | refine bS_ ?_ GE452.out | refine bS_ ?_ GE470.out | refine bS_ ?_ GE477.out | refine bS_ ?_ GE488.out)))); have n7_ := aM_ (rO_ (rW_ (rW_ (rW_ ho1 (rL_ (by (with_reducible repeat (first | apply rA_ | apply rN_)); exact HO_471001.out))) (rL_ (by (with_reducible repeat (first | apply rA_ | apply rN_)); exact HO_478001.out))) (rL_ (by (with_reducible repeat (first | apply rA_ | apply rN_)); exact HO_489001.out))) (bZ_ (by repeat (with_reducible first | exact HB.out | apply bA_ | apply bN_ | refine bS_ ?_ GE452.out | refine bS_ ?_ GE470.out | refine bS_ ?_ GE477.out | refine bS_ ?_ GE488.out)))); have n8_ := aM_ (kB_ (g := gb452) (o := .cells #[.slice A0_0 l0_0.length c0_0, .slice A0_1 l0_1.length c0_1] 32 (0, 0)) (by (with_reducible repeat (first | refine kN_ ?_ _ | refine kA_ ?_ _)); exact BK452.out) hb); have n9_ := aM_ (kB_ (g := gb470) (o := .cells #[.slice Ao28 t463.length co28, .slice Ao31 t466.length co31] 25 (0, 0)) (by (with_reducible repeat (first | refine kN_ ?_ _ | refine kA_ ?_ _)); exact BK470.out) hb); have n10_ := aM_ (kB_ (g := gb477) (o := .cells #[.slice Ao35 t502.length co35, .slice Ao39 t503.length co39] 25 (0, 0)) (by (with_reducible repeat (first | refine kN_ ?_ _ | refine kA_ ?_ _)); exact BK477.out) hb); have n11_ := aM_ (kB_ (g := gb488) (o := .cells #[.slice Ao45 t481.length co45, .slice Ao50 t484.length co50] 25 (0, 0)) (by (with_reducible repeat (first | refine kN_ ?_ _ | refine kA_ ?_ _)); exact BK488.out) hb); have n12_ := aM_ (bP_ (by repeat (with_reducible first | exact HB.out | apply bA_ | apply bN_ | refine bS_ ?_ GE452.out | refine bS_ ?_ GE470.out | refine bS_ ?_ GE477.out | refine bS_ ?_ GE488.out)) hb); clear HO_471000; clear HO_471001; clear HO_478000; clear HO_478001; clear HO_489000; clear HO_489001; clear BK452; clear BK470; clear BK477; clear BK488; clear HB; have HO_471000 := n0_; have HO_471001 := n1_; have HO_478000 := n2_; have HO_478001 := n3_; have HO_489000 := n4_; have HO_489001 := n5_; have HO513 := n6_; have HO516 := n7_; have BK452 := n8_; have BK470 := n9_; have BK477 := n10_; have BK488 := n11_; have HB := n12_; clear n0_ n1_ n2_ n3_ n4_ n5_ n6_ n7_ n8_ n9_ n10_ n11_ n12_; (try clear hb); (try clear hb2); (try clear hk); (try clear hi); (try clear ho0); (try clear ho1)) | ((with_reducible refine gate_callee (f := 25) rfl ?_); refine goesL_ (some 96) rfl rfl Try.func25 (by kernel_rfl) rfl #[.slice A1 l1.length c1] rfl (by (try simp only [List.map_toArray, List.map_cons, List.map_nil]); first | done | rfl | (simp only [List.length_drop, List.length_take]; rfl)) ?_; (with_reducible refine (laws_toIntS.calls kj77 _ _ l1 t517 _ ?side1 ?side2 A124.out).mono ?_); (case side1 => repeat (first | exact (cB_ HR1.out HB.out) | (with_reducible refine cA_ ?_ _) | (with_reducible refine cN_ ?_ _))); (case side2 => exact HC1.out); rintro e w138 ⟨v518, rfl, ho0, hb⟩; refine ⟨_, rfl, ?_⟩; have n0_ := aM_ (rB_ (by (with_reducible repeat (first | apply rA_ | apply rN_)); exact HO_471000.out) hb); have n1_ := aM_ (rB_ (by (with_reducible repeat (first | apply rA_ | apply rN_)); exact HO_471001.out) hb); have n2_ := aM_ (rB_ (by (with_reducible repeat (first | apply rA_ | apply rN_)); exact HO_478000.out) hb); have n3_ := aM_ (rB_ (by (with_reducible repeat (first | apply rA_ | apply rN_)); exact HO_478001.out) hb); have n4_ := aM_ (rB_ (by (with_reducible repeat (first | apply rA_ | apply rN_)); exact HO_489000.out) hb); have n5_ := aM_ (rB_ (by (with_reducible repeat (first | apply rA_ | apply rN_)); exact HO_489001.out) hb); have n6_ := aM_ (rB_ (by (with_reducible repeat (first | apply rA_ | apply rN_)); exact HO513.out) hb); have n7_ := aM_ (rB_ (by (with_reducible repeat (first | apply rA_ | apply rN_)); exact HO516.out) hb); have n8_ := aM_ (rO_ ho0 (bZ_ (by repeat (with_reducible first | exact HB.out | apply bA_ | apply bN_ | refine bS_ ?_ GE452.out | refine bS_ ?_ GE470.out | refine bS_ ?_ GE477.out | refine bS_ ?_ GE488.out)))); have n9_ := aM_ (kB_ (g := gb452) (o := .cells #[.slice A0_0 l0_0.length c0_0, .slice A0_1 l0_1.length c0_1] 32 (0, 0)) (by (with_reducible repeat (first | refine kN_ ?_ _ | refine kA_ ?_ _)); exact BK452.out) hb); have n10_ := aM_ (kB_ (g := gb470) (o := .cells #[.slice Ao28 t463.length co28, .slice Ao31 t466.length co31] 25 (0, 0)) (by (with_reducible repeat (first | refine kN_ ?_ _ | refine kA_ ?_ _)); exact BK470.out) hb); have n11_ := aM_ (kB_ (g := gb477) (o := .cells #[.slice Ao35 t502.length co35, .slice Ao39 t503.length co39] 25 (0, 0)) (by (with_reducible repeat (first | refine kN_ ?_ _ | refine kA_ ?_ _)); exact BK477.out) hb); have n12_ := aM_ (kB_ (g := gb488) (o := .cells #[.slice Ao45 t481.length co45, .slice Ao50 t484.length co50] 25 (0, 0)) (by (with_reducible repeat (first | refine kN_ ?_ _ | refine kA_ ?_ _)); exact BK488.out) hb); have n13_ := aM_ (bP_ (by repeat (with_reducible first | exact HB.out | apply bA_ | apply bN_ | refine bS_ ?_ GE452.out | refine bS_ ?_ GE470.out | refine bS_ ?_ GE477.out | refine bS_ ?_ GE488.out)) hb); clear HO_471000; clear HO_471001; clear HO_478000; clear HO_478001; clear HO_489000; clear HO_489001; clear HO513; clear HO516; clear BK452; clear BK470; clear BK477; clear BK488; clear HB; have HO_471000 := n0_; have HO_471001 := n1_; have HO_478000 := n2_; have HO_478001 := n3_; have HO_489000 := n4_; have HO_489001 := n5_; have HO513 := n6_; have HO516 := n7_; have HO519 := n8_; have BK452 := n9_; have BK470 := n10_; have BK477 := n11_; have BK488 := n12_; have HB := n13_; clear n0_ n1_ n2_ n3_ n4_ n5_ n6_ n7_ n8_ n9_ n10_ n11_ n12_ n13_; (try clear hb); (try clear hb2); (try clear hk); (try clear hi); (try clear ho0); obtain ⟨Ao139, co139, eo139⟩ := Kd.R_slice HO513.out; subst eo139; obtain ⟨Ao140, co140, eo140⟩ := Kd.R_slice HO516.out; subst eo140; obtain ⟨Ao141, co141, eo141⟩ := Kd.R_slice HO519.out; subst eo141) | ((with_reducible refine gate_callee (f := 26) rfl ?_); refine goesL_ (some 97) rfl rfl Try.func26 (by kernel_rfl) rfl #[.agg #[.slice Ao139 t511.length co139, .slice Ao140 t514.length co140], .slice Ao141 t517.length co141] rfl (by (try simp only [List.map_toArray, List.map_cons, List.map_nil]); first | done | rfl | (simp only [List.length_drop, List.length_take]; rfl)) ?_; (with_reducible refine (impl_CrashWith.calls kj77 _ _ t511 _ _ t514 _ _ t517 t520 t523 t526 _ ?side1 ?side2 ?side3 ?side4 ?side5 ?side6 A125.out).mono ?_); (case side1 => repeat (first | exact (rR_ HO513.out).2.2 | (with_reducible refine cA_ ?_ _) | (with_reducible refine cN_ ?_ _))); (case side2 => exact (rR_ HO513.out).2.1); (case side3 => repeat (first | exact (rR_ HO516.out).2.2 | (with_reducible refine cA_ ?_ _) | (with_reducible refine cN_ ?_ _))); (case side4 => exact (rR_ HO516.out).2.1); (case side5 => repeat (first | exact (rR_ HO519.out).2.2 | (with_reducible refine cA_ ?_ _) | (with_reducible refine cN_ ?_ _))); (case side6 => exact (rR_ HO519.out).2.1); rintro e w142 ⟨v521, v524, rfl, ho0, ho1, hb⟩; refine ⟨_, rfl, ?_⟩; have n0_ := aM_ (rE_ (by (with_reducible repeat (first | apply rA_ | apply rN_)); exact HO_471000.out) (rS_ ho0) hb); have n1_ := aM_ (rE_ (by (with_reducible repeat (first | apply rA_ | apply rN_)); exact HO_471001.out) (rS_ ho1) hb); have n2_ := aM_ (rE_ (by (with_reducible repeat (first | apply rA_ | apply rN_)); exact HO_478000.out) (rS_ ho0) hb); have n3_ := aM_ (rE_ (by (with_reducible repeat (first | apply rA_ | apply rN_)); exact HO_478001.out) (rS_ ho1) hb); have n4_ := aM_ (rE_ (by (with_reducible repeat (first | apply rA_ | apply rN_)); exact HO_489000.out) (rS_ ho0) hb); have n5_ := aM_ (rE_ (by (with_reducible repeat (first | apply rA_ | apply rN_)); exact HO_489001.out) (rS_ ho1) hb); have n6_ := aM_ (rE_ (by (with_reducible repeat (first | apply rA_ | apply rN_)); exact HO513.out) (rS_ ho0) hb); have n7_ := aM_ (rE_ (by (with_reducible repeat (first | apply rA_ | apply rN_)); exact HO516.out) (rS_ ho1) hb); have n8_ := aM_ (rB_ (by (with_reducible repeat (first | apply rA_ | apply rN_)); exact HO519.out) hb); have n9_ := aM_ (rO_ (rW_ (rW_ (rW_ (rW_ ho0 (rL_ (by (with_reducible repeat (first | apply rA_ | apply rN_)); exact HO_471000.out))) (rL_ (by (with_reducible repeat (first | apply rA_ | apply rN_)); exact HO_478000.out))) (rL_ (by (with_reducible repeat (first | apply rA_ | apply rN_)); exact HO_489000.out))) (rL_ (by (with_reducible repeat (first | apply rA_ | apply rN_)); exact HO513.out))) (bZ_ (by repeat (with_reducible first | exact HB.out | apply bA_ | apply bN_ | refine bS_ ?_ GE452.out | refine bS_ ?_ GE470.out | refine bS_ ?_ GE477.out | refine bS_ ?_ GE488.out)))); have n10_ := aM_ (rO_ (rW_ (rW_ (rW_ (rW_ ho1 (rL_ (by (with_reducible repeat (first | apply rA_ | apply rN_)); exact HO_471001.out))) (rL_ (by (with_reducible repeat (first | apply rA_ | apply rN_)); exact HO_478001.out))) (rL_ (by (with_reducible repeat (first | apply rA_ | apply rN_)); exact HO_489001.out))) (rL_ (by (with_reducible repeat (first | apply rA_ | apply rN_)); exact HO516.out))) (bZ_ (by repeat (with_reducible first | exact HB.out | apply bA_ | apply bN_ | refine bS_ ?_ GE452.out | refine bS_ ?_ GE470.out | refine bS_ ?_ GE477.out | refine bS_ ?_ GE488.out)))); have n11_ := aM_ (kB_ (g := gb452) (o := .cells #[.slice A0_0 l0_0.length c0_0, .slice A0_1 l0_1.length c0_1] 32 (0, 0)) (by (with_reducible repeat (first | refine kN_ ?_ _ | refine kA_ ?_ _)); exact BK452.out) hb); have n12_ := aM_ (kB_ (g := gb470) (o := .cells #[.slice Ao28 t463.length co28, .slice Ao31 t466.length co31] 25 (0, 0)) (by (with_reducible repeat (first | refine kN_ ?_ _ | refine kA_ ?_ _)); exact BK470.out) hb); have n13_ := aM_ (kB_ (g := gb477) (o := .cells #[.slice Ao35 t502.length co35, .slice Ao39 t503.length co39] 25 (0, 0)) (by (with_reducible repeat (first | refine kN_ ?_ _ | refine kA_ ?_ _)); exact BK477.out) hb); have n14_ := aM_ (kB_ (g := gb488) (o := .cells #[.slice Ao45 t481.length co45, .slice Ao50 t484.length co50] 25 (0, 0)) (by (with_reducible repeat (first | refine kN_ ?_ _ | refine kA_ ?_ _)); exact BK488.out) hb); have n15_ := aM_ (bP_ (by repeat (with_reducible first | exact HB.out | apply bA_ | apply bN_ | refine bS_ ?_ GE452.out | refine bS_ ?_ GE470.out | refine bS_ ?_ GE477.out | refine bS_ ?_ GE488.out)) hb); clear HO_471000; clear HO_471001; clear HO_478000; clear HO_478001; clear HO_489000; clear HO_489001; clear HO513; clear HO516; clear HO519; clear BK452; clear BK470; clear BK477; clear BK488; clear HB; have HO_471000 := n0_; have HO_471001 := n1_; have HO_478000 := n2_; have HO_478001 := n3_; have HO_489000 := n4_; have HO_489001 := n5_; have HO513 := n6_; have HO516 := n7_; have HO519 := n8_; have HO522 := n9_; have HO525 := n10_; have BK452 := n11_; have BK470 := n12_; have BK477 := n13_; have BK488 := n14_; have HB := n15_; clear n0_ n1_ n2_ n3_ n4_ n5_ n6_ n7_ n8_ n9_ n10_ n11_ n12_ n13_ n14_ n15_; (try clear hb); (try clear hb2); (try clear hk); (try clear hi); (try clear ho0); (try clear ho1)) | ((with_reducible refine gate_dst (N := 15) rfl ?_); refine box_event ?hg (N := 15) ?hd (cs := #[.slice none 0 0, .slice none 0 0]) (t := 25) ?hr ?_; (case hd => rfl); (case hg => rfl); (case hr => first | (go_simp; done) | (go_simp; rfl)); intro gb527 hg w143 hbox hb; have n0_ := aM_ (rB_ (by (with_reducible repeat (first | apply rA_ | apply rN_)); exact HO_471000.out) hb); have n1_ := aM_ (rB_ (by (with_reducible repeat (first | apply rA_ | apply rN_)); exact HO_471001.out) hb); have n2_ := aM_ (rB_ (by (with_reducible repeat (first | apply rA_ | apply rN_)); exact HO_478000.out) hb); have n3_ := aM_ (rB_ (by (with_reducible repeat (first | apply rA_ | apply rN_)); exact HO_478001.out) hb); have n4_ := aM_ (rB_ (by (with_reducible repeat (first | apply rA_ | apply rN_)); exact HO_489000.out) hb); have n5_ := aM_ (rB_ (by (with_reducible repeat (first | apply rA_ | apply rN_)); exact HO_489001.out) hb); have n6_ := aM_ (rB_ (by (with_reducible repeat (first | apply rA_ | apply rN_)); exact HO513.out) hb); have n7_ := aM_ (rB_ (by (with_reducible repeat (first | apply rA_ | apply rN_)); exact HO516.out) hb); have n8_ := aM_ (rB_ (by (with_reducible repeat (first | apply rA_ | apply rN_)); exact HO519.out) hb); have n9_ := aM_ (rB_ (by (with_reducible repeat (first | apply rA_ | apply rN_)); exact HO522.out) hb); have n10_ := aM_ (rB_ (by (with_reducible repeat (first | apply rA_ | apply rN_)); exact HO525.out) hb); have n11_ := aM_ (kB_ (g := gb452) (o := .cells #[.slice A0_0 l0_0.length c0_0, .slice A0_1 l0_1.length c0_1] 32 (0, 0)) (by (with_reducible repeat (first | refine kN_ ?_ _ | refine kA_ ?_ _)); exact BK452.out) hb); have n12_ := aM_ (kB_ (g := gb470) (o := .cells #[.slice Ao28 t463.length co28, .slice Ao31 t466.length co31] 25 (0, 0)) (by (with_reducible repeat (first | refine kN_ ?_ _ | refine kA_ ?_ _)); exact BK470.out) hb); have n13_ := aM_ (kB_ (g := gb477) (o := .cells #[.slice Ao35 t502.length co35, .slice Ao39 t503.length co39] 25 (0, 0)) (by (with_reducible repeat (first | refine kN_ ?_ _ | refine kA_ ?_ _)); exact BK477.out) hb); have n14_ := aM_ (kB_ (g := gb488) (o := .cells #[.slice Ao45 t481.length co45, .slice Ao50 t484.length co50] 25 (0, 0)) (by (with_reducible repeat (first | refine kN_ ?_ _ | refine kA_ ?_ _)); exact BK488.out) hb); have n15_ := aM_ (bP_ (by repeat (with_reducible first | exact HB.out | apply bA_ | apply bN_ | refine bS_ ?_ GE452.out | refine bS_ ?_ GE470.out | refine bS_ ?_ GE477.out | refine bS_ ?_ GE488.out)) hb); have n16_ := aM_ (hbox); have n17_ := aM_ ((by rw [hg]; exact (bZ_ (by repeat (with_reducible first | exact HB.out | apply bA_ | apply bN_ | refine bS_ ?_ GE452.out | refine bS_ ?_ GE470.out | refine bS_ ?_ GE477.out | refine bS_ ?_ GE488.out))) : w.heap.size ≤ gb527)); have n18_ := aM_ ((by rw [hg]; exact (bZ_ (by repeat (with_reducible first | exact HB.out | apply bA_ | apply bN_ | refine bS_ ?_ GE452.out | refine bS_ ?_ GE470.out | refine bS_ ?_ GE477.out | refine bS_ ?_ GE488.out))) : w.heap.size ≤ gb527)); have n19_ := aM_ ((by rw [hg]; exact Nat.ne_of_lt (kL_ (g := gb452) (o := .cells #[.slice A0_0 l0_0.length c0_0, .slice A0_1 l0_1.length c0_1] 32 (0, 0)) (by (with_reducible repeat (first | refine kN_ ?_ _ | refine kA_ ?_ _)); exact BK452.out)) : gb452 ≠ gb527)); have n20_ := aM_ ((by rw [hg]; exact Nat.ne_of_gt (kL_ (g := gb452) (o := .cells #[.slice A0_0 l0_0.length c0_0, .slice A0_1 l0_1.length c0_1] 32 (0, 0)) (by (with_reducible repeat (first | refine kN_ ?_ _ | refine kA_ ?_ _)); exact BK452.out)) : gb527 ≠ gb452)); have n21_ := aM_ ((by rw [hg]; exact Nat.ne_of_lt (kL_ (g := gb470) (o := .cells #[.slice Ao28 t463.length co28, .slice Ao31 t466.length co31] 25 (0, 0)) (by (with_reducible repeat (first | refine kN_ ?_ _ | refine kA_ ?_ _)); exact BK470.out)) : gb470 ≠ gb527)); have n22_ := aM_ ((by rw [hg]; exact Nat.ne_of_gt (kL_ (g := gb470) (o := .cells #[.slice Ao28 t463.length co28, .slice Ao31 t466.length co31] 25 (0, 0)) (by (with_reducible repeat (first | refine kN_ ?_ _ | refine kA_ ?_ _)); exact BK470.out)) : gb527 ≠ gb470)); have n23_ := aM_ ((by rw [hg]; exact Nat.ne_of_lt (kL_ (g := gb477) (o := .cells #[.slice Ao35 t502.length co35, .slice Ao39 t503.length co39] 25 (0, 0)) (by (with_reducible repeat (first | refine kN_ ?_ _ | refine kA_ ?_ _)); exact BK477.out)) : gb477 ≠ gb527)); have n24_ := aM_ ((by rw [hg]; exact Nat.ne_of_gt (kL_ (g := gb477) (o := .cells #[.slice Ao35 t502.length co35, .slice Ao39 t503.length co39] 25 (0, 0)) (by (with_reducible repeat (first | refine kN_ ?_ _ | refine kA_ ?_ _)); exact BK477.out)) : gb527 ≠ gb477)); have n25_ := aM_ ((by rw [hg]; exact Nat.ne_of_lt (kL_ (g := gb488) (o := .cells #[.slice Ao45 t481.length co45, .slice Ao50 t484.length co50] 25 (0, 0)) (by (with_reducible repeat (first | refine kN_ ?_ _ | refine kA_ ?_ _)); exact BK488.out)) : gb488 ≠ gb527)); have n26_ := aM_ ((by rw [hg]; exact Nat.ne_of_gt (kL_ (g := gb488) (o := .cells #[.slice Ao45 t481.length co45, .slice Ao50 t484.length co50] 25 (0, 0)) (by (with_reducible repeat (first | refine kN_ ?_ _ | refine kA_ ?_ _)); exact BK488.out)) : gb527 ≠ gb488)); clear HO_471000; clear HO_471001; clear HO_478000; clear HO_478001; clear HO_489000; clear HO_489001; clear HO513; clear HO516; clear HO519; clear HO522; clear HO525; clear BK452; clear BK470; clear BK477; clear BK488; clear HB; have HO_471000 := n0_; have HO_471001 := n1_; have HO_478000 := n2_; have HO_478001 := n3_; have HO_489000 := n4_; have HO_489001 := n5_; have HO513 := n6_; have HO516 := n7_; have HO519 := n8_; have HO522 := n9_; have HO525 := n10_; have BK452 := n11_; have BK470 := n12_; have BK477 := n13_; have BK488 := n14_; have HB := n15_; have BK527 := n16_; have GW527 := n17_; have GE527 := n18_; have NB452_527 := n19_; have NB527_452 := n20_; have NB470_527 := n21_; have NB527_470 := n22_; have NB477_527 := n23_; have NB527_477 := n24_; have NB488_527 := n25_; have NB527_488 := n26_; clear n0_ n1_ n2_ n3_ n4_ n5_ n6_ n7_ n8_ n9_ n10_ n11_ n12_ n13_ n14_ n15_ n16_ n17_ n18_ n19_ n20_ n21_ n22_ n23_ n24_ n25_ n26_; clear hb hbox hg; obtain ⟨Ao144, co144, eo144⟩ := Kd.R_slice HO522.out; subst eo144; have hnb145 := NB527_452.out; have hnc145 := NB452_527.out; have hnb146 := NB527_470.out; have hnc146 := NB470_527.out; have hnb147 := NB527_477.out; have hnc147 := NB477_527.out; have hnb148 := NB527_488.out; have hnc148 := NB488_527.out; have hcz149_0 : w143.cell? ⟨gb527, 0, none⟩ = some (.slice none 0 0) := (kC_ BK527.out 0).trans rfl; have hcz149_1 : w143.cell? ⟨gb527, 1, none⟩ = some (.slice none 0 0) := (kC_ BK527.out 1).trans rfl; have hfz149_0 := kZ_ BK527.out 0; have hfz149_1 := kZ_ BK527.out 1; obtain ⟨Ao150, co150, eo150⟩ := Kd.R_slice HO525.out; subst eo150))
             (try simp only [Act.put, List.setIfInBounds_toArray, List.set_cons_zero, List.set_cons_succ])
             go_cut [108] (fun v108 wc => ∃ (kq : Nat) (x108_125 : Bool), v108 = .bool x108_125 ∧ Aside0 (laws_FnExactCrashWith.j2 kq t507 x108_125 t508 t509 = some r) ∧ Aside0 (kq ≤ kj77) ∧ Aside0 (Kd.R Kd.string 9 wc w.heap.size (fun k_ => some k_ ≠ ((.slice Ao35 t502.length co35) : Value).ownBlock ∧ some k_ ≠ ((.slice Ao45 t481.length co45) : Value).ownBlock ∧ some k_ ≠ ((.slice Ao144 t520.length co144) : Value).ownBlock) (.slice Ao28 t463.length co28) t463) ∧ Aside0 (Kd.R k55 55 wc w.heap.size (fun k_ => some k_ ≠ ((.slice Ao39 t503.length co39) : Value).ownBlock ∧ some k_ ≠ ((.slice Ao50 t484.length co50) : Value).ownBlock ∧ some k_ ≠ ((.slice Ao150 t523.length co150) : Value).ownBlock) (.slice Ao31 t466.length co31) t466) ∧ Aside0 (Kd.R Kd.string 9 wc w.heap.size (fun k_ => some k_ ≠ ((.slice Ao28 t463.length co28) : Value).ownBlock ∧ some k_ ≠ ((.slice Ao45 t481.length co45) : Value).ownBlock ∧ some k_ ≠ ((.slice Ao144 t520.length co144) : Value).ownBlock) (.slice Ao35 t502.length co35) t502) ∧ Aside0 (Kd.R k55 55 wc w.heap.size (fun k_ => some k_ ≠ ((.slice Ao31 t466.length co31) : Value).ownBlock ∧ some k_ ≠ ((.slice Ao50 t484.length co50) : Value).ownBlock ∧ some k_ ≠ ((.slice Ao150 t523.length co150) : Value).ownBlock) (.slice Ao39 t503.length co39) t503) ∧ Aside0 (Kd.R Kd.string 9 wc w.heap.size (fun k_ => some k_ ≠ ((.slice Ao28 t463.length co28) : Value).ownBlock ∧ some k_ ≠ ((.slice Ao35 t502.length co35) : Value).ownBlock ∧ some k_ ≠ ((.slice Ao144 t520.length co144) : Value).ownBlock) (.slice Ao45 t481.length co45) t508) ∧ Aside0 (Kd.R k55 55 wc w.heap.size (fun k_ => some k_ ≠ ((.slice Ao31 t466.length co31) : Value).ownBlock ∧ some k_ ≠ ((.slice Ao39 t503.length co39) : Value).ownBlock ∧ some k_ ≠ ((.slice Ao150 t523.length co150) : Value).ownBlock) (.slice Ao50 t484.length co50) t509) ∧ Aside0 (Kd.R Kd.string 9 wc w.heap.size (fun k_ => some k_ ≠ ((.slice Ao28 t463.length co28) : Value).ownBlock ∧ some k_ ≠ ((.slice Ao35 t502.length co35) : Value).ownBlock ∧ some k_ ≠ ((.slice Ao45 t481.length co45) : Value).ownBlock) (.slice Ao144 t520.length co144) t520) ∧ Aside0 (Kd.R k55 55 wc w.heap.size (fun k_ => some k_ ≠ ((.slice Ao31 t466.length co31) : Value).ownBlock ∧ some k_ ≠ ((.slice Ao39 t503.length co39) : Value).ownBlock ∧ some k_ ≠ ((.slice Ao50 t484.length co50) : Value).ownBlock) (.slice Ao150 t523.length co150) t523) ∧ Aside0 (wc.heap[gb452]? = some (.cells #[(.slice A0_0 l0_0.length c0_0), (.slice A0_1 l0_1.length c0_1)] 32 (0, 0))) ∧ Aside0 (wc.heap[gb470]? = some (.cells #[(.slice Ao28 t463.length co28), (.slice Ao31 t466.length co31)] 25 (0, 0))) ∧ Aside0 (wc.heap[gb477]? = some (.cells #[(.slice Ao35 t502.length co35), (.slice Ao39 t503.length co39)] 25 (0, 0))) ∧ Aside0 (wc.heap[gb488]? = some (.cells #[(.slice Ao45 t481.length co45), (.slice Ao50 t484.length co50)] 25 (0, 0))) ∧ Aside0 (wc.heap[gb527]? = some (.cells #[(.slice Ao144 t520.length co144), (.slice Ao150 t523.length co150)] 25 (0, 0))) ∧ Aside0 (Below w.heap.size w wc))
             case first =>
              have H := HC126.out
              clear HC126
              replace H := Option.bind_eq_some_iff.mp H
              obtain ⟨t528, A1510, H⟩ := H
              replace H : (if t528 = true then (laws_FnExactCrashWith.j2 kj77 t507 (t526 != t469) t508 t509) else (laws_FnExactCrashWith.j2 kj77 t507 true t508 t509)) = some r := H
              have A151 := aM_ A1510
              clear A1510
              by_cases c152 : t528 = true
              ·subst c152
               have H1 : (laws_FnExactCrashWith.j2 kj77 t507 (t526 != t469) t508 t509) = some r := by rw [if_pos rfl] at H; exact H
               clear H
               have H := H1
               clear H1
               have H' := aM_ H
               clear H
               have hnb153 := NB527_452.out
               have hnc153 := NB452_527.out
               have hnb154 := NB527_470.out
               have hnc154 := NB470_527.out
               have hnb155 := NB527_477.out
               have hnc155 := NB477_527.out
               have hnb156 := NB527_488.out
               have hnc156 := NB488_527.out
               have hcz157_0 : w143.cell? ⟨gb527, 0, none⟩ = some (.slice none 0 0) := (kC_ BK527.out 0).trans rfl
               have hcz157_1 : w143.cell? ⟨gb527, 1, none⟩ = some (.slice none 0 0) := (kC_ BK527.out 1).trans rfl
               have hfz157_0 := kZ_ BK527.out 0
               have hfz157_1 := kZ_ BK527.out 1
               have hnb158 := NB470_452.out
               have hnc158 := NB452_470.out
               have hnb159 := NB470_477.out
               have hnc159 := NB477_470.out
               have hnb160 := NB470_488.out
               have hnc160 := NB488_470.out
               have hcz161_0 : w143.cell? ⟨gb470, 0, none⟩ = some (.slice Ao28 t463.length co28) := (kC_ BK470.out 0).trans rfl
               have hcz161_1 : w143.cell? ⟨gb470, 1, none⟩ = some (.slice Ao31 t466.length co31) := (kC_ BK470.out 1).trans rfl
               have hfz161_0 := kZ_ BK470.out 0
               have hfz161_1 := kZ_ BK470.out 1
               go_wp2_with (first | ((with_reducible refine gate_callee (f := 11) rfl ?_); refine goesL_ (some 102) rfl rfl Try.func11 (by kernel_rfl) rfl #[.agg #[.slice Ao144 t520.length co144, .slice Ao150 t523.length co150], .agg #[.slice Ao28 t463.length co28, .slice Ao31 t466.length co31]] rfl (by (try simp only [List.map_toArray, List.map_cons, List.map_nil]); first | done | rfl | (simp only [List.length_drop, List.length_take]; rfl)) ?_; (with_reducible refine (laws_eqDevice.calls kj77 _ _ t520 _ _ t523 _ _ t463 _ _ t466 true _ ?side1 ?side2 ?side3 ?side4 ?side5 ?side6 ?side7 ?side8 A151.out).mono ?_); (case side1 => refine (rR_ (e := 9) (base := w.heap.size) (ok := fun k_ => ((((True ∧ some k_ ≠ (.slice Ao28 t463.length co28 : Value).ownBlock) ∧ some k_ ≠ (.slice Ao35 t502.length co35 : Value).ownBlock) ∧ some k_ ≠ (.slice Ao45 t481.length co45 : Value).ownBlock) ∧ some k_ ≠ (.slice Ao139 t511.length co139 : Value).ownBlock)) (n := t520.length) (c := co144) ?_).2.2; exact (by (with_reducible repeat (first | apply rA_ | apply rN_)); exact (rM_ (rF_ (p := ⟨gb527, 1, none⟩) (rF_ (p := ⟨gb527, 0, none⟩) (rT_ HO522.out BK527.out (by decide)) (fun _ hk => hk.2) (.slice Ao144 t520.length co144)) (fun _ hk => hk.2) (.slice Ao150 t523.length co150)) (fun _ h_ => h_.1)))); (case side2 => exact (rR_ HO522.out).2.1); (case side3 => refine (rR_ (e := 55) (base := w.heap.size) (ok := fun k_ => ((((True ∧ some k_ ≠ (.slice Ao31 t466.length co31 : Value).ownBlock) ∧ some k_ ≠ (.slice Ao39 t503.length co39 : Value).ownBlock) ∧ some k_ ≠ (.slice Ao50 t484.length co50 : Value).ownBlock) ∧ some k_ ≠ (.slice Ao140 t514.length co140 : Value).ownBlock)) (n := t523.length) (c := co150) ?_).2.2; exact (by (with_reducible repeat (first | apply rA_ | apply rN_)); exact (rM_ (rF_ (p := ⟨gb527, 1, none⟩) (rF_ (p := ⟨gb527, 0, none⟩) (rT_ HO525.out BK527.out (by decide)) (fun _ hk => hk.2) (.slice Ao144 t520.length co144)) (fun _ hk => hk.2) (.slice Ao150 t523.length co150)) (fun _ h_ => h_.1)))); (case side4 => exact (rR_ HO525.out).2.1); (case side5 => refine (rR_ (e := 9) (base := w.heap.size) (ok := fun k_ => (((some k_ ≠ (.slice Ao35 t502.length co35 : Value).ownBlock ∧ some k_ ≠ (.slice Ao45 t481.length co45 : Value).ownBlock) ∧ some k_ ≠ (.slice Ao139 t511.length co139 : Value).ownBlock) ∧ some k_ ≠ (.slice Ao144 t520.length co144 : Value).ownBlock)) (n := t463.length) (c := co28) ?_).2.2; exact (by (with_reducible repeat (first | apply rA_ | apply rN_)); exact (rM_ (rF_ (p := ⟨gb527, 1, none⟩) (rF_ (p := ⟨gb527, 0, none⟩) (rT_ HO_471000.out BK527.out (by decide)) (fun _ hk => hk.2) (.slice Ao144 t520.length co144)) (fun _ hk => hk.2) (.slice Ao150 t523.length co150)) (fun _ h_ => h_.1)))); (case side6 => exact (rR_ HO_471000.out).2.1); (case side7 => refine (rR_ (e := 55) (base := w.heap.size) (ok := fun k_ => (((some k_ ≠ (.slice Ao39 t503.length co39 : Value).ownBlock ∧ some k_ ≠ (.slice Ao50 t484.length co50 : Value).ownBlock) ∧ some k_ ≠ (.slice Ao140 t514.length co140 : Value).ownBlock) ∧ some k_ ≠ (.slice Ao150 t523.length co150 : Value).ownBlock)) (n := t466.length) (c := co31) ?_).2.2; exact (by (with_reducible repeat (first | apply rA_ | apply rN_)); exact (rM_ (rF_ (p := ⟨gb527, 1, none⟩) (rF_ (p := ⟨gb527, 0, none⟩) (rT_ HO_471001.out BK527.out (by decide)) (fun _ hk => hk.2) (.slice Ao144 t520.length co144)) (fun _ hk => hk.2) (.slice Ao150 t523.length co150)) (fun _ h_ => h_.1)))); (case side8 => exact (rR_ HO_471001.out).2.1); rintro e w162 ⟨rfl, hb⟩; refine ⟨_, rfl, ?_⟩; have n0_ := aM_ (rB_ (by (with_reducible repeat (first | apply rA_ | apply rN_)); exact (rM_ (rF_ (p := ⟨gb527, 1, none⟩) (rF_ (p := ⟨gb527, 0, none⟩) (rT_ HO_471000.out BK527.out (by decide)) (fun _ hk => hk.2) (.slice Ao144 t520.length co144)) (fun _ hk => hk.2) (.slice Ao150 t523.length co150)) (fun _ h_ => h_.1))) hb); have n1_ := aM_ (rB_ (by (with_reducible repeat (first | apply rA_ | apply rN_)); exact (rM_ (rF_ (p := ⟨gb527, 1, none⟩) (rF_ (p := ⟨gb527, 0, none⟩) (rT_ HO_471001.out BK527.out (by decide)) (fun _ hk => hk.2) (.slice Ao144 t520.length co144)) (fun _ hk => hk.2) (.slice Ao150 t523.length co150)) (fun _ h_ => h_.1))) hb); have n2_ := aM_ (rB_ (by (with_reducible repeat (first | apply rA_ | apply rN_)); exact (rM_ (rF_ (p := ⟨gb527, 1, none⟩) (rF_ (p := ⟨gb527, 0, none⟩) (rT_ HO_478000.out BK527.out (by decide)) (fun _ hk => hk.2) (.slice Ao144 t520.length co144)) (fun _ hk => hk.2) (.slice Ao150 t523.length co150)) (fun _ h_ => h_.1))) hb); have n3_ := aM_ (rB_ (by (with_reducible repeat (first | apply rA_ | apply rN_)); exact (rM_ (rF_ (p := ⟨gb527, 1, none⟩) (rF_ (p := ⟨gb527, 0, none⟩) (rT_ HO_478001.out BK527.out (by decide)) (fun _ hk => hk.2) (.slice Ao144 t520.length co144)) (fun _ hk => hk.2) (.slice Ao150 t523.length co150)) (fun _ h_ => h_.1))) hb); have n4_ := aM_ (rB_ (by (with_reducible repeat (first | apply rA_ | apply rN_)); exact (rM_ (rF_ (p := ⟨gb527, 1, none⟩) (rF_ (p := ⟨gb527, 0, none⟩) (rT_ HO_489000.out BK527.out (by decide)) (fun _ hk => hk.2) (.slice Ao144 t520.length co144)) (fun _ hk => hk.2) (.slice Ao150 t523.length co150)) (fun _ h_ => h_.1))) hb); have n5_ := aM_ (rB_ (by (with_reducible repeat (first | apply rA_ | apply rN_)); exact (rM_ (rF_ (p := ⟨gb527, 1, none⟩) (rF_ (p := ⟨gb527, 0, none⟩) (rT_ HO_489001.out BK527.out (by decide)) (fun _ hk => hk.2) (.slice Ao144 t520.length co144)) (fun _ hk => hk.2) (.slice Ao150 t523.length co150)) (fun _ h_ => h_.1))) hb); have n6_ := aM_ (rB_ (by (with_reducible repeat (first | apply rA_ | apply rN_)); exact (rM_ (rF_ (p := ⟨gb527, 1, none⟩) (rF_ (p := ⟨gb527, 0, none⟩) (rT_ HO513.out BK527.out (by decide)) (fun _ hk => hk.2) (.slice Ao144 t520.length co144)) (fun _ hk => hk.2) (.slice Ao150 t523.length co150)) (fun _ h_ => h_.1))) hb); have n7_ := aM_ (rB_ (by (with_reducible repeat (first | apply rA_ | apply rN_)); exact (rM_ (rF_ (p := ⟨gb527, 1, none⟩) (rF_ (p := ⟨gb527, 0, none⟩) (rT_ HO516.out BK527.out (by decide)) (fun _ hk => hk.2) (.slice Ao144 t520.length co144)) (fun _ hk => hk.2) (.slice Ao150 t523.length co150)) (fun _ h_ => h_.1))) hb); have n8_ := aM_ (rB_ (by (with_reducible repeat (first | apply rA_ | apply rN_)); exact (rM_ (rF_ (p := ⟨gb527, 1, none⟩) (rF_ (p := ⟨gb527, 0, none⟩) (rT_ HO519.out BK527.out (by decide)) (fun _ hk => hk.2) (.slice Ao144 t520.length co144)) (fun _ hk => hk.2) (.slice Ao150 t523.length co150)) (fun _ h_ => h_.1))) hb); have n9_ := aM_ (rB_ (by (with_reducible repeat (first | apply rA_ | apply rN_)); exact (rM_ (rF_ (p := ⟨gb527, 1, none⟩) (rF_ (p := ⟨gb527, 0, none⟩) (rT_ HO522.out BK527.out (by decide)) (fun _ hk => hk.2) (.slice Ao144 t520.length co144)) (fun _ hk => hk.2) (.slice Ao150 t523.length co150)) (fun _ h_ => h_.1))) hb); have n10_ := aM_ (rB_ (by (with_reducible repeat (first | apply rA_ | apply rN_)); exact (rM_ (rF_ (p := ⟨gb527, 1, none⟩) (rF_ (p := ⟨gb527, 0, none⟩) (rT_ HO525.out BK527.out (by decide)) (fun _ hk => hk.2) (.slice Ao144 t520.length co144)) (fun _ hk => hk.2) (.slice Ao150 t523.length co150)) (fun _ h_ => h_.1))) hb); have n11_ := aM_ (kB_ (g := gb452) (o := .cells #[.slice A0_0 l0_0.length c0_0, .slice A0_1 l0_1.length c0_1] 32 (0, 0)) (by (with_reducible repeat (first | refine kN_ ?_ _ | refine kA_ ?_ _)); refine kF_ ?_ NB452_527.out _; (with_reducible repeat (first | refine kN_ ?_ _ | refine kA_ ?_ _)); refine kF_ ?_ NB452_527.out _; (with_reducible repeat (first | refine kN_ ?_ _ | refine kA_ ?_ _)); exact BK452.out) hb); have n12_ := aM_ (kB_ (g := gb470) (o := .cells #[.slice Ao28 t463.length co28, .slice Ao31 t466.length co31] 25 (0, 0)) (by (with_reducible repeat (first | refine kN_ ?_ _ | refine kA_ ?_ _)); refine kF_ ?_ NB470_527.out _; (with_reducible repeat (first | refine kN_ ?_ _ | refine kA_ ?_ _)); refine kF_ ?_ NB470_527.out _; (with_reducible repeat (first | refine kN_ ?_ _ | refine kA_ ?_ _)); exact BK470.out) hb); have n13_ := aM_ (kB_ (g := gb477) (o := .cells #[.slice Ao35 t502.length co35, .slice Ao39 t503.length co39] 25 (0, 0)) (by (with_reducible repeat (first | refine kN_ ?_ _ | refine kA_ ?_ _)); refine kF_ ?_ NB477_527.out _; (with_reducible repeat (first | refine kN_ ?_ _ | refine kA_ ?_ _)); refine kF_ ?_ NB477_527.out _; (with_reducible repeat (first | refine kN_ ?_ _ | refine kA_ ?_ _)); exact BK477.out) hb); have n14_ := aM_ (kB_ (g := gb488) (o := .cells #[.slice Ao45 t481.length co45, .slice Ao50 t484.length co50] 25 (0, 0)) (by (with_reducible repeat (first | refine kN_ ?_ _ | refine kA_ ?_ _)); refine kF_ ?_ NB488_527.out _; (with_reducible repeat (first | refine kN_ ?_ _ | refine kA_ ?_ _)); refine kF_ ?_ NB488_527.out _; (with_reducible repeat (first | refine kN_ ?_ _ | refine kA_ ?_ _)); exact BK488.out) hb); have n15_ := aM_ (kB_ (g := gb527) (o := .cells #[.slice Ao144 t520.length co144, .slice Ao150 t523.length co150] 25 (0, 0)) (by (with_reducible repeat (first | refine kN_ ?_ _ | refine kA_ ?_ _)); refine blk_put (cs := #[.slice Ao144 t520.length co144, .slice none 0 0]) ?_ 1 _ rfl; (with_reducible repeat (first | refine kN_ ?_ _ | refine kA_ ?_ _)); refine blk_put (cs := #[.slice none 0 0, .slice none 0 0]) ?_ 0 _ rfl; (with_reducible repeat (first | refine kN_ ?_ _ | refine kA_ ?_ _)); exact BK527.out) hb); have n16_ := aM_ (bP_ (by repeat (with_reducible first | exact HB.out | apply bA_ | apply bN_ | refine bS_ ?_ GE452.out | refine bS_ ?_ GE470.out | refine bS_ ?_ GE477.out | refine bS_ ?_ GE488.out | refine bS_ ?_ GE527.out)) hb); clear HO_471000; clear HO_471001; clear HO_478000; clear HO_478001; clear HO_489000; clear HO_489001; clear HO513; clear HO516; clear HO519; clear HO522; clear HO525; clear BK452; clear BK470; clear BK477; clear BK488; clear BK527; clear HB; have HO_471000 := n0_; have HO_471001 := n1_; have HO_478000 := n2_; have HO_478001 := n3_; have HO_489000 := n4_; have HO_489001 := n5_; have HO513 := n6_; have HO516 := n7_; have HO519 := n8_; have HO522 := n9_; have HO525 := n10_; have BK452 := n11_; have BK470 := n12_; have BK477 := n13_; have BK488 := n14_; have BK527 := n15_; have HB := n16_; clear n0_ n1_ n2_ n3_ n4_ n5_ n6_ n7_ n8_ n9_ n10_ n11_ n12_ n13_ n14_ n15_ n16_; (try clear hb); (try clear hb2); (try clear hk); (try clear hi)))
               go_meet
               case rel => exact ⟨_, ((t526 != t469)), (by first | rfl | (simp [*]; done)), H', ⟨by have := HJ15.out; have := HJ77.out; first | omega | exact Nat.le_refl _⟩, ⟨by (try simp only [hl478000_77]); (try simp only [hl478001_77]); (with_reducible repeat (first | apply rA_ | apply rN_)); exact rM_ HO_471000.out (fun _ hk => ⟨hk.1.1.1, ⟨hk.1.1.2, hk.2⟩⟩)⟩, ⟨by (try simp only [hl478000_77]); (try simp only [hl478001_77]); (with_reducible repeat (first | apply rA_ | apply rN_)); exact rM_ HO_471001.out (fun _ hk => ⟨hk.1.1.1, ⟨hk.1.1.2, hk.2⟩⟩)⟩, ⟨by (try simp only [hl478000_77]); (try simp only [hl478001_77]); (with_reducible repeat (first | apply rA_ | apply rN_)); exact rM_ HO_478000.out (fun _ hk => ⟨hk.1.1.1, ⟨hk.1.1.2, hk.2⟩⟩)⟩, ⟨by (try simp only [hl478000_77]); (try simp only [hl478001_77]); (with_reducible repeat (first | apply rA_ | apply rN_)); exact rM_ HO_478001.out (fun _ hk => ⟨hk.1.1.1, ⟨hk.1.1.2, hk.2⟩⟩)⟩, ⟨by (try simp only [hl478000_77]); (try simp only [hl478001_77]); (with_reducible repeat (first | apply rA_ | apply rN_)); exact rM_ HO_489000.out (fun _ hk => ⟨hk.1.1.1, ⟨hk.1.1.2, hk.2⟩⟩)⟩, ⟨by (try simp only [hl478000_77]); (try simp only [hl478001_77]); (with_reducible repeat (first | apply rA_ | apply rN_)); exact rM_ HO_489001.out (fun _ hk => ⟨hk.1.1.1, ⟨hk.1.1.2, hk.2⟩⟩)⟩, ⟨by (try simp only [hl478000_77]); (try simp only [hl478001_77]); (with_reducible repeat (first | apply rA_ | apply rN_)); exact rM_ HO522.out (fun _ hk => ⟨hk.1.1.1.2, ⟨hk.1.1.2, hk.1.2⟩⟩)⟩, ⟨by (try simp only [hl478000_77]); (try simp only [hl478001_77]); (with_reducible repeat (first | apply rA_ | apply rN_)); exact rM_ HO525.out (fun _ hk => ⟨hk.1.1.1.2, ⟨hk.1.1.2, hk.1.2⟩⟩)⟩, ⟨by (try simp only [hl478000_77]); (try simp only [hl478001_77]); (with_reducible repeat (first | refine kN_ ?_ _ | refine kA_ ?_ _)); exact BK452.out⟩, ⟨by (try simp only [hl478000_77]); (try simp only [hl478001_77]); (with_reducible repeat (first | refine kN_ ?_ _ | refine kA_ ?_ _)); exact BK470.out⟩, ⟨by (try simp only [hl478000_77]); (try simp only [hl478001_77]); (with_reducible repeat (first | refine kN_ ?_ _ | refine kA_ ?_ _)); exact BK477.out⟩, ⟨by (try simp only [hl478000_77]); (try simp only [hl478001_77]); (with_reducible repeat (first | refine kN_ ?_ _ | refine kA_ ?_ _)); exact BK488.out⟩, ⟨by (try simp only [hl478000_77]); (try simp only [hl478001_77]); (with_reducible repeat (first | refine kN_ ?_ _ | refine kA_ ?_ _)); exact BK527.out⟩, ⟨by repeat (with_reducible first | exact HB.out | apply bA_ | apply bN_ | refine bS_ ?_ GE452.out | refine bS_ ?_ GE470.out | refine bS_ ?_ GE477.out | refine bS_ ?_ GE488.out | refine bS_ ?_ GE527.out)⟩⟩
              ·replace c152 := Bool.eq_false_iff.mpr c152
               subst c152
               have H1 : (laws_FnExactCrashWith.j2 kj77 t507 true t508 t509) = some r := by rw [if_neg (show ¬ (false = true) by decide)] at H; exact H
               clear H
               have H := H1
               clear H1
               have H' := aM_ H
               clear H
               have hnb163 := NB527_452.out
               have hnc163 := NB452_527.out
               have hnb164 := NB527_470.out
               have hnc164 := NB470_527.out
               have hnb165 := NB527_477.out
               have hnc165 := NB477_527.out
               have hnb166 := NB527_488.out
               have hnc166 := NB488_527.out
               have hcz167_0 : w143.cell? ⟨gb527, 0, none⟩ = some (.slice none 0 0) := (kC_ BK527.out 0).trans rfl
               have hcz167_1 : w143.cell? ⟨gb527, 1, none⟩ = some (.slice none 0 0) := (kC_ BK527.out 1).trans rfl
               have hfz167_0 := kZ_ BK527.out 0
               have hfz167_1 := kZ_ BK527.out 1
               have hnb168 := NB470_452.out
               have hnc168 := NB452_470.out
               have hnb169 := NB470_477.out
               have hnc169 := NB477_470.out
               have hnb170 := NB470_488.out
               have hnc170 := NB488_470.out
               have hcz171_0 : w143.cell? ⟨gb470, 0, none⟩ = some (.slice Ao28 t463.length co28) := (kC_ BK470.out 0).trans rfl
               have hcz171_1 : w143.cell? ⟨gb470, 1, none⟩ = some (.slice Ao31 t466.length co31) := (kC_ BK470.out 1).trans rfl
               have hfz171_0 := kZ_ BK470.out 0
               have hfz171_1 := kZ_ BK470.out 1
               go_wp2_with (first | ((with_reducible refine gate_callee (f := 11) rfl ?_); refine goesL_ (some 102) rfl rfl Try.func11 (by kernel_rfl) rfl #[.agg #[.slice Ao144 t520.length co144, .slice Ao150 t523.length co150], .agg #[.slice Ao28 t463.length co28, .slice Ao31 t466.length co31]] rfl (by (try simp only [List.map_toArray, List.map_cons, List.map_nil]); first | done | rfl | (simp only [List.length_drop, List.length_take]; rfl)) ?_; (with_reducible refine (laws_eqDevice.calls kj77 _ _ t520 _ _ t523 _ _ t463 _ _ t466 false _ ?side1 ?side2 ?side3 ?side4 ?side5 ?side6 ?side7 ?side8 A151.out).mono ?_); (case side1 => refine (rR_ (e := 9) (base := w.heap.size) (ok := fun k_ => ((((True ∧ some k_ ≠ (.slice Ao28 t463.length co28 : Value).ownBlock) ∧ some k_ ≠ (.slice Ao35 t502.length co35 : Value).ownBlock) ∧ some k_ ≠ (.slice Ao45 t481.length co45 : Value).ownBlock) ∧ some k_ ≠ (.slice Ao139 t511.length co139 : Value).ownBlock)) (n := t520.length) (c := co144) ?_).2.2; exact (by (with_reducible repeat (first | apply rA_ | apply rN_)); exact (rM_ (rF_ (p := ⟨gb527, 1, none⟩) (rF_ (p := ⟨gb527, 0, none⟩) (rT_ HO522.out BK527.out (by decide)) (fun _ hk => hk.2) (.slice Ao144 t520.length co144)) (fun _ hk => hk.2) (.slice Ao150 t523.length co150)) (fun _ h_ => h_.1)))); (case side2 => exact (rR_ HO522.out).2.1); (case side3 => refine (rR_ (e := 55) (base := w.heap.size) (ok := fun k_ => ((((True ∧ some k_ ≠ (.slice Ao31 t466.length co31 : Value).ownBlock) ∧ some k_ ≠ (.slice Ao39 t503.length co39 : Value).ownBlock) ∧ some k_ ≠ (.slice Ao50 t484.length co50 : Value).ownBlock) ∧ some k_ ≠ (.slice Ao140 t514.length co140 : Value).ownBlock)) (n := t523.length) (c := co150) ?_).2.2; exact (by (with_reducible repeat (first | apply rA_ | apply rN_)); exact (rM_ (rF_ (p := ⟨gb527, 1, none⟩) (rF_ (p := ⟨gb527, 0, none⟩) (rT_ HO525.out BK527.out (by decide)) (fun _ hk => hk.2) (.slice Ao144 t520.length co144)) (fun _ hk => hk.2) (.slice Ao150 t523.length co150)) (fun _ h_ => h_.1)))); (case side4 => exact (rR_ HO525.out).2.1); (case side5 => refine (rR_ (e := 9) (base := w.heap.size) (ok := fun k_ => (((some k_ ≠ (.slice Ao35 t502.length co35 : Value).ownBlock ∧ some k_ ≠ (.slice Ao45 t481.length co45 : Value).ownBlock) ∧ some k_ ≠ (.slice Ao139 t511.length co139 : Value).ownBlock) ∧ some k_ ≠ (.slice Ao144 t520.length co144 : Value).ownBlock)) (n := t463.length) (c := co28) ?_).2.2; exact (by (with_reducible repeat (first | apply rA_ | apply rN_)); exact (rM_ (rF_ (p := ⟨gb527, 1, none⟩) (rF_ (p := ⟨gb527, 0, none⟩) (rT_ HO_471000.out BK527.out (by decide)) (fun _ hk => hk.2) (.slice Ao144 t520.length co144)) (fun _ hk => hk.2) (.slice Ao150 t523.length co150)) (fun _ h_ => h_.1)))); (case side6 => exact (rR_ HO_471000.out).2.1); (case side7 => refine (rR_ (e := 55) (base := w.heap.size) (ok := fun k_ => (((some k_ ≠ (.slice Ao39 t503.length co39 : Value).ownBlock ∧ some k_ ≠ (.slice Ao50 t484.length co50 : Value).ownBlock) ∧ some k_ ≠ (.slice Ao140 t514.length co140 : Value).ownBlock) ∧ some k_ ≠ (.slice Ao150 t523.length co150 : Value).ownBlock)) (n := t466.length) (c := co31) ?_).2.2; exact (by (with_reducible repeat (first | apply rA_ | apply rN_)); exact (rM_ (rF_ (p := ⟨gb527, 1, none⟩) (rF_ (p := ⟨gb527, 0, none⟩) (rT_ HO_471001.out BK527.out (by decide)) (fun _ hk => hk.2) (.slice Ao144 t520.length co144)) (fun _ hk => hk.2) (.slice Ao150 t523.length co150)) (fun _ h_ => h_.1)))); (case side8 => exact (rR_ HO_471001.out).2.1); rintro e w172 ⟨rfl, hb⟩; refine ⟨_, rfl, ?_⟩; have n0_ := aM_ (rB_ (by (with_reducible repeat (first | apply rA_ | apply rN_)); exact (rM_ (rF_ (p := ⟨gb527, 1, none⟩) (rF_ (p := ⟨gb527, 0, none⟩) (rT_ HO_471000.out BK527.out (by decide)) (fun _ hk => hk.2) (.slice Ao144 t520.length co144)) (fun _ hk => hk.2) (.slice Ao150 t523.length co150)) (fun _ h_ => h_.1))) hb); have n1_ := aM_ (rB_ (by (with_reducible repeat (first | apply rA_ | apply rN_)); exact (rM_ (rF_ (p := ⟨gb527, 1, none⟩) (rF_ (p := ⟨gb527, 0, none⟩) (rT_ HO_471001.out BK527.out (by decide)) (fun _ hk => hk.2) (.slice Ao144 t520.length co144)) (fun _ hk => hk.2) (.slice Ao150 t523.length co150)) (fun _ h_ => h_.1))) hb); have n2_ := aM_ (rB_ (by (with_reducible repeat (first | apply rA_ | apply rN_)); exact (rM_ (rF_ (p := ⟨gb527, 1, none⟩) (rF_ (p := ⟨gb527, 0, none⟩) (rT_ HO_478000.out BK527.out (by decide)) (fun _ hk => hk.2) (.slice Ao144 t520.length co144)) (fun _ hk => hk.2) (.slice Ao150 t523.length co150)) (fun _ h_ => h_.1))) hb); have n3_ := aM_ (rB_ (by (with_reducible repeat (first | apply rA_ | apply rN_)); exact (rM_ (rF_ (p := ⟨gb527, 1, none⟩) (rF_ (p := ⟨gb527, 0, none⟩) (rT_ HO_478001.out BK527.out (by decide)) (fun _ hk => hk.2) (.slice Ao144 t520.length co144)) (fun _ hk => hk.2) (.slice Ao150 t523.length co150)) (fun _ h_ => h_.1))) hb); have n4_ := aM_ (rB_ (by (with_reducible repeat (first | apply rA_ | apply rN_)); exact (rM_ (rF_ (p := ⟨gb527, 1, none⟩) (rF_ (p := ⟨gb527, 0, none⟩) (rT_ HO_489000.out BK527.out (by decide)) (fun _ hk => hk.2) (.slice Ao144 t520.length co144)) (fun _ hk => hk.2) (.slice Ao150 t523.length co150)) (fun _ h_ => h_.1))) hb); have n5_ := aM_ (rB_ (by (with_reducible repeat (first | apply rA_ | apply rN_)); exact (rM_ (rF_ (p := ⟨gb527, 1, none⟩) (rF_ (p := ⟨gb527, 0, none⟩) (rT_ HO_489001.out BK527.out (by decide)) (fun _ hk => hk.2) (.slice Ao144 t520.length co144)) (fun _ hk => hk.2) (.slice Ao150 t523.length co150)) (fun _ h_ => h_.1))) hb); have n6_ := aM_ (rB_ (by (with_reducible repeat (first | apply rA_ | apply rN_)); exact (rM_ (rF_ (p := ⟨gb527, 1, none⟩) (rF_ (p := ⟨gb527, 0, none⟩) (rT_ HO513.out BK527.out (by decide)) (fun _ hk => hk.2) (.slice Ao144 t520.length co144)) (fun _ hk => hk.2) (.slice Ao150 t523.length co150)) (fun _ h_ => h_.1))) hb); have n7_ := aM_ (rB_ (by (with_reducible repeat (first | apply rA_ | apply rN_)); exact (rM_ (rF_ (p := ⟨gb527, 1, none⟩) (rF_ (p := ⟨gb527, 0, none⟩) (rT_ HO516.out BK527.out (by decide)) (fun _ hk => hk.2) (.slice Ao144 t520.length co144)) (fun _ hk => hk.2) (.slice Ao150 t523.length co150)) (fun _ h_ => h_.1))) hb); have n8_ := aM_ (rB_ (by (with_reducible repeat (first | apply rA_ | apply rN_)); exact (rM_ (rF_ (p := ⟨gb527, 1, none⟩) (rF_ (p := ⟨gb527, 0, none⟩) (rT_ HO519.out BK527.out (by decide)) (fun _ hk => hk.2) (.slice Ao144 t520.length co144)) (fun _ hk => hk.2) (.slice Ao150 t523.length co150)) (fun _ h_ => h_.1))) hb); have n9_ := aM_ (rB_ (by (with_reducible repeat (first | apply rA_ | apply rN_)); exact (rM_ (rF_ (p := ⟨gb527, 1, none⟩) (rF_ (p := ⟨gb527, 0, none⟩) (rT_ HO522.out BK527.out (by decide)) (fun _ hk => hk.2) (.slice Ao144 t520.length co144)) (fun _ hk => hk.2) (.slice Ao150 t523.length co150)) (fun _ h_ => h_.1))) hb); have n10_ := aM_ (rB_ (by (with_reducible repeat (first | apply rA_ | apply rN_)); exact (rM_ (rF_ (p := ⟨gb527, 1, none⟩) (rF_ (p := ⟨gb527, 0, none⟩) (rT_ HO525.out BK527.out (by decide)) (fun _ hk => hk.2) (.slice Ao144 t520.length co144)) (fun _ hk => hk.2) (.slice Ao150 t523.length co150)) (fun _ h_ => h_.1))) hb); have n11_ := aM_ (kB_ (g := gb452) (o := .cells #[.slice A0_0 l0_0.length c0_0, .slice A0_1 l0_1.length c0_1] 32 (0, 0)) (by (with_reducible repeat (first | refine kN_ ?_ _ | refine kA_ ?_ _)); refine kF_ ?_ NB452_527.out _; (with_reducible repeat (first | refine kN_ ?_ _ | refine kA_ ?_ _)); refine kF_ ?_ NB452_527.out _; (with_reducible repeat (first | refine kN_ ?_ _ | refine kA_ ?_ _)); exact BK452.out) hb); have n12_ := aM_ (kB_ (g := gb470) (o := .cells #[.slice Ao28 t463.length co28, .slice Ao31 t466.length co31] 25 (0, 0)) (by (with_reducible repeat (first | refine kN_ ?_ _ | refine kA_ ?_ _)); refine kF_ ?_ NB470_527.out _; (with_reducible repeat (first | refine kN_ ?_ _ | refine kA_ ?_ _)); refine kF_ ?_ NB470_527.out _; (with_reducible repeat (first | refine kN_ ?_ _ | refine kA_ ?_ _)); exact BK470.out) hb); have n13_ := aM_ (kB_ (g := gb477) (o := .cells #[.slice Ao35 t502.length co35, .slice Ao39 t503.length co39] 25 (0, 0)) (by (with_reducible repeat (first | refine kN_ ?_ _ | refine kA_ ?_ _)); refine kF_ ?_ NB477_527.out _; (with_reducible repeat (first | refine kN_ ?_ _ | refine kA_ ?_ _)); refine kF_ ?_ NB477_527.out _; (with_reducible repeat (first | refine kN_ ?_ _ | refine kA_ ?_ _)); exact BK477.out) hb); have n14_ := aM_ (kB_ (g := gb488) (o := .cells #[.slice Ao45 t481.length co45, .slice Ao50 t484.length co50] 25 (0, 0)) (by (with_reducible repeat (first | refine kN_ ?_ _ | refine kA_ ?_ _)); refine kF_ ?_ NB488_527.out _; (with_reducible repeat (first | refine kN_ ?_ _ | refine kA_ ?_ _)); refine kF_ ?_ NB488_527.out _; (with_reducible repeat (first | refine kN_ ?_ _ | refine kA_ ?_ _)); exact BK488.out) hb); have n15_ := aM_ (kB_ (g := gb527) (o := .cells #[.slice Ao144 t520.length co144, .slice Ao150 t523.length co150] 25 (0, 0)) (by (with_reducible repeat (first | refine kN_ ?_ _ | refine kA_ ?_ _)); refine blk_put (cs := #[.slice Ao144 t520.length co144, .slice none 0 0]) ?_ 1 _ rfl; (with_reducible repeat (first | refine kN_ ?_ _ | refine kA_ ?_ _)); refine blk_put (cs := #[.slice none 0 0, .slice none 0 0]) ?_ 0 _ rfl; (with_reducible repeat (first | refine kN_ ?_ _ | refine kA_ ?_ _)); exact BK527.out) hb); have n16_ := aM_ (bP_ (by repeat (with_reducible first | exact HB.out | apply bA_ | apply bN_ | refine bS_ ?_ GE452.out | refine bS_ ?_ GE470.out | refine bS_ ?_ GE477.out | refine bS_ ?_ GE488.out | refine bS_ ?_ GE527.out)) hb); clear HO_471000; clear HO_471001; clear HO_478000; clear HO_478001; clear HO_489000; clear HO_489001; clear HO513; clear HO516; clear HO519; clear HO522; clear HO525; clear BK452; clear BK470; clear BK477; clear BK488; clear BK527; clear HB; have HO_471000 := n0_; have HO_471001 := n1_; have HO_478000 := n2_; have HO_478001 := n3_; have HO_489000 := n4_; have HO_489001 := n5_; have HO513 := n6_; have HO516 := n7_; have HO519 := n8_; have HO522 := n9_; have HO525 := n10_; have BK452 := n11_; have BK470 := n12_; have BK477 := n13_; have BK488 := n14_; have BK527 := n15_; have HB := n16_; clear n0_ n1_ n2_ n3_ n4_ n5_ n6_ n7_ n8_ n9_ n10_ n11_ n12_ n13_ n14_ n15_ n16_; (try clear hb); (try clear hb2); (try clear hk); (try clear hi)))
               go_meet
               case rel => exact ⟨_, (true), (by first | rfl | (simp [*]; done)), H', ⟨by have := HJ15.out; have := HJ77.out; first | omega | exact Nat.le_refl _⟩, ⟨by (try simp only [hl478000_77]); (try simp only [hl478001_77]); (with_reducible repeat (first | apply rA_ | apply rN_)); exact rM_ HO_471000.out (fun _ hk => ⟨hk.1.1.1, ⟨hk.1.1.2, hk.2⟩⟩)⟩, ⟨by (try simp only [hl478000_77]); (try simp only [hl478001_77]); (with_reducible repeat (first | apply rA_ | apply rN_)); exact rM_ HO_471001.out (fun _ hk => ⟨hk.1.1.1, ⟨hk.1.1.2, hk.2⟩⟩)⟩, ⟨by (try simp only [hl478000_77]); (try simp only [hl478001_77]); (with_reducible repeat (first | apply rA_ | apply rN_)); exact rM_ HO_478000.out (fun _ hk => ⟨hk.1.1.1, ⟨hk.1.1.2, hk.2⟩⟩)⟩, ⟨by (try simp only [hl478000_77]); (try simp only [hl478001_77]); (with_reducible repeat (first | apply rA_ | apply rN_)); exact rM_ HO_478001.out (fun _ hk => ⟨hk.1.1.1, ⟨hk.1.1.2, hk.2⟩⟩)⟩, ⟨by (try simp only [hl478000_77]); (try simp only [hl478001_77]); (with_reducible repeat (first | apply rA_ | apply rN_)); exact rM_ HO_489000.out (fun _ hk => ⟨hk.1.1.1, ⟨hk.1.1.2, hk.2⟩⟩)⟩, ⟨by (try simp only [hl478000_77]); (try simp only [hl478001_77]); (with_reducible repeat (first | apply rA_ | apply rN_)); exact rM_ HO_489001.out (fun _ hk => ⟨hk.1.1.1, ⟨hk.1.1.2, hk.2⟩⟩)⟩, ⟨by (try simp only [hl478000_77]); (try simp only [hl478001_77]); (with_reducible repeat (first | apply rA_ | apply rN_)); exact rM_ HO522.out (fun _ hk => ⟨hk.1.1.1.2, ⟨hk.1.1.2, hk.1.2⟩⟩)⟩, ⟨by (try simp only [hl478000_77]); (try simp only [hl478001_77]); (with_reducible repeat (first | apply rA_ | apply rN_)); exact rM_ HO525.out (fun _ hk => ⟨hk.1.1.1.2, ⟨hk.1.1.2, hk.1.2⟩⟩)⟩, ⟨by (try simp only [hl478000_77]); (try simp only [hl478001_77]); (with_reducible repeat (first | refine kN_ ?_ _ | refine kA_ ?_ _)); exact BK452.out⟩, ⟨by (try simp only [hl478000_77]); (try simp only [hl478001_77]); (with_reducible repeat (first | refine kN_ ?_ _ | refine kA_ ?_ _)); exact BK470.out⟩, ⟨by (try simp only [hl478000_77]); (try simp only [hl478001_77]); (with_reducible repeat (first | refine kN_ ?_ _ | refine kA_ ?_ _)); exact BK477.out⟩, ⟨by (try simp only [hl478000_77]); (try simp only [hl478001_77]); (with_reducible repeat (first | refine kN_ ?_ _ | refine kA_ ?_ _)); exact BK488.out⟩, ⟨by (try simp only [hl478000_77]); (try simp only [hl478001_77]); (with_reducible repeat (first | refine kN_ ?_ _ | refine kA_ ?_ _)); exact BK527.out⟩, ⟨by repeat (with_reducible first | exact HB.out | apply bA_ | apply bN_ | refine bS_ ?_ GE452.out | refine bS_ ?_ GE470.out | refine bS_ ?_ GE477.out | refine bS_ ?_ GE488.out | refine bS_ ?_ GE527.out)⟩⟩
             case rest =>
              clear HC126
              try clear c1
              try clear c2
              try clear p2
              try clear c3
              try clear c3b0
              try clear c3b1
              try clear c4
              try clear c5
              try clear c6
              try clear c6b0
              try clear c7
              try clear c8
              try clear c9
              try clear c10
              try clear c11
              try clear c12
              try clear c13
              try clear c14
              try clear c15
              try clear c16
              try clear c17
              try clear c24
              try clear c25
              try clear c26
              try clear c27
              try clear c28
              try clear c29
              try clear c36
              try clear c37
              try clear c46
              try clear c47
              try clear c48
              try clear c52
              try clear c53
              try clear c54
              try clear c55
              try clear c57
              try clear c58
              try clear c61
              try clear c62
              try clear c63
              try clear c65
              try clear c66
              try clear c69
              try clear c72
              try clear c75
              try clear c86
              try clear c87
              try clear c88
              try clear c92
              try clear c92b0
              try clear c94
              try clear c95
              try clear c96
              try clear c97
              try clear c99
              try clear c100
              try clear c103
              try clear c104
              try clear c105
              try clear c107
              try clear c108
              try clear c111
              try clear c114
              try clear c114b0
              try clear c115
              try clear c116
              try clear c117
              try clear c122
              try clear c122b0
              try clear c122b1
              try clear c127
              try clear c128
              try clear c129
              try clear c134
              try clear c135
              try clear c145
              try clear c146
              try clear c147
              try clear c148
              try clear c152
              try clear c153
              try clear c154
              try clear c155
              try clear c156
              try clear c158
              try clear c159
              try clear c160
              try clear c163
              try clear c164
              try clear c165
              try clear c166
              try clear c168
              try clear c169
              try clear c170
              try clear hcz101_0
              try clear hcz101_1
              try clear hcz106_0
              try clear hcz106_1
              try clear hcz109_0
              try clear hcz109_1
              try clear hcz118_0
              try clear hcz118_1
              try clear hcz120_0
              try clear hcz120_1
              try clear hcz130_0
              try clear hcz130_1
              try clear hcz132_0
              try clear hcz132_1
              try clear hcz136_0
              try clear hcz136_1
              try clear hcz149_0
              try clear hcz149_1
              try clear hcz157_0
              try clear hcz157_1
              try clear hcz161_0
              try clear hcz161_1
              try clear hcz167_0
              try clear hcz167_1
              try clear hcz171_0
              try clear hcz171_1
              try clear hcz18_0
              try clear hcz18_1
              try clear hcz20_0
              try clear hcz20_1
              try clear hcz30_0
              try clear hcz30_1
              try clear hcz32_0
              try clear hcz32_1
              try clear hcz38_0
              try clear hcz38_1
              try clear hcz41_0
              try clear hcz41_1
              try clear hcz49_0
              try clear hcz49_1
              try clear hcz56_0
              try clear hcz56_1
              try clear hcz59_0
              try clear hcz59_1
              try clear hcz64_0
              try clear hcz64_1
              try clear hcz67_0
              try clear hcz67_1
              try clear hcz89_0
              try clear hcz89_1
              try clear hcz8_0
              try clear hcz8_1
              try clear hcz98_0
              try clear hcz98_1
              try clear hfz101_0
              try clear hfz101_1
              try clear hfz106_0
              try clear hfz106_1
              try clear hfz109_0
              try clear hfz109_1
              try clear hfz118_0
              try clear hfz118_1
              try clear hfz120_0
              try clear hfz120_1
              try clear hfz130_0
              try clear hfz130_1
              try clear hfz132_0
              try clear hfz132_1
              try clear hfz136_0
              try clear hfz136_1
              try clear hfz149_0
              try clear hfz149_1
              try clear hfz157_0
              try clear hfz157_1
              try clear hfz161_0
              try clear hfz161_1
              try clear hfz167_0
              try clear hfz167_1
              try clear hfz171_0
              try clear hfz171_1
              try clear hfz18_0
              try clear hfz18_1
              try clear hfz20_0
              try clear hfz20_1
              try clear hfz30_0
              try clear hfz30_1
              try clear hfz32_0
              try clear hfz32_1
              try clear hfz38_0
              try clear hfz38_1
              try clear hfz41_0
              try clear hfz41_1
              try clear hfz49_0
              try clear hfz49_1
              try clear hfz56_0
              try clear hfz56_1
              try clear hfz59_0
              try clear hfz59_1
              try clear hfz64_0
              try clear hfz64_1
              try clear hfz67_0
              try clear hfz67_1
              try clear hfz89_0
              try clear hfz89_1
              try clear hfz8_0
              try clear hfz8_1
              try clear hfz98_0
              try clear hfz98_1
              try clear p2
              obtain ⟨kq, x108_125, rfl, HA, HJ125, HO_471000, HO_471001, HO_478000, HO_478001, HO_489000, HO_489001, HO_528000, HO_528001, BK452, BK470, BK477, BK488, BK527, HB⟩ := hcut
              have hl489000_125 := (rR_ HO_489000.out).1
              rw [hl489000_125] at HO_489000
              (try simp only [hl489000_125])
              (try simp only [hl489000_125] at BK452)
              (try simp only [hl489000_125] at BK470)
              (try simp only [hl489000_125] at BK477)
              (try simp only [hl489000_125] at BK488)
              (try simp only [hl489000_125] at BK527)
              (try simp only [hl489000_125] at HO_471000)
              (try simp only [hl489000_125] at HO_471001)
              (try simp only [hl489000_125] at HO_478000)
              (try simp only [hl489000_125] at HO_478001)
              (try simp only [hl489000_125] at HO_489001)
              (try simp only [hl489000_125] at HO_528000)
              (try simp only [hl489000_125] at HO_528001)
              have hl489001_125 := (rR_ HO_489001.out).1
              rw [hl489001_125] at HO_489001
              (try simp only [hl489001_125])
              (try simp only [hl489001_125] at BK452)
              (try simp only [hl489001_125] at BK470)
              (try simp only [hl489001_125] at BK477)
              (try simp only [hl489001_125] at BK488)
              (try simp only [hl489001_125] at BK527)
              (try simp only [hl489001_125] at HO_471000)
              (try simp only [hl489001_125] at HO_471001)
              (try simp only [hl489001_125] at HO_478000)
              (try simp only [hl489001_125] at HO_478001)
              (try simp only [hl489001_125] at HO_489000)
              (try simp only [hl489001_125] at HO_528000)
              (try simp only [hl489001_125] at HO_528001)
              cases kq with
              | zero => exact absurd HA.out (by simp [laws_FnExactCrashWith.j2])
              | succ kj125 =>
               have H := HA.out
               clear HA
               simp only [laws_FnExactCrashWith.j2] at H
               by_cases c173 : x108_125 = true
               ·subst c173
                have H1 : (some false) = some r := by rw [if_pos rfl] at H; exact H
                clear H
                have H := H1
                clear H1
                obtain rfl := Option.some.inj H
                go_wp2
                go_ret
                exact ⟨by first | rfl | (simp [errW_none, errW_some] <;> rfl) | (simp [*, errW_none, errW_some] <;> rfl), by repeat (with_reducible first | exact HB.out | apply bA_ | apply bN_ | refine bS_ ?_ GE452.out | refine bS_ ?_ GE470.out | refine bS_ ?_ GE477.out | refine bS_ ?_ GE488.out | refine bS_ ?_ GE527.out)⟩
               ·replace c173 := Bool.eq_false_iff.mpr c173
                subst c173
                have H1 : ((laws_heldDevice.f kj125 t508 t509 1).bind fun t529 => (if t529 < 0 then (some false) else (if t529 = t507 then (some true) else (some false)))) = some r := by rw [if_neg (show ¬ (false = true) by decide)] at H; exact H
                clear H
                have H := H1
                clear H1
                replace H := Option.bind_eq_some_iff.mp H
                obtain ⟨t529, A1740, H⟩ := H
                replace H : (if t529 < 0 then (some false) else (if t529 = t507 then (some true) else (some false))) = some r := H
                have A174 := aM_ A1740
                clear A1740
                by_cases c175 : t529 < 0
                ·rw [if_pos c175] at H
                 have c175b0 : decide (t529 < 0) = true := decide_eq_true c175
                 clear c175
                 obtain rfl := Option.some.inj H
                 have hnb176 := NB488_452.out
                 have hnc176 := NB452_488.out
                 have hnb177 := NB488_470.out
                 have hnc177 := NB470_488.out
                 have hnb178 := NB488_477.out
                 have hnc178 := NB477_488.out
                 have hnb179 := NB488_527.out
                 have hnc179 := NB527_488.out
                 have hcz180_0 : wc.cell? ⟨gb488, 0, none⟩ = some (.slice Ao45 t508.length co45) := (kC_ BK488.out 0).trans rfl
                 have hcz180_1 : wc.cell? ⟨gb488, 1, none⟩ = some (.slice Ao50 t509.length co50) := (kC_ BK488.out 1).trans rfl
                 have hfz180_0 := kZ_ BK488.out 0
                 have hfz180_1 := kZ_ BK488.out 1
                 go_wp2_with (first | ((with_reducible refine gate_callee (f := 13) rfl ?_); refine goesL_ (some 111) rfl rfl Try.func13 (by kernel_rfl) rfl #[.agg #[.slice Ao45 t508.length co45, .slice Ao50 t509.length co50], .int .i64 1] rfl (by (try simp only [List.map_toArray, List.map_cons, List.map_nil]); first | done | rfl | (simp only [List.length_drop, List.length_take]; rfl)) ?_; (with_reducible refine (laws_heldDevice.calls kj125 _ _ t508 _ _ t509 1 t529 _ ?side1 ?side2 ?side3 ?side4 A174.out).mono ?_); (case side1 => repeat (first | exact (rR_ HO_489000.out).2.2 | (with_reducible refine cA_ ?_ _) | (with_reducible refine cN_ ?_ _))); (case side2 => exact (rR_ HO_489000.out).2.1); (case side3 => repeat (first | exact (rR_ HO_489001.out).2.2 | (with_reducible refine cA_ ?_ _) | (with_reducible refine cN_ ?_ _))); (case side4 => exact (rR_ HO_489001.out).2.1); rintro e w181 ⟨rfl, hb⟩; refine ⟨_, rfl, ?_⟩; have n0_ := aM_ (rB_ (by (with_reducible repeat (first | apply rA_ | apply rN_)); exact HO_471000.out) hb); have n1_ := aM_ (rB_ (by (with_reducible repeat (first | apply rA_ | apply rN_)); exact HO_471001.out) hb); have n2_ := aM_ (rB_ (by (with_reducible repeat (first | apply rA_ | apply rN_)); exact HO_478000.out) hb); have n3_ := aM_ (rB_ (by (with_reducible repeat (first | apply rA_ | apply rN_)); exact HO_478001.out) hb); have n4_ := aM_ (rB_ (by (with_reducible repeat (first | apply rA_ | apply rN_)); exact HO_489000.out) hb); have n5_ := aM_ (rB_ (by (with_reducible repeat (first | apply rA_ | apply rN_)); exact HO_489001.out) hb); have n6_ := aM_ (rB_ (by (with_reducible repeat (first | apply rA_ | apply rN_)); exact HO_528000.out) hb); have n7_ := aM_ (rB_ (by (with_reducible repeat (first | apply rA_ | apply rN_)); exact HO_528001.out) hb); have n8_ := aM_ (kB_ (g := gb452) (o := .cells #[.slice A0_0 l0_0.length c0_0, .slice A0_1 l0_1.length c0_1] 32 (0, 0)) (by (with_reducible repeat (first | refine kN_ ?_ _ | refine kA_ ?_ _)); exact BK452.out) hb); have n9_ := aM_ (kB_ (g := gb470) (o := .cells #[.slice Ao28 t463.length co28, .slice Ao31 t466.length co31] 25 (0, 0)) (by (with_reducible repeat (first | refine kN_ ?_ _ | refine kA_ ?_ _)); exact BK470.out) hb); have n10_ := aM_ (kB_ (g := gb477) (o := .cells #[.slice Ao35 t502.length co35, .slice Ao39 t503.length co39] 25 (0, 0)) (by (with_reducible repeat (first | refine kN_ ?_ _ | refine kA_ ?_ _)); exact BK477.out) hb); have n11_ := aM_ (kB_ (g := gb488) (o := .cells #[.slice Ao45 t508.length co45, .slice Ao50 t509.length co50] 25 (0, 0)) (by (with_reducible repeat (first | refine kN_ ?_ _ | refine kA_ ?_ _)); exact BK488.out) hb); have n12_ := aM_ (kB_ (g := gb527) (o := .cells #[.slice Ao144 t520.length co144, .slice Ao150 t523.length co150] 25 (0, 0)) (by (with_reducible repeat (first | refine kN_ ?_ _ | refine kA_ ?_ _)); exact BK527.out) hb); have n13_ := aM_ (bP_ (by repeat (with_reducible first | exact HB.out | apply bA_ | apply bN_ | refine bS_ ?_ GE452.out | refine bS_ ?_ GE470.out | refine bS_ ?_ GE477.out | refine bS_ ?_ GE488.out | refine bS_ ?_ GE527.out)) hb); clear HO_471000; clear HO_471001; clear HO_478000; clear HO_478001; clear HO_489000; clear HO_489001; clear HO_528000; clear HO_528001; clear BK452; clear BK470; clear BK477; clear BK488; clear BK527; clear HB; have HO_471000 := n0_; have HO_471001 := n1_; have HO_478000 := n2_; have HO_478001 := n3_; have HO_489000 := n4_; have HO_489001 := n5_; have HO_528000 := n6_; have HO_528001 := n7_; have BK452 := n8_; have BK470 := n9_; have BK477 := n10_; have BK488 := n11_; have BK527 := n12_; have HB := n13_; clear n0_ n1_ n2_ n3_ n4_ n5_ n6_ n7_ n8_ n9_ n10_ n11_ n12_ n13_; (try clear hb); (try clear hb2); (try clear hk); (try clear hi)))
                 go_ret
                 exact ⟨by first | rfl | (simp [errW_none, errW_some] <;> rfl) | (simp [*, errW_none, errW_some] <;> rfl), by repeat (with_reducible first | exact HB.out | apply bA_ | apply bN_ | refine bS_ ?_ GE452.out | refine bS_ ?_ GE470.out | refine bS_ ?_ GE477.out | refine bS_ ?_ GE488.out | refine bS_ ?_ GE527.out)⟩
                ·rw [if_neg c175] at H
                 have c175b0 : decide (t529 < 0) = false := decide_eq_false c175
                 clear c175
                 by_cases c182 : t529 = t507
                 ·rw [if_pos c182] at H
                  have c182b0 : (t529 == t507) = true := beq_iff_eq.mpr c182
                  have c182b1 : (t529 != t507) = false := bne_eq_false_iff_eq.mpr c182
                  clear c182
                  obtain rfl := Option.some.inj H
                  have hnb183 := NB488_452.out
                  have hnc183 := NB452_488.out
                  have hnb184 := NB488_470.out
                  have hnc184 := NB470_488.out
                  have hnb185 := NB488_477.out
                  have hnc185 := NB477_488.out
                  have hnb186 := NB488_527.out
                  have hnc186 := NB527_488.out
                  have hcz187_0 : wc.cell? ⟨gb488, 0, none⟩ = some (.slice Ao45 t508.length co45) := (kC_ BK488.out 0).trans rfl
                  have hcz187_1 : wc.cell? ⟨gb488, 1, none⟩ = some (.slice Ao50 t509.length co50) := (kC_ BK488.out 1).trans rfl
                  have hfz187_0 := kZ_ BK488.out 0
                  have hfz187_1 := kZ_ BK488.out 1
                  go_wp2_with (first | ((with_reducible refine gate_callee (f := 13) rfl ?_); refine goesL_ (some 111) rfl rfl Try.func13 (by kernel_rfl) rfl #[.agg #[.slice Ao45 t508.length co45, .slice Ao50 t509.length co50], .int .i64 1] rfl (by (try simp only [List.map_toArray, List.map_cons, List.map_nil]); first | done | rfl | (simp only [List.length_drop, List.length_take]; rfl)) ?_; (with_reducible refine (laws_heldDevice.calls kj125 _ _ t508 _ _ t509 1 t529 _ ?side1 ?side2 ?side3 ?side4 A174.out).mono ?_); (case side1 => repeat (first | exact (rR_ HO_489000.out).2.2 | (with_reducible refine cA_ ?_ _) | (with_reducible refine cN_ ?_ _))); (case side2 => exact (rR_ HO_489000.out).2.1); (case side3 => repeat (first | exact (rR_ HO_489001.out).2.2 | (with_reducible refine cA_ ?_ _) | (with_reducible refine cN_ ?_ _))); (case side4 => exact (rR_ HO_489001.out).2.1); rintro e w188 ⟨rfl, hb⟩; refine ⟨_, rfl, ?_⟩; have n0_ := aM_ (rB_ (by (with_reducible repeat (first | apply rA_ | apply rN_)); exact HO_471000.out) hb); have n1_ := aM_ (rB_ (by (with_reducible repeat (first | apply rA_ | apply rN_)); exact HO_471001.out) hb); have n2_ := aM_ (rB_ (by (with_reducible repeat (first | apply rA_ | apply rN_)); exact HO_478000.out) hb); have n3_ := aM_ (rB_ (by (with_reducible repeat (first | apply rA_ | apply rN_)); exact HO_478001.out) hb); have n4_ := aM_ (rB_ (by (with_reducible repeat (first | apply rA_ | apply rN_)); exact HO_489000.out) hb); have n5_ := aM_ (rB_ (by (with_reducible repeat (first | apply rA_ | apply rN_)); exact HO_489001.out) hb); have n6_ := aM_ (rB_ (by (with_reducible repeat (first | apply rA_ | apply rN_)); exact HO_528000.out) hb); have n7_ := aM_ (rB_ (by (with_reducible repeat (first | apply rA_ | apply rN_)); exact HO_528001.out) hb); have n8_ := aM_ (kB_ (g := gb452) (o := .cells #[.slice A0_0 l0_0.length c0_0, .slice A0_1 l0_1.length c0_1] 32 (0, 0)) (by (with_reducible repeat (first | refine kN_ ?_ _ | refine kA_ ?_ _)); exact BK452.out) hb); have n9_ := aM_ (kB_ (g := gb470) (o := .cells #[.slice Ao28 t463.length co28, .slice Ao31 t466.length co31] 25 (0, 0)) (by (with_reducible repeat (first | refine kN_ ?_ _ | refine kA_ ?_ _)); exact BK470.out) hb); have n10_ := aM_ (kB_ (g := gb477) (o := .cells #[.slice Ao35 t502.length co35, .slice Ao39 t503.length co39] 25 (0, 0)) (by (with_reducible repeat (first | refine kN_ ?_ _ | refine kA_ ?_ _)); exact BK477.out) hb); have n11_ := aM_ (kB_ (g := gb488) (o := .cells #[.slice Ao45 t508.length co45, .slice Ao50 t509.length co50] 25 (0, 0)) (by (with_reducible repeat (first | refine kN_ ?_ _ | refine kA_ ?_ _)); exact BK488.out) hb); have n12_ := aM_ (kB_ (g := gb527) (o := .cells #[.slice Ao144 t520.length co144, .slice Ao150 t523.length co150] 25 (0, 0)) (by (with_reducible repeat (first | refine kN_ ?_ _ | refine kA_ ?_ _)); exact BK527.out) hb); have n13_ := aM_ (bP_ (by repeat (with_reducible first | exact HB.out | apply bA_ | apply bN_ | refine bS_ ?_ GE452.out | refine bS_ ?_ GE470.out | refine bS_ ?_ GE477.out | refine bS_ ?_ GE488.out | refine bS_ ?_ GE527.out)) hb); clear HO_471000; clear HO_471001; clear HO_478000; clear HO_478001; clear HO_489000; clear HO_489001; clear HO_528000; clear HO_528001; clear BK452; clear BK470; clear BK477; clear BK488; clear BK527; clear HB; have HO_471000 := n0_; have HO_471001 := n1_; have HO_478000 := n2_; have HO_478001 := n3_; have HO_489000 := n4_; have HO_489001 := n5_; have HO_528000 := n6_; have HO_528001 := n7_; have BK452 := n8_; have BK470 := n9_; have BK477 := n10_; have BK488 := n11_; have BK527 := n12_; have HB := n13_; clear n0_ n1_ n2_ n3_ n4_ n5_ n6_ n7_ n8_ n9_ n10_ n11_ n12_ n13_; (try clear hb); (try clear hb2); (try clear hk); (try clear hi)))
                  go_ret
                  exact ⟨by first | rfl | (simp [errW_none, errW_some] <;> rfl) | (simp [*, errW_none, errW_some] <;> rfl), by repeat (with_reducible first | exact HB.out | apply bA_ | apply bN_ | refine bS_ ?_ GE452.out | refine bS_ ?_ GE470.out | refine bS_ ?_ GE477.out | refine bS_ ?_ GE488.out | refine bS_ ?_ GE527.out)⟩
                 ·rw [if_neg c182] at H
                  have c182b0 : (t529 == t507) = false := beq_eq_false_iff_ne.mpr c182
                  have c182b1 : (t529 != t507) = true := bne_iff_ne.mpr c182
                  obtain rfl := Option.some.inj H
                  have hnb189 := NB488_452.out
                  have hnc189 := NB452_488.out
                  have hnb190 := NB488_470.out
                  have hnc190 := NB470_488.out
                  have hnb191 := NB488_477.out
                  have hnc191 := NB477_488.out
                  have hnb192 := NB488_527.out
                  have hnc192 := NB527_488.out
                  have hcz193_0 : wc.cell? ⟨gb488, 0, none⟩ = some (.slice Ao45 t508.length co45) := (kC_ BK488.out 0).trans rfl
                  have hcz193_1 : wc.cell? ⟨gb488, 1, none⟩ = some (.slice Ao50 t509.length co50) := (kC_ BK488.out 1).trans rfl
                  have hfz193_0 := kZ_ BK488.out 0
                  have hfz193_1 := kZ_ BK488.out 1
                  go_wp2_with (first | ((with_reducible refine gate_callee (f := 13) rfl ?_); refine goesL_ (some 111) rfl rfl Try.func13 (by kernel_rfl) rfl #[.agg #[.slice Ao45 t508.length co45, .slice Ao50 t509.length co50], .int .i64 1] rfl (by (try simp only [List.map_toArray, List.map_cons, List.map_nil]); first | done | rfl | (simp only [List.length_drop, List.length_take]; rfl)) ?_; (with_reducible refine (laws_heldDevice.calls kj125 _ _ t508 _ _ t509 1 t529 _ ?side1 ?side2 ?side3 ?side4 A174.out).mono ?_); (case side1 => repeat (first | exact (rR_ HO_489000.out).2.2 | (with_reducible refine cA_ ?_ _) | (with_reducible refine cN_ ?_ _))); (case side2 => exact (rR_ HO_489000.out).2.1); (case side3 => repeat (first | exact (rR_ HO_489001.out).2.2 | (with_reducible refine cA_ ?_ _) | (with_reducible refine cN_ ?_ _))); (case side4 => exact (rR_ HO_489001.out).2.1); rintro e w194 ⟨rfl, hb⟩; refine ⟨_, rfl, ?_⟩; have n0_ := aM_ (rB_ (by (with_reducible repeat (first | apply rA_ | apply rN_)); exact HO_471000.out) hb); have n1_ := aM_ (rB_ (by (with_reducible repeat (first | apply rA_ | apply rN_)); exact HO_471001.out) hb); have n2_ := aM_ (rB_ (by (with_reducible repeat (first | apply rA_ | apply rN_)); exact HO_478000.out) hb); have n3_ := aM_ (rB_ (by (with_reducible repeat (first | apply rA_ | apply rN_)); exact HO_478001.out) hb); have n4_ := aM_ (rB_ (by (with_reducible repeat (first | apply rA_ | apply rN_)); exact HO_489000.out) hb); have n5_ := aM_ (rB_ (by (with_reducible repeat (first | apply rA_ | apply rN_)); exact HO_489001.out) hb); have n6_ := aM_ (rB_ (by (with_reducible repeat (first | apply rA_ | apply rN_)); exact HO_528000.out) hb); have n7_ := aM_ (rB_ (by (with_reducible repeat (first | apply rA_ | apply rN_)); exact HO_528001.out) hb); have n8_ := aM_ (kB_ (g := gb452) (o := .cells #[.slice A0_0 l0_0.length c0_0, .slice A0_1 l0_1.length c0_1] 32 (0, 0)) (by (with_reducible repeat (first | refine kN_ ?_ _ | refine kA_ ?_ _)); exact BK452.out) hb); have n9_ := aM_ (kB_ (g := gb470) (o := .cells #[.slice Ao28 t463.length co28, .slice Ao31 t466.length co31] 25 (0, 0)) (by (with_reducible repeat (first | refine kN_ ?_ _ | refine kA_ ?_ _)); exact BK470.out) hb); have n10_ := aM_ (kB_ (g := gb477) (o := .cells #[.slice Ao35 t502.length co35, .slice Ao39 t503.length co39] 25 (0, 0)) (by (with_reducible repeat (first | refine kN_ ?_ _ | refine kA_ ?_ _)); exact BK477.out) hb); have n11_ := aM_ (kB_ (g := gb488) (o := .cells #[.slice Ao45 t508.length co45, .slice Ao50 t509.length co50] 25 (0, 0)) (by (with_reducible repeat (first | refine kN_ ?_ _ | refine kA_ ?_ _)); exact BK488.out) hb); have n12_ := aM_ (kB_ (g := gb527) (o := .cells #[.slice Ao144 t520.length co144, .slice Ao150 t523.length co150] 25 (0, 0)) (by (with_reducible repeat (first | refine kN_ ?_ _ | refine kA_ ?_ _)); exact BK527.out) hb); have n13_ := aM_ (bP_ (by repeat (with_reducible first | exact HB.out | apply bA_ | apply bN_ | refine bS_ ?_ GE452.out | refine bS_ ?_ GE470.out | refine bS_ ?_ GE477.out | refine bS_ ?_ GE488.out | refine bS_ ?_ GE527.out)) hb); clear HO_471000; clear HO_471001; clear HO_478000; clear HO_478001; clear HO_489000; clear HO_489001; clear HO_528000; clear HO_528001; clear BK452; clear BK470; clear BK477; clear BK488; clear BK527; clear HB; have HO_471000 := n0_; have HO_471001 := n1_; have HO_478000 := n2_; have HO_478001 := n3_; have HO_489000 := n4_; have HO_489001 := n5_; have HO_528000 := n6_; have HO_528001 := n7_; have BK452 := n8_; have BK470 := n9_; have BK477 := n10_; have BK488 := n11_; have BK527 := n12_; have HB := n13_; clear n0_ n1_ n2_ n3_ n4_ n5_ n6_ n7_ n8_ n9_ n10_ n11_ n12_ n13_; (try clear hb); (try clear hb2); (try clear hk); (try clear hi)))
                  go_ret
                  exact ⟨by first | rfl | (simp [errW_none, errW_some] <;> rfl) | (simp [*, errW_none, errW_some] <;> rfl), by repeat (with_reducible first | exact HB.out | apply bA_ | apply bN_ | refine bS_ ?_ GE452.out | refine bS_ ?_ GE470.out | refine bS_ ?_ GE477.out | refine bS_ ?_ GE488.out | refine bS_ ?_ GE527.out)⟩
            ·rw [if_neg c122] at H
             have c122b0 : (t510 == t507) = false := beq_eq_false_iff_ne.mpr c122
             have c122b1 : (t510 != t507) = true := bne_iff_ne.mpr c122
             obtain rfl := Option.some.inj H
             have hnb195 := NB488_452.out
             have hnc195 := NB452_488.out
             have hnb196 := NB488_470.out
             have hnc196 := NB470_488.out
             have hnb197 := NB488_477.out
             have hnc197 := NB477_488.out
             have hcz198_0 : wc.cell? ⟨gb488, 0, none⟩ = some (.slice Ao45 t481.length co45) := (kC_ BK488.out 0).trans rfl
             have hcz198_1 : wc.cell? ⟨gb488, 1, none⟩ = some (.slice Ao50 t484.length co50) := (kC_ BK488.out 1).trans rfl
             have hfz198_0 := kZ_ BK488.out 0
             have hfz198_1 := kZ_ BK488.out 1
             go_wp2_with (first | ((with_reducible refine gate_callee (f := 12) rfl ?_); refine goesL_ (some 83) rfl rfl Try.func12 (by kernel_rfl) rfl #[.agg #[.slice Ao45 t481.length co45, .slice Ao50 t484.length co50], .int .i64 1] rfl (by (try simp only [List.map_toArray, List.map_cons, List.map_nil]); first | done | rfl | (simp only [List.length_drop, List.length_take]; rfl)) ?_; (with_reducible refine (laws_markDevice.calls kj77 (fun k_ => some k_ = (.slice Ao45 t481.length co45 : Value).ownBlock) (.slice Ao45 t481.length co45) t481 (fun k_ => some k_ = (.slice Ao50 t484.length co50 : Value).ownBlock) (.slice Ao50 t484.length co50) t484 1 t507 t508 t509 w _ ?side1 ?side2 ?side3 A112.out).mono ?_); (case side1 => repeat (with_reducible first | exact HB.out | apply bA_ | apply bN_ | refine bS_ ?_ GE452.out | refine bS_ ?_ GE470.out | refine bS_ ?_ GE477.out | refine bS_ ?_ GE488.out)); (case side2 => exact Kd.R_tight rfl HO_489000.out); (case side3 => exact Kd.R_tight rfl HO_489001.out); rintro e w199 ⟨rfl, hy0, hy1, hb, hkp⟩; refine ⟨_, rfl, ?_⟩; have n0_ := aM_ (rM_ (ok' := fun k_ => some k_ ≠ (.slice Ao35 t502.length co35 : Value).ownBlock ∧ some k_ ≠ (.slice Ao45 t481.length co45 : Value).ownBlock) (Kd.R_keptB ((Kd.R_apart' HO_471000.out (Kd.R_typed HO_489001.out) (by decide))) hkp (fun k_ hk_ hs_ => Or.elim hs_ (fun e_ => (hk_.1.2) e_) (fun e_ => (hk_.2) e_))) (fun k_ hk_ => ⟨hk_.1.1.1, hk_.1.1.2⟩)); have n1_ := aM_ (rM_ (ok' := fun k_ => some k_ ≠ (.slice Ao39 t503.length co39 : Value).ownBlock ∧ some k_ ≠ (.slice Ao50 t484.length co50 : Value).ownBlock) (Kd.R_keptB ((Kd.R_apart' HO_471001.out (Kd.R_typed HO_489000.out) (by decide))) hkp (fun k_ hk_ hs_ => Or.elim hs_ (fun e_ => (hk_.2) e_) (fun e_ => (hk_.1.2) e_))) (fun k_ hk_ => ⟨hk_.1.1.1, hk_.1.1.2⟩)); have n2_ := aM_ (rM_ (ok' := fun k_ => some k_ ≠ (.slice Ao28 t463.length co28 : Value).ownBlock ∧ some k_ ≠ (.slice Ao45 t481.length co45 : Value).ownBlock) (Kd.R_keptB ((Kd.R_apart' HO_478000.out (Kd.R_typed HO_489001.out) (by decide))) hkp (fun k_ hk_ hs_ => Or.elim hs_ (fun e_ => (hk_.1.2) e_) (fun e_ => (hk_.2) e_))) (fun k_ hk_ => ⟨hk_.1.1.1, hk_.1.1.2⟩)); have n3_ := aM_ (rM_ (ok' := fun k_ => some k_ ≠ (.slice Ao31 t466.length co31 : Value).ownBlock ∧ some k_ ≠ (.slice Ao50 t484.length co50 : Value).ownBlock) (Kd.R_keptB ((Kd.R_apart' HO_478001.out (Kd.R_typed HO_489000.out) (by decide))) hkp (fun k_ hk_ hs_ => Or.elim hs_ (fun e_ => (hk_.2) e_) (fun e_ => (hk_.1.2) e_))) (fun k_ hk_ => ⟨hk_.1.1.1, hk_.1.1.2⟩)); have n4_ := aM_ (Kd.R_reok rfl hy0 (fun k_ e_ => HO_489000.out.1 k_ e_)); have n5_ := aM_ (Kd.R_reok rfl hy1 (fun k_ e_ => HO_489001.out.1 k_ e_)); have n6_ := aM_ (kK_ (by (with_reducible repeat (first | refine kN_ ?_ _ | refine kA_ ?_ _)); exact BK452.out) hkp (fun hs_ => Or.elim hs_ (fun e_ => (fun e_ => (rQ_ HO_489000.out BK452.out (by decide)) e_) e_) (fun e_ => (fun e_ => (rQ_ HO_489001.out BK452.out (by decide)) e_) e_))); have n7_ := aM_ (kK_ (by (with_reducible repeat (first | refine kN_ ?_ _ | refine kA_ ?_ _)); exact BK470.out) hkp (fun hs_ => Or.elim hs_ (fun e_ => (fun e_ => (rQ_ HO_489000.out BK470.out (by decide)) e_) e_) (fun e_ => (fun e_ => (rQ_ HO_489001.out BK470.out (by decide)) e_) e_))); have n8_ := aM_ (kK_ (by (with_reducible repeat (first | refine kN_ ?_ _ | refine kA_ ?_ _)); exact BK477.out) hkp (fun hs_ => Or.elim hs_ (fun e_ => (fun e_ => (rQ_ HO_489000.out BK477.out (by decide)) e_) e_) (fun e_ => (fun e_ => (rQ_ HO_489001.out BK477.out (by decide)) e_) e_))); have n9_ := aM_ (kK_ (by (with_reducible repeat (first | refine kN_ ?_ _ | refine kA_ ?_ _)); exact BK488.out) hkp (fun hs_ => Or.elim hs_ (fun e_ => (fun e_ => (rQ_ HO_489000.out BK488.out (by decide)) e_) e_) (fun e_ => (fun e_ => (rQ_ HO_489001.out BK488.out (by decide)) e_) e_))); have n10_ := aM_ (hb); clear HO_471000; clear HO_471001; clear HO_478000; clear HO_478001; clear HO_489000; clear HO_489001; clear BK452; clear BK470; clear BK477; clear BK488; clear HB; have HO_471000 := n0_; have HO_471001 := n1_; have HO_478000 := n2_; have HO_478001 := n3_; have HO_489000 := n4_; have HO_489001 := n5_; have BK452 := n6_; have BK470 := n7_; have BK477 := n8_; have BK488 := n9_; have HB := n10_; clear n0_ n1_ n2_ n3_ n4_ n5_ n6_ n7_ n8_ n9_ n10_; (try clear hb); (try clear hkp); (try clear hy0); (try clear hy1); have hcz200_0 : w199.cell? ⟨gb488, 0, none⟩ = some (.slice Ao45 t481.length co45) := (kC_ BK488.out 0).trans rfl; have hcz200_1 : w199.cell? ⟨gb488, 1, none⟩ = some (.slice Ao50 t484.length co50) := (kC_ BK488.out 1).trans rfl; have hfz200_0 := kZ_ BK488.out 0; have hfz200_1 := kZ_ BK488.out 1) | ((with_reducible refine gate_callee (f := 13) rfl ?_); refine goesL_ (some 86) rfl rfl Try.func13 (by kernel_rfl) rfl #[.agg #[.slice Ao45 t508.length co45, .slice Ao50 t509.length co50], .int .i64 1] rfl (by (try simp only [List.map_toArray, List.map_cons, List.map_nil]); first | done | (rw [show t508.length = t481.length from (rR_ HO_489000.out).1.symm, show t509.length = t484.length from (rR_ HO_489001.out).1.symm] <;> rfl) | rfl | (simp only [List.length_drop, List.length_take]; rfl)) ?_; (with_reducible refine (laws_heldDevice.calls kj77 _ _ t508 _ _ t509 1 t510 _ ?side1 ?side2 ?side3 ?side4 A113.out).mono ?_); (case side1 => repeat (first | exact (rR_ HO_489000.out).2.2 | (with_reducible refine cA_ ?_ _) | (with_reducible refine cN_ ?_ _))); (case side2 => rw [show t508.length = t481.length from (rR_ HO_489000.out).1.symm]; exact (rR_ HO_489000.out).2.1); (case side3 => repeat (first | exact (rR_ HO_489001.out).2.2 | (with_reducible refine cA_ ?_ _) | (with_reducible refine cN_ ?_ _))); (case side4 => rw [show t509.length = t484.length from (rR_ HO_489001.out).1.symm]; exact (rR_ HO_489001.out).2.1); rintro e w201 ⟨rfl, hb⟩; refine ⟨_, rfl, ?_⟩; have n0_ := aM_ (rB_ (by (with_reducible repeat (first | apply rA_ | apply rN_)); exact HO_471000.out) hb); have n1_ := aM_ (rB_ (by (with_reducible repeat (first | apply rA_ | apply rN_)); exact HO_471001.out) hb); have n2_ := aM_ (rB_ (by (with_reducible repeat (first | apply rA_ | apply rN_)); exact HO_478000.out) hb); have n3_ := aM_ (rB_ (by (with_reducible repeat (first | apply rA_ | apply rN_)); exact HO_478001.out) hb); have n4_ := aM_ (rB_ (by (with_reducible repeat (first | apply rA_ | apply rN_)); exact HO_489000.out) hb); have n5_ := aM_ (rB_ (by (with_reducible repeat (first | apply rA_ | apply rN_)); exact HO_489001.out) hb); have n6_ := aM_ (kB_ (g := gb452) (o := .cells #[.slice A0_0 l0_0.length c0_0, .slice A0_1 l0_1.length c0_1] 32 (0, 0)) (by (with_reducible repeat (first | refine kN_ ?_ _ | refine kA_ ?_ _)); exact BK452.out) hb); have n7_ := aM_ (kB_ (g := gb470) (o := .cells #[.slice Ao28 t463.length co28, .slice Ao31 t466.length co31] 25 (0, 0)) (by (with_reducible repeat (first | refine kN_ ?_ _ | refine kA_ ?_ _)); exact BK470.out) hb); have n8_ := aM_ (kB_ (g := gb477) (o := .cells #[.slice Ao35 t502.length co35, .slice Ao39 t503.length co39] 25 (0, 0)) (by (with_reducible repeat (first | refine kN_ ?_ _ | refine kA_ ?_ _)); exact BK477.out) hb); have n9_ := aM_ (kB_ (g := gb488) (o := .cells #[.slice Ao45 t481.length co45, .slice Ao50 t484.length co50] 25 (0, 0)) (by (with_reducible repeat (first | refine kN_ ?_ _ | refine kA_ ?_ _)); exact BK488.out) hb); have n10_ := aM_ (bP_ (by repeat (with_reducible first | exact HB.out | apply bA_ | apply bN_ | refine bS_ ?_ GE452.out | refine bS_ ?_ GE470.out | refine bS_ ?_ GE477.out | refine bS_ ?_ GE488.out)) hb); clear HO_471000; clear HO_471001; clear HO_478000; clear HO_478001; clear HO_489000; clear HO_489001; clear BK452; clear BK470; clear BK477; clear BK488; clear HB; have HO_471000 := n0_; have HO_471001 := n1_; have HO_478000 := n2_; have HO_478001 := n3_; have HO_489000 := n4_; have HO_489001 := n5_; have BK452 := n6_; have BK470 := n7_; have BK477 := n8_; have BK488 := n9_; have HB := n10_; clear n0_ n1_ n2_ n3_ n4_ n5_ n6_ n7_ n8_ n9_ n10_; (try clear hb); (try clear hb2); (try clear hk); (try clear hi)))
             go_ret
             exact ⟨by first | rfl | (simp [errW_none, errW_some] <;> rfl) | (simp [*, errW_none, errW_some] <;> rfl), by repeat (with_reducible first | exact HB.out | apply bA_ | apply bN_ | refine bS_ ?_ GE452.out | refine bS_ ?_ GE470.out | refine bS_ ?_ GE477.out | refine bS_ ?_ GE488.out)⟩
       ·replace c75 := Bool.eq_false_iff.mpr c75
        subst c75
        have H1 : (some false) = some r := by rw [if_neg (show ¬ (false = true) by decide)] at H; exact H
        clear H
        have H := H1
        clear H1
        obtain rfl := Option.some.inj H
        try go_wp2
        have n0_ := aM_ (rD_ HO_9.out)
        have n1_ := aM_ (rD_ HO_471000.out)
        have n2_ := aM_ (rD_ HO_471001.out)
        have n3_ := aM_ (rD_ HO_478000.out)
        have n4_ := aM_ (rD_ HO_478001.out)
        have n5_ := aM_ (rD_ HO_489000.out)
        have n6_ := aM_ (rD_ HO_489001.out)
        have n7_ := aM_ (kD_ BK452.out)
        have n8_ := aM_ (kD_ BK470.out)
        have n9_ := aM_ (kD_ BK477.out)
        have n10_ := aM_ (kD_ BK488.out)
        have n11_ := aM_ (bD_ HB.out)
        clear HO_9
        clear HO_471000
        clear HO_471001
        clear HO_478000
        clear HO_478001
        clear HO_489000
        clear HO_489001
        clear BK452
        clear BK470
        clear BK477
        clear BK488
        clear HB
        have HO_9 := n0_
        have HO_471000 := n1_
        have HO_471001 := n2_
        have HO_478000 := n3_
        have HO_478001 := n4_
        have HO_489000 := n5_
        have HO_489001 := n6_
        have BK452 := n7_
        have BK470 := n8_
        have BK477 := n9_
        have BK488 := n10_
        have HB := n11_
        clear n0_ n1_ n2_ n3_ n4_ n5_ n6_ n7_ n8_ n9_ n10_ n11_
        refine start_ (n := 5) (S := fun w' => w'.cell? ⟨gb477, 0, none⟩ = some (.slice Ao35 t471.length co35) ∧ w'.cell? ⟨gb477, 1, none⟩ = some (.slice Ao39 t474.length co39) ∧ w'.cell? ⟨gb452, 0, none⟩ = some (.slice A0_0 l0_0.length c0_0) ∧ w'.cell? ⟨gb452, 1, none⟩ = some (.slice A0_1 l0_1.length c0_1)) (ds := []) #[false, false, false, false, false] (by kernel_rfl) rfl rfl ⟨(kC_ BK477.out 0).trans rfl, (kC_ BK477.out 1).trans rfl, (kC_ BK452.out 0).trans rfl, (kC_ BK452.out 1).trans rfl⟩ (fun hHeld => ?_)
        generalize wc.drew = w202 at HO_9 HO_471000 HO_471001 HO_478000 HO_478001 HO_489000 HO_489001 BK452 BK470 BK477 BK488 HB hHeld ⊢
        refine take_ (i := 0) (N := some 52) (v := ?_) (a' := ?_) #[true, false, false, false, false] rfl rfl (by kernel_rfl) (fun _ _ _ h => h) (Or.inl ⟨by rfl, ?_⟩) hHeld ?_ ?_
        rotate_left
        ·rintro w' ⟨s0, s1, s2, s3⟩
         go_simp
         with_reducible rfl
        rotate_left
        ·simp only [Act.put, List.setIfInBounds_toArray, List.set_cons_zero, List.set_cons_succ, i64_w, i32_w]
         rfl
        refine take_ (i := 1) (N := some 53) (v := ?_) (a' := ?_) #[true, true, false, false, false] rfl rfl (by kernel_rfl) (fun _ _ _ h => h) (Or.inl ⟨by rfl, ?_⟩) hHeld ?_ ?_
        rotate_left
        ·rintro w' ⟨s0, s1, s2, s3⟩
         go_simp
         with_reducible rfl
        rotate_left
        ·simp only [Act.put, List.setIfInBounds_toArray, List.set_cons_zero, List.set_cons_succ, i64_w, i32_w]
         rfl
        refine one_ (i := 2) (N := some 54) #[true, true, true, false, false] rfl rfl (by kernel_rfl) (by decide) (fun K hK => ?_)
        refine goes_ Try.func16 (by kernel_rfl) rfl #[.agg #[.slice A0_0 l0_0.length c0_0, .slice A0_1 l0_1.length c0_1]] (by rfl) rfl rfl (by (try simp only [List.map_toArray, List.map_cons, List.map_nil]); first | done | rfl | (simp only [List.length_drop, List.length_take]; rfl)) ?_
        with_reducible refine (laws_toDevice.calls kj15 _ _ l0_0 _ _ l0_1 t490 t493 _ ?side1 ?side2 ?side3 ?side4 A70.out).mono ?_
        (case side1 => repeat (first | exact (cB_ HR0_0.out HB.out) | (with_reducible refine cA_ ?_ _) | (with_reducible refine cN_ ?_ _)))
        (case side2 => exact HC0_0.out)
        (case side3 => repeat (first | exact (cB_ HR0_1.out HB.out) | (with_reducible refine cA_ ?_ _) | (with_reducible refine cN_ ?_ _)))
        (case side4 => exact HC0_1.out)
        rintro e w203 ⟨v491, v494, rfl, ho0, ho1, hb⟩
        refine ⟨_, rfl, ?_⟩
        have n0_ := aM_ (rB_ (by (with_reducible repeat (first | apply rA_ | apply rN_)); exact HO_9.out) hb)
        have n1_ := aM_ (rE_ (by (with_reducible repeat (first | apply rA_ | apply rN_)); exact HO_471000.out) (rS_ ho0) hb)
        have n2_ := aM_ (rE_ (by (with_reducible repeat (first | apply rA_ | apply rN_)); exact HO_471001.out) (rS_ ho1) hb)
        have n3_ := aM_ (rE_ (by (with_reducible repeat (first | apply rA_ | apply rN_)); exact HO_478000.out) (rS_ ho0) hb)
        have n4_ := aM_ (rE_ (by (with_reducible repeat (first | apply rA_ | apply rN_)); exact HO_478001.out) (rS_ ho1) hb)
        have n5_ := aM_ (rE_ (by (with_reducible repeat (first | apply rA_ | apply rN_)); exact HO_489000.out) (rS_ ho0) hb)
        have n6_ := aM_ (rE_ (by (with_reducible repeat (first | apply rA_ | apply rN_)); exact HO_489001.out) (rS_ ho1) hb)
        have n7_ := aM_ (rO_ (rW_ (rW_ (rW_ ho0 (rL_ (by (with_reducible repeat (first | apply rA_ | apply rN_)); exact HO_471000.out))) (rL_ (by (with_reducible repeat (first | apply rA_ | apply rN_)); exact HO_478000.out))) (rL_ (by (with_reducible repeat (first | apply rA_ | apply rN_)); exact HO_489000.out))) (bZ_ (by repeat (with_reducible first | exact HB.out | apply bA_ | apply bN_ | refine bS_ ?_ GE452.out | refine bS_ ?_ GE470.out | refine bS_ ?_ GE477.out | refine bS_ ?_ GE488.out))))
        have n8_ := aM_ (rO_ (rW_ (rW_ (rW_ ho1 (rL_ (by (with_reducible repeat (first | apply rA_ | apply rN_)); exact HO_471001.out))) (rL_ (by (with_reducible repeat (first | apply rA_ | apply rN_)); exact HO_478001.out))) (rL_ (by (with_reducible repeat (first | apply rA_ | apply rN_)); exact HO_489001.out))) (bZ_ (by repeat (with_reducible first | exact HB.out | apply bA_ | apply bN_ | refine bS_ ?_ GE452.out | refine bS_ ?_ GE470.out | refine bS_ ?_ GE477.out | refine bS_ ?_ GE488.out))))
        have n9_ := aM_ (kB_ (g := gb452) (o := .cells #[.slice A0_0 l0_0.length c0_0, .slice A0_1 l0_1.length c0_1] 32 (0, 0)) (by (with_reducible repeat (first | refine kN_ ?_ _ | refine kA_ ?_ _)); exact BK452.out) hb)
        have n10_ := aM_ (kB_ (g := gb470) (o := .cells #[.slice Ao28 t463.length co28, .slice Ao31 t466.length co31] 25 (0, 0)) (by (with_reducible repeat (first | refine kN_ ?_ _ | refine kA_ ?_ _)); exact BK470.out) hb)
        have n11_ := aM_ (kB_ (g := gb477) (o := .cells #[.slice Ao35 t471.length co35, .slice Ao39 t474.length co39] 25 (0, 0)) (by (with_reducible repeat (first | refine kN_ ?_ _ | refine kA_ ?_ _)); exact BK477.out) hb)
        have n12_ := aM_ (kB_ (g := gb488) (o := .cells #[.slice Ao45 t481.length co45, .slice Ao50 t484.length co50] 25 (0, 0)) (by (with_reducible repeat (first | refine kN_ ?_ _ | refine kA_ ?_ _)); exact BK488.out) hb)
        have n13_ := aM_ (bP_ (by repeat (with_reducible first | exact HB.out | apply bA_ | apply bN_ | refine bS_ ?_ GE452.out | refine bS_ ?_ GE470.out | refine bS_ ?_ GE477.out | refine bS_ ?_ GE488.out)) hb)
        clear HO_9
        clear HO_471000
        clear HO_471001
        clear HO_478000
        clear HO_478001
        clear HO_489000
        clear HO_489001
        clear BK452
        clear BK470
        clear BK477
        clear BK488
        clear HB
        have HO_9 := n0_
        have HO_471000 := n1_
        have HO_471001 := n2_
        have HO_478000 := n3_
        have HO_478001 := n4_
        have HO_489000 := n5_
        have HO_489001 := n6_
        have HO492 := n7_
        have HO495 := n8_
        have BK452 := n9_
        have BK470 := n10_
        have BK477 := n11_
        have BK488 := n12_
        have HB := n13_
        clear n0_ n1_ n2_ n3_ n4_ n5_ n6_ n7_ n8_ n9_ n10_ n11_ n12_ n13_
        (try clear hb)
        (try clear hb2)
        (try clear hk)
        (try clear hi)
        (try clear ho0)
        (try clear ho1)
        obtain ⟨Ao204, co204, eo204⟩ := Kd.R_slice HO492.out
        (first | subst eo204 | (injection eo204 with f1_ f2_ f3_; have f4_ := f1_.symm; have f5_ := f3_.symm; clear f1_ f2_ f3_; subst f4_; subst f5_))
        obtain ⟨Ao205, co205, eo205⟩ := Kd.R_slice HO495.out
        (first | subst eo205 | (injection eo205 with f1_ f2_ f3_; have f4_ := f1_.symm; have f5_ := f3_.symm; clear f1_ f2_ f3_; subst f4_; subst f5_))
        refine hK.out _ _ ⟨(kC_ BK477.out 0).trans rfl, (kC_ BK477.out 1).trans rfl, (kC_ BK452.out 0).trans rfl, (kC_ BK452.out 1).trans rfl⟩ (fun hHeld => ?_)
        clear hK K
        refine norm_ (a' := ?_) ?_ ?_
        rotate_left
        ·show Act.put _ (some 54) _ = _
         simp only [Act.put, List.setIfInBounds_toArray, List.set_cons_zero, List.set_cons_succ, i64_w, i32_w]
         rfl
        refine one_ (i := 3) (N := some 55) #[true, true, true, true, false] rfl rfl (by kernel_rfl) (by decide) (fun K hK => ?_)
        refine goes_ Try.func11 (by kernel_rfl) rfl #[.agg #[.slice Ao35 t471.length co35, .slice Ao39 t474.length co39], .agg #[.slice Ao204 t490.length co204, .slice Ao205 t493.length co205]] (by rfl) rfl rfl (by (try simp only [List.map_toArray, List.map_cons, List.map_nil]); first | done | rfl | (simp only [List.length_drop, List.length_take]; rfl)) ?_
        with_reducible refine (laws_eqDevice.calls kj15 _ _ t471 _ _ t474 _ _ t490 _ _ t493 true _ ?side1 ?side2 ?side3 ?side4 ?side5 ?side6 ?side7 ?side8 A71.out).mono ?_
        (case side1 => repeat (first | exact (rR_ HO_478000.out).2.2 | (with_reducible refine cA_ ?_ _) | (with_reducible refine cN_ ?_ _)))
        (case side2 => exact (rR_ HO_478000.out).2.1)
        (case side3 => repeat (first | exact (rR_ HO_478001.out).2.2 | (with_reducible refine cA_ ?_ _) | (with_reducible refine cN_ ?_ _)))
        (case side4 => exact (rR_ HO_478001.out).2.1)
        (case side5 => repeat (first | exact (rR_ HO492.out).2.2 | (with_reducible refine cA_ ?_ _) | (with_reducible refine cN_ ?_ _)))
        (case side6 => exact (rR_ HO492.out).2.1)
        (case side7 => repeat (first | exact (rR_ HO495.out).2.2 | (with_reducible refine cA_ ?_ _) | (with_reducible refine cN_ ?_ _)))
        (case side8 => exact (rR_ HO495.out).2.1)
        rintro e w206 ⟨rfl, hb⟩
        refine ⟨_, rfl, ?_⟩
        have n0_ := aM_ (rB_ (by (with_reducible repeat (first | apply rA_ | apply rN_)); exact HO_9.out) hb)
        have n1_ := aM_ (rB_ (by (with_reducible repeat (first | apply rA_ | apply rN_)); exact HO_471000.out) hb)
        have n2_ := aM_ (rB_ (by (with_reducible repeat (first | apply rA_ | apply rN_)); exact HO_471001.out) hb)
        have n3_ := aM_ (rB_ (by (with_reducible repeat (first | apply rA_ | apply rN_)); exact HO_478000.out) hb)
        have n4_ := aM_ (rB_ (by (with_reducible repeat (first | apply rA_ | apply rN_)); exact HO_478001.out) hb)
        have n5_ := aM_ (rB_ (by (with_reducible repeat (first | apply rA_ | apply rN_)); exact HO_489000.out) hb)
        have n6_ := aM_ (rB_ (by (with_reducible repeat (first | apply rA_ | apply rN_)); exact HO_489001.out) hb)
        have n7_ := aM_ (rB_ (by (with_reducible repeat (first | apply rA_ | apply rN_)); exact HO492.out) hb)
        have n8_ := aM_ (rB_ (by (with_reducible repeat (first | apply rA_ | apply rN_)); exact HO495.out) hb)
        have n9_ := aM_ (kB_ (g := gb452) (o := .cells #[.slice A0_0 l0_0.length c0_0, .slice A0_1 l0_1.length c0_1] 32 (0, 0)) (by (with_reducible repeat (first | refine kN_ ?_ _ | refine kA_ ?_ _)); exact BK452.out) hb)
        have n10_ := aM_ (kB_ (g := gb470) (o := .cells #[.slice Ao28 t463.length co28, .slice Ao31 t466.length co31] 25 (0, 0)) (by (with_reducible repeat (first | refine kN_ ?_ _ | refine kA_ ?_ _)); exact BK470.out) hb)
        have n11_ := aM_ (kB_ (g := gb477) (o := .cells #[.slice Ao35 t471.length co35, .slice Ao39 t474.length co39] 25 (0, 0)) (by (with_reducible repeat (first | refine kN_ ?_ _ | refine kA_ ?_ _)); exact BK477.out) hb)
        have n12_ := aM_ (kB_ (g := gb488) (o := .cells #[.slice Ao45 t481.length co45, .slice Ao50 t484.length co50] 25 (0, 0)) (by (with_reducible repeat (first | refine kN_ ?_ _ | refine kA_ ?_ _)); exact BK488.out) hb)
        have n13_ := aM_ (bP_ (by repeat (with_reducible first | exact HB.out | apply bA_ | apply bN_ | refine bS_ ?_ GE452.out | refine bS_ ?_ GE470.out | refine bS_ ?_ GE477.out | refine bS_ ?_ GE488.out)) hb)
        clear HO_9
        clear HO_471000
        clear HO_471001
        clear HO_478000
        clear HO_478001
        clear HO_489000
        clear HO_489001
        clear HO492
        clear HO495
        clear BK452
        clear BK470
        clear BK477
        clear BK488
        clear HB
        have HO_9 := n0_
        have HO_471000 := n1_
        have HO_471001 := n2_
        have HO_478000 := n3_
        have HO_478001 := n4_
        have HO_489000 := n5_
        have HO_489001 := n6_
        have HO492 := n7_
        have HO495 := n8_
        have BK452 := n9_
        have BK470 := n10_
        have BK477 := n11_
        have BK488 := n12_
        have HB := n13_
        clear n0_ n1_ n2_ n3_ n4_ n5_ n6_ n7_ n8_ n9_ n10_ n11_ n12_ n13_
        (try clear hb)
        (try clear hb2)
        (try clear hk)
        (try clear hi)
        refine hK.out _ _ ⟨(kC_ BK477.out 0).trans rfl, (kC_ BK477.out 1).trans rfl, (kC_ BK452.out 0).trans rfl, (kC_ BK452.out 1).trans rfl⟩ (fun hHeld => ?_)
        clear hK K
        refine norm_ (a' := ?_) ?_ ?_
        rotate_left
        ·show Act.put _ (some 55) _ = _
         simp only [Act.put, List.setIfInBounds_toArray, List.set_cons_zero, List.set_cons_succ, i64_w, i32_w]
         rfl
        refine pure_ (i := 4) (N := some 56) (v := ?_) (a' := ?_) #[true, true, true, true, true] rfl rfl (by kernel_rfl) (fun _ _ _ h => h) (Or.inl ⟨by rfl, ?_⟩) ?_ ?_
        rotate_left
        ·intro w'
         go_simp
         with_reducible rfl
        rotate_left
        ·simp only [Act.put, List.setIfInBounds_toArray, List.set_cons_zero, List.set_cons_succ, i64_w, i32_w]
         rfl
        refine done_ (by kernel_rfl) ?_
        try go_wp2_with (first | ((with_reducible refine gate_callee (f := 25) rfl ?_); refine goesL_ (some 59) rfl rfl Try.func25 (by kernel_rfl) rfl #[.slice A1 l1.length c1] rfl (by (try simp only [List.map_toArray, List.map_cons, List.map_nil]); first | done | rfl | (simp only [List.length_drop, List.length_take]; rfl)) ?_; (with_reducible refine (laws_toIntS.calls kj15 _ _ l1 t497 _ ?side1 ?side2 A73.out).mono ?_); (case side1 => repeat (first | exact (cB_ HR1.out HB.out) | (with_reducible refine cA_ ?_ _) | (with_reducible refine cN_ ?_ _))); (case side2 => exact HC1.out); rintro e w207 ⟨v498, rfl, ho0, hb⟩; refine ⟨_, rfl, ?_⟩; have n0_ := aM_ (rE_ (by (with_reducible repeat (first | apply rA_ | apply rN_)); exact HO_9.out) (rS_ ho0) hb); have n1_ := aM_ (rB_ (by (with_reducible repeat (first | apply rA_ | apply rN_)); exact HO_471000.out) hb); have n2_ := aM_ (rB_ (by (with_reducible repeat (first | apply rA_ | apply rN_)); exact HO_471001.out) hb); have n3_ := aM_ (rB_ (by (with_reducible repeat (first | apply rA_ | apply rN_)); exact HO_478000.out) hb); have n4_ := aM_ (rB_ (by (with_reducible repeat (first | apply rA_ | apply rN_)); exact HO_478001.out) hb); have n5_ := aM_ (rB_ (by (with_reducible repeat (first | apply rA_ | apply rN_)); exact HO_489000.out) hb); have n6_ := aM_ (rB_ (by (with_reducible repeat (first | apply rA_ | apply rN_)); exact HO_489001.out) hb); have n7_ := aM_ (rB_ (by (with_reducible repeat (first | apply rA_ | apply rN_)); exact HO492.out) hb); have n8_ := aM_ (rB_ (by (with_reducible repeat (first | apply rA_ | apply rN_)); exact HO495.out) hb); have n9_ := aM_ (rO_ (rW_ ho0 (rL_ (by (with_reducible repeat (first | apply rA_ | apply rN_)); exact HO_9.out))) (bZ_ (by repeat (with_reducible first | exact HB.out | apply bA_ | apply bN_ | refine bS_ ?_ GE452.out | refine bS_ ?_ GE470.out | refine bS_ ?_ GE477.out | refine bS_ ?_ GE488.out)))); have n10_ := aM_ (kB_ (g := gb452) (o := .cells #[.slice A0_0 l0_0.length c0_0, .slice A0_1 l0_1.length c0_1] 32 (0, 0)) (by (with_reducible repeat (first | refine kN_ ?_ _ | refine kA_ ?_ _)); exact BK452.out) hb); have n11_ := aM_ (kB_ (g := gb470) (o := .cells #[.slice Ao28 t463.length co28, .slice Ao31 t466.length co31] 25 (0, 0)) (by (with_reducible repeat (first | refine kN_ ?_ _ | refine kA_ ?_ _)); exact BK470.out) hb); have n12_ := aM_ (kB_ (g := gb477) (o := .cells #[.slice Ao35 t471.length co35, .slice Ao39 t474.length co39] 25 (0, 0)) (by (with_reducible repeat (first | refine kN_ ?_ _ | refine kA_ ?_ _)); exact BK477.out) hb); have n13_ := aM_ (kB_ (g := gb488) (o := .cells #[.slice Ao45 t481.length co45, .slice Ao50 t484.length co50] 25 (0, 0)) (by (with_reducible repeat (first | refine kN_ ?_ _ | refine kA_ ?_ _)); exact BK488.out) hb); have n14_ := aM_ (bP_ (by repeat (with_reducible first | exact HB.out | apply bA_ | apply bN_ | refine bS_ ?_ GE452.out | refine bS_ ?_ GE470.out | refine bS_ ?_ GE477.out | refine bS_ ?_ GE488.out)) hb); clear HO_9; clear HO_471000; clear HO_471001; clear HO_478000; clear HO_478001; clear HO_489000; clear HO_489001; clear HO492; clear HO495; clear BK452; clear BK470; clear BK477; clear BK488; clear HB; have HO_9 := n0_; have HO_471000 := n1_; have HO_471001 := n2_; have HO_478000 := n3_; have HO_478001 := n4_; have HO_489000 := n5_; have HO_489001 := n6_; have HO492 := n7_; have HO495 := n8_; have HO499 := n9_; have BK452 := n10_; have BK470 := n11_; have BK477 := n12_; have BK488 := n13_; have HB := n14_; clear n0_ n1_ n2_ n3_ n4_ n5_ n6_ n7_ n8_ n9_ n10_ n11_ n12_ n13_ n14_; (try clear hb); (try clear hb2); (try clear hk); (try clear hi); (try clear ho0); obtain ⟨Ao208, co208, eo208⟩ := Kd.R_slice HO499.out; subst eo208) | ((with_reducible refine gate_callee (f := 27) rfl ?_); refine goesL_ (some 60) rfl rfl Try.func27 (by kernel_rfl) rfl #[.slice Ao42 t478.length co42, .slice Ao208 t497.length co208] rfl (by (try simp only [List.map_toArray, List.map_cons, List.map_nil]); first | done | rfl | (simp only [List.length_drop, List.length_take]; rfl)) ?_; (with_reducible refine (laws_eqIntS.calls kj15 _ _ t478 _ _ t497 false _ ?side1 ?side2 ?side3 ?side4 A74.out).mono ?_); (case side1 => repeat (first | exact (rR_ HO_9.out).2.2 | (with_reducible refine cA_ ?_ _) | (with_reducible refine cN_ ?_ _))); (case side2 => exact (rR_ HO_9.out).2.1); (case side3 => repeat (first | exact (rR_ HO499.out).2.2 | (with_reducible refine cA_ ?_ _) | (with_reducible refine cN_ ?_ _))); (case side4 => exact (rR_ HO499.out).2.1); rintro e w' ⟨rfl, ⟨nd, rfl⟩⟩; refine ⟨_, rfl, ?_⟩))
        go_ret
        exact ⟨by first | rfl | (simp [errW_none, errW_some] <;> rfl) | (simp [*, errW_none, errW_some] <;> rfl), by repeat (with_reducible first | exact HB.out | apply bA_ | apply bN_ | refine bS_ ?_ GE452.out | refine bS_ ?_ GE470.out | refine bS_ ?_ GE477.out | refine bS_ ?_ GE488.out)⟩
      ·replace c72 := Bool.eq_false_iff.mpr c72
       subst c72
       have H1 : (some false) = some r := by rw [if_neg (show ¬ (false = true) by decide)] at H; exact H
       clear H
       have H := H1
       clear H1
       obtain rfl := Option.some.inj H
       try go_wp2
       have n0_ := aM_ (rD_ HO_9.out)
       have n1_ := aM_ (rD_ HO_471000.out)
       have n2_ := aM_ (rD_ HO_471001.out)
       have n3_ := aM_ (rD_ HO_478000.out)
       have n4_ := aM_ (rD_ HO_478001.out)
       have n5_ := aM_ (rD_ HO_489000.out)
       have n6_ := aM_ (rD_ HO_489001.out)
       have n7_ := aM_ (kD_ BK452.out)
       have n8_ := aM_ (kD_ BK470.out)
       have n9_ := aM_ (kD_ BK477.out)
       have n10_ := aM_ (kD_ BK488.out)
       have n11_ := aM_ (bD_ HB.out)
       clear HO_9
       clear HO_471000
       clear HO_471001
       clear HO_478000
       clear HO_478001
       clear HO_489000
       clear HO_489001
       clear BK452
       clear BK470
       clear BK477
       clear BK488
       clear HB
       have HO_9 := n0_
       have HO_471000 := n1_
       have HO_471001 := n2_
       have HO_478000 := n3_
       have HO_478001 := n4_
       have HO_489000 := n5_
       have HO_489001 := n6_
       have BK452 := n7_
       have BK470 := n8_
       have BK477 := n9_
       have BK488 := n10_
       have HB := n11_
       clear n0_ n1_ n2_ n3_ n4_ n5_ n6_ n7_ n8_ n9_ n10_ n11_
       refine start_ (n := 5) (S := fun w' => w'.cell? ⟨gb477, 0, none⟩ = some (.slice Ao35 t471.length co35) ∧ w'.cell? ⟨gb477, 1, none⟩ = some (.slice Ao39 t474.length co39) ∧ w'.cell? ⟨gb452, 0, none⟩ = some (.slice A0_0 l0_0.length c0_0) ∧ w'.cell? ⟨gb452, 1, none⟩ = some (.slice A0_1 l0_1.length c0_1)) (ds := []) #[false, false, false, false, false] (by kernel_rfl) rfl rfl ⟨(kC_ BK477.out 0).trans rfl, (kC_ BK477.out 1).trans rfl, (kC_ BK452.out 0).trans rfl, (kC_ BK452.out 1).trans rfl⟩ (fun hHeld => ?_)
       generalize wc.drew = w209 at HO_9 HO_471000 HO_471001 HO_478000 HO_478001 HO_489000 HO_489001 BK452 BK470 BK477 BK488 HB hHeld ⊢
       refine take_ (i := 0) (N := some 52) (v := ?_) (a' := ?_) #[true, false, false, false, false] rfl rfl (by kernel_rfl) (fun _ _ _ h => h) (Or.inl ⟨by rfl, ?_⟩) hHeld ?_ ?_
       rotate_left
       ·rintro w' ⟨s0, s1, s2, s3⟩
        go_simp
        with_reducible rfl
       rotate_left
       ·simp only [Act.put, List.setIfInBounds_toArray, List.set_cons_zero, List.set_cons_succ, i64_w, i32_w]
        rfl
       refine take_ (i := 1) (N := some 53) (v := ?_) (a' := ?_) #[true, true, false, false, false] rfl rfl (by kernel_rfl) (fun _ _ _ h => h) (Or.inl ⟨by rfl, ?_⟩) hHeld ?_ ?_
       rotate_left
       ·rintro w' ⟨s0, s1, s2, s3⟩
        go_simp
        with_reducible rfl
       rotate_left
       ·simp only [Act.put, List.setIfInBounds_toArray, List.set_cons_zero, List.set_cons_succ, i64_w, i32_w]
        rfl
       refine one_ (i := 2) (N := some 54) #[true, true, true, false, false] rfl rfl (by kernel_rfl) (by decide) (fun K hK => ?_)
       refine goes_ Try.func16 (by kernel_rfl) rfl #[.agg #[.slice A0_0 l0_0.length c0_0, .slice A0_1 l0_1.length c0_1]] (by rfl) rfl rfl (by (try simp only [List.map_toArray, List.map_cons, List.map_nil]); first | done | rfl | (simp only [List.length_drop, List.length_take]; rfl)) ?_
       with_reducible refine (laws_toDevice.calls kj15 _ _ l0_0 _ _ l0_1 t490 t493 _ ?side1 ?side2 ?side3 ?side4 A70.out).mono ?_
       (case side1 => repeat (first | exact (cB_ HR0_0.out HB.out) | (with_reducible refine cA_ ?_ _) | (with_reducible refine cN_ ?_ _)))
       (case side2 => exact HC0_0.out)
       (case side3 => repeat (first | exact (cB_ HR0_1.out HB.out) | (with_reducible refine cA_ ?_ _) | (with_reducible refine cN_ ?_ _)))
       (case side4 => exact HC0_1.out)
       rintro e w210 ⟨v491, v494, rfl, ho0, ho1, hb⟩
       refine ⟨_, rfl, ?_⟩
       have n0_ := aM_ (rB_ (by (with_reducible repeat (first | apply rA_ | apply rN_)); exact HO_9.out) hb)
       have n1_ := aM_ (rE_ (by (with_reducible repeat (first | apply rA_ | apply rN_)); exact HO_471000.out) (rS_ ho0) hb)
       have n2_ := aM_ (rE_ (by (with_reducible repeat (first | apply rA_ | apply rN_)); exact HO_471001.out) (rS_ ho1) hb)
       have n3_ := aM_ (rE_ (by (with_reducible repeat (first | apply rA_ | apply rN_)); exact HO_478000.out) (rS_ ho0) hb)
       have n4_ := aM_ (rE_ (by (with_reducible repeat (first | apply rA_ | apply rN_)); exact HO_478001.out) (rS_ ho1) hb)
       have n5_ := aM_ (rE_ (by (with_reducible repeat (first | apply rA_ | apply rN_)); exact HO_489000.out) (rS_ ho0) hb)
       have n6_ := aM_ (rE_ (by (with_reducible repeat (first | apply rA_ | apply rN_)); exact HO_489001.out) (rS_ ho1) hb)
       have n7_ := aM_ (rO_ (rW_ (rW_ (rW_ ho0 (rL_ (by (with_reducible repeat (first | apply rA_ | apply rN_)); exact HO_471000.out))) (rL_ (by (with_reducible repeat (first | apply rA_ | apply rN_)); exact HO_478000.out))) (rL_ (by (with_reducible repeat (first | apply rA_ | apply rN_)); exact HO_489000.out))) (bZ_ (by repeat (with_reducible first | exact HB.out | apply bA_ | apply bN_ | refine bS_ ?_ GE452.out | refine bS_ ?_ GE470.out | refine bS_ ?_ GE477.out | refine bS_ ?_ GE488.out))))
       have n8_ := aM_ (rO_ (rW_ (rW_ (rW_ ho1 (rL_ (by (with_reducible repeat (first | apply rA_ | apply rN_)); exact HO_471001.out))) (rL_ (by (with_reducible repeat (first | apply rA_ | apply rN_)); exact HO_478001.out))) (rL_ (by (with_reducible repeat (first | apply rA_ | apply rN_)); exact HO_489001.out))) (bZ_ (by repeat (with_reducible first | exact HB.out | apply bA_ | apply bN_ | refine bS_ ?_ GE452.out | refine bS_ ?_ GE470.out | refine bS_ ?_ GE477.out | refine bS_ ?_ GE488.out))))
       have n9_ := aM_ (kB_ (g := gb452) (o := .cells #[.slice A0_0 l0_0.length c0_0, .slice A0_1 l0_1.length c0_1] 32 (0, 0)) (by (with_reducible repeat (first | refine kN_ ?_ _ | refine kA_ ?_ _)); exact BK452.out) hb)
       have n10_ := aM_ (kB_ (g := gb470) (o := .cells #[.slice Ao28 t463.length co28, .slice Ao31 t466.length co31] 25 (0, 0)) (by (with_reducible repeat (first | refine kN_ ?_ _ | refine kA_ ?_ _)); exact BK470.out) hb)
       have n11_ := aM_ (kB_ (g := gb477) (o := .cells #[.slice Ao35 t471.length co35, .slice Ao39 t474.length co39] 25 (0, 0)) (by (with_reducible repeat (first | refine kN_ ?_ _ | refine kA_ ?_ _)); exact BK477.out) hb)
       have n12_ := aM_ (kB_ (g := gb488) (o := .cells #[.slice Ao45 t481.length co45, .slice Ao50 t484.length co50] 25 (0, 0)) (by (with_reducible repeat (first | refine kN_ ?_ _ | refine kA_ ?_ _)); exact BK488.out) hb)
       have n13_ := aM_ (bP_ (by repeat (with_reducible first | exact HB.out | apply bA_ | apply bN_ | refine bS_ ?_ GE452.out | refine bS_ ?_ GE470.out | refine bS_ ?_ GE477.out | refine bS_ ?_ GE488.out)) hb)
       clear HO_9
       clear HO_471000
       clear HO_471001
       clear HO_478000
       clear HO_478001
       clear HO_489000
       clear HO_489001
       clear BK452
       clear BK470
       clear BK477
       clear BK488
       clear HB
       have HO_9 := n0_
       have HO_471000 := n1_
       have HO_471001 := n2_
       have HO_478000 := n3_
       have HO_478001 := n4_
       have HO_489000 := n5_
       have HO_489001 := n6_
       have HO492 := n7_
       have HO495 := n8_
       have BK452 := n9_
       have BK470 := n10_
       have BK477 := n11_
       have BK488 := n12_
       have HB := n13_
       clear n0_ n1_ n2_ n3_ n4_ n5_ n6_ n7_ n8_ n9_ n10_ n11_ n12_ n13_
       (try clear hb)
       (try clear hb2)
       (try clear hk)
       (try clear hi)
       (try clear ho0)
       (try clear ho1)
       obtain ⟨Ao211, co211, eo211⟩ := Kd.R_slice HO492.out
       (first | subst eo211 | (injection eo211 with f1_ f2_ f3_; have f4_ := f1_.symm; have f5_ := f3_.symm; clear f1_ f2_ f3_; subst f4_; subst f5_))
       obtain ⟨Ao212, co212, eo212⟩ := Kd.R_slice HO495.out
       (first | subst eo212 | (injection eo212 with f1_ f2_ f3_; have f4_ := f1_.symm; have f5_ := f3_.symm; clear f1_ f2_ f3_; subst f4_; subst f5_))
       refine hK.out _ _ ⟨(kC_ BK477.out 0).trans rfl, (kC_ BK477.out 1).trans rfl, (kC_ BK452.out 0).trans rfl, (kC_ BK452.out 1).trans rfl⟩ (fun hHeld => ?_)
       clear hK K
       refine norm_ (a' := ?_) ?_ ?_
       rotate_left
       ·show Act.put _ (some 54) _ = _
        simp only [Act.put, List.setIfInBounds_toArray, List.set_cons_zero, List.set_cons_succ, i64_w, i32_w]
        rfl
       refine one_ (i := 3) (N := some 55) #[true, true, true, true, false] rfl rfl (by kernel_rfl) (by decide) (fun K hK => ?_)
       refine goes_ Try.func11 (by kernel_rfl) rfl #[.agg #[.slice Ao35 t471.length co35, .slice Ao39 t474.length co39], .agg #[.slice Ao211 t490.length co211, .slice Ao212 t493.length co212]] (by rfl) rfl rfl (by (try simp only [List.map_toArray, List.map_cons, List.map_nil]); first | done | rfl | (simp only [List.length_drop, List.length_take]; rfl)) ?_
       with_reducible refine (laws_eqDevice.calls kj15 _ _ t471 _ _ t474 _ _ t490 _ _ t493 false _ ?side1 ?side2 ?side3 ?side4 ?side5 ?side6 ?side7 ?side8 A71.out).mono ?_
       (case side1 => repeat (first | exact (rR_ HO_478000.out).2.2 | (with_reducible refine cA_ ?_ _) | (with_reducible refine cN_ ?_ _)))
       (case side2 => exact (rR_ HO_478000.out).2.1)
       (case side3 => repeat (first | exact (rR_ HO_478001.out).2.2 | (with_reducible refine cA_ ?_ _) | (with_reducible refine cN_ ?_ _)))
       (case side4 => exact (rR_ HO_478001.out).2.1)
       (case side5 => repeat (first | exact (rR_ HO492.out).2.2 | (with_reducible refine cA_ ?_ _) | (with_reducible refine cN_ ?_ _)))
       (case side6 => exact (rR_ HO492.out).2.1)
       (case side7 => repeat (first | exact (rR_ HO495.out).2.2 | (with_reducible refine cA_ ?_ _) | (with_reducible refine cN_ ?_ _)))
       (case side8 => exact (rR_ HO495.out).2.1)
       rintro e w213 ⟨rfl, hb⟩
       refine ⟨_, rfl, ?_⟩
       have n0_ := aM_ (rB_ (by (with_reducible repeat (first | apply rA_ | apply rN_)); exact HO_9.out) hb)
       have n1_ := aM_ (rB_ (by (with_reducible repeat (first | apply rA_ | apply rN_)); exact HO_471000.out) hb)
       have n2_ := aM_ (rB_ (by (with_reducible repeat (first | apply rA_ | apply rN_)); exact HO_471001.out) hb)
       have n3_ := aM_ (rB_ (by (with_reducible repeat (first | apply rA_ | apply rN_)); exact HO_478000.out) hb)
       have n4_ := aM_ (rB_ (by (with_reducible repeat (first | apply rA_ | apply rN_)); exact HO_478001.out) hb)
       have n5_ := aM_ (rB_ (by (with_reducible repeat (first | apply rA_ | apply rN_)); exact HO_489000.out) hb)
       have n6_ := aM_ (rB_ (by (with_reducible repeat (first | apply rA_ | apply rN_)); exact HO_489001.out) hb)
       have n7_ := aM_ (rB_ (by (with_reducible repeat (first | apply rA_ | apply rN_)); exact HO492.out) hb)
       have n8_ := aM_ (rB_ (by (with_reducible repeat (first | apply rA_ | apply rN_)); exact HO495.out) hb)
       have n9_ := aM_ (kB_ (g := gb452) (o := .cells #[.slice A0_0 l0_0.length c0_0, .slice A0_1 l0_1.length c0_1] 32 (0, 0)) (by (with_reducible repeat (first | refine kN_ ?_ _ | refine kA_ ?_ _)); exact BK452.out) hb)
       have n10_ := aM_ (kB_ (g := gb470) (o := .cells #[.slice Ao28 t463.length co28, .slice Ao31 t466.length co31] 25 (0, 0)) (by (with_reducible repeat (first | refine kN_ ?_ _ | refine kA_ ?_ _)); exact BK470.out) hb)
       have n11_ := aM_ (kB_ (g := gb477) (o := .cells #[.slice Ao35 t471.length co35, .slice Ao39 t474.length co39] 25 (0, 0)) (by (with_reducible repeat (first | refine kN_ ?_ _ | refine kA_ ?_ _)); exact BK477.out) hb)
       have n12_ := aM_ (kB_ (g := gb488) (o := .cells #[.slice Ao45 t481.length co45, .slice Ao50 t484.length co50] 25 (0, 0)) (by (with_reducible repeat (first | refine kN_ ?_ _ | refine kA_ ?_ _)); exact BK488.out) hb)
       have n13_ := aM_ (bP_ (by repeat (with_reducible first | exact HB.out | apply bA_ | apply bN_ | refine bS_ ?_ GE452.out | refine bS_ ?_ GE470.out | refine bS_ ?_ GE477.out | refine bS_ ?_ GE488.out)) hb)
       clear HO_9
       clear HO_471000
       clear HO_471001
       clear HO_478000
       clear HO_478001
       clear HO_489000
       clear HO_489001
       clear HO492
       clear HO495
       clear BK452
       clear BK470
       clear BK477
       clear BK488
       clear HB
       have HO_9 := n0_
       have HO_471000 := n1_
       have HO_471001 := n2_
       have HO_478000 := n3_
       have HO_478001 := n4_
       have HO_489000 := n5_
       have HO_489001 := n6_
       have HO492 := n7_
       have HO495 := n8_
       have BK452 := n9_
       have BK470 := n10_
       have BK477 := n11_
       have BK488 := n12_
       have HB := n13_
       clear n0_ n1_ n2_ n3_ n4_ n5_ n6_ n7_ n8_ n9_ n10_ n11_ n12_ n13_
       (try clear hb)
       (try clear hb2)
       (try clear hk)
       (try clear hi)
       refine hK.out _ _ ⟨(kC_ BK477.out 0).trans rfl, (kC_ BK477.out 1).trans rfl, (kC_ BK452.out 0).trans rfl, (kC_ BK452.out 1).trans rfl⟩ (fun hHeld => ?_)
       clear hK K
       refine norm_ (a' := ?_) ?_ ?_
       rotate_left
       ·show Act.put _ (some 55) _ = _
        simp only [Act.put, List.setIfInBounds_toArray, List.set_cons_zero, List.set_cons_succ, i64_w, i32_w]
        rfl
       refine pure_ (i := 4) (N := some 56) (v := ?_) (a' := ?_) #[true, true, true, true, true] rfl rfl (by kernel_rfl) (fun _ _ _ h => h) (Or.inl ⟨by rfl, ?_⟩) ?_ ?_
       rotate_left
       ·intro w'
        go_simp
        with_reducible rfl
       rotate_left
       ·simp only [Act.put, List.setIfInBounds_toArray, List.set_cons_zero, List.set_cons_succ, i64_w, i32_w]
        rfl
       refine done_ (by kernel_rfl) ?_
       try go_wp2
       go_ret
       exact ⟨by first | rfl | (simp [errW_none, errW_some] <;> rfl) | (simp [*, errW_none, errW_some] <;> rfl), by repeat (with_reducible first | exact HB.out | apply bA_ | apply bN_ | refine bS_ ?_ GE452.out | refine bS_ ?_ GE470.out | refine bS_ ?_ GE477.out | refine bS_ ?_ GE488.out)⟩
end Go.Proofs.Ytkmecmcioniooaa.PDev
