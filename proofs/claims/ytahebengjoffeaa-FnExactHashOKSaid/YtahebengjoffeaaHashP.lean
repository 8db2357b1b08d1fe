/- HashOK of the reference. Conditions: none. -/
import Derived.Test.YtahebengjoffeaaHashO
namespace Go.Proofs.Ytahebengjoffeaa.Leaf
open Go.RowKit Go.Shelf Go.Proofs.YtahebengjoffeaaW.PrintWords Go.Proofs.YtahebengjoffeaaW.PrintLast Go.Proofs.YtahebengjoffeaaW.PrintMore

set_option maxHeartbeats 1000000 in
theorem l01In_calls (a b c : Int) (w : World) : Calls Try.prog 57 #[.int .i64 a, .int .i64 b, .int .i64 c] w fun e w' => e = .returned (.bool (decide (b ≤ a) && decide (a ≤ c))) ∧ w = w' := by
  obtain ⟨r, hr⟩ : ∃ r, (decide (b ≤ a) && decide (a ≤ c)) = r := ⟨_, rfl⟩
  rw [hr]
  have HR := Lib.hid hr
  clear hr
  go_enter Try.func57, Try.ntmps57
  go_wp2
  all_goals
    go_ret
    refine ⟨ret_bool ?_, rfl⟩
    rw [← HR.out, Bool.eq_iff_iff]
    simp <;> omega

/-- Is n a number of bytes that may have been taken in? -/
def inN (n : Int) : Bool := decide (0 ≤ n) && decide (n ≤ 1000000000)
def okH (xs : List Int) (b : ByteArray) (n : Int) : Bool := xs.all inW && (inN n && decide ((b.size : Int) = n % 64))

set_option maxRecDepth 100000 in
set_option maxHeartbeats 8000000 in
theorem specOK_0 (x0 x1 x2 x3 x4 x5 x6 x7 n : Int) (b : ByteArray) (w : World) (I0 : ∀ W, Calls Try.prog 57 #[.int .i64 x0, .int .i64 0, .int .i64 4294967295] W fun e w' => e = .returned (.bool false) ∧ W = w') : Calls Try.prog 33 #[.agg #[.int .i64 x0, .int .i64 x1, .int .i64 x2, .int .i64 x3, .int .i64 x4, .int .i64 x5, .int .i64 x6, .int .i64 x7, .string b, .int .i64 n]] w fun e w' => e = .returned (.bool false) ∧ Below w.heap.size w w' := by
  go_enter Try.func33, Try.ntmps33
  go_wp2
  refine wp_loop_rounds 9 ?_
  repeat any_goals (rw [rounds_succ]; go_wp2_with (go_at_call 57; (first | with_reducible refine (I0 _).mono ?_); rintro e w1 ⟨rfl, rfl⟩))
  go_ret
  exact ⟨rfl, by (repeat' (first | (with_reducible exact Below.refl _ _) | (with_reducible assumption) | (with_reducible refine Below.alloc ?_ ?_ _) | (with_reducible refine Below_drewN ?_ _) | (with_reducible refine Below.setCell ?_ ?_ _) | (with_reducible refine below_setRow ?_ ?_ _) | (with_reducible refine Below.drew ?_) | go_size))⟩

set_option maxRecDepth 100000 in
set_option maxHeartbeats 8000000 in
theorem specOK_1 (x0 x1 x2 x3 x4 x5 x6 x7 n : Int) (b : ByteArray) (w : World) (I0 : ∀ W, Calls Try.prog 57 #[.int .i64 x0, .int .i64 0, .int .i64 4294967295] W fun e w' => e = .returned (.bool true) ∧ W = w') (I1 : ∀ W, Calls Try.prog 57 #[.int .i64 x1, .int .i64 0, .int .i64 4294967295] W fun e w' => e = .returned (.bool false) ∧ W = w') : Calls Try.prog 33 #[.agg #[.int .i64 x0, .int .i64 x1, .int .i64 x2, .int .i64 x3, .int .i64 x4, .int .i64 x5, .int .i64 x6, .int .i64 x7, .string b, .int .i64 n]] w fun e w' => e = .returned (.bool false) ∧ Below w.heap.size w w' := by
  go_enter Try.func33, Try.ntmps33
  go_wp2
  refine wp_loop_rounds 9 ?_
  repeat any_goals (rw [rounds_succ]; go_wp2_with (go_at_call 57; (first | with_reducible refine (I0 _).mono ?_ | with_reducible refine (I1 _).mono ?_); rintro e w1 ⟨rfl, rfl⟩))
  go_ret
  exact ⟨rfl, by (repeat' (first | (with_reducible exact Below.refl _ _) | (with_reducible assumption) | (with_reducible refine Below.alloc ?_ ?_ _) | (with_reducible refine Below_drewN ?_ _) | (with_reducible refine Below.setCell ?_ ?_ _) | (with_reducible refine below_setRow ?_ ?_ _) | (with_reducible refine Below.drew ?_) | go_size))⟩

set_option maxRecDepth 100000 in
set_option maxHeartbeats 8000000 in
theorem specOK_2 (x0 x1 x2 x3 x4 x5 x6 x7 n : Int) (b : ByteArray) (w : World) (I0 : ∀ W, Calls Try.prog 57 #[.int .i64 x0, .int .i64 0, .int .i64 4294967295] W fun e w' => e = .returned (.bool true) ∧ W = w') (I1 : ∀ W, Calls Try.prog 57 #[.int .i64 x1, .int .i64 0, .int .i64 4294967295] W fun e w' => e = .returned (.bool true) ∧ W = w') (I2 : ∀ W, Calls Try.prog 57 #[.int .i64 x2, .int .i64 0, .int .i64 4294967295] W fun e w' => e = .returned (.bool false) ∧ W = w') : Calls Try.prog 33 #[.agg #[.int .i64 x0, .int .i64 x1, .int .i64 x2, .int .i64 x3, .int .i64 x4, .int .i64 x5, .int .i64 x6, .int .i64 x7, .string b, .int .i64 n]] w fun e w' => e = .returned (.bool false) ∧ Below w.heap.size w w' := by
  go_enter Try.func33, Try.ntmps33
  go_wp2
  refine wp_loop_rounds 9 ?_
  repeat any_goals (rw [rounds_succ]; go_wp2_with (go_at_call 57; (first | with_reducible refine (I0 _).mono ?_ | with_reducible refine (I1 _).mono ?_ | with_reducible refine (I2 _).mono ?_); rintro e w1 ⟨rfl, rfl⟩))
  go_ret
  exact ⟨rfl, by (repeat' (first | (with_reducible exact Below.refl _ _) | (with_reducible assumption) | (with_reducible refine Below.alloc ?_ ?_ _) | (with_reducible refine Below_drewN ?_ _) | (with_reducible refine Below.setCell ?_ ?_ _) | (with_reducible refine below_setRow ?_ ?_ _) | (with_reducible refine Below.drew ?_) | go_size))⟩

set_option maxRecDepth 100000 in
set_option maxHeartbeats 8000000 in
theorem specOK_3 (x0 x1 x2 x3 x4 x5 x6 x7 n : Int) (b : ByteArray) (w : World) (I0 : ∀ W, Calls Try.prog 57 #[.int .i64 x0, .int .i64 0, .int .i64 4294967295] W fun e w' => e = .returned (.bool true) ∧ W = w') (I1 : ∀ W, Calls Try.prog 57 #[.int .i64 x1, .int .i64 0, .int .i64 4294967295] W fun e w' => e = .returned (.bool true) ∧ W = w') (I2 : ∀ W, Calls Try.prog 57 #[.int .i64 x2, .int .i64 0, .int .i64 4294967295] W fun e w' => e = .returned (.bool true) ∧ W = w') (I3 : ∀ W, Calls Try.prog 57 #[.int .i64 x3, .int .i64 0, .int .i64 4294967295] W fun e w' => e = .returned (.bool false) ∧ W = w') : Calls Try.prog 33 #[.agg #[.int .i64 x0, .int .i64 x1, .int .i64 x2, .int .i64 x3, .int .i64 x4, .int .i64 x5, .int .i64 x6, .int .i64 x7, .string b, .int .i64 n]] w fun e w' => e = .returned (.bool false) ∧ Below w.heap.size w w' := by
  go_enter Try.func33, Try.ntmps33
  go_wp2
  refine wp_loop_rounds 9 ?_
  repeat any_goals (rw [rounds_succ]; go_wp2_with (go_at_call 57; (first | with_reducible refine (I0 _).mono ?_ | with_reducible refine (I1 _).mono ?_ | with_reducible refine (I2 _).mono ?_ | with_reducible refine (I3 _).mono ?_); rintro e w1 ⟨rfl, rfl⟩))
  go_ret
  exact ⟨rfl, by (repeat' (first | (with_reducible exact Below.refl _ _) | (with_reducible assumption) | (with_reducible refine Below.alloc ?_ ?_ _) | (with_reducible refine Below_drewN ?_ _) | (with_reducible refine Below.setCell ?_ ?_ _) | (with_reducible refine below_setRow ?_ ?_ _) | (with_reducible refine Below.drew ?_) | go_size))⟩

set_option maxRecDepth 100000 in
set_option maxHeartbeats 8000000 in
theorem specOK_4 (x0 x1 x2 x3 x4 x5 x6 x7 n : Int) (b : ByteArray) (w : World) (I0 : ∀ W, Calls Try.prog 57 #[.int .i64 x0, .int .i64 0, .int .i64 4294967295] W fun e w' => e = .returned (.bool true) ∧ W = w') (I1 : ∀ W, Calls Try.prog 57 #[.int .i64 x1, .int .i64 0, .int .i64 4294967295] W fun e w' => e = .returned (.bool true) ∧ W = w') (I2 : ∀ W, Calls Try.prog 57 #[.int .i64 x2, .int .i64 0, .int .i64 4294967295] W fun e w' => e = .returned (.bool true) ∧ W = w') (I3 : ∀ W, Calls Try.prog 57 #[.int .i64 x3, .int .i64 0, .int .i64 4294967295] W fun e w' => e = .returned (.bool true) ∧ W = w') (I4 : ∀ W, Calls Try.prog 57 #[.int .i64 x4, .int .i64 0, .int .i64 4294967295] W fun e w' => e = .returned (.bool false) ∧ W = w') : Calls Try.prog 33 #[.agg #[.int .i64 x0, .int .i64 x1, .int .i64 x2, .int .i64 x3, .int .i64 x4, .int .i64 x5, .int .i64 x6, .int .i64 x7, .string b, .int .i64 n]] w fun e w' => e = .returned (.bool false) ∧ Below w.heap.size w w' := by
  go_enter Try.func33, Try.ntmps33
  go_wp2
  refine wp_loop_rounds 9 ?_
  repeat any_goals (rw [rounds_succ]; go_wp2_with (go_at_call 57; (first | with_reducible refine (I0 _).mono ?_ | with_reducible refine (I1 _).mono ?_ | with_reducible refine (I2 _).mono ?_ | with_reducible refine (I3 _).mono ?_ | with_reducible refine (I4 _).mono ?_); rintro e w1 ⟨rfl, rfl⟩))
  go_ret
  exact ⟨rfl, by (repeat' (first | (with_reducible exact Below.refl _ _) | (with_reducible assumption) | (with_reducible refine Below.alloc ?_ ?_ _) | (with_reducible refine Below_drewN ?_ _) | (with_reducible refine Below.setCell ?_ ?_ _) | (with_reducible refine below_setRow ?_ ?_ _) | (with_reducible refine Below.drew ?_) | go_size))⟩

set_option maxRecDepth 100000 in
set_option maxHeartbeats 8000000 in
theorem specOK_5 (x0 x1 x2 x3 x4 x5 x6 x7 n : Int) (b : ByteArray) (w : World) (I0 : ∀ W, Calls Try.prog 57 #[.int .i64 x0, .int .i64 0, .int .i64 4294967295] W fun e w' => e = .returned (.bool true) ∧ W = w') (I1 : ∀ W, Calls Try.prog 57 #[.int .i64 x1, .int .i64 0, .int .i64 4294967295] W fun e w' => e = .returned (.bool true) ∧ W = w') (I2 : ∀ W, Calls Try.prog 57 #[.int .i64 x2, .int .i64 0, .int .i64 4294967295] W fun e w' => e = .returned (.bool true) ∧ W = w') (I3 : ∀ W, Calls Try.prog 57 #[.int .i64 x3, .int .i64 0, .int .i64 4294967295] W fun e w' => e = .returned (.bool true) ∧ W = w') (I4 : ∀ W, Calls Try.prog 57 #[.int .i64 x4, .int .i64 0, .int .i64 4294967295] W fun e w' => e = .returned (.bool true) ∧ W = w') (I5 : ∀ W, Calls Try.prog 57 #[.int .i64 x5, .int .i64 0, .int .i64 4294967295] W fun e w' => e = .returned (.bool false) ∧ W = w') : Calls Try.prog 33 #[.agg #[.int .i64 x0, .int .i64 x1, .int .i64 x2, .int .i64 x3, .int .i64 x4, .int .i64 x5, .int .i64 x6, .int .i64 x7, .string b, .int .i64 n]] w fun e w' => e = .returned (.bool false) ∧ Below w.heap.size w w' := by
  go_enter Try.func33, Try.ntmps33
  go_wp2
  refine wp_loop_rounds 9 ?_
  repeat any_goals (rw [rounds_succ]; go_wp2_with (go_at_call 57; (first | with_reducible refine (I0 _).mono ?_ | with_reducible refine (I1 _).mono ?_ | with_reducible refine (I2 _).mono ?_ | with_reducible refine (I3 _).mono ?_ | with_reducible refine (I4 _).mono ?_ | with_reducible refine (I5 _).mono ?_); rintro e w1 ⟨rfl, rfl⟩))
  go_ret
  exact ⟨rfl, by (repeat' (first | (with_reducible exact Below.refl _ _) | (with_reducible assumption) | (with_reducible refine Below.alloc ?_ ?_ _) | (with_reducible refine Below_drewN ?_ _) | (with_reducible refine Below.setCell ?_ ?_ _) | (with_reducible refine below_setRow ?_ ?_ _) | (with_reducible refine Below.drew ?_) | go_size))⟩

set_option maxRecDepth 100000 in
set_option maxHeartbeats 8000000 in
theorem specOK_6 (x0 x1 x2 x3 x4 x5 x6 x7 n : Int) (b : ByteArray) (w : World) (I0 : ∀ W, Calls Try.prog 57 #[.int .i64 x0, .int .i64 0, .int .i64 4294967295] W fun e w' => e = .returned (.bool true) ∧ W = w') (I1 : ∀ W, Calls Try.prog 57 #[.int .i64 x1, .int .i64 0, .int .i64 4294967295] W fun e w' => e = .returned (.bool true) ∧ W = w') (I2 : ∀ W, Calls Try.prog 57 #[.int .i64 x2, .int .i64 0, .int .i64 4294967295] W fun e w' => e = .returned (.bool true) ∧ W = w') (I3 : ∀ W, Calls Try.prog 57 #[.int .i64 x3, .int .i64 0, .int .i64 4294967295] W fun e w' => e = .returned (.bool true) ∧ W = w') (I4 : ∀ W, Calls Try.prog 57 #[.int .i64 x4, .int .i64 0, .int .i64 4294967295] W fun e w' => e = .returned (.bool true) ∧ W = w') (I5 : ∀ W, Calls Try.prog 57 #[.int .i64 x5, .int .i64 0, .int .i64 4294967295] W fun e w' => e = .returned (.bool true) ∧ W = w') (I6 : ∀ W, Calls Try.prog 57 #[.int .i64 x6, .int .i64 0, .int .i64 4294967295] W fun e w' => e = .returned (.bool false) ∧ W = w') : Calls Try.prog 33 #[.agg #[.int .i64 x0, .int .i64 x1, .int .i64 x2, .int .i64 x3, .int .i64 x4, .int .i64 x5, .int .i64 x6, .int .i64 x7, .string b, .int .i64 n]] w fun e w' => e = .returned (.bool false) ∧ Below w.heap.size w w' := by
  go_enter Try.func33, Try.ntmps33
  go_wp2
  refine wp_loop_rounds 9 ?_
  repeat any_goals (rw [rounds_succ]; go_wp2_with (go_at_call 57; (first | with_reducible refine (I0 _).mono ?_ | with_reducible refine (I1 _).mono ?_ | with_reducible refine (I2 _).mono ?_ | with_reducible refine (I3 _).mono ?_ | with_reducible refine (I4 _).mono ?_ | with_reducible refine (I5 _).mono ?_ | with_reducible refine (I6 _).mono ?_); rintro e w1 ⟨rfl, rfl⟩))
  go_ret
  exact ⟨rfl, by (repeat' (first | (with_reducible exact Below.refl _ _) | (with_reducible assumption) | (with_reducible refine Below.alloc ?_ ?_ _) | (with_reducible refine Below_drewN ?_ _) | (with_reducible refine Below.setCell ?_ ?_ _) | (with_reducible refine below_setRow ?_ ?_ _) | (with_reducible refine Below.drew ?_) | go_size))⟩

set_option maxRecDepth 100000 in
set_option maxHeartbeats 8000000 in
theorem specOK_7 (x0 x1 x2 x3 x4 x5 x6 x7 n : Int) (b : ByteArray) (w : World) (I0 : ∀ W, Calls Try.prog 57 #[.int .i64 x0, .int .i64 0, .int .i64 4294967295] W fun e w' => e = .returned (.bool true) ∧ W = w') (I1 : ∀ W, Calls Try.prog 57 #[.int .i64 x1, .int .i64 0, .int .i64 4294967295] W fun e w' => e = .returned (.bool true) ∧ W = w') (I2 : ∀ W, Calls Try.prog 57 #[.int .i64 x2, .int .i64 0, .int .i64 4294967295] W fun e w' => e = .returned (.bool true) ∧ W = w') (I3 : ∀ W, Calls Try.prog 57 #[.int .i64 x3, .int .i64 0, .int .i64 4294967295] W fun e w' => e = .returned (.bool true) ∧ W = w') (I4 : ∀ W, Calls Try.prog 57 #[.int .i64 x4, .int .i64 0, .int .i64 4294967295] W fun e w' => e = .returned (.bool true) ∧ W = w') (I5 : ∀ W, Calls Try.prog 57 #[.int .i64 x5, .int .i64 0, .int .i64 4294967295] W fun e w' => e = .returned (.bool true) ∧ W = w') (I6 : ∀ W, Calls Try.prog 57 #[.int .i64 x6, .int .i64 0, .int .i64 4294967295] W fun e w' => e = .returned (.bool true) ∧ W = w') (I7 : ∀ W, Calls Try.prog 57 #[.int .i64 x7, .int .i64 0, .int .i64 4294967295] W fun e w' => e = .returned (.bool false) ∧ W = w') : Calls Try.prog 33 #[.agg #[.int .i64 x0, .int .i64 x1, .int .i64 x2, .int .i64 x3, .int .i64 x4, .int .i64 x5, .int .i64 x6, .int .i64 x7, .string b, .int .i64 n]] w fun e w' => e = .returned (.bool false) ∧ Below w.heap.size w w' := by
  go_enter Try.func33, Try.ntmps33
  go_wp2
  refine wp_loop_rounds 9 ?_
  repeat any_goals (rw [rounds_succ]; go_wp2_with (go_at_call 57; (first | with_reducible refine (I0 _).mono ?_ | with_reducible refine (I1 _).mono ?_ | with_reducible refine (I2 _).mono ?_ | with_reducible refine (I3 _).mono ?_ | with_reducible refine (I4 _).mono ?_ | with_reducible refine (I5 _).mono ?_ | with_reducible refine (I6 _).mono ?_ | with_reducible refine (I7 _).mono ?_); rintro e w1 ⟨rfl, rfl⟩))
  go_ret
  exact ⟨rfl, by (repeat' (first | (with_reducible exact Below.refl _ _) | (with_reducible assumption) | (with_reducible refine Below.alloc ?_ ?_ _) | (with_reducible refine Below_drewN ?_ _) | (with_reducible refine Below.setCell ?_ ?_ _) | (with_reducible refine below_setRow ?_ ?_ _) | (with_reducible refine Below.drew ?_) | go_size))⟩

set_option maxRecDepth 100000 in
set_option maxHeartbeats 8000000 in
theorem specOK_8f (x0 x1 x2 x3 x4 x5 x6 x7 n : Int) (b : ByteArray) (w : World) (I0 : ∀ W, Calls Try.prog 57 #[.int .i64 x0, .int .i64 0, .int .i64 4294967295] W fun e w' => e = .returned (.bool true) ∧ W = w') (I1 : ∀ W, Calls Try.prog 57 #[.int .i64 x1, .int .i64 0, .int .i64 4294967295] W fun e w' => e = .returned (.bool true) ∧ W = w') (I2 : ∀ W, Calls Try.prog 57 #[.int .i64 x2, .int .i64 0, .int .i64 4294967295] W fun e w' => e = .returned (.bool true) ∧ W = w') (I3 : ∀ W, Calls Try.prog 57 #[.int .i64 x3, .int .i64 0, .int .i64 4294967295] W fun e w' => e = .returned (.bool true) ∧ W = w') (I4 : ∀ W, Calls Try.prog 57 #[.int .i64 x4, .int .i64 0, .int .i64 4294967295] W fun e w' => e = .returned (.bool true) ∧ W = w') (I5 : ∀ W, Calls Try.prog 57 #[.int .i64 x5, .int .i64 0, .int .i64 4294967295] W fun e w' => e = .returned (.bool true) ∧ W = w') (I6 : ∀ W, Calls Try.prog 57 #[.int .i64 x6, .int .i64 0, .int .i64 4294967295] W fun e w' => e = .returned (.bool true) ∧ W = w') (I7 : ∀ W, Calls Try.prog 57 #[.int .i64 x7, .int .i64 0, .int .i64 4294967295] W fun e w' => e = .returned (.bool true) ∧ W = w') (IN : ∀ W, Calls Try.prog 57 #[.int .i64 n, .int .i64 0, .int .i64 1000000000] W fun e w' => e = .returned (.bool false) ∧ W = w')  : Calls Try.prog 33 #[.agg #[.int .i64 x0, .int .i64 x1, .int .i64 x2, .int .i64 x3, .int .i64 x4, .int .i64 x5, .int .i64 x6, .int .i64 x7, .string b, .int .i64 n]] w fun e w' => e = .returned (.bool false) ∧ Below w.heap.size w w' := by
  go_enter Try.func33, Try.ntmps33
  go_wp2
  refine wp_loop_rounds 9 ?_
  repeat any_goals (rw [rounds_succ]; go_wp2_with (go_at_call 57; (first | with_reducible refine (I0 _).mono ?_ | with_reducible refine (I1 _).mono ?_ | with_reducible refine (I2 _).mono ?_ | with_reducible refine (I3 _).mono ?_ | with_reducible refine (I4 _).mono ?_ | with_reducible refine (I5 _).mono ?_ | with_reducible refine (I6 _).mono ?_ | with_reducible refine (I7 _).mono ?_ | with_reducible refine (IN _).mono ?_); rintro e w1 ⟨rfl, rfl⟩))
  go_ret
  exact ⟨rfl, by (repeat' (first | (with_reducible exact Below.refl _ _) | (with_reducible assumption) | (with_reducible refine Below.alloc ?_ ?_ _) | (with_reducible refine Below_drewN ?_ _) | (with_reducible refine Below.setCell ?_ ?_ _) | (with_reducible refine below_setRow ?_ ?_ _) | (with_reducible refine Below.drew ?_) | go_size))⟩

set_option maxRecDepth 100000 in
set_option maxHeartbeats 8000000 in
theorem specOK_8t (x0 x1 x2 x3 x4 x5 x6 x7 n : Int) (b : ByteArray) (w : World) (I0 : ∀ W, Calls Try.prog 57 #[.int .i64 x0, .int .i64 0, .int .i64 4294967295] W fun e w' => e = .returned (.bool true) ∧ W = w') (I1 : ∀ W, Calls Try.prog 57 #[.int .i64 x1, .int .i64 0, .int .i64 4294967295] W fun e w' => e = .returned (.bool true) ∧ W = w') (I2 : ∀ W, Calls Try.prog 57 #[.int .i64 x2, .int .i64 0, .int .i64 4294967295] W fun e w' => e = .returned (.bool true) ∧ W = w') (I3 : ∀ W, Calls Try.prog 57 #[.int .i64 x3, .int .i64 0, .int .i64 4294967295] W fun e w' => e = .returned (.bool true) ∧ W = w') (I4 : ∀ W, Calls Try.prog 57 #[.int .i64 x4, .int .i64 0, .int .i64 4294967295] W fun e w' => e = .returned (.bool true) ∧ W = w') (I5 : ∀ W, Calls Try.prog 57 #[.int .i64 x5, .int .i64 0, .int .i64 4294967295] W fun e w' => e = .returned (.bool true) ∧ W = w') (I6 : ∀ W, Calls Try.prog 57 #[.int .i64 x6, .int .i64 0, .int .i64 4294967295] W fun e w' => e = .returned (.bool true) ∧ W = w') (I7 : ∀ W, Calls Try.prog 57 #[.int .i64 x7, .int .i64 0, .int .i64 4294967295] W fun e w' => e = .returned (.bool true) ∧ W = w') (IN : ∀ W, Calls Try.prog 57 #[.int .i64 n, .int .i64 0, .int .i64 1000000000] W fun e w' => e = .returned (.bool true) ∧ W = w') (r : Int) (t1 : Int.tmod n 64 = r) (_t2 : n % 64 = r) (be : Bool) (he : ((b.size : Int) == r) = be) : Calls Try.prog 33 #[.agg #[.int .i64 x0, .int .i64 x1, .int .i64 x2, .int .i64 x3, .int .i64 x4, .int .i64 x5, .int .i64 x6, .int .i64 x7, .string b, .int .i64 n]] w fun e w' => e = .returned (.bool be) ∧ Below w.heap.size w w' := by
  go_enter Try.func33, Try.ntmps33
  go_wp2
  refine wp_loop_rounds 9 ?_
  repeat any_goals (rw [rounds_succ]; go_wp2_with (go_at_call 57; (first | with_reducible refine (I0 _).mono ?_ | with_reducible refine (I1 _).mono ?_ | with_reducible refine (I2 _).mono ?_ | with_reducible refine (I3 _).mono ?_ | with_reducible refine (I4 _).mono ?_ | with_reducible refine (I5 _).mono ?_ | with_reducible refine (I6 _).mono ?_ | with_reducible refine (I7 _).mono ?_ | with_reducible refine (IN _).mono ?_); rintro e w1 ⟨rfl, rfl⟩))
  go_ret
  exact ⟨rfl, by (repeat' (first | (with_reducible exact Below.refl _ _) | (with_reducible assumption) | (with_reducible refine Below.alloc ?_ ?_ _) | (with_reducible refine Below_drewN ?_ _) | (with_reducible refine Below.setCell ?_ ?_ _) | (with_reducible refine below_setRow ?_ ?_ _) | (with_reducible refine Below.drew ?_) | go_size))⟩

theorem isWord_pred (w : World) : PredB 60 #[] (Value.int .i64) inW w := by
  intro W x _
  have C := fun W => within_calls x 0 4294967295 W
  obtain ⟨r, hr⟩ : ∃ r, inW x = r := ⟨_, rfl⟩
  have C' : ∀ W, Calls Try.prog 47 #[.int .i64 x, .int .i64 0, .int .i64 4294967295] W fun e w' => e = .returned (.bool r) ∧ W = w' := fun W => hr ▸ C W
  rw [hr]
  clear C hr
  show Calls Try.prog 60 #[.int .i64 x] W _
  go_enter Try.func60, Try.ntmps60
  go_wp2_with (go_at_call 47; with_reducible refine (C' _).mono ?_; rintro e w1 ⟨rfl, rfl⟩)
  go_ret
  exact ⟨rfl, Below.refl _ _⟩

theorem Blk.C8 {w : World} {g : Nat} {t : TypeId} {x0 x1 x2 x3 x4 x5 x6 x7 n : Int} {b : ByteArray} (h : Blk w g t #[.int .i64 x0, .int .i64 x1, .int .i64 x2, .int .i64 x3, .int .i64 x4, .int .i64 x5, .int .i64 x6, .int .i64 x7, .string b, .int .i64 n]) : Kd.C (Kd.int .i64) w (some ⟨g, 0, none⟩) 8 [x0, x1, x2, x3, x4, x5, x6, x7] := by
  refine Kd.C_of_reads (enc := Value.int .i64) (d := (0 : Int)) (h1 := fun _ => rfl) ⟨rfl, by decide, fun _ => ⟨_, rfl, fun j hj => ?_⟩⟩
  rw [add_plain]
  refine (h.at j _ ?_).1
  match j, hj with
  | 0, _ => rfl
  | 1, _ => rfl
  | 2, _ => rfl
  | 3, _ => rfl
  | 4, _ => rfl
  | 5, _ => rfl
  | 6, _ => rfl
  | 7, _ => rfl

set_option maxRecDepth 100000 in
set_option maxHeartbeats 8000000 in
theorem implOK_f (x0 x1 x2 x3 x4 x5 x6 x7 n : Int) (b : ByteArray) (w : World) (IN : ∀ W, Calls Try.prog 47 #[.int .i64 n, .int .i64 0, .int .i64 1000000000] W fun e w' => e = .returned (.bool false) ∧ W = w') : Calls Try.prog 35 #[.agg #[.int .i64 x0, .int .i64 x1, .int .i64 x2, .int .i64 x3, .int .i64 x4, .int .i64 x5, .int .i64 x6, .int .i64 x7, .string b, .int .i64 n]] w fun e w' => e = .returned (.bool false) ∧ Below w.heap.size w w' := by
  go_enter Try.func35, Try.ntmps35
  go_wp2_with (go_at_call 47; with_reducible refine (IN _).mono ?_; rintro e w1 ⟨rfl, rfl⟩)
  go_ret
  exact ⟨rfl, by (repeat' (first | (with_reducible exact Below.refl _ _) | (with_reducible assumption) | (with_reducible refine Below.alloc ?_ ?_ _) | (with_reducible refine Below_drewN ?_ _) | (with_reducible refine Below.setCell ?_ ?_ _) | (with_reducible refine below_setRow ?_ ?_ _) | (with_reducible refine Below.drew ?_) | go_size))⟩

set_option maxRecDepth 100000 in
set_option maxHeartbeats 8000000 in
theorem implOK_tf (x0 x1 x2 x3 x4 x5 x6 x7 n : Int) (b : ByteArray) (w : World) (IN : ∀ W, Calls Try.prog 47 #[.int .i64 n, .int .i64 0, .int .i64 1000000000] W fun e w' => e = .returned (.bool true) ∧ W = w') (r : Int) (t1 : Int.tmod n 64 = r) (_t2 : n % 64 = r) (he : ((b.size : Int) == r) = false) : Calls Try.prog 35 #[.agg #[.int .i64 x0, .int .i64 x1, .int .i64 x2, .int .i64 x3, .int .i64 x4, .int .i64 x5, .int .i64 x6, .int .i64 x7, .string b, .int .i64 n]] w fun e w' => e = .returned (.bool false) ∧ Below w.heap.size w w' := by
  go_enter Try.func35, Try.ntmps35
  go_wp2_with (go_at_call 47; with_reducible refine (IN _).mono ?_; rintro e w1 ⟨rfl, rfl⟩)
  go_ret
  exact ⟨rfl, by (repeat' (first | (with_reducible exact Below.refl _ _) | (with_reducible assumption) | (with_reducible refine Below.alloc ?_ ?_ _) | (with_reducible refine Below_drewN ?_ _) | (with_reducible refine Below.setCell ?_ ?_ _) | (with_reducible refine below_setRow ?_ ?_ _) | (with_reducible refine Below.drew ?_) | go_size))⟩

set_option maxRecDepth 100000 in
set_option maxHeartbeats 8000000 in
theorem implOK_tt (x0 x1 x2 x3 x4 x5 x6 x7 n : Int) (b : ByteArray) (w : World) (IN : ∀ W, Calls Try.prog 47 #[.int .i64 n, .int .i64 0, .int .i64 1000000000] W fun e w' => e = .returned (.bool true) ∧ W = w') (r : Int) (t1 : Int.tmod n 64 = r) (_t2 : n % 64 = r) (he : ((b.size : Int) == r) = true) : Calls Try.prog 35 #[.agg #[.int .i64 x0, .int .i64 x1, .int .i64 x2, .int .i64 x3, .int .i64 x4, .int .i64 x5, .int .i64 x6, .int .i64 x7, .string b, .int .i64 n]] w fun e w' => e = .returned (.bool ([x0, x1, x2, x3, x4, x5, x6, x7].all inW)) ∧ Below w.heap.size w w' := by
  have B0 := Blk.new w 29 #[.int .i64 x0, .int .i64 x1, .int .i64 x2, .int .i64 x3, .int .i64 x4, .int .i64 x5, .int .i64 x6, .int .i64 x7, .string b, .int .i64 n]
  have HA := areAllI 60 #[] inW (enters_of Try.func60 (by kernel_rfl) rfl) (some ⟨w.heap.size, 0, none⟩) 8 [x0, x1, x2, x3, x4, x5, x6, x7] _ B0.C8 (isWord_pred _)
  obtain ⟨q, hq⟩ : ∃ q, [x0, x1, x2, x3, x4, x5, x6, x7].all inW = q := ⟨_, rfl⟩
  rw [hq] at HA ⊢
  clear hq
  go_enter Try.func35, Try.ntmps35
  go_wp2_with (first | (go_at_call 47; with_reducible refine (IN _).mono ?_; rintro e w1 ⟨rfl, rfl⟩) | (go_at_call 59; refine HA.mono ?_; rintro e w1 ⟨rfl, hb1⟩; replace hb1 := Lib.hid hb1))
  go_ret
  exact ⟨rfl, (below_alloc (Below.refl _ w) _).trans (hb1.out.mono (by simp))⟩

end Go.Proofs.Ytahebengjoffeaa.Leaf
