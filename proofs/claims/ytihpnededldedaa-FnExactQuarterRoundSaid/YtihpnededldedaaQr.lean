/- Arrays of four: compared, copied. Conditions: none. -/
import Derived.Test.YtihpnededldedaaArr
import Derived.Test.YtihpnededldedaaCha
import Derived.Test.YtihpnededldedaaAllI
import Derived.Test.YtihpnededldedaaChaB
namespace Go.Proofs.Ytihpnededldedaa.Leaf
open Go.RowKit Go.Shelf Go.Proofs.YtihpnededldedaaW.PrintWords Go.Proofs.YtihpnededldedaaW.PrintLast Go.Proofs.YtihpnededldedaaW.PrintMore

theorem ints_at {w : World} {g : Nat} {t : TypeId} {k : IntKind} {v : List Int} (h : Blk w g t (ints k v)) (i : Nat) (hi : i < v.length) : w.cell? ⟨g, i, none⟩ = some (.int k (rd v (i : Int))) ∧ w.frozen? ⟨g, i, none⟩ = false :=
  h.at i _ (ints_get k v i hi)

set_option maxRecDepth 100000 in
set_option maxHeartbeats 8000000 in
theorem eqIntA4_calls (x y : List Int) (hx : x.length = 4) (hy : y.length = 4) (w : World) : Calls Try.prog 16 #[.agg (ints .i64 x), .agg (ints .i64 y)] w fun e w' => e = .returned (.bool (decide (x = y))) ∧ Below w.heap.size w w' := by
  have HX := Lib.hid hx; have HY := Lib.hid hy
  clear hx hy
  have hb : ∀ b : Bool, Hid (decide (x = y) = b) → Hid (b = decide (x = y)) := fun b h => Lib.hid h.out.symm
  go_enter Try.func16, Try.ntmps16
  go_wp2
  go_loopg [5] 4 (fun gg s_ wr => ∃ i : Nat, s_ = .int .i64 i ∧ i ≤ 4 ∧ 4 ≤ gg + i ∧ Aside0 (∀ j : Nat, j < i → rd x (j : Int) = rd y (j : Int)) ∧ Aside0 (Blk wr w.heap.size 22 (ints .i64 x)) ∧ Aside0 (Blk wr (w.heap.size + 1) 22 (ints .i64 y)) ∧ Aside0 (Below w.heap.size w wr))
  case atStart => exact ⟨0, rfl, by omega, by omega, ⟨fun j hj => by omega⟩, ⟨by (repeat' (first | (with_reducible assumption) | (with_reducible exact Blk.new' _ _ _ _ (by simp; done)) | (with_reducible refine Blk.drewN ?_ _) | (with_reducible refine Blk.drew ?_) | (with_reducible refine Blk.alloc ?_ _) | (with_reducible refine Blk.other ?_ _ ?_ _) | (with_reducible refine Blk.rowOther ?_ _ ?_ _) | (simp; omega) | (simp; done)))⟩, ⟨by (repeat' (first | (with_reducible assumption) | (with_reducible exact Blk.new' _ _ _ _ (by simp; done)) | (with_reducible refine Blk.drewN ?_ _) | (with_reducible refine Blk.drew ?_) | (with_reducible refine Blk.alloc ?_ _) | (with_reducible refine Blk.other ?_ _ ?_ _) | (with_reducible refine Blk.rowOther ?_ _ ?_ _) | (simp; omega) | (simp; done)))⟩, ⟨by (repeat' (first | (with_reducible exact Below.refl _ _) | (with_reducible assumption) | (with_reducible refine Below.alloc ?_ ?_ _) | (with_reducible refine Below_drewN ?_ _) | (with_reducible refine Below.setCell ?_ ?_ _) | (with_reducible refine below_setRow ?_ ?_ _) | (with_reducible refine Below.drew ?_) | go_size))⟩⟩
  case round =>
    obtain ⟨i, rfl, hi, hg, HE, HBX, HBY, HL⟩ := hrel
    by_cases hlt : i < 4
    · have c1 : decide ((i : Int) < 4) = true := decide_eq_true (by omega)
      have p0 : (0 ≤ (i : Int)) = True := eq_true (by omega)
      have p1 : ((i : Int) < 4) = True := eq_true (by omega)
      obtain ⟨a, ha⟩ : ∃ n, rd x (i : Int) = n := ⟨_, rfl⟩
      obtain ⟨b, hb⟩ : ∃ n, rd y (i : Int) = n := ⟨_, rfl⟩
      have x1 := (ints_at HBX.out i (by rw [HX.out]; exact hlt)).1
      have y1 := (ints_at HBY.out i (by rw [HY.out]; exact hlt)).1
      rw [ha] at x1; rw [hb] at y1
      have HA := Lib.hid ha; have HBb := Lib.hid hb
      clear ha hb
      by_cases hab : a = b
      · subst hab
        have hE' := Aside0.mk (show ∀ j : Nat, j < i + 1 → rd x (j : Int) = rd y (j : Int) from fun j hj => by
          by_cases e : j = i
          · subst e; rw [HA.out, HBb.out]
          · exact HE.out j (by omega))
        have nb : (a != a) = false := by simp
        go_wp2
        repeat (go_quiet (fail); try go_wp2)
        go_roundg (4 - (i + 1))
        case measure => omega
        case rel => exact ⟨i + 1, by go_num, by omega, by omega, hE', ⟨by (repeat (first | (with_reducible exact (HBX).out) | (with_reducible refine Blk.drewN ?_ _) | (with_reducible refine Blk.drew ?_) | (with_reducible refine Blk.alloc ?_ _)))⟩, ⟨by (repeat (first | (with_reducible exact (HBY).out) | (with_reducible refine Blk.drewN ?_ _) | (with_reducible refine Blk.drew ?_) | (with_reducible refine Blk.alloc ?_ _)))⟩, ⟨by (repeat (first | (with_reducible exact (HL).out) | (with_reducible refine Below_drewN ?_ _) | (with_reducible refine Below.drew ?_)))⟩⟩
      · have hne := Lib.hid (show decide (x = y) = false from decide_eq_false (fun e => hab (by rw [← HA.out, ← HBb.out, e])))
        have nb : (a != b) = true := by simpa using hab
        go_wp2
        repeat (go_quiet (fail); try go_wp2)
        go_ret
        exact ⟨ret_bool hne.out.symm, by (repeat (first | (with_reducible exact (HL).out) | (with_reducible refine Below_drewN ?_ _) | (with_reducible refine Below.drew ?_)))⟩
    · have c1 : decide ((i : Int) < 4) = false := decide_eq_false (by omega)
      obtain rfl : i = 4 := by omega
      have heq := Lib.hid (show decide (x = y) = true from decide_eq_true (List.ext_getElem (by rw [HX.out, HY.out]) fun j h1 h2 => by
        have := HE.out j (by rw [HX.out] at h1; exact h1)
        rwa [rd_get x j (by omega) (by omega), rd_get y j (by omega) (by omega)] at this))
      go_wp2
      go_ret
      exact ⟨ret_bool heq.out.symm, by (repeat (first | (with_reducible exact (HL).out) | (with_reducible refine Below_drewN ?_ _) | (with_reducible refine Below.drew ?_)))⟩


set_option maxRecDepth 100000 in
set_option maxHeartbeats 8000000 in
theorem toIntA4_calls (x : List Int) (hx : x.length = 4) (w : World) : Calls Try.prog 14 #[.agg (ints .i64 x)] w fun e w' => e = .returned (.agg (ints .i64 x)) ∧ Below w.heap.size w w' := by
  obtain ⟨a, b, c, d, rfl⟩ : ∃ a b c d, x = [a, b, c, d] := by
    match x, hx with
    | [a, b, c, d], _ => exact ⟨a, b, c, d, rfl⟩
  clear hx
  rw [show ints .i64 [a, b, c, d] = #[.int .i64 a, .int .i64 b, .int .i64 c, .int .i64 d] from rfl]
  go_enter Try.func14, Try.ntmps14
  go_wp2
  refine wp_loop_rounds 5 ?_
  repeat any_goals (rw [rounds_succ]; go_wp2)
  refine ret_row (p := 2) (ty := 22) rfl (w.heap.size + 1) 22 #[.int .i64 a, .int .i64 b, .int .i64 c, .int .i64 d] _ rfl ((Blk.new' _ _ _ _ (by simp)).alloc _) Try.underlying22 rfl (by kernel_rfl) rfl ⟨rfl, by (repeat' (first | (with_reducible exact Below.refl _ _) | (with_reducible assumption) | (with_reducible refine Below.alloc ?_ ?_ _) | (with_reducible refine Below_drewN ?_ _) | (with_reducible refine Below.setCell ?_ ?_ _) | (with_reducible refine below_setRow ?_ ?_ _) | (with_reducible refine Below.drew ?_) | go_size))⟩

set_option maxHeartbeats 1000000 in
theorem l01In_calls (a b c : Int) (w : World) : Calls Try.prog 39 #[.int .i64 a, .int .i64 b, .int .i64 c] w fun e w' => e = .returned (.bool (decide (b ≤ a) && decide (a ≤ c))) ∧ w = w' := by
  obtain ⟨r, hr⟩ : ∃ r, (decide (b ≤ a) && decide (a ≤ c)) = r := ⟨_, rfl⟩
  rw [hr]
  have HR := Lib.hid hr
  clear hr
  go_enter Try.func39, Try.ntmps39
  go_wp2
  all_goals
    go_ret
    refine ⟨ret_bool ?_, rfl⟩
    rw [← HR.out, Bool.eq_iff_iff]
    simp <;> omega

/-- Is it a word? -/
def inW (a : Int) : Bool := decide (0 ≤ a) && decide (a ≤ 4294967295)
/-- What a quarter round of four numbers answers. -/
def qrOf (a b c d : Int) : List Int × Int :=
  if (inW a && inW b && inW c && inW d) = true then ((qr a.toNat b.toNat c.toNat d.toNat).map fun (n : Nat) => (n : Int), 0) else ([0, 0, 0, 0], 4)
theorem inW_true {a : Int} (h : inW a = true) : ∃ n : Nat, a = n ∧ n < 2 ^ 32 := by
  unfold inW at h
  simp only [Bool.and_eq_true, decide_eq_true_eq] at h
  exact ⟨a.toNat, by omega, by omega⟩

set_option maxRecDepth 100000 in
set_option maxHeartbeats 8000000 in
theorem spec_QuarterRound_calls (a b c d : Int) (w : World) : Calls Try.prog 13 #[.agg #[.int .i64 a, .int .i64 b, .int .i64 c, .int .i64 d]] w fun e w' =>
    e = .returned (.tuple #[.agg (ints .i64 (qrOf a b c d).1), .int .i64 (qrOf a b c d).2]) ∧ Below w.heap.size w w' := by
  have I : ∀ x W, Calls Try.prog 39 #[.int .i64 x, .int .i64 0, .int .i64 4294967295] W fun e w' => e = .returned (.bool (inW x)) ∧ W = w' := fun x W => l01In_calls x 0 4294967295 W
  obtain ⟨ba, hba⟩ : ∃ r, inW a = r := ⟨_, rfl⟩
  obtain ⟨bb, hbb⟩ : ∃ r, inW b = r := ⟨_, rfl⟩
  obtain ⟨bc, hbc⟩ : ∃ r, inW c = r := ⟨_, rfl⟩
  obtain ⟨bd, hbd⟩ : ∃ r, inW d = r := ⟨_, rfl⟩
  have I1 := I a; have I2 := I b; have I3 := I c; have I4 := I d
  rw [hba] at I1; rw [hbb] at I2; rw [hbc] at I3; rw [hbd] at I4
  clear I
  by_cases hall : (ba && bb && bc && bd) = true
  · obtain ⟨⟨⟨rfl, rfl⟩, rfl⟩, rfl⟩ : ((ba = true ∧ bb = true) ∧ bc = true) ∧ bd = true := by simpa using hall
    obtain ⟨na, rfl, la⟩ := inW_true hba
    obtain ⟨nb, rfl, lb⟩ := inW_true hbb
    obtain ⟨nc, rfl, lc⟩ := inW_true hbc
    obtain ⟨nd, rfl, ld⟩ := inW_true hbd
    obtain ⟨q0, q1, q2, q3, hq⟩ : ∃ q0 q1 q2 q3, qr na nb nc nd = [q0, q1, q2, q3] := ⟨_, _, _, _, rfl⟩
    have HR := Lib.hid (show qrOf na nb nc nd = ([(q0 : Int), (q1 : Int), (q2 : Int), (q3 : Int)], 0) by
      unfold qrOf
      rw [if_pos (by rw [hba, hbb, hbc, hbd]; rfl)]
      simp only [Int.toNat_natCast, hq]; rfl)
    have C := fun W => l02Quarter_calls na nb nc nd la lb lc ld W
    rw [hq, show wds .i64 [q0, q1, q2, q3] = #[.int .i64 q0, .int .i64 q1, .int .i64 q2, .int .i64 q3] from rfl] at C
    clear hq hba hbb hbc hbd hall la lb lc ld
    go_enter Try.func13, Try.ntmps13
    go_wp2
    refine wp_loop_rounds 5 ?_
    repeat any_goals (rw [rounds_succ]; go_wp2_with (first | (go_at_call 39; (first | with_reducible refine (I1 _).mono ?_ | with_reducible refine (I2 _).mono ?_ | with_reducible refine (I3 _).mono ?_ | with_reducible refine (I4 _).mono ?_); rintro e w1 ⟨rfl, rfl⟩) | (go_at_call 40; with_reducible refine (C _).mono ?_; rintro e w1 ⟨rfl, m, rfl⟩)))
    refine ret_row2 (p := 2) (u := 3) (ty := 22) rfl (w.heap.size + 1) 22 #[.int .i64 q0, .int .i64 q1, .int .i64 q2, .int .i64 q3] _ (.int .i64 0) rfl ?_ Try.underlying22 rfl (by kernel_rfl) rfl rfl ⟨by rw [HR.out]; rfl, by (repeat' (first | (with_reducible exact Below.refl _ _) | (with_reducible assumption) | (with_reducible refine Below.alloc ?_ ?_ _) | (with_reducible refine Below_drewN ?_ _) | (with_reducible refine Below.setCell ?_ ?_ _) | (with_reducible refine below_setRow ?_ ?_ _) | (with_reducible refine Below.drew ?_) | go_size))⟩
    exact Blk.eq ((((((((Blk.new' _ _ _ _ (by simp)).alloc _).drewN _).set 0 _).set 1 _).set 2 _).set 3 _)) rfl
  · have HR := Lib.hid (show qrOf a b c d = ([0, 0, 0, 0], 4) by
      unfold qrOf
      rw [if_neg (by rw [hba, hbb, hbc, hbd]; exact hall)])
    clear hba hbb hbc hbd
    cases ba with
    | false =>
      go_enter Try.func13, Try.ntmps13
      go_wp2
      refine wp_loop_rounds 5 ?_
      repeat any_goals (rw [rounds_succ]; go_wp2_with (go_at_call 39; (first | with_reducible refine (I1 _).mono ?_ | with_reducible refine (I2 _).mono ?_ | with_reducible refine (I3 _).mono ?_ | with_reducible refine (I4 _).mono ?_); rintro e w1 ⟨rfl, rfl⟩))
      refine ret_row2 (p := 2) (u := 3) (ty := 22) rfl (w.heap.size + 1) 22 #[.int .i64 0, .int .i64 0, .int .i64 0, .int .i64 0] _ (.int .i64 4) rfl ?_ Try.underlying22 rfl (by kernel_rfl) rfl rfl ⟨by rw [HR.out]; rfl, by (repeat' (first | (with_reducible exact Below.refl _ _) | (with_reducible assumption) | (with_reducible refine Below.alloc ?_ ?_ _) | (with_reducible refine Below_drewN ?_ _) | (with_reducible refine Below.setCell ?_ ?_ _) | (with_reducible refine below_setRow ?_ ?_ _) | (with_reducible refine Below.drew ?_) | go_size))⟩
      exact Blk.new' _ _ _ _ (by simp)
    | true =>
      cases bb with
      | false =>
        go_enter Try.func13, Try.ntmps13
        go_wp2
        refine wp_loop_rounds 5 ?_
        repeat any_goals (rw [rounds_succ]; go_wp2_with (go_at_call 39; (first | with_reducible refine (I1 _).mono ?_ | with_reducible refine (I2 _).mono ?_ | with_reducible refine (I3 _).mono ?_ | with_reducible refine (I4 _).mono ?_); rintro e w1 ⟨rfl, rfl⟩))
        refine ret_row2 (p := 2) (u := 3) (ty := 22) rfl (w.heap.size + 1) 22 #[.int .i64 0, .int .i64 0, .int .i64 0, .int .i64 0] _ (.int .i64 4) rfl ?_ Try.underlying22 rfl (by kernel_rfl) rfl rfl ⟨by rw [HR.out]; rfl, by (repeat' (first | (with_reducible exact Below.refl _ _) | (with_reducible assumption) | (with_reducible refine Below.alloc ?_ ?_ _) | (with_reducible refine Below_drewN ?_ _) | (with_reducible refine Below.setCell ?_ ?_ _) | (with_reducible refine below_setRow ?_ ?_ _) | (with_reducible refine Below.drew ?_) | go_size))⟩
        exact Blk.new' _ _ _ _ (by simp)
      | true =>
        cases bc with
        | false =>
          go_enter Try.func13, Try.ntmps13
          go_wp2
          refine wp_loop_rounds 5 ?_
          repeat any_goals (rw [rounds_succ]; go_wp2_with (go_at_call 39; (first | with_reducible refine (I1 _).mono ?_ | with_reducible refine (I2 _).mono ?_ | with_reducible refine (I3 _).mono ?_ | with_reducible refine (I4 _).mono ?_); rintro e w1 ⟨rfl, rfl⟩))
          refine ret_row2 (p := 2) (u := 3) (ty := 22) rfl (w.heap.size + 1) 22 #[.int .i64 0, .int .i64 0, .int .i64 0, .int .i64 0] _ (.int .i64 4) rfl ?_ Try.underlying22 rfl (by kernel_rfl) rfl rfl ⟨by rw [HR.out]; rfl, by (repeat' (first | (with_reducible exact Below.refl _ _) | (with_reducible assumption) | (with_reducible refine Below.alloc ?_ ?_ _) | (with_reducible refine Below_drewN ?_ _) | (with_reducible refine Below.setCell ?_ ?_ _) | (with_reducible refine below_setRow ?_ ?_ _) | (with_reducible refine Below.drew ?_) | go_size))⟩
          exact Blk.new' _ _ _ _ (by simp)
        | true =>
          cases bd with
          | false =>
            go_enter Try.func13, Try.ntmps13
            go_wp2
            refine wp_loop_rounds 5 ?_
            repeat any_goals (rw [rounds_succ]; go_wp2_with (go_at_call 39; (first | with_reducible refine (I1 _).mono ?_ | with_reducible refine (I2 _).mono ?_ | with_reducible refine (I3 _).mono ?_ | with_reducible refine (I4 _).mono ?_); rintro e w1 ⟨rfl, rfl⟩))
            refine ret_row2 (p := 2) (u := 3) (ty := 22) rfl (w.heap.size + 1) 22 #[.int .i64 0, .int .i64 0, .int .i64 0, .int .i64 0] _ (.int .i64 4) rfl ?_ Try.underlying22 rfl (by kernel_rfl) rfl rfl ⟨by rw [HR.out]; rfl, by (repeat' (first | (with_reducible exact Below.refl _ _) | (with_reducible assumption) | (with_reducible refine Below.alloc ?_ ?_ _) | (with_reducible refine Below_drewN ?_ _) | (with_reducible refine Below.setCell ?_ ?_ _) | (with_reducible refine below_setRow ?_ ?_ _) | (with_reducible refine Below.drew ?_) | go_size))⟩
            exact Blk.new' _ _ _ _ (by simp)
          | true => exact absurd rfl hall

theorem Blk.C {w : World} {g : Nat} {t : TypeId} {k : IntKind} {xs : List Int} (h : Blk w g t (ints k xs)) (hm : xs.length ≤ 9223372036854775807) : Kd.C (Kd.int k) w (some ⟨g, 0, none⟩) xs.length xs := by
  refine Kd.C_of_reads (enc := Value.int k) (d := (0 : Int)) (h1 := fun _ => rfl) ⟨rfl, hm, fun _ => ⟨_, rfl, fun j hj => ?_⟩⟩
  rw [add_plain]; exact (h.at j _ (ints_get k xs j hj)).1

theorem isWord_pred (w : World) : PredB 42 #[] (Value.int .i64) inW w := by
  intro W x _
  have C := fun W => within_calls x 0 4294967295 W
  obtain ⟨r, hr⟩ : ∃ r, inW x = r := ⟨_, rfl⟩
  have C' : ∀ W, Calls Try.prog 73 #[.int .i64 x, .int .i64 0, .int .i64 4294967295] W fun e w' => e = .returned (.bool r) ∧ W = w' := fun W => hr ▸ C W
  rw [hr]
  clear C hr
  show Calls Try.prog 42 #[.int .i64 x] W _
  go_enter Try.func42, Try.ntmps42
  go_wp2_with (go_at_call 73; with_reducible refine (C' _).mono ?_; rintro e w1 ⟨rfl, rfl⟩)
  go_ret
  exact ⟨rfl, Below.refl _ _⟩

theorem u32_of (n : Nat) (h : n < 2 ^ 32) : (n : Int) % 4294967296 = n := by omega

set_option maxRecDepth 100000 in
set_option maxHeartbeats 8000000 in
theorem impl_QuarterRound_calls (a b c d : Int) (w : World) : Calls Try.prog 15 #[.agg #[.int .i64 a, .int .i64 b, .int .i64 c, .int .i64 d]] w fun e w' =>
    e = .returned (.tuple #[.agg (ints .i64 (qrOf a b c d).1), .int .i64 (qrOf a b c d).2]) ∧ Below w.heap.size w w' := by
  have B0 : Blk ((w.alloc (.cells #[.int .i64 a, .int .i64 b, .int .i64 c, .int .i64 d] 22)).alloc (.cells #[.int .i64 0, .int .i64 0, .int .i64 0, .int .i64 0] 22)) w.heap.size 22 (ints .i64 [a, b, c, d]) := (Blk.new _ _ _).alloc _
  have Z0 : Blk ((w.alloc (.cells #[.int .i64 a, .int .i64 b, .int .i64 c, .int .i64 d] 22)).alloc (.cells #[.int .i64 0, .int .i64 0, .int .i64 0, .int .i64 0] 22)) (w.heap.size + 1) 22 #[.int .i64 0, .int .i64 0, .int .i64 0, .int .i64 0] := Blk.new' _ _ _ _ (by simp)
  have L0 : Below w.heap.size w ((w.alloc (.cells #[.int .i64 a, .int .i64 b, .int .i64 c, .int .i64 d] 22)).alloc (.cells #[.int .i64 0, .int .i64 0, .int .i64 0, .int .i64 0] 22)) := by (repeat' (first | (with_reducible exact Below.refl _ _) | (with_reducible assumption) | (with_reducible refine Below.alloc ?_ ?_ _) | (with_reducible refine Below_drewN ?_ _) | (with_reducible refine Below.setCell ?_ ?_ _) | (with_reducible refine below_setRow ?_ ?_ _) | (with_reducible refine Below.drew ?_) | go_size))
  have HA := areAllI 42 #[] inW (enters_of Try.func42 (by kernel_rfl) rfl) (some ⟨w.heap.size, 0, none⟩) 4 [a, b, c, d] _ (B0.C (by show (4 : Nat) ≤ _; omega)) (isWord_pred _)
  have HAll : [a, b, c, d].all inW = (inW a && inW b && inW c && inW d) := by simp [List.all_cons, Bool.and_assoc]
  rw [HAll] at HA
  clear HAll
  by_cases hall : (inW a && inW b && inW c && inW d) = true
  · rw [hall] at HA
    obtain ⟨⟨⟨hba, hbb⟩, hbc⟩, hbd⟩ : ((inW a = true ∧ inW b = true) ∧ inW c = true) ∧ inW d = true := by simpa using hall
    have HR0 : qrOf a b c d = ((qr a.toNat b.toNat c.toNat d.toNat).map fun (n : Nat) => (n : Int), 0) := by unfold qrOf; rw [if_pos hall]
    obtain ⟨na, rfl, la⟩ := inW_true hba
    obtain ⟨nb, rfl, lb⟩ := inW_true hbb
    obtain ⟨nc, rfl, lc⟩ := inW_true hbc
    obtain ⟨nd, rfl, ld⟩ := inW_true hbd
    obtain ⟨q0, q1, q2, q3, hq⟩ : ∃ q0 q1 q2 q3, qr na nb nc nd = [q0, q1, q2, q3] := ⟨_, _, _, _, rfl⟩
    have HR := Lib.hid (show qrOf na nb nc nd = ([(q0 : Int), (q1 : Int), (q2 : Int), (q3 : Int)], 0) by rw [HR0]; simp only [Int.toNat_natCast, hq]; rfl)
    have C := fun W => quarter_calls na nb nc nd la lb lc ld W
    rw [hq] at C
    have u0 := u32_of na la; have u1 := u32_of nb lb; have u2 := u32_of nc lc; have u3 := u32_of nd ld
    have e0 : wrap64 (q0 : Int) = q0 := wrap_ok _ (by omega) (by have := qr_lt na nb nc nd 0; rw [hq] at this; simp at this; omega)
    have e1 : wrap64 (q1 : Int) = q1 := wrap_ok _ (by omega) (by have := qr_lt na nb nc nd 1; rw [hq] at this; simp at this; omega)
    have e2 : wrap64 (q2 : Int) = q2 := wrap_ok _ (by omega) (by have := qr_lt na nb nc nd 2; rw [hq] at this; simp at this; omega)
    have e3 : wrap64 (q3 : Int) = q3 := wrap_ok _ (by omega) (by have := qr_lt na nb nc nd 3; rw [hq] at this; simp at this; omega)
    clear hq hba hbb hbc hbd hall la lb lc ld HR0
    have R := Lib.hid (And.intro B0 (And.intro Z0 L0))
    clear B0 Z0 L0
    go_enter Try.func15, Try.ntmps15
    go_wp2_with (first | (go_at_call 41; refine HA.mono ?_; rintro e w1 ⟨rfl, hb1⟩; have x0 := (R.out.1.below hb1).at 0 (.int .i64 (na : Int)) rfl; have x1 := (R.out.1.below hb1).at 1 (.int .i64 (nb : Int)) rfl; have x2 := (R.out.1.below hb1).at 2 (.int .i64 (nc : Int)) rfl; have x3 := (R.out.1.below hb1).at 3 (.int .i64 (nd : Int)) rfl; have Z1 := Lib.hid (R.out.2.1.below hb1); have L1 := Lib.hid (R.out.2.2.trans (hb1.mono R.out.2.2.size)); clear HA hb1) | (go_at_call 43; refine (C _).mono ?_; rintro e w2 ⟨rfl, hb2⟩; have Z2 := Z1.out.below hb2; have z0 := Z2.at 0 _ rfl; have z1 := Z2.at 1 _ rfl; have z2 := Z2.at 2 _ rfl; have z3 := Z2.at 3 _ rfl; replace Z2 := Lib.hid Z2; have L2 := Lib.hid (L1.out.trans (hb2.mono L1.out.size)); clear hb2))
    refine ret_row2 (p := 2) (u := 3) (ty := 22) rfl (w.heap.size + 1) 22 #[.int .i64 q0, .int .i64 q1, .int .i64 q2, .int .i64 q3] _ (.int .i64 0) rfl ?_ Try.underlying22 rfl (by kernel_rfl) rfl rfl ⟨by rw [HR.out]; rfl, ?_⟩
    · exact Blk.eq ((((Z2.out.set 0 _).set 1 _).set 2 _).set 3 _) rfl
    · exact (((L2.out.setCell (by simp) _).setCell (by simp) _).setCell (by simp) _).setCell (by simp) _
  · have hf : (inW a && inW b && inW c && inW d) = false := by simpa using hall
    rw [hf] at HA
    have HR := Lib.hid (show qrOf a b c d = ([0, 0, 0, 0], 4) by unfold qrOf; rw [if_neg hall])
    have R := Lib.hid (And.intro Z0 L0)
    clear B0 Z0 L0 hall hf
    go_enter Try.func15, Try.ntmps15
    go_wp2_with (go_at_call 41; refine HA.mono ?_; rintro e w1 ⟨rfl, hb1⟩; have Z2 := R.out.1.below hb1; have z0 := Z2.at 0 _ rfl; have z1 := Z2.at 1 _ rfl; have z2 := Z2.at 2 _ rfl; have z3 := Z2.at 3 _ rfl; replace Z2 := Lib.hid Z2; have L2 := Lib.hid (R.out.2.trans (hb1.mono R.out.2.size)); clear HA hb1)
    refine ret_row2 (p := 2) (u := 3) (ty := 22) rfl (w.heap.size + 1) 22 #[.int .i64 0, .int .i64 0, .int .i64 0, .int .i64 0] _ (.int .i64 4) rfl ?_ Try.underlying22 rfl (by kernel_rfl) rfl rfl ⟨by rw [HR.out]; rfl, ?_⟩
    · exact Blk.eq ((((Z2.out.set 0 _).set 1 _).set 2 _).set 3 _) rfl
    · exact (((L2.out.setCell (by simp) _).setCell (by simp) _).setCell (by simp) _).setCell (by simp) _

end Go.Proofs.Ytihpnededldedaa.Leaf
