/-
  slices.Concat at the program's blocks: all rows behind one another, in memory of the call's own. Conditions: not more blocks than a bound.
-/
import Derived.Test.YtmodpocjnafpdaaGrow
import Derived.Test.YtmodpocjnafpdaaPlain
namespace Go.Proofs.Ytmodpocjnafpdaa.Leaf
open Go.RowKit Go.Shelf Go.Proofs.YtmodpocjnafpdaaW.PrintWords Go.Proofs.YtmodpocjnafpdaaW.PrintLast Go.Proofs.YtmodpocjnafpdaaW.PrintMore Go.Proofs.Ytmodpocjnafpdaa.POra

theorem flat_succ {α : Type} (l : List (List α)) (i : Nat) (h : i < l.length) : (l.take (i + 1)).flatten = (l.take i).flatten ++ l[i] := by
  rw [List.take_succ_eq_append_getElem h, List.flatten_append]; simp
theorem flat_le {α : Type} (l : List (List α)) (i : Nat) : (l.take i).flatten.length ≤ l.flatten.length := by
  conv => rhs; rw [← List.take_append_drop i l, List.flatten_append, List.length_append]
  omega
theorem rows_at (l : List (List S61)) (i : Nat) (h : i < l.length) : rd_L4 l (i : Int) = l[i] := by
  unfold rd_L4; rw [Int.toNat_natCast, List.getD_eq_getElem?_getD, List.getElem?_eq_getElem h]; rfl

set_option maxRecDepth 100000 in
set_option maxHeartbeats 4000000 in
theorem concat_c (A : Option Addr) (c : Nat) (l : List (List S61)) (hb0 : l.flatten.length ≤ 1048576) (w : World) (h : Kd.C (Kd.slice 61 k61) w A l.length l) :
    Calls Try.prog 81 #[.slice A l.length c] w fun e w' => ∃ v : Value, e = .returned v ∧ Kd.R k61 61 w' w.heap.size (fun _ => True) v l.flatten ∧ Below w.heap.size w w' := by
  have HR := Aside0.mk h
  have HM := Kd.C_max h
  have HL := Aside0.mk hb0
  clear h hb0
  go_enter Try.func81, Try.ntmps81
  go_wp2
  go_loopg [3, 5, 11] l.length (fun gg s3 _ s11 wr => ∃ i : Nat, s3 = .int .i64 ((l.take i).flatten.length : Int) ∧ s11 = .int .i64 (i : Int) ∧ i ≤ l.length ∧ Aside0 (l.length ≤ gg + i) ∧ Aside0 (Below w.heap.size w wr))
  case atStart => exact ⟨0, by simp, rfl, by omega, ⟨by omega⟩, ⟨Below.refl _ _⟩⟩
  case round =>
    obtain ⟨i, rfl, rfl, h1, hg, HB⟩ := hrel
    by_cases hlt : i < l.length
    · have c1 : decide (i < l.length) = true := decide_eq_true hlt
      have c1b : decide ((i : Int) < (l.length : Int)) = true := decide_eq_true (by omega)
      obtain ⟨ad, A0, c0, e, hx, _, _⟩ := at_L4 (Kd.C_below HR.out HB.out) (i : Int) (by omega) (by omega)
      subst e
      rw [rows_at l i hlt, Int.toNat_natCast] at hx
      have f1 := flat_le l (i + 1)
      have f2 := HL.out
      have f3 : (l.take (i + 1)).flatten.length = (l.take i).flatten.length + l[i].length := by rw [flat_succ l i hlt, List.length_append]
      obtain ⟨m, hm⟩ : ∃ m, (l.take i).flatten.length = m := ⟨_, rfl⟩
      obtain ⟨m2, hm2⟩ : ∃ m2, l[i].length = m2 := ⟨_, rfl⟩
      rw [hm2] at hx f3
      rw [hm] at f3 ⊢
      have E1 := Lib.hid (show wrap64 ((m : Int) + (m2 : Int)) = ((l.take (i + 1)).flatten.length : Int) by rw [wrap_ok _ (by omega) (by omega)]; omega)
      have E2 := Lib.hid (show wrap64 ((i : Int) + 1) = ((i + 1 : Nat) : Int) by rw [wrap_ok _ (by omega) (by omega)]; rfl)
      have c2 : decide (wrap64 ((m : Int) + (m2 : Int)) < 0) = false := decide_eq_false (by rw [E1.out]; omega)
      clear f1 f2 f3 hm hm2
      go_wp2
      go_roundg (l.length - (i + 1))
      case measure => have := hg.out; omega
      case rel => exact ⟨i + 1, by rw [E1.out], by first | rfl | rw [E2.out], by omega, ⟨by omega⟩, HB⟩
    · obtain rfl : i = l.length := by omega
      rw [List.take_length]
      obtain ⟨n, hn⟩ : ∃ n, l.flatten.length = n := ⟨_, rfl⟩
      have hn2 := HL.out
      rw [hn] at hn2 ⊢
      have HN := Lib.hid hn
      have HL2 := Aside0.mk hn2
      clear hn hn2 HL hg
      go_wp2_with (go_at_call 87; (with_reducible refine (grow_c n HL2.out _).mono ?_); rintro e w2 ⟨v6, rfl, hr, hb⟩; have R2 := Aside0.mk (Kd.R_lower hr HB.out.size); have HB2 := Aside0.mk (HB.out.trans (hb.mono HB.out.size)); clear hr hb HB)
      have hinfo : (Try.prog.info? 61).map (fun i => (i.zero, i.size, i.bytes)) = some (some (.agg #[.int .i64 0, .int .i64 0, .int .i64 0]), 3, 24) := by kernel_rfl
      have HI := Lib.hid hinfo
      clear hinfo
      go_loopg [6, 8, 27] l.length (fun gg s6 _ s27 wr => ∃ i : Nat, s27 = .int .i64 (i : Int) ∧ i ≤ l.length ∧ Aside0 (l.length ≤ gg + i) ∧ Aside0 (Kd.R k61 61 wr w.heap.size (fun _ => True) s6 (l.take i).flatten) ∧ Aside0 (Below w.heap.size w wr))
      case atStart => exact ⟨0, rfl, by omega, ⟨by omega⟩, ⟨by simpa using R2.out⟩, HB2⟩
      case round =>
        obtain ⟨i, rfl, h1, hg, HO, HB⟩ := hrel
        by_cases hlt : i < l.length
        · have c1 : decide (i < l.length) = true := decide_eq_true hlt
          obtain ⟨ad, A0, c0, e, hx, _, hC⟩ := at_L4 (Kd.C_below HR.out HB.out) (i : Int) (by omega) (by omega)
          subst e
          rw [rows_at l i hlt] at hx hC
          rw [Int.toNat_natCast] at hx
          have f1 := flat_le l (i + 1)
          have f3 : (l.take (i + 1)).flatten.length = (l.take i).flatten.length + l[i].length := by rw [flat_succ l i hlt, List.length_append]
          have f4 := HN.out
          have f5 := HL2.out
          have HC := Aside0.mk hC
          have HF := Lib.hid (flat_succ l i hlt)
          have HS := Aside0.mk (show ((l.take i).flatten.length + l[i].length) * 24 ≤ 140737488355328 by omega)
          clear f1 f3 f4 f5 hC
          obtain ⟨row, hrow⟩ : ∃ row, l[i] = row := ⟨_, rfl⟩
          rw [hrow] at hx HC HF HS
          go_wp2_with (first
            | ((with_reducible refine gate_builtin (b := .append) (xs := #[.tmp 31, .tmp 32]) rfl ?_); at_builtin; refine Kd.R_append_rows k61 (w0 := w) w.heap.size rfl (.tmp 31) (.tmp 32) 37 61 (.agg #[.int .i64 0, .int .i64 0, .int .i64 0]) 24 rfl Try.underlying37 HI.out rfl (show 0 < 3 by decide) (by omega) _ (l.take i).flatten row _ _ _ (fun _ => True) (fun _ => False) rfl rfl HO.out HC.out (blk_KM _ _ _ _) (fun _ h => h.elim) (fun _ _ => trivial) HB.out (below_size HB.out) HS.out ?_; intro v2 w9 ho hb hg_ hat_; clear hg_ hat_ HO HB; rw [← HF.out] at ho; have HO := Aside0.mk ho; have HB := Aside0.mk hb; clear ho hb))
          go_roundg (l.length - (i + 1))
          case measure => have := hg.out; omega
          case rel => exact ⟨i + 1, by first | rfl | (rw [wrap_ok _ (by omega) (by omega)]; rfl), by omega, ⟨by omega⟩, HO, HB⟩
        · obtain rfl : i = l.length := by omega
          have HO2 := Aside0.mk (show Kd.R k61 61 wr w.heap.size (fun _ => True) _ l.flatten by have := HO.out; rwa [List.take_length] at this)
          clear HO
          go_wp2
          go_ret
          exact ⟨_, rfl, HO2.out, HB.out⟩

end Go.Proofs.Ytmodpocjnafpdaa.Leaf
