/- A digest on its way ended, by the reference and by the program: alike. Conditions: none. -/
import Derived.Test.YtajbljegeiebjaaLeafD
import Derived.Test.YtajbljegeiebjaaHashQ
namespace Go.Proofs.Ytajbljegeiebjaa.Leaf
open Go.RowKit Go.Shelf Go.Proofs.YtajbljegeiebjaaW.PrintWords Go.Proofs.YtajbljegeiebjaaW.PrintLast Go.Proofs.YtajbljegeiebjaaW.PrintMore

theorem inW_nat {a : Int} (h : inW a = true) : ∃ n : Nat, a = n ∧ n < 2 ^ 32 := by
  unfold inW at h
  simp only [Bool.and_eq_true, decide_eq_true_eq] at h
  exact ⟨a.toNat, by omega, by omega⟩
/-- Of a digest that is right: its words as natural numbers. -/
theorem ok_words {x0 x1 x2 x3 x4 x5 x6 x7 : Int} (h : inW x0 = true ∧ inW x1 = true ∧ inW x2 = true ∧ inW x3 = true ∧ inW x4 = true ∧ inW x5 = true ∧ inW x6 = true ∧ inW x7 = true) :
    ∃ n0 n1 n2 n3 n4 n5 n6 n7 : Nat, (x0 = n0 ∧ x1 = n1 ∧ x2 = n2 ∧ x3 = n3 ∧ x4 = n4 ∧ x5 = n5 ∧ x6 = n6 ∧ x7 = n7) ∧ WN 8 [n0, n1, n2, n3, n4, n5, n6, n7] := by
  obtain ⟨h0, h1, h2, h3, h4, h5, h6, h7⟩ := h
  obtain ⟨n0, rfl, l0⟩ := inW_nat h0
  obtain ⟨n1, rfl, l1⟩ := inW_nat h1
  obtain ⟨n2, rfl, l2⟩ := inW_nat h2
  obtain ⟨n3, rfl, l3⟩ := inW_nat h3
  obtain ⟨n4, rfl, l4⟩ := inW_nat h4
  obtain ⟨n5, rfl, l5⟩ := inW_nat h5
  obtain ⟨n6, rfl, l6⟩ := inW_nat h6
  obtain ⟨n7, rfl, l7⟩ := inW_nat h7
  exact ⟨n0, n1, n2, n3, n4, n5, n6, n7, ⟨rfl, rfl, rfl, rfl, rfl, rfl, rfl, rfl⟩, rfl, list8_lt _ _ _ _ _ _ _ _ _ (by decide) l0 l1 l2 l3 l4 l5 l6 l7⟩

set_option maxRecDepth 100000 in
set_option maxHeartbeats 8000000 in
theorem HashSum_both (x0 x1 x2 x3 x4 x5 x6 x7 n : Int) (b : ByteArray) : ∃ (s : ByteArray) (c : Int),
    (∀ w, Calls Try.prog 19 #[.agg #[.int .i64 x0, .int .i64 x1, .int .i64 x2, .int .i64 x3, .int .i64 x4, .int .i64 x5, .int .i64 x6, .int .i64 x7, .string b, .int .i64 n]] w fun e w' => e = .returned (.tuple #[.string s, .int .i64 c]) ∧ Below w.heap.size w w') ∧
    (∀ w, Calls Try.prog 20 #[.agg #[.int .i64 x0, .int .i64 x1, .int .i64 x2, .int .i64 x3, .int .i64 x4, .int .i64 x5, .int .i64 x6, .int .i64 x7, .string b, .int .i64 n]] w fun e w' => e = .returned (.tuple #[.string s, .int .i64 c]) ∧ Below w.heap.size w w') := by
  obtain ⟨ok, HS, HI, HO⟩ := HashOK_both x0 x1 x2 x3 x4 x5 x6 x7 n b
  cases ok with
  | false =>
    clear HO
    refine ⟨⟨#[]⟩, 1, fun w => ?_, fun w => ?_⟩
    · clear HI
      have B0 := Lib.hid (Blk.new w 26 #[.int .i64 x0, .int .i64 x1, .int .i64 x2, .int .i64 x3, .int .i64 x4, .int .i64 x5, .int .i64 x6, .int .i64 x7, .string b, .int .i64 n])
      go_enter Try.func19, Try.ntmps19
      go_wp2_with (first
        | (refine wpList_load_row rfl 26 _ rfl w.heap.size rfl 26 #[.int .i64 x0, .int .i64 x1, .int .i64 x2, .int .i64 x3, .int .i64 x4, .int .i64 x5, .int .i64 x6, .int .i64 x7, .string b, .int .i64 n] (0, 0) _ B0.out Try.underlying26 rfl (by kernel_rfl) ?_)
        | (go_at_call 38; refine (HS _).mono ?_; rintro e w1 ⟨rfl, hb⟩; replace hb := Aside0.mk hb))
      go_ret2
      exact ⟨rfl, (below_alloc (Below.refl _ _) _).trans (hb.out.mono (by simp))⟩
    · clear HS
      have B0 := Lib.hid (Blk.new w 26 #[.int .i64 x0, .int .i64 x1, .int .i64 x2, .int .i64 x3, .int .i64 x4, .int .i64 x5, .int .i64 x6, .int .i64 x7, .string b, .int .i64 n])
      go_enter Try.func20, Try.ntmps20
      go_wp2_with (first
        | (refine wpList_load_row rfl 26 _ rfl w.heap.size rfl 26 #[.int .i64 x0, .int .i64 x1, .int .i64 x2, .int .i64 x3, .int .i64 x4, .int .i64 x5, .int .i64 x6, .int .i64 x7, .string b, .int .i64 n] (0, 0) _ B0.out Try.underlying26 rfl (by kernel_rfl) ?_)
        | (go_at_call 42; refine (HI _).mono ?_; rintro e w1 ⟨rfl, hb⟩; replace hb := Aside0.mk hb))
      go_ret2
      exact ⟨rfl, (below_alloc (Below.refl _ _) _).trans (hb.out.mono (by simp))⟩
  | true =>
    obtain ⟨hw, ⟨h0, h1⟩, hbn⟩ := HO rfl
    obtain ⟨n0, n1, n2, n3, n4, n5, n6, n7, ⟨rfl, rfl, rfl, rfl, rfl, rfl, rfl, rfl⟩, hh⟩ := ok_words hw
    obtain ⟨s, CS, CI⟩ : ∃ s, (∀ W, Calls Try.prog 47 #[.agg #[.int .i64 n0, .int .i64 n1, .int .i64 n2, .int .i64 n3, .int .i64 n4, .int .i64 n5, .int .i64 n6, .int .i64 n7, .string b, .int .i64 n]] W fun e w' => e = .returned (.string s) ∧ Below W.heap.size W w') ∧
        (∀ W, Calls Try.prog 48 #[.agg #[.int .i64 n0, .int .i64 n1, .int .i64 n2, .int .i64 n3, .int .i64 n4, .int .i64 n5, .int .i64 n6, .int .i64 n7, .string b, .int .i64 n]] W fun e w' => e = .returned (.string s) ∧ Below W.heap.size W w') :=
      ⟨_, fun W => l01Sum_calls [n0, n1, n2, n3, n4, n5, n6, n7] b n hh (by omega) h0 h1 W, fun W => sum_calls [n0, n1, n2, n3, n4, n5, n6, n7] b n hh hbn h0 h1 W⟩
    clear hw hh h0 h1 hbn HO
    refine ⟨s, 0, fun w => ?_, fun w => ?_⟩
    · clear HI CI
      have B0 := Lib.hid (Blk.new w 26 #[.int .i64 n0, .int .i64 n1, .int .i64 n2, .int .i64 n3, .int .i64 n4, .int .i64 n5, .int .i64 n6, .int .i64 n7, .string b, .int .i64 n])
      go_enter Try.func19, Try.ntmps19
      go_wp2_with (first
        | (refine wpList_load_row rfl 26 _ rfl w.heap.size rfl 26 #[.int .i64 n0, .int .i64 n1, .int .i64 n2, .int .i64 n3, .int .i64 n4, .int .i64 n5, .int .i64 n6, .int .i64 n7, .string b, .int .i64 n] (0, 0) _ B1.out Try.underlying26 rfl (by kernel_rfl) ?_)
        | (refine wpList_load_row rfl 26 _ rfl w.heap.size rfl 26 #[.int .i64 n0, .int .i64 n1, .int .i64 n2, .int .i64 n3, .int .i64 n4, .int .i64 n5, .int .i64 n6, .int .i64 n7, .string b, .int .i64 n] (0, 0) _ B0.out Try.underlying26 rfl (by kernel_rfl) ?_)
        | (go_at_call 38; refine (HS _).mono ?_; rintro e w1 ⟨rfl, hb⟩; have B1 := Lib.hid (B0.out.below hb); replace hb := Aside0.mk hb)
        | (go_at_call 47; refine (CS _).mono ?_; rintro e w2 ⟨rfl, hb2⟩; replace hb2 := Aside0.mk hb2))
      go_ret2
      have l1 : Below w.heap.size w w1 := (below_alloc (Below.refl _ _) _).trans (hb.out.mono (by simp))
      exact ⟨rfl, l1.trans (hb2.out.mono l1.size)⟩
    · clear HS CS
      have B0 := Lib.hid (Blk.new w 26 #[.int .i64 n0, .int .i64 n1, .int .i64 n2, .int .i64 n3, .int .i64 n4, .int .i64 n5, .int .i64 n6, .int .i64 n7, .string b, .int .i64 n])
      go_enter Try.func20, Try.ntmps20
      go_wp2_with (first
        | (refine wpList_load_row rfl 26 _ rfl w.heap.size rfl 26 #[.int .i64 n0, .int .i64 n1, .int .i64 n2, .int .i64 n3, .int .i64 n4, .int .i64 n5, .int .i64 n6, .int .i64 n7, .string b, .int .i64 n] (0, 0) _ B1.out Try.underlying26 rfl (by kernel_rfl) ?_)
        | (refine wpList_load_row rfl 26 _ rfl w.heap.size rfl 26 #[.int .i64 n0, .int .i64 n1, .int .i64 n2, .int .i64 n3, .int .i64 n4, .int .i64 n5, .int .i64 n6, .int .i64 n7, .string b, .int .i64 n] (0, 0) _ B0.out Try.underlying26 rfl (by kernel_rfl) ?_)
        | (go_at_call 42; refine (HI _).mono ?_; rintro e w1 ⟨rfl, hb⟩; have B1 := Lib.hid (B0.out.below hb); replace hb := Aside0.mk hb)
        | (go_at_call 48; refine (CI _).mono ?_; rintro e w2 ⟨rfl, hb2⟩; replace hb2 := Aside0.mk hb2))
      go_ret2
      have l1 : Below w.heap.size w w1 := (below_alloc (Below.refl _ _) _).trans (hb.out.mono (by simp))
      exact ⟨rfl, l1.trans (hb2.out.mono l1.size)⟩

end Go.Proofs.Ytajbljegeiebjaa.Leaf
