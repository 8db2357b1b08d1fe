/- FnExactQuarterRound answers true. Conditions: none. -/
import Derived.Test.YtihpnededldedaaQr
namespace Go.Proofs.Ytihpnededldedaa.Leaf
open Go.RowKit Go.Shelf Go.Proofs.YtihpnededldedaaW.PrintWords Go.Proofs.YtihpnededldedaaW.PrintLast Go.Proofs.YtihpnededldedaaW.PrintMore

theorem qrOf_four (a b c d : Int) : ∃ p0 p1 p2 p3 m : Int, qrOf a b c d = ([p0, p1, p2, p3], m) := by
  unfold qrOf
  split
  · exact ⟨_, _, _, _, _, rfl⟩
  · exact ⟨_, _, _, _, _, rfl⟩

set_option maxRecDepth 100000 in
set_option maxHeartbeats 8000000 in
theorem FnExactQuarterRound_walk (a b c d : Int) (w : World) : Calls Try.prog 3 #[.agg #[.int .i64 a, .int .i64 b, .int .i64 c, .int .i64 d]] w fun e w' => e = .returned (.bool true) ∧ Below w.heap.size w w' := by
  obtain ⟨p0, p1, p2, p3, m, hp⟩ := qrOf_four a b c d
  have HT := fun W => toIntA4_calls [a, b, c, d] rfl W
  have HS := fun W => spec_QuarterRound_calls a b c d W
  have HI := fun W => impl_QuarterRound_calls a b c d W
  have HE := fun W => eqIntA4_calls [p0, p1, p2, p3] [p0, p1, p2, p3] rfl rfl W
  rw [hp] at HS HI
  rw [decide_eq_true (rfl : [p0, p1, p2, p3] = [p0, p1, p2, p3])] at HE
  simp only [show ints .i64 [a, b, c, d] = #[.int .i64 a, .int .i64 b, .int .i64 c, .int .i64 d] from rfl] at HT
  simp only [show ints .i64 [p0, p1, p2, p3] = #[.int .i64 p0, .int .i64 p1, .int .i64 p2, .int .i64 p3] from rfl] at HS HI HE
  have nm : (m != m) = false := by simp
  have B0 := Lib.hid (Blk.new w 22 #[.int .i64 a, .int .i64 b, .int .i64 c, .int .i64 d])
  have L0 := Lib.hid (show Below w.heap.size w (w.alloc (.cells #[.int .i64 a, .int .i64 b, .int .i64 c, .int .i64 d] 22)) from below_alloc (Below.refl _ _) _)
  clear hp
  go_enter Try.func3, Try.ntmps3
  go_wp2_with (first
    | (go_at_call 14; refine (HT _).mono ?_; rintro e w3 ⟨rfl, hb3⟩; have P3 := Lib.hid (P2.out.below hb3); have L3 := Lib.hid (L2.out.trans (hb3.mono L2.out.size)); clear hb3)
    | (go_at_call 14; refine (HT _).mono ?_; rintro e w1 ⟨rfl, hb1⟩; have B1 := Lib.hid (B0.out.below hb1); have L1 := Lib.hid (L0.out.trans (hb1.mono L0.out.size)); clear hb1)
    | (go_at_call 13; refine (HS _).mono ?_; rintro e w2 ⟨rfl, hb2⟩; have B2 := (B1.out.below hb2).alloc (.cells #[.int .i64 p0, .int .i64 p1, .int .i64 p2, .int .i64 p3] 22); have x0 := (B2.at 0 _ rfl).1; have x1 := (B2.at 1 _ rfl).1; have x2 := (B2.at 2 _ rfl).1; have x3 := (B2.at 3 _ rfl).1; clear B2; have P2 := Lib.hid (Blk.new w2 22 #[.int .i64 p0, .int .i64 p1, .int .i64 p2, .int .i64 p3]); have L2 := Lib.hid (below_alloc (L1.out.trans (hb2.mono L1.out.size)) (.cells #[.int .i64 p0, .int .i64 p1, .int .i64 p2, .int .i64 p3] 22)); clear hb2)
    | (go_at_call 15; refine (HI _).mono ?_; rintro e w4 ⟨rfl, hb4⟩; have P4 := (P3.out.below hb4).alloc (.cells #[.int .i64 p0, .int .i64 p1, .int .i64 p2, .int .i64 p3] 22); have y0 := (P4.at 0 _ rfl).1; have y1 := (P4.at 1 _ rfl).1; have y2 := (P4.at 2 _ rfl).1; have y3 := (P4.at 3 _ rfl).1; clear P4; have L4 := Lib.hid (below_alloc (L3.out.trans (hb4.mono L3.out.size)) (.cells #[.int .i64 p0, .int .i64 p1, .int .i64 p2, .int .i64 p3] 22)); clear hb4)
    | (go_at_call 16; refine (HE _).mono ?_; rintro e w5 ⟨rfl, hb5⟩; have L5 := Lib.hid (L4.out.trans (hb5.mono L4.out.size)); clear hb5))
  go_ret
  exact ⟨rfl, L5.out⟩

end Go.Proofs.Ytihpnededldedaa.Leaf
