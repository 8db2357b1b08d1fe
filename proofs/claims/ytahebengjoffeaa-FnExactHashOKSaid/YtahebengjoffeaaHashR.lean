/- FnExactHashOK answers true. Conditions: the string's length. -/
import Derived.Test.YtahebengjoffeaaHashQ
namespace Go.Proofs.Ytahebengjoffeaa.Leaf
open Go.RowKit Go.Shelf Go.Proofs.YtahebengjoffeaaW.PrintWords Go.Proofs.YtahebengjoffeaaW.PrintLast Go.Proofs.YtahebengjoffeaaW.PrintMore

set_option maxRecDepth 100000 in
set_option maxHeartbeats 8000000 in
theorem FnExactHashOK_walk (x0 x1 x2 x3 x4 x5 x6 x7 n : Int) (b : ByteArray) (w : World) (hb : (b.size : Int) ≤ 140737488351232) : Calls Try.prog 12 #[.agg #[.int .i64 x0, .int .i64 x1, .int .i64 x2, .int .i64 x3, .int .i64 x4, .int .i64 x5, .int .i64 x6, .int .i64 x7, .string b, .int .i64 n]] w fun e w' => e = .returned (.bool true) ∧ Below w.heap.size w w' := by
  obtain ⟨ok, HS, HI, _⟩ := HashOK_both x0 x1 x2 x3 x4 x5 x6 x7 n b
  have HT := fun W => toHash_calls x0 x1 x2 x3 x4 x5 x6 x7 n b W
  have HZ := fun W => szHash_calls x0 x1 x2 x3 x4 x5 x6 x7 n b 1048576 hb (by decide) (by decide) W
  have B0 := Lib.hid (Blk.new w 36 #[.int .i64 x0, .int .i64 x1, .int .i64 x2, .int .i64 x3, .int .i64 x4, .int .i64 x5, .int .i64 x6, .int .i64 x7, .string b, .int .i64 n])
  have L0 := Lib.hid (show Below w.heap.size w (w.alloc (.cells #[.int .i64 x0, .int .i64 x1, .int .i64 x2, .int .i64 x3, .int .i64 x4, .int .i64 x5, .int .i64 x6, .int .i64 x7, .string b, .int .i64 n] 36)) from below_alloc (Below.refl _ _) _)
  have nm : (ok != ok) = false := by simp
  clear hb
  by_cases c : (1048576 : Int) - b.size < 0
  · rw [if_pos c] at HZ
    clear c
    go_enter Try.func12, Try.ntmps12
    go_wp2_with (first | (refine wpList_load_row rfl 36 _ rfl w.heap.size rfl 36 #[.int .i64 x0, .int .i64 x1, .int .i64 x2, .int .i64 x3, .int .i64 x4, .int .i64 x5, .int .i64 x6, .int .i64 x7, .string b, .int .i64 n] (0, 0) _ B0.out Try.underlying36 rfl (by kernel_rfl) ?_) | (go_at_call 32; refine (HZ _).mono ?_; rintro e w1 ⟨rfl, hb⟩; have B1 := Lib.hid (B0.out.below hb); have L1 := Lib.hid (L0.out.trans (hb.mono L0.out.size)); clear hb))
    go_ret
    exact ⟨rfl, L1.out⟩
  · rw [if_neg c] at HZ
    obtain ⟨d, hd⟩ : ∃ d, (1048576 : Int) - b.size = d := ⟨_, rfl⟩
    rw [hd] at HZ c
    have c1 : decide (d < 0) = false := decide_eq_false c
    clear hd
    go_enter Try.func12, Try.ntmps12
    go_wp2_with (first
      | (refine wpList_load_row rfl 36 _ rfl w.heap.size rfl 36 #[.int .i64 x0, .int .i64 x1, .int .i64 x2, .int .i64 x3, .int .i64 x4, .int .i64 x5, .int .i64 x6, .int .i64 x7, .string b, .int .i64 n] (0, 0) _ B3.out Try.underlying36 rfl (by kernel_rfl) ?_)
      | (refine wpList_load_row rfl 36 _ rfl w.heap.size rfl 36 #[.int .i64 x0, .int .i64 x1, .int .i64 x2, .int .i64 x3, .int .i64 x4, .int .i64 x5, .int .i64 x6, .int .i64 x7, .string b, .int .i64 n] (0, 0) _ B1.out Try.underlying36 rfl (by kernel_rfl) ?_)
      | (refine wpList_load_row rfl 36 _ rfl w.heap.size rfl 36 #[.int .i64 x0, .int .i64 x1, .int .i64 x2, .int .i64 x3, .int .i64 x4, .int .i64 x5, .int .i64 x6, .int .i64 x7, .string b, .int .i64 n] (0, 0) _ B0.out Try.underlying36 rfl (by kernel_rfl) ?_)
      | (go_at_call 32; refine (HZ _).mono ?_; rintro e w1 ⟨rfl, hb⟩; have B1 := Lib.hid (B0.out.below hb); have L1 := Lib.hid (L0.out.trans (hb.mono L0.out.size)); clear hb)
      | (go_at_call 34; refine (HT _).mono ?_; rintro e w4 ⟨rfl, hb⟩; have B4 := Lib.hid (B3.out.below hb); have L4 := Lib.hid (L3.out.trans (hb.mono L3.out.size)); clear hb)
      | (go_at_call 34; refine (HT _).mono ?_; rintro e w2 ⟨rfl, hb⟩; have B2 := Lib.hid (B1.out.below hb); have L2 := Lib.hid (L1.out.trans (hb.mono L1.out.size)); clear hb)
      | (go_at_call 33; refine (HS _).mono ?_; rintro e w3 ⟨rfl, hb⟩; have B3 := Lib.hid (B2.out.below hb); have L3 := Lib.hid (L2.out.trans (hb.mono L2.out.size)); clear hb)
      | (go_at_call 35; refine (HI _).mono ?_; rintro e w5 ⟨rfl, hb⟩; have B5 := Lib.hid (B4.out.below hb); have L5 := Lib.hid (L4.out.trans (hb.mono L4.out.size)); clear hb))
    go_ret
    exact ⟨rfl, L5.out⟩

end Go.Proofs.Ytahebengjoffeaa.Leaf
