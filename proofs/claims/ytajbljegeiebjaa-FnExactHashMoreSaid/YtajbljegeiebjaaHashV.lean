/- FnExactHashMore answers true. Conditions: the strings' lengths. -/
import Derived.Test.YtajbljegeiebjaaHashU
namespace Go.Proofs.Ytajbljegeiebjaa.Leaf
open Go.RowKit Go.Shelf Go.Proofs.YtajbljegeiebjaaW.PrintWords Go.Proofs.YtajbljegeiebjaaW.PrintLast Go.Proofs.YtajbljegeiebjaaW.PrintMore

set_option maxRecDepth 100000 in
set_option maxHeartbeats 8000000 in
theorem FnExactHashMore_walk (x0 x1 x2 x3 x4 x5 x6 x7 n : Int) (b t : ByteArray) (w : World) (hb : (b.size : Int) ≤ 140737488351232) : Calls Try.prog 3 #[.agg #[.int .i64 x0, .int .i64 x1, .int .i64 x2, .int .i64 x3, .int .i64 x4, .int .i64 x5, .int .i64 x6, .int .i64 x7, .string b, .int .i64 n], .string t] w fun e w' => e = .returned (.bool true) ∧ Below w.heap.size w w' := by
  obtain ⟨y0, y1, y2, y3, y4, y5, y6, y7, m, code, c, HS, HI⟩ := HashMore_both x0 x1 x2 x3 x4 x5 x6 x7 n b t
  have HT := fun W => toHash_calls x0 x1 x2 x3 x4 x5 x6 x7 n b W
  have HZ := fun W => szHash_calls x0 x1 x2 x3 x4 x5 x6 x7 n b 1048576 hb (by omega) (by omega) W
  have HE : ∀ W, Calls Try.prog 16 #[.agg #[.int .i64 y0, .int .i64 y1, .int .i64 y2, .int .i64 y3, .int .i64 y4, .int .i64 y5, .int .i64 y6, .int .i64 y7, .string c, .int .i64 m], .agg #[.int .i64 y0, .int .i64 y1, .int .i64 y2, .int .i64 y3, .int .i64 y4, .int .i64 y5, .int .i64 y6, .int .i64 y7, .string c, .int .i64 m]] W fun e w' => e = .returned (.bool true) ∧ Below W.heap.size W w' := fun W => by
    have := eqHash_calls [y0, y1, y2, y3, y4, y5, y6, y7] [y0, y1, y2, y3, y4, y5, y6, y7] rfl rfl c c m m W
    rw [decide_eq_true (show ([y0, y1, y2, y3, y4, y5, y6, y7] : List Int) = [y0, y1, y2, y3, y4, y5, y6, y7] ∧ c = c ∧ m = m from ⟨rfl, rfl, rfl⟩)] at this
    exact this
  have B0 := Lib.hid (Blk.new w 24 #[.int .i64 x0, .int .i64 x1, .int .i64 x2, .int .i64 x3, .int .i64 x4, .int .i64 x5, .int .i64 x6, .int .i64 x7, .string b, .int .i64 n])
  have L0 := Lib.hid (show Below w.heap.size w (w.alloc (.cells #[.int .i64 x0, .int .i64 x1, .int .i64 x2, .int .i64 x3, .int .i64 x4, .int .i64 x5, .int .i64 x6, .int .i64 x7, .string b, .int .i64 n] 24)) from below_alloc (Below.refl _ _) _)
  have nc : (code != code) = false := by simp
  clear hb
  by_cases hl : t.size > 1048576
  · have c0 : decide ((t.size : Int) > 1048576) = true := decide_eq_true (by omega)
    clear HS HI HT HZ HE nc
    go_enter Try.func3, Try.ntmps3
    go_wp2
    go_ret
    exact ⟨rfl, L0.out⟩
  have c0 : decide ((t.size : Int) > 1048576) = false := decide_eq_false (by omega)
  clear hl
  by_cases q : (1048576 : Int) - b.size < 0
  · rw [if_pos q] at HZ
    clear q HS HI HT HE nc
    go_enter Try.func3, Try.ntmps3
    go_wp2_with (first | (refine wpList_load_row rfl 24 _ rfl w.heap.size rfl 24 #[.int .i64 x0, .int .i64 x1, .int .i64 x2, .int .i64 x3, .int .i64 x4, .int .i64 x5, .int .i64 x6, .int .i64 x7, .string b, .int .i64 n] (0, 0) _ B0.out Try.underlying24 rfl (by kernel_rfl) ?_) | (go_at_call 12; refine (HZ _).mono ?_; rintro e w1 ⟨rfl, hb⟩; have B1 := Lib.hid (B0.out.below hb); have L1 := Lib.hid (L0.out.trans (hb.mono L0.out.size)); clear hb))
    go_ret
    exact ⟨rfl, L1.out⟩
  · rw [if_neg q] at HZ
    obtain ⟨d, hd⟩ : ∃ d, (1048576 : Int) - b.size = d := ⟨_, rfl⟩
    rw [hd] at HZ q
    have c1 : decide (d < 0) = false := decide_eq_false q
    clear hd q
    go_enter Try.func3, Try.ntmps3
    go_wp2_with (first
      | (refine wpList_load_row rfl 24 _ rfl w.heap.size rfl 24 #[.int .i64 x0, .int .i64 x1, .int .i64 x2, .int .i64 x3, .int .i64 x4, .int .i64 x5, .int .i64 x6, .int .i64 x7, .string b, .int .i64 n] (0, 0) _ B7.out Try.underlying24 rfl (by kernel_rfl) ?_) | (refine wpList_load_row rfl 24 _ rfl w.heap.size rfl 24 #[.int .i64 x0, .int .i64 x1, .int .i64 x2, .int .i64 x3, .int .i64 x4, .int .i64 x5, .int .i64 x6, .int .i64 x7, .string b, .int .i64 n] (0, 0) _ B1.out Try.underlying24 rfl (by kernel_rfl) ?_) | (refine wpList_load_row rfl 24 _ rfl w.heap.size rfl 24 #[.int .i64 x0, .int .i64 x1, .int .i64 x2, .int .i64 x3, .int .i64 x4, .int .i64 x5, .int .i64 x6, .int .i64 x7, .string b, .int .i64 n] (0, 0) _ B0.out Try.underlying24 rfl (by kernel_rfl) ?_)
      | (go_at_call 12; refine (HZ _).mono ?_; rintro e w1 ⟨rfl, hb⟩; have B1 := Lib.hid (B0.out.below hb); have L1 := Lib.hid (L0.out.trans (hb.mono L0.out.size)); clear hb)
      | (go_at_call 14; refine (HT _).mono ?_; rintro e w4 ⟨rfl, hb⟩; have P4 := Lib.hid (P7.out.below hb); have L4 := Lib.hid (L7.out.trans (hb.mono L7.out.size)); clear hb B7)
      | (go_at_call 14; refine (HT _).mono ?_; rintro e w2 ⟨rfl, hb⟩; have B2 := Lib.hid (B1.out.below hb); have L2 := Lib.hid (L1.out.trans (hb.mono L1.out.size)); clear hb B1)
      | (go_at_call 13; refine (HS _).mono ?_; rintro e w3 ⟨rfl, hb⟩; have B3 := Lib.hid (B2.out.below hb); have L3 := Lib.hid (L2.out.trans (hb.mono L2.out.size)); clear hb)
      | (go_at_call 15; refine (HI _).mono ?_; rintro e w5 ⟨rfl, hb⟩; have P5 := Lib.hid (P4.out.below hb); have L5 := Lib.hid (L4.out.trans (hb.mono L4.out.size)); clear hb)
      | (refine wpList_store_row rfl 26 _ _ rfl w5.heap.size #[.int .i64 y0, .int .i64 y1, .int .i64 y2, .int .i64 y3, .int .i64 y4, .int .i64 y5, .int .i64 y6, .int .i64 y7, .string c, .int .i64 m] rfl rfl 26 _ (Blk.new _ _ _) (by kernel_rfl) rfl (by simp [Value.oneCell']) ?_; have P9 := Lib.hid ((P5.out.alloc (.cells #[.int .i64 0, .int .i64 0, .int .i64 0, .int .i64 0, .int .i64 0, .int .i64 0, .int .i64 0, .int .i64 0, .string ⟨#[]⟩, .int .i64 0] 26)).rowOther w5.heap.size (Nat.ne_of_lt P5.out.lt) #[.int .i64 y0, .int .i64 y1, .int .i64 y2, .int .i64 y3, .int .i64 y4, .int .i64 y5, .int .i64 y6, .int .i64 y7, .string c, .int .i64 m]); have Q9 := Lib.hid ((Blk.new w5 26 #[.int .i64 0, .int .i64 0, .int .i64 0, .int .i64 0, .int .i64 0, .int .i64 0, .int .i64 0, .int .i64 0, .string ⟨#[]⟩, .int .i64 0]).row #[.int .i64 y0, .int .i64 y1, .int .i64 y2, .int .i64 y3, .int .i64 y4, .int .i64 y5, .int .i64 y6, .int .i64 y7, .string c, .int .i64 m]); have L9 := Lib.hid (below_setRow (below_alloc L5.out (.cells #[.int .i64 0, .int .i64 0, .int .i64 0, .int .i64 0, .int .i64 0, .int .i64 0, .int .i64 0, .int .i64 0, .string ⟨#[]⟩, .int .i64 0] 26)) L5.out.size #[.int .i64 y0, .int .i64 y1, .int .i64 y2, .int .i64 y3, .int .i64 y4, .int .i64 y5, .int .i64 y6, .int .i64 y7, .string c, .int .i64 m]))
      | (refine wpList_store_row rfl 26 _ _ rfl w3.heap.size #[.int .i64 y0, .int .i64 y1, .int .i64 y2, .int .i64 y3, .int .i64 y4, .int .i64 y5, .int .i64 y6, .int .i64 y7, .string c, .int .i64 m] rfl rfl 26 _ (Blk.new _ _ _) (by kernel_rfl) rfl (by simp [Value.oneCell']) ?_; have B7 := Lib.hid ((B3.out.alloc (.cells #[.int .i64 0, .int .i64 0, .int .i64 0, .int .i64 0, .int .i64 0, .int .i64 0, .int .i64 0, .int .i64 0, .string ⟨#[]⟩, .int .i64 0] 26)).rowOther w3.heap.size (Nat.ne_of_lt B3.out.lt) #[.int .i64 y0, .int .i64 y1, .int .i64 y2, .int .i64 y3, .int .i64 y4, .int .i64 y5, .int .i64 y6, .int .i64 y7, .string c, .int .i64 m]); have P7 := Lib.hid ((Blk.new w3 26 #[.int .i64 0, .int .i64 0, .int .i64 0, .int .i64 0, .int .i64 0, .int .i64 0, .int .i64 0, .int .i64 0, .string ⟨#[]⟩, .int .i64 0]).row #[.int .i64 y0, .int .i64 y1, .int .i64 y2, .int .i64 y3, .int .i64 y4, .int .i64 y5, .int .i64 y6, .int .i64 y7, .string c, .int .i64 m]); have L7 := Lib.hid (below_setRow (below_alloc L3.out (.cells #[.int .i64 0, .int .i64 0, .int .i64 0, .int .i64 0, .int .i64 0, .int .i64 0, .int .i64 0, .int .i64 0, .string ⟨#[]⟩, .int .i64 0] 26)) L3.out.size #[.int .i64 y0, .int .i64 y1, .int .i64 y2, .int .i64 y3, .int .i64 y4, .int .i64 y5, .int .i64 y6, .int .i64 y7, .string c, .int .i64 m]))
      | (refine wpList_load_row rfl 26 _ rfl w5.heap.size rfl 26 #[.int .i64 y0, .int .i64 y1, .int .i64 y2, .int .i64 y3, .int .i64 y4, .int .i64 y5, .int .i64 y6, .int .i64 y7, .string c, .int .i64 m] (0, 0) _ Q9.out Try.underlying26 rfl (by kernel_rfl) ?_)
      | (refine wpList_load_row rfl 26 _ rfl w3.heap.size rfl 26 #[.int .i64 y0, .int .i64 y1, .int .i64 y2, .int .i64 y3, .int .i64 y4, .int .i64 y5, .int .i64 y6, .int .i64 y7, .string c, .int .i64 m] (0, 0) _ P9.out Try.underlying26 rfl (by kernel_rfl) ?_)
      | (go_at_call 16; refine (HE _).mono ?_; rintro e w6 ⟨rfl, hb⟩; have L6 := Lib.hid (L9.out.trans (hb.mono L9.out.size)); clear hb))
    go_ret
    exact ⟨rfl, L6.out⟩

end Go.Proofs.Ytajbljegeiebjaa.Leaf
