/- A digest on its way looked at. Conditions: none. -/
import Derived.Test.YtahebengjoffeaaHash
import Derived.Test.YtahebengjoffeaaAllI
namespace Go.Proofs.Ytahebengjoffeaa.Leaf
open Go.RowKit Go.Shelf Go.Proofs.YtahebengjoffeaaW.PrintWords Go.Proofs.YtahebengjoffeaaW.PrintLast Go.Proofs.YtahebengjoffeaaW.PrintMore

/-- Is it a word? -/
def inW (a : Int) : Bool := decide (0 ≤ a) && decide (a ≤ 4294967295)

set_option maxRecDepth 100000 in
set_option maxHeartbeats 8000000 in
theorem toIntA8_calls (x0 x1 x2 x3 x4 x5 x6 x7 : Int) (w : World) : Calls Try.prog 58 #[.agg #[.int .i64 x0, .int .i64 x1, .int .i64 x2, .int .i64 x3, .int .i64 x4, .int .i64 x5, .int .i64 x6, .int .i64 x7]] w fun e w' => e = .returned (.agg #[.int .i64 x0, .int .i64 x1, .int .i64 x2, .int .i64 x3, .int .i64 x4, .int .i64 x5, .int .i64 x6, .int .i64 x7]) ∧ Below w.heap.size w w' := by
  go_enter Try.func58, Try.ntmps58
  go_wp2
  refine wp_loop_rounds 9 ?_
  repeat any_goals (rw [rounds_succ]; go_wp2)
  refine ret_row (p := 2) (ty := 27) rfl (w.heap.size + 1) 27 #[.int .i64 x0, .int .i64 x1, .int .i64 x2, .int .i64 x3, .int .i64 x4, .int .i64 x5, .int .i64 x6, .int .i64 x7] _ rfl ((Blk.new' _ _ _ _ (by simp)).alloc _) Try.underlying27 rfl (by kernel_rfl) rfl ⟨rfl, by (repeat' (first | (with_reducible exact Below.refl _ _) | (with_reducible assumption) | (with_reducible refine Below.alloc ?_ ?_ _) | (with_reducible refine Below_drewN ?_ _) | (with_reducible refine Below.setCell ?_ ?_ _) | (with_reducible refine below_setRow ?_ ?_ _) | (with_reducible refine Below.drew ?_) | go_size))⟩

set_option maxRecDepth 100000 in
set_option maxHeartbeats 8000000 in
theorem szHash_calls (x0 x1 x2 x3 x4 x5 x6 x7 n : Int) (b : ByteArray) (left : Int) (hb : (b.size : Int) ≤ 140737488351232) (h0 : 0 ≤ left) (h1 : left ≤ 1048576) (w : World) : Calls Try.prog 32 #[.agg #[.int .i64 x0, .int .i64 x1, .int .i64 x2, .int .i64 x3, .int .i64 x4, .int .i64 x5, .int .i64 x6, .int .i64 x7, .string b, .int .i64 n], .int .i64 left] w fun e w' => e = .returned (.int .i64 (if left - b.size < 0 then -1 else left - b.size)) ∧ Below w.heap.size w w' := by
  have w1 : wrap64 (left - (b.size : Int)) = left - (b.size : Int) := by unfold wrap64; omega
  obtain ⟨d, hd⟩ : ∃ d, left - (b.size : Int) = d := ⟨_, rfl⟩
  rw [hd] at w1 ⊢
  have W1 := w1
  clear hb h0 h1
  by_cases c : d < 0
  · have c1 : decide (d < 0) = true := decide_eq_true c
    rw [if_pos c]
    go_enter Try.func32, Try.ntmps32
    go_wp2
    go_ret
    exact ⟨rfl, by (repeat' (first | (with_reducible exact Below.refl _ _) | (with_reducible assumption) | (with_reducible refine Below.alloc ?_ ?_ _) | (with_reducible refine Below_drewN ?_ _) | (with_reducible refine Below.setCell ?_ ?_ _) | (with_reducible refine below_setRow ?_ ?_ _) | (with_reducible refine Below.drew ?_) | go_size))⟩
  · have c1 : decide (d < 0) = false := decide_eq_false c
    rw [if_neg c]
    go_enter Try.func32, Try.ntmps32
    go_wp2
    go_ret
    exact ⟨rfl, by (repeat' (first | (with_reducible exact Below.refl _ _) | (with_reducible assumption) | (with_reducible refine Below.alloc ?_ ?_ _) | (with_reducible refine Below_drewN ?_ _) | (with_reducible refine Below.setCell ?_ ?_ _) | (with_reducible refine below_setRow ?_ ?_ _) | (with_reducible refine Below.drew ?_) | go_size))⟩

theorem there8 {w : World} {g : Nat} {t : TypeId} {cs : Array Value} (h : Blk w g t cs) (hs : cs.size = 10) {c : Array Value} (hc : c.size = 8 := by rfl) : w.there g 0 c.size := by
  intro j hj
  rw [hc] at hj
  have := h.at j (cs[j]'(by omega)) (Array.getElem?_eq_getElem (by omega))
  rw [Nat.zero_add]
  exact ⟨by rw [this.1]; rfl, this.2⟩
theorem set8 {w : World} {g : Nat} {t : TypeId} {y0 y1 y2 y3 y4 y5 y6 y7 s m c0 c1 c2 c3 c4 c5 c6 c7 : Value} (h : Blk w g t #[y0, y1, y2, y3, y4, y5, y6, y7, s, m]) :
    Blk (w.setCells g 0 (#[c0, c1, c2, c3, c4, c5, c6, c7] : Array Value).toList) g t #[c0, c1, c2, c3, c4, c5, c6, c7, s, m] := by
  have h8 := (((((((h.set 0 c0).set 1 c1).set 2 c2).set 3 c3).set 4 c4).set 5 c5).set 6 c6).set 7 c7
  have e : w.setCells g 0 (#[c0, c1, c2, c3, c4, c5, c6, c7] : Array Value).toList = (((((((w.setCell ⟨g, 0, none⟩ c0).setCell ⟨g, 1, none⟩ c1).setCell ⟨g, 2, none⟩ c2).setCell ⟨g, 3, none⟩ c3).setCell ⟨g, 4, none⟩ c4).setCell ⟨g, 5, none⟩ c5).setCell ⟨g, 6, none⟩ c6).setCell ⟨g, 7, none⟩ c7 := by
    simp only [World.setCells, Nat.zero_add, Nat.reduceAdd]
  rw [e]
  refine h8.eq ?_
  apply Array.ext'
  simp
theorem Blk.setCells8 {w : World} {g k : Nat} {t : TypeId} {cs : Array Value} (h : Blk w g t cs) (hk : g ≠ k) (c : Array Value) {c0 c1 c2 c3 c4 c5 c6 c7 : Value} (hc : c = #[c0, c1, c2, c3, c4, c5, c6, c7] := by rfl) : Blk (w.setCells k 0 c.toList) g t cs := by
  subst hc
  exact ((((((((h.other ⟨k, 0, none⟩ hk c0).other ⟨k, 1, none⟩ hk c1).other ⟨k, 2, none⟩ hk c2).other ⟨k, 3, none⟩ hk c3).other ⟨k, 4, none⟩ hk c4).other ⟨k, 5, none⟩ hk c5).other ⟨k, 6, none⟩ hk c6).other ⟨k, 7, none⟩ hk c7)
theorem below_setCells8 {B k : Nat} {a w : World} (h : Below B a w) (hk : B ≤ k) (c : Array Value) {c0 c1 c2 c3 c4 c5 c6 c7 : Value} (hc : c = #[c0, c1, c2, c3, c4, c5, c6, c7] := by rfl) : Below B a (w.setCells k 0 c.toList) := by
  subst hc
  exact ((((((((h.setCell (p := ⟨k, 0, none⟩) hk c0).setCell (p := ⟨k, 1, none⟩) hk c1).setCell (p := ⟨k, 2, none⟩) hk c2).setCell (p := ⟨k, 3, none⟩) hk c3).setCell (p := ⟨k, 4, none⟩) hk c4).setCell (p := ⟨k, 5, none⟩) hk c5).setCell (p := ⟨k, 6, none⟩) hk c6).setCell (p := ⟨k, 7, none⟩) hk c7)

set_option maxRecDepth 100000 in
set_option maxHeartbeats 8000000 in
theorem toHash_calls (x0 x1 x2 x3 x4 x5 x6 x7 n : Int) (b : ByteArray) (w : World) : Calls Try.prog 34 #[.agg #[.int .i64 x0, .int .i64 x1, .int .i64 x2, .int .i64 x3, .int .i64 x4, .int .i64 x5, .int .i64 x6, .int .i64 x7, .string b, .int .i64 n]] w fun e w' => e = .returned (.agg #[.int .i64 x0, .int .i64 x1, .int .i64 x2, .int .i64 x3, .int .i64 x4, .int .i64 x5, .int .i64 x6, .int .i64 x7, .string b, .int .i64 n]) ∧ Below w.heap.size w w' := by
  have HT := fun W => toIntA8_calls x0 x1 x2 x3 x4 x5 x6 x7 W
  have A0 := Lib.hid (show Blk (((w.alloc (.cells #[.int .i64 x0, .int .i64 x1, .int .i64 x2, .int .i64 x3, .int .i64 x4, .int .i64 x5, .int .i64 x6, .int .i64 x7, .string b, .int .i64 n] 36)).alloc (.cells #[.int .i64 0, .int .i64 0, .int .i64 0, .int .i64 0, .int .i64 0, .int .i64 0, .int .i64 0, .int .i64 0, .string ⟨#[]⟩, .int .i64 0] 29)).alloc (.cells #[.int .i64 0, .int .i64 0, .int .i64 0, .int .i64 0, .int .i64 0, .int .i64 0, .int .i64 0, .int .i64 0, .string ⟨#[]⟩, .int .i64 0] 29)) w.heap.size 36 #[.int .i64 x0, .int .i64 x1, .int .i64 x2, .int .i64 x3, .int .i64 x4, .int .i64 x5, .int .i64 x6, .int .i64 x7, .string b, .int .i64 n] from ((Blk.new _ _ _).alloc _).alloc _)
  have R0 := Lib.hid (show Blk (((w.alloc (.cells #[.int .i64 x0, .int .i64 x1, .int .i64 x2, .int .i64 x3, .int .i64 x4, .int .i64 x5, .int .i64 x6, .int .i64 x7, .string b, .int .i64 n] 36)).alloc (.cells #[.int .i64 0, .int .i64 0, .int .i64 0, .int .i64 0, .int .i64 0, .int .i64 0, .int .i64 0, .int .i64 0, .string ⟨#[]⟩, .int .i64 0] 29)).alloc (.cells #[.int .i64 0, .int .i64 0, .int .i64 0, .int .i64 0, .int .i64 0, .int .i64 0, .int .i64 0, .int .i64 0, .string ⟨#[]⟩, .int .i64 0] 29)) (w.heap.size + 1) 29 #[.int .i64 0, .int .i64 0, .int .i64 0, .int .i64 0, .int .i64 0, .int .i64 0, .int .i64 0, .int .i64 0, .string ⟨#[]⟩, .int .i64 0] from (Blk.new' _ _ _ _ (by simp)).alloc _)
  have O0 := Lib.hid (show Blk (((w.alloc (.cells #[.int .i64 x0, .int .i64 x1, .int .i64 x2, .int .i64 x3, .int .i64 x4, .int .i64 x5, .int .i64 x6, .int .i64 x7, .string b, .int .i64 n] 36)).alloc (.cells #[.int .i64 0, .int .i64 0, .int .i64 0, .int .i64 0, .int .i64 0, .int .i64 0, .int .i64 0, .int .i64 0, .string ⟨#[]⟩, .int .i64 0] 29)).alloc (.cells #[.int .i64 0, .int .i64 0, .int .i64 0, .int .i64 0, .int .i64 0, .int .i64 0, .int .i64 0, .int .i64 0, .string ⟨#[]⟩, .int .i64 0] 29)) (w.heap.size + 1 + 1) 29 #[.int .i64 0, .int .i64 0, .int .i64 0, .int .i64 0, .int .i64 0, .int .i64 0, .int .i64 0, .int .i64 0, .string ⟨#[]⟩, .int .i64 0] from Blk.new' _ _ _ _ (by simp))
  have L0 := Lib.hid (show Below w.heap.size w (((w.alloc (.cells #[.int .i64 x0, .int .i64 x1, .int .i64 x2, .int .i64 x3, .int .i64 x4, .int .i64 x5, .int .i64 x6, .int .i64 x7, .string b, .int .i64 n] 36)).alloc (.cells #[.int .i64 0, .int .i64 0, .int .i64 0, .int .i64 0, .int .i64 0, .int .i64 0, .int .i64 0, .int .i64 0, .string ⟨#[]⟩, .int .i64 0] 29)).alloc (.cells #[.int .i64 0, .int .i64 0, .int .i64 0, .int .i64 0, .int .i64 0, .int .i64 0, .int .i64 0, .int .i64 0, .string ⟨#[]⟩, .int .i64 0] 29)) by (repeat' (first | (with_reducible exact Below.refl _ _) | (with_reducible assumption) | (with_reducible refine Below.alloc ?_ ?_ _) | (with_reducible refine Below_drewN ?_ _) | (with_reducible refine Below.setCell ?_ ?_ _) | (with_reducible refine below_setRow ?_ ?_ _) | (with_reducible refine Below.drew ?_) | go_size)))
  go_enter Try.func34, Try.ntmps34
  go_wp2_with (first
    | (go_at_call 58; refine (HT _).mono ?_; rintro e w1 ⟨rfl, hb1⟩; have BO := Lib.hid (O0.out.below hb1); have BR := Lib.hid (R0.out.below hb1); have BA := Lib.hid (A0.out.below hb1); have L1 := Lib.hid (L0.out.trans (hb1.mono L0.out.size)); clear hb1)
    | (refine wpList_store_mid rfl 27 _ _ rfl (w.heap.size + 1 + 1) 0 #[.int .i64 x0, .int .i64 x1, .int .i64 x2, .int .i64 x3, .int .i64 x4, .int .i64 x5, .int .i64 x6, .int .i64 x7] (by rfl) (by rfl) (there8 BO.out rfl) (by kernel_rfl) (by simp [Value.oneCell']) ?_; have BO2 := Lib.hid (show Blk (w1.setCells (w.heap.size + 1 + 1) 0 (#[.int .i64 x0, .int .i64 x1, .int .i64 x2, .int .i64 x3, .int .i64 x4, .int .i64 x5, .int .i64 x6, .int .i64 x7] : Array Value).toList) _ _ #[.int .i64 x0, .int .i64 x1, .int .i64 x2, .int .i64 x3, .int .i64 x4, .int .i64 x5, .int .i64 x6, .int .i64 x7, .string ⟨#[]⟩, .int .i64 0] from set8 BO.out); have BR2 := Lib.hid (BR.out.setCells8 (k := w.heap.size + 1 + 1) (by omega) #[.int .i64 x0, .int .i64 x1, .int .i64 x2, .int .i64 x3, .int .i64 x4, .int .i64 x5, .int .i64 x6, .int .i64 x7]); have BA2 := Lib.hid (BA.out.setCells8 (k := w.heap.size + 1 + 1) (by omega) #[.int .i64 x0, .int .i64 x1, .int .i64 x2, .int .i64 x3, .int .i64 x4, .int .i64 x5, .int .i64 x6, .int .i64 x7]); have L2 := Lib.hid (below_setCells8 (k := w.heap.size + 1 + 1) L1.out (by omega) #[.int .i64 x0, .int .i64 x1, .int .i64 x2, .int .i64 x3, .int .i64 x4, .int .i64 x5, .int .i64 x6, .int .i64 x7]); generalize w1.setCells (w.heap.size + 1 + 1) 0 (#[.int .i64 x0, .int .i64 x1, .int .i64 x2, .int .i64 x3, .int .i64 x4, .int .i64 x5, .int .i64 x6, .int .i64 x7] : Array Value).toList = w2 at BO2 BR2 BA2 L2 ⊢; have a8 := (BA2.out.at 8 (.string b) rfl).1; have o8 := BO2.out.at 8 (.string ⟨#[]⟩) rfl; have BO3 := Lib.hid (show Blk _ _ _ #[.int .i64 x0, .int .i64 x1, .int .i64 x2, .int .i64 x3, .int .i64 x4, .int .i64 x5, .int .i64 x6, .int .i64 x7, .string b, .int .i64 0] from BO2.out.set 8 (.string b)); have BR3 := Lib.hid (BR2.out.other ⟨w.heap.size + 1 + 1, 8, none⟩ (by dsimp only; omega) (.string b)); have BA3 := Lib.hid (BA2.out.other ⟨w.heap.size + 1 + 1, 8, none⟩ (by dsimp only; omega) (.string b)); have L3 := Lib.hid (L2.out.setCell (p := ⟨w.heap.size + 1 + 1, 8, none⟩) (by dsimp only; omega) (.string b)); have a9 := (BA3.out.at 9 (.int .i64 n) rfl).1; have o9 := BO3.out.at 9 (.int .i64 0) rfl; have BO4 := Lib.hid (show Blk _ _ _ #[.int .i64 x0, .int .i64 x1, .int .i64 x2, .int .i64 x3, .int .i64 x4, .int .i64 x5, .int .i64 x6, .int .i64 x7, .string b, .int .i64 n] from BO3.out.set 9 (.int .i64 n)); have BR4 := Lib.hid (BR3.out.other ⟨w.heap.size + 1 + 1, 9, none⟩ (by dsimp only; omega) (.int .i64 n)); have BA4 := Lib.hid (BA3.out.other ⟨w.heap.size + 1 + 1, 9, none⟩ (by dsimp only; omega) (.int .i64 n)); have L4 := Lib.hid (L3.out.setCell (p := ⟨w.heap.size + 1 + 1, 9, none⟩) (by dsimp only; omega) (.int .i64 n)))
    | (refine wpList_load_row rfl 29 _ rfl (w.heap.size + 1 + 1) rfl 29 #[.int .i64 x0, .int .i64 x1, .int .i64 x2, .int .i64 x3, .int .i64 x4, .int .i64 x5, .int .i64 x6, .int .i64 x7, .string b, .int .i64 n] (0, 0) _ BO4.out Try.underlying29 rfl (by kernel_rfl) ?_)
    | (refine wpList_store_row rfl 29 _ _ rfl (w.heap.size + 1) #[.int .i64 x0, .int .i64 x1, .int .i64 x2, .int .i64 x3, .int .i64 x4, .int .i64 x5, .int .i64 x6, .int .i64 x7, .string b, .int .i64 n] rfl rfl 29 _ BR4.out (by kernel_rfl) rfl (by simp [Value.oneCell']) ?_))
  refine ret_row (p := 2) (ty := 29) rfl (w.heap.size + 1) 29 #[.int .i64 x0, .int .i64 x1, .int .i64 x2, .int .i64 x3, .int .i64 x4, .int .i64 x5, .int .i64 x6, .int .i64 x7, .string b, .int .i64 n] _ rfl (BR4.out.row _) Try.underlying29 rfl (by kernel_rfl) rfl ⟨rfl, below_setRow L4.out (by simp) _⟩

end Go.Proofs.Ytahebengjoffeaa.Leaf
