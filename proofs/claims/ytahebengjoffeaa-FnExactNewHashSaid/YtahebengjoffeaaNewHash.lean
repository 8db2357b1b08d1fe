/- FnExactNewHash answers true. Conditions: none. -/
import Derived.Test.YtahebengjoffeaaHash
namespace Go.Proofs.Ytahebengjoffeaa.Leaf
open Go.RowKit Go.Shelf Go.Proofs.YtahebengjoffeaaW.PrintWords Go.Proofs.YtahebengjoffeaaW.PrintLast Go.Proofs.YtahebengjoffeaaW.PrintMore

set_option maxRecDepth 100000 in
set_option maxHeartbeats 8000000 in
theorem FnExactNewHash_walk (w : World) : Calls Try.prog 6 #[] w fun e w' => e = .returned (.bool true) ∧ Below w.heap.size w w' := by
  obtain ⟨cs, hcs0⟩ : ∃ cs, hcs hash0 ⟨#[]⟩ 0 = cs := ⟨_, rfl⟩
  have H1 := fun W => spec_NewHash_calls W
  have H2 := fun W => impl_NewHash_calls W
  have H3 := fun W => eqHash_calls hash0 hash0 rfl rfl ⟨#[]⟩ ⟨#[]⟩ 0 0 W
  rw [show decide (hash0 = hash0 ∧ (⟨#[]⟩ : ByteArray) = ⟨#[]⟩ ∧ (0 : Int) = 0) = true from decide_eq_true ⟨rfl, rfl, rfl⟩] at H3
  rw [hcs0] at H1 H2 H3
  have HS := Lib.hid (show cs.size = 10 by rw [← hcs0]; rfl)
  have HI := Lib.hid (show (Try.prog.info? 29).map (·.size) = some cs.size by rw [HS.out]; kernel_rfl)
  have HO := Lib.hid (show cs.all (·.oneCell') = true by rw [← hcs0]; simp [hcs, hash0, ints, nums, Value.oneCell'])
  clear hcs0
  go_enter Try.func6, Try.ntmps6
  go_wp2_with (first
    | (go_at_call 19; with_reducible refine (H1 _).mono ?_; rintro e w1 ⟨rfl, hb1⟩; replace hb1 := Aside0.mk hb1)
    | (go_at_call 20; with_reducible refine (H2 _).mono ?_; rintro e w2 ⟨rfl, hb2⟩; have F1 := Aside0.mk (((((Blk.new w1 29 #[.int .i64 0, .int .i64 0, .int .i64 0, .int .i64 0, .int .i64 0, .int .i64 0, .int .i64 0, .int .i64 0, .string ⟨#[]⟩, .int .i64 0]).row cs).below hb2).alloc (.cells #[.int .i64 0, .int .i64 0, .int .i64 0, .int .i64 0, .int .i64 0, .int .i64 0, .int .i64 0, .int .i64 0, .string ⟨#[]⟩, .int .i64 0] 29)).rowOther w2.heap.size (Nat.ne_of_lt (((Blk.new w1 29 #[.int .i64 0, .int .i64 0, .int .i64 0, .int .i64 0, .int .i64 0, .int .i64 0, .int .i64 0, .int .i64 0, .string ⟨#[]⟩, .int .i64 0]).row cs).below hb2).lt) cs); have F2 := Aside0.mk ((Blk.new w2 29 #[.int .i64 0, .int .i64 0, .int .i64 0, .int .i64 0, .int .i64 0, .int .i64 0, .int .i64 0, .int .i64 0, .string ⟨#[]⟩, .int .i64 0]).row cs); have L2 := Aside0.mk (below_setRow (below_alloc ((below_setRow (below_alloc hb1.out (.cells #[.int .i64 0, .int .i64 0, .int .i64 0, .int .i64 0, .int .i64 0, .int .i64 0, .int .i64 0, .int .i64 0, .string ⟨#[]⟩, .int .i64 0] 29)) hb1.out.size cs).trans (hb2.mono (Nat.le_trans hb1.out.size (by simp)))) (.cells #[.int .i64 0, .int .i64 0, .int .i64 0, .int .i64 0, .int .i64 0, .int .i64 0, .int .i64 0, .int .i64 0, .string ⟨#[]⟩, .int .i64 0] 29)) (Nat.le_trans hb1.out.size (Nat.le_trans (by simp) hb2.size)) cs); clear hb2)
    | (refine wpList_store_row rfl 29 _ _ rfl _ cs rfl rfl 29 _ (Blk.new _ 29 _) HI.out (by rw [HS.out]; rfl) HO.out ?_)
    | (refine wpList_load_row rfl 29 _ rfl w2.heap.size rfl 29 cs (0, 0) _ F2.out Try.underlying29 rfl HI.out ?_)
    | (refine wpList_load_row rfl 29 _ rfl w1.heap.size rfl 29 cs (0, 0) _ F1.out Try.underlying29 rfl HI.out ?_)
    | (go_at_call 21; with_reducible refine (H3 _).mono ?_; rintro e w3 ⟨rfl, hb3⟩; replace hb3 := Aside0.mk hb3))
  go_ret
  exact ⟨rfl, L2.out.trans (hb3.out.mono L2.out.size)⟩

end Go.Proofs.Ytahebengjoffeaa.Leaf
