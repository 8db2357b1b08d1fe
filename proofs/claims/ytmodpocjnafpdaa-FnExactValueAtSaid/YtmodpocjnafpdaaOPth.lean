/-
  The program's isOnPath, and the literal inside OramOK: a block's leaf is one, and the bucket is on its way. Conditions: the bucket is one.
-/
import Derived.Test.YtmodpocjnafpdaaAllK
import Derived.Test.YtmodpocjnafpdaaOraL
import Derived.Test.YtmodpocjnafpdaaPPthx1
import Derived.Test.YtmodpocjnafpdaaPOrax12
namespace Go.Proofs.Ytmodpocjnafpdaa.Leaf
open Go.RowKit Go.Shelf Go.Proofs.YtmodpocjnafpdaaW.PrintWords Go.Proofs.YtmodpocjnafpdaaW.PrintLast Go.Proofs.YtmodpocjnafpdaaW.PrintMore Go.Proofs.Ytmodpocjnafpdaa.POra

/-- The bucket is on the way to the leaf. -/
def onP (b l : Int) : Bool := PPth.impl_isOnPath.f 20 b l == some true
theorem onP_all : ∀ (b : Fin 15) (l : Fin 8), PPth.impl_isOnPath.f 20 (b.val : Int) (l.val : Int) = some (onP (b.val : Int) (l.val : Int)) ∧ spec_l08On.f 20 (b.val : Int) (l.val : Int) = some (onP (b.val : Int) (l.val : Int)) := by decide +kernel
theorem onP_both (b l : Int) (h0 : 0 ≤ b) (h1 : b ≤ 14) (h2 : 0 ≤ l) (h3 : l ≤ 7) : PPth.impl_isOnPath.f 20 b l = some (onP b l) ∧ spec_l08On.f 20 b l = some (onP b l) := by
  obtain ⟨b, rfl⟩ := Int.eq_ofNat_of_zero_le h0
  obtain ⟨l, rfl⟩ := Int.eq_ofNat_of_zero_le h2
  exact onP_all ⟨b, by omega⟩ ⟨l, by omega⟩
theorem inLeaves_iff {a : Int} (h : inLeaves a = true) : 0 ≤ a ∧ a ≤ 7 := by
  unfold inLeaves at h
  simpa using h

/-- In its bucket. -/
def placed (i : Int) (b : S61) : Bool := inLeaves b.f1 && onP i b.f1

set_option maxHeartbeats 4000000 in
theorem placed_pred (g : Nat) (i : Int) (hi0 : 0 ≤ i) (hi1 : i ≤ 14) (w : World) (hc : w.cell? ⟨g, 0, none⟩ = some (.int .i64 i)) : PredB 62 #[.pointer (some ⟨g, 0, none⟩)] encBlk (placed i) w := by
  intro W x hb
  have hlt : g < w.heap.size := World.block_lt_of_cell? w _ hc
  have hW : W.cell? ⟨g, 0, none⟩ = some (.int .i64 i) := (hb.cell (p := ⟨g, 0, none⟩) hlt).trans hc
  have hltW : g < W.heap.size := World.block_lt_of_cell? W _ hW
  clear hb hc hlt
  obtain ⟨x0, x1, x2⟩ := x
  show Calls Try.prog 62 #[.agg #[.int .i64 x0, .int .i64 x1, .int .i64 x2], .pointer (some ⟨g, 0, none⟩)] W _
  have hW2 : ∀ o, (W.alloc o).cell? ⟨g, 0, none⟩ = some (.int .i64 i) := fun o => ((below_alloc (Below.refl _ W) o).cell (p := ⟨g, 0, none⟩) hltW).trans hW
  have hB2 : ∀ o, Below W.heap.size W (W.alloc o) := fun o => below_alloc (Below.refl _ W) o
  unfold placed
  cases hq : inLeaves x1 with
  | false =>
    have hL : ∀ W, Calls Try.prog 36 #[.int .i64 x1] W fun e w' => e = .returned (.bool false) ∧ W = w' := fun W => hq ▸ isLeaf_calls x1 W
    go_enter Try.func62, Try.ntmps62
    go_wp2_with (go_at_call 36; (with_reducible refine (hL _).mono ?_); rintro e w' ⟨rfl, rfl⟩)
    go_ret
    exact ⟨rfl, hB2 _⟩
  | true =>
    obtain ⟨h2, h3⟩ := inLeaves_iff hq
    have hL : ∀ W, Calls Try.prog 36 #[.int .i64 x1] W fun e w' => e = .returned (.bool true) ∧ W = w' := fun W => hq ▸ isLeaf_calls x1 W
    have hP : ∀ W, Calls Try.prog 37 #[.int .i64 i, .int .i64 x1] W fun e w' => e = .returned (.bool (onP i x1)) ∧ Below W.heap.size W w' := fun W => PPth.impl_isOnPath.calls 20 i x1 _ W (onP_both i x1 hi0 hi1 h2 h3).1
    generalize onP i x1 = q at hP ⊢
    go_enter Try.func62, Try.ntmps62
    go_wp2_with (first
      | (go_at_call 36; (with_reducible refine (hL _).mono ?_); rintro e w' ⟨rfl, rfl⟩)
      | (go_at_call 37; (with_reducible refine (hP _).mono ?_); rintro e w3 ⟨rfl, hb3⟩; have HB3 := Aside0.mk ((hB2 _).trans (hb3.mono (hB2 _).size)); clear hb3))
    go_ret
    exact ⟨by simp, HB3.out⟩

end Go.Proofs.Ytmodpocjnafpdaa.Leaf
