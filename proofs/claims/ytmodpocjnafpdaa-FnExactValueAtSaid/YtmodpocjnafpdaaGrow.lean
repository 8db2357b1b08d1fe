/-
  slices.Grow of no slice at the program's blocks: an empty row of the call's own. Conditions: a count that memory bears.
-/
import Derived.Test.YtmodpocjnafpdaaCloneB
import Derived.Shelf.Spec.SlicesGrow
import Derived.KernelRfl
namespace Go.Proofs
open Go.Shelf
def Try.growB_ren : Go.Shelf.Ren := ⟨fun | 4 => 87 | n => n, fun | 22 => 37 | 25 => 61 | 3 => 3 | 4 => 4 | 9 => 9 | 20 => 20 | 0 => 0 | n => n, fun | n => n⟩
theorem Try.growB : Go.Proofs.Lays8.n4 Try.prog Try.growB_ren := {
  mixed := by kernel_rfl
  f4 := ⟨Try.f87.name, by decide, Try.func87.trans (congrArg some (by kernel_rfl))⟩
  t0 := Try.underlying0
  a0 := Try.isAgg0
  z0 := Try.sizeOf0
  v0 := Try.zeroValue0
  t3 := Try.underlying3
  a3 := Try.isAgg3
  z3 := Try.sizeOf3
  v3 := Try.zeroValue3
  t4 := Try.underlying4
  a4 := Try.isAgg4
  z4 := Try.sizeOf4
  v4 := Try.zeroValue4
  t9 := Try.underlying9
  a9 := Try.isAgg9
  z9 := Try.sizeOf9
  v9 := Try.zeroValue9
  t20 := Try.underlying20
  a20 := Try.isAgg20
  z20 := Try.sizeOf20
  v20 := Try.zeroValue20
  t22 := Try.underlying37
  a22 := Try.isAgg37
  z22 := Try.sizeOf37
  v22 := Try.zeroValue37 }
end Go.Proofs
namespace Go.Proofs.Ytmodpocjnafpdaa.Leaf
open Go.RowKit Go.Shelf Go.Proofs.YtmodpocjnafpdaaW.PrintWords Go.Proofs.YtmodpocjnafpdaaW.PrintLast Go.Proofs.YtmodpocjnafpdaaW.PrintMore Go.Proofs.Ytmodpocjnafpdaa.POra

theorem grow_c (n : Nat) (hn : n ≤ 1048576) (w : World) : Calls Try.prog 87 #[.slice none 0 0, .int .i64 n] w fun e w' => ∃ v : Value, e = .returned v ∧ Kd.R k61 61 w' w.heap.size (fun _ => True) v [] ∧ Below w.heap.size w w' := by
  rcases Nat.eq_zero_or_pos n with rfl | hpos
  · have h := Any8.slices_Grow_room Try.growB none 0 0 0 w (by decide) (by decide) (by decide) (by decide)
    refine (show Calls Try.prog 87 _ w _ from h).mono ?_
    rintro e w' ⟨rfl, rfl⟩
    exact ⟨_, rfl, Kd.R_nil _ _ _ _ _, Below.refl _ _⟩
  · obtain ⟨i0, hi, hz0, hz1, hz2⟩ := info_parts info61
    have h := Any8.slices_Grow_grow Try.growB i0 _ hi hz0 (by rw [hz1]; decide) none 0 0 n [] w (by decide) (by omega) (by rw [hz2]; omega) (by omega) (by simp) (fun _ => rfl) (fun _ h => by cases h)
    refine (show Calls Try.prog 87 _ w _ from h).mono ?_
    rintro e w' ⟨rfl, rfl⟩
    have hG := grownCap_ge w (0 + n) 0 (Try.growB_ren.t 25)
    have hG2 := grownCap_le_maxLen w (0 + n) 0 (Try.growB_ren.t 25) (by unfold maxLen; omega)
    change n ≤ 1048576 at hn
    refine ⟨_, rfl, ⟨fun _ _ => trivial, [], ⟨rfl, .inr ⟨w.heap.size, _, _, rfl, Nat.le_refl _, heap_alloc_new w.drew _, Nat.zero_le _, hG2, ?_, rfl⟩⟩, Reps.none _ _⟩, below_alloc (below_drew (Below.refl _ _)) _⟩
    show _ = grownCap w (0 + n) 0 (Try.growB_ren.t 25) * 3
    have hz : ∀ m : Nat, (Builtin.zeroCells (Value.agg #[.int .i64 0, .int .i64 0, .int .i64 0]).cells m).size = m * 3 := fun m => by
      unfold Builtin.zeroCells
      rw [Array.size_map, Array.size_range]; rfl
    rw [Array.size_append, Array.size_append, hz, hz]
    show 0 + (0 + n - 0) * 3 + _ = _
    omega

end Go.Proofs.Ytmodpocjnafpdaa.Leaf
