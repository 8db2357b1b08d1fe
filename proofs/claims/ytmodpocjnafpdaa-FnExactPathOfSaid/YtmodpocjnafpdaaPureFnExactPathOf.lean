/- FnExactPathOf answers true: PathOf gives what the reference gives, in new memory. Conditions: none. -/
import Derived.Test.YtmodpocjnafpdaaPFnExactPathOfx2
namespace Go.Proofs.Ytmodpocjnafpdaa.Pure
open Go.RowKit Go.Proofs.Ytmodpocjnafpdaa.PFnExactPathOf Go.Proofs.YtmodpocjnafpdaaW.PrintWords Go.Proofs.YtmodpocjnafpdaaW.PrintLast
theorem all_path : ∀ l : Fin 8, laws_FnExactPathOf.f 20 (l.val : Int) = some true := by decide +kernel

theorem FnExactPathOf : laws_FnExactPathOf.Pure := by
  intro a0 _
  refine ⟨20, ?_⟩
  by_cases h : 0 ≤ a0 ∧ a0 ≤ 7
  · obtain ⟨h0, h1⟩ := h
    obtain ⟨l, rfl⟩ := Int.eq_ofNat_of_zero_le h0
    exact all_path ⟨l, by omega⟩
  · have e1 : ∀ k, spec_PathOf.f k a0 = some ([], 4) := by
      intro k
      unfold spec_PathOf.f spec_l01In.f
      by_cases c1 : (0 : Int) ≤ a0
      · rw [if_pos c1]; simp [show ¬ a0 ≤ 7 by omega]
      · rw [if_neg c1]; simp
    have e2 : ∀ k, impl_PathOf.f k a0 = some ([], 4) := by
      intro k
      unfold impl_PathOf.f impl_isLeaf.f impl_within.f
      by_cases c1 : (0 : Int) ≤ a0
      · rw [if_pos c1]; simp [show ¬ a0 ≤ 7 by omega]
      · rw [if_neg c1]; simp
    unfold laws_FnExactPathOf.f
    rw [e1, e2]
    simp only [Option.bind_some]
    rw [show laws_eqIntS.f 20 [] [] = some true from rfl]
    simp only [Option.bind_some, if_true, laws_FnExactPathOf.j0, e2]
    rfl
end Go.Proofs.Ytmodpocjnafpdaa.Pure
