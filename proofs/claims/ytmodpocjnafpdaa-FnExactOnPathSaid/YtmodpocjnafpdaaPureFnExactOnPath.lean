/- FnExactOnPath answers true: OnPath gives what the reference gives. Conditions: none. -/
import Derived.Test.YtmodpocjnafpdaaPFnExactOnPathx2
namespace Go.Proofs.Ytmodpocjnafpdaa.Pure
open Go.RowKit Go.Proofs.Ytmodpocjnafpdaa.PFnExactOnPath Go.Proofs.YtmodpocjnafpdaaW.PrintWords Go.Proofs.YtmodpocjnafpdaaW.PrintLast
theorem all_on : ∀ (b : Fin 15) (l : Fin 8), laws_FnExactOnPath.f 20 (b.val : Int) (l.val : Int) = some true := by decide +kernel

theorem FnExactOnPath : laws_FnExactOnPath.Pure := by
  intro a0 a1 _ _
  refine ⟨20, ?_⟩
  by_cases h : 0 ≤ a0 ∧ a0 ≤ 14 ∧ 0 ≤ a1 ∧ a1 ≤ 7
  · obtain ⟨h0, h1, h2, h3⟩ := h
    obtain ⟨b, rfl⟩ := Int.eq_ofNat_of_zero_le h0
    obtain ⟨l, rfl⟩ := Int.eq_ofNat_of_zero_le h2
    exact all_on ⟨b, by omega⟩ ⟨l, by omega⟩
  · have e1 : spec_OnPath.f 20 a0 a1 = some (false, 4) := by
      unfold spec_OnPath.f spec_l01In.f
      by_cases c1 : (0 : Int) ≤ a0
      · by_cases c2 : a0 ≤ 14
        · by_cases c3 : (0 : Int) ≤ a1
          · rw [if_pos c1, if_pos c3]; simp [c2, show ¬ a1 ≤ 7 by omega]
          · rw [if_pos c1, if_neg c3]; simp [c2]
        · rw [if_pos c1]; simp [c2]
      · rw [if_neg c1]; simp
    have e2 : impl_OnPath.f 20 a0 a1 = some (false, 4) := by
      unfold impl_OnPath.f impl_isLeaf.f impl_within.f
      by_cases c1 : (0 : Int) ≤ a0
      · by_cases c2 : a0 ≤ 14
        · by_cases c3 : (0 : Int) ≤ a1
          · rw [if_pos c1, if_pos c3]; simp [c2, show ¬ a1 ≤ 7 by omega]
          · rw [if_pos c1, if_neg c3]; simp [c2]
        · rw [if_pos c1]; simp [c2]
      · rw [if_neg c1]; simp
    unfold laws_FnExactOnPath.f
    rw [e1, e2]; rfl
end Go.Proofs.Ytmodpocjnafpdaa.Pure
