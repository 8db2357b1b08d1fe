/- FnExactCodeWord answers true: CodeWord gives the reference's word of each number. Conditions: none. -/
import Derived.Test.YtahebengjoffeaaPFnExactCodeWordx1
namespace Go.Proofs.Ytahebengjoffeaa.Pure
open Go.RowKit Go.Proofs.Ytahebengjoffeaa.PFnExactCodeWord Go.Proofs.YtahebengjoffeaaW.PrintWords Go.Proofs.YtahebengjoffeaaW.PrintLast
theorem FnExactCodeWord : laws_FnExactCodeWord.Pure := by
  intro a0 _
  by_cases h : 0 ≤ a0 ∧ a0 ≤ 19
  · have h' : a0 = 0 ∨ a0 = 1 ∨ a0 = 2 ∨ a0 = 3 ∨ a0 = 4 ∨ a0 = 5 ∨ a0 = 6 ∨ a0 = 7 ∨ a0 = 8 ∨ a0 = 9 ∨ a0 = 10 ∨ a0 = 11 ∨ a0 = 12 ∨ a0 = 13 ∨ a0 = 14 ∨ a0 = 15 ∨ a0 = 16 ∨ a0 = 17 ∨ a0 = 18 ∨ a0 = 19 := by omega
    obtain ⟨x, h1, h2⟩ : ∃ x, spec_CodeWord.f a0 = some x ∧ impl_CodeWord.f a0 = some x := by
      rcases h' with rfl | rfl | rfl | rfl | rfl | rfl | rfl | rfl | rfl | rfl | rfl | rfl | rfl | rfl | rfl | rfl | rfl | rfl | rfl | rfl <;> exact ⟨_, rfl, rfl⟩
    unfold laws_FnExactCodeWord.f
    rw [h1, h2]; simp
  · have h1 : spec_CodeWord.f a0 = some ⟨#[]⟩ := by
      unfold spec_CodeWord.f
      simp only [Option.bind_some, List.length_cons, List.length_nil]
      by_cases c : a0 < 0
      · rw [if_pos c]
      · rw [if_neg c, if_pos (by omega)]
    have h2 : impl_CodeWord.f a0 = some ⟨#[]⟩ := by
      unfold impl_CodeWord.f impl_isCode.f impl_within.f
      by_cases c : (0 : Int) ≤ a0
      · rw [if_pos c, show decide (a0 ≤ 19) = false from decide_eq_false (by omega)]; rfl
      · rw [if_neg c]; rfl
    unfold laws_FnExactCodeWord.f
    rw [h1, h2]; simp
end Go.Proofs.Ytahebengjoffeaa.Pure
