/- FnExactPolyTag answers true: PolyTag gives what the reference gives. Conditions: none. -/
import Derived.Test.YtihpnededldedaaPFnExactPolyTagx1
namespace Go.Proofs.Ytihpnededldedaa.Pure
open Go.RowKit Go.Proofs.Ytihpnededldedaa.PFnExactPolyTag Go.Proofs.YtihpnededldedaaW.PrintWords Go.Proofs.YtihpnededldedaaW.PrintLast Go.Proofs.Ytihpnededldedaa.Leaf
theorem FnExactPolyTag : laws_FnExactPolyTag.Pure := by
  intro a0 a1 _ _
  refine ⟨1, ?_⟩
  unfold laws_FnExactPolyTag.f
  by_cases c : (a0.size : Int) > 1048576
  · rw [if_pos c]
  rw [if_neg c]
  by_cases c' : (a1.size : Int) > 1048576
  · rw [if_pos c']
  rw [if_neg c']
  obtain ⟨r, h1, h2⟩ : ∃ r, spec_PolyTag.f 1 a0 a1 = some r ∧ impl_PolyTag.f a0 a1 = some r := by
    have hlong : ∀ b : Bool, b = true → ¬ ((a0.size : Int) ≤ 65536 ∧ (a1.size : Int) ≤ 65536) → ∃ r, spec_PolyTag.j0 1 a0 a1 b = some r ∧ impl_PolyTag.f a0 a1 = some r := by
      rintro b rfl h
      unfold impl_PolyTag.f impl_areShort.f
      simp only [List.all_cons, List.all_nil, Bool.and_true, Option.bind_some, Bool.and_eq_true, decide_eq_true_eq]
      rw [if_neg h]
      simp only [spec_PolyTag.j0]
      exact ⟨_, rfl, rfl⟩
    unfold spec_PolyTag.f
    by_cases c1 : (a0.size : Int) > 65536
    · rw [if_pos c1]; exact hlong _ rfl (by omega)
    · rw [if_neg c1]
      by_cases c2 : (a1.size : Int) > 65536
      · exact hlong _ (decide_eq_true c2) (by omega)
      · rw [decide_eq_false c2]
        unfold impl_PolyTag.f impl_areShort.f
        simp only [List.all_cons, List.all_nil, Bool.and_true, Option.bind_some, Bool.and_eq_true, decide_eq_true_eq, spec_PolyTag.j0]
        rw [if_neg (by simp), if_pos (show (a0.size : Int) ≤ 65536 ∧ (a1.size : Int) ≤ 65536 by omega)]
        by_cases c3 : (a0.size : Int) = 32
        · rw [if_pos c3, if_pos c3]
          unfold spec_l03Tag.f impl_tag.f
          rw [if_pos (by omega)]
          generalize tagOf a0 a1 = r
          exact ⟨_, rfl, rfl⟩
        · rw [if_neg c3, if_neg c3]; exact ⟨_, rfl, rfl⟩
  rw [h1, h2]; simp
end Go.Proofs.Ytihpnededldedaa.Pure
