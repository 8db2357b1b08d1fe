/- FnExactClampKey answers true: ClampKey gives what the reference gives. Conditions: none. -/
import Derived.Test.YtahebengjoffeaaPFnExactClampKeyx1
namespace Go.Proofs.Ytahebengjoffeaa.Pure
open Go.RowKit Go.Proofs.Ytahebengjoffeaa.PFnExactClampKey Go.Proofs.YtahebengjoffeaaW.PrintWords Go.Proofs.YtahebengjoffeaaW.PrintLast Go.Proofs.Ytahebengjoffeaa.Leaf
theorem FnExactClampKey : laws_FnExactClampKey.Pure := by
  intro a0 _
  unfold laws_FnExactClampKey.f
  by_cases c : (a0.size : Int) > 1048576
  · rw [if_pos c]
  · rw [if_neg c]
    obtain ⟨r, h1, h2⟩ : ∃ r, spec_ClampKey.f a0 = some r ∧ impl_ClampKey.f a0 = some r := by
      unfold spec_ClampKey.f impl_ClampKey.f impl_areShort.f
      simp only [List.all_cons, List.all_nil, Bool.and_true, Option.bind_some, decide_eq_true_eq]
      by_cases c1 : (a0.size : Int) > 65536
      · rw [if_pos c1, if_neg (by omega)]; exact ⟨_, rfl, rfl⟩
      · rw [if_neg c1, if_pos (show (a0.size : Int) ≤ 65536 by omega)]
        by_cases c2 : (a0.size : Int) = 32
        · rw [if_pos c2, if_pos c2]
          unfold spec_l03Clamp.f impl_clamped.f
          rw [if_pos (by omega)]
          exact ⟨_, rfl, rfl⟩
        · rw [if_neg c2, if_neg c2]; exact ⟨_, rfl, rfl⟩
    rw [h1, h2]; simp
end Go.Proofs.Ytahebengjoffeaa.Pure
