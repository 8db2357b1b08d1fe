/- FnExactNonceOf answers true: NonceOf gives what the reference gives. Conditions: none. -/
import Derived.Test.YtahebengjoffeaaPFnExactNonceOfx1
import Derived.Test.YtahebengjoffeaaPlain
namespace Go.Proofs.Ytahebengjoffeaa.Pure
open Go.RowKit Go.Proofs.Ytahebengjoffeaa.PFnExactNonceOf Go.Proofs.YtahebengjoffeaaW.PrintWords Go.Proofs.YtahebengjoffeaaW.PrintLast Go.Proofs.Ytahebengjoffeaa.Leaf
theorem FnExactNonceOf : laws_FnExactNonceOf.Pure := by
  intro a0 a1 a2 _ _ _
  unfold laws_FnExactNonceOf.f
  obtain ⟨r, h1, h2⟩ : ∃ r, spec_NonceOf.f a0 a1 a2 = some r ∧ impl_NonceOf.f a0 a1 a2 = some r := by
    unfold spec_NonceOf.f spec_l06In.f spec_l05In.f spec_l01In.f impl_NonceOf.f impl_nonceCode.f impl_isSector.f impl_within.f
    by_cases k0 : (1 : Int) ≤ a0
    · by_cases k1 : a0 ≤ 3
      · by_cases p0 : (0 : Int) ≤ a1
        · by_cases p1 : a1 ≤ 39
          · by_cases e0 : (0 : Int) ≤ a2
            · by_cases e1 : a2 ≤ 1099511627776
              · simp only [k0, k1, p0, p1, e0, e1, if_true, decide_true, Option.bind_some]
                exact ⟨_, rfl, rfl⟩
              · simp [k0, k1, p0, p1, e0, e1]
            · simp [k0, k1, p0, p1, e0]
          · simp [k0, k1, p0, p1]
        · simp [k0, k1, p0]
      · simp [k0, k1]
    · simp [k0]
  rw [h1, h2]; simp
end Go.Proofs.Ytahebengjoffeaa.Pure
