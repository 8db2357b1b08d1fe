/- FnExactHashOf answers true: HashOf gives what the reference gives. Conditions: none. -/
import Derived.Test.YtajbljegeiebjaaPFnExactHashOfx1
namespace Go.Proofs.Ytajbljegeiebjaa.Pure
open Go.RowKit Go.Proofs.Ytajbljegeiebjaa.PFnExactHashOf Go.Proofs.YtajbljegeiebjaaW.PrintWords Go.Proofs.YtajbljegeiebjaaW.PrintLast Go.Proofs.Ytajbljegeiebjaa.Leaf
theorem FnExactHashOf : laws_FnExactHashOf.Pure := by
  intro a0 _
  unfold laws_FnExactHashOf.f
  by_cases c : (a0.size : Int) > 1048576
  · rw [if_pos c]
  · rw [if_neg c]
    obtain ⟨r, h1, h2⟩ : ∃ r, spec_HashOf.f a0 = some r ∧ impl_HashOf.f a0 = some r := by
      unfold spec_HashOf.f impl_HashOf.f impl_areShort.f
      simp only [List.all_cons, List.all_nil, Bool.and_true, Option.bind_some, decide_eq_true_eq]
      by_cases c1 : (a0.size : Int) > 65536
      · rw [if_pos c1, if_neg (by omega)]; exact ⟨_, rfl, rfl⟩
      · rw [if_neg c1, if_pos (show (a0.size : Int) ≤ 65536 by omega)]
        unfold spec_l01Of.f impl_digest.f
        rw [if_pos (show a0.size ≤ 1000000 by omega)]
        exact ⟨_, rfl, rfl⟩
    rw [h1, h2]; simp
end Go.Proofs.Ytajbljegeiebjaa.Pure
