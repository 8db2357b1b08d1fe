/- FnExactLeafDigest answers true: LeafDigest gives what the reference gives. Conditions: none. -/
import Derived.Test.YtajbljegeiebjaaPFnExactLeafDigestx1
namespace Go.Proofs.Ytajbljegeiebjaa.Pure
open Go.RowKit Go.Proofs.Ytajbljegeiebjaa.PFnExactLeafDigest Go.Proofs.YtajbljegeiebjaaW.PrintWords Go.Proofs.YtajbljegeiebjaaW.PrintLast Go.Proofs.Ytajbljegeiebjaa.Leaf
theorem leaf_same (a0 : Int) (a1 : ByteArray) (h : a1.size ≤ 65536) : ∃ r, spec_l07Leaf.f a0 a1 = some r ∧ impl_leafDigest.f a0 a1 = some r := by
  unfold spec_l07Leaf.f impl_leafDigest.f spec_l01Of.f impl_digest.f
  have hs : (strOfNums [0, a0 % 256]).size = 2 := by rw [strOfNums_size]; rfl
  simp only [Option.bind_some]
  rw [if_pos (by omega), if_pos (by rw [ByteArray.size_append]; omega)]
  exact ⟨_, rfl, rfl⟩
theorem FnExactLeafDigest : laws_FnExactLeafDigest.Pure := by
  intro a0 a1 _ _
  unfold laws_FnExactLeafDigest.f
  by_cases c : (a1.size : Int) > 1048576
  · rw [if_pos c]
  · rw [if_neg c]
    obtain ⟨r, h1, h2⟩ : ∃ r, spec_LeafDigest.f a0 a1 = some r ∧ impl_LeafDigest.f a0 a1 = some r := by
      unfold spec_LeafDigest.f impl_LeafDigest.f impl_areShort.f impl_isLeafAt.f impl_within.f spec_l01In.f
      simp only [List.all_cons, List.all_nil, Bool.and_true, Option.bind_some, decide_eq_true_eq]
      by_cases c1 : (a1.size : Int) > 65536
      · rw [if_pos c1, if_neg (by omega)]; exact ⟨_, rfl, rfl⟩
      · rw [if_neg c1, if_pos (show (a1.size : Int) ≤ 65536 by omega)]
        obtain ⟨r, e1, e2⟩ := leaf_same a0 a1 (by omega)
        rw [e1, e2]
        by_cases c2 : 0 ≤ a0
        · rw [if_pos c2]
          simp only [Option.bind_some]
          by_cases c3 : a0 ≤ 15
          · rw [if_pos (decide_eq_true c3)]; exact ⟨_, rfl, rfl⟩
          · rw [if_neg (by simpa using c3)]; exact ⟨_, rfl, rfl⟩
        · rw [if_neg c2]
          simp only [Option.bind_some]
          exact ⟨_, rfl, rfl⟩
    rw [h1, h2]; simp
end Go.Proofs.Ytajbljegeiebjaa.Pure
