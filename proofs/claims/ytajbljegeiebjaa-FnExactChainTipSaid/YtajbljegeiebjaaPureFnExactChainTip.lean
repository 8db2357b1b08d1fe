/- FnExactChainTip answers true: ChainTip gives what the reference gives. Conditions: none. -/
import Derived.Test.YtajbljegeiebjaaPFnExactChainTipx1
namespace Go.Proofs.Ytajbljegeiebjaa.Pure
open Go.RowKit Go.Proofs.Ytajbljegeiebjaa.PFnExactChainTip Go.Proofs.YtajbljegeiebjaaW.PrintWords Go.Proofs.YtajbljegeiebjaaW.PrintLast Go.Proofs.Ytajbljegeiebjaa.Leaf
theorem pair_same (a0 a1 : ByteArray) (h0 : a0.size ≤ 65536) (h1 : a1.size ≤ 65536) : ∃ r, spec_l07Chain.f a0 a1 = some r ∧ impl_chain.f a0 a1 = some r := by
  unfold spec_l07Chain.f impl_chain.f spec_l01Of.f impl_digest.f
  have hs : ((⟨#[2]⟩ : ByteArray) ++ a0).size = 1 + a0.size := by rw [ByteArray.size_append]; rfl
  rw [if_pos (by omega), if_pos (by omega), if_pos (by rw [ByteArray.size_append]; omega)]
  exact ⟨_, rfl, rfl⟩
theorem both_same (a0 a1 : ByteArray) : ∃ r, spec_ChainTip.f 1 a0 a1 = some r ∧ impl_ChainTip.f a0 a1 = some r := by
  by_cases c1 : (a0.size : Int) > 65536
  · have n1 : ¬ (a0.size : Int) ≤ 65536 := by omega
    exact ⟨(⟨#[]⟩, 2), by simp only [spec_ChainTip.f, spec_ChainTip.j0]; rw [if_pos c1]; rfl, by simp only [impl_ChainTip.f, impl_areShort.f, List.all_cons, decide_eq_false n1, Bool.false_and, Option.bind_some, Bool.false_eq_true, if_false]⟩
  by_cases c2 : (a1.size : Int) > 65536
  · have n2 : ¬ (a1.size : Int) ≤ 65536 := by omega
    exact ⟨(⟨#[]⟩, 2), by simp only [spec_ChainTip.f, spec_ChainTip.j0]; rw [if_neg c1, if_pos (decide_eq_true c2)], by simp only [impl_ChainTip.f, impl_areShort.f, List.all_cons, List.all_nil, decide_eq_false n2, Bool.false_and, Bool.and_false, Option.bind_some, Bool.false_eq_true, if_false]⟩
  have n1 : (a0.size : Int) ≤ 65536 := by omega
  have n2 : (a1.size : Int) ≤ 65536 := by omega
  obtain ⟨r, e1, e2⟩ := pair_same a0 a1 (by omega) (by omega)
  have es : spec_ChainTip.f 1 a0 a1 = spec_ChainTip.j0 1 a0 a1 false := by unfold spec_ChainTip.f; rw [if_neg c1, decide_eq_false c2]
  have ei : impl_areShort.f [a0, a1] = some true := by simp only [impl_areShort.f, List.all_cons, List.all_nil, decide_eq_true n1, decide_eq_true n2, Bool.and_true]
  rw [es]
  unfold impl_ChainTip.f impl_isDigest.f
  rw [ei]
  simp only [spec_ChainTip.j0, Option.bind_some, if_true, Bool.false_eq_true, if_false, e1, e2, beq_iff_eq]
  by_cases c3 : (a0.size : Int) = 32
  · exact ⟨(r, 0), by rw [if_pos c3], by rw [if_pos c3]⟩
  · exact ⟨(⟨#[]⟩, 8), by rw [if_neg c3], by rw [if_neg c3]⟩
theorem FnExactChainTip : laws_FnExactChainTip.Pure := by
  intro a0 a1 _ _
  refine ⟨1, ?_⟩
  unfold laws_FnExactChainTip.f
  by_cases c : (a0.size : Int) > 1048576
  · rw [if_pos c]
  by_cases c' : (a1.size : Int) > 1048576
  · rw [if_neg c, if_pos c']
  rw [if_neg c, if_neg c']
  obtain ⟨r, h1, h2⟩ := both_same a0 a1
  rw [h1, h2]; simp
end Go.Proofs.Ytajbljegeiebjaa.Pure
