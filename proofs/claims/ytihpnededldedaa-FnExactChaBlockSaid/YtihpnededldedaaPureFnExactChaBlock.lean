/- FnExactChaBlock answers true: ChaBlock gives what the reference gives. Conditions: none. -/
import Derived.Test.YtihpnededldedaaPFnExactChaBlockx1
namespace Go.Proofs.Ytihpnededldedaa.Pure
open Go.RowKit Go.Proofs.Ytihpnededldedaa.PFnExactChaBlock Go.Proofs.YtihpnededldedaaW.PrintWords Go.Proofs.YtihpnededldedaaW.PrintLast Go.Proofs.Ytihpnededldedaa.Leaf
def chaCode (a0 a1 : ByteArray) (c : Int) : Int := if (a0.size : Int) = 32 ∧ (a1.size : Int) = 12 then (if 0 ≤ c ∧ c ≤ 1000000000 then 0 else 4) else 8
theorem within_eq (c : Int) : impl_within.f c 0 1000000000 = some (decide (0 ≤ c ∧ c ≤ 1000000000)) := by
  unfold impl_within.f
  by_cases h : 0 ≤ c
  · rw [if_pos h]; congr 1; rw [decide_eq_decide]; omega
  · rw [if_neg h]; congr 1; rw [eq_comm, decide_eq_false_iff_not]; omega
theorem l01In_eq (c : Int) : spec_l01In.f c 0 1000000000 = some (decide (0 ≤ c ∧ c ≤ 1000000000)) := by
  unfold spec_l01In.f
  by_cases h : 0 ≤ c
  · rw [if_pos h]; congr 1; rw [decide_eq_decide]; omega
  · rw [if_neg h]; congr 1; rw [eq_comm, decide_eq_false_iff_not]; omega
theorem l02Ask_eq (k : Nat) (a0 a1 : ByteArray) (c : Int) : spec_l02Ask.f (k + 1) a0 a1 c = some (chaCode a0 a1 c) := by
  unfold spec_l02Ask.f chaCode
  simp only [spec_l02Ask.j0, l01In_eq, Option.bind_some, decide_eq_true_eq]
  by_cases h0 : (a0.size : Int) = 32
  · by_cases h1 : (a1.size : Int) = 12
    · by_cases h2 : 0 ≤ c ∧ c ≤ 1000000000
      · simp [h0, h1, h2]
      · simp [h0, h1, h2]
    · simp [h0, h1]
  · simp [h0]
theorem streamCode_eq (k : Nat) (a0 a1 : ByteArray) (c : Int) (s0 : (a0.size : Int) ≤ 65536) (s1 : (a1.size : Int) ≤ 65536) : impl_streamCode.f (k + 1) a0 a1 c = some (chaCode a0 a1 c) := by
  unfold impl_streamCode.f impl_areShort.f chaCode
  simp only [List.all_cons, List.all_nil, Bool.and_true, Option.bind_some, Bool.and_eq_true, decide_eq_true_eq]
  rw [if_pos ⟨s0, s1⟩]
  simp only [impl_streamCode.j0, within_eq, Option.bind_some, decide_eq_true_eq]
  by_cases h0 : (a0.size : Int) = 32
  · by_cases h1 : (a1.size : Int) = 12
    · by_cases h2 : 0 ≤ c ∧ c ≤ 1000000000
      · simp [h0, h1, h2]
      · simp [h0, h1, h2]
    · simp [h0, h1]
  · simp [h0]
theorem chaCode_zero {a0 a1 : ByteArray} {c : Int} (h : chaCode a0 a1 c = 0) : a0.size = 32 ∧ a1.size = 12 ∧ 0 ≤ c ∧ c < 4294967296 := by
  unfold chaCode at h
  by_cases h0 : (a0.size : Int) = 32 ∧ (a1.size : Int) = 12
  · rw [if_pos h0] at h
    by_cases h2 : 0 ≤ c ∧ c ≤ 1000000000
    · omega
    · rw [if_neg h2] at h; cases h
  · rw [if_neg h0] at h; cases h

theorem FnExactChaBlock : laws_FnExactChaBlock.Pure := by
  intro a0 a1 a2 _ _ _
  refine ⟨2, ?_⟩
  unfold laws_FnExactChaBlock.f
  by_cases c : (a0.size : Int) > 1048576
  · rw [if_pos c]
  rw [if_neg c]
  by_cases c' : (a1.size : Int) > 1048576
  · rw [if_pos c']
  rw [if_neg c']
  obtain ⟨r, h1, h2⟩ : ∃ r, spec_ChaBlock.f 2 a0 a1 a2 = some r ∧ impl_ChaBlock.f 2 a0 a1 a2 = some r := by
    have hlong : ∀ b : Bool, b = true → ¬ ((a0.size : Int) ≤ 65536 ∧ (a1.size : Int) ≤ 65536) → ∃ r, spec_ChaBlock.j0 2 a0 a1 a2 b = some r ∧ impl_ChaBlock.f 2 a0 a1 a2 = some r := by
      rintro b rfl h
      unfold impl_ChaBlock.f impl_streamCode.f impl_areShort.f
      simp only [List.all_cons, List.all_nil, Bool.and_true, Option.bind_some, Bool.and_eq_true, decide_eq_true_eq]
      rw [if_neg h]
      simp only [spec_ChaBlock.j0, Option.bind_some]
      exact ⟨_, rfl, rfl⟩
    unfold spec_ChaBlock.f
    by_cases c1 : (a0.size : Int) > 65536
    · rw [if_pos c1]; exact hlong _ rfl (by omega)
    · rw [if_neg c1]
      by_cases c2 : (a1.size : Int) > 65536
      · exact hlong _ (decide_eq_true c2) (by omega)
      · rw [decide_eq_false c2]
        unfold impl_ChaBlock.f
        rw [streamCode_eq 1 a0 a1 a2 (by omega) (by omega)]
        simp only [spec_ChaBlock.j0, l02Ask_eq, Option.bind_some]
        rw [if_neg (by simp)]
        by_cases c3 : chaCode a0 a1 a2 = 0
        · rw [if_pos c3, if_pos c3]
          obtain ⟨e1, e2, e3, e4⟩ := chaCode_zero c3
          unfold spec_l02Block.f impl_stream.f
          rw [if_pos ⟨e1, e2, e3, e4⟩]
          exact ⟨_, rfl, rfl⟩
        · rw [if_neg c3, if_neg c3]; exact ⟨_, rfl, rfl⟩
  rw [h1, h2]; simp
end Go.Proofs.Ytihpnededldedaa.Pure
