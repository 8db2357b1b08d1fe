/- FnExactNameOK answers true: NameOK gives what the reference gives. Conditions: none. -/
import Derived.Test.YtahebengjoffeaaPFnExactNameOKx1
import Derived.Test.YtahebengjoffeaaPlain
namespace Go.Proofs.Ytahebengjoffeaa.Pure
open Go.RowKit Go.Proofs.Ytahebengjoffeaa.PFnExactNameOK Go.Proofs.YtahebengjoffeaaW.PrintWords Go.Proofs.YtahebengjoffeaaW.PrintLast Go.Proofs.Ytahebengjoffeaa.Leaf
theorem letter_some (c : Int) : spec_l00Letter.f c = some (letterB c) := by
  unfold spec_l00Letter.f letterB
  by_cases h1 : c ≥ 97
  · by_cases h2 : c ≤ 122
    · rw [if_pos h1, if_pos h2]; simp; omega
    · rw [if_pos h1, if_neg h2, if_pos (by omega), if_neg (by omega)]; simp; omega
  · rw [if_neg h1]
    by_cases h2 : c ≥ 65
    · by_cases h3 : c ≤ 90
      · rw [if_pos h2, if_pos h3]; simp; omega
      · rw [if_pos h2, if_neg h3, Option.some_inj, Bool.eq_iff_iff]; simp; omega
    · rw [if_neg h2, Option.some_inj, Bool.eq_iff_iff]; simp; omega
theorem digit_some (c : Int) : spec_l00Digit.f c = some (digitB c) := by
  unfold spec_l00Digit.f digitB
  by_cases h1 : c ≥ 48
  · rw [if_pos h1, Option.some_inj, Bool.eq_iff_iff]; simp; omega
  · rw [if_neg h1, Option.some_inj, Bool.eq_iff_iff]; simp; omega

theorem word_loop (a : ByteArray) (ha : a.size ≤ 40) (d : Nat) : ∀ (k i : Nat), i ≤ a.size → a.size - i = d → d < k → (∀ j : Nat, j < i → (letterB (bt a (j : Int)) || digitB (bt a (j : Int))) = true) →
    spec_l00Word.l0 k a (i : Int) = some ((bytesOf a).all fun c => letterB c || digitB c) := by
  induction d with
  | zero =>
    intro k i hi hd hk h
    obtain ⟨k, rfl⟩ : ∃ m, k = m + 1 := ⟨k - 1, by omega⟩
    simp only [spec_l00Word.l0]
    rw [if_neg (by omega), Option.some_inj, eq_comm, List.all_eq_true]
    intro c hc
    rw [bytesOf_range, List.mem_map] at hc
    obtain ⟨j, hj, rfl⟩ := hc
    rw [List.mem_range] at hj
    exact h j (by omega)
  | succ d ih =>
    intro k i hi hd hk h
    obtain ⟨k, rfl⟩ : ∃ m, k = m + 1 := ⟨k - 1, by omega⟩
    simp only [spec_l00Word.l0]
    rw [if_pos (by omega), if_pos (by omega), letter_some, digit_some, wrap_ok _ (by omega) (by omega)]
    simp only [Option.bind_some]
    have hnext : (letterB (bt a (i : Int)) || digitB (bt a (i : Int))) = true → spec_l00Word.l0 k a ((i : Int) + 1) = some ((bytesOf a).all fun c => letterB c || digitB c) := fun hi2 =>
      ih k (i + 1) (by omega) (by omega) (by omega) (fun j hj => by
        by_cases e : j < i
        · exact h j e
        · have : j = i := by omega
          subst this; exact hi2)
    by_cases hl : letterB (bt a (i : Int)) = true
    · rw [if_pos hl]; exact hnext (by rw [hl]; rfl)
    · rw [if_neg hl]
      by_cases hg : digitB (bt a (i : Int)) = true
      · rw [if_pos hg]; exact hnext (by rw [hg]; simp)
      · rw [if_neg hg, Option.some_inj, eq_comm, List.all_eq_false]
        refine ⟨bt a (i : Int), ?_, by simp [hl, hg]⟩
        rw [bytesOf_range, List.mem_map]
        exact ⟨i, List.mem_range.2 (by omega), rfl⟩

theorem FnExactNameOK : laws_FnExactNameOK.Pure := by
  intro a0 _
  refine ⟨42, ?_⟩
  unfold laws_FnExactNameOK.f
  by_cases c : (a0.size : Int) > 1048576
  · rw [if_pos c]
  rw [if_neg c]
  obtain ⟨r, h1, h2⟩ : ∃ r, spec_NameOK.f 42 a0 = some r ∧ impl_NameOK.f a0 = some r := by
    refine ⟨_, ?_, rfl⟩
    unfold spec_NameOK.f spec_l00Word.f
    by_cases h1 : (a0.size : Int) < 1
    · rw [if_pos h1, show decide (1 ≤ a0.size) = false from decide_eq_false (by omega)]
      rfl
    · rw [if_neg h1]
      by_cases h2 : (a0.size : Int) > 40
      · rw [if_pos h2, show decide (a0.size ≤ 40) = false from decide_eq_false (by omega), Bool.and_false]
        rfl
      · rw [if_neg h2, if_pos (by omega), letter_some, show decide (1 ≤ a0.size) = true from decide_eq_true (by omega), show decide (a0.size ≤ 40) = true from decide_eq_true (by omega)]
        simp only [Option.bind_some, spec_l00Word.j0]
        cases hl : letterB (bt a0 0) with
        | false => rfl
        | true =>
          rw [if_neg (by simp)]
          have h := word_loop a0 (by omega) (a0.size - 1) 41 1 (by omega) (by omega) (by omega) (fun j hj => by
            have : j = 0 := by omega
            subst this
            show (letterB (bt a0 0) || _) = true
            rw [hl]; rfl)
          rw [show ((1 : Nat) : Int) = 1 from rfl] at h
          rw [h]; simp
  rw [h1, h2]; simp
end Go.Proofs.Ytahebengjoffeaa.Pure
