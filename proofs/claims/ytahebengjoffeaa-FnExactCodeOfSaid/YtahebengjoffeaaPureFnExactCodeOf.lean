/- FnExactCodeOf answers true: CodeOf gives the reference's code of each word. Conditions: none. -/
import Derived.Test.YtahebengjoffeaaPFnExactCodeOfx1
namespace Go.Proofs.Ytahebengjoffeaa.Pure
open Go.RowKit Go.Proofs.Ytahebengjoffeaa.PFnExactCodeOf Go.Proofs.YtahebengjoffeaaW.PrintWords Go.Proofs.YtahebengjoffeaaW.PrintLast
theorem word_at (i : Nat) (h : i < 20) : spec_CodeWord.f (i : Int) = impl_codeWords.f.map (fun l => rdOf ByteArray.empty l (i : Int)) := by
  have h' : i = 0 ∨ i = 1 ∨ i = 2 ∨ i = 3 ∨ i = 4 ∨ i = 5 ∨ i = 6 ∨ i = 7 ∨ i = 8 ∨ i = 9 ∨ i = 10 ∨ i = 11 ∨ i = 12 ∨ i = 13 ∨ i = 14 ∨ i = 15 ∨ i = 16 ∨ i = 17 ∨ i = 18 ∨ i = 19 := by omega
  rcases h' with rfl | rfl | rfl | rfl | rfl | rfl | rfl | rfl | rfl | rfl | rfl | rfl | rfl | rfl | rfl | rfl | rfl | rfl | rfl | rfl <;> rfl

/-- From place i on both come to one number. -/
theorem same_from (s : ByteArray) (l : List ByteArray) (hl : impl_codeWords.f = some l) (hn : l.length = 20) (d : Nat) : ∀ (k i : Nat), i ≤ 20 → 20 - i = d → d < k →
    ∃ r, spec_CodeOf.l0 k s (i : Int) = some r ∧ slices_Index_string_string.l0 k l s (l.length : Int) (i : Int) = some r := by
  induction d with
  | zero =>
    intro k i hi hd hk
    obtain ⟨k, rfl⟩ : ∃ m, k = m + 1 := ⟨k - 1, by omega⟩
    refine ⟨-1, ?_, ?_⟩
    · simp only [spec_CodeOf.l0]; rw [if_neg (by omega)]
    · simp only [slices_Index_string_string.l0]; rw [if_neg (by omega)]
  | succ d ih =>
    intro k i hi hd hk
    obtain ⟨k, rfl⟩ : ∃ m, k = m + 1 := ⟨k - 1, by omega⟩
    have hw : wrap64 ((i : Int) + 1) = ((i + 1 : Nat) : Int) := by unfold wrap64; omega
    have e := word_at i (by omega)
    rw [hl, Option.map_some] at e
    simp only [spec_CodeOf.l0, slices_Index_string_string.l0]
    rw [if_pos (show (i : Int) ≤ 19 by omega), e, if_pos (show (i : Int) < (l.length : Int) by omega), if_pos (show (0 : Int) ≤ (i : Int) by omega), hw]
    simp only [Option.bind_some]
    by_cases c : (rdOf ByteArray.empty l (i : Int)).toList = s.toList
    · rw [if_pos c, if_pos (show (i : Int) < (l.length : Int) by omega), if_pos c.symm]
      exact ⟨_, rfl, rfl⟩
    · rw [if_neg c, if_pos (show (i : Int) < (l.length : Int) by omega), if_neg (fun h => c h.symm)]
      exact ih k (i + 1) (by omega) (by omega) (by omega)

theorem FnExactCodeOf : laws_FnExactCodeOf.Pure := by
  intro a0 _
  refine ⟨21, ?_⟩
  unfold laws_FnExactCodeOf.f
  by_cases c : (a0.size : Int) > 1048576
  · rw [if_pos c]
  · rw [if_neg c]
    obtain ⟨l, hl, hn⟩ : ∃ l, impl_codeWords.f = some l ∧ l.length = 20 := ⟨_, rfl, rfl⟩
    obtain ⟨r, h1, h2⟩ := same_from a0 l hl hn 20 21 0 (by omega) (by omega) (by omega)
    have e1 : spec_CodeOf.f 21 a0 = some r := h1
    have e2 : impl_CodeOf.f 21 a0 = some r := by
      unfold impl_CodeOf.f
      rw [hl, Option.bind_some]
      unfold slices_Index_string_string.f
      rw [show (0 : Int) = ((0 : Nat) : Int) from rfl, h2]; rfl
    rw [e1, e2]; simp
end Go.Proofs.Ytahebengjoffeaa.Pure
