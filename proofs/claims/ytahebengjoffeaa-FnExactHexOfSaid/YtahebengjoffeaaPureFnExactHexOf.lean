/- FnExactHexOf answers true: HexOf gives what the reference gives. Conditions: none. -/
import Derived.Test.YtahebengjoffeaaPFnExactHexOfx1
import Derived.Test.YtahebengjoffeaaPlain
namespace Go.Proofs.Ytahebengjoffeaa.Pure
open Go.RowKit Go.Proofs.Ytahebengjoffeaa.PFnExactHexOf Go.Proofs.YtahebengjoffeaaW.PrintWords Go.Proofs.YtahebengjoffeaaW.PrintLast Go.Proofs.Ytahebengjoffeaa.Leaf
theorem hex_loop (a : ByteArray) (hm : a.size ≤ 65536) (d : Nat) : ∀ (k i : Nat), i ≤ a.size → a.size - i = d → d < k →
    spec_l01Hex.l0 k a (hexPart a i) (i : Int) = some (strOfNums (hexPart a a.size)) := by
  induction d with
  | zero =>
    intro k i hi hd hk
    obtain ⟨k, rfl⟩ : ∃ m, k = m + 1 := ⟨k - 1, by omega⟩
    simp only [spec_l01Hex.l0]
    rw [if_neg (by omega)]
    have e : i = a.size := by omega
    subst e; rfl
  | succ d ih =>
    intro k i hi hd hk
    obtain ⟨k, rfl⟩ : ∃ m, k = m + 1 := ⟨k - 1, by omega⟩
    obtain ⟨b0, b1⟩ := bt_range a (i : Int)
    obtain ⟨m0, m1⟩ := and15 (bt a (i : Int)) b0 b1
    simp only [spec_l01Hex.l0]
    rw [if_pos (by omega), if_pos (by omega), if_pos (by omega), if_pos (by omega), if_pos m0, if_pos m1]
    simp only [Option.bind_some]
    rw [if_pos (by rw [hexPart_length]; simp; omega), wrap_ok _ (by omega) (by omega)]
    have h := ih k (i + 1) (by omega) (by omega) (by omega)
    rw [hexPart_succ] at h
    exact h

theorem FnExactHexOf : laws_FnExactHexOf.Pure := by
  intro a0 _
  refine ⟨a0.size + 1, ?_⟩
  unfold laws_FnExactHexOf.f
  by_cases c : (a0.size : Int) > 1048576
  · rw [if_pos c]
  rw [if_neg c]
  obtain ⟨r, h1, h2⟩ : ∃ r, spec_HexOf.f (a0.size + 1) a0 = some r ∧ impl_HexOf.f a0 = some r := by
    unfold spec_HexOf.f impl_HexOf.f impl_areShort.f
    simp only [List.all_cons, List.all_nil, Bool.and_true, Option.bind_some, decide_eq_true_eq]
    by_cases c1 : (a0.size : Int) > 65536
    · rw [if_pos c1, if_neg (by omega)]; exact ⟨_, rfl, rfl⟩
    · rw [if_neg c1, if_pos (by omega)]
      have h := hex_loop a0 (by omega) a0.size (a0.size + 1) 0 (by omega) (by omega) (by omega)
      have e : spec_l01Hex.f (a0.size + 1) a0 = some (strOfNums (hexPart a0 a0.size)) := h
      unfold impl_hexOf.f
      rw [e, if_pos (by omega)]
      exact ⟨_, rfl, rfl⟩
  rw [h1, h2]; simp
end Go.Proofs.Ytahebengjoffeaa.Pure
