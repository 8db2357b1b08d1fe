/- FnExactTagEqual answers true: TagEqual gives what the reference gives. Conditions: none. -/
import Derived.Test.YtahebengjoffeaaPFnExactTagEqualx1
import Derived.Test.YtahebengjoffeaaPlain
namespace Go.Proofs.Ytahebengjoffeaa.Pure
open Go.RowKit Go.Proofs.Ytahebengjoffeaa.PFnExactTagEqual Go.Proofs.YtahebengjoffeaaW.PrintWords Go.Proofs.YtahebengjoffeaaW.PrintLast Go.Proofs.Ytahebengjoffeaa.Leaf
theorem tag_loop (a b : ByteArray) (ha : a.size ≤ 65536) (d : Nat) : ∀ (k i : Nat) (n : Int), i ≤ a.size → i ≤ b.size → a.size - i = d → d < k → 0 ≤ n → n ≤ 255 → (n = 0 ↔ ∀ j : Nat, j < i → bt a (j : Int) = bt b (j : Int)) →
    spec_TagEqual.l0 k a b n (i : Int) = some (a.toList == b.toList) := by
  have done : ∀ (i : Nat) (n : Int), i ≤ a.size → i ≤ b.size → (i = a.size ∨ i = b.size) → (n = 0 ↔ ∀ j : Nat, j < i → bt a (j : Int) = bt b (j : Int)) →
      (if n = 0 then (some ((a.size : Int) == (b.size : Int))) else (some false)) = some (a.toList == b.toList) := by
    intro i n hia hib hor hn
    by_cases hz : n = 0
    · rw [if_pos hz]
      congr 1
      rw [Bool.eq_iff_iff, beq_iff_eq, beq_iff_eq, toList_iff]
      constructor
      · intro h
        exact ⟨by omega, fun j hj => hn.1 hz j (by omega)⟩
      · intro h; omega
    · rw [if_neg hz]
      congr 1
      symm
      rw [beq_eq_false_iff_ne]
      intro h
      rw [toList_iff] at h
      exact hz (hn.2 fun j hj => h.2 j (by omega))
  induction d with
  | zero =>
    intro k i n hia hib hd hk h0 h1 hn
    obtain ⟨k, rfl⟩ : ∃ m, k = m + 1 := ⟨k - 1, by omega⟩
    simp only [spec_TagEqual.l0]
    rw [if_neg (by omega)]
    exact done i n hia hib (by omega) hn
  | succ d ih =>
    intro k i n hia hib hd hk h0 h1 hn
    obtain ⟨k, rfl⟩ : ∃ m, k = m + 1 := ⟨k - 1, by omega⟩
    simp only [spec_TagEqual.l0]
    rw [if_pos (by omega)]
    by_cases hlt : (i : Int) < (b.size : Int)
    · rw [if_pos hlt, if_pos (by omega)]
      obtain ⟨x0, x1⟩ := bt_range a (i : Int)
      obtain ⟨y0, y1⟩ := bt_range b (i : Int)
      obtain ⟨z0, z1, z2⟩ := xor_u8_zero _ _ x0 x1 y0 y1
      obtain ⟨o0, o1, o2⟩ := or_i64_zero n _ h0 h1 z0 z1
      rw [wrap_ok (Go.bits .xor .u8 (bt a (i : Int)) (bt b (i : Int))) (by omega) (by omega), wrap_ok ((i : Int) + 1) (by omega) (by omega)]
      refine ih k (i + 1) _ (by omega) (by omega) (by omega) (by omega) o0 o1 ?_
      rw [o2, z2, hn]
      constructor
      · rintro ⟨h, e⟩ j hj
        by_cases hji : j < i
        · exact h j hji
        · have : j = i := by omega
          subst this; exact e
      · intro h
        exact ⟨fun j hj => h j (by omega), h i (by omega)⟩
    · rw [if_neg hlt]
      exact done i n hia hib (by omega) hn

theorem FnExactTagEqual : laws_FnExactTagEqual.Pure := by
  intro a0 a1 _ _
  refine ⟨a0.size + 2, ?_⟩
  unfold laws_FnExactTagEqual.f
  by_cases c : (a0.size : Int) > 1048576
  · rw [if_pos c]
  rw [if_neg c]
  by_cases c' : (a1.size : Int) > 1048576
  · rw [if_pos c']
  rw [if_neg c']
  obtain ⟨r, h1, h2⟩ : ∃ r, spec_TagEqual.f (a0.size + 2) a0 a1 = some r ∧ impl_TagEqual.f a0 a1 = some r := by
    unfold spec_TagEqual.f impl_TagEqual.f impl_areShort.f
    simp only [List.all_cons, List.all_nil, Bool.and_true, Option.bind_some, Bool.and_eq_true, decide_eq_true_eq]
    by_cases c1 : (a0.size : Int) > 65536
    · rw [if_pos c1, if_neg (by omega)]
      exact ⟨_, rfl, rfl⟩
    · rw [if_neg c1]
      by_cases c2 : (a1.size : Int) > 65536
      · rw [if_neg (by omega), decide_eq_true c2]
        exact ⟨_, rfl, rfl⟩
      · rw [if_pos (by omega), decide_eq_false c2]
        simp only [spec_TagEqual.j0]
        rw [if_neg (by simp)]
        exact ⟨_, tag_loop a0 a1 (by omega) a0.size (a0.size + 1) 0 0 (by omega) (by omega) (by omega) (by omega) (by omega) (by omega) (by simp), rfl⟩
  rw [h1, h2]; simp
end Go.Proofs.Ytahebengjoffeaa.Pure
