/- FnExactUnHex answers true: UnHex gives what the reference gives. Conditions: none. -/
import Derived.Test.YtahebengjoffeaaPFnExactUnHexx2
import Derived.Test.YtahebengjoffeaaPlain
namespace Go.Proofs.Ytahebengjoffeaa.Pure
open Go.RowKit Go.Proofs.Ytahebengjoffeaa.PFnExactUnHex Go.Proofs.YtahebengjoffeaaW.PrintWords Go.Proofs.YtahebengjoffeaaW.PrintLast Go.Proofs.Ytahebengjoffeaa.Leaf
theorem nibble_nat : ∀ c : Fin 256, Lib.indexByte [48, 49, 50, 51, 52, 53, 54, 55, 56, 57, 97, 98, 99, 100, 101, 102] (c.val.toUInt8) = (if 48 ≤ c.val ∧ c.val ≤ 57 then (c.val : Int) - 48 else if 97 ≤ c.val ∧ c.val ≤ 102 then (c.val : Int) - 97 + 10 else -1) := by decide +kernel

theorem nibble_some (c : Int) (h0 : 0 ≤ c) (h1 : c ≤ 255) (k : Nat) (hk : 1 ≤ k) : ∃ n, spec_l01Nibble.f k c = some n ∧ strings_IndexByte.f (⟨#[48, 49, 50, 51, 52, 53, 54, 55, 56, 57, 97, 98, 99, 100, 101, 102]⟩ : ByteArray) c = some n ∧ n ≤ 15 ∧ -1 ≤ n := by
  obtain ⟨m, rfl⟩ := Int.eq_ofNat_of_zero_le h0
  obtain ⟨k, rfl⟩ : ∃ q, k = q + 1 := ⟨k - 1, by omega⟩
  have h := nibble_nat ⟨m, by omega⟩
  simp only at h
  have e : ∀ n, Lib.indexByte [48, 49, 50, 51, 52, 53, 54, 55, 56, 57, 97, 98, 99, 100, 101, 102] m.toUInt8 = n → strings_IndexByte.f (⟨#[48, 49, 50, 51, 52, 53, 54, 55, 56, 57, 97, 98, 99, 100, 101, 102]⟩ : ByteArray) (m : Int) = some n := fun n hn => congrArg some hn
  unfold spec_l01Nibble.f
  simp only [spec_l01Nibble.j0]
  by_cases a1 : 48 ≤ m ∧ m ≤ 57
  · rw [if_pos a1] at h
    refine ⟨(m : Int) - 48, ?_, e _ h, by omega, by omega⟩
    rw [if_pos (by omega), if_pos (decide_eq_true (by omega)), Option.some_inj]; omega
  · rw [if_neg a1] at h
    have b1 : (if (48 : Int) ≤ (m : Int) then (if decide ((m : Int) ≤ 57) = true then some (((m : Int) - 48) % 256) else if 97 ≤ (m : Int) then (if (m : Int) ≤ 102 then some (((m : Int) - 97) % 256 + 10) else some (-1)) else some (-1)) else (if false = true then some (((m : Int) - 48) % 256) else if 97 ≤ (m : Int) then (if (m : Int) ≤ 102 then some (((m : Int) - 97) % 256 + 10) else some (-1)) else some (-1)))
        = (if 97 ≤ (m : Int) then (if (m : Int) ≤ 102 then some (((m : Int) - 97) % 256 + 10) else some (-1)) else some (-1)) := by
      by_cases c : (48 : Int) ≤ (m : Int)
      · rw [if_pos c, if_neg (show ¬ decide ((m : Int) ≤ 57) = true by simp; omega)]
      · rw [if_neg c, if_neg (by simp)]
    rw [b1]
    by_cases a2 : 97 ≤ m ∧ m ≤ 102
    · rw [if_pos a2] at h
      refine ⟨(m : Int) - 97 + 10, ?_, e _ h, by omega, by omega⟩
      rw [if_pos (by omega), if_pos (by omega), Option.some_inj]; omega
    · rw [if_neg a2] at h
      refine ⟨-1, ?_, e _ h, by omega, by omega⟩
      by_cases c : (97 : Int) ≤ (m : Int)
      · rw [if_pos c, if_neg (by omega)]
      · rw [if_neg c]

/-- From place i on both come to one answer. -/
theorem unhex_loop (a : ByteArray) (he : a.size % 2 = 0) (ha : a.size ≤ 65536) (d : Nat) : ∀ (k i : Nat) (xs : List Int), i ≤ a.size → i % 2 = 0 → xs.length ≤ i → a.size - i = 2 * d → d + 1 < k →
    ∃ b ok, spec_l01UnHex.l0 k a xs (i : Int) = some (b, ok) ∧ impl_UnHex.l0 k a xs (i : Int) = some (if ok = true then (b, 0) else ((⟨#[]⟩ : ByteArray), 3)) := by
  induction d with
  | zero =>
    intro k i xs hi h2 hx hd hk
    obtain ⟨k, rfl⟩ : ∃ m, k = m + 1 := ⟨k - 1, by omega⟩
    refine ⟨strOfNums xs, true, ?_, ?_⟩
    · simp only [spec_l01UnHex.l0]
      rw [wrap_ok _ (by omega) (by omega), if_neg (by omega)]
    · simp only [impl_UnHex.l0]
      rw [if_neg (by omega)]; rfl
  | succ d ih =>
    intro k i xs hi h2 hx hd hk
    obtain ⟨k, rfl⟩ : ∃ m, k = m + 1 := ⟨k - 1, by omega⟩
    obtain ⟨x0, x1⟩ := bt_range a (i : Int)
    obtain ⟨y0, y1⟩ := bt_range a ((i : Int) + 1)
    obtain ⟨n, n1, n2, n3, n4⟩ := nibble_some _ x0 x1 k (by omega)
    obtain ⟨m, m1, m2, m3, m4⟩ := nibble_some _ y0 y1 k (by omega)
    have w1 : wrap64 ((i : Int) + 1) = (i : Int) + 1 := wrap_ok _ (by omega) (by omega)
    have w2 : wrap64 ((i : Int) + 2) = ((i + 2 : Nat) : Int) := by rw [wrap_ok _ (by omega) (by omega)]; omega
    simp only [spec_l01UnHex.l0, impl_UnHex.l0]
    have q0 : (0 : Int) ≤ (i : Int) := by omega
    have q1 : (0 : Int) ≤ (i : Int) + 1 := by omega
    have q2 : (i : Int) < (a.size : Int) := by omega
    have q3 : (i : Int) + 1 < (a.size : Int) := by omega
    simp only [w1, w2, n1, m1, n2, m2, Option.bind_some, q0, q1, q2, q3, if_true]
    by_cases c1 : n < 0
    · rw [if_pos c1, if_pos c1]
      exact ⟨_, false, rfl, rfl⟩
    · rw [if_neg c1, if_neg c1]
      by_cases c2 : m < 0
      · rw [if_pos c2, if_pos c2]
        exact ⟨_, false, rfl, rfl⟩
      · rw [if_neg c2, if_neg c2]
        simp only [show xs.length < 140737488355328 by omega, if_true]
        exact ih k (i + 2) (xs ++ [wrap64 (wrap64 (16 * n) + m) % 256]) (by omega) (by omega) (by simp; omega) (by omega) (by omega)

theorem FnExactUnHex : laws_FnExactUnHex.Pure := by
  intro a0 _
  refine ⟨a0.size + 3, ?_⟩
  unfold laws_FnExactUnHex.f
  by_cases c : (a0.size : Int) > 1048576
  · rw [if_pos c]
  rw [if_neg c]
  obtain ⟨r, h1, h2⟩ : ∃ r, spec_UnHex.f (a0.size + 3) a0 = some r ∧ impl_UnHex.f (a0.size + 3) a0 = some r := by
    unfold spec_UnHex.f impl_UnHex.f impl_areShort.f
    simp only [List.all_cons, List.all_nil, Bool.and_true, Option.bind_some, decide_eq_true_eq]
    by_cases c1 : (a0.size : Int) > 65536
    · rw [if_pos c1, if_neg (by omega)]; exact ⟨_, rfl, rfl⟩
    · rw [if_neg c1, if_pos (by omega)]
      unfold spec_l01UnHex.f
      by_cases c2 : ((a0.size : Int) % 2) = 1
      · rw [if_pos c2, if_neg (by omega)]; exact ⟨_, rfl, rfl⟩
      · rw [if_neg c2, if_pos (by omega)]
        obtain ⟨b, ok, h1, h2⟩ := unhex_loop a0 (by omega) (by omega) (a0.size / 2) (a0.size + 3) 0 [] (by omega) (by omega) (by simp) (by omega) (by omega)
        rw [show ((0 : Nat) : Int) = 0 from rfl] at h1 h2
        rw [h1, h2]
        simp only [Option.bind_some]
        cases ok <;> exact ⟨_, rfl, rfl⟩
  rw [h1, h2]; simp
end Go.Proofs.Ytahebengjoffeaa.Pure
