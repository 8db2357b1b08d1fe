/- HashOK: the reference and the program answer alike; the law. Conditions: the string's length. -/
import Derived.Test.YtahebengjoffeaaHashP
namespace Go.Proofs.Ytahebengjoffeaa.Leaf
open Go.RowKit Go.Shelf Go.Proofs.YtahebengjoffeaaW.PrintWords Go.Proofs.YtahebengjoffeaaW.PrintLast Go.Proofs.YtahebengjoffeaaW.PrintMore

theorem HashOK_both (x0 x1 x2 x3 x4 x5 x6 x7 n : Int) (b : ByteArray) : ∃ ok : Bool, (∀ w, Calls Try.prog 33 #[.agg #[.int .i64 x0, .int .i64 x1, .int .i64 x2, .int .i64 x3, .int .i64 x4, .int .i64 x5, .int .i64 x6, .int .i64 x7, .string b, .int .i64 n]] w fun e w' => e = .returned (.bool ok) ∧ Below w.heap.size w w') ∧
    (∀ w, Calls Try.prog 35 #[.agg #[.int .i64 x0, .int .i64 x1, .int .i64 x2, .int .i64 x3, .int .i64 x4, .int .i64 x5, .int .i64 x6, .int .i64 x7, .string b, .int .i64 n]] w fun e w' => e = .returned (.bool ok) ∧ Below w.heap.size w w') ∧ (ok = true → (inW x0 = true ∧ inW x1 = true ∧ inW x2 = true ∧ inW x3 = true ∧ inW x4 = true ∧ inW x5 = true ∧ inW x6 = true ∧ inW x7 = true) ∧ (0 ≤ n ∧ n ≤ 1000000000) ∧ (b.size : Int) = n % 64) := by
  have I : ∀ (x : Int) (v : Bool), inW x = v → ∀ W, Calls Try.prog 57 #[.int .i64 x, .int .i64 0, .int .i64 4294967295] W fun e w' => e = .returned (.bool v) ∧ W = w' := fun x v h W => h ▸ l01In_calls x 0 4294967295 W
  have J : ∀ (v : Bool), inN n = v → ∀ W, Calls Try.prog 57 #[.int .i64 n, .int .i64 0, .int .i64 1000000000] W fun e w' => e = .returned (.bool v) ∧ W = w' := fun v h W => h ▸ l01In_calls n 0 1000000000 W
  have K : ∀ (v : Bool), inN n = v → ∀ W, Calls Try.prog 47 #[.int .i64 n, .int .i64 0, .int .i64 1000000000] W fun e w' => e = .returned (.bool v) ∧ W = w' := fun v h W => h ▸ within_calls n 0 1000000000 W
  have hS : ([x0, x1, x2, x3, x4, x5, x6, x7].all inW = false ∧ ∀ w, Calls Try.prog 33 #[.agg #[.int .i64 x0, .int .i64 x1, .int .i64 x2, .int .i64 x3, .int .i64 x4, .int .i64 x5, .int .i64 x6, .int .i64 x7, .string b, .int .i64 n]] w fun e w' => e = .returned (.bool false) ∧ Below w.heap.size w w') ∨ (inW x0 = true ∧ inW x1 = true ∧ inW x2 = true ∧ inW x3 = true ∧ inW x4 = true ∧ inW x5 = true ∧ inW x6 = true ∧ inW x7 = true) := by
    cases h0 : inW x0 with
    | false => exact .inl ⟨by simp [h0], fun w => specOK_0 x0 x1 x2 x3 x4 x5 x6 x7 n b w  (I x0 false h0)⟩
    | true =>
      cases h1 : inW x1 with
      | false => exact .inl ⟨by simp [h0, h1], fun w => specOK_1 x0 x1 x2 x3 x4 x5 x6 x7 n b w (I x0 true h0) (I x1 false h1)⟩
      | true =>
        cases h2 : inW x2 with
        | false => exact .inl ⟨by simp [h0, h1, h2], fun w => specOK_2 x0 x1 x2 x3 x4 x5 x6 x7 n b w (I x0 true h0) (I x1 true h1) (I x2 false h2)⟩
        | true =>
          cases h3 : inW x3 with
          | false => exact .inl ⟨by simp [h0, h1, h2, h3], fun w => specOK_3 x0 x1 x2 x3 x4 x5 x6 x7 n b w (I x0 true h0) (I x1 true h1) (I x2 true h2) (I x3 false h3)⟩
          | true =>
            cases h4 : inW x4 with
            | false => exact .inl ⟨by simp [h0, h1, h2, h3, h4], fun w => specOK_4 x0 x1 x2 x3 x4 x5 x6 x7 n b w (I x0 true h0) (I x1 true h1) (I x2 true h2) (I x3 true h3) (I x4 false h4)⟩
            | true =>
              cases h5 : inW x5 with
              | false => exact .inl ⟨by simp [h0, h1, h2, h3, h4, h5], fun w => specOK_5 x0 x1 x2 x3 x4 x5 x6 x7 n b w (I x0 true h0) (I x1 true h1) (I x2 true h2) (I x3 true h3) (I x4 true h4) (I x5 false h5)⟩
              | true =>
                cases h6 : inW x6 with
                | false => exact .inl ⟨by simp [h0, h1, h2, h3, h4, h5, h6], fun w => specOK_6 x0 x1 x2 x3 x4 x5 x6 x7 n b w (I x0 true h0) (I x1 true h1) (I x2 true h2) (I x3 true h3) (I x4 true h4) (I x5 true h5) (I x6 false h6)⟩
                | true =>
                  cases h7 : inW x7 with
                  | false => exact .inl ⟨by simp [h0, h1, h2, h3, h4, h5, h6, h7], fun w => specOK_7 x0 x1 x2 x3 x4 x5 x6 x7 n b w (I x0 true h0) (I x1 true h1) (I x2 true h2) (I x3 true h3) (I x4 true h4) (I x5 true h5) (I x6 true h6) (I x7 false h7)⟩
                  | true =>
                    exact .inr ⟨rfl, rfl, rfl, rfl, rfl, rfl, rfl, rfl⟩
  cases hn : inN n with
  | false =>
    refine ⟨false, fun w => ?_, fun w => implOK_f x0 x1 x2 x3 x4 x5 x6 x7 n b w (K false hn), fun h => by cases h⟩
    rcases hS with ⟨_, h⟩ | ⟨h0, h1, h2, h3, h4, h5, h6, h7⟩
    · exact h w
    · exact specOK_8f x0 x1 x2 x3 x4 x5 x6 x7 n b w (I x0 true h0) (I x1 true h1) (I x2 true h2) (I x3 true h3) (I x4 true h4) (I x5 true h5) (I x6 true h6) (I x7 true h7) (J false hn)
  | true =>
    have hn2 := hn
    unfold inN at hn2
    simp only [Bool.and_eq_true, decide_eq_true_eq] at hn2
    have t1 : Int.tmod n 64 = n % 64 := Int.tmod_eq_emod_of_nonneg hn2.1
    cases he : ((b.size : Int) == n % 64) with
    | false =>
      refine ⟨false, fun w => ?_, fun w => implOK_tf x0 x1 x2 x3 x4 x5 x6 x7 n b w (K true hn) _ t1 rfl he, fun h => by cases h⟩
      rcases hS with ⟨_, h⟩ | ⟨h0, h1, h2, h3, h4, h5, h6, h7⟩
      · exact h w
      · exact specOK_8t x0 x1 x2 x3 x4 x5 x6 x7 n b w (I x0 true h0) (I x1 true h1) (I x2 true h2) (I x3 true h3) (I x4 true h4) (I x5 true h5) (I x6 true h6) (I x7 true h7) (J true hn) _ t1 rfl false he
    | true =>
      have hT := fun w => implOK_tt x0 x1 x2 x3 x4 x5 x6 x7 n b w (K true hn) _ t1 rfl he
      rcases hS with ⟨ha, h⟩ | ⟨h0, h1, h2, h3, h4, h5, h6, h7⟩
      · rw [ha] at hT
        exact ⟨false, h, hT, fun h => by cases h⟩
      · rw [show [x0, x1, x2, x3, x4, x5, x6, x7].all inW = true by simp [h0, h1, h2, h3, h4, h5, h6, h7]] at hT
        exact ⟨true, fun w => specOK_8t x0 x1 x2 x3 x4 x5 x6 x7 n b w (I x0 true h0) (I x1 true h1) (I x2 true h2) (I x3 true h3) (I x4 true h4) (I x5 true h5) (I x6 true h6) (I x7 true h7) (J true hn) _ t1 rfl true he, hT, fun _ => ⟨⟨h0, h1, h2, h3, h4, h5, h6, h7⟩, hn2, by simpa using he⟩⟩

end Go.Proofs.Ytahebengjoffeaa.Leaf
