/- FnExactXorOf answers true: XorOf gives what the reference gives. Conditions: none. -/
import Derived.Test.YtahebengjoffeaaPFnExactXorOfx1
import Derived.Test.YtahebengjoffeaaPlain
namespace Go.Proofs.Ytahebengjoffeaa.Pure
open Go.RowKit Go.Proofs.Ytahebengjoffeaa.PFnExactXorOf Go.Proofs.YtahebengjoffeaaW.PrintWords Go.Proofs.YtahebengjoffeaaW.PrintLast Go.Proofs.Ytahebengjoffeaa.Leaf
theorem xor_loop (a b : ByteArray) (hs : a.size = b.size) (hm : a.size ≤ 65536) (d : Nat) : ∀ (k i : Nat), i ≤ a.size → a.size - i = d → d < k →
    spec_XorOf.l0 k a b ((List.range i).map fun (j : Nat) => Go.bits .xor .u8 (bt a (j : Int)) (bt b (j : Int))) (i : Int) = some (strOfNums (xorNums a b), 0) := by
  induction d with
  | zero =>
    intro k i hi hd hk
    obtain ⟨k, rfl⟩ : ∃ m, k = m + 1 := ⟨k - 1, by omega⟩
    simp only [spec_XorOf.l0]
    rw [if_neg (by omega)]
    have e : i = a.size := by omega
    subst e
    congr 3
    unfold xorNums xorPart
    apply List.map_congr_left
    intro j hj
    rw [List.mem_range] at hj
    rw [if_pos hj]
  | succ d ih =>
    intro k i hi hd hk
    obtain ⟨k, rfl⟩ : ∃ m, k = m + 1 := ⟨k - 1, by omega⟩
    simp only [spec_XorOf.l0]
    rw [if_pos (by omega), if_pos (by omega), if_pos (by omega), if_pos (by simp; omega), wrap_ok _ (by omega) (by omega)]
    have h := ih k (i + 1) (by omega) (by omega) (by omega)
    rw [List.range_succ, List.map_append] at h
    exact h

theorem FnExactXorOf : laws_FnExactXorOf.Pure := by
  intro a0 a1 _ _
  refine ⟨a0.size + 3, ?_⟩
  unfold laws_FnExactXorOf.f
  by_cases c : (a0.size : Int) > 1048576
  · rw [if_pos c]
  rw [if_neg c]
  by_cases c' : (a1.size : Int) > 1048576
  · rw [if_pos c']
  rw [if_neg c']
  obtain ⟨r, h1, h2⟩ : ∃ r, spec_XorOf.f (a0.size + 3) a0 a1 = some r ∧ impl_XorOf.f a0 a1 = some r := by
    unfold spec_XorOf.f impl_XorOf.f impl_areShort.f
    simp only [List.all_cons, List.all_nil, Bool.and_true, Option.bind_some, Bool.and_eq_true, decide_eq_true_eq]
    by_cases c1 : (a0.size : Int) > 65536
    · rw [if_pos c1, if_neg (by omega)]
      exact ⟨_, rfl, rfl⟩
    · rw [if_neg c1]
      by_cases c2 : (a1.size : Int) > 65536
      · rw [if_neg (by omega), decide_eq_true c2]
        exact ⟨_, rfl, rfl⟩
      · rw [if_pos (by omega), decide_eq_false c2]
        simp only [spec_XorOf.j0]
        rw [if_neg (by simp)]
        by_cases c3 : (a0.size : Int) = (a1.size : Int)
        · rw [if_pos c3, if_pos c3]
          unfold impl_xor.f
          rw [if_pos (by omega)]
          exact ⟨_, xor_loop a0 a1 (by omega) (by omega) a0.size (a0.size + 2) 0 (by omega) (by omega) (by omega), rfl⟩
        · rw [if_neg c3, if_neg c3]; exact ⟨_, rfl, rfl⟩
  rw [h1, h2]; simp
end Go.Proofs.Ytahebengjoffeaa.Pure
