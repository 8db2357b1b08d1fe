/- FnExactIntsText answers true: IntsText gives what the reference gives. Conditions: none. -/
import Derived.Test.YtihpnededldedaaPFnExactIntsTextx1
import Derived.Test.YtihpnededldedaaPlain
namespace Go.Proofs.Ytihpnededldedaa.Pure
open Go.RowKit Go.Proofs.Ytihpnededldedaa.PFnExactIntsText Go.Proofs.YtihpnededldedaaW.PrintWords Go.Proofs.YtihpnededldedaaW.PrintLast Go.Proofs.Ytihpnededldedaa.Leaf
theorem eqInt_loop (d : Nat) : ∀ (k i : Nat) (xs : List Int), i + d = xs.length → d < k → xs.length ≤ 4611686018427387904 → laws_eqIntS.l0 k xs xs (i : Int) = some true := by
  induction d with
  | zero =>
    intro k i xs hi hk _
    obtain ⟨k, rfl⟩ : ∃ m, k = m + 1 := ⟨k - 1, by omega⟩
    simp only [laws_eqIntS.l0]
    rw [if_neg (by omega)]
  | succ d ih =>
    intro k i xs hi hk hl
    obtain ⟨k, rfl⟩ : ∃ m, k = m + 1 := ⟨k - 1, by omega⟩
    simp only [laws_eqIntS.l0]
    rw [if_pos (by omega), if_pos (by omega), if_pos (by omega), show wrap64 ((i : Int) + 1) = ((i + 1 : Nat) : Int) from by unfold wrap64; omega]
    simp only [if_true]
    exact ih k (i + 1) xs (by omega) (by omega) hl

theorem eqInt_refl (k : Nat) (xs : List Int) (hk : xs.length < k) (hl : xs.length ≤ 4611686018427387904) : laws_eqIntS.f k xs xs = some true := by
  unfold laws_eqIntS.f
  rw [if_pos rfl]
  exact eqInt_loop xs.length k 0 xs (by omega) hk hl

theorem toInt_loop (x0 : List Int) (hl : x0.length ≤ 1048576) (d : Nat) : ∀ (k i : Nat), i + d = x0.length → d < k → laws_toIntS.l0 k x0 (x0.take i ++ List.replicate d 0) (i : Int) = some x0 := by
  induction d with
  | zero =>
    intro k i hi hk
    obtain ⟨k, rfl⟩ : ∃ m, k = m + 1 := ⟨k - 1, by omega⟩
    simp only [laws_toIntS.l0]
    rw [if_neg (by omega), List.take_of_length_le (by omega)]
    simp
  | succ d ih =>
    intro k i hi hk
    obtain ⟨k, rfl⟩ : ∃ m, k = m + 1 := ⟨k - 1, by omega⟩
    simp only [laws_toIntS.l0]
    rw [if_pos (by omega), if_pos (by omega), if_pos (by simp; omega), wrap_ok ((i : Int) + 1) (by omega) (by omega)]
    have e : (x0.take i ++ List.replicate (d + 1) (0 : Int)).set ((i : Int)).toNat (rd x0 (i : Int)) = x0.take (i + 1) ++ List.replicate d 0 := by
      have e0 : rd x0 (i : Int) = x0[i]'(by omega) := by simp [rd, List.getD_eq_getElem?_getD, List.getElem?_eq_getElem (show i < x0.length by omega)]
      rw [e0, Int.toNat_natCast]
      rw [List.set_append_right _ _ (by rw [List.length_take]; omega), show i - (List.take i x0).length = 0 by rw [List.length_take]; omega, List.replicate_succ, List.set_cons_zero, List.take_succ_eq_append_getElem (by omega), List.append_assoc]
      rfl
    rw [e]
    exact ih k (i + 1) (by omega) (by omega)
theorem toInt_some (l : List Int) (hl : l.length ≤ 1048576) (k : Nat) (hk : l.length < k) : laws_toIntS.f k l = some l := by
  unfold laws_toIntS.f
  rw [if_pos (by omega), if_pos (by omega)]
  have := toInt_loop l hl l.length k 0 (by omega) hk
  simpa using this
theorem int_s (a : Int) : spec_l06Int.f a = some (inWord a) := by
  unfold spec_l06Int.f spec_l01In.f inWord
  by_cases c : 0 ≤ a
  · rw [if_pos c, decide_eq_true c]; rfl
  · rw [if_neg c, decide_eq_false c]; rfl
theorem little4 (a : Int) : littleNums a 4 = [a % 256, (a / 256) % 256, (a / 65536) % 256, (a / 16777216) % 256] := by
  simp [littleNums, List.range_succ]
theorem bytes_s (x : List Int) (a : Int) (h : x.length ≤ 1000000) : spec_l02Bytes.f x a = some (x ++ littleNums a 4) := by
  unfold spec_l02Bytes.f
  simp only [Option.bind_some]
  rw [if_pos (by simp only [List.length_cons, List.length_nil]; omega), little4]
theorem ints_loop (l : List Int) (hl : l.length ≤ 4096) (d : Nat) : ∀ (k i : Nat), i + d = l.length → d < k → spec_l06Ints.l0 k l (littleAll l i) (i : Int) = some (strOfNums (littleAll l l.length)) := by
  induction d with
  | zero =>
    intro k i hi hk
    obtain ⟨k, rfl⟩ : ∃ m, k = m + 1 := ⟨k - 1, by omega⟩
    simp only [spec_l06Ints.l0]
    rw [if_neg (by omega), show i = l.length by omega]
  | succ d ih =>
    intro k i hi hk
    obtain ⟨k, rfl⟩ : ∃ m, k = m + 1 := ⟨k - 1, by omega⟩
    simp only [spec_l06Ints.l0]
    rw [if_pos (by omega), if_pos (by omega), bytes_s _ _ (by rw [littleAll_length]; omega), Option.bind_some, ← littleAll_succ, wrap_ok ((i : Int) + 1) (by omega) (by omega)]
    exact ih k (i + 1) (by omega) (by omega)
theorem text_loop (l : List Int) (hl : l.length ≤ 4096) (d : Nat) : ∀ (k i : Nat), i + d = l.length → d + l.length + 1 < k →
    ((l.drop i).all inWord = true → spec_IntsText.l0 k l (i : Int) = some (strOfNums (littleAll l l.length), 0)) ∧ ((l.drop i).all inWord = false → spec_IntsText.l0 k l (i : Int) = some (⟨#[]⟩, 4)) := by
  induction d with
  | zero =>
    intro k i hi hk
    obtain ⟨k, rfl⟩ : ∃ m, k = m + 1 := ⟨k - 1, by omega⟩
    simp only [spec_IntsText.l0]
    have e : spec_l06Ints.f k l = some (strOfNums (littleAll l l.length)) := ints_loop l hl l.length k 0 (by omega) (by omega)
    rw [if_neg (by omega), List.drop_eq_nil_of_le (by omega), e]
    exact ⟨fun _ => rfl, fun h => by simp at h⟩
  | succ d ih =>
    intro k i hi hk
    obtain ⟨k, rfl⟩ : ∃ m, k = m + 1 := ⟨k - 1, by omega⟩
    simp only [spec_IntsText.l0]
    have e0 : rd l (i : Int) = l[i]'(by omega) := by simp [rd, List.getD_eq_getElem?_getD, List.getElem?_eq_getElem (show i < l.length by omega)]
    rw [if_pos (by omega), if_pos (by omega), e0, int_s, Option.bind_some, List.drop_eq_getElem_cons (by omega), List.all_cons, wrap_ok ((i : Int) + 1) (by omega) (by omega)]
    by_cases c : inWord (l[i]'(by omega)) = true
    · rw [c, Bool.true_and, if_pos rfl]
      exact ih k (i + 1) (by omega) (by omega)
    · rw [Bool.eq_false_iff.mpr c, Bool.false_and, if_neg (by decide)]
      exact ⟨fun h => by simp at h, fun _ => rfl⟩
theorem text_same (l : List Int) : ∃ r, spec_IntsText.f (2 * l.length + 3) l = some r ∧ impl_IntsText.f l = some r := by
  unfold spec_IntsText.f impl_IntsText.f areAll_isWord.f
  by_cases c1 : (l.length : Int) > 4096
  · rw [if_pos c1, if_pos c1]; exact ⟨_, rfl, rfl⟩
  · rw [if_neg c1, if_neg c1, Option.bind_some]
    have h := text_loop l (by omega) l.length (2 * l.length + 3) 0 (by omega) (by omega)
    rw [List.drop_zero] at h
    by_cases c2 : l.all inWord = true
    · rw [if_pos c2]
      unfold impl_intsText.f
      rw [if_pos (by omega)]
      exact ⟨_, h.1 c2, rfl⟩
    · rw [if_neg c2]
      exact ⟨_, h.2 (by simpa using c2), rfl⟩
theorem FnExactIntsText : laws_FnExactIntsText.Pure := by
  intro l _ _ _
  obtain ⟨K, hK⟩ : ∃ K, K = 2 * l.length + 10 := ⟨_, rfl⟩
  refine ⟨K + 1, ?_⟩
  unfold laws_FnExactIntsText.f
  by_cases c1 : (l.length : Int) > 1048576
  · rw [if_pos c1]
  rw [if_neg c1, toInt_some l (by omega) (K + 1) (by omega)]
  obtain ⟨r, r1, r2⟩ := text_same l
  have s1 := at_rounds (g := fun k => spec_IntsText.f k l) (fun k => spec_IntsText.mono l k) (show 2 * l.length + 3 ≤ K + 1 by omega) r1
  simp only [Option.bind_some]
  rw [s1]
  simp only [Option.bind_some]
  rw [r2]
  simp only [Option.bind_some, bne_self_eq_false, if_true, laws_FnExactIntsText.j0, Bool.false_eq_true, if_false]
  rw [toInt_some l (by omega) K (by omega)]
  simp only [Option.bind_some]
  rw [eqInt_refl K l (by omega) (by omega)]
  simp
end Go.Proofs.Ytihpnededldedaa.Pure
