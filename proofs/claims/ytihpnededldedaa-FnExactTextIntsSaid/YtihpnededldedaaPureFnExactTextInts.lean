/- FnExactTextInts answers true: TextInts gives what the reference gives. Conditions: none. -/
import Derived.Test.YtihpnededldedaaPFnExactTextIntsx2
import Derived.Test.YtihpnededldedaaBits
namespace Go.Proofs.Ytihpnededldedaa.Pure
open Go.RowKit Go.Proofs.Ytihpnededldedaa.PFnExactTextInts Go.Proofs.YtihpnededldedaaW.PrintWords Go.Proofs.YtihpnededldedaaW.PrintLast Go.Proofs.Ytihpnededldedaa.Leaf
theorem markInt_loop (d : Nat) : ∀ (k i : Nat) (xs : List Int) (v : Int), i + d = xs.length → d < k → 0 ≤ v → v + d ≤ 4611686018427387904 → xs.length ≤ 4611686018427387904 →
    ∃ ys, laws_markIntS.l0 k xs v (i : Int) = some (v + d, ys) ∧ ys.length = xs.length ∧ (∀ j, j < i → ys.getD j 0 = xs.getD j 0) ∧ (∀ j, i ≤ j → j < xs.length → ys.getD j 0 = v + ((j - i : Nat) : Int)) := by
  induction d with
  | zero =>
    intro k i xs v hi hk _ _ _
    obtain ⟨k, rfl⟩ : ∃ m, k = m + 1 := ⟨k - 1, by omega⟩
    refine ⟨xs, ?_, rfl, fun _ _ => rfl, fun j h1 h2 => by omega⟩
    simp only [laws_markIntS.l0]
    rw [if_neg (by omega)]; simp
  | succ d ih =>
    intro k i xs v hi hk hv hm hl
    obtain ⟨k, rfl⟩ : ∃ m, k = m + 1 := ⟨k - 1, by omega⟩
    obtain ⟨ys, h1, h2, h3, h4⟩ := ih k (i + 1) (xs.set i v) (v + 1) (by simp; omega) (by omega) (by omega) (by omega) (by simpa using hl)
    refine ⟨ys, ?_, by simpa using h2, ?_, ?_⟩
    · simp only [laws_markIntS.l0]
      rw [if_pos (by omega), if_pos (by omega), show wrap64 (v + 1) = v + 1 from by unfold wrap64; omega, show wrap64 ((i : Int) + 1) = ((i + 1 : Nat) : Int) from by unfold wrap64; omega, Int.toNat_natCast, h1]
      congr 2; omega
    · intro j hj
      rw [h3 j (by omega)]
      simp [List.getD_eq_getElem?_getD, show ¬ i = j by omega]
    · intro j hj1 hj2
      by_cases e : i = j
      · subst e
        rw [h3 i (by omega)]
        simp [List.getD_eq_getElem?_getD, hj2]
      · rw [h4 j (by omega) (by simpa using hj2)]; omega

theorem heldInt_loop (d : Nat) : ∀ (k i : Nat) (ys : List Int) (v : Int), i + d = ys.length → d < k → 0 ≤ v → v + d ≤ 4611686018427387904 → ys.length ≤ 4611686018427387904 →
    (∀ j, i ≤ j → j < ys.length → ys.getD j 0 = v + ((j - i : Nat) : Int)) → laws_heldIntS.l0 k ys v (i : Int) = some (v + d) := by
  induction d with
  | zero =>
    intro k i ys v hi hk _ _ _ _
    obtain ⟨k, rfl⟩ : ∃ m, k = m + 1 := ⟨k - 1, by omega⟩
    simp only [laws_heldIntS.l0]
    rw [if_neg (by omega)]; simp
  | succ d ih =>
    intro k i ys v hi hk hv hm hl hy
    obtain ⟨k, rfl⟩ : ∃ m, k = m + 1 := ⟨k - 1, by omega⟩
    simp only [laws_heldIntS.l0]
    have e := hy i (by omega) (by omega)
    have e2 : rd ys (i : Int) = v := by simp only [rd, Int.toNat_natCast]; rw [e]; simp
    rw [if_pos (by omega), if_pos (by omega), if_pos e2, show wrap64 (v + 1) = v + 1 from by unfold wrap64; omega, show wrap64 ((i : Int) + 1) = ((i + 1 : Nat) : Int) from by unfold wrap64; omega, ih k (i + 1) ys (v + 1) (by omega) (by omega) (by omega) (by omega) hl (fun j h1 h2 => by rw [hy j (by omega) h2]; omega)]
    congr 1; omega

/-- What is marked is held: a list of whole numbers. -/
theorem markInt_held (k : Nat) (xs : List Int) (v : Int) (hv : 0 ≤ v) (hm : v + xs.length ≤ 4611686018427387904) (hk : xs.length < k) : ∃ ys, laws_markIntS.f k xs v = some (v + xs.length, ys) ∧ laws_heldIntS.f k ys v = some (v + xs.length) := by
  obtain ⟨ys, h1, h2, _, h4⟩ := markInt_loop xs.length k 0 xs v (by omega) hk hv hm (by omega)
  refine ⟨ys, h1, ?_⟩
  have := heldInt_loop xs.length k 0 ys v (by omega) hk hv hm (by omega) (fun j a b => h4 j a (by omega))
  exact this

theorem eqInt_loop (d : Nat) : ∀ (k i : Nat) (xs : List Int), i + d = xs.length → d < k → xs.length ≤ 4611686018427387904 → laws_eqIntS.l0 k xs xs (i : Int) = some true := by
  induction d with
  | zero =>
    intro k i xs hi hk _
    obtain ⟨k, rfl⟩ : ∃ m, k = m + 1 := ⟨k - 1, by omega⟩
    simp only [laws_eqIntS.l0]
    rw [if_neg (by omega)]
  | succ d ih =>
    intro k i xs hi hk hl
    obtain ⟨k, rfl⟩ : ∃ m, k = m + 1 := ⟨k - 1, by omega⟩
    simp only [laws_eqIntS.l0]
    rw [if_pos (by omega), if_pos (by omega), if_pos (by omega), show wrap64 ((i : Int) + 1) = ((i + 1 : Nat) : Int) from by unfold wrap64; omega]
    simp only [if_true]
    exact ih k (i + 1) xs (by omega) (by omega) hl

theorem eqInt_refl (k : Nat) (xs : List Int) (hk : xs.length < k) (hl : xs.length ≤ 4611686018427387904) : laws_eqIntS.f k xs xs = some true := by
  unfold laws_eqIntS.f
  rw [if_pos rfl]
  exact eqInt_loop xs.length k 0 xs (by omega) hk hl

theorem word_some (a : ByteArray) (i : Nat) (h : i + 4 ≤ a.size) (ha : a.size ≤ 65536) : ∃ n, spec_l02Word.f a (i : Int) = some n ∧ impl_littleWord.f (a.extract i a.size) = some n ∧ wrap64 n = n := by
  have w1 : wrap64 ((i : Int) + 1) = ((i + 1 : Nat) : Int) := by rw [wrap_ok _ (by omega) (by omega)]; omega
  have w2 : wrap64 ((i : Int) + 2) = ((i + 2 : Nat) : Int) := by rw [wrap_ok _ (by omega) (by omega)]; omega
  have w3 : wrap64 ((i : Int) + 3) = ((i + 3 : Nat) : Int) := by rw [wrap_ok _ (by omega) (by omega)]; omega
  have hs : (a.extract i a.size).size = a.size - i := by rw [ByteArray.size_extract]; omega
  have p0 : (0 : Int) ≤ (i : Int) := by omega
  have p1 : (0 : Int) ≤ ((i + 1 : Nat) : Int) := by omega
  have p2 : (0 : Int) ≤ ((i + 2 : Nat) : Int) := by omega
  have p3 : (0 : Int) ≤ ((i + 3 : Nat) : Int) := by omega
  have q0 : (i : Int) < (a.size : Int) := by omega
  have q1 : ((i + 1 : Nat) : Int) < (a.size : Int) := by omega
  have q2 : ((i + 2 : Nat) : Int) < (a.size : Int) := by omega
  have q3 : ((i + 3 : Nat) : Int) < (a.size : Int) := by omega
  have r0 : (0 : Int) < ((a.extract i a.size).size : Int) := by rw [hs]; omega
  have r1 : (1 : Int) < ((a.extract i a.size).size : Int) := by rw [hs]; omega
  have r2 : (2 : Int) < ((a.extract i a.size).size : Int) := by rw [hs]; omega
  have r3 : (3 : Int) < ((a.extract i a.size).size : Int) := by rw [hs]; omega
  have f0 := bt_extract a i a.size 0 (by omega) (by omega)
  have f1 := bt_extract a i a.size 1 (by omega) (by omega)
  have f2 := bt_extract a i a.size 2 (by omega) (by omega)
  have f3 := bt_extract a i a.size 3 (by omega) (by omega)
  obtain ⟨x0, e0, y0⟩ := bt_nat a ((i + 0 : Nat) : Int)
  obtain ⟨x1, e1, y1⟩ := bt_nat a ((i + 1 : Nat) : Int)
  obtain ⟨x2, e2, y2⟩ := bt_nat a ((i + 2 : Nat) : Int)
  obtain ⟨x3, e3, y3⟩ := bt_nat a ((i + 3 : Nat) : Int)
  replace f0 : bt (a.extract i a.size) 0 = x0 := f0.trans e0
  replace f1 : bt (a.extract i a.size) 1 = x1 := f1.trans e1
  replace f2 : bt (a.extract i a.size) 2 = x2 := f2.trans e2
  replace f3 : bt (a.extract i a.size) 3 = x3 := f3.trans e3
  refine ⟨((le32 x0 x1 x2 x3 : Nat) : Int), ?_, ?_, ?_⟩
  · unfold spec_l02Word.f
    rw [w1, w2, w3, if_pos p0, if_pos q0, if_pos p1, if_pos q1, if_pos p2, if_pos q2, if_pos p3, if_pos q3]
    have e0' : bt a (i : Int) = x0 := e0
    rw [e0', e1, e2, e3, le32_i64 _ _ _ _ y0 y1 y2 y3]
  · unfold impl_littleWord.f
    rw [if_pos r0, if_pos r1, if_pos r2, if_pos r3, f0, f1, f2, f3, le32_u32 _ _ _ _ y0 y1 y2 y3]
  · have g3 := (le32_lt x0 x1 x2 x3 y0 y1 y2 y3).2.2
    clear f0 f1 f2 f3 e0 e1 e2 e3
    exact wrap_ok _ (by omega) (by omega)

/-- From place i on the reference's loop ends; with whole words the program's loop ends in the same. -/
theorem ints_loop (a : ByteArray) (ha : a.size ≤ 65536) (d : Nat) : ∀ (k i : Nat) (xs : List Int), i ≤ a.size → xs.length ≤ i → a.size - i ≤ 4 * d → d + 1 < k →
    ∃ ys, spec_l06ToInts.l0 k a xs (i : Int) = some (ys, ((a.size : Int) % 4) == 0) ∧ (a.size % 4 = 0 → i % 4 = 0 → impl_textInts.l0 k a xs (i : Int) = some ys) ∧ ys.length ≤ 65536 := by
  induction d with
  | zero =>
    intro k i xs hi hx hd hk
    obtain ⟨k, rfl⟩ : ∃ m, k = m + 1 := ⟨k - 1, by omega⟩
    refine ⟨xs, ?_, fun _ _ => ?_, by omega⟩
    · simp only [spec_l06ToInts.l0]
      rw [wrap_ok _ (by omega) (by omega), if_neg (by omega)]
    · simp only [impl_textInts.l0]
      rw [if_neg (by omega)]
  | succ d ih =>
    intro k i xs hi hx hd hk
    obtain ⟨k, rfl⟩ : ∃ m, k = m + 1 := ⟨k - 1, by omega⟩
    have w4 : wrap64 ((i : Int) + 4) = ((i + 4 : Nat) : Int) := by rw [wrap_ok _ (by omega) (by omega)]; omega
    by_cases c : i + 4 ≤ a.size
    · obtain ⟨n, n1, n2, n3⟩ := word_some a i c ha
      obtain ⟨ys, h1, h2, h3⟩ := ih k (i + 4) (xs ++ [n]) (by omega) (by simp; omega) (by omega) (by omega)
      refine ⟨ys, ?_, fun p q => ?_, h3⟩
      · simp only [spec_l06ToInts.l0, w4]
        rw [if_pos (by omega), n1, Option.bind_some, if_pos (by omega), h1]
      · simp only [impl_textInts.l0, w4, Int.toNat_natCast]
        rw [if_pos (by omega), if_pos (by omega), if_pos (by omega), n2, Option.bind_some, if_pos (by omega), n3, h2 p (by omega)]
    · refine ⟨xs, ?_, fun p q => ?_, by omega⟩
      · simp only [spec_l06ToInts.l0, w4]
        rw [if_neg (by omega)]
      · simp only [impl_textInts.l0]
        rw [if_neg (by omega)]

theorem FnExactTextInts : laws_FnExactTextInts.Pure := by
  intro a0 _
  obtain ⟨K, hK⟩ : ∃ K, K = a0.size + 65540 := ⟨_, rfl⟩
  refine ⟨K + 2, ?_⟩
  unfold laws_FnExactTextInts.f
  by_cases c : (a0.size : Int) > 1048576
  · rw [if_pos c]
  rw [if_neg c]
  obtain ⟨r, n, h1, h2, h3⟩ : ∃ r n, spec_TextInts.f K a0 = some (r, n) ∧ impl_TextInts.f K a0 = some (r, n) ∧ r.length ≤ 65536 := by
    unfold spec_TextInts.f impl_TextInts.f impl_areShort.f
    simp only [List.all_cons, List.all_nil, Bool.and_true, Option.bind_some, decide_eq_true_eq]
    by_cases c1 : (a0.size : Int) > 65536
    · rw [if_pos c1, if_neg (by omega)]; exact ⟨_, _, rfl, rfl, by simp⟩
    · rw [if_neg c1, if_pos (by omega)]
      unfold spec_l06ToInts.f impl_textInts.f
      obtain ⟨ys, g1, g2, g3⟩ := ints_loop a0 (by omega) (a0.size / 4 + 1) K 0 [] (by omega) (by simp) (by omega) (by omega)
      rw [show ((0 : Nat) : Int) = 0 from rfl] at g1 g2
      rw [g1]
      simp only [Option.bind_some]
      by_cases c2 : ((a0.size : Int) % 4) = 0
      · rw [if_pos c2, if_pos (by simpa using c2), g2 (by omega) (by omega)]
        exact ⟨_, _, rfl, rfl, g3⟩
      · rw [if_neg c2, if_neg (by simpa using c2)]
        exact ⟨_, _, rfl, rfl, by simp⟩
  have t1 := impl_TextInts.mono a0 K _ h2
  have t2 := impl_TextInts.mono a0 (K + 1) _ t1
  have s2 := spec_TextInts.mono a0 (K + 1) _ (spec_TextInts.mono a0 K _ h1)
  obtain ⟨ys, m0, n0⟩ := markInt_held K r 1 (by omega) (by omega) (by omega)
  have m1 := laws_markIntS.mono r 1 K _ m0
  have n1 := laws_heldIntS.mono ys 1 K _ n0
  rw [s2]
  simp only [Option.bind_some]
  rw [t2]
  simp only [Option.bind_some]
  rw [eqInt_refl _ r (by omega) (by omega)]
  simp only [Option.bind_some, if_true, bne_self_eq_false, laws_FnExactTextInts.j0, laws_FnExactTextInts.j1, Bool.false_eq_true, if_false]
  rw [m1]
  simp only [Option.bind_some]
  rw [n1]
  simp only [Option.bind_some]
  rw [if_neg (show ¬ (1 + (r.length : Int) < 0) by omega)]
  simp only [if_true]
  rw [t1]
  simp only [Option.bind_some]
  rw [eqInt_refl _ r (by omega) (by omega)]
  simp only [Option.bind_some, if_true]
  rw [n0]
  simp only [Option.bind_some, if_true]
  rw [if_neg (show ¬ (1 + (r.length : Int) < 0) by omega)]
  simp
end Go.Proofs.Ytihpnededldedaa.Pure
