/- FnExactCheckProof answers true. Conditions: sizes. -/
import Derived.Test.YtajbljegeiebjaaPFnExactCheckProofx2
import Derived.Test.YtajbljegeiebjaaPlain
namespace Go.Proofs.Ytajbljegeiebjaa.Leaf
open Go.RowKit Go.Shelf Go.Proofs.YtajbljegeiebjaaW.PrintWords Go.Proofs.YtajbljegeiebjaaW.PrintLast Go.Proofs.YtajbljegeiebjaaW.PrintMore Go.Proofs.Ytajbljegeiebjaa.PFnExactCheckProof

/-- The size of a list of texts is told. -/
theorem sz_loop (x0 : List ByteArray) (hs : ∀ s ∈ x0, s.size ≤ 9223372036854775807) (hl : x0.length ≤ 140737488351232) (d : Nat) : ∀ (k i : Nat) (x1 : Int), i + d = x0.length → d < k → 0 ≤ x1 → x1 ≤ 1048576 → ∃ r, laws_szStringS.l0 k x0 x1 (i : Int) = some r := by
  induction d with
  | zero =>
    intro k i x1 hi hk _ _
    obtain ⟨k, rfl⟩ : ∃ m, k = m + 1 := ⟨k - 1, by omega⟩
    simp only [laws_szStringS.l0]
    rw [if_neg (by omega)]
    exact ⟨_, rfl⟩
  | succ d ih =>
    intro k i x1 hi hk h0 h1
    obtain ⟨k, rfl⟩ : ∃ m, k = m + 1 := ⟨k - 1, by omega⟩
    simp only [laws_szStringS.l0]
    rw [if_pos (by omega), if_pos (by omega)]
    have hb := hs (rdOf ByteArray.empty x0 (i : Int)) (by rw [rdOf_get ByteArray.empty x0 (i : Int) (by omega) (by omega)]; exact List.getElem_mem _)
    generalize (rdOf ByteArray.empty x0 (i : Int)).size = z at hb
    rw [wrap_ok (x1 - (z : Int)) (by omega) (by omega), wrap_ok ((i : Int) + 1) (by omega) (by omega)]
    by_cases c : x1 - (z : Int) < 0
    · rw [if_pos c]; exact ⟨_, rfl⟩
    · rw [if_neg c]
      exact ih k (i + 1) (x1 - z) (by omega) (by omega) (by omega) (by omega)
theorem sz_some (l : List ByteArray) (hs : ∀ s ∈ l, s.size ≤ 9223372036854775807) (hl : l.length ≤ 140737488351232) (k : Nat) (hk : l.length < k) : (∃ r, laws_szStringS.f k l 1048576 = some r) ∧ (1048576 < l.length → laws_szStringS.f k l 1048576 = some (-1)) := by
  unfold laws_szStringS.f
  rw [wrap_ok (1048576 - (l.length : Int)) (by omega) (by omega)]
  by_cases c : 1048576 - (l.length : Int) < 0
  · rw [if_pos c]; exact ⟨⟨_, rfl⟩, fun _ => rfl⟩
  · rw [if_neg c]
    exact ⟨sz_loop l hs hl l.length k 0 _ (by omega) hk (by omega) (by omega), fun h => by omega⟩
/-- A copy of a list of texts. -/
theorem to_loop (x0 : List ByteArray) (hl : x0.length ≤ 1048576) (d : Nat) : ∀ (k i : Nat), i + d = x0.length → d < k → laws_toStringS.l0 k x0 (x0.take i ++ List.replicate d ⟨#[]⟩) (i : Int) = some x0 := by
  induction d with
  | zero =>
    intro k i hi hk
    obtain ⟨k, rfl⟩ : ∃ m, k = m + 1 := ⟨k - 1, by omega⟩
    simp only [laws_toStringS.l0]
    rw [if_neg (by omega), List.take_of_length_le (by omega)]
    simp
  | succ d ih =>
    intro k i hi hk
    obtain ⟨k, rfl⟩ : ∃ m, k = m + 1 := ⟨k - 1, by omega⟩
    simp only [laws_toStringS.l0]
    rw [if_pos (by omega), if_pos (by omega), if_pos (by simp; omega), wrap_ok ((i : Int) + 1) (by omega) (by omega)]
    have e : (x0.take i ++ List.replicate (d + 1) (⟨#[]⟩ : ByteArray)).set ((i : Int)).toNat (rdOf ByteArray.empty x0 (i : Int)) = x0.take (i + 1) ++ List.replicate d ⟨#[]⟩ := by
      have e0 : rdOf ByteArray.empty x0 (i : Int) = x0[i]'(by omega) := by rw [rdOf_get ByteArray.empty x0 (i : Int) (by omega) (by omega)]; simp
      rw [e0, Int.toNat_natCast]
      rw [List.set_append_right _ _ (by rw [List.length_take]; omega), show i - (List.take i x0).length = 0 by rw [List.length_take]; omega, List.replicate_succ, List.set_cons_zero, List.take_succ_eq_append_getElem (by omega), List.append_assoc]
      rfl
    rw [e]
    exact ih k (i + 1) (by omega) (by omega)
theorem to_some (l : List ByteArray) (hl : l.length ≤ 1048576) (k : Nat) (hk : l.length < k) : laws_toStringS.f k l = some l := by
  unfold laws_toStringS.f
  rw [if_pos (by omega), if_pos (by omega)]
  have := to_loop l hl l.length k 0 (by omega) hk
  simpa using this
/-- A list of texts is alike itself. -/
theorem eq_loop (x0 : List ByteArray) (hl : x0.length ≤ 1048576) (d : Nat) : ∀ (k i : Nat), i + d = x0.length → d < k → laws_eqStringS.l0 k x0 x0 (i : Int) = some true := by
  induction d with
  | zero =>
    intro k i hi hk
    obtain ⟨k, rfl⟩ : ∃ m, k = m + 1 := ⟨k - 1, by omega⟩
    simp only [laws_eqStringS.l0]
    rw [if_neg (by omega)]
  | succ d ih =>
    intro k i hi hk
    obtain ⟨k, rfl⟩ : ∃ m, k = m + 1 := ⟨k - 1, by omega⟩
    simp only [laws_eqStringS.l0]
    rw [if_pos (by omega), if_pos (by omega), if_pos (by omega), if_true, wrap_ok ((i : Int) + 1) (by omega) (by omega)]
    exact ih k (i + 1) (by omega) (by omega)
theorem eq_some (l : List ByteArray) (hl : l.length ≤ 1048576) (k : Nat) (hk : l.length < k) : laws_eqStringS.f k l l = some true := by
  unfold laws_eqStringS.f
  rw [if_pos rfl]
  exact eq_loop l hl l.length k 0 (by omega) hk
theorem join_same (a b : ByteArray) (ha : a.size = 32) (hb : b.size = 32) : ∃ r, spec_l07Join.f a b = some r ∧ impl_join.f a b = some r ∧ r.size = 32 := by
  unfold spec_l07Join.f impl_join.f spec_l01Of.f impl_digest.f
  have hs : ((⟨#[1]⟩ : ByteArray) ++ a).size = 1 + a.size := by rw [ByteArray.size_append]; rfl
  rw [if_pos (by omega), if_pos (by omega), if_pos (by rw [ByteArray.size_append]; omega)]
  exact ⟨_, rfl, rfl, shaOf_size _⟩
theorem leaf_same (a0 : Int) (a1 : ByteArray) (h : a1.size ≤ 65536) : ∃ r, spec_l07Leaf.f a0 a1 = some r ∧ impl_leafDigest.f a0 a1 = some r ∧ r.size = 32 := by
  unfold spec_l07Leaf.f impl_leafDigest.f spec_l01Of.f impl_digest.f
  have hs : (strOfNums [0, a0 % 256]).size = 2 := by rw [strOfNums_size]; rfl
  simp only [Option.bind_some]
  rw [if_pos (by omega), if_pos (by rw [ByteArray.size_append]; omega)]
  exact ⟨_, rfl, rfl, shaOf_size _⟩
/-- The loops: from place i on. -/
theorem proof_loop (x0 : ByteArray) (l : List ByteArray) (hl : l.length = 4) (d : Nat) : ∀ (k i : Nat) (x : ByteArray) (x1 : Int), i + d = 4 → d < k → x.size = 32 →
    ∃ r, spec_CheckProof.l0 k x0 x1 l x (i : Int) = some r ∧ ((∀ j : Nat, i ≤ j → j < 4 → ((rdOf ByteArray.empty l (j : Int)).size : Int) = 32) → impl_CheckProof.l0 k x0 x1 x l 4 (i : Int) = some r) ∧
      (¬ (∀ j : Nat, i ≤ j → j < 4 → ((rdOf ByteArray.empty l (j : Int)).size : Int) = 32) → r = (false, 8)) := by
  induction d with
  | zero =>
    intro k i x x1 hi hk _
    obtain ⟨k, rfl⟩ : ∃ m, k = m + 1 := ⟨k - 1, by omega⟩
    simp only [spec_CheckProof.l0, impl_CheckProof.l0]
    rw [if_neg (by omega), if_neg (by omega)]
    exact ⟨_, rfl, fun _ => rfl, fun h => absurd (fun j hj hj' => by omega) h⟩
  | succ d ih =>
    intro k i x x1 hi hk hx
    obtain ⟨k, rfl⟩ : ∃ m, k = m + 1 := ⟨k - 1, by omega⟩
    simp only [spec_CheckProof.l0, impl_CheckProof.l0]
    have q1 : ((i : Int) < 4) = True := eq_true (by omega)
    have q2 : (0 ≤ (i : Int)) = True := eq_true (by omega)
    have q3 : ((i : Int) < (l.length : Int)) = True := eq_true (by omega)
    simp only [q1, q2, q3, if_true]
    by_cases c : ((rdOf ByteArray.empty l (i : Int)).size : Int) = 32
    · rw [if_pos c, wrap_ok ((i : Int) + 1) (by omega) (by omega)]
      have hall : (∀ j : Nat, i ≤ j → j < 4 → ((rdOf ByteArray.empty l (j : Int)).size : Int) = 32) ↔ (∀ j : Nat, i + 1 ≤ j → j < 4 → ((rdOf ByteArray.empty l (j : Int)).size : Int) = 32) :=
        ⟨fun h j hj hj' => h j (by omega) hj', fun h j hj hj' => by
          by_cases e : j = i
          · subst e; exact c
          · exact h j (by omega) hj'⟩
      rw [hall]
      obtain ⟨p, p1, p2, p3⟩ := join_same x (rdOf ByteArray.empty l (i : Int)) hx (by omega)
      obtain ⟨q, q1, q2, q3⟩ := join_same (rdOf ByteArray.empty l (i : Int)) x (by omega) hx
      rw [p1, p2, q1, q2]
      simp only [Option.bind_some]
      by_cases e : Int.tmod x1 2 = 0
      · rw [if_pos e, if_pos e]
        exact ih k (i + 1) p (wrap64 (Int.tdiv x1 2)) (by omega) (by omega) p3
      · rw [if_neg e, if_neg e]
        exact ih k (i + 1) q (wrap64 (Int.tdiv x1 2)) (by omega) (by omega) q3
    · rw [if_neg c]
      exact ⟨_, rfl, fun h => absurd (h i (Nat.le_refl _) (by omega)) c, fun _ => rfl⟩
theorem all32 (l : List ByteArray) (hl : l.length = 4) : (l.all fun t => ((t.size : Int) == 32)) = true ↔ ∀ j : Nat, 0 ≤ j → j < 4 → ((rdOf ByteArray.empty l (j : Int)).size : Int) = 32 := by
  rw [List.all_eq_true]
  constructor
  · intro h j _ hj
    rw [rdOf_get ByteArray.empty l (j : Int) (by omega) (by omega)]
    simpa using h _ (List.getElem_mem _)
  · intro h t ht
    obtain ⟨j, hj, rfl⟩ := List.getElem_of_mem ht
    have := h j (Nat.zero_le _) (by omega)
    rw [rdOf_get ByteArray.empty l (j : Int) (by omega) (by omega)] at this
    simpa using this
theorem check_same (a0 : ByteArray) (a1 : Int) (a2 : ByteArray) (l : List ByteArray) : ∃ r, spec_CheckProof.f 8 a0 a1 a2 l = some r ∧ impl_CheckProof.f 8 a0 a1 a2 l = some r := by
  have sj : spec_CheckProof.j0 8 a0 a1 a2 l true = some (false, 2) := by simp only [spec_CheckProof.j0, if_true]
  have ij : impl_CheckProof.j0 8 a0 a1 a2 l true = some (false, 2) := by simp only [impl_CheckProof.j0, if_true]
  unfold spec_CheckProof.f impl_CheckProof.f
  by_cases c1 : (a0.size : Int) > 65536
  · have e : impl_areShort.f [a0, a2] = some false := by simp only [impl_areShort.f, List.all_cons, decide_eq_false (show ¬ (a0.size : Int) ≤ 65536 by omega), Bool.false_and]
    rw [if_pos c1, sj, e]
    simp only [Option.bind_some, Bool.false_eq_true, if_false]
    exact ⟨_, rfl, ij⟩
  rw [if_neg c1]
  by_cases c2 : (a2.size : Int) > 65536
  · have e : impl_areShort.f [a0, a2] = some false := by simp only [impl_areShort.f, List.all_cons, List.all_nil, decide_eq_false (show ¬ (a2.size : Int) ≤ 65536 by omega), Bool.false_and, Bool.and_false]
    rw [if_pos c2, sj, e]
    simp only [Option.bind_some, Bool.false_eq_true, if_false]
    exact ⟨_, rfl, ij⟩
  have e : impl_areShort.f [a0, a2] = some true := by simp only [impl_areShort.f, List.all_cons, List.all_nil, decide_eq_true (show (a0.size : Int) ≤ 65536 by omega), decide_eq_true (show (a2.size : Int) ≤ 65536 by omega), Bool.and_true]
  rw [if_neg c2, e]
  simp only [Option.bind_some, if_true]
  by_cases c3 : (l.length : Int) > 4096
  · rw [decide_eq_true c3]; exact ⟨_, sj, ij⟩
  rw [decide_eq_false c3]
  simp only [spec_CheckProof.j0, impl_CheckProof.j0, impl_isDigest.f, Bool.false_eq_true, if_false, Option.bind_some, beq_iff_eq]
  have sj1 : ∀ k x, spec_CheckProof.j1 (k + 1) a0 a1 a2 x true = some (false, 8) := fun k x => by simp only [spec_CheckProof.j1, if_true]
  have ij1 : ∀ k x, impl_CheckProof.j1 (k + 1) a0 a1 a2 x true = some (false, 8) := fun k x => by simp only [impl_CheckProof.j1, if_true]
  by_cases c4 : (a0.size : Int) = 32
  · rw [if_pos c4, if_pos c4]
    by_cases c5 : l.length = 4
    · have e5 : ((l.length : Int) != 4) = false := by simp [c5]
      rw [e5]
      simp only [spec_CheckProof.j1, impl_CheckProof.j1, impl_isLeafAt.f, impl_within.f, spec_l01In.f, areAll_isDigest.f, Bool.false_eq_true, if_false]
      by_cases c6 : 0 ≤ a1
      · rw [if_pos c6]
        simp only [Option.bind_some]
        by_cases c7 : a1 ≤ 15
        · rw [if_pos (decide_eq_true c7), if_pos (decide_eq_true c7)]
          obtain ⟨x, x1, x2, x3⟩ := leaf_same a1 a2 (by omega)
          rw [x1, x2]
          simp only [Option.bind_some]
          obtain ⟨r, r1, r2, r3⟩ := proof_loop a0 l c5 4 6 0 x a1 (by omega) (by omega) x3
          rw [← all32 l c5] at r2 r3
          rw [show ((0 : Nat) : Int) = 0 from rfl] at r1 r2
          rw [r1, show (l.length : Int) = 4 by omega]
          by_cases c8 : (l.all fun t => ((t.size : Int) == 32)) = true
          · rw [if_pos c8, r2 c8]; exact ⟨_, rfl, rfl⟩
          · rw [if_neg c8, r3 c8]; exact ⟨_, rfl, rfl⟩
        · rw [if_neg (by simpa using c7), if_neg (by simpa using c7)]; exact ⟨_, rfl, rfl⟩
      · rw [if_neg c6]
        simp only [Option.bind_some, Bool.false_eq_true, if_false]
        exact ⟨_, rfl, rfl⟩
    · have e5 : ((l.length : Int) != 4) = true := by simp; omega
      rw [e5]
      exact ⟨_, sj1 _ _, ij1 _ _⟩
  · rw [if_neg c4, if_neg c4]
    exact ⟨_, sj1 _ _, ij1 _ _⟩
theorem FnExactCheckProof_pure (a0 : ByteArray) (a1 : Int) (a2 : ByteArray) (l : List ByteArray) (hs : ∀ s ∈ l, s.size ≤ 9223372036854775807) (hl : l.length ≤ 140737488351232) : ∃ k, laws_FnExactCheckProof.f k a0 a1 a2 l = some true := by
  obtain ⟨K, hK⟩ : ∃ K, K = l.length + 9 := ⟨_, rfl⟩
  refine ⟨K + 1, ?_⟩
  unfold laws_FnExactCheckProof.f
  by_cases c1 : (a0.size : Int) > 1048576
  · rw [if_pos c1]
  by_cases c2 : (a2.size : Int) > 1048576
  · rw [if_neg c1, if_pos c2]
  rw [if_neg c1, if_neg c2]
  obtain ⟨⟨z, hz⟩, hz2⟩ := sz_some l hs hl (K + 1) (by omega)
  by_cases c3 : 1048576 < l.length
  · rw [hz2 c3]
    simp
  rw [hz]
  simp only [Option.bind_some]
  by_cases c4 : z < 0
  · rw [if_pos c4]
  rw [if_neg c4, to_some l (by omega) (K + 1) (by omega)]
  obtain ⟨r, r1, r2⟩ := check_same a0 a1 a2 l
  have s1 := at_rounds (g := fun k => spec_CheckProof.f k a0 a1 a2 l) (fun k => spec_CheckProof.mono a0 a1 a2 l k) (show 8 ≤ K + 1 by omega) r1
  have s2 := at_rounds (g := fun k => impl_CheckProof.f k a0 a1 a2 l) (fun k => impl_CheckProof.mono a0 a1 a2 l k) (show 8 ≤ K + 1 by omega) r2
  simp only [Option.bind_some]
  rw [s1]
  simp only [Option.bind_some]
  rw [s2]
  simp only [Option.bind_some, bne_self_eq_false, Bool.false_eq_true, if_false, laws_FnExactCheckProof.j0]
  rw [to_some l (by omega) K (by omega)]
  simp only [Option.bind_some]
  rw [eq_some l (by omega) K (by omega)]
  simp

end Go.Proofs.Ytajbljegeiebjaa.Leaf
