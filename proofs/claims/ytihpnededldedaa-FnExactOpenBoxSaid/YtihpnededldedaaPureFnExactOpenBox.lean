/- FnExactOpenBox answers true: OpenBox gives what the reference gives. Conditions: none. -/
import Derived.Test.YtihpnededldedaaPFnExactOpenBoxx2
import Derived.Test.YtihpnededldedaaPlain
namespace Go.Proofs.Ytihpnededldedaa.Pure
open Go.RowKit Go.Proofs.Ytihpnededldedaa.PFnExactOpenBox Go.Proofs.YtihpnededldedaaW.PrintWords Go.Proofs.YtihpnededldedaaW.PrintLast Go.Proofs.Ytihpnededldedaa.Leaf
def chaCode (a0 a1 : ByteArray) (c : Int) : Int := if (a0.size : Int) = 32 ∧ (a1.size : Int) = 12 then (if 0 ≤ c ∧ c ≤ 1000000000 then 0 else 4) else 8
theorem within_eq (c : Int) : impl_within.f c 0 1000000000 = some (decide (0 ≤ c ∧ c ≤ 1000000000)) := by
  unfold impl_within.f
  by_cases h : 0 ≤ c
  · rw [if_pos h]; congr 1; rw [decide_eq_decide]; omega
  · rw [if_neg h]; congr 1; rw [eq_comm, decide_eq_false_iff_not]; omega
theorem l01In_eq (c : Int) : spec_l01In.f c 0 1000000000 = some (decide (0 ≤ c ∧ c ≤ 1000000000)) := by
  unfold spec_l01In.f
  by_cases h : 0 ≤ c
  · rw [if_pos h]; congr 1; rw [decide_eq_decide]; omega
  · rw [if_neg h]; congr 1; rw [eq_comm, decide_eq_false_iff_not]; omega
theorem l02Ask_eq (k : Nat) (a0 a1 : ByteArray) (c : Int) : spec_l02Ask.f (k + 1) a0 a1 c = some (chaCode a0 a1 c) := by
  unfold spec_l02Ask.f chaCode
  simp only [spec_l02Ask.j0, l01In_eq, Option.bind_some, decide_eq_true_eq]
  by_cases h0 : (a0.size : Int) = 32
  · by_cases h1 : (a1.size : Int) = 12
    · by_cases h2 : 0 ≤ c ∧ c ≤ 1000000000
      · simp [h0, h1, h2]
      · simp [h0, h1, h2]
    · simp [h0, h1]
  · simp [h0]
theorem streamCode_eq (k : Nat) (a0 a1 : ByteArray) (c : Int) (s0 : (a0.size : Int) ≤ 65536) (s1 : (a1.size : Int) ≤ 65536) : impl_streamCode.f (k + 1) a0 a1 c = some (chaCode a0 a1 c) := by
  unfold impl_streamCode.f impl_areShort.f chaCode
  simp only [List.all_cons, List.all_nil, Bool.and_true, Option.bind_some, Bool.and_eq_true, decide_eq_true_eq]
  rw [if_pos ⟨s0, s1⟩]
  simp only [impl_streamCode.j0, within_eq, Option.bind_some, decide_eq_true_eq]
  by_cases h0 : (a0.size : Int) = 32
  · by_cases h1 : (a1.size : Int) = 12
    · by_cases h2 : 0 ≤ c ∧ c ≤ 1000000000
      · simp [h0, h1, h2]
      · simp [h0, h1, h2]
    · simp [h0, h1]
  · simp [h0]
theorem chaCode_zero {a0 a1 : ByteArray} {c : Int} (h : chaCode a0 a1 c = 0) : a0.size = 32 ∧ a1.size = 12 ∧ 0 ≤ c ∧ c < 4294967296 := by
  unfold chaCode at h
  by_cases h0 : (a0.size : Int) = 32 ∧ (a1.size : Int) = 12
  · rw [if_pos h0] at h
    by_cases h2 : 0 ≤ c ∧ c ≤ 1000000000
    · omega
    · rw [if_neg h2] at h; cases h
  · rw [if_neg h0] at h; cases h

theorem impl_boxTag_eq (a0 a1 a2 a3 : ByteArray) (h0 : a0.size = 32) (h1 : a1.size = 12) (h2 : a2.size ≤ 65536) (h3 : a3.size ≤ 65536) : impl_boxTag.f a0 a1 a2 a3 = some (macOf a0 a1 a2 a3) := by
  obtain ⟨m1, m2, m3, m4⟩ := mac_sizes a0 a1 a2 a3 h2 h3
  have hc := chaBlk_size a0 a1 0
  have es : impl_stream.f a0 a1 0 = some (chaBlk a0 a1 0) := if_pos ⟨h0, h1, by decide, by decide⟩
  have e2 : impl_padded.f a2 = some (padOf a2) := if_pos (by omega)
  have e3 : impl_padded.f a3 = some (padOf a3) := if_pos (by omega)
  have l2 : impl_little.f (a2.size : Int) 8 = some (eightB a2.size) := if_pos ⟨by decide, by decide⟩
  have l3 : impl_little.f (a3.size : Int) 8 = some (eightB a3.size) := if_pos ⟨by decide, by decide⟩
  have hM : macOf a0 a1 a2 a3 = tagOf ((chaBlk a0 a1 0).extract 0 32) (((padOf a2 ++ padOf a3) ++ eightB a2.size) ++ eightB a3.size) := rfl
  unfold impl_boxTag.f
  rw [es, Option.bind_some, if_pos (by decide), if_pos (by omega), e2, Option.bind_some, e3, Option.bind_some, if_pos (by omega), l2, Option.bind_some, if_pos (by omega), l3, Option.bind_some, if_pos (by omega), hM]
  generalize chaBlk a0 a1 0 = blk at m1 hc ⊢
  generalize eightB a2.size = x2 at m3 m4 ⊢
  generalize eightB a3.size = x3 at m4 ⊢
  generalize (padOf a2 ++ padOf a3) ++ x2 = y at m4 ⊢
  have ht : (y ++ x3).size ≤ 1000000 := by rw [ByteArray.size_append]; omega
  generalize y ++ x3 = z at ht ⊢
  generalize blk.extract 0 32 = kk at m1 ⊢
  have et : impl_tag.f kk z = some (tagOf kk z) := if_pos ⟨m1, ht⟩
  rw [et]
  generalize tagOf kk z = r
  rfl

theorem tag_loop (a b : ByteArray) (ha : a.size ≤ 65536) (d : Nat) : ∀ (k i : Nat) (n : Int), i ≤ a.size → i ≤ b.size → a.size - i = d → d < k → 0 ≤ n → n ≤ 255 → (n = 0 ↔ ∀ j : Nat, j < i → bt a (j : Int) = bt b (j : Int)) →
    spec_TagEqual.l0 k a b n (i : Int) = some (a.toList == b.toList) := by
  have done : ∀ (i : Nat) (n : Int), i ≤ a.size → i ≤ b.size → (i = a.size ∨ i = b.size) → (n = 0 ↔ ∀ j : Nat, j < i → bt a (j : Int) = bt b (j : Int)) →
      (if n = 0 then (some ((a.size : Int) == (b.size : Int))) else (some false)) = some (a.toList == b.toList) := by
    intro i n hia hib hor hn
    by_cases hz : n = 0
    · rw [if_pos hz]
      congr 1
      rw [Bool.eq_iff_iff, beq_iff_eq, beq_iff_eq, toList_iff]
      constructor
      · intro h
        exact ⟨by omega, fun j hj => hn.1 hz j (by omega)⟩
      · intro h; omega
    · rw [if_neg hz]
      congr 1
      symm
      rw [beq_eq_false_iff_ne]
      intro h
      rw [toList_iff] at h
      exact hz (hn.2 fun j hj => h.2 j (by omega))
  induction d with
  | zero =>
    intro k i n hia hib hd hk h0 h1 hn
    obtain ⟨k, rfl⟩ : ∃ m, k = m + 1 := ⟨k - 1, by omega⟩
    simp only [spec_TagEqual.l0]
    rw [if_neg (by omega)]
    exact done i n hia hib (by omega) hn
  | succ d ih =>
    intro k i n hia hib hd hk h0 h1 hn
    obtain ⟨k, rfl⟩ : ∃ m, k = m + 1 := ⟨k - 1, by omega⟩
    simp only [spec_TagEqual.l0]
    rw [if_pos (by omega)]
    by_cases hlt : (i : Int) < (b.size : Int)
    · rw [if_pos hlt, if_pos (by omega)]
      obtain ⟨x0, x1⟩ := bt_range a (i : Int)
      obtain ⟨y0, y1⟩ := bt_range b (i : Int)
      obtain ⟨z0, z1, z2⟩ := xor_u8_zero _ _ x0 x1 y0 y1
      obtain ⟨o0, o1, o2⟩ := or_i64_zero n _ h0 h1 z0 z1
      rw [wrap_ok (Go.bits .xor .u8 (bt a (i : Int)) (bt b (i : Int))) (by omega) (by omega), wrap_ok ((i : Int) + 1) (by omega) (by omega)]
      refine ih k (i + 1) _ (by omega) (by omega) (by omega) (by omega) o0 o1 ?_
      rw [o2, z2, hn]
      constructor
      · rintro ⟨h, e⟩ j hj
        by_cases hji : j < i
        · exact h j hji
        · have : j = i := by omega
          subst this; exact e
      · intro h
        exact ⟨fun j hj => h j (by omega), h i (by omega)⟩
    · rw [if_neg hlt]
      exact done i n hia hib (by omega) hn

theorem TagEqual_eq (a b : ByteArray) (k : Nat) (ha : a.size ≤ 65536) (hb : b.size ≤ 65536) (hk : a.size + 2 ≤ k) : spec_TagEqual.f k a b = some (a.toList == b.toList) := by
  obtain ⟨k, rfl⟩ : ∃ m, k = m + 1 := ⟨k - 1, by omega⟩
  unfold spec_TagEqual.f
  rw [if_neg (by omega), decide_eq_false (by omega)]
  simp only [spec_TagEqual.j0]
  rw [if_neg (by simp)]
  exact tag_loop a b (by omega) a.size k 0 0 (by omega) (by omega) (by omega) (by omega) (by omega) (by omega) (by simp)
/-- What opening a box answers. -/
def openOf (a0 a1 a2 a3 : ByteArray) : ByteArray × Bool :=
  if a3.size < 16 then (⟨#[]⟩, false) else
    if (macOf a0 a1 a2 (a3.extract 0 (a3.size - 16))).toList = (a3.extract (a3.size - 16) a3.size).toList then (chaXorOf a0 a1 1 (a3.extract 0 (a3.size - 16)), true) else (⟨#[]⟩, false)
theorem macOf_size (a0 a1 a2 a3 : ByteArray) : (macOf a0 a1 a2 a3).size = 16 := tagOf_size _ _
theorem open_eq (a0 a1 a2 a3 : ByteArray) (h0 : a0.size = 32) (h1 : a1.size = 12) (h2 : a2.size ≤ 65536) (h3 : a3.size ≤ 65536) : impl_open.f a0 a1 a2 a3 = some (openOf a0 a1 a2 a3) := by
  unfold impl_open.f openOf
  by_cases hs : a3.size < 16
  · rw [if_pos (by omega), if_pos hs]
  rw [if_neg (by omega), if_neg hs]
  have hw : wrap64 ((a3.size : Int) - 16) = ((a3.size - 16 : Nat) : Int) := by rw [wrap_ok _ (by omega) (by omega)]; omega
  have hx : (a3.extract 0 (a3.size - 16)).size = a3.size - 16 := by rw [ByteArray.size_extract]; omega
  rw [hw, if_pos (by omega), if_pos (by omega), Int.toNat_natCast]
  have e2 := impl_boxTag_eq a0 a1 a2 (a3.extract 0 (a3.size - 16)) h0 h1 h2 (by omega)
  have e1 : impl_chaXor.f a0 a1 1 (a3.extract 0 (a3.size - 16)) = some (chaXorOf a0 a1 1 (a3.extract 0 (a3.size - 16))) := if_pos ⟨h0, h1, by decide, by decide, by omega⟩
  rw [e2, Option.bind_some, e1, Option.bind_some]
  split <;> rfl
theorem l04Open_eq (a0 a1 a2 a3 : ByteArray) (k : Nat) (hk : 18 ≤ k) (h0 : a0.size = 32) (h1 : a1.size = 12) (h2 : a2.size ≤ 65536) (h3 : a3.size ≤ 65536) : spec_l04Open.f k a0 a1 a2 a3 = some (openOf a0 a1 a2 a3) := by
  unfold spec_l04Open.f openOf
  by_cases hs : a3.size < 16
  · rw [if_pos (by omega), if_pos hs]
  rw [if_neg (by omega), if_neg hs]
  have hw : wrap64 ((a3.size : Int) - 16) = ((a3.size - 16 : Nat) : Int) := by rw [wrap_ok _ (by omega) (by omega)]; omega
  have hx : (a3.extract 0 (a3.size - 16)).size = a3.size - 16 := by rw [ByteArray.size_extract]; omega
  have hy : (a3.extract (a3.size - 16) a3.size).size = 16 := by rw [ByteArray.size_extract]; omega
  rw [hw, if_pos (by omega), if_pos (by omega), Int.toNat_natCast]
  have e2 : spec_l04Tag.f a0 a1 a2 (a3.extract 0 (a3.size - 16)) = some (macOf a0 a1 a2 (a3.extract 0 (a3.size - 16))) := if_pos ⟨h0, h1, h2, by omega⟩
  have e1 : spec_l02Xor.f a0 a1 1 (a3.extract 0 (a3.size - 16)) = some (chaXorOf a0 a1 1 (a3.extract 0 (a3.size - 16))) := if_pos ⟨h0, h1, by decide, by decide, by omega⟩
  have hm := macOf_size a0 a1 a2 (a3.extract 0 (a3.size - 16))
  rw [e2, Option.bind_some, hx, if_pos (by omega), if_pos (by omega), Int.toNat_natCast, TagEqual_eq _ _ k (by omega) (by omega) (by omega), Option.bind_some, e1, Option.bind_some]
  simp only [beq_iff_eq]
  split <;> rfl

theorem FnExactOpenBox : laws_FnExactOpenBox.Pure := by
  intro a0 a1 a2 a3 _ _ _ _
  refine ⟨30, ?_⟩
  unfold laws_FnExactOpenBox.f
  by_cases c0 : (a0.size : Int) > 1048576
  · rw [if_pos c0]
  rw [if_neg c0]
  by_cases c1 : (a1.size : Int) > 1048576
  · rw [if_pos c1]
  rw [if_neg c1]
  by_cases c2 : (a2.size : Int) > 1048576
  · rw [if_pos c2]
  rw [if_neg c2]
  by_cases c3 : (a3.size : Int) > 1048576
  · rw [if_pos c3]
  rw [if_neg c3]
  obtain ⟨r, h1, h2⟩ : ∃ r, spec_OpenBox.f 30 a0 a1 a2 a3 = some r ∧ impl_OpenBox.f 30 a0 a1 a2 a3 = some r := by
    have hlong : ∀ b : Bool, b = true → ¬ ((a0.size : Int) ≤ 65536 ∧ (a1.size : Int) ≤ 65536 ∧ (a2.size : Int) ≤ 65536 ∧ (a3.size : Int) ≤ 65536) → ∃ r, spec_OpenBox.j0 30 a0 a1 a2 a3 b = some r ∧ impl_OpenBox.f 30 a0 a1 a2 a3 = some r := by
      rintro b rfl h
      unfold impl_OpenBox.f impl_boxCode.f impl_areShort.f
      simp only [List.all_cons, List.all_nil, Bool.and_true, Option.bind_some, Bool.and_eq_true, decide_eq_true_eq]
      rw [if_neg h]
      simp only [spec_OpenBox.j0, Option.bind_some]
      exact ⟨_, rfl, rfl⟩
    unfold spec_OpenBox.f
    by_cases d0 : (a0.size : Int) > 65536
    · rw [if_pos d0]; exact hlong _ rfl (by omega)
    rw [if_neg d0]
    by_cases d1 : (a1.size : Int) > 65536
    · rw [if_pos d1]; exact hlong _ rfl (by omega)
    rw [if_neg d1]
    by_cases d2 : (a2.size : Int) > 65536
    · rw [if_pos d2]; exact hlong _ rfl (by omega)
    rw [if_neg d2]
    by_cases d3 : (a3.size : Int) > 65536
    · exact hlong _ (decide_eq_true d3) (by omega)
    rw [decide_eq_false d3]
    unfold impl_OpenBox.f impl_boxCode.f impl_areShort.f
    simp only [List.all_cons, List.all_nil, Bool.and_true, Option.bind_some, Bool.and_eq_true, decide_eq_true_eq]
    rw [if_pos (by omega), streamCode_eq 29 a0 a1 0 (by omega) (by omega)]
    simp only [spec_OpenBox.j0, spec_l04Ask.f, Option.bind_some]
    rw [if_neg (by simp), if_neg d0, if_neg d1, if_neg d2, if_neg d3, l02Ask_eq]
    simp only [Option.bind_some]
    by_cases e : chaCode a0 a1 0 = 0
    · rw [if_pos e, if_pos e]
      obtain ⟨e1, e2, _, _⟩ := chaCode_zero e
      rw [l04Open_eq a0 a1 a2 a3 29 (by omega) e1 e2 (by omega) (by omega), open_eq a0 a1 a2 a3 e1 e2 (by omega) (by omega)]
      generalize openOf a0 a1 a2 a3 = m
      obtain ⟨m1, m2⟩ := m
      cases m2
      · exact ⟨_, rfl, rfl⟩
      · exact ⟨_, rfl, rfl⟩
    · rw [if_neg e, if_neg e]; exact ⟨_, rfl, rfl⟩
  rw [h1, h2]; simp
end Go.Proofs.Ytihpnededldedaa.Pure
