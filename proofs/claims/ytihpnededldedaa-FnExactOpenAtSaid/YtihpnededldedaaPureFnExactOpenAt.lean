/- FnExactOpenAt answers true: OpenAt gives what the reference gives. Conditions: none. -/
import Derived.Test.YtihpnededldedaaPFnExactOpenAtx2
import Derived.Test.YtihpnededldedaaPlain
namespace Go.Proofs.Ytihpnededldedaa.Pure
open Go.RowKit Go.Proofs.Ytihpnededldedaa.PFnExactOpenAt Go.Proofs.YtihpnededldedaaW.PrintWords Go.Proofs.YtihpnededldedaaW.PrintLast Go.Proofs.Ytihpnededldedaa.Leaf
theorem impl_boxTag_eq (a0 a1 a2 a3 : ByteArray) (h0 : a0.size = 32) (h1 : a1.size = 12) (h2 : a2.size ≤ 65536) (h3 : a3.size ≤ 65536) : impl_boxTag.f a0 a1 a2 a3 = some (macOf a0 a1 a2 a3) := by
  obtain ⟨m1, m2, m3, m4⟩ := mac_sizes a0 a1 a2 a3 h2 h3
  have hc := chaBlk_size a0 a1 0
  have es : impl_stream.f a0 a1 0 = some (chaBlk a0 a1 0) := if_pos ⟨h0, h1, by decide, by decide⟩
  have e2 : impl_padded.f a2 = some (padOf a2) := if_pos (by omega)
  have e3 : impl_padded.f a3 = some (padOf a3) := if_pos (by omega)
  have l2 : impl_little.f (a2.size : Int) 8 = some (eightB a2.size) := if_pos ⟨by decide, by decide⟩
  have l3 : impl_little.f (a3.size : Int) 8 = some (eightB a3.size) := if_pos ⟨by decide, by decide⟩
  have hM : macOf a0 a1 a2 a3 = tagOf ((chaBlk a0 a1 0).extract 0 32) (((padOf a2 ++ padOf a3) ++ eightB a2.size) ++ eightB a3.size) := rfl
  unfold impl_boxTag.f
  rw [es, Option.bind_some, if_pos (by decide), if_pos (by omega), e2, Option.bind_some, e3, Option.bind_some, if_pos (by omega), l2, Option.bind_some, if_pos (by omega), l3, Option.bind_some, if_pos (by omega), hM]
  generalize chaBlk a0 a1 0 = blk at m1 hc ⊢
  generalize eightB a2.size = x2 at m3 m4 ⊢
  generalize eightB a3.size = x3 at m4 ⊢
  generalize (padOf a2 ++ padOf a3) ++ x2 = y at m4 ⊢
  have ht : (y ++ x3).size ≤ 1000000 := by rw [ByteArray.size_append]; omega
  generalize y ++ x3 = z at ht ⊢
  generalize blk.extract 0 32 = kk at m1 ⊢
  have et : impl_tag.f kk z = some (tagOf kk z) := if_pos ⟨m1, ht⟩
  rw [et]
  generalize tagOf kk z = r
  rfl

theorem tag_loop (a b : ByteArray) (ha : a.size ≤ 65536) (d : Nat) : ∀ (k i : Nat) (n : Int), i ≤ a.size → i ≤ b.size → a.size - i = d → d < k → 0 ≤ n → n ≤ 255 → (n = 0 ↔ ∀ j : Nat, j < i → bt a (j : Int) = bt b (j : Int)) →
    spec_TagEqual.l0 k a b n (i : Int) = some (a.toList == b.toList) := by
  have done : ∀ (i : Nat) (n : Int), i ≤ a.size → i ≤ b.size → (i = a.size ∨ i = b.size) → (n = 0 ↔ ∀ j : Nat, j < i → bt a (j : Int) = bt b (j : Int)) →
      (if n = 0 then (some ((a.size : Int) == (b.size : Int))) else (some false)) = some (a.toList == b.toList) := by
    intro i n hia hib hor hn
    by_cases hz : n = 0
    · rw [if_pos hz]
      congr 1
      rw [Bool.eq_iff_iff, beq_iff_eq, beq_iff_eq, toList_iff]
      constructor
      · intro h
        exact ⟨by omega, fun j hj => hn.1 hz j (by omega)⟩
      · intro h; omega
    · rw [if_neg hz]
      congr 1
      symm
      rw [beq_eq_false_iff_ne]
      intro h
      rw [toList_iff] at h
      exact hz (hn.2 fun j hj => h.2 j (by omega))
  induction d with
  | zero =>
    intro k i n hia hib hd hk h0 h1 hn
    obtain ⟨k, rfl⟩ : ∃ m, k = m + 1 := ⟨k - 1, by omega⟩
    simp only [spec_TagEqual.l0]
    rw [if_neg (by omega)]
    exact done i n hia hib (by omega) hn
  | succ d ih =>
    intro k i n hia hib hd hk h0 h1 hn
    obtain ⟨k, rfl⟩ : ∃ m, k = m + 1 := ⟨k - 1, by omega⟩
    simp only [spec_TagEqual.l0]
    rw [if_pos (by omega)]
    by_cases hlt : (i : Int) < (b.size : Int)
    · rw [if_pos hlt, if_pos (by omega)]
      obtain ⟨x0, x1⟩ := bt_range a (i : Int)
      obtain ⟨y0, y1⟩ := bt_range b (i : Int)
      obtain ⟨z0, z1, z2⟩ := xor_u8_zero _ _ x0 x1 y0 y1
      obtain ⟨o0, o1, o2⟩ := or_i64_zero n _ h0 h1 z0 z1
      rw [wrap_ok (Go.bits .xor .u8 (bt a (i : Int)) (bt b (i : Int))) (by omega) (by omega), wrap_ok ((i : Int) + 1) (by omega) (by omega)]
      refine ih k (i + 1) _ (by omega) (by omega) (by omega) (by omega) o0 o1 ?_
      rw [o2, z2, hn]
      constructor
      · rintro ⟨h, e⟩ j hj
        by_cases hji : j < i
        · exact h j hji
        · have : j = i := by omega
          subst this; exact e
      · intro h
        exact ⟨fun j hj => h j (by omega), h i (by omega)⟩
    · rw [if_neg hlt]
      exact done i n hia hib (by omega) hn

theorem TagEqual_eq (a b : ByteArray) (k : Nat) (ha : a.size ≤ 65536) (hb : b.size ≤ 65536) (hk : a.size + 2 ≤ k) : spec_TagEqual.f k a b = some (a.toList == b.toList) := by
  obtain ⟨k, rfl⟩ : ∃ m, k = m + 1 := ⟨k - 1, by omega⟩
  unfold spec_TagEqual.f
  rw [if_neg (by omega), decide_eq_false (by omega)]
  simp only [spec_TagEqual.j0]
  rw [if_neg (by simp)]
  exact tag_loop a b (by omega) a.size k 0 0 (by omega) (by omega) (by omega) (by omega) (by omega) (by omega) (by simp)
/-- What opening a box answers. -/
def openOf (a0 a1 a2 a3 : ByteArray) : ByteArray × Bool :=
  if a3.size < 16 then (⟨#[]⟩, false) else
    if (macOf a0 a1 a2 (a3.extract 0 (a3.size - 16))).toList = (a3.extract (a3.size - 16) a3.size).toList then (chaXorOf a0 a1 1 (a3.extract 0 (a3.size - 16)), true) else (⟨#[]⟩, false)
theorem macOf_size (a0 a1 a2 a3 : ByteArray) : (macOf a0 a1 a2 a3).size = 16 := tagOf_size _ _
theorem open_eq (a0 a1 a2 a3 : ByteArray) (h0 : a0.size = 32) (h1 : a1.size = 12) (h2 : a2.size ≤ 65536) (h3 : a3.size ≤ 65536) : impl_open.f a0 a1 a2 a3 = some (openOf a0 a1 a2 a3) := by
  unfold impl_open.f openOf
  by_cases hs : a3.size < 16
  · rw [if_pos (by omega), if_pos hs]
  rw [if_neg (by omega), if_neg hs]
  have hw : wrap64 ((a3.size : Int) - 16) = ((a3.size - 16 : Nat) : Int) := by rw [wrap_ok _ (by omega) (by omega)]; omega
  have hx : (a3.extract 0 (a3.size - 16)).size = a3.size - 16 := by rw [ByteArray.size_extract]; omega
  rw [hw, if_pos (by omega), if_pos (by omega), Int.toNat_natCast]
  have e2 := impl_boxTag_eq a0 a1 a2 (a3.extract 0 (a3.size - 16)) h0 h1 h2 (by omega)
  have e1 : impl_chaXor.f a0 a1 1 (a3.extract 0 (a3.size - 16)) = some (chaXorOf a0 a1 1 (a3.extract 0 (a3.size - 16))) := if_pos ⟨h0, h1, by decide, by decide, by omega⟩
  rw [e2, Option.bind_some, e1, Option.bind_some]
  split <;> rfl
theorem l04Open_eq (a0 a1 a2 a3 : ByteArray) (k : Nat) (hk : 18 ≤ k) (h0 : a0.size = 32) (h1 : a1.size = 12) (h2 : a2.size ≤ 65536) (h3 : a3.size ≤ 65536) : spec_l04Open.f k a0 a1 a2 a3 = some (openOf a0 a1 a2 a3) := by
  unfold spec_l04Open.f openOf
  by_cases hs : a3.size < 16
  · rw [if_pos (by omega), if_pos hs]
  rw [if_neg (by omega), if_neg hs]
  have hw : wrap64 ((a3.size : Int) - 16) = ((a3.size - 16 : Nat) : Int) := by rw [wrap_ok _ (by omega) (by omega)]; omega
  have hx : (a3.extract 0 (a3.size - 16)).size = a3.size - 16 := by rw [ByteArray.size_extract]; omega
  have hy : (a3.extract (a3.size - 16) a3.size).size = 16 := by rw [ByteArray.size_extract]; omega
  rw [hw, if_pos (by omega), if_pos (by omega), Int.toNat_natCast]
  have e2 : spec_l04Tag.f a0 a1 a2 (a3.extract 0 (a3.size - 16)) = some (macOf a0 a1 a2 (a3.extract 0 (a3.size - 16))) := if_pos ⟨h0, h1, h2, by omega⟩
  have e1 : spec_l02Xor.f a0 a1 1 (a3.extract 0 (a3.size - 16)) = some (chaXorOf a0 a1 1 (a3.extract 0 (a3.size - 16))) := if_pos ⟨h0, h1, by decide, by decide, by omega⟩
  have hm := macOf_size a0 a1 a2 (a3.extract 0 (a3.size - 16))
  rw [e2, Option.bind_some, hx, if_pos (by omega), if_pos (by omega), Int.toNat_natCast, TagEqual_eq _ _ k (by omega) (by omega) (by omega), Option.bind_some, e1, Option.bind_some]
  simp only [beq_iff_eq]
  split <;> rfl

def inAt (a1 a2 a3 : Int) : Prop := (1 ≤ a1 ∧ a1 ≤ 3) ∧ (0 ≤ a2 ∧ a2 ≤ 39) ∧ (0 ≤ a3 ∧ a3 ≤ 1099511627776)
instance (a1 a2 a3 : Int) : Decidable (inAt a1 a2 a3) := by unfold inAt; infer_instance
theorem withinA_eq (c l h : Int) : impl_within.f c l h = some (decide (l ≤ c ∧ c ≤ h)) := by
  unfold impl_within.f
  by_cases g : l ≤ c
  · rw [if_pos g]; congr 1; rw [decide_eq_decide]; exact ⟨fun x => ⟨g, x⟩, fun x => x.2⟩
  · rw [if_neg g]; congr 1; rw [eq_comm, decide_eq_false_iff_not]; exact fun x => g x.1
theorem l01InA_eq (c l h : Int) : spec_l01In.f c l h = some (decide (l ≤ c ∧ c ≤ h)) := by
  unfold spec_l01In.f
  by_cases g : l ≤ c
  · rw [if_pos g]; congr 1; rw [decide_eq_decide]; exact ⟨fun x => ⟨g, x⟩, fun x => x.2⟩
  · rw [if_neg g]; congr 1; rw [eq_comm, decide_eq_false_iff_not]; exact fun x => g x.1
theorem l06In_eq (a1 a2 a3 : Int) : spec_l06In.f a1 a2 a3 = some (decide (inAt a1 a2 a3)) := by
  unfold spec_l06In.f spec_l05In.f inAt
  simp only [l01InA_eq, Option.bind_some, decide_eq_true_eq]
  by_cases g1 : 1 ≤ a1 ∧ a1 ≤ 3
  · by_cases g2 : 0 ≤ a2 ∧ a2 ≤ 39
    · simp [g1, g2]
    · simp [g1, g2]
  · simp [g1]
theorem nonceCode_eq (a1 a2 a3 : Int) : impl_nonceCode.f a1 a2 a3 = some (if inAt a1 a2 a3 then 0 else 4) := by
  unfold impl_nonceCode.f impl_isSector.f inAt
  simp only [withinA_eq, Option.bind_some, decide_eq_true_eq]
  by_cases g1 : 1 ≤ a1 ∧ a1 ≤ 3
  · by_cases g2 : 0 ≤ a2 ∧ a2 ≤ 39
    · by_cases g3 : 0 ≤ a3 ∧ a3 ≤ 1099511627776
      · simp [g1, g2, g3]
      · simp [g1, g2, g3]
    · simp [g1, g2]
  · simp [g1]
def atCode (a0 : ByteArray) (a1 a2 a3 : Int) : Int := if (a0.size : Int) = 32 then (if inAt a1 a2 a3 then 0 else 4) else 8
theorem l06Ask_eq (k : Nat) (a0 : ByteArray) (a1 a2 a3 : Int) (a4 : ByteArray) (s0 : a0.size ≤ 65536) (s4 : a4.size ≤ 65536) : spec_l06Ask.f (k + 1) a0 a1 a2 a3 a4 = some (atCode a0 a1 a2 a3) := by
  unfold spec_l06Ask.f atCode
  rw [if_neg (by omega), decide_eq_false (by omega)]
  simp only [spec_l06Ask.j0, l06In_eq, Option.bind_some, decide_eq_true_eq]
  rw [if_neg (by simp)]
  split <;> first | rfl | (split <;> rfl)
theorem blockCode_eq (a0 : ByteArray) (a1 a2 a3 : Int) (a4 : ByteArray) (s0 : a0.size ≤ 65536) (s4 : a4.size ≤ 65536) : impl_blockCode.f a0 a1 a2 a3 a4 = some (atCode a0 a1 a2 a3) := by
  unfold impl_blockCode.f impl_areShort.f atCode
  simp only [List.all_cons, List.all_nil, Bool.and_true, Option.bind_some, Bool.and_eq_true, decide_eq_true_eq, nonceCode_eq]
  rw [if_pos (by omega)]
  split <;> rfl
theorem atCode_zero {a0 : ByteArray} {a1 a2 a3 : Int} (h : atCode a0 a1 a2 a3 = 0) : a0.size = 32 := by
  unfold atCode at h
  by_cases h0 : (a0.size : Int) = 32
  · omega
  · rw [if_neg h0] at h; cases h
def nonceB (a1 a2 a3 : Int) : ByteArray := strOfNums ([a1 % 256, a2 % 256, a2 / 256 % 256, 0] ++ littleNums a3 8)
theorem nonceB_size (a1 a2 a3 : Int) : (nonceB a1 a2 a3).size = 12 := by unfold nonceB; rw [strOfNums_size, List.length_append, littleNums_length]; rfl
theorem nonceOf_eq (a1 a2 a3 : Int) : impl_nonceOf.f a1 a2 a3 = some (nonceB a1 a2 a3) := rfl
theorem l06Nonce_eq (a1 a2 a3 : Int) : spec_l06Nonce.f a1 a2 a3 = some (nonceB a1 a2 a3) := rfl
def adB : ByteArray := ⟨#[98, 108, 111, 99, 107]⟩
theorem adB_size : adB.size = 5 := rfl

theorem FnExactOpenAt : laws_FnExactOpenAt.Pure := by
  intro a0 a1 a2 a3 a4 _ _ _ _ _
  refine ⟨30, ?_⟩
  unfold laws_FnExactOpenAt.f
  by_cases c0 : (a0.size : Int) > 1048576
  · rw [if_pos c0]
  rw [if_neg c0]
  by_cases c1 : (a4.size : Int) > 1048576
  · rw [if_pos c1]
  rw [if_neg c1]
  obtain ⟨r, h1, h2⟩ : ∃ r, spec_OpenAt.f 30 a0 a1 a2 a3 a4 = some r ∧ impl_OpenAt.f a0 a1 a2 a3 a4 = some r := by
    have hlong : ∀ b : Bool, b = true → ¬ ((a0.size : Int) ≤ 65536 ∧ (a4.size : Int) ≤ 65536) → ∃ r, spec_OpenAt.j0 30 a0 a1 a2 a3 a4 b = some r ∧ impl_OpenAt.f a0 a1 a2 a3 a4 = some r := by
      rintro b rfl h
      unfold impl_OpenAt.f impl_blockCode.f impl_areShort.f
      simp only [List.all_cons, List.all_nil, Bool.and_true, Option.bind_some, Bool.and_eq_true, decide_eq_true_eq]
      rw [if_neg h]
      simp only [spec_OpenAt.j0, Option.bind_some]
      exact ⟨_, rfl, rfl⟩
    unfold spec_OpenAt.f
    by_cases d0 : (a0.size : Int) > 65536
    · rw [if_pos d0]; exact hlong _ rfl (by omega)
    rw [if_neg d0]
    by_cases d1 : (a4.size : Int) > 65536
    · exact hlong _ (decide_eq_true d1) (by omega)
    rw [decide_eq_false d1]
    unfold impl_OpenAt.f
    simp only [spec_OpenAt.j0]
    rw [if_neg (by simp), blockCode_eq a0 a1 a2 a3 a4 (by omega) (by omega), l06Ask_eq 28 a0 a1 a2 a3 a4 (by omega) (by omega)]
    simp only [Option.bind_some]
    by_cases e : atCode a0 a1 a2 a3 = 0
    · rw [if_pos e, if_pos e]
      have e1 := atCode_zero e
      have e2 := nonceB_size a1 a2 a3
      have e3 : adB.size ≤ 65536 := by rw [adB_size]; decide
      have g1 : spec_l06Open.f 29 a0 a1 a2 a3 a4 = some (openOf a0 (nonceB a1 a2 a3) adB a4) := by
        unfold spec_l06Open.f
        rw [l06Nonce_eq, Option.bind_some]
        show (spec_l04Open.f 29 a0 (nonceB a1 a2 a3) adB a4).bind _ = _
        rw [l04Open_eq a0 (nonceB a1 a2 a3) adB a4 29 (by omega) e1 e2 e3 (by omega)]; rfl
      have g2 : impl_opened.f a0 a1 a2 a3 a4 = some (openOf a0 (nonceB a1 a2 a3) adB a4) := by
        unfold impl_opened.f
        rw [nonceOf_eq, Option.bind_some]
        show (impl_open.f a0 (nonceB a1 a2 a3) adB a4).bind _ = _
        rw [open_eq a0 (nonceB a1 a2 a3) adB a4 e1 e2 e3 (by omega)]; rfl
      rw [g1, g2]
      generalize openOf a0 (nonceB a1 a2 a3) adB a4 = m
      obtain ⟨m1, m2⟩ := m
      cases m2
      · exact ⟨_, rfl, rfl⟩
      · exact ⟨_, rfl, rfl⟩
    · rw [if_neg e, if_neg e]; exact ⟨_, rfl, rfl⟩
  rw [h1, h2]; simp
end Go.Proofs.Ytihpnededldedaa.Pure
