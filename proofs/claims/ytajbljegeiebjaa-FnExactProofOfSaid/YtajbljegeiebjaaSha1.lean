/- The digest in plain words, and the steps of its loops. Conditions: words of 32 bits. -/
import Derived.Test.YtajbljegeiebjaaArr
import Derived.Test.YtajbljegeiebjaaPShax1
namespace Go.Proofs.Ytajbljegeiebjaa.Leaf

/-! The digest's block in plain words (natural numbers of 32 bits): turns. Conditions: words of 32 bits. -/
section
open Go.RowKit Go.Shelf Go.Proofs.YtajbljegeiebjaaW.PrintWords Go.Proofs.YtajbljegeiebjaaW.PrintLast Go.Proofs.YtajbljegeiebjaaW.PrintMore Go.Proofs.Ytajbljegeiebjaa.PSha

/-- A word turned to the right. -/
def rotr (x n : Nat) : Nat := rotl x (32 - n)
theorem rotr_lt (x n : Nat) : rotr x n < 2 ^ 32 := rotl_lt x _
def sig0 (x : Nat) : Nat := rotr x 7 ^^^ rotr x 18 ^^^ x / 2 ^ 3
def sig1 (x : Nat) : Nat := rotr x 17 ^^^ rotr x 19 ^^^ x / 2 ^ 10

theorem right_some (x n : Nat) (hx : x < 2 ^ 32) (h1 : 1 ≤ n) (hn : n ≤ 31) : spec_l01Right.f (x : Int) (n : Int) = some ((rotr x n : Nat) : Int) := by
  unfold spec_l01Right.f
  have e1 : wrap64 (32 - (n : Int)) = ((32 - n : Nat) : Int) := by unfold wrap64; omega
  have h2 : x * 2 ^ (32 - n) < 2 ^ 63 := by
    have : 2 ^ (32 - n) ≤ 2 ^ 31 := Nat.pow_le_pow_right (by decide) (by omega)
    calc x * 2 ^ (32 - n) ≤ x * 2 ^ 31 := Nat.mul_le_mul_left _ this
      _ < 2 ^ 63 := by omega
  have h3 : x / 2 ^ n < 2 ^ 63 := Nat.lt_of_le_of_lt (Nat.div_le_self _ _) (by omega)
  rw [e1, if_pos (by omega), if_pos (by omega), shr_nat .i64 x n (by show n ≤ 64; omega), shl_nat .i64 x (32 - n) (by show 32 - n ≤ 64; omega), wraps_i64 _ (by omega) (by exact_mod_cast h2), or_i64' _ _ h3 h2, mask_i64 _ (Nat.or_lt_two_pow h3 h2)]
  unfold rotr rotl
  rw [show 32 - (32 - n) = n by omega, Nat.or_comm]

theorem turned_some (x n : Nat) (hx : x < 2 ^ 32) (h1 : 1 ≤ n) (hn : n ≤ 31) (h : Go.bits .and .u64 (IntKind.u64.wrap (wrap64 (-(n : Int)))) 31 = ((32 - n : Nat) : Int)) : impl_turned.f (x : Int) (n : Int) = some ((rotr x n : Nat) : Int) := by
  unfold impl_turned.f bits_RotateLeft32.f
  have e1 : IntKind.u64.wrap (32 - ((32 - n : Nat) : Int)) = ((n : Nat) : Int) := by rw [IntKind.wrap_u64]; omega
  rw [h, e1, if_pos (by omega), if_pos (by omega), shl_nat .u32 x (32 - n) (by show 32 - n ≤ 32; omega), shr_nat .u32 x n (by show n ≤ 32; omega)]
  have := rotl_u32 x (32 - n) hx
  rw [show 32 - (32 - n) = n by omega] at this
  rw [show IntKind.u32.wrap ((x * 2 ^ (32 - n) : Nat) : Int) = ((x * 2 ^ (32 - n) % 2 ^ 32 : Nat) : Int) by rw [IntKind.wrap_u32]; omega, this]
  rfl

/-- The word of four bytes, the highest first. -/
def wordBE (s : ByteArray) (i : Nat) : Nat := le32 (bt s ((i + 3 : Nat) : Int)).toNat (bt s ((i + 2 : Nat) : Int)).toNat (bt s ((i + 1 : Nat) : Int)).toNat (bt s (i : Int)).toNat
/-- Places off, off + 1, .. take f 0, f 1, .. -/
def fillN (f : Nat → Nat) (off : Nat) : Nat → List Nat → List Nat
  | 0, v => v
  | i + 1, v => (fillN f off i v).set (off + i) (f i)
theorem fillN_length (f : Nat → Nat) (off : Nat) : ∀ (i : Nat) (v : List Nat), (fillN f off i v).length = v.length
  | 0, _ => rfl
  | i + 1, v => by simp [fillN, fillN_length f off i v]
/-- The schedule's places 16, 17, .. -/
def schedN (v : List Nat) : Nat → List Nat
  | 0 => v
  | i + 1 => (schedN v i).set (16 + i) (((schedN v i).getD i 0 + sig0 ((schedN v i).getD (i + 1) 0) + (schedN v i).getD (i + 9) 0 + sig1 ((schedN v i).getD (i + 14) 0)) % 2 ^ 32)
theorem schedN_length (v : List Nat) : ∀ i, (schedN v i).length = v.length
  | 0 => rfl
  | i + 1 => by simp [schedN, schedN_length v i]
def bigS1 (x : Nat) : Nat := rotr x 6 ^^^ rotr x 11 ^^^ rotr x 25
def bigS0 (x : Nat) : Nat := rotr x 2 ^^^ rotr x 13 ^^^ rotr x 22
def choose3 (e f g : Nat) : Nat := (e &&& f) ^^^ ((4294967295 ^^^ e) &&& g)
def major3 (a b c : Nat) : Nat := (a &&& b) ^^^ (a &&& c) ^^^ (b &&& c)
/-- One round: eight words. -/
def round8 (k w : Nat) (v : List Nat) : List Nat :=
  let x := v.getD 7 0 + bigS1 (v.getD 4 0) + choose3 (v.getD 4 0) (v.getD 5 0) (v.getD 6 0) + k + w
  [(x + bigS0 (v.getD 0 0) + major3 (v.getD 0 0) (v.getD 1 0) (v.getD 2 0)) % 2 ^ 32, v.getD 0 0, v.getD 1 0, v.getD 2 0, (v.getD 3 0 + x) % 2 ^ 32, v.getD 4 0, v.getD 5 0, v.getD 6 0]
def roundsN (ks ws v : List Nat) : Nat → List Nat
  | 0 => v
  | i + 1 => round8 (ks.getD i 0) (ws.getD i 0) (roundsN ks ws v i)
/-- The sums at a block's end. -/
def addN (h v : List Nat) : Nat → List Nat
  | 0 => h
  | i + 1 => (addN h v i).set i ((h.getD i 0 + v.getD i 0) % 2 ^ 32)

theorem be32_i64 (x0 x1 x2 x3 : Nat) (h0 : x0 ≤ 255) (h1 : x1 ≤ 255) (h2 : x2 ≤ 255) (h3 : x3 ≤ 255) :
    Go.bits .or .i64 (Go.bits .or .i64 (Go.bits .or .i64 (wrap64 (wrap64 (x0 : Int) * 16777216)) (wrap64 (wrap64 (x1 : Int) * 65536))) (wrap64 (wrap64 (x2 : Int) * 256))) (wrap64 (x3 : Int)) = ((le32 x3 x2 x1 x0 : Nat) : Int) := by
  have a3 : wrap64 (x3 : Int) = (x3 : Nat) := wrap_ok _ (by omega) (by omega)
  have a2 : wrap64 (wrap64 (x2 : Int) * 256) = ((x2 * 256 : Nat) : Int) := by rw [wrap_ok (x2 : Int) (by omega) (by omega), wrap_ok _ (by omega) (by omega)]; omega
  have a1 : wrap64 (wrap64 (x1 : Int) * 65536) = ((x1 * 65536 : Nat) : Int) := by rw [wrap_ok (x1 : Int) (by omega) (by omega), wrap_ok _ (by omega) (by omega)]; omega
  have a0 : wrap64 (wrap64 (x0 : Int) * 16777216) = ((x0 * 16777216 : Nat) : Int) := by rw [wrap_ok (x0 : Int) (by omega) (by omega), wrap_ok _ (by omega) (by omega)]; omega
  have g1 : x0 * 16777216 ||| x1 * 65536 < 2 ^ 32 := Nat.or_lt_two_pow (by omega) (by omega)
  have g2 : x0 * 16777216 ||| x1 * 65536 ||| x2 * 256 < 2 ^ 32 := Nat.or_lt_two_pow g1 (by omega)
  rw [a0, a1, a2, a3, or_i64' _ _ (by omega) (by omega), or_i64' _ _ (Nat.lt_trans g1 (by decide)) (by omega), or_i64' _ _ (Nat.lt_trans g2 (by decide)) (by omega)]
  congr 1
  unfold le32
  ac_rfl

theorem l01Word_some (s : ByteArray) (i : Nat) (h : i + 4 ≤ s.size) (hs : s.size ≤ 2000000) : spec_l01Word.f s (i : Int) = some ((wordBE s i : Nat) : Int) := by
  have w1 : wrap64 ((i : Int) + 1) = ((i + 1 : Nat) : Int) := by rw [wrap_ok _ (by omega) (by omega)]; omega
  have w2 : wrap64 ((i : Int) + 2) = ((i + 2 : Nat) : Int) := by rw [wrap_ok _ (by omega) (by omega)]; omega
  have w3 : wrap64 ((i : Int) + 3) = ((i + 3 : Nat) : Int) := by rw [wrap_ok _ (by omega) (by omega)]; omega
  have p0 : (0 : Int) ≤ (i : Int) := by omega
  have p1 : (0 : Int) ≤ ((i + 1 : Nat) : Int) := by omega
  have p2 : (0 : Int) ≤ ((i + 2 : Nat) : Int) := by omega
  have p3 : (0 : Int) ≤ ((i + 3 : Nat) : Int) := by omega
  have q0 : (i : Int) < (s.size : Int) := by omega
  have q1 : ((i + 1 : Nat) : Int) < (s.size : Int) := by omega
  have q2 : ((i + 2 : Nat) : Int) < (s.size : Int) := by omega
  have q3 : ((i + 3 : Nat) : Int) < (s.size : Int) := by omega
  unfold spec_l01Word.f wordBE
  rw [w1, w2, w3, if_pos p0, if_pos q0, if_pos p1, if_pos q1, if_pos p2, if_pos q2, if_pos p3, if_pos q3]
  have a0 := bt_range s (i : Int); have a1 := bt_range s ((i + 1 : Nat) : Int); have a2 := bt_range s ((i + 2 : Nat) : Int); have a3 := bt_range s ((i + 3 : Nat) : Int)
  generalize bt s (i : Int) = b0 at *
  generalize bt s ((i + 1 : Nat) : Int) = b1 at *
  generalize bt s ((i + 2 : Nat) : Int) = b2 at *
  generalize bt s ((i + 3 : Nat) : Int) = b3 at *
  clear w1 w2 w3 p0 p1 p2 p3 q0 q1 q2 q3
  obtain ⟨x0, rfl⟩ := Int.eq_ofNat_of_zero_le a0.1
  obtain ⟨x1, rfl⟩ := Int.eq_ofNat_of_zero_le a1.1
  obtain ⟨x2, rfl⟩ := Int.eq_ofNat_of_zero_le a2.1
  obtain ⟨x3, rfl⟩ := Int.eq_ofNat_of_zero_le a3.1
  rw [be32_i64 x0 x1 x2 x3 (by omega) (by omega) (by omega) (by omega)]
  simp only [Int.toNat_natCast]

/-- So many words of 32 bits. -/
def WN (n : Nat) (v : List Nat) : Prop := v.length = n ∧ ∀ j, v.getD j 0 < 2 ^ 32
theorem getD_set_lt (v : List Nat) (hv : ∀ j, v.getD j 0 < 2 ^ 32) (i n : Nat) (hn : n < 2 ^ 32) : ∀ j, (v.set i n).getD j 0 < 2 ^ 32 := by
  intro j
  by_cases e : i = j
  · subst e
    by_cases hi : i < v.length
    · simpa [List.getD_eq_getElem?_getD, hi] using hn
    · simp [List.getD_eq_getElem?_getD, hi]
  · have := hv j
    simpa [List.getD_eq_getElem?_getD, e] using this
theorem WN.set {k : Nat} {v : List Nat} (h : WN k v) (i n : Nat) (hn : n < 2 ^ 32) : WN k (v.set i n) := ⟨by simp [h.1], getD_set_lt v h.2 i n hn⟩
theorem WN.fillN {k : Nat} {v : List Nat} (h : WN k v) (f : Nat → Nat) (hf : ∀ j, f j < 2 ^ 32) (off : Nat) : ∀ i, WN k (fillN f off i v)
  | 0 => h
  | i + 1 => (WN.fillN h f hf off i).set _ _ (hf i)
theorem WN.schedN {k : Nat} {v : List Nat} (h : WN k v) : ∀ i, WN k (schedN v i)
  | 0 => h
  | i + 1 => (WN.schedN h i).set _ _ (Nat.mod_lt _ (by decide))
theorem WN.addN {k : Nat} {h v : List Nat} (hh : WN k h) : ∀ i, WN k (addN h v i)
  | 0 => hh
  | i + 1 => (WN.addN hh i).set _ _ (Nat.mod_lt _ (by decide))
theorem list8_lt (a0 a1 a2 a3 a4 a5 a6 a7 : Nat) (B : Nat) (hB : 0 < B) (h0 : a0 < B) (h1 : a1 < B) (h2 : a2 < B) (h3 : a3 < B) (h4 : a4 < B) (h5 : a5 < B) (h6 : a6 < B) (h7 : a7 < B) : ∀ j, [a0, a1, a2, a3, a4, a5, a6, a7].getD j 0 < B := by
  intro j
  match j with
  | 0 => exact h0
  | 1 => exact h1
  | 2 => exact h2
  | 3 => exact h3
  | 4 => exact h4
  | 5 => exact h5
  | 6 => exact h6
  | 7 => exact h7
  | j + 8 => exact hB
theorem mod_word (a : Nat) : a % 2 ^ 32 < 2 ^ 32 := Nat.mod_lt _ (by decide)
theorem round8_ok (k w : Nat) (v : List Nat) (h : WN 8 v) : WN 8 (round8 k w v) := by
  unfold round8
  exact ⟨rfl, list8_lt _ _ _ _ _ _ _ _ _ (by decide) (mod_word _) (h.2 0) (h.2 1) (h.2 2) (mod_word _) (h.2 4) (h.2 5) (h.2 6)⟩
theorem WN.roundsN {h : List Nat} (ks ws : List Nat) (hh : WN 8 h) : ∀ i, WN 8 (roundsN ks ws h i)
  | 0 => hh
  | i + 1 => round8_ok _ _ _ (WN.roundsN ks ws hh i)
theorem wordBE_lt (s : ByteArray) (i : Nat) : wordBE s i < 2 ^ 32 := by
  have h := fun j => bt_range s j
  refine (le32_lt _ _ _ _ ?_ ?_ ?_ ?_).2.2
  · have := h ((i + 3 : Nat) : Int); omega
  · have := h ((i + 2 : Nat) : Int); omega
  · have := h ((i + 1 : Nat) : Int); omega
  · have := h (i : Int); omega
theorem WN.four {v : List Nat} (h : WN 8 v) : ∃ a0 a1 a2 a3 a4 a5 a6 a7, v = [a0, a1, a2, a3, a4, a5, a6, a7] ∧ (a0 < 2 ^ 32 ∧ a1 < 2 ^ 32 ∧ a2 < 2 ^ 32 ∧ a3 < 2 ^ 32) ∧ a4 < 2 ^ 32 ∧ a5 < 2 ^ 32 ∧ a6 < 2 ^ 32 ∧ a7 < 2 ^ 32 := by
  match v, h with
  | [a0, a1, a2, a3, a4, a5, a6, a7], h => exact ⟨a0, a1, a2, a3, a4, a5, a6, a7, rfl, ⟨h.2 0, h.2 1, h.2 2, h.2 3⟩, h.2 4, h.2 5, h.2 6, h.2 7⟩

/-- Steps of the walk: each number under a name of its own. -/
theorem xor_st (a b : Nat) (ha : a < 2 ^ 32) (hb : b < 2 ^ 32) : ∃ n : Nat, n < 2 ^ 32 ∧ Hid ((a ^^^ b) = n) ∧ Go.bits .xor .i64 (a : Int) (b : Int) = (n : Int) ∧ Go.bits .xor .u32 (a : Int) (b : Int) = (n : Int) :=
  ⟨a ^^^ b, Nat.xor_lt_two_pow ha hb, Lib.hid rfl, xor_i64 a b (by omega) (by omega), xor_u32 a b ha hb⟩
theorem and_st (a b : Nat) (ha : a < 2 ^ 32) (hb : b < 2 ^ 32) : ∃ n : Nat, n < 2 ^ 32 ∧ Hid ((a &&& b) = n) ∧ Go.bits .and .i64 (a : Int) (b : Int) = (n : Int) ∧ Go.bits .and .u32 (a : Int) (b : Int) = (n : Int) :=
  ⟨a &&& b, Nat.lt_of_le_of_lt Nat.and_le_left ha, Lib.hid rfl, and_i64 a b (by omega) (by omega), and_u32 a b ha hb⟩
theorem right_st (x n : Nat) (hx : x < 2 ^ 32) (h1 : 1 ≤ n) (hn : n ≤ 31) : ∃ r : Nat, r < 2 ^ 32 ∧ Hid (rotr x n = r) ∧ ∀ j : Int, j = (n : Int) → spec_l01Right.f (x : Int) j = some (r : Int) :=
  ⟨rotr x n, rotr_lt x n, Lib.hid rfl, fun _ hj => hj ▸ right_some x n hx h1 hn⟩
/-- A sum of numbers below 2^40, as the reference keeps it. -/
theorem sum_st (a b : Nat) (B : Nat) (h : a + b < B) (hB : B ≤ 2 ^ 40) : ∃ n : Nat, n < B ∧ Hid (a + b = n) ∧ IntKind.i64.wrap ((a : Int) + (b : Int)) = (n : Int) ∧ wrap64 ((a : Int) + (b : Int)) = (n : Int) ∧ (a : Int) + (b : Int) = (n : Int) := by
  refine ⟨a + b, h, Lib.hid rfl, ?_, ?_, by omega⟩
  · rw [IntKind.wrap_i64]; omega
  · unfold wrap64; omega
theorem mask_st (a : Nat) (h : a < 2 ^ 40) : ∃ n : Nat, n < 2 ^ 32 ∧ Hid (a % 2 ^ 32 = n) ∧ Go.bits .and .i64 (a : Int) 4294967295 = (n : Int) :=
  ⟨a % 2 ^ 32, Nat.mod_lt _ (by decide), Lib.hid rfl, mask_i64 a (by omega)⟩
theorem shr_st (a k d : Nat) (h : a < 2 ^ 32) (hd : d = 2 ^ k) (hd1 : 1 ≤ d) : ∃ n : Nat, n < 2 ^ 32 ∧ Hid (a / 2 ^ k = n) ∧ (a : Int) / (d : Int) = (n : Int) := by
  subst hd
  exact ⟨a / 2 ^ k, Nat.lt_of_le_of_lt (Nat.div_le_self _ _) h, Lib.hid rfl, by push_cast; rfl⟩
/-- A place reckoned from another. -/
theorem place_st (x y : Int) (d : Int) (h : x - d = y) (h0 : 0 ≤ y) (h1 : y ≤ 100000) : IntKind.i64.wrap (x - d) = y ∧ wrap64 (x - d) = y := by
  constructor
  · rw [IntKind.wrap_i64]; omega
  · unfold wrap64; omega
end

/-! Steps of the digest's loops, each fact that a walk asks. Conditions: words of 32 bits. -/
section
open Go.RowKit Go.Shelf Go.Proofs.YtajbljegeiebjaaW.PrintWords Go.Proofs.YtajbljegeiebjaaW.PrintLast Go.Proofs.YtajbljegeiebjaaW.PrintMore Go.Proofs.Ytajbljegeiebjaa.PSha

/-- omega is kept away from facts on bits: it would open them. -/
theorem add_lt_of {a b A B C : Nat} (ha : a < A) (hb : b < B) (h : A + B ≤ C) : a + b < C := by omega

/-- One step of the schedule, all that the walk asks. -/
theorem sched_step (u : List Nat) (hu : WN 64 u) (i : Nat) (_ : i < 48) : ∃ (p16 p15 p7 p2 r7 r18 q3 x1 sa r17 r19 q10 x2 sb n1 n2 n3 n : Nat),
    Hid ((u.getD i 0 + sig0 (u.getD (i + 1) 0) + u.getD (i + 9) 0 + sig1 (u.getD (i + 14) 0)) % 2 ^ 32 = n) ∧
    (u.getD i 0 = p16 ∧ u.getD (i + 1) 0 = p15 ∧ u.getD (i + 9) 0 = p7 ∧ u.getD (i + 14) 0 = p2) ∧
    (spec_l01Right.f (p15 : Int) 7 = some (r7 : Int) ∧ spec_l01Right.f (p15 : Int) 18 = some (r18 : Int) ∧ spec_l01Right.f (p2 : Int) 17 = some (r17 : Int) ∧ spec_l01Right.f (p2 : Int) 19 = some (r19 : Int)) ∧
    ((p15 : Int) / 8 = (q3 : Int) ∧ (p2 : Int) / 1024 = (q10 : Int)) ∧
    (Go.bits .xor .i64 (r7 : Int) (r18 : Int) = (x1 : Int) ∧ Go.bits .xor .i64 (x1 : Int) (q3 : Int) = (sa : Int) ∧ Go.bits .xor .i64 (r17 : Int) (r19 : Int) = (x2 : Int) ∧ Go.bits .xor .i64 (x2 : Int) (q10 : Int) = (sb : Int)) ∧
    (IntKind.i64.wrap ((p16 : Int) + (sa : Int)) = (n1 : Int) ∧ IntKind.i64.wrap ((n1 : Int) + (p7 : Int)) = (n2 : Int) ∧ IntKind.i64.wrap ((n2 : Int) + (sb : Int)) = (n3 : Int)) ∧ Go.bits .and .i64 (n3 : Int) 4294967295 = (n : Int) := by
  obtain ⟨p16, hp16⟩ : ∃ n, u.getD i 0 = n := ⟨_, rfl⟩
  obtain ⟨p15, hp15⟩ : ∃ n, u.getD (i + 1) 0 = n := ⟨_, rfl⟩
  obtain ⟨p7, hp7⟩ : ∃ n, u.getD (i + 9) 0 = n := ⟨_, rfl⟩
  obtain ⟨p2, hp2⟩ : ∃ n, u.getD (i + 14) 0 = n := ⟨_, rfl⟩
  have l16 := hu.2 i; have l15 := hu.2 (i + 1); have l7 := hu.2 (i + 9); have l2 := hu.2 (i + 14)
  rw [hp16] at l16; rw [hp15] at l15; rw [hp7] at l7; rw [hp2] at l2
  obtain ⟨r7, lr7, Hr7, tr7⟩ := right_st p15 7 l15 (by decide) (by decide)
  obtain ⟨r18, lr18, Hr18, tr18⟩ := right_st p15 18 l15 (by decide) (by decide)
  obtain ⟨q3, lq3, Hq3, tq3⟩ := shr_st p15 3 8 l15 rfl (by decide)
  obtain ⟨x1, lx1, Hx1, tx1, _⟩ := xor_st r7 r18 lr7 lr18
  obtain ⟨sa, lsa, Hsa, tsa, _⟩ := xor_st x1 q3 lx1 lq3
  obtain ⟨r17, lr17, Hr17, tr17⟩ := right_st p2 17 l2 (by decide) (by decide)
  obtain ⟨r19, lr19, Hr19, tr19⟩ := right_st p2 19 l2 (by decide) (by decide)
  obtain ⟨q10, lq10, Hq10, tq10⟩ := shr_st p2 10 1024 l2 rfl (by decide)
  obtain ⟨x2, lx2, Hx2, tx2, _⟩ := xor_st r17 r19 lr17 lr19
  obtain ⟨sb, lsb, Hsb, tsb, _⟩ := xor_st x2 q10 lx2 lq10
  obtain ⟨n1, ln1, Hn1, tn1, _⟩ := sum_st p16 sa (2 ^ 33) (add_lt_of l16 lsa (by decide)) (by decide)
  obtain ⟨n2, ln2, Hn2, tn2, _⟩ := sum_st n1 p7 (2 ^ 34) (add_lt_of ln1 l7 (by decide)) (by decide)
  obtain ⟨n3, ln3, Hn3, tn3, _⟩ := sum_st n2 sb (2 ^ 35) (add_lt_of ln2 lsb (by decide)) (by decide)
  obtain ⟨n, ln, Hn, tn⟩ := mask_st n3 (Nat.lt_trans ln3 (by decide))
  refine ⟨p16, p15, p7, p2, r7, r18, q3, x1, sa, r17, r19, q10, x2, sb, n1, n2, n3, n, Lib.hid ?_, ⟨hp16, hp15, hp7, hp2⟩, ⟨tr7 7 rfl, tr18 18 rfl, tr17 17 rfl, tr19 19 rfl⟩, ⟨tq3, tq10⟩, ⟨tx1, tsa, tx2, tsb⟩, ⟨tn1, tn2, tn3⟩, tn⟩
  rw [hp16, hp15, hp7, hp2]
  unfold sig0 sig1
  rw [Hr7.out, Hr18.out, Hq3.out, Hx1.out, Hsa.out, Hr17.out, Hr19.out, Hq10.out, Hx2.out, Hsb.out, Hn1.out, Hn2.out, Hn3.out, Hn.out]

/-- The places of that step. -/
theorem sched_places (i : Nat) (x : Int) (hx : x = (i : Int) + 16) (hi : i < 48) : ∃ y15 y2 y16 y7 : Int, (y15.toNat = i + 1 ∧ y2.toNat = i + 14 ∧ y16.toNat = i ∧ y7.toNat = i + 9 ∧ x.toNat = 16 + i) ∧
    (IntKind.i64.wrap (x - 15) = y15 ∧ IntKind.i64.wrap (x - 2) = y2 ∧ IntKind.i64.wrap (x - 16) = y16 ∧ IntKind.i64.wrap (x - 7) = y7) ∧
    ((0 ≤ y15) = True ∧ (0 ≤ y2) = True ∧ (0 ≤ y16) = True ∧ (0 ≤ y7) = True ∧ (0 ≤ x) = True) ∧
    ((y15 < 64) = True ∧ (y2 < 64) = True ∧ (y16 < 64) = True ∧ (y7 < 64) = True ∧ (x < 64) = True) ∧ decide (x < 64) = true := by
  refine ⟨x - 15, x - 2, x - 16, x - 7, ⟨by omega, by omega, by omega, by omega, by omega⟩, ⟨?_, ?_, ?_, ?_⟩, ⟨eq_true (by omega), eq_true (by omega), eq_true (by omega), eq_true (by omega), eq_true (by omega)⟩, ⟨eq_true (by omega), eq_true (by omega), eq_true (by omega), eq_true (by omega), eq_true (by omega)⟩, decide_eq_true (by omega)⟩
  all_goals (rw [IntKind.wrap_i64]; omega)

/-- What the walk of a schedule's step reads and leaves. -/
theorem sched_world {w : World} {g : Nat} {t : TypeId} {u : List Nat} {k : IntKind} (h : Blk w g t (wds k u)) (hu : u.length = 64) (i : Nat) (hi : i < 48) (x y15 y2 y16 y7 : Int) (hy : y15.toNat = i + 1 ∧ y2.toNat = i + 14 ∧ y16.toNat = i ∧ y7.toNat = i + 9 ∧ x.toNat = 16 + i)
    (p16 p15 p7 p2 : Nat) (hp : u.getD i 0 = p16 ∧ u.getD (i + 1) 0 = p15 ∧ u.getD (i + 9) 0 = p7 ∧ u.getD (i + 14) 0 = p2) :
    w.cell? ⟨g, y16.toNat, none⟩ = some (.int k p16) ∧ w.cell? ⟨g, y15.toNat, none⟩ = some (.int k p15) ∧ w.cell? ⟨g, y7.toNat, none⟩ = some (.int k p7) ∧ w.cell? ⟨g, y2.toNat, none⟩ = some (.int k p2) ∧
    (∃ v, w.cell? ⟨g, x.toNat, none⟩ = some v) ∧ w.frozen? ⟨g, x.toNat, none⟩ = false ∧
    ∀ v, (w.setCell ⟨g, x.toNat, none⟩ v).cell? ⟨g, y16.toNat, none⟩ = some (.int k p16) ∧ (w.setCell ⟨g, x.toNat, none⟩ v).cell? ⟨g, y7.toNat, none⟩ = some (.int k p7) := by
  obtain ⟨e15, e2, e16, e7, ex⟩ := hy
  obtain ⟨h16, h15, h7, h2⟩ := hp
  rw [e15, e2, e16, e7, ex, ← h16, ← h15, ← h7, ← h2]
  refine ⟨(h.wat _ (by omega)).1, (h.wat _ (by omega)).1, (h.wat _ (by omega)).1, (h.wat _ (by omega)).1, ⟨_, (h.wat _ (by omega)).1⟩, (h.wat _ (by omega)).2, fun v => ⟨?_, ?_⟩⟩
  · rw [World.cell?_setCell_other _ _ _ _ (by intro e; injection e; omega)]; exact (h.wat _ (by omega)).1
  · rw [World.cell?_setCell_other _ _ _ _ (by intro e; injection e; omega)]; exact (h.wat _ (by omega)).1

theorem right_calls {p n r : Int} (h : spec_l01Right.f p n = some r) (W : World) : Calls Try.prog 81 #[.int .i64 p, .int .i64 n] W fun e w' => e = .returned (.int .i64 r) ∧ ∃ m, w' = W.drewN m := by
  refine (spec_l01Right.calls p n r W h).mono ?_
  rintro e w' ⟨rfl, m, rfl⟩
  exact ⟨rfl, m, rfl⟩

theorem not_st (a : Nat) (ha : a < 2 ^ 32) : ∃ n : Nat, n < 2 ^ 32 ∧ Hid ((4294967295 ^^^ a) = n) ∧ Go.bits .xor .i64 4294967295 (a : Int) = (n : Int) :=
  ⟨4294967295 ^^^ a, Nat.xor_lt_two_pow (by decide) ha, Lib.hid rfl, xor_i64 4294967295 a (by decide) (by omega)⟩

/-- One round of sixty-four, all that the reference's walk asks. -/
theorem round_step (a0 a1 a2 a3 a4 a5 a6 a7 k w : Nat) (h0 : a0 < 2 ^ 32) (h1 : a1 < 2 ^ 32) (h2 : a2 < 2 ^ 32) (h3 : a3 < 2 ^ 32) (h4 : a4 < 2 ^ 32) (h5 : a5 < 2 ^ 32) (h6 : a6 < 2 ^ 32) (h7 : a7 < 2 ^ 32) (hk : k < 2 ^ 32) (hw : w < 2 ^ 32) :
    ∃ (r6 r11 r25 x1 s c1 ne c2 c y1 y2 y3 x r2 r13 r22 x2 r m1 m2 m3 m4 m z1 z2 n0 z3 n4 : Nat),
    Hid (round8 k w [a0, a1, a2, a3, a4, a5, a6, a7] = [n0, a0, a1, a2, n4, a4, a5, a6]) ∧
    (spec_l01Right.f (a4 : Int) 6 = some (r6 : Int) ∧ spec_l01Right.f (a4 : Int) 11 = some (r11 : Int) ∧ spec_l01Right.f (a4 : Int) 25 = some (r25 : Int)) ∧
    (Go.bits .xor .i64 (r6 : Int) (r11 : Int) = (x1 : Int) ∧ Go.bits .xor .i64 (x1 : Int) (r25 : Int) = (s : Int)) ∧
    (Go.bits .and .i64 (a4 : Int) (a5 : Int) = (c1 : Int) ∧ Go.bits .xor .i64 4294967295 (a4 : Int) = (ne : Int) ∧ Go.bits .and .i64 (ne : Int) (a6 : Int) = (c2 : Int) ∧ Go.bits .xor .i64 (c1 : Int) (c2 : Int) = (c : Int)) ∧
    (IntKind.i64.wrap ((a7 : Int) + (s : Int)) = (y1 : Int) ∧ IntKind.i64.wrap ((y1 : Int) + (c : Int)) = (y2 : Int) ∧ IntKind.i64.wrap ((y2 : Int) + (k : Int)) = (y3 : Int) ∧ IntKind.i64.wrap ((y3 : Int) + (w : Int)) = (x : Int)) ∧
    (spec_l01Right.f (a0 : Int) 2 = some (r2 : Int) ∧ spec_l01Right.f (a0 : Int) 13 = some (r13 : Int) ∧ spec_l01Right.f (a0 : Int) 22 = some (r22 : Int)) ∧
    (Go.bits .xor .i64 (r2 : Int) (r13 : Int) = (x2 : Int) ∧ Go.bits .xor .i64 (x2 : Int) (r22 : Int) = (r : Int)) ∧
    (Go.bits .and .i64 (a0 : Int) (a1 : Int) = (m1 : Int) ∧ Go.bits .and .i64 (a0 : Int) (a2 : Int) = (m2 : Int) ∧ Go.bits .xor .i64 (m1 : Int) (m2 : Int) = (m3 : Int) ∧ Go.bits .and .i64 (a1 : Int) (a2 : Int) = (m4 : Int) ∧ Go.bits .xor .i64 (m3 : Int) (m4 : Int) = (m : Int)) ∧
    (wrap64 ((x : Int) + (r : Int)) = (z1 : Int) ∧ wrap64 ((z1 : Int) + (m : Int)) = (z2 : Int) ∧ Go.bits .and .i64 (z2 : Int) 4294967295 = (n0 : Int)) ∧
    (wrap64 ((a3 : Int) + (x : Int)) = (z3 : Int) ∧ Go.bits .and .i64 (z3 : Int) 4294967295 = (n4 : Int)) := by
  obtain ⟨r6, lr6, Hr6, tr6⟩ := right_st a4 6 h4 (by decide) (by decide)
  obtain ⟨r11, lr11, Hr11, tr11⟩ := right_st a4 11 h4 (by decide) (by decide)
  obtain ⟨r25, lr25, Hr25, tr25⟩ := right_st a4 25 h4 (by decide) (by decide)
  obtain ⟨x1, lx1, Hx1, tx1, _⟩ := xor_st r6 r11 lr6 lr11
  obtain ⟨s, ls, Hs, ts, _⟩ := xor_st x1 r25 lx1 lr25
  obtain ⟨c1, lc1, Hc1, tc1, _⟩ := and_st a4 a5 h4 h5
  obtain ⟨ne, lne, Hne, tne⟩ := not_st a4 h4
  obtain ⟨c2, lc2, Hc2, tc2, _⟩ := and_st ne a6 lne h6
  obtain ⟨c, lc, Hc, tc, _⟩ := xor_st c1 c2 lc1 lc2
  obtain ⟨y1, ly1, Hy1, ty1, _⟩ := sum_st a7 s (2 ^ 33) (add_lt_of h7 ls (by decide)) (by decide)
  obtain ⟨y2, ly2, Hy2, ty2, _⟩ := sum_st y1 c (2 ^ 34) (add_lt_of ly1 lc (by decide)) (by decide)
  obtain ⟨y3, ly3, Hy3, ty3, _⟩ := sum_st y2 k (2 ^ 35) (add_lt_of ly2 hk (by decide)) (by decide)
  obtain ⟨x, lx, Hx, tx, _⟩ := sum_st y3 w (2 ^ 36) (add_lt_of ly3 hw (by decide)) (by decide)
  obtain ⟨r2, lr2, Hr2, tr2⟩ := right_st a0 2 h0 (by decide) (by decide)
  obtain ⟨r13, lr13, Hr13, tr13⟩ := right_st a0 13 h0 (by decide) (by decide)
  obtain ⟨r22, lr22, Hr22, tr22⟩ := right_st a0 22 h0 (by decide) (by decide)
  obtain ⟨x2, lx2, Hx2, tx2, _⟩ := xor_st r2 r13 lr2 lr13
  obtain ⟨r, lr, Hr, tr, _⟩ := xor_st x2 r22 lx2 lr22
  obtain ⟨m1, lm1, Hm1, tm1, _⟩ := and_st a0 a1 h0 h1
  obtain ⟨m2, lm2, Hm2, tm2, _⟩ := and_st a0 a2 h0 h2
  obtain ⟨m3, lm3, Hm3, tm3, _⟩ := xor_st m1 m2 lm1 lm2
  obtain ⟨m4, lm4, Hm4, tm4, _⟩ := and_st a1 a2 h1 h2
  obtain ⟨m, lm, Hm, tm, _⟩ := xor_st m3 m4 lm3 lm4
  obtain ⟨z1, lz1, Hz1, _, tz1, _⟩ := sum_st x r (2 ^ 37) (add_lt_of lx lr (by decide)) (by decide)
  obtain ⟨z2, lz2, Hz2, _, tz2, _⟩ := sum_st z1 m (2 ^ 38) (add_lt_of lz1 lm (by decide)) (by decide)
  obtain ⟨n0, _, Hn0, tn0⟩ := mask_st z2 (Nat.lt_trans lz2 (by decide))
  obtain ⟨z3, lz3, Hz3, _, tz3, _⟩ := sum_st a3 x (2 ^ 37) (add_lt_of h3 lx (by decide)) (by decide)
  obtain ⟨n4, _, Hn4, tn4⟩ := mask_st z3 (Nat.lt_trans lz3 (by decide))
  refine ⟨r6, r11, r25, x1, s, c1, ne, c2, c, y1, y2, y3, x, r2, r13, r22, x2, r, m1, m2, m3, m4, m, z1, z2, n0, z3, n4, Lib.hid ?_, ⟨tr6 6 rfl, tr11 11 rfl, tr25 25 rfl⟩, ⟨tx1, ts⟩, ⟨tc1, tne, tc2, tc⟩, ⟨ty1, ty2, ty3, tx⟩, ⟨tr2 2 rfl, tr13 13 rfl, tr22 22 rfl⟩, ⟨tx2, tr⟩, ⟨tm1, tm2, tm3, tm4, tm⟩, ⟨tz1, tz2, tn0⟩, ⟨tz3, tn4⟩⟩
  unfold round8 bigS1 choose3 bigS0 major3
  simp only [List.getD_cons_zero, List.getD_cons_succ]
  rw [Hr6.out, Hr11.out, Hr25.out, Hx1.out, Hs.out, Hc1.out, Hne.out, Hc2.out, Hc.out, Hy1.out, Hy2.out, Hy3.out, Hx.out, Hr2.out, Hr13.out, Hr22.out, Hx2.out, Hr.out, Hm1.out, Hm2.out, Hm3.out, Hm4.out, Hm.out, Hz1.out, Hz2.out, Hn0.out, Hz3.out, Hn4.out]

/-- Eight cells read, none frozen. -/
theorem Blk.at8 {w : World} {g : Nat} {t : TypeId} {v0 v1 v2 v3 v4 v5 v6 v7 : Value} (h : Blk w g t #[v0, v1, v2, v3, v4, v5, v6, v7]) :
    (w.cell? ⟨g, 0, none⟩ = some v0 ∧ w.cell? ⟨g, 1, none⟩ = some v1 ∧ w.cell? ⟨g, 2, none⟩ = some v2 ∧ w.cell? ⟨g, 3, none⟩ = some v3 ∧ w.cell? ⟨g, 4, none⟩ = some v4 ∧ w.cell? ⟨g, 5, none⟩ = some v5 ∧ w.cell? ⟨g, 6, none⟩ = some v6 ∧ w.cell? ⟨g, 7, none⟩ = some v7) ∧
    (w.frozen? ⟨g, 0, none⟩ = false ∧ w.frozen? ⟨g, 1, none⟩ = false ∧ w.frozen? ⟨g, 2, none⟩ = false ∧ w.frozen? ⟨g, 3, none⟩ = false ∧ w.frozen? ⟨g, 4, none⟩ = false ∧ w.frozen? ⟨g, 5, none⟩ = false ∧ w.frozen? ⟨g, 6, none⟩ = false ∧ w.frozen? ⟨g, 7, none⟩ = false) :=
  ⟨⟨(h.at 0 _ rfl).1, (h.at 1 _ rfl).1, (h.at 2 _ rfl).1, (h.at 3 _ rfl).1, (h.at 4 _ rfl).1, (h.at 5 _ rfl).1, (h.at 6 _ rfl).1, (h.at 7 _ rfl).1⟩,
   (h.at 0 _ rfl).2, (h.at 1 _ rfl).2, (h.at 2 _ rfl).2, (h.at 3 _ rfl).2, (h.at 4 _ rfl).2, (h.at 5 _ rfl).2, (h.at 6 _ rfl).2, (h.at 7 _ rfl).2⟩

theorem addN_length (h v : List Nat) : ∀ i, (addN h v i).length = h.length
  | 0 => rfl
  | i + 1 => by simp [addN, addN_length h v i]
theorem addN_at (h v : List Nat) : ∀ i j, i ≤ j → (addN h v i).getD j 0 = h.getD j 0
  | 0, _, _ => rfl
  | i + 1, j, hj => by
    have := addN_at h v i j (by omega)
    rw [List.getD_eq_getElem?_getD] at this ⊢
    rw [addN, List.getElem?_set_ne (by omega), this]
/-- One sum of eight, all that the walk asks. -/
theorem add8_step (a b : Nat) (ha : a < 2 ^ 32) (hb : b < 2 ^ 32) : ∃ s n : Nat, Hid ((a + b) % 2 ^ 32 = n) ∧ IntKind.i64.wrap ((a : Int) + (b : Int)) = (s : Int) ∧ wrap64 ((a : Int) + (b : Int)) = (s : Int) ∧ Go.bits .and .i64 (s : Int) 4294967295 = (n : Int) := by
  obtain ⟨s, ls, Hs, ts, ts', _⟩ := sum_st a b (2 ^ 33) (add_lt_of ha hb (by decide)) (by decide)
  obtain ⟨n, _, Hn, tn⟩ := mask_st s (Nat.lt_trans ls (by decide))
  exact ⟨s, n, Lib.hid (by rw [Hs.out, Hn.out]), ts, ts', tn⟩

/-- Block g alone is turned: each other block that lay lies as it lay. -/
def Only (g : Nat) (w w' : World) : Prop := w.grownBy w' (some g)
theorem Only.refl (g : Nat) (w : World) : Only g w w := ⟨rfl, rfl, rfl, Nat.le_refl _, fun _ _ _ => rfl⟩
theorem Only.drew {g : Nat} {w w' : World} (h : Only g w w') : Only g w w'.drew := ⟨h.os, h.tape, h.output, h.size, h.block⟩
theorem Only.drewN {g : Nat} {w w' : World} (h : Only g w w') (n : Nat) : Only g w (w'.drewN n) := ⟨h.os, h.tape, h.output, h.size, h.block⟩
theorem Only.set {g : Nat} {w w' : World} (h : Only g w w') (i : Nat) (v : Value) : Only g w (w'.setCell ⟨g, i, none⟩ v) := by
  have b := (Below.refl 0 w').setCell (p := ⟨g, i, none⟩) (Nat.zero_le _) v
  exact ⟨b.os.trans h.os, b.tape.trans h.tape, b.output.trans h.output, Nat.le_trans h.size b.size, fun j hj hne => (Below.heap_setCell w' ⟨g, i, none⟩ v j (fun e => hne (by rw [e]))).trans (h.block j hj hne)⟩
theorem Only.blk {g k : Nat} {w w' : World} {t : TypeId} {cs : Array Value} (h : Only g w w') (hb : Blk w k t cs) (hne : k ≠ g) : Blk w' k t cs := hb.move (h.block k hb.lt (fun e => hne (Option.some.inj e)))
/-- Behind a turn of a block that was laid since. -/
theorem Only.below {g B : Nat} {a w w' : World} (h : Only g w w') (hb : Below B a w) (hB : B ≤ w.heap.size) (hg : B ≤ g) : Below B a w' := hb.grown h hB (fun k e => by cases e; exact hg)
/-- Nothing that lay was turned, then block g alone. -/
theorem Only.of_below {g : Nat} {a w w' : World} (hb : Below a.heap.size a w) (h : Only g w w') : Only g a w' :=
  ⟨h.os.trans hb.os, h.tape.trans hb.tape, h.output.trans hb.output, Nat.le_trans hb.size h.size, fun j hj hne => (h.block j (Nat.lt_of_lt_of_le hj hb.size) hne).trans (hb.block j hj)⟩
theorem Only.trans {g : Nat} {a b c : World} (h : Only g a b) (k : Only g b c) : Only g a c :=
  ⟨k.os.trans h.os, k.tape.trans h.tape, k.output.trans h.output, Nat.le_trans h.size k.size, fun j hj hne => (k.block j (Nat.lt_of_lt_of_le hj h.size) hne).trans (h.block j hj hne)⟩
end

/-! The digest in plain words: a block taken in. Conditions: none. -/
section
open Go.RowKit Go.Shelf Go.Proofs.YtajbljegeiebjaaW.PrintWords Go.Proofs.YtajbljegeiebjaaW.PrintLast Go.Proofs.YtajbljegeiebjaaW.PrintMore Go.Proofs.Ytajbljegeiebjaa.PSha

/-- What holds of the world at hand is all that is kept of it. -/
theorem wp_world {P : Program} {c : Code} {Q : Exit → Act → World → Prop} {a : Act} {W : World} (S : World → Prop) (hS : S W) (h : ∀ W', S W' → Code.wp P c Q a W') : Code.wp P c Q a W := h W hS

/-- The digest's sixty-four numbers. -/
def ktab : List Nat := [1116352408, 1899447441, 3049323471, 3921009573, 961987163, 1508970993, 2453635748, 2870763221, 3624381080, 310598401, 607225278, 1426881987, 1925078388, 2162078206, 2614888103, 3248222580, 3835390401, 4022224774, 264347078, 604807628, 770255983, 1249150122, 1555081692, 1996064986, 2554220882, 2821834349, 2952996808, 3210313671, 3336571891, 3584528711, 113926993, 338241895, 666307205, 773529912, 1294757372, 1396182291, 1695183700, 1986661051, 2177026350, 2456956037, 2730485921, 2820302411, 3259730800, 3345764771, 3516065817, 3600352804, 4094571909, 275423344, 430227734, 506948616, 659060556, 883997877, 958139571, 1322822218, 1537002063, 1747873779, 1955562222, 2024104815, 2227730452, 2361852424, 2428436474, 2756734187, 3204031479, 3329325298]
theorem ktab_ok : WN 64 ktab := by
  refine ⟨by decide, fun j => ?_⟩
  rcases Nat.lt_or_ge j 64 with h | h
  · have : ∀ j : Fin 64, ktab.getD j.val 0 < 2 ^ 32 := by decide
    exact this ⟨j, h⟩
  · have : ktab.getD j 0 = 0 := by rw [List.getD_eq_getElem?_getD, List.getElem?_eq_none h]; rfl
    rw [this]; decide
def zeros64 : List Nat := List.replicate 64 0
theorem zeros64_ok : WN 64 zeros64 := by
  refine ⟨List.length_replicate, fun j => ?_⟩
  have : zeros64.getD j 0 = 0 := by
    rw [List.getD_eq_getElem?_getD]
    rcases h : zeros64[j]? with _ | x
    · rfl
    · have := List.mem_of_getElem? h
      simp only [zeros64, List.mem_replicate] at this
      simpa using this.2
  rw [this]; decide
def zeros8 : List Nat := [0, 0, 0, 0, 0, 0, 0, 0]
/-- The schedule of a block. -/
def schedOf (t : ByteArray) : List Nat := schedN (fillN (fun i => wordBE t (4 * i)) 0 16 zeros64) 48
theorem sched16_ok (t : ByteArray) : WN 64 (fillN (fun i => wordBE t (4 * i)) 0 16 zeros64) := zeros64_ok.fillN _ (fun _ => wordBE_lt _ _) _ _
theorem schedOf_ok (t : ByteArray) : WN 64 (schedOf t) := (sched16_ok t).schedN _
/-- A block taken in. -/
def shaBlk (h : List Nat) (t : ByteArray) : List Nat := addN h (roundsN ktab (schedOf t) h 64) 8
theorem shaBlk_ok {h : List Nat} (hh : WN 8 h) (t : ByteArray) : WN 8 (shaBlk h t) := hh.addN 8
end

end Go.Proofs.Ytajbljegeiebjaa.Leaf
