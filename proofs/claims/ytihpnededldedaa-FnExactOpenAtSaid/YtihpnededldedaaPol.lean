/-
  Poly1305 in plain numbers: five limbs of 26 bits, their carries, products and least residues. Conditions: bounds on the limbs.
-/
namespace Go.Proofs.Ytihpnededldedaa.Pol

/-- The value of limbs, the lowest first. -/
def val : List Nat → Nat
  | [] => 0
  | a :: v => a + 67108864 * val v
/-- 2 to the 130, less 5. -/
def pr : Nat := 1361129467683753853853498429727072845819
/-- One round of carries. -/
def carr (a b c d e : Nat) : List Nat :=
  let b' := b + a / 67108864
  let c' := c + b' / 67108864
  let d' := d + c' / 67108864
  let e' := e + d' / 67108864
  [a % 67108864 + 5 * (e' / 67108864), b' % 67108864, c' % 67108864, d' % 67108864, e' % 67108864]
def carry : List Nat → List Nat
  | [a, b, c, d, e] => carr a b c d e
  | v => v
def carryN (v : List Nat) : Nat → List Nat
  | 0 => v
  | n + 1 => carry (carryN v n)
theorem val5 (a b c d e : Nat) : val [a, b, c, d, e] = a + 67108864 * b + 4503599627370496 * c + 302231454903657293676544 * d + 20282409603651670423947251286016 * e := by
  simp only [val]; omega
theorem carr_val (a b c d e : Nat) : val (carr a b c d e) + ((e + (d + (c + (b + a / 67108864) / 67108864) / 67108864) / 67108864) / 67108864) * pr = val [a, b, c, d, e] := by
  simp only [carr, val5, pr]
  omega
/-- Five limbs, all below a bound. -/
def L5 (k : Nat) (v : List Nat) : Prop := ∃ a b c d e, v = [a, b, c, d, e] ∧ a < k ∧ b < k ∧ c < k ∧ d < k ∧ e < k
theorem L5.length {k : Nat} {v : List Nat} (h : L5 k v) : v.length = 5 := by obtain ⟨a, b, c, d, e, rfl, _⟩ := h; rfl
theorem carry1_bd (a b c d e : Nat) (ha : a < 2 ^ 60) (hb : b < 2 ^ 60) (hc : c < 2 ^ 60) (hd : d < 2 ^ 60) (he : e < 2 ^ 60) :
    ∃ a' b' c' d' e', carr a b c d e = [a', b', c', d', e'] ∧ a' < 2 ^ 38 ∧ b' < 67108864 ∧ c' < 67108864 ∧ d' < 67108864 ∧ e' < 67108864 := by
  refine ⟨_, _, _, _, _, rfl, ?_, ?_, ?_, ?_, ?_⟩ <;> omega
theorem carry2_bd (a b c d e : Nat) (ha : a < 2 ^ 38) (hb : b < 67108864) (hc : c < 67108864) (hd : d < 67108864) (he : e < 67108864) :
    ∃ a' b' c' d' e', carr a b c d e = [a', b', c', d', e'] ∧ a' < 67108869 ∧ (67108864 ≤ a' → e' = 0) ∧ b' < 67108864 ∧ c' < 67108864 ∧ d' < 67108864 ∧ e' < 67108864 := by
  refine ⟨_, _, _, _, _, rfl, ?_, ?_, ?_, ?_, ?_, ?_⟩ <;> omega
theorem carry3_bd (a b c d e : Nat) (ha : a < 67108869) (_h0 : 67108864 ≤ a → e = 0) (hb : b < 67108864) (hc : c < 67108864) (hd : d < 67108864) (he : e < 67108864) :
    L5 67108864 (carr a b c d e) := by
  refine ⟨_, _, _, _, _, rfl, ?_, ?_, ?_, ?_, ?_⟩ <;> omega
theorem carry3 (v : List Nat) (h : L5 (2 ^ 60) v) : L5 67108864 (carryN v 3) ∧ ∃ q, val (carryN v 3) + q * pr = val v := by
  obtain ⟨a, b, c, d, e, rfl, ha, hb, hc, hd, he⟩ := h
  have e1 := carr_val a b c d e
  obtain ⟨a1, b1, c1, d1, e1', h1, ha, hb, hc, hd, he⟩ := carry1_bd a b c d e ha hb hc hd he
  have e2 := carr_val a1 b1 c1 d1 e1'
  obtain ⟨a2, b2, c2, d2, e2', h2, ha, h0, hb, hc, hd, he⟩ := carry2_bd a1 b1 c1 d1 e1' ha hb hc hd he
  have e3 := carr_val a2 b2 c2 d2 e2'
  have h3 := carry3_bd a2 b2 c2 d2 e2' ha h0 hb hc hd he
  have k1 : carryN [a, b, c, d, e] 1 = [a1, b1, c1, d1, e1'] := h1
  have k2 : carryN [a, b, c, d, e] 2 = [a2, b2, c2, d2, e2'] := by show carry (carryN _ 1) = _; rw [k1]; exact h2
  have k3 : carryN [a, b, c, d, e] 3 = carr a2 b2 c2 d2 e2' := by show carry (carryN _ 2) = _; rw [k2]; rfl
  rw [k3]
  refine ⟨h3, ?_⟩
  rw [h1] at e1
  rw [h2] at e2
  generalize (e + (d + (c + (b + a / 67108864) / 67108864) / 67108864) / 67108864) / 67108864 = q1 at e1
  generalize (e1' + (d1 + (c1 + (b1 + a1 / 67108864) / 67108864) / 67108864) / 67108864) / 67108864 = q2 at e2
  generalize (e2' + (d2 + (c2 + (b2 + a2 / 67108864) / 67108864) / 67108864) / 67108864) / 67108864 = q3 at e3
  refine ⟨q1 + q2 + q3, ?_⟩
  rw [Nat.add_mul, Nat.add_mul]
  omega

/-- The product of limbs, what is above coming back five times. -/
def mulr (a b c d e r s t u x : Nat) : List Nat :=
  [a * r + 5 * (b * x + c * u + d * t + e * s), a * s + b * r + 5 * (c * x + d * u + e * t), a * t + b * s + c * r + 5 * (d * x + e * u), a * u + b * t + c * s + d * r + 5 * (e * x), a * x + b * u + c * t + d * s + e * r]
theorem mm (a b m n : Nat) : (m * a) * (n * b) = (m * n) * (a * b) := Nat.mul_mul_mul_comm _ _ _ _
theorem mulr_val (a b c d e r s t u x : Nat) : val (mulr a b c d e r s t u x) + (b * x + c * u + d * t + e * s + 67108864 * (c * x + d * u + e * t) + 4503599627370496 * (d * x + e * u) + 302231454903657293676544 * (e * x)) * pr = val [a, b, c, d, e] * val [r, s, t, u, x] := by
  have h2 : ∀ m p q : Nat, p * (m * q) = m * (p * q) := fun m p q => Nat.mul_left_comm _ _ _
  rw [Nat.mul_comm _ pr]
  simp only [mulr, val5, pr, Nat.add_mul, Nat.mul_add, Nat.mul_assoc, h2 67108864 a, h2 67108864 b, h2 67108864 c, h2 67108864 d, h2 67108864 e, h2 4503599627370496 a, h2 4503599627370496 b, h2 4503599627370496 c, h2 4503599627370496 d, h2 4503599627370496 e, h2 302231454903657293676544 a, h2 302231454903657293676544 b, h2 302231454903657293676544 c, h2 302231454903657293676544 d, h2 302231454903657293676544 e, h2 20282409603651670423947251286016 a, h2 20282409603651670423947251286016 b, h2 20282409603651670423947251286016 c, h2 20282409603651670423947251286016 d, h2 20282409603651670423947251286016 e]
  omega

/-- The five limbs of a number. -/
def limbsN (n : Nat) : List Nat := [n % 67108864, n / 67108864 % 67108864, n / 4503599627370496 % 67108864, n / 302231454903657293676544 % 67108864, n / 20282409603651670423947251286016 % 67108864]
theorem limbsN_L5 (n : Nat) : L5 67108864 (limbsN n) :=
  ⟨_, _, _, _, _, rfl, Nat.mod_lt _ (by decide), Nat.mod_lt _ (by decide), Nat.mod_lt _ (by decide), Nat.mod_lt _ (by decide), Nat.mod_lt _ (by decide)⟩
theorem L5.mono {k j : Nat} {v : List Nat} (h : L5 k v) (hk : k ≤ j) : L5 j v := by
  obtain ⟨a, b, c, d, e, rfl, h1, h2, h3, h4, h5⟩ := h
  exact ⟨a, b, c, d, e, rfl, by omega, by omega, by omega, by omega, by omega⟩
theorem L5.val_lt {v : List Nat} (h : L5 67108864 v) : val v < 1361129467683753853853498429727072845824 := by
  obtain ⟨a, b, c, d, e, rfl, h1, h2, h3, h4, h5⟩ := h
  rw [val5]; omega
theorem limbsN_val {v : List Nat} (h : L5 67108864 v) : limbsN (val v) = v := by
  obtain ⟨a, b, c, d, e, rfl, h1, h2, h3, h4, h5⟩ := h
  rw [val5]; unfold limbsN
  congr 1
  · omega
  congr 1
  · omega
  congr 1
  · omega
  congr 1
  · omega
  congr 1
  omega
theorem val_limbsN (n : Nat) (h : n < 1361129467683753853853498429727072845824) : val (limbsN n) = n := by
  unfold limbsN; rw [val5]; omega

theorem or_two_pow (x r : Nat) (h : x < 2 ^ r) : x ||| 2 ^ r = x + 2 ^ r := by
  have := Nat.two_pow_add_eq_or_of_lt h 1
  rw [Nat.mul_one] at this
  rw [Nat.or_comm, ← this, Nat.add_comm]
theorem bitStep' (q R m : Nat) (hq : q < 5) (hR : R ≤ 33554432) (hm : m < R * 67108864 ^ q) :
    (limbsN m).getD q 0 < R ∧ (limbsN m).set q ((limbsN m).getD q 0 + R) = limbsN (m + R * 67108864 ^ q) := by
  obtain rfl | rfl | rfl | rfl | rfl : q = 0 ∨ q = 1 ∨ q = 2 ∨ q = 3 ∨ q = 4 := by omega
  all_goals
    simp only [Nat.reducePow, Nat.mul_one, Nat.pow_zero] at hm
    simp only [limbsN, Nat.reducePow, Nat.mul_one, Nat.pow_zero, List.getD_cons_zero, List.getD_cons_succ, List.set_cons_zero, List.set_cons_succ]
    refine ⟨by omega, ?_⟩
    congr 1
    · omega
    congr 1
    · omega
    congr 1
    · omega
    congr 1
    · omega
    congr 1
    omega
theorem bitStep (m at_ : Nat) (hat : at_ < 130) (hm : m < 2 ^ at_) :
    (limbsN m).set (at_ / 26) ((limbsN m).getD (at_ / 26) 0 ||| 2 ^ (at_ % 26)) = limbsN (m + 2 ^ at_) := by
  have e : 2 ^ at_ = 2 ^ (at_ % 26) * 67108864 ^ (at_ / 26) := by
    rw [show (67108864 : Nat) = 2 ^ 26 from rfl, ← Nat.pow_mul, ← Nat.pow_add]
    congr 1; omega
  have hR : 2 ^ (at_ % 26) ≤ 33554432 := by
    have := Nat.pow_le_pow_right (n := 2) (by decide) (show at_ % 26 ≤ 25 by omega)
    exact this
  have h := bitStep' (at_ / 26) (2 ^ (at_ % 26)) m (by omega) hR (by rw [← e]; exact hm)
  rw [or_two_pow _ _ h.1, h.2, ← e]

/-- A byte's share of the limbs, as the reference lays it. -/
def byteIn (v : List Nat) (i b : Nat) : List Nat :=
  let u := v.set (8 * i / 26) (v.getD (8 * i / 26) 0 + b * 2 ^ (8 * i % 26) % 67108864)
  if 18 < 8 * i % 26 ∧ 8 * i / 26 < 4 then u.set (8 * i / 26 + 1) (u.getD (8 * i / 26 + 1) 0 + b / 2 ^ (26 - 8 * i % 26)) else u
theorem byteStep (i m b : Nat) (hi : i < 17) (hm : m < 256 ^ i) (hb : b < 256) : byteIn (limbsN m) i b = limbsN (m + b * 256 ^ i) := by
  obtain rfl | rfl | rfl | rfl | rfl | rfl | rfl | rfl | rfl | rfl | rfl | rfl | rfl | rfl | rfl | rfl | rfl : i = 0 ∨ i = 1 ∨ i = 2 ∨ i = 3 ∨ i = 4 ∨ i = 5 ∨ i = 6 ∨ i = 7 ∨ i = 8 ∨ i = 9 ∨ i = 10 ∨ i = 11 ∨ i = 12 ∨ i = 13 ∨ i = 14 ∨ i = 15 ∨ i = 16 := by omega
  all_goals
    simp only [Nat.reducePow, Nat.pow_zero] at hm
    simp [byteIn, limbsN, -List.cons.injEq]
    congr 1
    · omega
    congr 1
    · omega
    congr 1
    · omega
    congr 1
    · omega
    congr 1
    omega

/-- Byte i of limbs, as the reference reads it. -/
def byteOut (v : List Nat) (i : Nat) : Nat :=
  (if 18 < 8 * i % 26 then v.getD (8 * i / 26) 0 / 2 ^ (8 * i % 26) + v.getD (8 * i / 26 + 1) 0 * 2 ^ (26 - 8 * i % 26) else v.getD (8 * i / 26) 0 / 2 ^ (8 * i % 26)) % 256
theorem byteOut_val (v : List Nat) (h : L5 67108864 v) (i : Nat) (hi : i < 16) : byteOut v i = val v / 256 ^ i % 256 := by
  obtain ⟨a, b, c, d, e, rfl, h1, h2, h3, h4, h5⟩ := h
  obtain rfl | rfl | rfl | rfl | rfl | rfl | rfl | rfl | rfl | rfl | rfl | rfl | rfl | rfl | rfl | rfl : i = 0 ∨ i = 1 ∨ i = 2 ∨ i = 3 ∨ i = 4 ∨ i = 5 ∨ i = 6 ∨ i = 7 ∨ i = 8 ∨ i = 9 ∨ i = 10 ∨ i = 11 ∨ i = 12 ∨ i = 13 ∨ i = 14 ∨ i = 15 := by omega
  all_goals
    rw [val5]
    simp [byteOut]
    try omega

/-- The number of the first i bytes, the lowest first. -/
def numF (f : Nat → Nat) : Nat → Nat
  | 0 => 0
  | i + 1 => numF f i + f i * 256 ^ i
theorem numF_lt (f : Nat → Nat) (hf : ∀ j, f j < 256) : ∀ i, numF f i < 256 ^ i
  | 0 => by simp [numF]
  | i + 1 => by
    have h := numF_lt f hf i
    have hb := hf i
    have : f i * 256 ^ i ≤ 255 * 256 ^ i := Nat.mul_le_mul_right _ (by omega)
    rw [numF, Nat.pow_succ]; omega
theorem numF_congr (f g : Nat → Nat) : ∀ i, (∀ j, j < i → f j = g j) → numF f i = numF g i
  | 0, _ => rfl
  | i + 1, h => by rw [numF, numF, numF_congr f g i (fun j hj => h j (by omega)), h i (by omega)]
theorem numF_zero (f : Nat → Nat) (n : Nat) (h : ∀ j, n ≤ j → f j = 0) : ∀ d, numF f (n + d) = numF f n
  | 0 => rfl
  | d + 1 => by rw [← Nat.add_assoc, numF, numF_zero f n h d, h _ (by omega), Nat.zero_mul, Nat.add_zero]

/-- The first i bytes, and b bits of the next. -/
def bitsF (f : Nat → Nat) (i b : Nat) : Nat := numF f i + f i % 2 ^ b * 256 ^ i
theorem bitsF_zero (f : Nat → Nat) (i : Nat) : bitsF f i 0 = numF f i := by simp [bitsF, Nat.mod_one]
theorem bitsF_eight (f : Nat → Nat) (hf : ∀ j, f j < 256) (i : Nat) : bitsF f i 8 = numF f (i + 1) := by
  unfold bitsF; rw [numF, Nat.mod_eq_of_lt (hf i)]
theorem bitsF_lt (f : Nat → Nat) (hf : ∀ j, f j < 256) (i b : Nat) : bitsF f i b < 2 ^ (8 * i + b) := by
  have h := numF_lt f hf i
  have h2 : f i % 2 ^ b + 1 ≤ 2 ^ b := Nat.mod_lt _ (Nat.two_pow_pos b)
  have h3 := Nat.mul_le_mul_right (256 ^ i) h2
  rw [Nat.add_mul, Nat.one_mul] at h3
  have e : 2 ^ (8 * i + b) = 2 ^ b * 256 ^ i := by rw [show (256 : Nat) = 2 ^ 8 from rfl, ← Nat.pow_mul, ← Nat.pow_add, Nat.add_comm]
  unfold bitsF; omega
theorem bitsF_step (f : Nat → Nat) (i b : Nat) : bitsF f i (b + 1) = bitsF f i b + (f i / 2 ^ b % 2) * 2 ^ (8 * i + b) := by
  have e : 2 ^ (8 * i + b) = 2 ^ b * 256 ^ i := by rw [show (256 : Nat) = 2 ^ 8 from rfl, ← Nat.pow_mul, ← Nat.pow_add, Nat.add_comm]
  unfold bitsF
  rw [e, Nat.mod_pow_succ, Nat.add_mul, ← Nat.add_assoc, ← Nat.mul_assoc, Nat.mul_comm (2 ^ b) (f i / 2 ^ b % 2)]
/-- One bit more in the limbs. -/
theorem bit_in (f : Nat → Nat) (hf : ∀ j, f j < 256) (i b : Nat) (h1 : f i / 2 ^ b % 2 = 1) (hat : 8 * i + b < 130) :
    (limbsN (bitsF f i b)).set ((8 * i + b) / 26) ((limbsN (bitsF f i b)).getD ((8 * i + b) / 26) 0 ||| 2 ^ ((8 * i + b) % 26)) = limbsN (bitsF f i (b + 1)) := by
  rw [bitStep _ _ hat (bitsF_lt f hf i b), bitsF_step, h1, Nat.one_mul]
theorem bit_out (f : Nat → Nat) (i b : Nat) (h1 : f i / 2 ^ b % 2 = 0) : bitsF f i (b + 1) = bitsF f i b := by
  rw [bitsF_step, h1, Nat.zero_mul, Nat.add_zero]

/-- A bit of limbs. -/
theorem limb_at (v : List Nat) (h : L5 67108864 v) (q : Nat) (hq : q < 5) : v.getD q 0 = val v / 67108864 ^ q % 67108864 := by
  obtain ⟨a, b, c, d, e, rfl, h1, h2, h3, h4, h5⟩ := h
  rw [val5]
  obtain rfl | rfl | rfl | rfl | rfl : q = 0 ∨ q = 1 ∨ q = 2 ∨ q = 3 ∨ q = 4 := by omega
  all_goals
    simp only [Nat.reducePow, Nat.pow_zero, List.getD_cons_zero, List.getD_cons_succ]
    omega
theorem mod_bit (x r : Nat) (hr : r < 26) : x % 67108864 / 2 ^ r % 2 = x / 2 ^ r % 2 := by
  have h := Nat.testBit_mod_two_pow x 26 r
  rw [show (2 : Nat) ^ 26 = 67108864 from rfl, decide_eq_true hr, Bool.true_and, Nat.testBit_eq_decide_div_mod_eq, Nat.testBit_eq_decide_div_mod_eq, decide_eq_decide] at h
  omega
theorem bitOut (v : List Nat) (h : L5 67108864 v) (at_ : Nat) (hat : at_ < 130) : v.getD (at_ / 26) 0 / 2 ^ (at_ % 26) % 2 = val v / 2 ^ at_ % 2 := by
  rw [limb_at v h _ (by omega), mod_bit _ _ (by omega), Nat.div_div_eq_div_mul]
  congr 2
  rw [show (67108864 : Nat) = 2 ^ 26 from rfl, ← Nat.pow_mul, ← Nat.pow_add]
  congr 1; omega
/-- The byte's next bit. -/
theorem own_step (N b : Nat) : N % 2 ^ b ||| (N / 2 ^ b % 2) * 2 ^ b = N % 2 ^ (b + 1) := by
  have hlt : N % 2 ^ b < 2 ^ b := Nat.mod_lt _ (Nat.two_pow_pos b)
  rw [Nat.mod_pow_succ, Nat.or_comm, Nat.mul_comm, ← Nat.two_pow_add_eq_or_of_lt hlt, Nat.add_comm]
theorem byte_bit (n i b : Nat) : n / 256 ^ i / 2 ^ b = n / 2 ^ (8 * i + b) := by
  rw [Nat.div_div_eq_div_mul, show (256 : Nat) = 2 ^ 8 from rfl, ← Nat.pow_mul, ← Nat.pow_add]

theorem carry_still (v : List Nat) (h : L5 67108864 v) : ∀ n, carryN v n = v
  | 0 => rfl
  | n + 1 => by
    rw [carryN, carry_still v h n]
    obtain ⟨a, b, c, d, e, rfl, h1, h2, h3, h4, h5⟩ := h
    simp only [carry, carr]
    congr 1
    · omega
    congr 1
    · omega
    congr 1
    · omega
    congr 1
    · omega
    congr 1
    omega
theorem low_red (v : List Nat) (h : L5 67108864 v) (hp : val v < pr) : limbsN (val v % pr) = v := by
  rw [Nat.mod_eq_of_lt hp, limbsN_val h]
theorem high_red (a : Nat) (h0 : 67108859 ≤ a) (h1 : a < 67108864) : limbsN (val [a, 67108863, 67108863, 67108863, 67108863] % pr) = [a - 67108859, 0, 0, 0, 0] := by
  have e : val [a, 67108863, 67108863, 67108863, 67108863] % pr = a - 67108859 := by
    rw [val5]; unfold pr; omega
  rw [e]
  generalize hx : a - 67108859 = x
  have hx' : x < 5 := by omega
  unfold limbsN
  rw [show x % 67108864 = x by omega, show x / 67108864 % 67108864 = 0 by omega, show x / 4503599627370496 % 67108864 = 0 by omega, show x / 302231454903657293676544 % 67108864 = 0 by omega, show x / 20282409603651670423947251286016 % 67108864 = 0 by omega]
/-- The reference's way to the least residue: five is added, and what comes above tells. -/
theorem less_low (a b c d e : Nat) (h : L5 67108864 [a, b, c, d, e]) (hz : (e + (d + (c + (b + (a + 5) / 67108864) / 67108864) / 67108864) / 67108864) / 67108864 = 0) : limbsN (val [a, b, c, d, e] % pr) = [a, b, c, d, e] := by
  refine low_red _ h ?_
  obtain ⟨_, _, _, _, _, e0, h1, h2, h3, h4, h5⟩ := h
  injection e0 with ea e0; injection e0 with eb e0; injection e0 with ec e0; injection e0 with ed e0; injection e0 with ee e0
  subst ea eb ec ed ee
  rw [val5]; unfold pr; omega
theorem less_high (a b c d e : Nat) (h : L5 67108864 [a, b, c, d, e]) (hz : (e + (d + (c + (b + (a + 5) / 67108864) / 67108864) / 67108864) / 67108864) / 67108864 ≠ 0) :
    limbsN (val [a, b, c, d, e] % pr) = [(a + 5) % 67108864, (b + (a + 5) / 67108864) % 67108864, (c + (b + (a + 5) / 67108864) / 67108864) % 67108864, (d + (c + (b + (a + 5) / 67108864) / 67108864) / 67108864) % 67108864, (e + (d + (c + (b + (a + 5) / 67108864) / 67108864) / 67108864) / 67108864) % 67108864] := by
  obtain ⟨_, _, _, _, _, e0, h1, h2, h3, h4, h5⟩ := h
  injection e0 with ea e0; injection e0 with eb e0; injection e0 with ec e0; injection e0 with ed e0; injection e0 with ee e0
  subst ea eb ec ed ee
  have hv : val [a, b, c, d, e] % pr = val [a, b, c, d, e] - pr := by
    rw [val5]; unfold pr; omega
  rw [hv, val5, pr]
  generalize hx : a + 67108864 * b + 4503599627370496 * c + 302231454903657293676544 * d + 20282409603651670423947251286016 * e - 1361129467683753853853498429727072845819 = x
  have e0 : x % 67108864 = (a + 5) % 67108864 := by omega
  have e1 : x / 67108864 % 67108864 = (b + (a + 5) / 67108864) % 67108864 := by omega
  have e2 : x / 4503599627370496 % 67108864 = (c + (b + (a + 5) / 67108864) / 67108864) % 67108864 := by omega
  have e3 : x / 302231454903657293676544 % 67108864 = (d + (c + (b + (a + 5) / 67108864) / 67108864) / 67108864) % 67108864 := by omega
  have e4 : x / 20282409603651670423947251286016 % 67108864 = (e + (d + (c + (b + (a + 5) / 67108864) / 67108864) / 67108864) / 67108864) % 67108864 := by omega
  unfold limbsN
  rw [e0, e1, e2, e3, e4]

/-- What is carried into byte i of the tag. -/
def tagSum (n : Nat) (k : Nat → Nat) : Nat → Nat
  | 0 => 0
  | i + 1 => (tagSum n k i + (n / 256 ^ i % 256 + k i)) / 256
theorem tagSum_le (n : Nat) (k : Nat → Nat) (hk : ∀ j, k j < 256) : ∀ i, tagSum n k i ≤ 1
  | 0 => Nat.zero_le _
  | i + 1 => by
    have h := tagSum_le n k hk i
    have h2 := hk i
    have h3 : n / 256 ^ i % 256 < 256 := Nat.mod_lt _ (by decide)
    rw [tagSum]; omega
/-- The bytes of the tag. -/
def tagNums (n : Nat) (k : Nat → Nat) : Nat → List Nat
  | 0 => []
  | i + 1 => tagNums n k i ++ [(tagSum n k i + (n / 256 ^ i % 256 + k i)) % 256]
theorem tagNums_length (n : Nat) (k : Nat → Nat) : ∀ i, (tagNums n k i).length = i
  | 0 => rfl
  | i + 1 => by rw [tagNums, List.length_append, tagNums_length n k i]; rfl

/-- The residue after j blocks. -/
def accN (blk : Nat → Nat) (r : Nat) : Nat → Nat
  | 0 => 0
  | j + 1 => (accN blk r j + blk j) * r % pr
/-- Limbs of the residue. -/
def Acc (v : List Nat) (n : Nat) : Prop := L5 67108864 v ∧ val v % pr = n % pr
def addL : List Nat → List Nat → List Nat
  | a :: v, b :: u => (a + b) :: addL v u
  | _, _ => []
def mulL : List Nat → List Nat → List Nat
  | [a, b, c, d, e], [r, s, t, u, x] => mulr a b c d e r s t u x
  | _, _ => []
theorem addL_ok {k j : Nat} {v u : List Nat} (hv : L5 k v) (hu : L5 j u) : L5 (k + j) (addL v u) ∧ val (addL v u) = val v + val u := by
  obtain ⟨a, b, c, d, e, rfl, h1, h2, h3, h4, h5⟩ := hv
  obtain ⟨r, s, t, w, x, rfl, g1, g2, g3, g4, g5⟩ := hu
  refine ⟨⟨_, _, _, _, _, rfl, by omega, by omega, by omega, by omega, by omega⟩, ?_⟩
  simp only [addL, val5]; omega
theorem mul_bd {k a b : Nat} (ha : a < k) (hb : b < 67108864) : a * b ≤ k * 67108864 := Nat.mul_le_mul (Nat.le_of_lt ha) (Nat.le_of_lt hb)
theorem mulL_ok {v u : List Nat} (hv : L5 134217728 v) (hu : L5 67108864 u) : L5 (2 ^ 60) (mulL v u) ∧ ∃ q, val (mulL v u) + q * pr = val v * val u := by
  obtain ⟨a, b, c, d, e, rfl, h1, h2, h3, h4, h5⟩ := hv
  obtain ⟨r, s, t, w, x, rfl, g1, g2, g3, g4, g5⟩ := hu
  refine ⟨⟨_, _, _, _, _, rfl, ?_, ?_, ?_, ?_, ?_⟩, _, mulr_val a b c d e r s t w x⟩
  · have := mul_bd h1 g1; have := mul_bd h2 g5; have := mul_bd h3 g4; have := mul_bd h4 g3; have := mul_bd h5 g2; omega
  · have := mul_bd h1 g2; have := mul_bd h2 g1; have := mul_bd h3 g5; have := mul_bd h4 g4; have := mul_bd h5 g3; omega
  · have := mul_bd h1 g3; have := mul_bd h2 g2; have := mul_bd h3 g1; have := mul_bd h4 g5; have := mul_bd h5 g4; omega
  · have := mul_bd h1 g4; have := mul_bd h2 g3; have := mul_bd h3 g2; have := mul_bd h4 g1; have := mul_bd h5 g5; omega
  · have := mul_bd h1 g5; have := mul_bd h2 g4; have := mul_bd h3 g3; have := mul_bd h4 g2; have := mul_bd h5 g1; omega
/-- A block more, the program's way (carried after the sum) and the reference's (carried once). -/
theorem acc_impl {h m r : List Nat} {n : Nat} (ha : Acc h n) (hm : L5 67108864 m) (hr : L5 67108864 r) :
    Acc (carryN (mulL (carryN (addL h m) 3) r) 3) ((n + val m) * val r % pr) ∧ L5 (2 ^ 60) (addL h m) ∧ L5 67108864 (carryN (addL h m) 3) ∧ L5 (2 ^ 60) (mulL (carryN (addL h m) 3) r) := by
  obtain ⟨h1, h2⟩ := ha
  obtain ⟨s1, s2⟩ := addL_ok h1 hm
  have s1' := s1.mono (show 67108864 + 67108864 ≤ 2 ^ 60 by decide)
  obtain ⟨c1, q1, e1⟩ := carry3 _ s1'
  obtain ⟨m1, q2, e2⟩ := mulL_ok (c1.mono (by decide)) hr
  obtain ⟨c2, q3, e3⟩ := carry3 _ m1
  refine ⟨⟨c2, ?_⟩, s1', c1, m1⟩
  have k3 := congrArg (· % pr) e3; have k2 := congrArg (· % pr) e2; have k1 := congrArg (· % pr) e1
  simp only [Nat.add_mul_mod_self_right] at k1 k2 k3
  rw [k3, k2, Nat.mod_mod, Nat.mul_mod, k1, s2, Nat.add_mod, h2, ← Nat.add_mod, ← Nat.mul_mod]
theorem acc_spec {h m r : List Nat} {n : Nat} (ha : Acc h n) (hm : L5 67108864 m) (hr : L5 67108864 r) :
    Acc (carryN (mulL (addL h m) r) 3) ((n + val m) * val r % pr) ∧ L5 134217728 (addL h m) ∧ L5 (2 ^ 60) (mulL (addL h m) r) := by
  obtain ⟨h1, h2⟩ := ha
  obtain ⟨s1, s2⟩ := addL_ok h1 hm
  obtain ⟨m1, q2, e2⟩ := mulL_ok s1 hr
  obtain ⟨c2, q3, e3⟩ := carry3 _ m1
  refine ⟨⟨c2, ?_⟩, s1, m1⟩
  have k3 := congrArg (· % pr) e3; have k2 := congrArg (· % pr) e2
  simp only [Nat.add_mul_mod_self_right] at k2 k3
  rw [k3, k2, Nat.mod_mod, Nat.mul_mod, s2, Nat.add_mod, h2, ← Nat.add_mod, ← Nat.mul_mod]
theorem acc_zero : Acc [0, 0, 0, 0, 0] 0 := ⟨⟨_, _, _, _, _, rfl, by decide, by decide, by decide, by decide, by decide⟩, rfl⟩
end Go.Proofs.Ytihpnededldedaa.Pol
