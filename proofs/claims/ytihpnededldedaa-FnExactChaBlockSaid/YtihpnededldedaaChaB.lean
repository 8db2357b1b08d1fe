/- The block of the stream in plain words: sixteen words, twenty rounds, the sums' bytes. Conditions: none. -/
import Derived.Test.YtihpnededldedaaChaR
namespace Go.Proofs.Ytihpnededldedaa.Leaf
open Go.RowKit Go.Shelf Go.Proofs.YtihpnededldedaaW.PrintWords Go.Proofs.YtihpnededldedaaW.PrintLast Go.Proofs.YtihpnededldedaaW.PrintMore Go.Proofs.Ytihpnededldedaa.PCha

/-- The word of four bytes of a string, from byte i on, the lowest first. -/
def wordAt (s : ByteArray) (i : Nat) : Nat := le32 (bt s (i : Int)).toNat (bt s ((i + 1 : Nat) : Int)).toNat (bt s ((i + 2 : Nat) : Int)).toNat (bt s ((i + 3 : Nat) : Int)).toNat
theorem wordAt_lt (s : ByteArray) (i : Nat) : wordAt s i < 2 ^ 32 := by
  have h := fun j => bt_range s j
  refine (le32_lt _ _ _ _ ?_ ?_ ?_ ?_).2.2
  · have := h (i : Int); omega
  · have := h ((i + 1 : Nat) : Int); omega
  · have := h ((i + 2 : Nat) : Int); omega
  · have := h ((i + 3 : Nat) : Int); omega

theorem l02Word_some (s : ByteArray) (i : Nat) (h : i + 4 ≤ s.size) (hs : s.size ≤ 1000000) : spec_l02Word.f s (i : Int) = some ((wordAt s i : Nat) : Int) := by
  have w1 : wrap64 ((i : Int) + 1) = ((i + 1 : Nat) : Int) := by rw [wrap_ok _ (by omega) (by omega)]; omega
  have w2 : wrap64 ((i : Int) + 2) = ((i + 2 : Nat) : Int) := by rw [wrap_ok _ (by omega) (by omega)]; omega
  have w3 : wrap64 ((i : Int) + 3) = ((i + 3 : Nat) : Int) := by rw [wrap_ok _ (by omega) (by omega)]; omega
  have p0 : (0 : Int) ≤ (i : Int) := by omega
  have p1 : (0 : Int) ≤ ((i + 1 : Nat) : Int) := by omega
  have p2 : (0 : Int) ≤ ((i + 2 : Nat) : Int) := by omega
  have p3 : (0 : Int) ≤ ((i + 3 : Nat) : Int) := by omega
  have q0 : (i : Int) < (s.size : Int) := by omega
  have q1 : ((i + 1 : Nat) : Int) < (s.size : Int) := by omega
  have q2 : ((i + 2 : Nat) : Int) < (s.size : Int) := by omega
  have q3 : ((i + 3 : Nat) : Int) < (s.size : Int) := by omega
  unfold spec_l02Word.f wordAt
  rw [w1, w2, w3, if_pos p0, if_pos q0, if_pos p1, if_pos q1, if_pos p2, if_pos q2, if_pos p3, if_pos q3]
  have a0 := bt_range s (i : Int); have a1 := bt_range s ((i + 1 : Nat) : Int); have a2 := bt_range s ((i + 2 : Nat) : Int); have a3 := bt_range s ((i + 3 : Nat) : Int)
  generalize bt s (i : Int) = b0 at *
  generalize bt s ((i + 1 : Nat) : Int) = b1 at *
  generalize bt s ((i + 2 : Nat) : Int) = b2 at *
  generalize bt s ((i + 3 : Nat) : Int) = b3 at *
  clear w1 w2 w3 p0 p1 p2 p3 q0 q1 q2 q3
  obtain ⟨x0, rfl⟩ := Int.eq_ofNat_of_zero_le a0.1
  obtain ⟨x1, rfl⟩ := Int.eq_ofNat_of_zero_le a1.1
  obtain ⟨x2, rfl⟩ := Int.eq_ofNat_of_zero_le a2.1
  obtain ⟨x3, rfl⟩ := Int.eq_ofNat_of_zero_le a3.1
  rw [le32_i64 x0 x1 x2 x3 (by omega) (by omega) (by omega) (by omega)]
  simp only [Int.toNat_natCast]

/-- Places off, off + 1, .. take f 0, f 1, .. -/
def fillN (f : Nat → Nat) (off : Nat) : Nat → List Nat → List Nat
  | 0, v => v
  | i + 1, v => (fillN f off i v).set (off + i) (f i)
theorem fillN_length (f : Nat → Nat) (off : Nat) : ∀ (i : Nat) (v : List Nat), (fillN f off i v).length = v.length
  | 0, _ => rfl
  | i + 1, v => by simp [fillN, fillN_length f off i v]
def zeros16 : List Nat := [0, 0, 0, 0, 0, 0, 0, 0, 0, 0, 0, 0, 0, 0, 0, 0]
/-- "expand 32-byte k" -/
abbrev chaConst : ByteArray := ⟨#[101, 120, 112, 97, 110, 100, 32, 51, 50, 45, 98, 121, 116, 101, 32, 107]⟩
def first1 : List Nat := fillN (fun i => wordAt chaConst (4 * i)) 0 4 zeros16
def first2 (key : ByteArray) : List Nat := fillN (fun i => wordAt key (4 * i)) 4 8 first1
def firstW (key nonce : ByteArray) (count : Nat) : List Nat := fillN (fun i => wordAt nonce (4 * i)) 13 3 ((first2 key).set 12 count)
def halfA (v : List Nat) : Nat → List Nat
  | 0 => v
  | k + 1 => rnd (halfA v k) k (4 + k) (8 + k) (12 + k)
def halfB (v : List Nat) : Nat → List Nat
  | 0 => v
  | k + 1 => rnd (halfB v k) k (4 + (k + 1) % 4) (8 + (k + 2) % 4) (12 + (k + 3) % 4)
def rounds20 (v : List Nat) : Nat → List Nat
  | 0 => v
  | i + 1 => halfB (halfA (rounds20 v i) 4) 4
/-- The bytes of the first i of sixteen sums. -/
def sumBytes (v f : List Nat) : Nat → List Int
  | 0 => []
  | i + 1 => sumBytes v f i ++ littleNums (((v.getD i 0 + f.getD i 0) % 2 ^ 32 : Nat) : Int) 4
def chaBlk (key nonce : ByteArray) (count : Nat) : ByteArray := strOfNums (sumBytes (rounds20 (firstW key nonce count) 10) (firstW key nonce count) 16)

/-- Sixteen words of 32 bits. -/
def W16 (v : List Nat) : Prop := v.length = 16 ∧ ∀ j, v.getD j 0 < 2 ^ 32
theorem getD_set_lt (v : List Nat) (hv : ∀ j, v.getD j 0 < 2 ^ 32) (i n : Nat) (hn : n < 2 ^ 32) : ∀ j, (v.set i n).getD j 0 < 2 ^ 32 := by
  intro j
  by_cases e : i = j
  · subst e
    by_cases hi : i < v.length
    · simpa [List.getD_eq_getElem?_getD, hi] using hn
    · simp [List.getD_eq_getElem?_getD, hi]
  · have := hv j
    simpa [List.getD_eq_getElem?_getD, e] using this
theorem W16.set {v : List Nat} (h : W16 v) (i n : Nat) (hn : n < 2 ^ 32) : W16 (v.set i n) := ⟨by simp [h.1], getD_set_lt v h.2 i n hn⟩
theorem W16.fillN {v : List Nat} (h : W16 v) (f : Nat → Nat) (hf : ∀ j, f j < 2 ^ 32) (off : Nat) : ∀ i, W16 (fillN f off i v)
  | 0 => h
  | i + 1 => (W16.fillN h f hf off i).set _ _ (hf i)
theorem qr_lt (a b c d : Nat) : ∀ j, (qr a b c d).getD j 0 < 2 ^ 32 := by
  intro j
  match j with
  | 0 => exact Nat.mod_lt _ (by decide)
  | 1 => exact rotl_lt _ _
  | 2 => exact Nat.mod_lt _ (by decide)
  | 3 => exact rotl_lt _ _
  | j + 4 => exact Nat.pos_of_ne_zero (by decide)
theorem W16.rnd {v : List Nat} (h : W16 v) (a b c d : Nat) : W16 (rnd v a b c d) :=
  (((h.set _ _ (qr_lt _ _ _ _ _)).set _ _ (qr_lt _ _ _ _ _)).set _ _ (qr_lt _ _ _ _ _)).set _ _ (qr_lt _ _ _ _ _)
theorem W16.halfA {v : List Nat} (h : W16 v) : ∀ k, W16 (halfA v k)
  | 0 => h
  | k + 1 => (W16.halfA h k).rnd _ _ _ _
theorem W16.halfB {v : List Nat} (h : W16 v) : ∀ k, W16 (halfB v k)
  | 0 => h
  | k + 1 => (W16.halfB h k).rnd _ _ _ _
theorem W16.rounds20 {v : List Nat} (h : W16 v) : ∀ i, W16 (rounds20 v i)
  | 0 => h
  | i + 1 => ((W16.rounds20 h i).halfA 4).halfB 4
theorem zeros16_ok : W16 zeros16 := ⟨rfl, fun j => by
  rcases Nat.lt_or_ge j 16 with h | h
  · have : ∀ j : Fin 16, zeros16.getD j.val 0 < 2 ^ 32 := by decide
    exact this ⟨j, h⟩
  · have : zeros16.getD j 0 = 0 := by simp [List.getD_eq_getElem?_getD, zeros16, h]
    rw [this]; decide⟩
theorem firstW_ok (key nonce : ByteArray) (count : Nat) (hc : count < 2 ^ 32) : W16 (firstW key nonce count) :=
  (((zeros16_ok.fillN _ (fun _ => wordAt_lt _ _) _ _).fillN _ (fun _ => wordAt_lt _ _) _ _).set _ _ hc).fillN _ (fun _ => wordAt_lt _ _) _ _

theorem wadd (c : Int) (k : Nat) (h0 : 0 ≤ c) (h1 : c ≤ 1000) (hk : k ≤ 1000) : wrap64 (c + (k : Int)) = c + (k : Int) := by unfold wrap64; omega
theorem mul4 (i : Nat) (h : i ≤ 1000000) : wrap64 (4 * (i : Int)) = ((4 * i : Nat) : Int) := by rw [wrap_ok _ (by omega) (by omega)]; omega

theorem info16 {v : List Nat} (h : v.length = 16) : (Try.prog.info? 72).map (·.size) = some (wds .i64 v).size := by
  rw [wds_size, h]; kernel_rfl
theorem size16 {v u : List Nat} (h : v.length = 16) (g : u.length = 16) : (wds .i64 v).size = (wds .i64 u).size := by rw [wds_size, wds_size, h, g]
theorem roundA_at (v : List Nat) (h : W16 v) (k : Nat) (hk : k < 4) (W : World) : Calls Try.prog 76 #[.agg (wds .i64 (halfA v k)), .int .i64 k, .int .i64 (4 + (k : Int)), .int .i64 (8 + (k : Int)), .int .i64 (12 + (k : Int))] W fun e w' => e = .returned (.agg (wds .i64 (halfA v (k + 1)))) ∧ Below W.heap.size W w' := by
  have U := h.halfA k
  have hR := l02Round_calls (halfA v k) U.1 U.2 k (4 + k) (8 + k) (12 + k) (by omega) (by omega) (by omega) (by omega) W
  rw [show ((4 + k : Nat) : Int) = 4 + (k : Int) by omega, show ((8 + k : Nat) : Int) = 8 + (k : Int) by omega, show ((12 + k : Nat) : Int) = 12 + (k : Int) by omega] at hR
  exact hR
theorem roundB_at (v : List Nat) (h : W16 v) (k : Nat) (hk : k < 4) (W : World) : Calls Try.prog 76 #[.agg (wds .i64 (halfB v k)), .int .i64 k, .int .i64 (4 + (((k + 1) % 4 : Nat) : Int)), .int .i64 (8 + (((k + 2) % 4 : Nat) : Int)), .int .i64 (12 + (((k + 3) % 4 : Nat) : Int))] W fun e w' => e = .returned (.agg (wds .i64 (halfB v (k + 1)))) ∧ Below W.heap.size W w' := by
  have U := h.halfB k
  have hR := l02Round_calls (halfB v k) U.1 U.2 k (4 + (k + 1) % 4) (8 + (k + 2) % 4) (12 + (k + 3) % 4) (by omega) (by omega) (by omega) (by omega) W
  rw [show ((4 + (k + 1) % 4 : Nat) : Int) = 4 + (((k + 1) % 4 : Nat) : Int) by omega, show ((8 + (k + 2) % 4 : Nat) : Int) = 8 + (((k + 2) % 4 : Nat) : Int) by omega, show ((12 + (k + 3) % 4 : Nat) : Int) = 12 + (((k + 3) % 4 : Nat) : Int) by omega] at hR
  exact hR
theorem remK (k j : Nat) (hk : k < 4) (hj : j ≤ 3) : wrap64 ((k : Int) + (j : Int)) = (k : Int) + (j : Int) ∧ Int.tmod ((k : Int) + (j : Int)) 4 = (((k + j) % 4 : Nat) : Int) ∧ ((k : Int) + (j : Int)) % 4 = (((k + j) % 4 : Nat) : Int) := by
  refine ⟨by unfold wrap64; omega, ?_, by omega⟩
  rw [Int.tmod_eq_emod_of_nonneg (by omega)]; omega

theorem roundB_all (v : List Nat) (h : W16 v) (k : Nat) (hk : k < 4) : ∃ q1 q2 q3 : Int,
    (wrap64 ((k : Int) + 1) = (k : Int) + 1 ∧ Int.tmod ((k : Int) + 1) 4 = q1 ∧ ((k : Int) + 1) % 4 = q1 ∧ wrap64 (4 + q1) = 4 + q1) ∧
    (wrap64 ((k : Int) + 2) = (k : Int) + 2 ∧ Int.tmod ((k : Int) + 2) 4 = q2 ∧ ((k : Int) + 2) % 4 = q2 ∧ wrap64 (8 + q2) = 8 + q2) ∧
    (wrap64 ((k : Int) + 3) = (k : Int) + 3 ∧ Int.tmod ((k : Int) + 3) 4 = q3 ∧ ((k : Int) + 3) % 4 = q3 ∧ wrap64 (12 + q3) = 12 + q3) ∧
    ∀ W, Calls Try.prog 76 #[.agg (wds .i64 (halfB v k)), .int .i64 k, .int .i64 (4 + q1), .int .i64 (8 + q2), .int .i64 (12 + q3)] W fun e w' => e = .returned (.agg (wds .i64 (halfB v (k + 1)))) ∧ Below W.heap.size W w' := by
  obtain ⟨a1, b1, d1⟩ := remK k 1 hk (by decide)
  obtain ⟨a2, b2, d2⟩ := remK k 2 hk (by decide)
  obtain ⟨a3, b3, d3⟩ := remK k 3 hk (by decide)
  exact ⟨_, _, _, ⟨a1, b1, d1, wadd 4 ((k + 1) % 4) (by decide) (by decide) (by omega)⟩, ⟨a2, b2, d2, wadd 8 ((k + 2) % 4) (by decide) (by decide) (by omega)⟩, ⟨a3, b3, d3, wadd 12 ((k + 3) % 4) (by decide) (by decide) (by omega)⟩, fun W => roundB_at v h k hk W⟩

end Go.Proofs.Ytihpnededldedaa.Leaf
