/-
  What the law's helpers mark in a device they hold again. In plain words. Conditions: lengths below two millions.
-/
import Derived.Test.YtkmecmcioniooaaDevP
import Derived.Test.YtkmecmcioniooaaPDevx8
import Derived.Test.YtkmecmcioniooaaPDevx9
import Derived.Test.YtkmecmcioniooaaPDevx7
namespace Go.Proofs.Ytkmecmcioniooaa.Leaf
open Go.RowKit Go.Proofs.YtkmecmcioniooaaW.PrintWords Go.Proofs.YtkmecmcioniooaaW.PrintLast Go.Proofs.YtkmecmcioniooaaW.PrintMore Go.Proofs.Ytkmecmcioniooaa.PDev

theorem mt_loop (d : Nat) : ∀ (k : Nat) (v : Int) (x : ByteArray), 0 ≤ v → v < 10 ^ d → v ≤ 1000000000 → d < k → x.size + d ≤ 1000 → ∃ r, laws_markText.l0 k v x = some r := by
  induction d with
  | zero =>
    intro k v x h0 h1 _ hk hx
    obtain ⟨k, rfl⟩ : ∃ m, k = m + 1 := ⟨k - 1, by omega⟩
    simp only [laws_markText.l0]
    rw [if_neg (by omega), if_pos (by omega)]
    exact ⟨_, rfl⟩
  | succ d ih =>
    intro k v x h0 h1 hb hk hx
    obtain ⟨k, rfl⟩ : ∃ m, k = m + 1 := ⟨k - 1, by omega⟩
    simp only [laws_markText.l0]
    by_cases c : v > 0
    · rw [if_pos c]
      simp only [Option.bind_some]
      have hs : (strOfNums [(wrap64 (48 + (Int.tmod v 10))) % 256]).size = 1 := by rw [strOfNums_size]; rfl
      generalize strOfNums [(wrap64 (48 + (Int.tmod v 10))) % 256] = y at hs
      rw [if_pos (by omega)]
      have e : Int.tdiv v 10 = v / 10 := Int.tdiv_eq_ediv_of_nonneg h0
      rw [Int.pow_succ] at h1
      rw [e, wrap_ok (v / 10) (by omega) (by omega)]
      exact ih k (v / 10) (y ++ x) (by omega) (by omega) (by omega) (by omega) (by rw [ByteArray.size_append]; omega)
    · rw [if_neg c, if_pos (by omega)]
      exact ⟨_, rfl⟩
theorem mt_ex (v : Int) (h0 : 0 ≤ v) (h1 : v ≤ 100000000) : ∃ r, laws_markText.f 30 v = some r := by
  unfold laws_markText.f
  by_cases c : v ≤ 0
  · rw [if_pos c]; exact ⟨_, rfl⟩
  · rw [if_neg c]
    exact mt_loop 20 30 v _ h0 (by omega) (by omega) (by decide) (by decide)
def mt (v : Int) : ByteArray := (laws_markText.f 30 v).getD ⟨#[]⟩
theorem mt_some (k : Nat) (v : Int) (hk : 30 ≤ k) (h0 : 0 ≤ v) (h1 : v ≤ 100000000) : laws_markText.f k v = some (mt v) := by
  obtain ⟨r, hr⟩ := mt_ex v h0 h1
  have : mt v = r := by rw [mt, hr]; rfl
  rw [this]
  exact at_rounds (g := fun k => laws_markText.f k v) (fun k => laws_markText.mono v k) hk hr
theorem markS_loop (d : Nat) : ∀ (i : Nat) (xs : List ByteArray) (v : Int), i + d = xs.length → 0 ≤ v → v + d ≤ 100000000 → xs.length ≤ 100000000 →
    ∃ ys, (∀ k, d + 31 < k → laws_markStringS.l0 k xs v (i : Int) = some (v + d, ys)) ∧ ys.length = xs.length ∧ (∀ j, j < i → ys.getD j ⟨#[]⟩ = xs.getD j ⟨#[]⟩) ∧ (∀ j, i ≤ j → j < xs.length → ys.getD j ⟨#[]⟩ = mt (v + ((j - i : Nat) : Int))) := by
  induction d with
  | zero =>
    intro i xs v hi _ _ _
    refine ⟨xs, fun k hk => ?_, rfl, fun _ _ => rfl, fun j h1 h2 => by omega⟩
    obtain ⟨k, rfl⟩ : ∃ m, k = m + 1 := ⟨k - 1, by omega⟩
    simp only [laws_markStringS.l0]
    rw [if_neg (by omega)]; simp
  | succ d ih =>
    intro i xs v hi hv hm hl
    obtain ⟨ys, h1, h2, h3, h4⟩ := ih (i + 1) (xs.set i (mt v)) (v + 1) (by simp; omega) (by omega) (by omega) (by simpa using hl)
    refine ⟨ys, fun k hk => ?_, by simpa using h2, ?_, ?_⟩
    · obtain ⟨k, rfl⟩ : ∃ m, k = m + 1 := ⟨k - 1, by omega⟩
      simp only [laws_markStringS.l0]
      rw [if_pos (by omega), mt_some k v (by omega) hv (by omega), Option.bind_some, if_pos (by omega), wrap_ok (v + 1) (by omega) (by omega), wrap_ok ((i : Int) + 1) (by omega) (by omega), Int.toNat_natCast]
      have := h1 k (by omega)
      rw [show ((i + 1 : Nat) : Int) = (i : Int) + 1 by omega] at this
      rw [this]
      congr 2; omega
    · intro j hj
      rw [h3 j (by omega)]
      simp [List.getD_eq_getElem?_getD, show ¬ i = j by omega]
    · intro j hj1 hj2
      by_cases e : i = j
      · subst e
        rw [h3 i (by omega)]
        simp [List.getD_eq_getElem?_getD, hj2]
      · rw [h4 j (by omega) (by simpa using hj2)]
        congr 1; omega
theorem heldS_loop (d : Nat) : ∀ (k i : Nat) (ys : List ByteArray) (v : Int), i + d = ys.length → d + 31 < k → 0 ≤ v → v + d ≤ 100000000 → ys.length ≤ 100000000 →
    (∀ j, i ≤ j → j < ys.length → ys.getD j ⟨#[]⟩ = mt (v + ((j - i : Nat) : Int))) → laws_heldStringS.l0 k ys v (i : Int) = some (v + d) := by
  induction d with
  | zero =>
    intro k i ys v hi hk _ _ _ _
    obtain ⟨k, rfl⟩ : ∃ m, k = m + 1 := ⟨k - 1, by omega⟩
    simp only [laws_heldStringS.l0]
    rw [if_neg (by omega)]; simp
  | succ d ih =>
    intro k i ys v hi hk hv hm hl hy
    obtain ⟨k, rfl⟩ : ∃ m, k = m + 1 := ⟨k - 1, by omega⟩
    simp only [laws_heldStringS.l0]
    have e := hy i (by omega) (by omega)
    have e2 : rdOf ByteArray.empty ys (i : Int) = mt v := by
      have : rdOf ByteArray.empty ys (i : Int) = ys.getD i ⟨#[]⟩ := by simp only [rdOf, Int.toNat_natCast]; rfl
      rw [this, e]; simp
    rw [if_pos (by omega), if_pos (by omega), mt_some k v (by omega) hv (by omega), Option.bind_some, e2, if_pos rfl, wrap_ok (v + 1) (by omega) (by omega), wrap_ok ((i : Int) + 1) (by omega) (by omega)]
    have := ih k (i + 1) ys (v + 1) (by omega) (by omega) (by omega) (by omega) hl (fun j h1 h2 => by rw [hy j (by omega) h2]; congr 1; omega)
    rw [show ((i + 1 : Nat) : Int) = (i : Int) + 1 by omega] at this
    rw [this]
    congr 1; omega
/-- What is marked is held: a list of texts. -/
theorem markS_held (xs : List ByteArray) (v : Int) (h0 : 0 ≤ v) (hv : v + xs.length ≤ 100000000) : ∃ ys, Ev (fun k => laws_markStringS.f k xs v) (v + (xs.length : Int), ys) ∧ Ev (fun k => laws_heldStringS.f k ys v) (v + (xs.length : Int)) := by
  obtain ⟨ys, h1, h2, _, h4⟩ := markS_loop xs.length 0 xs v (by omega) h0 (by omega) (by omega)
  refine ⟨ys, ⟨xs.length + 32, fun k hk => h1 k (by omega)⟩, xs.length + 32, fun k hk => ?_⟩
  exact heldS_loop xs.length k 0 ys v (by omega) (by omega) h0 (by omega) (by omega) (fun j a b => h4 j a (by omega))

theorem rdI_getD (l : List S55) (i : Nat) : rd_T55 l (i : Int) = l.getD i z55 := by unfold rd_T55; rw [Int.toNat_natCast]
theorem markI_loop (d : Nat) : ∀ (i : Nat) (xs : List S55) (v : Int), i + d = xs.length → 0 ≤ v → v + 2 * d ≤ 50000000 → xs.length ≤ 50000000 →
    ∃ ys, (∀ k, d + 31 < k → laws_markIoS.l0 k xs v (i : Int) = some (v + 2 * d, ys)) ∧ ys.length = xs.length ∧ (∀ j, j < i → ys.getD j z55 = xs.getD j z55) ∧ (∀ j, i ≤ j → j < xs.length → ys.getD j z55 = ⟨v + 2 * ((j - i : Nat) : Int), mt (v + 2 * ((j - i : Nat) : Int) + 1)⟩) := by
  induction d with
  | zero =>
    intro i xs v hi _ _ _
    refine ⟨xs, fun k hk => ?_, rfl, fun _ _ => rfl, fun j h1 h2 => by omega⟩
    obtain ⟨k, rfl⟩ : ∃ m, k = m + 1 := ⟨k - 1, by omega⟩
    simp only [laws_markIoS.l0]
    rw [if_neg (by omega)]; simp
  | succ d ih =>
    intro i xs v hi hv hm hl
    obtain ⟨ys, h1, h2, h3, h4⟩ := ih (i + 1) (xs.set i ⟨v, mt (v + 1)⟩) (v + 2) (by simp; omega) (by omega) (by omega) (by simpa using hl)
    refine ⟨ys, fun k hk => ?_, by simpa using h2, ?_, ?_⟩
    · obtain ⟨k, rfl⟩ : ∃ m, k = m + 1 := ⟨k - 1, by omega⟩
      simp only [laws_markIoS.l0]
      rw [if_pos (by omega), if_pos (by omega), wrap_ok (v + 1) (by omega) (by omega), wrap_ok (v + 1 + 1) (by omega) (by omega), Option.bind_some, mt_some k (v + 1) (by omega) (by omega) (by omega), Option.bind_some, succ_i i (by omega), Int.toNat_natCast, rdI_nat xs i (by omega), rdI_nat (xs.set i ⟨v, xs[i].f1⟩) i (by rw [List.length_set]; omega), List.getElem_set_self, List.set_set]
      have := h1 k (by omega)
      rw [show v + 1 + 1 = v + 2 by omega, this]
      congr 2; omega
    · intro j hj
      rw [h3 j (by omega)]
      simp [List.getD_eq_getElem?_getD, show ¬ i = j by omega]
    · intro j hj1 hj2
      by_cases e : i = j
      · subst e
        rw [h3 i (by omega)]
        simp [List.getD_eq_getElem?_getD, hj2]
      · rw [h4 j (by omega) (by simpa using hj2), show v + 2 + 2 * ((j - (i + 1) : Nat) : Int) = v + 2 * ((j - i : Nat) : Int) by omega]
theorem heldI_loop (d : Nat) : ∀ (k i : Nat) (ys : List S55) (v : Int), i + d = ys.length → d + 31 < k → 0 ≤ v → v + 2 * d ≤ 50000000 → ys.length ≤ 50000000 →
    (∀ j, i ≤ j → j < ys.length → ys.getD j z55 = ⟨v + 2 * ((j - i : Nat) : Int), mt (v + 2 * ((j - i : Nat) : Int) + 1)⟩) → laws_heldIoS.l0 k ys v (i : Int) = some (v + 2 * d) := by
  induction d with
  | zero =>
    intro k i ys v hi hk _ _ _ _
    obtain ⟨k, rfl⟩ : ∃ m, k = m + 1 := ⟨k - 1, by omega⟩
    simp only [laws_heldIoS.l0]
    rw [if_neg (by omega)]; simp
  | succ d ih =>
    intro k i ys v hi hk hv hm hl hy
    obtain ⟨k, rfl⟩ : ∃ m, k = m + 1 := ⟨k - 1, by omega⟩
    simp only [laws_heldIoS.l0]
    have e := hy i (by omega) (by omega)
    have e2 : rd_T55 ys (i : Int) = ⟨v, mt (v + 1)⟩ := by
      rw [rdI_getD, e]; simp
    rw [if_pos (by omega), if_pos (by omega), e2, wrap_ok (v + 1) (by omega) (by omega), wrap_ok (v + 1 + 1) (by omega) (by omega), mt_some k (v + 1) (by omega) (by omega) (by omega), Option.bind_some, succ_i i (by omega), if_pos rfl, if_pos rfl]
    have := ih k (i + 1) ys (v + 2) (by omega) (by omega) (by omega) (by omega) hl (fun j h1 h2 => by rw [hy j (by omega) h2, show v + 2 + 2 * ((j - (i + 1) : Nat) : Int) = v + 2 * ((j - i : Nat) : Int) by omega])
    rw [show v + 1 + 1 = v + 2 by omega, this]
    congr 1; omega
theorem markI_held (xs : List S55) (v : Int) (h0 : 0 ≤ v) (hv : v + 2 * xs.length ≤ 50000000) : ∃ ys, Ev (fun k => laws_markIoS.f k xs v) (v + 2 * (xs.length : Int), ys) ∧ Ev (fun k => laws_heldIoS.f k ys v) (v + 2 * (xs.length : Int)) := by
  obtain ⟨ys, h1, h2, _, h4⟩ := markI_loop xs.length 0 xs v (by omega) h0 (by omega) (by omega)
  refine ⟨ys, ⟨xs.length + 32, fun k hk => h1 k (by omega)⟩, xs.length + 32, fun k hk => ?_⟩
  exact heldI_loop xs.length k 0 ys v (by omega) (by omega) h0 (by omega) (by omega) (fun j a b => h4 j a (by omega))
/-- What is marked is held: a device. -/
theorem markD_held2 (s : List ByteArray) (u : List S55) (hs : s.length ≤ 2000000) (hu : u.length ≤ 2000000) :
    ∃ m s' u', 0 ≤ m ∧ m ≤ 100000000 ∧ Ev (fun k => laws_markDevice.f k s u 1) (m, s', u') ∧ Ev (fun k => laws_heldDevice.f k s' u' 1) m := by
  obtain ⟨s', a1, a2⟩ := markS_held s 1 (by decide) (by omega)
  obtain ⟨u', b1, b2⟩ := markI_held u (1 + (s.length : Int)) (by omega) (by omega)
  refine ⟨1 + (s.length : Int) + 2 * (u.length : Int), s', u', by omega, by omega, ?_, ?_⟩
  · unfold laws_markDevice.f
    exact Ev.bind a1 (Ev.bind b1 (Ev.now _))
  · unfold laws_heldDevice.f
    have n1 : ¬ (1 + (s.length : Int)) < 0 := by omega
    have n2 : ¬ (1 + (s.length : Int) + 2 * (u.length : Int)) < 0 := by omega
    exact Ev.bind a2 (by simp only [if_neg n1]; exact Ev.bind b2 (by simp only [if_neg n2]; exact Ev.now _))
theorem markD_held (s : List ByteArray) (u : List S55) (hs : s.length ≤ 2000000) (hu : u.length ≤ 2000000) :
    ∃ m s' u', 0 ≤ m ∧ Ev (fun k => laws_markDevice.f k s u 1) (m, s', u') ∧ Ev (fun k => laws_heldDevice.f k s' u' 1) m := by
  obtain ⟨m, s', u', h0, _, h1, h2⟩ := markD_held2 s u hs hu
  exact ⟨m, s', u', h0, h1, h2⟩

end Go.Proofs.Ytkmecmcioniooaa.Leaf
