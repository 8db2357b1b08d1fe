/- FnExactProofOf answers true: the plain part. Conditions: sizes. -/
import Derived.Test.YtajbljegeiebjaaPFnExactProofOfx4
import Derived.Test.YtajbljegeiebjaaPlain
namespace Go.Proofs.Ytajbljegeiebjaa.Leaf
open Go.RowKit Go.Shelf Go.Proofs.YtajbljegeiebjaaW.PrintWords Go.Proofs.YtajbljegeiebjaaW.PrintLast Go.Proofs.YtajbljegeiebjaaW.PrintMore Go.Proofs.Ytajbljegeiebjaa.PFnExactProofOf

/-- The size of a list of texts is told. -/
theorem sz_loop (x0 : List ByteArray) (hs : ∀ s ∈ x0, s.size ≤ 9223372036854775807) (hl : x0.length ≤ 140737488351232) (d : Nat) : ∀ (k i : Nat) (x1 : Int), i + d = x0.length → d < k → 0 ≤ x1 → x1 ≤ 1048576 → ∃ r, laws_szStringS.l0 k x0 x1 (i : Int) = some r := by
  induction d with
  | zero =>
    intro k i x1 hi hk _ _
    obtain ⟨k, rfl⟩ : ∃ m, k = m + 1 := ⟨k - 1, by omega⟩
    simp only [laws_szStringS.l0]
    rw [if_neg (by omega)]
    exact ⟨_, rfl⟩
  | succ d ih =>
    intro k i x1 hi hk h0 h1
    obtain ⟨k, rfl⟩ : ∃ m, k = m + 1 := ⟨k - 1, by omega⟩
    simp only [laws_szStringS.l0]
    rw [if_pos (by omega), if_pos (by omega)]
    have hb := hs (rdOf ByteArray.empty x0 (i : Int)) (by rw [rdOf_get ByteArray.empty x0 (i : Int) (by omega) (by omega)]; exact List.getElem_mem _)
    generalize (rdOf ByteArray.empty x0 (i : Int)).size = z at hb
    rw [wrap_ok (x1 - (z : Int)) (by omega) (by omega), wrap_ok ((i : Int) + 1) (by omega) (by omega)]
    by_cases c : x1 - (z : Int) < 0
    · rw [if_pos c]; exact ⟨_, rfl⟩
    · rw [if_neg c]
      exact ih k (i + 1) (x1 - z) (by omega) (by omega) (by omega) (by omega)
theorem sz_some (l : List ByteArray) (hs : ∀ s ∈ l, s.size ≤ 9223372036854775807) (hl : l.length ≤ 140737488351232) (k : Nat) (hk : l.length < k) : (∃ r, laws_szStringS.f k l 1048576 = some r) ∧ (1048576 < l.length → laws_szStringS.f k l 1048576 = some (-1)) := by
  unfold laws_szStringS.f
  rw [wrap_ok (1048576 - (l.length : Int)) (by omega) (by omega)]
  by_cases c : 1048576 - (l.length : Int) < 0
  · rw [if_pos c]; exact ⟨⟨_, rfl⟩, fun _ => rfl⟩
  · rw [if_neg c]
    exact ⟨sz_loop l hs hl l.length k 0 _ (by omega) hk (by omega) (by omega), fun h => by omega⟩
/-- A copy of a list of texts. -/
theorem to_loop (x0 : List ByteArray) (hl : x0.length ≤ 1048576) (d : Nat) : ∀ (k i : Nat), i + d = x0.length → d < k → laws_toStringS.l0 k x0 (x0.take i ++ List.replicate d ⟨#[]⟩) (i : Int) = some x0 := by
  induction d with
  | zero =>
    intro k i hi hk
    obtain ⟨k, rfl⟩ : ∃ m, k = m + 1 := ⟨k - 1, by omega⟩
    simp only [laws_toStringS.l0]
    rw [if_neg (by omega), List.take_of_length_le (by omega)]
    simp
  | succ d ih =>
    intro k i hi hk
    obtain ⟨k, rfl⟩ : ∃ m, k = m + 1 := ⟨k - 1, by omega⟩
    simp only [laws_toStringS.l0]
    rw [if_pos (by omega), if_pos (by omega), if_pos (by simp; omega), wrap_ok ((i : Int) + 1) (by omega) (by omega)]
    have e : (x0.take i ++ List.replicate (d + 1) (⟨#[]⟩ : ByteArray)).set ((i : Int)).toNat (rdOf ByteArray.empty x0 (i : Int)) = x0.take (i + 1) ++ List.replicate d ⟨#[]⟩ := by
      have e0 : rdOf ByteArray.empty x0 (i : Int) = x0[i]'(by omega) := by rw [rdOf_get ByteArray.empty x0 (i : Int) (by omega) (by omega)]; simp
      rw [e0, Int.toNat_natCast]
      rw [List.set_append_right _ _ (by rw [List.length_take]; omega), show i - (List.take i x0).length = 0 by rw [List.length_take]; omega, List.replicate_succ, List.set_cons_zero, List.take_succ_eq_append_getElem (by omega), List.append_assoc]
      rfl
    rw [e]
    exact ih k (i + 1) (by omega) (by omega)
theorem to_some (l : List ByteArray) (hl : l.length ≤ 1048576) (k : Nat) (hk : l.length < k) : laws_toStringS.f k l = some l := by
  unfold laws_toStringS.f
  rw [if_pos (by omega), if_pos (by omega)]
  have := to_loop l hl l.length k 0 (by omega) hk
  simpa using this
/-- A list of texts is alike itself. -/
theorem eq_loop (x0 : List ByteArray) (hl : x0.length ≤ 1048576) (d : Nat) : ∀ (k i : Nat), i + d = x0.length → d < k → laws_eqStringS.l0 k x0 x0 (i : Int) = some true := by
  induction d with
  | zero =>
    intro k i hi hk
    obtain ⟨k, rfl⟩ : ∃ m, k = m + 1 := ⟨k - 1, by omega⟩
    simp only [laws_eqStringS.l0]
    rw [if_neg (by omega)]
  | succ d ih =>
    intro k i hi hk
    obtain ⟨k, rfl⟩ : ∃ m, k = m + 1 := ⟨k - 1, by omega⟩
    simp only [laws_eqStringS.l0]
    rw [if_pos (by omega), if_pos (by omega), if_pos (by omega), if_true, wrap_ok ((i : Int) + 1) (by omega) (by omega)]
    exact ih k (i + 1) (by omega) (by omega)
theorem eq_some (l : List ByteArray) (hl : l.length ≤ 1048576) (k : Nat) (hk : l.length < k) : laws_eqStringS.f k l l = some true := by
  unfold laws_eqStringS.f
  rw [if_pos rfl]
  exact eq_loop l hl l.length k 0 (by omega) hk
theorem leaf_s (i : Nat) (t : ByteArray) (h : t.size ≤ 65536) : spec_l07Leaf.f (i : Int) t = some (leafN i t) := by
  unfold spec_l07Leaf.f spec_l01Of.f
  have hs : (strOfNums [0, (i : Int) % 256]).size = 2 := by rw [strOfNums_size]; rfl
  simp only [Option.bind_some]
  rw [if_pos (by omega), if_pos (by rw [ByteArray.size_append]; omega)]
  rfl
theorem join_s (a b : ByteArray) (ha : a.size = 32) (hb : b.size = 32) : spec_l07Join.f a b = some (joinN a b) := by
  unfold spec_l07Join.f spec_l01Of.f
  have hs : ((⟨#[1]⟩ : ByteArray) ++ a).size = 1 + a.size := by rw [ByteArray.size_append]; rfl
  rw [if_pos (by omega), if_pos (by omega), if_pos (by rw [ByteArray.size_append]; omega)]
  rfl
theorem leaves_loop (l : List ByteArray) (hl : l.length = 16) (hs : ∀ t ∈ l, t.size ≤ 65536) (d : Nat) : ∀ (k i : Nat), i + d = 16 → d < k → spec_l07Leaves.l0 k l (leavesL l i) (i : Int) = some (leavesL l 16) := by
  induction d with
  | zero =>
    intro k i hi hk
    obtain ⟨k, rfl⟩ : ∃ m, k = m + 1 := ⟨k - 1, by omega⟩
    obtain rfl : i = 16 := by omega
    simp only [spec_l07Leaves.l0]
    rw [if_neg (by omega)]
  | succ d ih =>
    intro k i hi hk
    obtain ⟨k, rfl⟩ : ∃ m, k = m + 1 := ⟨k - 1, by omega⟩
    simp only [spec_l07Leaves.l0]
    rw [if_pos (by omega), if_pos (by omega), leaf_s i _ (hs _ (rd_mem l (i : Int) (by omega) (by omega))), Option.bind_some, if_pos (by rw [leavesL_length]; omega), leavesL_succ, wrap_ok ((i : Int) + 1) (by omega) (by omega)]
    exact ih k (i + 1) (by omega) (by omega)
theorem leaves_some (l : List ByteArray) (hl : l.length = 16) (hs : ∀ t ∈ l, t.size ≤ 65536) (k : Nat) (hk : 16 < k) : spec_l07Leaves.f k l = some (lvl l 0) := leaves_loop l hl hs 16 k 0 rfl hk
theorem level_loop (L : List ByteArray) (m : Nat) (hm : L.length = 2 * m) (hm8 : m ≤ 8) (hs : ∀ t ∈ L, t.size = 32) (d : Nat) : ∀ (k j : Nat), j + d = m → d < k → spec_l07Level.l0 k L (nextL L j) (2 * (j : Int)) = some (nextL L m) := by
  induction d with
  | zero =>
    intro k j hj hk
    obtain ⟨k, rfl⟩ : ∃ m, k = m + 1 := ⟨k - 1, by omega⟩
    obtain rfl : j = m := by omega
    simp only [spec_l07Level.l0]
    rw [wrap_ok (2 * (j : Int) + 1) (by omega) (by omega), if_neg (by omega)]
  | succ d ih =>
    intro k j hj hk
    obtain ⟨k, rfl⟩ : ∃ m, k = m + 1 := ⟨k - 1, by omega⟩
    simp only [spec_l07Level.l0]
    rw [wrap_ok (2 * (j : Int) + 1) (by omega) (by omega), wrap_ok (2 * (j : Int) + 2) (by omega) (by omega), if_pos (by omega), if_pos (by omega), if_pos (by omega), if_pos (by omega),
      join_s _ _ (hs _ (rd_mem L (2 * (j : Int)) (by omega) (by omega))) (hs _ (rd_mem L (2 * (j : Int) + 1) (by omega) (by omega))), Option.bind_some, if_pos (by rw [nextL_length]; omega), nextL_succ]
    have := ih k (j + 1) (by omega) (by omega)
    rw [show 2 * ((j + 1 : Nat) : Int) = 2 * (j : Int) + 2 by omega] at this
    exact this
theorem level_some (l : List ByteArray) (n : Nat) (hn : n < 4) (k : Nat) (hk : 8 < k) : spec_l07Level.f k (lvl l n) = some (lvl l (n + 1)) := by
  obtain ⟨m, hm, _, hm8, e⟩ := lvl_half l n hn
  rw [e]
  exact level_loop (lvl l n) m hm hm8 (lvl_sizes l n) m k 0 (by omega) (by omega)
theorem ask_loop (l : List ByteArray) (hl : l.length = 16) (d : Nat) : ∀ (k i : Nat), i + d = 16 → d < k →
    ((l.drop i).all (fun t => decide ((t.size : Int) ≤ 700)) = true → spec_l07Ask.l0 k l (i : Int) = some 0) ∧ ((l.drop i).all (fun t => decide ((t.size : Int) ≤ 700)) = false → spec_l07Ask.l0 k l (i : Int) = some 8) := by
  induction d with
  | zero =>
    intro k i hi hk
    obtain ⟨k, rfl⟩ : ∃ m, k = m + 1 := ⟨k - 1, by omega⟩
    simp only [spec_l07Ask.l0]
    rw [if_neg (by omega), List.drop_eq_nil_of_le (by omega)]
    exact ⟨fun _ => rfl, fun h => by simp at h⟩
  | succ d ih =>
    intro k i hi hk
    obtain ⟨k, rfl⟩ : ∃ m, k = m + 1 := ⟨k - 1, by omega⟩
    simp only [spec_l07Ask.l0]
    have e0 : rdOf ByteArray.empty l (i : Int) = l[i]'(by omega) := by rw [rdOf_get ByteArray.empty l (i : Int) (by omega) (by omega)]; simp
    rw [if_pos (by omega), if_pos (by omega), e0, List.drop_eq_getElem_cons (by omega), List.all_cons, wrap_ok ((i : Int) + 1) (by omega) (by omega)]
    by_cases c : ((l[i]'(by omega)).size : Int) ≤ 700
    · rw [decide_eq_true c, Bool.true_and, if_neg (by omega)]
      exact ih k (i + 1) (by omega) (by omega)
    · rw [decide_eq_false c, Bool.false_and, if_pos (by omega)]
      exact ⟨fun h => by simp at h, fun _ => rfl⟩
theorem ask_some (l : List ByteArray) (hl : l.length = 16) (k : Nat) (hk : 16 < k) : spec_l07Ask.f k l = some (if (l.all fun t => decide ((t.size : Int) ≤ 700)) = true then 0 else 8) := by
  unfold spec_l07Ask.f
  rw [if_neg (by omega), if_pos (by omega)]
  have h := ask_loop l hl 16 k 0 rfl hk
  rw [List.drop_zero] at h
  by_cases c : (l.all fun t => decide ((t.size : Int) ≤ 700)) = true
  · rw [if_pos c]; exact h.1 c
  · rw [if_neg c]; exact h.2 (by simpa using c)
theorem short_of (l : List ByteArray) (h : (l.all fun t => decide ((t.size : Int) ≤ 700)) = true) : ∀ t ∈ l, t.size ≤ 65536 := by
  intro t ht
  have := of_decide_eq_true (List.all_eq_true.1 h t ht)
  omega
theorem tree_some (l : List ByteArray) (hl : l.length = 16) (h : ∀ t ∈ l, t.size ≤ 65536) : impl_tree.f l = some (treeL l 4) := by
  unfold impl_tree.f
  rw [if_pos hl, if_pos (List.all_eq_true.2 (fun t ht => decide_eq_true (h t ht)))]
theorem code_some (l : List ByteArray) : impl_leavesCode.f l = some (if (l.length : Int) > 4096 then 2 else if l.length = 16 then (if (l.all fun t => decide ((t.size : Int) ≤ 700)) = true then 0 else 8) else 8) := by
  unfold impl_leavesCode.f areAll_isContent.f
  by_cases c1 : (l.length : Int) > 4096
  · rw [if_pos c1, if_pos c1]
  · rw [if_neg c1, if_neg c1]
    by_cases c2 : l.length = 16
    · rw [if_pos (by omega), if_pos c2, Option.bind_some]
      split <;> rfl
    · rw [if_neg (by omega), if_neg c2]
theorem mt_loop (d : Nat) : ∀ (k : Nat) (v : Int) (x : ByteArray), 0 ≤ v → v < 10 ^ d → v ≤ 1000000000 → d < k → x.size + d ≤ 1000 → ∃ r, laws_markText.l0 k v x = some r := by
  induction d with
  | zero =>
    intro k v x h0 h1 _ hk hx
    obtain ⟨k, rfl⟩ : ∃ m, k = m + 1 := ⟨k - 1, by omega⟩
    simp only [laws_markText.l0]
    rw [if_neg (by omega), if_pos (by omega)]
    exact ⟨_, rfl⟩
  | succ d ih =>
    intro k v x h0 h1 hb hk hx
    obtain ⟨k, rfl⟩ : ∃ m, k = m + 1 := ⟨k - 1, by omega⟩
    simp only [laws_markText.l0]
    by_cases c : v > 0
    · rw [if_pos c]
      simp only [Option.bind_some]
      have hs : (strOfNums [(wrap64 (48 + (Int.tmod v 10))) % 256]).size = 1 := by rw [strOfNums_size]; rfl
      generalize strOfNums [(wrap64 (48 + (Int.tmod v 10))) % 256] = y at hs
      rw [if_pos (by omega)]
      have e : Int.tdiv v 10 = v / 10 := Int.tdiv_eq_ediv_of_nonneg h0
      rw [Int.pow_succ] at h1
      rw [e, wrap_ok (v / 10) (by omega) (by omega)]
      exact ih k (v / 10) (y ++ x) (by omega) (by omega) (by omega) (by omega) (by rw [ByteArray.size_append]; omega)
    · rw [if_neg c, if_pos (by omega)]
      exact ⟨_, rfl⟩
theorem mt_ex (v : Int) (h0 : 0 ≤ v) (h1 : v ≤ 100000000) : ∃ r, laws_markText.f 30 v = some r := by
  unfold laws_markText.f
  by_cases c : v ≤ 0
  · rw [if_pos c]; exact ⟨_, rfl⟩
  · rw [if_neg c]
    exact mt_loop 20 30 v _ h0 (by omega) (by omega) (by decide) (by decide)
def mt (v : Int) : ByteArray := (laws_markText.f 30 v).getD ⟨#[]⟩
theorem mt_some (k : Nat) (v : Int) (hk : 30 ≤ k) (h0 : 0 ≤ v) (h1 : v ≤ 100000000) : laws_markText.f k v = some (mt v) := by
  obtain ⟨r, hr⟩ := mt_ex v h0 h1
  have : mt v = r := by rw [mt, hr]; rfl
  rw [this]
  exact at_rounds (g := fun k => laws_markText.f k v) (fun k => laws_markText.mono v k) hk hr
theorem markS_loop (d : Nat) : ∀ (i : Nat) (xs : List ByteArray) (v : Int), i + d = xs.length → 0 ≤ v → v + d ≤ 100000000 → xs.length ≤ 100000000 →
    ∃ ys, (∀ k, d + 31 < k → laws_markStringS.l0 k xs v (i : Int) = some (v + d, ys)) ∧ ys.length = xs.length ∧ (∀ j, j < i → ys.getD j ⟨#[]⟩ = xs.getD j ⟨#[]⟩) ∧ (∀ j, i ≤ j → j < xs.length → ys.getD j ⟨#[]⟩ = mt (v + ((j - i : Nat) : Int))) := by
  induction d with
  | zero =>
    intro i xs v hi _ _ _
    refine ⟨xs, fun k hk => ?_, rfl, fun _ _ => rfl, fun j h1 h2 => by omega⟩
    obtain ⟨k, rfl⟩ : ∃ m, k = m + 1 := ⟨k - 1, by omega⟩
    simp only [laws_markStringS.l0]
    rw [if_neg (by omega)]; simp
  | succ d ih =>
    intro i xs v hi hv hm hl
    obtain ⟨ys, h1, h2, h3, h4⟩ := ih (i + 1) (xs.set i (mt v)) (v + 1) (by simp; omega) (by omega) (by omega) (by simpa using hl)
    refine ⟨ys, fun k hk => ?_, by simpa using h2, ?_, ?_⟩
    · obtain ⟨k, rfl⟩ : ∃ m, k = m + 1 := ⟨k - 1, by omega⟩
      simp only [laws_markStringS.l0]
      rw [if_pos (by omega), mt_some k v (by omega) hv (by omega), Option.bind_some, if_pos (by omega), wrap_ok (v + 1) (by omega) (by omega), wrap_ok ((i : Int) + 1) (by omega) (by omega), Int.toNat_natCast]
      have := h1 k (by omega)
      rw [show ((i + 1 : Nat) : Int) = (i : Int) + 1 by omega] at this
      rw [this]
      congr 2; omega
    · intro j hj
      rw [h3 j (by omega)]
      simp [List.getD_eq_getElem?_getD, show ¬ i = j by omega]
    · intro j hj1 hj2
      by_cases e : i = j
      · subst e
        rw [h3 i (by omega)]
        simp [List.getD_eq_getElem?_getD, hj2]
      · rw [h4 j (by omega) (by simpa using hj2)]
        congr 1; omega
theorem heldS_loop (d : Nat) : ∀ (k i : Nat) (ys : List ByteArray) (v : Int), i + d = ys.length → d + 31 < k → 0 ≤ v → v + d ≤ 100000000 → ys.length ≤ 100000000 →
    (∀ j, i ≤ j → j < ys.length → ys.getD j ⟨#[]⟩ = mt (v + ((j - i : Nat) : Int))) → laws_heldStringS.l0 k ys v (i : Int) = some (v + d) := by
  induction d with
  | zero =>
    intro k i ys v hi hk _ _ _ _
    obtain ⟨k, rfl⟩ : ∃ m, k = m + 1 := ⟨k - 1, by omega⟩
    simp only [laws_heldStringS.l0]
    rw [if_neg (by omega)]; simp
  | succ d ih =>
    intro k i ys v hi hk hv hm hl hy
    obtain ⟨k, rfl⟩ : ∃ m, k = m + 1 := ⟨k - 1, by omega⟩
    simp only [laws_heldStringS.l0]
    have e := hy i (by omega) (by omega)
    have e2 : rdOf ByteArray.empty ys (i : Int) = mt v := by
      have : rdOf ByteArray.empty ys (i : Int) = ys.getD i ⟨#[]⟩ := by simp only [rdOf, Int.toNat_natCast]; rfl
      rw [this, e]; simp
    rw [if_pos (by omega), if_pos (by omega), mt_some k v (by omega) hv (by omega), Option.bind_some, e2, if_pos rfl, wrap_ok (v + 1) (by omega) (by omega), wrap_ok ((i : Int) + 1) (by omega) (by omega)]
    have := ih k (i + 1) ys (v + 1) (by omega) (by omega) (by omega) (by omega) hl (fun j h1 h2 => by rw [hy j (by omega) h2]; congr 1; omega)
    rw [show ((i + 1 : Nat) : Int) = (i : Int) + 1 by omega] at this
    rw [this]
    congr 1; omega
/-- What is marked is held: a list of texts. -/
theorem markS_held (xs : List ByteArray) (hl : xs.length ≤ 10000000) : ∃ ys, (∀ k, xs.length + 31 < k → laws_markStringS.f k xs 1 = some (1 + (xs.length : Int), ys)) ∧ ∀ k, xs.length + 31 < k → laws_heldStringS.f k ys 1 = some (1 + (xs.length : Int)) := by
  obtain ⟨ys, h1, h2, _, h4⟩ := markS_loop xs.length 0 xs 1 (by omega) (by omega) (by omega) (by omega)
  refine ⟨ys, h1, fun k hk => ?_⟩
  exact heldS_loop xs.length k 0 ys 1 (by omega) hk (by omega) (by omega) (by omega) (fun j a b => h4 j a (by omega))
theorem xor1 (a : Int) (h0 : 0 ≤ a) (h1 : a < 16) : 0 ≤ Go.bits .xor .i64 a 1 ∧ Go.bits .xor .i64 a 1 ≤ 2 * (a / 2) + 1 := by
  have h : ∀ n : Fin 16, 0 ≤ Go.bits .xor .i64 (n.val : Int) 1 ∧ Go.bits .xor .i64 (n.val : Int) 1 ≤ 2 * ((n.val : Int) / 2) + 1 := by decide +kernel
  obtain ⟨n, rfl⟩ : ∃ n : Nat, a = (n : Int) := ⟨a.toNat, by omega⟩
  exact h ⟨n, by omega⟩
theorem lvl_bound (l : List ByteArray) (n : Nat) : (lvl l n).length ≤ 16 := by
  rw [lvl_length]; exact Nat.div_le_self _ _
theorem take_lvl (l : List ByteArray) (n : Nat) (hn : n < 4) : rd_L2 ((treeL l 4).take 4) (n : Int) = lvl l n := by
  rcases (show n = 0 ∨ n = 1 ∨ n = 2 ∨ n = 3 by omega) with rfl | rfl | rfl | rfl <;> simp [rd_L2, treeL, List.range_succ]
theorem way_loop (l : List ByteArray) (d : Nat) : ∀ (k n : Nat) (a : Int) (out : List ByteArray), n + d = 4 → d + 9 < k → 0 ≤ a → a < ((lvl l n).length : Int) → out.length = n →
    ∃ r, spec_ProofOf.l0 k a out (lvl l n) = some r ∧ impl_ProofOf.l0 k a out ((treeL l 4).take 4) 4 (n : Int) = some r ∧ r.1.length = 4 := by
  induction d with
  | zero =>
    intro k n a out hn hk h0 h1 ho
    obtain ⟨k, rfl⟩ : ∃ m, k = m + 1 := ⟨k - 1, by omega⟩
    obtain rfl : n = 4 := by omega
    have hl4 := lvl_last l
    simp only [spec_ProofOf.l0, impl_ProofOf.l0]
    rw [if_neg (by omega), if_neg (by omega)]
    exact ⟨_, rfl, rfl, ho⟩
  | succ d ih =>
    intro k n a out hn hk h0 h1 ho
    obtain ⟨k, rfl⟩ : ∃ m, k = m + 1 := ⟨k - 1, by omega⟩
    obtain ⟨m, hm, hm1, hm8, e⟩ := lvl_half l n (by omega)
    have ht : ((treeL l 4).take 4).length = 4 := by rw [List.length_take, treeL_length]; rfl
    have hx := xor1 a h0 (by omega)
    have ed : Int.tdiv a 2 = a / 2 := Int.tdiv_eq_ediv_of_nonneg h0
    simp only [spec_ProofOf.l0, impl_ProofOf.l0]
    rw [take_lvl l n (by omega), level_some l n (by omega) k (by omega), ed, wrap_ok (a / 2) (by omega) (by omega), wrap_ok ((n : Int) + 1) (by omega) (by omega)]
    generalize Go.bits .xor .i64 a 1 = b at hx
    rw [if_pos (by omega), if_pos (by omega), if_pos (by omega), if_pos (by omega), Option.bind_some, if_pos (by omega), if_pos (by omega), if_pos (by omega), if_pos (by omega), if_pos (by omega), if_pos (by omega)]
    exact ih k (n + 1) (a / 2) _ (by omega) (by omega) (by omega) (by rw [e, nextL_length]; omega) (by rw [List.length_append, ho]; rfl)
theorem proof_same (l : List ByteArray) (a : Int) : ∃ r, spec_ProofOf.f 20 l a = some r ∧ impl_ProofOf.f 20 l a = some r ∧ r.1.length ≤ 4 := by
  unfold spec_ProofOf.f impl_ProofOf.f
  rw [code_some, Option.bind_some]
  by_cases c1 : (l.length : Int) > 4096
  · rw [if_pos c1, if_pos c1, if_neg (by decide)]
    exact ⟨_, rfl, rfl, by decide⟩
  · rw [if_neg c1, if_neg c1]
    by_cases c2 : l.length = 16
    · rw [if_pos c2, ask_some l c2 20 (by decide), Option.bind_some]
      by_cases c3 : (l.all fun t => decide ((t.size : Int) ≤ 700)) = true
      · have h := short_of l c3
        rw [if_pos c3, if_pos rfl, if_pos rfl]
        simp only [impl_isLeafAt.f, impl_within.f, spec_l01In.f]
        by_cases c6 : 0 ≤ a
        · rw [if_pos c6]
          simp only [Option.bind_some]
          by_cases c7 : a ≤ 15
          · rw [if_pos (decide_eq_true c7), if_pos (decide_eq_true c7), leaves_some l c2 h 20 (by decide), tree_some l c2 h]
            simp only [Option.bind_some]
            have ht : ((treeL l 4).take 4).length = 4 := by rw [List.length_take, treeL_length]; rfl
            rw [if_pos (by rw [treeL_length]; decide), ht]
            obtain ⟨r, r1, r2, r3⟩ := way_loop l 4 20 0 a [] rfl (by decide) c6 (by rw [lvl_length]; simp; omega) rfl
            exact ⟨r, r1, r2, by omega⟩
          · rw [if_neg (by simpa using c7), if_neg (by simpa using c7)]; exact ⟨_, rfl, rfl, by decide⟩
        · rw [if_neg c6]
          simp only [Option.bind_some, Bool.false_eq_true, if_false]
          exact ⟨_, rfl, rfl, by decide⟩
      · rw [if_neg c3, if_neg (by decide), if_neg (by decide)]
        exact ⟨_, rfl, rfl, by decide⟩
    · rw [if_neg c2]
      have e : spec_l07Ask.f 20 l = some 8 := by
        unfold spec_l07Ask.f
        rw [if_neg c1, if_neg (by omega)]
      rw [e, Option.bind_some, if_neg (by decide), if_neg (by decide)]
      exact ⟨_, rfl, rfl, by decide⟩
theorem FnExactProofOf_pure (l : List ByteArray) (a : Int) (hs : ∀ s ∈ l, s.size ≤ 9223372036854775807) (hl : l.length ≤ 140737488351232) : ∃ k, laws_FnExactProofOf.f k l a = some true := by
  obtain ⟨K, hK⟩ : ∃ K, K = l.length + 60 := ⟨_, rfl⟩
  refine ⟨K + 3, ?_⟩
  unfold laws_FnExactProofOf.f
  obtain ⟨⟨z, hz⟩, hz2⟩ := sz_some l hs hl (K + 3) (by omega)
  by_cases c3 : 1048576 < l.length
  · rw [hz2 c3]
    simp
  rw [hz]
  simp only [Option.bind_some]
  by_cases c4 : z < 0
  · rw [if_pos c4]
  rw [if_neg c4, to_some l (by omega) (K + 3) (by omega)]
  obtain ⟨r, r1, r2, r3⟩ := proof_same l a
  have s1 := at_rounds (g := fun k => spec_ProofOf.f k l a) (fun k => spec_ProofOf.mono l a k) (show 20 ≤ K + 3 by omega) r1
  have s2 := at_rounds (g := fun k => impl_ProofOf.f k l a) (fun k => impl_ProofOf.mono l a k) (show 20 ≤ K + 3 by omega) r2
  have s3 := at_rounds (g := fun k => impl_ProofOf.f k l a) (fun k => impl_ProofOf.mono l a k) (show 20 ≤ K + 1 by omega) r2
  obtain ⟨ys, m1, _⟩ := markS_held l (by omega)
  obtain ⟨zs, n1, n2⟩ := markS_held r.1 (by omega)
  simp only [Option.bind_some]
  rw [s1]
  simp only [Option.bind_some]
  rw [s2]
  simp only [Option.bind_some]
  rw [eq_some r.1 (by omega) (K + 3) (by omega)]
  simp only [Option.bind_some, bne_self_eq_false, if_true, laws_FnExactProofOf.j0, Bool.false_eq_true, if_false]
  rw [to_some l (by omega) (K + 2) (by omega)]
  simp only [Option.bind_some]
  rw [eq_some l (by omega) (K + 2) (by omega)]
  simp only [Option.bind_some, if_true]
  rw [m1 (K + 2) (by omega)]
  simp only [Option.bind_some]
  rw [if_neg (by omega), eq_some r.1 (by omega) (K + 2) (by omega)]
  simp only [Option.bind_some, if_true, laws_FnExactProofOf.j1, Bool.false_eq_true, if_false]
  rw [n1 (K + 1) (by omega)]
  simp only [Option.bind_some]
  rw [n2 (K + 1) (by omega)]
  simp only [Option.bind_some]
  rw [if_neg (by omega), if_pos trivial, to_some l (by omega) (K + 1) (by omega)]
  simp only [Option.bind_some]
  rw [s3]
  simp only [Option.bind_some]
  rw [eq_some r.1 (by omega) (K + 1) (by omega)]
  simp only [Option.bind_some, if_true, bne_self_eq_false, laws_FnExactProofOf.j2, Bool.false_eq_true, if_false]
  rw [n2 K (by omega)]
  simp only [Option.bind_some]
  rw [if_neg (by omega)]
  simp
theorem FnExactProofOf_walk (A0 : Option Addr) (c0 : Nat) (l0 : List ByteArray) (a1 : Int) (w : World) (hr0 : Kd.C Kd.string w A0 l0.length l0) (hc0 : l0.length ≤ c0) (hs : ∀ s ∈ l0, s.size ≤ 9223372036854775807) (hl : l0.length ≤ 140737488351232) :
    Calls Try.prog 10 #[.slice A0 l0.length c0, .int .i64 a1] w fun e w' => e = .returned (.bool true) ∧ Below w.heap.size w w' := by
  obtain ⟨k, h⟩ := FnExactProofOf_pure l0 a1 hs hl
  exact laws_FnExactProofOf.calls k A0 c0 l0 a1 true w hr0 hc0 h

end Go.Proofs.Ytajbljegeiebjaa.Leaf
