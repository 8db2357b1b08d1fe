/- The program's block of the digest. Conditions: words of 32 bits, sixty-four bytes at least. -/
import Derived.Test.YtajbljegeiebjaaSha1
import Derived.Deep.MidRow
import Derived.Test.YtajbljegeiebjaaLoop
import Derived.Deep.RegionHeld3
import Derived.StillTailTactics
import Derived.Great.BuildSlice
namespace Go.Proofs.Ytajbljegeiebjaa.Leaf

/-! Steps of the program's digest, each fact that a walk asks. Conditions: words of 32 bits. -/
section
open Go.RowKit Go.Shelf Go.Proofs.YtajbljegeiebjaaW.PrintWords Go.Proofs.YtajbljegeiebjaaW.PrintLast Go.Proofs.YtajbljegeiebjaaW.PrintMore Go.Proofs.Ytajbljegeiebjaa.PSha

theorem turned_calls {p n r : Int} (h : impl_turned.f p n = some r) (W : World) : Calls Try.prog 85 #[.int .u32 p, .int .i64 n] W fun e w' => e = .returned (.int .u32 r) ∧ ∃ m, w' = W.drewN m := by
  refine (impl_turned.calls p n r W h).mono ?_
  rintro e w' ⟨rfl, m, rfl⟩
  exact ⟨rfl, m, rfl⟩
theorem turned_st (x n : Nat) (hx : x < 2 ^ 32) (h1 : 1 ≤ n) (hn : n ≤ 31) (h : Go.bits .and .u64 (IntKind.u64.wrap (wrap64 (-(n : Int)))) 31 = ((32 - n : Nat) : Int)) : ∃ r : Nat, r < 2 ^ 32 ∧ Hid (rotr x n = r) ∧ ∀ j : Int, j = (n : Int) → impl_turned.f (x : Int) j = some (r : Int) :=
  ⟨rotr x n, rotr_lt x n, Lib.hid rfl, fun _ hj => hj ▸ turned_some x n hx h1 hn h⟩
/-- A sum of words, as the program keeps it. -/
theorem add32_st (a b : Nat) : ∃ n : Nat, n < 2 ^ 32 ∧ Hid ((a + b) % 2 ^ 32 = n) ∧ IntKind.u32.wrap ((a : Int) + (b : Int)) = (n : Int) ∧ ((a : Int) + (b : Int)) % 4294967296 = (n : Int) := by
  refine ⟨(a + b) % 2 ^ 32, mod_word _, Lib.hid rfl, ?_, by omega⟩
  rw [IntKind.wrap_u32]; omega
theorem not32_st (a : Nat) (ha : a < 2 ^ 32) : ∃ n : Nat, n < 2 ^ 32 ∧ Hid ((4294967295 ^^^ a) = n) ∧ Go.bits .xor .u32 4294967295 (a : Int) = (n : Int) :=
  ⟨4294967295 ^^^ a, Nat.xor_lt_two_pow (by decide) ha, Lib.hid rfl, xor_u32 4294967295 a (by decide) ha⟩
theorem or_st (a b : Nat) (ha : a < 2 ^ 32) (hb : b < 2 ^ 32) : ∃ n : Nat, n < 2 ^ 32 ∧ Hid ((a ||| b) = n) ∧ Go.bits .or .u32 (a : Int) (b : Int) = (n : Int) :=
  ⟨a ||| b, Nat.or_lt_two_pow ha hb, Lib.hid rfl, or_u32 a b ha hb⟩

theorem sched_num (a b c d M : Nat) (_hM : 0 < M) : (((a + b) % M + c) % M + d) % M = (a + b + c + d) % M := by
  simp only [Nat.mod_add_mod]
/-- One step of the program's schedule. -/
theorem isched_step (u : List Nat) (hu : WN 64 u) (i : Nat) : ∃ (p16 p15 p7 p2 r7 r18 q3 x1 sa r17 r19 q10 x2 sb n1 n2 n : Nat),
    Hid ((u.getD i 0 + sig0 (u.getD (i + 1) 0) + u.getD (i + 9) 0 + sig1 (u.getD (i + 14) 0)) % 2 ^ 32 = n) ∧
    (u.getD i 0 = p16 ∧ u.getD (i + 1) 0 = p15 ∧ u.getD (i + 9) 0 = p7 ∧ u.getD (i + 14) 0 = p2) ∧
    (impl_turned.f (p15 : Int) 7 = some (r7 : Int) ∧ impl_turned.f (p15 : Int) 18 = some (r18 : Int) ∧ impl_turned.f (p2 : Int) 17 = some (r17 : Int) ∧ impl_turned.f (p2 : Int) 19 = some (r19 : Int)) ∧
    ((p15 : Int) / 8 = (q3 : Int) ∧ (p2 : Int) / 1024 = (q10 : Int)) ∧
    (Go.bits .xor .u32 (r7 : Int) (r18 : Int) = (x1 : Int) ∧ Go.bits .xor .u32 (x1 : Int) (q3 : Int) = (sa : Int) ∧ Go.bits .xor .u32 (r17 : Int) (r19 : Int) = (x2 : Int) ∧ Go.bits .xor .u32 (x2 : Int) (q10 : Int) = (sb : Int)) ∧
    (IntKind.u32.wrap ((p16 : Int) + (sa : Int)) = (n1 : Int) ∧ IntKind.u32.wrap ((n1 : Int) + (p7 : Int)) = (n2 : Int) ∧ IntKind.u32.wrap ((n2 : Int) + (sb : Int)) = (n : Int)) := by
  obtain ⟨p16, hp16⟩ : ∃ n, u.getD i 0 = n := ⟨_, rfl⟩
  obtain ⟨p15, hp15⟩ : ∃ n, u.getD (i + 1) 0 = n := ⟨_, rfl⟩
  obtain ⟨p7, hp7⟩ : ∃ n, u.getD (i + 9) 0 = n := ⟨_, rfl⟩
  obtain ⟨p2, hp2⟩ : ∃ n, u.getD (i + 14) 0 = n := ⟨_, rfl⟩
  have l16 := hu.2 i; have l15 := hu.2 (i + 1); have l7 := hu.2 (i + 9); have l2 := hu.2 (i + 14)
  rw [hp16] at l16; rw [hp15] at l15; rw [hp7] at l7; rw [hp2] at l2
  obtain ⟨r7, lr7, Hr7, tr7⟩ := turned_st p15 7 l15 (by decide) (by decide) (by kernel_rfl)
  obtain ⟨r18, lr18, Hr18, tr18⟩ := turned_st p15 18 l15 (by decide) (by decide) (by kernel_rfl)
  obtain ⟨q3, lq3, Hq3, tq3⟩ := shr_st p15 3 8 l15 rfl (by decide)
  obtain ⟨x1, lx1, Hx1, _, tx1⟩ := xor_st r7 r18 lr7 lr18
  obtain ⟨sa, lsa, Hsa, _, tsa⟩ := xor_st x1 q3 lx1 lq3
  obtain ⟨r17, lr17, Hr17, tr17⟩ := turned_st p2 17 l2 (by decide) (by decide) (by kernel_rfl)
  obtain ⟨r19, lr19, Hr19, tr19⟩ := turned_st p2 19 l2 (by decide) (by decide) (by kernel_rfl)
  obtain ⟨q10, lq10, Hq10, tq10⟩ := shr_st p2 10 1024 l2 rfl (by decide)
  obtain ⟨x2, lx2, Hx2, _, tx2⟩ := xor_st r17 r19 lr17 lr19
  obtain ⟨sb, lsb, Hsb, _, tsb⟩ := xor_st x2 q10 lx2 lq10
  obtain ⟨n1, _, Hn1, tn1, _⟩ := add32_st p16 sa
  obtain ⟨n2, _, Hn2, tn2, _⟩ := add32_st n1 p7
  obtain ⟨n, _, Hn, tn, _⟩ := add32_st n2 sb
  refine ⟨p16, p15, p7, p2, r7, r18, q3, x1, sa, r17, r19, q10, x2, sb, n1, n2, n, Lib.hid ?_, ⟨hp16, hp15, hp7, hp2⟩, ⟨tr7 7 rfl, tr18 18 rfl, tr17 17 rfl, tr19 19 rfl⟩, ⟨tq3, tq10⟩, ⟨tx1, tsa, tx2, tsb⟩, tn1, tn2, tn⟩
  rw [hp16, hp15, hp7, hp2]
  unfold sig0 sig1
  rw [Hr7.out, Hr18.out, Hq3.out, Hx1.out, Hsa.out, Hr17.out, Hr19.out, Hq10.out, Hx2.out, Hsb.out, ← Hn.out, ← Hn2.out, ← Hn1.out]
  exact (sched_num p16 sa p7 sb (2 ^ 32) (by decide)).symm

theorem round_num (a7 s c k w r m a3 M : Nat) : (((((a7 + s) % M + c) % M + k) % M + w) % M + (r + m) % M) % M = (a7 + s + c + k + w + r + m) % M ∧ (a3 + ((((a7 + s) % M + c) % M + k) % M + w) % M) % M = (a3 + (a7 + s + c + k + w)) % M := by
  constructor
  · simp only [Nat.mod_add_mod, Nat.add_mod_mod, Nat.add_assoc]
  · simp only [Nat.mod_add_mod, Nat.add_mod_mod]
/-- One round of sixty-four, all that the program's walk asks. -/
theorem iround_step (a0 a1 a2 a3 a4 a5 a6 a7 k w : Nat) (h0 : a0 < 2 ^ 32) (h1 : a1 < 2 ^ 32) (h2 : a2 < 2 ^ 32) (h4 : a4 < 2 ^ 32) (h5 : a5 < 2 ^ 32) (h6 : a6 < 2 ^ 32) :
    ∃ (r6 r11 r25 x1 s c1 ne c2 c y1 y2 y3 x r2 r13 r22 x2 r m1 m2 m3 m4 m z n0 n4 : Nat),
    Hid (round8 k w [a0, a1, a2, a3, a4, a5, a6, a7] = [n0, a0, a1, a2, n4, a4, a5, a6]) ∧
    (impl_turned.f (a4 : Int) 6 = some (r6 : Int) ∧ impl_turned.f (a4 : Int) 11 = some (r11 : Int) ∧ impl_turned.f (a4 : Int) 25 = some (r25 : Int)) ∧
    (Go.bits .xor .u32 (r6 : Int) (r11 : Int) = (x1 : Int) ∧ Go.bits .xor .u32 (x1 : Int) (r25 : Int) = (s : Int)) ∧
    (Go.bits .and .u32 (a4 : Int) (a5 : Int) = (c1 : Int) ∧ Go.bits .xor .u32 IntKind.u32.max (a4 : Int) = (ne : Int) ∧ Go.bits .and .u32 (ne : Int) (a6 : Int) = (c2 : Int) ∧ Go.bits .xor .u32 (c1 : Int) (c2 : Int) = (c : Int)) ∧
    (IntKind.u32.wrap ((a7 : Int) + (s : Int)) = (y1 : Int) ∧ IntKind.u32.wrap ((y1 : Int) + (c : Int)) = (y2 : Int) ∧ IntKind.u32.wrap ((y2 : Int) + (k : Int)) = (y3 : Int) ∧ IntKind.u32.wrap ((y3 : Int) + (w : Int)) = (x : Int)) ∧
    (((a7 : Int) + (s : Int)) % 4294967296 = (y1 : Int) ∧ ((y1 : Int) + (c : Int)) % 4294967296 = (y2 : Int) ∧ ((y2 : Int) + (k : Int)) % 4294967296 = (y3 : Int) ∧ ((y3 : Int) + (w : Int)) % 4294967296 = (x : Int)) ∧
    (impl_turned.f (a0 : Int) 2 = some (r2 : Int) ∧ impl_turned.f (a0 : Int) 13 = some (r13 : Int) ∧ impl_turned.f (a0 : Int) 22 = some (r22 : Int)) ∧
    (Go.bits .xor .u32 (r2 : Int) (r13 : Int) = (x2 : Int) ∧ Go.bits .xor .u32 (x2 : Int) (r22 : Int) = (r : Int)) ∧
    (Go.bits .and .u32 (a0 : Int) (a1 : Int) = (m1 : Int) ∧ Go.bits .and .u32 (a0 : Int) (a2 : Int) = (m2 : Int) ∧ Go.bits .xor .u32 (m1 : Int) (m2 : Int) = (m3 : Int) ∧ Go.bits .and .u32 (a1 : Int) (a2 : Int) = (m4 : Int) ∧ Go.bits .xor .u32 (m3 : Int) (m4 : Int) = (m : Int)) ∧
    (((r : Int) + (m : Int)) % 4294967296 = (z : Int) ∧ ((x : Int) + (z : Int)) % 4294967296 = (n0 : Int) ∧ ((a3 : Int) + (x : Int)) % 4294967296 = (n4 : Int)) := by
  obtain ⟨r6, lr6, Hr6, tr6⟩ := turned_st a4 6 h4 (by decide) (by decide) (by kernel_rfl)
  obtain ⟨r11, lr11, Hr11, tr11⟩ := turned_st a4 11 h4 (by decide) (by decide) (by kernel_rfl)
  obtain ⟨r25, lr25, Hr25, tr25⟩ := turned_st a4 25 h4 (by decide) (by decide) (by kernel_rfl)
  obtain ⟨x1, lx1, Hx1, _, tx1⟩ := xor_st r6 r11 lr6 lr11
  obtain ⟨s, ls, Hs, _, ts⟩ := xor_st x1 r25 lx1 lr25
  obtain ⟨c1, lc1, Hc1, _, tc1⟩ := and_st a4 a5 h4 h5
  obtain ⟨ne, lne, Hne, tne⟩ := not32_st a4 h4
  obtain ⟨c2, lc2, Hc2, _, tc2⟩ := and_st ne a6 lne h6
  obtain ⟨c, lc, Hc, _, tc⟩ := xor_st c1 c2 lc1 lc2
  obtain ⟨y1, _, Hy1, ty1, ey1⟩ := add32_st a7 s
  obtain ⟨y2, _, Hy2, ty2, ey2⟩ := add32_st y1 c
  obtain ⟨y3, _, Hy3, ty3, ey3⟩ := add32_st y2 k
  obtain ⟨x, _, Hx, tx, ex⟩ := add32_st y3 w
  obtain ⟨r2, lr2, Hr2, tr2⟩ := turned_st a0 2 h0 (by decide) (by decide) (by kernel_rfl)
  obtain ⟨r13, lr13, Hr13, tr13⟩ := turned_st a0 13 h0 (by decide) (by decide) (by kernel_rfl)
  obtain ⟨r22, lr22, Hr22, tr22⟩ := turned_st a0 22 h0 (by decide) (by decide) (by kernel_rfl)
  obtain ⟨x2, lx2, Hx2, _, tx2⟩ := xor_st r2 r13 lr2 lr13
  obtain ⟨r, lr, Hr, _, tr⟩ := xor_st x2 r22 lx2 lr22
  obtain ⟨m1, lm1, Hm1, _, tm1⟩ := and_st a0 a1 h0 h1
  obtain ⟨m2, lm2, Hm2, _, tm2⟩ := and_st a0 a2 h0 h2
  obtain ⟨m3, lm3, Hm3, _, tm3⟩ := xor_st m1 m2 lm1 lm2
  obtain ⟨m4, lm4, Hm4, _, tm4⟩ := and_st a1 a2 h1 h2
  obtain ⟨m, lm, Hm, _, tm⟩ := xor_st m3 m4 lm3 lm4
  obtain ⟨z, _, Hz, _, tz⟩ := add32_st r m
  obtain ⟨n0, _, Hn0, _, tn0⟩ := add32_st x z
  obtain ⟨n4, _, Hn4, _, tn4⟩ := add32_st a3 x
  refine ⟨r6, r11, r25, x1, s, c1, ne, c2, c, y1, y2, y3, x, r2, r13, r22, x2, r, m1, m2, m3, m4, m, z, n0, n4, Lib.hid ?_, ⟨tr6 6 rfl, tr11 11 rfl, tr25 25 rfl⟩, ⟨tx1, ts⟩, ⟨tc1, tne, tc2, tc⟩, ⟨ty1, ty2, ty3, tx⟩, ⟨ey1, ey2, ey3, ex⟩, ⟨tr2 2 rfl, tr13 13 rfl, tr22 22 rfl⟩, ⟨tx2, tr⟩, ⟨tm1, tm2, tm3, tm4, tm⟩, tz, tn0, tn4⟩
  unfold round8 bigS1 choose3 bigS0 major3
  simp only [List.getD_cons_zero, List.getD_cons_succ]
  rw [Hr6.out, Hr11.out, Hr25.out, Hx1.out, Hs.out, Hc1.out, Hne.out, Hc2.out, Hc.out, Hr2.out, Hr13.out, Hr22.out, Hx2.out, Hr.out, Hm1.out, Hm2.out, Hm3.out, Hm4.out, Hm.out, ← Hn0.out, ← Hn4.out, ← Hz.out, ← Hx.out, ← Hy3.out, ← Hy2.out, ← Hy1.out]
  obtain ⟨e1, e2⟩ := round_num a7 s c k w r m a3 (2 ^ 32)
  rw [e1, e2]

/-- The cells of a digest on its way. -/
def hcw (h : List Nat) (b : ByteArray) (n : Int) : Array Value := wds .i64 h ++ #[.string b, .int .i64 n]
theorem hcw_at {h : List Nat} {b : ByteArray} {n : Int} (hh : h.length = 8) (i : Nat) (hi : i < 8) : (hcw h b n)[i]? = some (.int .i64 ((h.getD i 0 : Nat) : Int)) := by
  unfold hcw
  rw [Array.getElem?_append_left (by rw [wds_size]; omega)]
  exact wds_get .i64 h i (by omega)
theorem hcw_set {h : List Nat} {b : ByteArray} {n : Int} (hh : h.length = 8) (i : Nat) (hi : i < 8) (v : Nat) : (hcw h b n).setIfInBounds i (.int .i64 (v : Int)) = hcw (h.set i v) b n := by
  unfold hcw
  rw [← wds_set]
  apply Array.ext'
  simp only [Array.toList_setIfInBounds, Array.toList_append]
  rw [List.set_append_left _ _ (by rw [Array.length_toList, wds_size]; omega)]
theorem Blk.hat {w : World} {g : Nat} {t : TypeId} {h : List Nat} {b : ByteArray} {n : Int} (H : Blk w g t (hcw h b n)) (hh : h.length = 8) (i : Nat) (hi : i < 8) : w.cell? ⟨g, i, none⟩ = some (.int .i64 ((h.getD i 0 : Nat) : Int)) ∧ w.frozen? ⟨g, i, none⟩ = false := H.at i _ (hcw_at hh i hi)
theorem Blk.hset {w : World} {g : Nat} {t : TypeId} {h : List Nat} {b : ByteArray} {n : Int} (H : Blk w g t (hcw h b n)) (hh : h.length = 8) (i : Nat) (hi : i < 8) (v : Nat) : Blk (w.setCell ⟨g, i, none⟩ (.int .i64 (v : Int))) g t (hcw (h.set i v) b n) := (H.set i _).eq (hcw_set hh i hi v)
theorem hcw_buf {w : World} {g : Nat} {t : TypeId} {h : List Nat} {b : ByteArray} {n : Int} (H : Blk w g t (hcw h b n)) (hh : h.length = 8) :
    (w.cell? ⟨g, 8, none⟩ = some (.string b) ∧ w.frozen? ⟨g, 8, none⟩ = false) ∧ (w.cell? ⟨g, 9, none⟩ = some (.int .i64 n) ∧ w.frozen? ⟨g, 9, none⟩ = false) := by
  have hs : (wds .i64 h).size = 8 := by rw [wds_size, hh]
  refine ⟨H.at 8 _ ?_, H.at 9 _ ?_⟩
  · rw [hcw, Array.getElem?_append_right (by omega), hs]; rfl
  · rw [hcw, Array.getElem?_append_right (by omega), hs]; rfl

theorem byte_shl {b : Nat} (h : b ≤ 255) : b * 16777216 < 2 ^ 32 ∧ b * 65536 < 2 ^ 32 ∧ b * 256 < 2 ^ 32 ∧ b < 2 ^ 32 := by omega
/-- A word's four bytes, as the program reads them. -/
theorem be_step (s : ByteArray) (i : Nat) (hi : i < 16) (h : 64 ≤ s.size) : ∃ (y0 y1 y2 y3 : Int) (b0 b1 b2 b3 d0 d1 d2 o1 o2 n : Nat), Hid (wordBE s (4 * i) = n) ∧
    (IntKind.i64.wrap (4 * (i : Int)) = y0 ∧ IntKind.i64.wrap (y0 + 1) = y1 ∧ IntKind.i64.wrap (y0 + 2) = y2 ∧ IntKind.i64.wrap (y0 + 3) = y3) ∧
    ((0 ≤ y0) = True ∧ (0 ≤ y1) = True ∧ (0 ≤ y2) = True ∧ (0 ≤ y3) = True) ∧ ((y0 < (s.size : Int)) = True ∧ (y1 < (s.size : Int)) = True ∧ (y2 < (s.size : Int)) = True ∧ (y3 < (s.size : Int)) = True) ∧
    ((∀ h : y0.toNat < s.size, ((s[y0.toNat]'h).toNat : Int) = (b0 : Int)) ∧ (∀ h : y1.toNat < s.size, ((s[y1.toNat]'h).toNat : Int) = (b1 : Int)) ∧ (∀ h : y2.toNat < s.size, ((s[y2.toNat]'h).toNat : Int) = (b2 : Int)) ∧ (∀ h : y3.toNat < s.size, ((s[y3.toNat]'h).toNat : Int) = (b3 : Int))) ∧
    (IntKind.u32.wrap (b0 : Int) = (b0 : Int) ∧ IntKind.u32.wrap (b1 : Int) = (b1 : Int) ∧ IntKind.u32.wrap (b2 : Int) = (b2 : Int) ∧ IntKind.u32.wrap (b3 : Int) = (b3 : Int)) ∧
    (IntKind.u32.wrap ((b0 : Int) * 16777216) = (d0 : Int) ∧ IntKind.u32.wrap ((b1 : Int) * 65536) = (d1 : Int) ∧ IntKind.u32.wrap ((b2 : Int) * 256) = (d2 : Int)) ∧
    (Go.bits .or .u32 (d0 : Int) (d1 : Int) = (o1 : Int) ∧ Go.bits .or .u32 (o1 : Int) (d2 : Int) = (o2 : Int) ∧ Go.bits .or .u32 (o2 : Int) (b3 : Int) = (n : Int)) := by
  obtain ⟨b0, e0, l0⟩ := bt_nat s ((4 * i : Nat) : Int)
  obtain ⟨b1, e1, l1⟩ := bt_nat s ((4 * i + 1 : Nat) : Int)
  obtain ⟨b2, e2, l2⟩ := bt_nat s ((4 * i + 2 : Nat) : Int)
  obtain ⟨b3, e3, l3⟩ := bt_nat s ((4 * i + 3 : Nat) : Int)
  have g0 := (byte_shl l0).1
  have g1 := (byte_shl l1).2.1
  have g2 := (byte_shl l2).2.2.1
  have g3 := (byte_shl l3).2.2.2
  obtain ⟨o1, lo1, Ho1, to1⟩ := or_st (b0 * 16777216) (b1 * 65536) g0 g1
  obtain ⟨o2, lo2, Ho2, to2⟩ := or_st o1 (b2 * 256) lo1 g2
  obtain ⟨n, _, Hn, tn⟩ := or_st o2 b3 lo2 g3
  refine ⟨((4 * i : Nat) : Int), ((4 * i + 1 : Nat) : Int), ((4 * i + 2 : Nat) : Int), ((4 * i + 3 : Nat) : Int), b0, b1, b2, b3, b0 * 16777216, b1 * 65536, b2 * 256, o1, o2, n, Lib.hid ?_, ⟨?_, ?_, ?_, ?_⟩, ⟨eq_true ?_, eq_true ?_, eq_true ?_, eq_true ?_⟩, ⟨eq_true ?_, eq_true ?_, eq_true ?_, eq_true ?_⟩,
    ⟨fun h => (bt_at s _ h).trans e0, fun h => (bt_at s _ h).trans e1, fun h => (bt_at s _ h).trans e2, fun h => (bt_at s _ h).trans e3⟩, ⟨?_, ?_, ?_, ?_⟩, ⟨?_, ?_, ?_⟩, to1, to2, tn⟩
  · unfold wordBE
    rw [e0, e1, e2, e3]
    simp only [Int.toNat_natCast]
    unfold le32
    rw [← Hn.out, ← Ho2.out, ← Ho1.out]
    ac_rfl
  all_goals (clear to1 to2 tn Ho1 Ho2 Hn e0 e1 e2 e3 lo1 lo2)
  · rw [IntKind.wrap_i64]; omega
  · rw [IntKind.wrap_i64]; omega
  · rw [IntKind.wrap_i64]; omega
  · rw [IntKind.wrap_i64]; omega
  all_goals first | omega | (rw [IntKind.wrap_u32]; omega)

/-- An array of eight read at a place. -/
theorem index8 (k : IntKind) (t : TypeId) (P : Program) (h : List Nat) (hh : h.length = 8) (f : ∀ (a0 a1 a2 a3 a4 a5 a6 a7 : Value) (W : World), (∀ v0 v1 v2 v3 v4 v5 v6 v7 : Nat, a0 = .int k v0 → a1 = .int k v1 → a2 = .int k v2 → a3 = .int k v3 → a4 = .int k v4 → a5 = .int k v5 → a6 = .int k v6 → a7 = .int k v7 →
      (Instr.index t (.agg #[a0, a1, a2, a3, a4, a5, a6, a7]) (.int .i64 0)).run P W = .ok a0 W ∧ (Instr.index t (.agg #[a0, a1, a2, a3, a4, a5, a6, a7]) (.int .i64 1)).run P W = .ok a1 W ∧ (Instr.index t (.agg #[a0, a1, a2, a3, a4, a5, a6, a7]) (.int .i64 2)).run P W = .ok a2 W ∧ (Instr.index t (.agg #[a0, a1, a2, a3, a4, a5, a6, a7]) (.int .i64 3)).run P W = .ok a3 W ∧
      (Instr.index t (.agg #[a0, a1, a2, a3, a4, a5, a6, a7]) (.int .i64 4)).run P W = .ok a4 W ∧ (Instr.index t (.agg #[a0, a1, a2, a3, a4, a5, a6, a7]) (.int .i64 5)).run P W = .ok a5 W ∧ (Instr.index t (.agg #[a0, a1, a2, a3, a4, a5, a6, a7]) (.int .i64 6)).run P W = .ok a6 W ∧ (Instr.index t (.agg #[a0, a1, a2, a3, a4, a5, a6, a7]) (.int .i64 7)).run P W = .ok a7 W))
    (i : Nat) (hi : i < 8) (W : World) : (Instr.index t (.agg (wds k h)) (.int .i64 (i : Int))).run P W = .ok (.int k ((h.getD i 0 : Nat) : Int)) W := by
  match h, hh with
  | [a0, a1, a2, a3, a4, a5, a6, a7], _ =>
    obtain ⟨f0, f1, f2, f3, f4, f5, f6, f7⟩ := f (.int k a0) (.int k a1) (.int k a2) (.int k a3) (.int k a4) (.int k a5) (.int k a6) (.int k a7) W a0 a1 a2 a3 a4 a5 a6 a7 rfl rfl rfl rfl rfl rfl rfl rfl
    match i, hi with
    | 0, _ => exact f0
    | 1, _ => exact f1
    | 2, _ => exact f2
    | 3, _ => exact f3
    | 4, _ => exact f4
    | 5, _ => exact f5
    | 6, _ => exact f6
    | 7, _ => exact f7
theorem index8_int (h : List Nat) (hh : h.length = 8) (i : Nat) (hi : i < 8) (W : World) : (Instr.index 22 (.agg (wds .i64 h)) (.int .i64 (i : Int))).run Try.prog W = .ok (.int .i64 ((h.getD i 0 : Nat) : Int)) W :=
  index8 .i64 22 Try.prog h hh (fun a0 a1 a2 a3 a4 a5 a6 a7 W v0 v1 v2 v3 v4 v5 v6 v7 h0 h1 h2 h3 h4 h5 h6 h7 => by
    subst h0 h1 h2 h3 h4 h5 h6 h7
    exact ⟨by kernel_rfl, by kernel_rfl, by kernel_rfl, by kernel_rfl, by kernel_rfl, by kernel_rfl, by kernel_rfl, by kernel_rfl⟩) i hi W
theorem index8_u32 (h : List Nat) (hh : h.length = 8) (i : Nat) (hi : i < 8) (W : World) : (Instr.index 90 (.agg (wds .u32 h)) (.int .i64 (i : Int))).run Try.prog W = .ok (.int .u32 ((h.getD i 0 : Nat) : Int)) W :=
  index8 .u32 90 Try.prog h hh (fun a0 a1 a2 a3 a4 a5 a6 a7 W v0 v1 v2 v3 v4 v5 v6 v7 h0 h1 h2 h3 h4 h5 h6 h7 => by
    subst h0 h1 h2 h3 h4 h5 h6 h7
    exact ⟨by kernel_rfl, by kernel_rfl, by kernel_rfl, by kernel_rfl, by kernel_rfl, by kernel_rfl, by kernel_rfl, by kernel_rfl⟩) i hi W
theorem word32 (a : Nat) (h : a < 2 ^ 32) : (a : Int) % 4294967296 = (a : Int) ∧ IntKind.u32.wrap (a : Int) = (a : Int) ∧ wrap64 (a : Int) = (a : Int) ∧ IntKind.i64.wrap (a : Int) = (a : Int) := by
  refine ⟨by omega, ?_, ?_, ?_⟩
  · rw [IntKind.wrap_u32]; omega
  · unfold wrap64; omega
  · rw [IntKind.wrap_i64]; omega
theorem fill8 (h v : List Nat) (hh : h.length = 8) (hv : v.length = 8) : fillN (fun i => h.getD i 0) 0 8 v = h := by
  match h, v, hh, hv with
  | [a0, a1, a2, a3, a4, a5, a6, a7], [b0, b1, b2, b3, b4, b5, b6, b7], _, _ => rfl

/-- Eight stores, one after the other. -/
theorem Blk.set8 {w : World} {g : Nat} {t : TypeId} {x0 x1 x2 x3 x4 x5 x6 x7 : Value} (h : Blk w g t #[x0, x1, x2, x3, x4, x5, x6, x7]) (y0 y1 y2 y3 y4 y5 y6 y7 : Value) :
    Blk ((((((((w.setCell ⟨g, 0, none⟩ y0).setCell ⟨g, 1, none⟩ y1).setCell ⟨g, 2, none⟩ y2).setCell ⟨g, 3, none⟩ y3).setCell ⟨g, 4, none⟩ y4).setCell ⟨g, 5, none⟩ y5).setCell ⟨g, 6, none⟩ y6).setCell ⟨g, 7, none⟩ y7) g t #[y0, y1, y2, y3, y4, y5, y6, y7] := by
  have := (((((((h.set 0 y0).set 1 y1).set 2 y2).set 3 y3).set 4 y4).set 5 y5).set 6 y6).set 7 y7
  simpa using this
theorem Only.set8 {w w' : World} {g : Nat} (h : Only g w w') (y0 y1 y2 y3 y4 y5 y6 y7 : Value) :
    Only g w ((((((((w'.setCell ⟨g, 0, none⟩ y0).setCell ⟨g, 1, none⟩ y1).setCell ⟨g, 2, none⟩ y2).setCell ⟨g, 3, none⟩ y3).setCell ⟨g, 4, none⟩ y4).setCell ⟨g, 5, none⟩ y5).setCell ⟨g, 6, none⟩ y6).setCell ⟨g, 7, none⟩ y7) :=
  (((((((h.set 0 y0).set 1 y1).set 2 y2).set 3 y3).set 4 y4).set 5 y5).set 6 y6).set 7 y7

theorem hcw_range {w : World} {g : Nat} {t : TypeId} {h : List Nat} {b : ByteArray} {n : Int} (H : Blk w g t (hcw h b n)) : w.rangeAt g 0 (wds .i64 h).toList := by
  intro j v hv
  rw [Nat.zero_add]
  have hj : j < (wds .i64 h).size := by
    have := (List.getElem?_eq_some_iff.1 hv).1
    simpa using this
  refine (H.at j v ?_).1
  rw [hcw, Array.getElem?_append_left hj]
  simpa using hv
/-- The words of a digest on its way, read whole. -/
theorem wpList_load_h {ops : Array Oper} {rest : List Oper} {op : Oper} {a : Act} {w : World} {Q : Exit → Act → World → Prop} (hgd : op.guard = none) (x : Operand) (ho : op.op = .load 22 x)
    (g : Nat) (hx : a.eval x = .pointer (some ⟨g, 0, none⟩)) {t : TypeId} {h : List Nat} {b : ByteArray} {n : Int} (H : Blk w g t (hcw h b n)) (hh : h.length = 8)
    (hK : wpList Try.prog ops Q rest (a.put op.dst (.agg (wds .i64 h))) w) : wpList Try.prog ops Q (op :: rest) a w :=
  wpList_load_mid hgd 22 x ho g 0 hx (wds .i64 h).toList _ (hcw_range H) Try.underlying22 rfl (by rw [Array.length_toList, wds_size, hh]; kernel_rfl) (by rw [Array.toArray_toList]; exact hK)
end

/-! The program's block of the digest: its words and their schedule. Conditions: words of 32 bits. -/
section
open Go.RowKit Go.Shelf Go.Proofs.YtajbljegeiebjaaW.PrintWords Go.Proofs.YtajbljegeiebjaaW.PrintLast Go.Proofs.YtajbljegeiebjaaW.PrintMore Go.Proofs.Ytajbljegeiebjaa.PSha

set_option maxRecDepth 1000000 in
set_option maxHeartbeats 16000000 in
theorem isha0_wp (t : ByteArray) (g : Nat) (v : List Nat) (u0 u2 u3 u4 u5 u7 u8 u9 u10 u11 u12 u13 u14 u15 u16 u17 u18 u19 u20 u21 u22 u23 u24 u26 u27 u28 u29 u30 u31 u32 u33 u34 u35 u36 u37 u38 u39 u40 u41 u42 u43 u44 u45 u46 u47 u48 u49 u50 u51 u52 u53 u54 u55 u56 u57 u58 u59 u60 u61 u62 u63 u64 u65 u66 u67 u68 u69 u70 u71 u72 u73 u74 u75 u76 u77 u78 u79 u80 u81 u82 u83 u84 u85 u86 u87 u88 u89 u90 u91 u92 u93 u94 u95 u96 u97 u98 u99 u100 u101 u102 u103 u104 u105 u106 u107 u108 u109 u110 u111 u112 u113 u114 u115 u116 u117 u118 u119 u120 u121 u122 u123 u124 u125 u126 u127 u128 u129 u130 u131 u132 u133 u134 u135 u136 u137 u138 u139 u140 u141 u142 u143 u144 u145 u146 u147 u148 u149 u150 u151 u152 u153 u154 u155 u156 u157 u158 u159 u160 u161 u162 u163 u164 u165 u166 u167 u168 u169 u170 u171 u172 u173 u174 u175 u176 u177 u178 u179 u180 u181 u182 u183 u184 u185 u186 u187 u188 u189 u190 u191 u192 u193 u194 u195 u196 u197 u198 u199 u200 u201 u202 u203 u204 u205 u206 u207 u208 u209 u210 u211 u212 u213 u214 : Value) (Q0 : Exit → Act → World → Prop) (w : World) (hv : v.length = 64) (hsz : 64 ≤ t.size) (hB : Blk w g 76 (wds .u32 v))
    (hexit : ∀ (x7 x26 x27 x28 x29 x30 x31 x32 x33 x34 x35 x36 x37 x38 x39 x40 x41 x42 x43 x44 x45 x46 x47 x48 x49 x50 x51 x52 x53 x54 x55 x56 x57 x58 x59 : Value) (w' : World), Blk w' g 76 (wds .u32 (fillN (fun i => wordBE t (4 * i)) 0 16 v)) ∧ Below g w w' → Q0 (.exit 0) ⟨List.toArray (u0 :: (.string t) :: u2 :: u3 :: u4 :: u5 :: (.pointer (some ⟨g, 0, none⟩)) :: x7 :: u8 :: u9 :: u10 :: u11 :: u12 :: u13 :: u14 :: u15 :: u16 :: u17 :: u18 :: u19 :: u20 :: u21 :: u22 :: u23 :: u24 :: (.int .i64 16) :: x26 :: x27 :: x28 :: x29 :: x30 :: x31 :: x32 :: x33 :: x34 :: x35 :: x36 :: x37 :: x38 :: x39 :: x40 :: x41 :: x42 :: x43 :: x44 :: x45 :: x46 :: x47 :: x48 :: x49 :: x50 :: x51 :: x52 :: x53 :: x54 :: x55 :: x56 :: x57 :: x58 :: x59 :: u60 :: u61 :: u62 :: u63 :: u64 :: u65 :: u66 :: u67 :: u68 :: u69 :: u70 :: u71 :: u72 :: u73 :: u74 :: u75 :: u76 :: u77 :: u78 :: u79 :: u80 :: u81 :: u82 :: u83 :: u84 :: u85 :: u86 :: u87 :: u88 :: u89 :: u90 :: u91 :: u92 :: u93 :: u94 :: u95 :: u96 :: u97 :: u98 :: u99 :: u100 :: u101 :: u102 :: u103 :: u104 :: u105 :: u106 :: u107 :: u108 :: u109 :: u110 :: u111 :: u112 :: u113 :: u114 :: u115 :: u116 :: u117 :: u118 :: u119 :: u120 :: u121 :: u122 :: u123 :: u124 :: u125 :: u126 :: u127 :: u128 :: u129 :: u130 :: u131 :: u132 :: u133 :: u134 :: u135 :: u136 :: u137 :: u138 :: u139 :: u140 :: u141 :: u142 :: u143 :: u144 :: u145 :: u146 :: u147 :: u148 :: u149 :: u150 :: u151 :: u152 :: u153 :: u154 :: u155 :: u156 :: u157 :: u158 :: u159 :: u160 :: u161 :: u162 :: u163 :: u164 :: u165 :: u166 :: u167 :: u168 :: u169 :: u170 :: u171 :: u172 :: u173 :: u174 :: u175 :: u176 :: u177 :: u178 :: u179 :: u180 :: u181 :: u182 :: u183 :: u184 :: u185 :: u186 :: u187 :: u188 :: u189 :: u190 :: u191 :: u192 :: u193 :: u194 :: u195 :: u196 :: u197 :: u198 :: u199 :: u200 :: u201 :: u202 :: u203 :: u204 :: u205 :: u206 :: u207 :: u208 :: u209 :: u210 :: u211 :: u212 :: u213 :: u214 :: []), []⟩ w') :
    Code.wp Try.prog (loopNo Try.f73 0) Q0 ⟨List.toArray (u0 :: (.string t) :: u2 :: u3 :: u4 :: u5 :: (.pointer (some ⟨g, 0, none⟩)) :: u7 :: u8 :: u9 :: u10 :: u11 :: u12 :: u13 :: u14 :: u15 :: u16 :: u17 :: u18 :: u19 :: u20 :: u21 :: u22 :: u23 :: u24 :: (.int .i64 0) :: u26 :: u27 :: u28 :: u29 :: u30 :: u31 :: u32 :: u33 :: u34 :: u35 :: u36 :: u37 :: u38 :: u39 :: u40 :: u41 :: u42 :: u43 :: u44 :: u45 :: u46 :: u47 :: u48 :: u49 :: u50 :: u51 :: u52 :: u53 :: u54 :: u55 :: u56 :: u57 :: u58 :: u59 :: u60 :: u61 :: u62 :: u63 :: u64 :: u65 :: u66 :: u67 :: u68 :: u69 :: u70 :: u71 :: u72 :: u73 :: u74 :: u75 :: u76 :: u77 :: u78 :: u79 :: u80 :: u81 :: u82 :: u83 :: u84 :: u85 :: u86 :: u87 :: u88 :: u89 :: u90 :: u91 :: u92 :: u93 :: u94 :: u95 :: u96 :: u97 :: u98 :: u99 :: u100 :: u101 :: u102 :: u103 :: u104 :: u105 :: u106 :: u107 :: u108 :: u109 :: u110 :: u111 :: u112 :: u113 :: u114 :: u115 :: u116 :: u117 :: u118 :: u119 :: u120 :: u121 :: u122 :: u123 :: u124 :: u125 :: u126 :: u127 :: u128 :: u129 :: u130 :: u131 :: u132 :: u133 :: u134 :: u135 :: u136 :: u137 :: u138 :: u139 :: u140 :: u141 :: u142 :: u143 :: u144 :: u145 :: u146 :: u147 :: u148 :: u149 :: u150 :: u151 :: u152 :: u153 :: u154 :: u155 :: u156 :: u157 :: u158 :: u159 :: u160 :: u161 :: u162 :: u163 :: u164 :: u165 :: u166 :: u167 :: u168 :: u169 :: u170 :: u171 :: u172 :: u173 :: u174 :: u175 :: u176 :: u177 :: u178 :: u179 :: u180 :: u181 :: u182 :: u183 :: u184 :: u185 :: u186 :: u187 :: u188 :: u189 :: u190 :: u191 :: u192 :: u193 :: u194 :: u195 :: u196 :: u197 :: u198 :: u199 :: u200 :: u201 :: u202 :: u203 :: u204 :: u205 :: u206 :: u207 :: u208 :: u209 :: u210 :: u211 :: u212 :: u213 :: u214 :: []), []⟩ w := by
  conv => arg 2; whnf
  have HX := Lib.hid hexit
  clear hexit
  go_loopg [25] 16 (fun gg s_ wr => ∃ i : Nat, s_ = .int .i64 i ∧ i ≤ 16 ∧ 16 ≤ gg + i ∧ Aside0 (Blk wr g 76 (wds .u32 (fillN (fun i => wordBE t (4 * i)) 0 i v))) ∧ Aside0 (Below g w wr))
  case atStart => exact ⟨0, rfl, by omega, by omega, ⟨hB⟩, ⟨Below.refl _ _⟩⟩
  case round =>
    obtain ⟨i, rfl, hi, hg, HB, HL⟩ := hrel
    by_cases hlt : i < 16
    · have c1 : decide ((i : Int) < 16) = true := decide_eq_true (by omega)
      have p0 : (0 ≤ (i : Int)) = True := eq_true (by omega)
      have p1 : ((i : Int) < 64) = True := eq_true (by omega)
      obtain ⟨y0, y1, y2, y3, b0, b1, b2, b3, d0, d1, d2, o1, o2, n, Hn, ⟨ty0, ty1, ty2, ty3⟩, ⟨z0, z1, z2, z3⟩, ⟨k0, k1, k2, k3⟩, ⟨tb0, tb1, tb2, tb3⟩, ⟨tw0, tw1, tw2, tw3⟩, ⟨td0, td1, td2⟩, to1, to2, tn⟩ := be_step t i hlt hsz
      have HB1 := Aside0.mk HB.out.drew; have HL1 := Aside0.mk HL.out.drew
      have x1 := HB.out.wat i (by rw [fillN_length, hv]; omega)
      have FX := Lib.hid (show fillN (fun i => wordBE t (4 * i)) 0 (i + 1) v = (fillN (fun i => wordBE t (4 * i)) 0 i v).set i n by simp [fillN, Hn.out])
      go_wp2
      go_still_tail 31, (by kernel_rfl)
      change wpList _ _ _ _ _ wr.drew
      clear HB HL x1
      generalize wr.drew = wd at HB1 HL1 ⊢
      obtain ⟨x1, f1⟩ := HB1.out.wat i (by rw [fillN_length, hv]; exact Nat.lt_trans hlt (by decide))
      have B1 := Aside0.mk (HB1.out.wset i n)
      have L1 := Aside0.mk (HL1.out.setCell (p := ⟨g, i, none⟩) (Nat.le_refl _) (.int .u32 n))
      clear HB1 HL1 tb0 tb1 tb2 tb3
      go_wp2
      clear to1 to2 tn td0 td1 td2 tw0 tw1 tw2 tw3 ty0 ty1 ty2 ty3
      go_roundg (16 - (i + 1))
      case measure => omega
      case rel => exact ⟨i + 1, by go_num, by omega, by omega, ⟨by rw [FX.out]; exact B1.out⟩, L1⟩
    · have c1 : decide ((i : Int) < 16) = false := decide_eq_false (by omega)
      obtain rfl : i = 16 := by omega
      go_wp2
      have P1 := HB.out
      have P2 := HL.out
      refine HX.out _ _ _ _ _ _ _ _ _ _ _ _ _ _ _ _ _ _ _ _ _ _ _ _ _ _ _ _ _ _ _ _ _ _ _ _ ?_
      exact ⟨P1, P2⟩


set_option maxRecDepth 1000000 in
set_option maxHeartbeats 16000000 in
theorem isha1_wp (g : Nat) (v : List Nat) (u0 u1 u2 u3 u4 u5 u7 u9 u10 u11 u12 u13 u14 u15 u16 u17 u18 u19 u20 u21 u22 u23 u24 u25 u26 u27 u28 u29 u30 u31 u32 u33 u34 u35 u36 u37 u38 u39 u40 u41 u42 u43 u44 u45 u46 u47 u48 u49 u50 u51 u52 u53 u54 u55 u56 u57 u58 u59 u60 u61 u62 u63 u64 u65 u66 u67 u68 u69 u70 u71 u72 u73 u74 u75 u76 u77 u78 u79 u80 u81 u82 u83 u84 u85 u86 u87 u88 u89 u90 u91 u92 u93 u94 u95 u96 u97 u98 u99 u100 u101 u102 u103 u104 u105 u106 u107 u108 u109 u110 u111 u112 u113 u114 u115 u116 u117 u118 u119 u120 u121 u122 u123 u124 u125 u126 u127 u128 u129 u130 u131 u132 u133 u134 u135 u136 u137 u138 u139 u140 u141 u142 u143 u144 u145 u146 u147 u148 u149 u150 u151 u152 u153 u154 u155 u156 u157 u158 u159 u160 u161 u162 u163 u164 u165 u166 u167 u168 u169 u170 u171 u172 u173 u174 u175 u176 u177 u178 u179 u180 u181 u182 u183 u184 u185 u186 u187 u188 u189 u190 u191 u192 u193 u194 u195 u196 u197 u198 u199 u200 u201 u202 u203 u204 u205 u206 u207 u208 u209 u210 u211 u212 u213 u214 : Value) (Q0 : Exit → Act → World → Prop) (w : World) (hv : WN 64 v) (hB : Blk w g 76 (wds .u32 v))
    (hexit : ∀ (x9 x10 x60 x61 x62 x63 x64 x65 x66 x67 x68 x69 x70 x71 x72 x73 x74 x75 x76 x77 x78 x79 x80 x81 x82 x83 x84 x85 x86 x87 x88 x89 x90 x91 x92 x93 x94 x95 x96 x97 x98 x99 x100 : Value) (w' : World), Blk w' g 76 (wds .u32 (schedN v 48)) ∧ Below g w w' → Q0 (.exit 2) ⟨List.toArray (u0 :: u1 :: u2 :: u3 :: u4 :: u5 :: (.pointer (some ⟨g, 0, none⟩)) :: u7 :: (.int .i64 64) :: x9 :: x10 :: u11 :: u12 :: u13 :: u14 :: u15 :: u16 :: u17 :: u18 :: u19 :: u20 :: u21 :: u22 :: u23 :: u24 :: u25 :: u26 :: u27 :: u28 :: u29 :: u30 :: u31 :: u32 :: u33 :: u34 :: u35 :: u36 :: u37 :: u38 :: u39 :: u40 :: u41 :: u42 :: u43 :: u44 :: u45 :: u46 :: u47 :: u48 :: u49 :: u50 :: u51 :: u52 :: u53 :: u54 :: u55 :: u56 :: u57 :: u58 :: u59 :: x60 :: x61 :: x62 :: x63 :: x64 :: x65 :: x66 :: x67 :: x68 :: x69 :: x70 :: x71 :: x72 :: x73 :: x74 :: x75 :: x76 :: x77 :: x78 :: x79 :: x80 :: x81 :: x82 :: x83 :: x84 :: x85 :: x86 :: x87 :: x88 :: x89 :: x90 :: x91 :: x92 :: x93 :: x94 :: x95 :: x96 :: x97 :: x98 :: x99 :: x100 :: u101 :: u102 :: u103 :: u104 :: u105 :: u106 :: u107 :: u108 :: u109 :: u110 :: u111 :: u112 :: u113 :: u114 :: u115 :: u116 :: u117 :: u118 :: u119 :: u120 :: u121 :: u122 :: u123 :: u124 :: u125 :: u126 :: u127 :: u128 :: u129 :: u130 :: u131 :: u132 :: u133 :: u134 :: u135 :: u136 :: u137 :: u138 :: u139 :: u140 :: u141 :: u142 :: u143 :: u144 :: u145 :: u146 :: u147 :: u148 :: u149 :: u150 :: u151 :: u152 :: u153 :: u154 :: u155 :: u156 :: u157 :: u158 :: u159 :: u160 :: u161 :: u162 :: u163 :: u164 :: u165 :: u166 :: u167 :: u168 :: u169 :: u170 :: u171 :: u172 :: u173 :: u174 :: u175 :: u176 :: u177 :: u178 :: u179 :: u180 :: u181 :: u182 :: u183 :: u184 :: u185 :: u186 :: u187 :: u188 :: u189 :: u190 :: u191 :: u192 :: u193 :: u194 :: u195 :: u196 :: u197 :: u198 :: u199 :: u200 :: u201 :: u202 :: u203 :: u204 :: u205 :: u206 :: u207 :: u208 :: u209 :: u210 :: u211 :: u212 :: u213 :: u214 :: []), []⟩ w') :
    Code.wp Try.prog (loopNo Try.f73 1) Q0 ⟨List.toArray (u0 :: u1 :: u2 :: u3 :: u4 :: u5 :: (.pointer (some ⟨g, 0, none⟩)) :: u7 :: (.int .i64 16) :: u9 :: u10 :: u11 :: u12 :: u13 :: u14 :: u15 :: u16 :: u17 :: u18 :: u19 :: u20 :: u21 :: u22 :: u23 :: u24 :: u25 :: u26 :: u27 :: u28 :: u29 :: u30 :: u31 :: u32 :: u33 :: u34 :: u35 :: u36 :: u37 :: u38 :: u39 :: u40 :: u41 :: u42 :: u43 :: u44 :: u45 :: u46 :: u47 :: u48 :: u49 :: u50 :: u51 :: u52 :: u53 :: u54 :: u55 :: u56 :: u57 :: u58 :: u59 :: u60 :: u61 :: u62 :: u63 :: u64 :: u65 :: u66 :: u67 :: u68 :: u69 :: u70 :: u71 :: u72 :: u73 :: u74 :: u75 :: u76 :: u77 :: u78 :: u79 :: u80 :: u81 :: u82 :: u83 :: u84 :: u85 :: u86 :: u87 :: u88 :: u89 :: u90 :: u91 :: u92 :: u93 :: u94 :: u95 :: u96 :: u97 :: u98 :: u99 :: u100 :: u101 :: u102 :: u103 :: u104 :: u105 :: u106 :: u107 :: u108 :: u109 :: u110 :: u111 :: u112 :: u113 :: u114 :: u115 :: u116 :: u117 :: u118 :: u119 :: u120 :: u121 :: u122 :: u123 :: u124 :: u125 :: u126 :: u127 :: u128 :: u129 :: u130 :: u131 :: u132 :: u133 :: u134 :: u135 :: u136 :: u137 :: u138 :: u139 :: u140 :: u141 :: u142 :: u143 :: u144 :: u145 :: u146 :: u147 :: u148 :: u149 :: u150 :: u151 :: u152 :: u153 :: u154 :: u155 :: u156 :: u157 :: u158 :: u159 :: u160 :: u161 :: u162 :: u163 :: u164 :: u165 :: u166 :: u167 :: u168 :: u169 :: u170 :: u171 :: u172 :: u173 :: u174 :: u175 :: u176 :: u177 :: u178 :: u179 :: u180 :: u181 :: u182 :: u183 :: u184 :: u185 :: u186 :: u187 :: u188 :: u189 :: u190 :: u191 :: u192 :: u193 :: u194 :: u195 :: u196 :: u197 :: u198 :: u199 :: u200 :: u201 :: u202 :: u203 :: u204 :: u205 :: u206 :: u207 :: u208 :: u209 :: u210 :: u211 :: u212 :: u213 :: u214 :: []), []⟩ w := by
  conv => arg 2; whnf
  have HX := Lib.hid hexit
  clear hexit
  go_loopg [8] 48 (fun gg s_ wr => ∃ (i : Nat) (x : Int), s_ = .int .i64 x ∧ Aside0 (x = (i : Int) + 16) ∧ 16 ≤ x ∧ x ≤ 64 ∧ i ≤ 48 ∧ 48 ≤ gg + i ∧ Aside0 (Blk wr g 76 (wds .u32 (schedN v i))) ∧ Aside0 (Below g w wr))
  case atStart => exact ⟨0, 16, rfl, ⟨by omega⟩, by omega, by omega, by omega, by omega, ⟨hB⟩, ⟨Below.refl _ _⟩⟩
  case round =>
    obtain ⟨i, x, rfl, HI, hx0, hx1, hi, hg, HB, HL⟩ := hrel
    by_cases hlt : i < 48
    · have hu := hv.schedN i
      obtain ⟨u, hue⟩ : ∃ u, schedN v i = u := ⟨_, rfl⟩
      have HU := Lib.hid (show schedN v (i + 1) = u.set (16 + i) ((u.getD i 0 + sig0 (u.getD (i + 1) 0) + u.getD (i + 9) 0 + sig1 (u.getD (i + 14) 0)) % 2 ^ 32) by rw [← hue]; rfl)
      rw [hue] at hu HB
      clear hue
      obtain ⟨p16, p15, p7, p2, r7, r18, q3, x1, sa, r17, r19, q10, x2, sb, n1, n2, n, Hn, hp, ⟨tr7, tr18, tr17, tr19⟩, ⟨tq3, tq10⟩, ⟨tx1, tsa, tx2, tsb⟩, tn1, tn2, tn⟩ := isched_step u hu i
      rw [Hn.out] at HU
      obtain ⟨y15, y2, y16, y7, hy, ⟨m15, m2, m16, m7⟩, ⟨z15, z2, z16, z7, z0⟩, ⟨k15, k2, k16, k7, k0⟩, c1⟩ := sched_places i x HI.out hlt
      have SW := fun (W : World) (h : Blk W g 76 (wds .u32 u)) => sched_world h hu.1 i hlt x y15 y2 y16 y7 hy p16 p15 p7 p2 hp
      replace SW := Lib.hid SW
      have C7 := fun W => turned_calls tr7 W
      have C18 := fun W => turned_calls tr18 W
      have C17 := fun W => turned_calls tr17 W
      have C19 := fun W => turned_calls tr19 W
      rw [← hy.2.2.2.2] at HU
      clear hy hp Hn tr7 tr18 tr17 tr19 hu
      obtain ⟨_, b15, _, b2, _, _, _⟩ := SW.out _ HB.out
      go_wp2
      go_quiet (fail)
      have HB2 := Aside0.mk (HB.out.drewN nq); have HL2 := Aside0.mk (Below_drewN HL.out nq)
      clear b15 b2 HB HL
      generalize wr.drewN nq = wa at HB2 HL2 ⊢
      obtain ⟨b16, _, b7, _, ⟨b0, hb0⟩, f0, kk⟩ := SW.out _ HB2.out
      have kk1 := fun m => ((SW.out _ (HB2.out.drewN m)).2.2.2.2.2.2 (.int .u32 n)).1
      have kk2 := fun m => ((SW.out _ (HB2.out.drewN m)).2.2.2.2.2.2 (.int .u32 n)).2
      have B1 := fun m => Aside0.mk ((HB2.out.drewN m).wset x.toNat n)
      have L1 := fun m => Aside0.mk ((Below_drewN HL2.out m).setCell (p := ⟨g, x.toNat, none⟩) (Nat.le_refl _) (.int .u32 n))
      rw [← HU.out] at B1
      clear HB2 HL2 kk
      go_wp2
      go_region_held3 (fun W => W.cell? ⟨g, y16.toNat, none⟩ = some (.int .u32 (p16 : Int)) ∧ W.cell? ⟨g, y7.toNat, none⟩ = some (.int .u32 (p7 : Int))) (go_keep)
        (first | (go_at_call 85; with_reducible refine (C7 _).mono ?_; rintro e w' ⟨rfl, m, rfl⟩) | (go_at_call 85; with_reducible refine (C18 _).mono ?_; rintro e w' ⟨rfl, m, rfl⟩) | (go_at_call 85; with_reducible refine (C17 _).mono ?_; rintro e w' ⟨rfl, m, rfl⟩) | (go_at_call 85; with_reducible refine (C19 _).mono ?_; rintro e w' ⟨rfl, m, rfl⟩))
      clear HU kk1 kk2 b16 b7 hb0 f0 SW z15 z2 z16 z7 z0 k15 k2 k16 k7 k0 m15 m2 m16 m7 tq3 tq10 tx1 tsa tx2 tsb tn tn1 tn2 C7 C18 C17 C19
      go_wp2
      go_roundg (48 - (i + 1))
      case measure => omega
      case rel => exact ⟨i + 1, x + 1, rfl, ⟨by have := HI.out; omega⟩, by omega, by have := HI.out; omega, by omega, by omega, B1 _, L1 _⟩
    · have c1 : decide (x < 64) = false := decide_eq_false (by have := HI.out; omega)
      obtain rfl : i = 48 := by omega
      obtain rfl : x = 64 := by have := HI.out; omega
      go_wp2
      have P1 := HB.out
      have P2 := HL.out
      refine HX.out _ _ _ _ _ _ _ _ _ _ _ _ _ _ _ _ _ _ _ _ _ _ _ _ _ _ _ _ _ _ _ _ _ _ _ _ _ _ _ _ _ _ _ _ ?_
      exact ⟨P1, P2⟩
end

/-! The program's block of the digest: the words at its beginning and the sums at its end. Conditions: words of 32 bits. -/
section
open Go.RowKit Go.Shelf Go.Proofs.YtajbljegeiebjaaW.PrintWords Go.Proofs.YtajbljegeiebjaaW.PrintLast Go.Proofs.YtajbljegeiebjaaW.PrintMore Go.Proofs.Ytajbljegeiebjaa.PSha

set_option maxRecDepth 1000000 in
set_option maxHeartbeats 16000000 in
theorem isha2_wp (g : Nat) (h v : List Nat) (u0 u1 u2 u3 u4 u5 u6 u7 u8 u9 u10 u12 u13 u14 u15 u16 u17 u18 u19 u20 u21 u22 u23 u24 u25 u26 u27 u28 u29 u30 u31 u32 u33 u34 u35 u36 u37 u38 u39 u40 u41 u42 u43 u44 u45 u46 u47 u48 u49 u50 u51 u52 u53 u54 u55 u56 u57 u58 u59 u60 u61 u62 u63 u64 u65 u66 u67 u68 u69 u70 u71 u72 u73 u74 u75 u76 u77 u78 u79 u80 u81 u82 u83 u84 u85 u86 u87 u88 u89 u90 u91 u92 u93 u94 u95 u96 u97 u98 u99 u100 u101 u102 u103 u106 u107 u108 u109 u110 u111 u112 u113 u114 u115 u116 u117 u118 u119 u120 u121 u122 u123 u124 u125 u126 u127 u128 u129 u130 u131 u132 u133 u134 u135 u136 u137 u138 u139 u140 u141 u142 u143 u144 u145 u146 u147 u148 u149 u150 u151 u152 u153 u154 u155 u156 u157 u158 u159 u160 u161 u162 u163 u164 u165 u166 u167 u168 u169 u170 u171 u172 u173 u174 u175 u176 u177 u178 u179 u180 u181 u182 u183 u184 u185 u186 u187 u188 u189 u190 u191 u192 u193 u194 u195 u196 u197 u198 u199 u200 u201 u202 u203 u204 u205 u206 u207 u208 u209 u210 u211 u212 u213 u214 : Value) (Q0 : Exit → Act → World → Prop) (w : World) (hh : WN 8 h) (hv : v.length = 8) (hB : Blk w g 90 (wds .u32 v))
    (hexit : ∀ (x12 x13 x106 x107 x108 x109 x110 x111 x112 x113 : Value) (w' : World), Blk w' g 90 (wds .u32 h) ∧ Below g w w' → Q0 (.exit 4) ⟨List.toArray (u0 :: u1 :: u2 :: u3 :: u4 :: u5 :: u6 :: u7 :: u8 :: u9 :: u10 :: (.pointer (some ⟨g, 0, none⟩)) :: x12 :: x13 :: u14 :: u15 :: u16 :: u17 :: u18 :: u19 :: u20 :: u21 :: u22 :: u23 :: u24 :: u25 :: u26 :: u27 :: u28 :: u29 :: u30 :: u31 :: u32 :: u33 :: u34 :: u35 :: u36 :: u37 :: u38 :: u39 :: u40 :: u41 :: u42 :: u43 :: u44 :: u45 :: u46 :: u47 :: u48 :: u49 :: u50 :: u51 :: u52 :: u53 :: u54 :: u55 :: u56 :: u57 :: u58 :: u59 :: u60 :: u61 :: u62 :: u63 :: u64 :: u65 :: u66 :: u67 :: u68 :: u69 :: u70 :: u71 :: u72 :: u73 :: u74 :: u75 :: u76 :: u77 :: u78 :: u79 :: u80 :: u81 :: u82 :: u83 :: u84 :: u85 :: u86 :: u87 :: u88 :: u89 :: u90 :: u91 :: u92 :: u93 :: u94 :: u95 :: u96 :: u97 :: u98 :: u99 :: u100 :: u101 :: u102 :: u103 :: (.agg (wds .i64 h)) :: (.int .i64 8) :: x106 :: x107 :: x108 :: x109 :: x110 :: x111 :: x112 :: x113 :: u114 :: u115 :: u116 :: u117 :: u118 :: u119 :: u120 :: u121 :: u122 :: u123 :: u124 :: u125 :: u126 :: u127 :: u128 :: u129 :: u130 :: u131 :: u132 :: u133 :: u134 :: u135 :: u136 :: u137 :: u138 :: u139 :: u140 :: u141 :: u142 :: u143 :: u144 :: u145 :: u146 :: u147 :: u148 :: u149 :: u150 :: u151 :: u152 :: u153 :: u154 :: u155 :: u156 :: u157 :: u158 :: u159 :: u160 :: u161 :: u162 :: u163 :: u164 :: u165 :: u166 :: u167 :: u168 :: u169 :: u170 :: u171 :: u172 :: u173 :: u174 :: u175 :: u176 :: u177 :: u178 :: u179 :: u180 :: u181 :: u182 :: u183 :: u184 :: u185 :: u186 :: u187 :: u188 :: u189 :: u190 :: u191 :: u192 :: u193 :: u194 :: u195 :: u196 :: u197 :: u198 :: u199 :: u200 :: u201 :: u202 :: u203 :: u204 :: u205 :: u206 :: u207 :: u208 :: u209 :: u210 :: u211 :: u212 :: u213 :: u214 :: []), []⟩ w') :
    Code.wp Try.prog (loopNo Try.f73 2) Q0 ⟨List.toArray (u0 :: u1 :: u2 :: u3 :: u4 :: u5 :: u6 :: u7 :: u8 :: u9 :: u10 :: (.pointer (some ⟨g, 0, none⟩)) :: u12 :: u13 :: u14 :: u15 :: u16 :: u17 :: u18 :: u19 :: u20 :: u21 :: u22 :: u23 :: u24 :: u25 :: u26 :: u27 :: u28 :: u29 :: u30 :: u31 :: u32 :: u33 :: u34 :: u35 :: u36 :: u37 :: u38 :: u39 :: u40 :: u41 :: u42 :: u43 :: u44 :: u45 :: u46 :: u47 :: u48 :: u49 :: u50 :: u51 :: u52 :: u53 :: u54 :: u55 :: u56 :: u57 :: u58 :: u59 :: u60 :: u61 :: u62 :: u63 :: u64 :: u65 :: u66 :: u67 :: u68 :: u69 :: u70 :: u71 :: u72 :: u73 :: u74 :: u75 :: u76 :: u77 :: u78 :: u79 :: u80 :: u81 :: u82 :: u83 :: u84 :: u85 :: u86 :: u87 :: u88 :: u89 :: u90 :: u91 :: u92 :: u93 :: u94 :: u95 :: u96 :: u97 :: u98 :: u99 :: u100 :: u101 :: u102 :: u103 :: (.agg (wds .i64 h)) :: (.int .i64 0) :: u106 :: u107 :: u108 :: u109 :: u110 :: u111 :: u112 :: u113 :: u114 :: u115 :: u116 :: u117 :: u118 :: u119 :: u120 :: u121 :: u122 :: u123 :: u124 :: u125 :: u126 :: u127 :: u128 :: u129 :: u130 :: u131 :: u132 :: u133 :: u134 :: u135 :: u136 :: u137 :: u138 :: u139 :: u140 :: u141 :: u142 :: u143 :: u144 :: u145 :: u146 :: u147 :: u148 :: u149 :: u150 :: u151 :: u152 :: u153 :: u154 :: u155 :: u156 :: u157 :: u158 :: u159 :: u160 :: u161 :: u162 :: u163 :: u164 :: u165 :: u166 :: u167 :: u168 :: u169 :: u170 :: u171 :: u172 :: u173 :: u174 :: u175 :: u176 :: u177 :: u178 :: u179 :: u180 :: u181 :: u182 :: u183 :: u184 :: u185 :: u186 :: u187 :: u188 :: u189 :: u190 :: u191 :: u192 :: u193 :: u194 :: u195 :: u196 :: u197 :: u198 :: u199 :: u200 :: u201 :: u202 :: u203 :: u204 :: u205 :: u206 :: u207 :: u208 :: u209 :: u210 :: u211 :: u212 :: u213 :: u214 :: []), []⟩ w := by
  conv => arg 2; whnf
  have HX := Lib.hid hexit
  clear hexit
  have HF := Lib.hid (fill8 h v hh.1 hv)
  go_loopg [105] 8 (fun gg s_ wr => ∃ i : Nat, s_ = .int .i64 i ∧ i ≤ 8 ∧ 8 ≤ gg + i ∧ Aside0 (Blk wr g 90 (wds .u32 (fillN (fun i => h.getD i 0) 0 i v))) ∧ Aside0 (Below g w wr))
  case atStart => exact ⟨0, rfl, by omega, by omega, ⟨hB⟩, ⟨Below.refl _ _⟩⟩
  case round =>
    obtain ⟨i, rfl, hi, hg, HB, HL⟩ := hrel
    by_cases hlt : i < 8
    · have c1 : decide ((i : Int) < 8) = true := decide_eq_true (by omega)
      have p0 : (0 ≤ (i : Int)) = True := eq_true (by omega)
      have p1 : ((i : Int) < 8) = True := eq_true (by omega)
      have hx := fun W => index8_int h hh.1 i hlt W
      have la := hh.2 i
      have FX := Lib.hid (show fillN (fun i => h.getD i 0) 0 (i + 1) v = (fillN (fun i => h.getD i 0) 0 i v).set i (h.getD i 0) by simp [fillN])
      obtain ⟨a, ha⟩ : ∃ a, h.getD i 0 = a := ⟨_, rfl⟩
      rw [ha] at la
      simp only [ha] at hx
      replace ha := Lib.hid ha
      obtain ⟨w1, w2, w3, w4⟩ := word32 a la
      obtain ⟨x1, f1⟩ := HB.out.wat i (by rw [fillN_length, hv]; exact hlt)
      have B1 := Aside0.mk (HB.out.wset i a)
      have L1 := Aside0.mk (HL.out.setCell (p := ⟨g, i, none⟩) (Nat.le_refl _) (.int .u32 a))
      rw [← ha.out, ← FX.out, ha.out] at B1
      clear HB HL FX la
      go_wp2
      go_roundg (8 - (i + 1))
      case measure => clear w1 w2 w3 w4; omega
      case rel => clear w1 w2 w3 w4; exact ⟨i + 1, by go_num, by omega, by omega, B1, L1⟩
    · have c1 : decide ((i : Int) < 8) = false := decide_eq_false (by omega)
      obtain rfl : i = 8 := by omega
      go_wp2
      have P1 := HB.out
      have P2 := HL.out
      rw [HF.out] at P1
      refine HX.out _ _ _ _ _ _ _ _ _ _ _ ?_
      exact ⟨P1, P2⟩


set_option maxRecDepth 1000000 in
set_option maxHeartbeats 16000000 in
theorem isha4_wp (gh : Nat) (h v : List Nat) (b : ByteArray) (n : Int) (u1 u2 u3 u4 u5 u6 u7 u8 u9 u10 u11 u12 u13 u14 u15 u16 u17 u18 u19 u20 u21 u22 u23 u24 u25 u26 u27 u28 u29 u30 u31 u32 u33 u34 u35 u36 u37 u38 u39 u40 u41 u42 u43 u44 u45 u46 u47 u48 u49 u50 u51 u52 u53 u54 u55 u56 u57 u58 u59 u60 u61 u62 u63 u64 u65 u66 u67 u68 u69 u70 u71 u72 u73 u74 u75 u76 u77 u78 u79 u80 u81 u82 u83 u84 u85 u86 u87 u88 u89 u90 u91 u92 u93 u94 u95 u96 u97 u98 u99 u100 u101 u102 u103 u104 u105 u106 u107 u108 u109 u110 u111 u112 u113 u114 u115 u116 u117 u118 u119 u120 u121 u122 u123 u124 u125 u126 u127 u128 u129 u130 u131 u132 u133 u134 u135 u136 u137 u138 u139 u140 u141 u142 u143 u144 u145 u146 u147 u148 u149 u150 u151 u152 u153 u154 u155 u156 u157 u158 u159 u160 u161 u162 u163 u164 u165 u166 u167 u168 u169 u170 u171 u172 u173 u174 u175 u176 u177 u178 u179 u180 u181 u182 u183 u184 u185 u186 u187 u188 u189 u190 u191 u192 u193 u196 u197 u198 u199 u200 u201 u202 u203 u204 u205 u206 u207 u208 u209 u210 u211 u212 u213 u214 : Value) (Q0 : Exit → Act → World → Prop) (w : World) (hh : WN 8 h) (hv : WN 8 v) (hB : Blk w gh 26 (hcw h b n))
    (hexit : ∀ (x23 x24 x196 x197 x198 x199 x200 x201 x202 x203 x204 x205 x206 x207 x208 x209 x210 x211 x212 x213 x214 : Value) (w' : World), Blk w' gh 26 (hcw (addN h v 8) b n) ∧ Only gh w w' → Q0 (.exit 8) ⟨List.toArray ((.pointer (some ⟨gh, 0, none⟩)) :: u1 :: u2 :: u3 :: u4 :: u5 :: u6 :: u7 :: u8 :: u9 :: u10 :: u11 :: u12 :: u13 :: u14 :: u15 :: u16 :: u17 :: u18 :: u19 :: u20 :: u21 :: u22 :: x23 :: x24 :: u25 :: u26 :: u27 :: u28 :: u29 :: u30 :: u31 :: u32 :: u33 :: u34 :: u35 :: u36 :: u37 :: u38 :: u39 :: u40 :: u41 :: u42 :: u43 :: u44 :: u45 :: u46 :: u47 :: u48 :: u49 :: u50 :: u51 :: u52 :: u53 :: u54 :: u55 :: u56 :: u57 :: u58 :: u59 :: u60 :: u61 :: u62 :: u63 :: u64 :: u65 :: u66 :: u67 :: u68 :: u69 :: u70 :: u71 :: u72 :: u73 :: u74 :: u75 :: u76 :: u77 :: u78 :: u79 :: u80 :: u81 :: u82 :: u83 :: u84 :: u85 :: u86 :: u87 :: u88 :: u89 :: u90 :: u91 :: u92 :: u93 :: u94 :: u95 :: u96 :: u97 :: u98 :: u99 :: u100 :: u101 :: u102 :: u103 :: u104 :: u105 :: u106 :: u107 :: u108 :: u109 :: u110 :: u111 :: u112 :: u113 :: u114 :: u115 :: u116 :: u117 :: u118 :: u119 :: u120 :: u121 :: u122 :: u123 :: u124 :: u125 :: u126 :: u127 :: u128 :: u129 :: u130 :: u131 :: u132 :: u133 :: u134 :: u135 :: u136 :: u137 :: u138 :: u139 :: u140 :: u141 :: u142 :: u143 :: u144 :: u145 :: u146 :: u147 :: u148 :: u149 :: u150 :: u151 :: u152 :: u153 :: u154 :: u155 :: u156 :: u157 :: u158 :: u159 :: u160 :: u161 :: u162 :: u163 :: u164 :: u165 :: u166 :: u167 :: u168 :: u169 :: u170 :: u171 :: u172 :: u173 :: u174 :: u175 :: u176 :: u177 :: u178 :: u179 :: u180 :: u181 :: u182 :: u183 :: u184 :: u185 :: u186 :: u187 :: u188 :: u189 :: u190 :: u191 :: u192 :: u193 :: (.agg (wds .u32 v)) :: (.int .i64 8) :: x196 :: x197 :: x198 :: x199 :: x200 :: x201 :: x202 :: x203 :: x204 :: x205 :: x206 :: x207 :: x208 :: x209 :: x210 :: x211 :: x212 :: x213 :: x214 :: []), []⟩ w') :
    Code.wp Try.prog (loopNo Try.f73 4) Q0 ⟨List.toArray ((.pointer (some ⟨gh, 0, none⟩)) :: u1 :: u2 :: u3 :: u4 :: u5 :: u6 :: u7 :: u8 :: u9 :: u10 :: u11 :: u12 :: u13 :: u14 :: u15 :: u16 :: u17 :: u18 :: u19 :: u20 :: u21 :: u22 :: u23 :: u24 :: u25 :: u26 :: u27 :: u28 :: u29 :: u30 :: u31 :: u32 :: u33 :: u34 :: u35 :: u36 :: u37 :: u38 :: u39 :: u40 :: u41 :: u42 :: u43 :: u44 :: u45 :: u46 :: u47 :: u48 :: u49 :: u50 :: u51 :: u52 :: u53 :: u54 :: u55 :: u56 :: u57 :: u58 :: u59 :: u60 :: u61 :: u62 :: u63 :: u64 :: u65 :: u66 :: u67 :: u68 :: u69 :: u70 :: u71 :: u72 :: u73 :: u74 :: u75 :: u76 :: u77 :: u78 :: u79 :: u80 :: u81 :: u82 :: u83 :: u84 :: u85 :: u86 :: u87 :: u88 :: u89 :: u90 :: u91 :: u92 :: u93 :: u94 :: u95 :: u96 :: u97 :: u98 :: u99 :: u100 :: u101 :: u102 :: u103 :: u104 :: u105 :: u106 :: u107 :: u108 :: u109 :: u110 :: u111 :: u112 :: u113 :: u114 :: u115 :: u116 :: u117 :: u118 :: u119 :: u120 :: u121 :: u122 :: u123 :: u124 :: u125 :: u126 :: u127 :: u128 :: u129 :: u130 :: u131 :: u132 :: u133 :: u134 :: u135 :: u136 :: u137 :: u138 :: u139 :: u140 :: u141 :: u142 :: u143 :: u144 :: u145 :: u146 :: u147 :: u148 :: u149 :: u150 :: u151 :: u152 :: u153 :: u154 :: u155 :: u156 :: u157 :: u158 :: u159 :: u160 :: u161 :: u162 :: u163 :: u164 :: u165 :: u166 :: u167 :: u168 :: u169 :: u170 :: u171 :: u172 :: u173 :: u174 :: u175 :: u176 :: u177 :: u178 :: u179 :: u180 :: u181 :: u182 :: u183 :: u184 :: u185 :: u186 :: u187 :: u188 :: u189 :: u190 :: u191 :: u192 :: u193 :: (.agg (wds .u32 v)) :: (.int .i64 0) :: u196 :: u197 :: u198 :: u199 :: u200 :: u201 :: u202 :: u203 :: u204 :: u205 :: u206 :: u207 :: u208 :: u209 :: u210 :: u211 :: u212 :: u213 :: u214 :: []), []⟩ w := by
  conv => arg 2; whnf
  have HX := Lib.hid hexit
  clear hexit
  go_loopg [195] 8 (fun gg s_ wr => ∃ i : Nat, s_ = .int .i64 i ∧ i ≤ 8 ∧ 8 ≤ gg + i ∧ Aside0 (Blk wr gh 26 (hcw (addN h v i) b n)) ∧ Aside0 (Only gh w wr))
  case atStart => exact ⟨0, rfl, by omega, by omega, ⟨hB⟩, ⟨Only.refl _ _⟩⟩
  case round =>
    obtain ⟨i, rfl, hi, hg, HB, HO⟩ := hrel
    by_cases hlt : i < 8
    · have c1 : decide ((i : Int) < 8) = true := decide_eq_true (by omega)
      have p0 : (0 ≤ (i : Int)) = True := eq_true (by omega)
      have p1 : ((i : Int) < 8) = True := eq_true (by omega)
      have hx := fun W => index8_u32 v hv.1 i hlt W
      have hl8 := Lib.hid (show (addN h v i).length = 8 by rw [addN_length, hh.1])
      obtain ⟨x1, f1⟩ := HB.out.hat hl8.out i hlt
      rw [addN_at h v i i (Nat.le_refl _)] at x1
      have HU : Hid (addN h v (i + 1) = (addN h v i).set i ((h.getD i 0 + v.getD i 0) % 2 ^ 32)) := Lib.hid rfl
      have h1 := hh.2 i; have h2 := hv.2 i
      obtain ⟨c, hc⟩ : ∃ c, v.getD i 0 = c := ⟨_, rfl⟩
      obtain ⟨a, ha⟩ : ∃ c, h.getD i 0 = c := ⟨_, rfl⟩
      simp only [hc] at hx h2
      rw [ha] at x1 h1
      rw [hc, ha] at HU
      obtain ⟨m, lm, Hm, tm1, tm2⟩ := add32_st a c
      rw [Hm.out] at HU
      obtain ⟨v1, v2, _, _⟩ := word32 a h1
      obtain ⟨_, _, v3, v4⟩ := word32 m lm
      clear hc ha h1 h2 lm Hm
      have HB1 := Aside0.mk HB.out.drew; have HO1 := Aside0.mk HO.out.drew
      go_wp2
      go_still_tail 15, (by kernel_rfl)
      change wpList _ _ _ _ _ wr.drew
      clear HB HO x1 f1
      generalize wr.drew = wd at HB1 HO1 ⊢
      obtain ⟨x1, f1⟩ := HB1.out.hat hl8.out i hlt
      have B1 := Aside0.mk (HB1.out.hset hl8.out i hlt m)
      have O1 := Aside0.mk (HO1.out.set i (.int .i64 m))
      rw [← HU.out] at B1
      clear HB1 HO1 HU
      go_wp2
      go_roundg (8 - (i + 1))
      case measure => clear v1 v2 v3 v4 tm1 tm2; omega
      case rel => clear v1 v2 v3 v4 tm1 tm2; exact ⟨i + 1, by go_num, by omega, by omega, B1, O1⟩
    · have c1 : decide ((i : Int) < 8) = false := decide_eq_false (by omega)
      obtain rfl : i = 8 := by omega
      go_wp2
      have P1 := HB.out
      have P2 := HO.out
      refine HX.out _ _ _ _ _ _ _ _ _ _ _ _ _ _ _ _ _ _ _ _ _ _ ?_
      exact ⟨P1, P2⟩
end

/-! The program's sixty-four rounds of the digest. Conditions: words of 32 bits. -/
section
open Go.RowKit Go.Shelf Go.Proofs.YtajbljegeiebjaaW.PrintWords Go.Proofs.YtajbljegeiebjaaW.PrintLast Go.Proofs.YtajbljegeiebjaaW.PrintMore Go.Proofs.Ytajbljegeiebjaa.PSha

set_option maxRecDepth 1000000 in
set_option maxHeartbeats 16000000 in
theorem isha3_wp (gw gk gv : Nat) (ks ws v : List Nat) (u0 u1 u3 u4 u5 u7 u8 u9 u10 u12 u13 u14 u15 u16 u17 u18 u19 u20 u21 u22 u23 u24 u25 u26 u27 u28 u29 u30 u31 u32 u33 u34 u35 u36 u37 u38 u39 u40 u41 u42 u43 u44 u45 u46 u47 u48 u49 u50 u51 u52 u53 u54 u55 u56 u57 u58 u59 u60 u61 u62 u63 u64 u65 u66 u67 u68 u69 u70 u71 u72 u73 u74 u75 u76 u77 u78 u79 u80 u81 u82 u83 u84 u85 u86 u87 u88 u89 u90 u91 u92 u93 u94 u95 u96 u97 u98 u99 u100 u101 u102 u103 u104 u105 u106 u107 u108 u109 u110 u111 u112 u113 u115 u116 u117 u118 u119 u120 u121 u122 u123 u124 u125 u126 u127 u128 u129 u130 u131 u132 u133 u134 u135 u136 u137 u138 u139 u140 u141 u142 u143 u144 u145 u146 u147 u148 u149 u150 u151 u152 u153 u154 u155 u156 u157 u158 u159 u160 u161 u162 u163 u164 u165 u166 u167 u168 u169 u170 u171 u172 u173 u174 u175 u176 u177 u178 u179 u180 u181 u182 u183 u184 u185 u186 u187 u188 u189 u190 u191 u192 u193 u194 u195 u196 u197 u198 u199 u200 u201 u202 u203 u204 u205 u206 u207 u208 u209 u210 u211 u212 u213 u214 : Value) (Q0 : Exit → Act → World → Prop) (w : World) (hv : WN 8 v) (hks : WN 64 ks) (hws : WN 64 ws) (hB : Blk w gv 90 (wds .u32 v)) (hK : Blk w gk 76 (wds .u32 ks)) (hW : Blk w gw 76 (wds .u32 ws)) (hgk : gk ≠ gv) (hgw : gw ≠ gv)
    (hexit : ∀ (x14 x15 x16 x17 x18 x19 x20 x21 x22 x115 x116 x117 x118 x119 x120 x121 x122 x123 x124 x125 x126 x127 x128 x129 x130 x131 x132 x133 x134 x135 x136 x137 x138 x139 x140 x141 x142 x143 x144 x145 x146 x147 x148 x149 x150 x151 x152 x153 x154 x155 x156 x157 x158 x159 x160 x161 x162 x163 x164 x165 x166 x167 x168 x169 x170 x171 x172 x173 x174 x175 x176 x177 x178 x179 x180 x181 x182 x183 x184 x185 x186 x187 x188 x189 x190 x191 x192 x193 : Value) (w' : World), Blk w' gv 90 (wds .u32 (roundsN ks ws v 64)) ∧ Only gv w w' → Q0 (.exit 6) ⟨List.toArray (u0 :: u1 :: (.pointer (some ⟨gk, 0, none⟩)) :: u3 :: u4 :: u5 :: (.pointer (some ⟨gw, 0, none⟩)) :: u7 :: u8 :: u9 :: u10 :: (.pointer (some ⟨gv, 0, none⟩)) :: u12 :: u13 :: x14 :: x15 :: x16 :: x17 :: x18 :: x19 :: x20 :: x21 :: x22 :: u23 :: u24 :: u25 :: u26 :: u27 :: u28 :: u29 :: u30 :: u31 :: u32 :: u33 :: u34 :: u35 :: u36 :: u37 :: u38 :: u39 :: u40 :: u41 :: u42 :: u43 :: u44 :: u45 :: u46 :: u47 :: u48 :: u49 :: u50 :: u51 :: u52 :: u53 :: u54 :: u55 :: u56 :: u57 :: u58 :: u59 :: u60 :: u61 :: u62 :: u63 :: u64 :: u65 :: u66 :: u67 :: u68 :: u69 :: u70 :: u71 :: u72 :: u73 :: u74 :: u75 :: u76 :: u77 :: u78 :: u79 :: u80 :: u81 :: u82 :: u83 :: u84 :: u85 :: u86 :: u87 :: u88 :: u89 :: u90 :: u91 :: u92 :: u93 :: u94 :: u95 :: u96 :: u97 :: u98 :: u99 :: u100 :: u101 :: u102 :: u103 :: u104 :: u105 :: u106 :: u107 :: u108 :: u109 :: u110 :: u111 :: u112 :: u113 :: (.int .i64 64) :: x115 :: x116 :: x117 :: x118 :: x119 :: x120 :: x121 :: x122 :: x123 :: x124 :: x125 :: x126 :: x127 :: x128 :: x129 :: x130 :: x131 :: x132 :: x133 :: x134 :: x135 :: x136 :: x137 :: x138 :: x139 :: x140 :: x141 :: x142 :: x143 :: x144 :: x145 :: x146 :: x147 :: x148 :: x149 :: x150 :: x151 :: x152 :: x153 :: x154 :: x155 :: x156 :: x157 :: x158 :: x159 :: x160 :: x161 :: x162 :: x163 :: x164 :: x165 :: x166 :: x167 :: x168 :: x169 :: x170 :: x171 :: x172 :: x173 :: x174 :: x175 :: x176 :: x177 :: x178 :: x179 :: x180 :: x181 :: x182 :: x183 :: x184 :: x185 :: x186 :: x187 :: x188 :: x189 :: x190 :: x191 :: x192 :: x193 :: u194 :: u195 :: u196 :: u197 :: u198 :: u199 :: u200 :: u201 :: u202 :: u203 :: u204 :: u205 :: u206 :: u207 :: u208 :: u209 :: u210 :: u211 :: u212 :: u213 :: u214 :: []), []⟩ w') :
    Code.wp Try.prog (loopNo Try.f73 3) Q0 ⟨List.toArray (u0 :: u1 :: (.pointer (some ⟨gk, 0, none⟩)) :: u3 :: u4 :: u5 :: (.pointer (some ⟨gw, 0, none⟩)) :: u7 :: u8 :: u9 :: u10 :: (.pointer (some ⟨gv, 0, none⟩)) :: u12 :: u13 :: u14 :: u15 :: u16 :: u17 :: u18 :: u19 :: u20 :: u21 :: u22 :: u23 :: u24 :: u25 :: u26 :: u27 :: u28 :: u29 :: u30 :: u31 :: u32 :: u33 :: u34 :: u35 :: u36 :: u37 :: u38 :: u39 :: u40 :: u41 :: u42 :: u43 :: u44 :: u45 :: u46 :: u47 :: u48 :: u49 :: u50 :: u51 :: u52 :: u53 :: u54 :: u55 :: u56 :: u57 :: u58 :: u59 :: u60 :: u61 :: u62 :: u63 :: u64 :: u65 :: u66 :: u67 :: u68 :: u69 :: u70 :: u71 :: u72 :: u73 :: u74 :: u75 :: u76 :: u77 :: u78 :: u79 :: u80 :: u81 :: u82 :: u83 :: u84 :: u85 :: u86 :: u87 :: u88 :: u89 :: u90 :: u91 :: u92 :: u93 :: u94 :: u95 :: u96 :: u97 :: u98 :: u99 :: u100 :: u101 :: u102 :: u103 :: u104 :: u105 :: u106 :: u107 :: u108 :: u109 :: u110 :: u111 :: u112 :: u113 :: (.int .i64 0) :: u115 :: u116 :: u117 :: u118 :: u119 :: u120 :: u121 :: u122 :: u123 :: u124 :: u125 :: u126 :: u127 :: u128 :: u129 :: u130 :: u131 :: u132 :: u133 :: u134 :: u135 :: u136 :: u137 :: u138 :: u139 :: u140 :: u141 :: u142 :: u143 :: u144 :: u145 :: u146 :: u147 :: u148 :: u149 :: u150 :: u151 :: u152 :: u153 :: u154 :: u155 :: u156 :: u157 :: u158 :: u159 :: u160 :: u161 :: u162 :: u163 :: u164 :: u165 :: u166 :: u167 :: u168 :: u169 :: u170 :: u171 :: u172 :: u173 :: u174 :: u175 :: u176 :: u177 :: u178 :: u179 :: u180 :: u181 :: u182 :: u183 :: u184 :: u185 :: u186 :: u187 :: u188 :: u189 :: u190 :: u191 :: u192 :: u193 :: u194 :: u195 :: u196 :: u197 :: u198 :: u199 :: u200 :: u201 :: u202 :: u203 :: u204 :: u205 :: u206 :: u207 :: u208 :: u209 :: u210 :: u211 :: u212 :: u213 :: u214 :: []), []⟩ w := by
  conv => arg 2; whnf
  have HX := Lib.hid hexit
  clear hexit
  have TR : Hid (∀ W, Only gv w W → ∀ i, i < 64 → W.cell? ⟨gk, i, none⟩ = some (.int .u32 ((ks.getD i 0 : Nat) : Int)) ∧ W.cell? ⟨gw, i, none⟩ = some (.int .u32 ((ws.getD i 0 : Nat) : Int))) := Lib.hid (fun W hb i hi =>
    ⟨((hb.blk hK hgk).wat i (by rw [hks.1]; exact hi)).1, ((hb.blk hW hgw).wat i (by rw [hws.1]; exact hi)).1⟩)
  go_loopg [114] 64 (fun gg s_ wr => ∃ i : Nat, s_ = .int .i64 i ∧ i ≤ 64 ∧ 64 ≤ gg + i ∧ Aside0 (Blk wr gv 90 (wds .u32 (roundsN ks ws v i))) ∧ Aside0 (Only gv w wr))
  case atStart => exact ⟨0, rfl, by omega, by omega, ⟨hB⟩, ⟨Only.refl _ _⟩⟩
  case round =>
    obtain ⟨i, rfl, hi, hg, HB, HL⟩ := hrel
    by_cases hlt : i < 64
    · have c1 : decide ((i : Int) < 64) = true := decide_eq_true (by omega)
      have p0 : (0 ≤ (i : Int)) = True := eq_true (by omega)
      have p1 : ((i : Int) < 64) = True := eq_true (by omega)
      have hu := hv.roundsN ks ws i
      have HU : Hid (roundsN ks ws v (i + 1) = round8 (ks.getD i 0) (ws.getD i 0) (roundsN ks ws v i)) := Lib.hid rfl
      generalize roundsN ks ws v i = u at hu HU HB
      have hT := fun W hb => TR.out W hb i hlt
      generalize ks.getD i 0 = k at hT HU
      generalize ws.getD i 0 = wd at hT HU
      obtain ⟨a0, a1, a2, a3, a4, a5, a6, a7, rfl, ⟨h0, h1, h2, h3⟩, h4, h5, h6, h7⟩ := hu.four
      obtain ⟨r6, r11, r25, x1, s, d1, ne, d2, c, y1, y2, y3, x, r2, r13, r22, x2, r, m1, m2, m3, m4, m, z, n0, n4, Hn, ⟨tr6, tr11, tr25⟩, ⟨tx1, ts⟩, ⟨td1, tne, td2, tc⟩, ⟨ty1, ty2, ty3, tx⟩, ⟨ey1, ey2, ey3, ex⟩, ⟨tr2, tr13, tr22⟩, ⟨tx2, tr⟩, ⟨tm1, tm2, tm3, tm4, tm⟩, tz, tn0, tn4⟩ := iround_step a0 a1 a2 a3 a4 a5 a6 a7 k wd h0 h1 h2 h4 h5 h6
      have tnf : Go.bits .xor .u32 (if IntKind.u32.signed = true then -1 else IntKind.u32.max) (a4 : Int) = (ne : Int) := tne
      rw [Hn.out] at HU
      have C6 := fun W => turned_calls tr6 W
      have C11 := fun W => turned_calls tr11 W
      have C25 := fun W => turned_calls tr25 W
      have C2 := fun W => turned_calls tr2 W
      have C13 := fun W => turned_calls tr13 W
      have C22 := fun W => turned_calls tr22 W
      clear Hn h0 h1 h2 h3 h4 h5 h6 h7 hu tr6 tr11 tr25 tr2 tr13 tr22
      replace HB : Aside0 (Blk wr gv 90 #[.int .u32 a0, .int .u32 a1, .int .u32 a2, .int .u32 a3, .int .u32 a4, .int .u32 a5, .int .u32 a6, .int .u32 a7]) := HB
      obtain ⟨⟨b0, b1, b2, b3, b4, b5, b6, b7⟩, _⟩ := HB.out.at8
      replace hT := Lib.hid hT
      go_wp2
      go_quiet (fail)
      have HB2 := Aside0.mk (HB.out.drewN nq); have HL2 := Aside0.mk (HL.out.drewN nq)
      clear HB HL b0 b1 b2 b3 b4 b5 b6 b7
      generalize wr.drewN nq = wa at HB2 HL2 ⊢
      obtain ⟨⟨b0, b1, b2, b3, b4, b5, b6, b7⟩, _⟩ := HB2.out.at8
      obtain ⟨tk, tw⟩ := hT.out wa HL2.out
      go_wp2
      go_quiet (first | (go_at_call 85; with_reducible exact Calls.quiet_of (C6 _)) | (go_at_call 85; with_reducible exact Calls.quiet_of (C11 _)) | (go_at_call 85; with_reducible exact Calls.quiet_of (C25 _)))
      have HB3 := Aside0.mk (HB2.out.drewN nq); have HL3 := Aside0.mk (HL2.out.drewN nq)
      clear HB2 HL2 b0 b1 b2 b3 b4 b5 b6 b7 tk tw hT C6 C11 C25
      generalize wa.drewN nq = wb at HB3 HL3 ⊢
      have HB4 := fun m => Aside0.mk (HB3.out.drewN m); have HL4 := fun m => Aside0.mk (HL3.out.drewN m)
      obtain ⟨⟨b0, b1, b2, b3, b4, b5, b6, b7⟩, f0, f1, f2, f3, f4, f5, f6, f7⟩ := HB3.out.at8
      clear HB3 HL3
      go_wp2_with (first | (go_at_call 85; with_reducible refine (C2 _).mono ?_; rintro e w' ⟨rfl, mm, rfl⟩) | (go_at_call 85; with_reducible refine (C13 _).mono ?_; rintro e w' ⟨rfl, mm, rfl⟩) | (go_at_call 85; with_reducible refine (C22 _).mono ?_; rintro e w' ⟨rfl, mm, rfl⟩))
      clear tx1 ts td1 tne tnf td2 tc ty1 ty2 ty3 tx ey1 ey2 ey3 ex tx2 tr tm1 tm2 tm3 tm4 tm tz tn0 tn4 p0 p1 c1 b0 b1 b2 b3 b4 b5 b6 b7 f0 f1 f2 f3 f4 f5 f6 f7 C2 C13 C22
      have B5 : ∀ m, Aside0 (Blk ((((((((( wb.drewN m).setCell ⟨gv, 0, none⟩ (.int .u32 n0)).setCell ⟨gv, 1, none⟩ (.int .u32 a0)).setCell ⟨gv, 2, none⟩ (.int .u32 a1)).setCell ⟨gv, 3, none⟩ (.int .u32 a2)).setCell ⟨gv, 4, none⟩ (.int .u32 n4)).setCell ⟨gv, 5, none⟩ (.int .u32 a4)).setCell ⟨gv, 6, none⟩ (.int .u32 a5)).setCell ⟨gv, 7, none⟩ (.int .u32 a6)) gv 90 (wds .u32 [n0, a0, a1, a2, n4, a4, a5, a6])) := fun m => ⟨(HB4 m).out.set8 (.int .u32 n0) (.int .u32 a0) (.int .u32 a1) (.int .u32 a2) (.int .u32 n4) (.int .u32 a4) (.int .u32 a5) (.int .u32 a6)⟩
      have L5 := fun m => Aside0.mk ((HL4 m).out.set8 (.int .u32 n0) (.int .u32 a0) (.int .u32 a1) (.int .u32 a2) (.int .u32 n4) (.int .u32 a4) (.int .u32 a5) (.int .u32 a6))
      rw [← HU.out] at B5
      clear HB4 HL4 HU
      go_roundg (64 - (i + 1))
      case measure => omega
      case rel => exact ⟨i + 1, by go_num, by omega, by omega, B5 _, L5 _⟩
    · have c1 : decide ((i : Int) < 64) = false := decide_eq_false (by omega)
      obtain rfl : i = 64 := by omega
      go_wp2
      have P1 := HB.out
      have P2 := HL.out
      refine HX.out _ _ _ _ _ _ _ _ _ _ _ _ _ _ _ _ _ _ _ _ _ _ _ _ _ _ _ _ _ _ _ _ _ _ _ _ _ _ _ _ _ _ _ _ _ _ _ _ _ _ _ _ _ _ _ _ _ _ _ _ _ _ _ _ _ _ _ _ _ _ _ _ _ _ _ _ _ _ _ _ _ _ _ _ _ _ _ _ _ ?_
      exact ⟨P1, P2⟩
end

/-! The program's table. Conditions: none. -/
section
open Go.RowKit Go.Shelf Go.Proofs.YtajbljegeiebjaaW.PrintWords Go.Proofs.YtajbljegeiebjaaW.PrintLast Go.Proofs.YtajbljegeiebjaaW.PrintMore Go.Proofs.Ytajbljegeiebjaa.PSha

set_option maxRecDepth 100000 in
set_option maxHeartbeats 8000000 in
theorem constants_calls (w : World) : Calls Try.prog 72 #[] w fun e w' => e = .returned (.agg (wds .u32 ktab)) ∧ Below w.heap.size w w' := by
  go_enter Try.func72, Try.ntmps72
  go_wp2_with (first
    | (refine Great.wpList_buildTo rfl 76 _ rfl (some 1) rfl (wds .u32 ktab) (by kernel_rfl) ?_)
    | (refine wpList_store_row rfl 76 _ _ rfl w.heap.size (wds .u32 ktab) rfl rfl 76 _ (Blk.new _ _ _) (by kernel_rfl) (by kernel_rfl) (wds_one _ _) ?_))
  refine ret_row (p := 0) (ty := 76) rfl w.heap.size 76 (wds .u32 ktab) _ rfl ?_ Try.underlying76 rfl (by kernel_rfl) rfl ⟨rfl, ?_⟩
  · exact (Blk.new _ _ _).row _
  · exact below_setRow (below_alloc (Below.refl _ _) _) (Nat.le_refl _) _
end

/-! The program's block of the digest: its contract. Conditions: eight words of 32 bits, sixty-four bytes at least. -/
section
open Go.RowKit Go.Shelf Go.Proofs.YtajbljegeiebjaaW.PrintWords Go.Proofs.YtajbljegeiebjaaW.PrintLast Go.Proofs.YtajbljegeiebjaaW.PrintMore Go.Proofs.Ytajbljegeiebjaa.PSha


set_option maxRecDepth 1000000 in
set_option maxHeartbeats 16000000 in
theorem block_calls (gh gk : Nat) (h : List Nat) (b : ByteArray) (n : Int) (hh : WN 8 h) (t : ByteArray) (ht : 64 ≤ t.size) (w : World) (hH : Blk w gh 26 (hcw h b n)) (hK : Blk w gk 76 (wds .u32 ktab)) (_hne : gk ≠ gh) :
    Calls Try.prog 73 #[.pointer (some ⟨gh, 0, none⟩), .string t, .pointer (some ⟨gk, 0, none⟩)] w fun e w' => e = .returned (.tuple #[]) ∧ Blk w' gh 26 (hcw (shaBlk h t) b n) ∧ Only gh w w' := by
  have HH := Lib.hid hh; have HT := Lib.hid ht; have H0 := Aside0.mk hH; have K0 := Aside0.mk hK
  have lh := hH.lt; have lk := hK.lt
  clear hh ht hH hK
  go_enter Try.func73, Try.ntmps73
  go_wp2
  refine wp_world (fun W => Blk W w.heap.size 76 (wds .u32 zeros64) ∧ Below w.heap.size w W ∧ w.heap.size < W.heap.size) ⟨Blk.new _ _ _, below_alloc (Below.refl _ _) _, by simp⟩ ?_
  rintro W0 ⟨P1, P2, P3⟩
  have G0 := Aside0.mk P1; have L0 := Aside0.mk P2; have S0 := Aside0.mk P3
  clear P1 P2 P3
  refine isha0_wp t w.heap.size zeros64 _ _ _ _ _ _ _ _ _ _ _ _ _ _ _ _ _ _ _ _ _ _ _ _ _ _ _ _ _ _ _ _ _ _ _ _ _ _ _ _ _ _ _ _ _ _ _ _ _ _ _ _ _ _ _ _ _ _ _ _ _ _ _ _ _ _ _ _ _ _ _ _ _ _ _ _ _ _ _ _ _ _ _ _ _ _ _ _ _ _ _ _ _ _ _ _ _ _ _ _ _ _ _ _ _ _ _ _ _ _ _ _ _ _ _ _ _ _ _ _ _ _ _ _ _ _ _ _ _ _ _ _ _ _ _ _ _ _ _ _ _ _ _ _ _ _ _ _ _ _ _ _ _ _ _ _ _ _ _ _ _ _ _ _ _ _ _ _ _ _ _ _ _ _ _ _ _ _ _ _ _ _ _ _ _ _ _ _ _ _ _ _ _ _ _ _ _ _ _ _ _ _ _ _ _ _ _ _ _ _ _ _ _ _ zeros64_ok.1 HT.out G0.out ?_
  intro _ _ _ _ _ _ _ _ _ _ _ _ _ _ _ _ _ _ _ _ _ _ _ _ _ _ _ _ _ _ _ _ _ _ _ w1
  rintro ⟨P1, P2⟩
  have G1 := Aside0.mk P1; have L1 := Aside0.mk (L0.out.trans P2); have S1 := Aside0.mk (Nat.lt_of_lt_of_le S0.out P2.size)
  clear P1 P2 G0 L0 S0
  go_wp2
  refine isha1_wp w.heap.size _ _ _ _ _ _ _ _ _ _ _ _ _ _ _ _ _ _ _ _ _ _ _ _ _ _ _ _ _ _ _ _ _ _ _ _ _ _ _ _ _ _ _ _ _ _ _ _ _ _ _ _ _ _ _ _ _ _ _ _ _ _ _ _ _ _ _ _ _ _ _ _ _ _ _ _ _ _ _ _ _ _ _ _ _ _ _ _ _ _ _ _ _ _ _ _ _ _ _ _ _ _ _ _ _ _ _ _ _ _ _ _ _ _ _ _ _ _ _ _ _ _ _ _ _ _ _ _ _ _ _ _ _ _ _ _ _ _ _ _ _ _ _ _ _ _ _ _ _ _ _ _ _ _ _ _ _ _ _ _ _ _ _ _ _ _ _ _ _ _ _ _ _ _ _ _ _ _ _ _ _ _ _ _ _ _ _ _ _ _ _ _ _ _ _ _ _ _ _ _ _ _ _ _ _ _ _ _ _ _ _ _ _ _ _ _ (sched16_ok t) G1.out ?_
  intro _ _ _ _ _ _ _ _ _ _ _ _ _ _ _ _ _ _ _ _ _ _ _ _ _ _ _ _ _ _ _ _ _ _ _ _ _ _ _ _ _ _ _ w2
  rintro ⟨P1, P2⟩
  have G2 : Aside0 (Blk w2 w.heap.size 76 (wds .u32 (schedOf t))) := ⟨P1⟩
  have L2 := Aside0.mk (L1.out.trans P2); have S2 := Aside0.mk (Nat.lt_of_lt_of_le S1.out P2.size)
  have H2 := Aside0.mk (H0.out.below L2.out)
  clear P1 P2 G1 L1 S1
  go_wp2_with (refine wpList_load_h rfl _ rfl gh rfl (H2.out.alloc _) HH.out.1 ?_)
  refine wp_world (fun W => Blk W w2.heap.size 90 (wds .u32 zeros8) ∧ Below w2.heap.size w2 W) ⟨Blk.new _ _ _, below_alloc (Below.refl _ _) _⟩ ?_
  rintro W3 ⟨P1, P2⟩
  have V3 := Aside0.mk P1; have G3 := Aside0.mk (G2.out.below P2); have L3 := Aside0.mk (L2.out.trans (P2.mono L2.out.size)); have H3 := Aside0.mk (H2.out.below P2)
  clear P1 P2 H2 L2 G2
  refine isha2_wp w2.heap.size h zeros8 _ _ _ _ _ _ _ _ _ _ _ _ _ _ _ _ _ _ _ _ _ _ _ _ _ _ _ _ _ _ _ _ _ _ _ _ _ _ _ _ _ _ _ _ _ _ _ _ _ _ _ _ _ _ _ _ _ _ _ _ _ _ _ _ _ _ _ _ _ _ _ _ _ _ _ _ _ _ _ _ _ _ _ _ _ _ _ _ _ _ _ _ _ _ _ _ _ _ _ _ _ _ _ _ _ _ _ _ _ _ _ _ _ _ _ _ _ _ _ _ _ _ _ _ _ _ _ _ _ _ _ _ _ _ _ _ _ _ _ _ _ _ _ _ _ _ _ _ _ _ _ _ _ _ _ _ _ _ _ _ _ _ _ _ _ _ _ _ _ _ _ _ _ _ _ _ _ _ _ _ _ _ _ _ _ _ _ _ _ _ _ _ _ _ _ _ _ _ _ _ _ _ _ _ _ _ _ _ _ _ _ _ _ _ HH.out rfl V3.out ?_
  intro _ _ _ _ _ _ _ _ _ _ w4
  rintro ⟨P1, P2⟩
  have V4 := Aside0.mk P1
  have G4 : Aside0 (Blk w4 w.heap.size 76 (wds .u32 (schedOf t))) := ⟨G3.out.move (P2.block _ S2.out)⟩
  have L4 := Aside0.mk (L3.out.trans (P2.mono (Nat.le_of_lt S2.out)))
  have K4 := Aside0.mk (K0.out.below L4.out)
  have H4 := Aside0.mk (H0.out.below L4.out)
  clear P1 P2 V3 G3 L3 H3
  go_wp2
  refine isha3_wp w.heap.size gk w2.heap.size ktab (schedOf t) h _ _ _ _ _ _ _ _ _ _ _ _ _ _ _ _ _ _ _ _ _ _ _ _ _ _ _ _ _ _ _ _ _ _ _ _ _ _ _ _ _ _ _ _ _ _ _ _ _ _ _ _ _ _ _ _ _ _ _ _ _ _ _ _ _ _ _ _ _ _ _ _ _ _ _ _ _ _ _ _ _ _ _ _ _ _ _ _ _ _ _ _ _ _ _ _ _ _ _ _ _ _ _ _ _ _ _ _ _ _ _ _ _ _ _ _ _ _ _ _ _ _ _ _ _ _ _ _ _ _ _ _ _ _ _ _ _ _ _ _ _ _ _ _ _ _ _ _ _ _ _ _ _ _ _ _ _ _ _ _ _ _ _ _ _ _ _ _ _ _ _ _ _ _ _ _ _ _ _ _ _ _ _ _ _ _ _ _ _ _ _ _ _ _ _ _ _ _ _ _ _ _ _ _ _ _ _ _ _ _ _ _ _ HH.out ktab_ok (schedOf_ok t) V4.out K4.out G4.out (Nat.ne_of_lt (Nat.lt_trans lk S2.out)) (Nat.ne_of_lt S2.out) ?_
  intro _ _ _ _ _ _ _ _ _ _ _ _ _ _ _ _ _ _ _ _ _ _ _ _ _ _ _ _ _ _ _ _ _ _ _ _ _ _ _ _ _ _ _ _ _ _ _ _ _ _ _ _ _ _ _ _ _ _ _ _ _ _ _ _ _ _ _ _ _ _ _ _ _ _ _ _ _ _ _ _ _ _ _ _ _ _ _ _ w5
  rintro ⟨P1, P2⟩
  have VO := HH.out.roundsN ktab (schedOf t) 64
  obtain ⟨vv, hvv⟩ : ∃ vv, roundsN ktab (schedOf t) h 64 = vv := ⟨_, rfl⟩
  have HV := Lib.hid (show shaBlk h t = addN h vv 8 by unfold shaBlk; rw [hvv])
  rw [hvv] at VO P1
  have VL := Lib.hid VO.1
  replace VO := Lib.hid VO
  have V5 := Aside0.mk P1
  have L5 := Aside0.mk (P2.below L4.out L4.out.size (Nat.le_of_lt S2.out))
  clear P1 P2 V4 G4 K4 H4 L4 hvv
  have H5 := Aside0.mk (H0.out.below L5.out)
  go_wp2_with (refine wpList_load_row rfl 90 _ rfl w2.heap.size rfl 90 (wds .u32 vv) (0, 0) _ V5.out Try.underlying90 rfl (by rw [wds_size, VL.out]; kernel_rfl) ?_)
  refine isha4_wp gh h vv b n _ _ _ _ _ _ _ _ _ _ _ _ _ _ _ _ _ _ _ _ _ _ _ _ _ _ _ _ _ _ _ _ _ _ _ _ _ _ _ _ _ _ _ _ _ _ _ _ _ _ _ _ _ _ _ _ _ _ _ _ _ _ _ _ _ _ _ _ _ _ _ _ _ _ _ _ _ _ _ _ _ _ _ _ _ _ _ _ _ _ _ _ _ _ _ _ _ _ _ _ _ _ _ _ _ _ _ _ _ _ _ _ _ _ _ _ _ _ _ _ _ _ _ _ _ _ _ _ _ _ _ _ _ _ _ _ _ _ _ _ _ _ _ _ _ _ _ _ _ _ _ _ _ _ _ _ _ _ _ _ _ _ _ _ _ _ _ _ _ _ _ _ _ _ _ _ _ _ _ _ _ _ _ _ _ _ _ _ _ _ _ _ _ _ _ _ _ _ _ _ _ _ _ _ _ _ _ _ _ _ _ _ _ _ HH.out VO.out H5.out ?_
  intro _ _ _ _ _ _ _ _ _ _ _ _ _ _ _ _ _ _ _ _ _ w6
  rintro ⟨P1, P2⟩
  rw [← HV.out] at P1
  have H6 := Aside0.mk P1
  have O6 := Aside0.mk (Only.of_below L5.out P2)
  clear P1 P2 H5 V5 L5
  go_wp2
  refine bodyPost_end (results_none rfl _ _ _) rfl ?_
  exact ⟨rfl, H6.out, O6.out⟩
end

end Go.Proofs.Ytajbljegeiebjaa.Leaf
