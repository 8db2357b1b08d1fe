/-
  The inner loops of the reference's tag: the padding, the sum, the bytes. Conditions: limbs below 2 to the 26, a key of 32 bytes.
-/
import Derived.Test.YtihpnededldedaaPolH
import Derived.Test.YtihpnededldedaaPolQ
import Derived.Test.YtihpnededldedaaPolS
import Derived.Test.YtihpnededldedaaPolU
import Derived.Test.YtihpnededldedaaLeafL
import Derived.Test.YtihpnededldedaaLoop
namespace Go.Proofs.Ytihpnededldedaa.Leaf
open Go.RowKit Go.Shelf Go.Proofs.YtihpnededldedaaW.PrintWords Go.Proofs.YtihpnededldedaaW.PrintLast Go.Proofs.YtihpnededldedaaW.PrintMore Go.Proofs.Ytihpnededldedaa.Pol

/-- A text with n zeros behind. -/
def padB (s : ByteArray) : Nat → ByteArray
  | 0 => s
  | n + 1 => padB s n ++ ⟨#[0]⟩
theorem padB_size (s : ByteArray) : ∀ n, (padB s n).size = s.size + n
  | 0 => rfl
  | n + 1 => by rw [padB, ByteArray.size_append, padB_size s n]; rfl
theorem bts_zero (a : ByteArray) (j : Nat) : bts (a ++ ⟨#[0]⟩) j = bts a j := by
  by_cases h : j < a.size
  · unfold bts; rw [bt_left a _ j h]
  · rw [bts_out a j (by omega)]
    by_cases h1 : j = a.size
    · have := bt_right a ⟨#[0]⟩ 0 (by decide)
      unfold bts
      rw [show (j : Int) = ((a.size + 0 : Nat) : Int) by omega, this]; decide
    · exact bts_out _ j (by rw [ByteArray.size_append, show (⟨#[0]⟩ : ByteArray).size = 1 from rfl]; omega)
theorem bts_pad (s : ByteArray) (j : Nat) : ∀ n, bts (padB s n) j = bts s j
  | 0 => rfl
  | n + 1 => by rw [padB, bts_zero, bts_pad s j n]
theorem add_i (a b : Nat) (ha : a < 67108864) (hb : b < 67108864) : ∃ n : Nat, Hid (a + b = n) ∧ IntKind.i64.wrap ((a : Int) + (b : Int)) = (n : Int) :=
  ⟨a + b, Lib.hid rfl, add_i64 _ _ _ rfl (by omega)⟩
/-- The first i bytes of the tag. -/
def tagI (n : Nat) (k : Nat → Nat) (i : Nat) : List Int := (tagNums n k i).map fun (x : Nat) => (x : Int)
theorem tagI_succ (n : Nat) (k : Nat → Nat) (i : Nat) : tagI n k (i + 1) = tagI n k i ++ [((tagSum n k i : Int) + ((n / 256 ^ i % 256 : Nat) + (k i : Int))) % 256] := by
  have e : ∀ o : Nat, (((tagSum n k i + (o + k i)) % 256 : Nat) : Int) = ((tagSum n k i : Int) + ((o : Int) + (k i : Int))) % 256 := fun o => by omega
  unfold tagI; rw [tagNums, List.map_append, ← e]; rfl
theorem tagI_length (n : Nat) (k : Nat → Nat) (i : Nat) : (tagI n k i).length = i := by unfold tagI; rw [List.length_map, tagNums_length]
theorem low8 (a : Nat) (ha : a < 2 ^ 63) : Go.bits .and .i64 (a : Int) 255 = ((a % 256 : Nat) : Int) := by
  refine (and_i64 a 255 ha (by decide)).trans ?_
  rw [show (255 : Nat) = 2 ^ 8 - 1 from rfl, Nat.and_two_pow_sub_one_eq_mod]
/-- What one byte of the tag reckons. -/
theorem out_names (v : List Nat) (hv : L5 67108864 v) (i : Nat) (hi : i < 16) :
    ∃ q r x s o : Nat, (8 * i / 26 = q ∧ 8 * i % 26 = r ∧ r < 26 ∧ q < 5) ∧ v.getD q 0 = x ∧ (x : Int) / 2 ^ r = (s : Int) ∧ val v / 256 ^ i % 256 = o ∧
      (¬ 18 < r → Go.bits .and .i64 (s : Int) 255 = (o : Int)) ∧
      (18 < r → ∃ x2 m s2 : Nat, q + 1 < 5 ∧ v.getD (q + 1) 0 = x2 ∧ wrap64 ((x2 : Int) * 2 ^ (26 - r)) = (m : Int) ∧ wrap64 ((s : Int) + (m : Int)) = (s2 : Int) ∧ Go.bits .and .i64 (s2 : Int) 255 = (o : Int)) := by
  have h := byteOut_val v hv i hi
  have hlt : ∀ q, q < 5 → v.getD q 0 < 67108864 := fun q hq => by rw [limb_at v hv q hq]; exact Nat.mod_lt _ (by decide)
  have hq : 8 * i / 26 < 5 := by omega
  have hx := hlt _ hq
  have hs : v.getD (8 * i / 26) 0 / 2 ^ (8 * i % 26) < 67108864 := Nat.lt_of_le_of_lt (Nat.div_le_self _ _) hx
  unfold byteOut at h
  refine ⟨_, _, _, v.getD (8 * i / 26) 0 / 2 ^ (8 * i % 26), _, ⟨rfl, rfl, Nat.mod_lt _ (by decide), hq⟩, rfl, by push_cast; rfl, rfl, fun hn => ?_, fun hy => ?_⟩
  · rw [if_neg hn] at h
    rw [low8 _ (by omega), h]
  · rw [if_pos hy] at h
    have hq1 : 8 * i / 26 + 1 < 5 := by omega
    have hx2 := hlt _ hq1
    have hp : 2 ^ (26 - 8 * i % 26) ≤ 2 ^ 8 := Nat.pow_le_pow_right (by decide) (by omega)
    have hm : v.getD (8 * i / 26 + 1) 0 * 2 ^ (26 - 8 * i % 26) ≤ 67108864 * 2 ^ 8 := Nat.mul_le_mul (Nat.le_of_lt hx2) hp
    refine ⟨_, v.getD (8 * i / 26 + 1) 0 * 2 ^ (26 - 8 * i % 26), v.getD (8 * i / 26) 0 / 2 ^ (8 * i % 26) + v.getD (8 * i / 26 + 1) 0 * 2 ^ (26 - 8 * i % 26), hq1, rfl, ?_, ?_, ?_⟩
    · have e : ((v.getD (8 * i / 26 + 1) 0 : Nat) : Int) * 2 ^ (26 - 8 * i % 26) = ((v.getD (8 * i / 26 + 1) 0 * 2 ^ (26 - 8 * i % 26) : Nat) : Int) := by push_cast; rfl
      rw [e]
      generalize v.getD (8 * i / 26 + 1) 0 * 2 ^ (26 - 8 * i % 26) = m at hm
      exact wrap_ok _ (by omega) (by omega)
    · clear h
      generalize v.getD (8 * i / 26 + 1) 0 * 2 ^ (26 - 8 * i % 26) = m at hm
      generalize v.getD (8 * i / 26) 0 / 2 ^ (8 * i % 26) = s at hs
      rw [wrap_ok _ (by omega) (by omega)]; omega
    · rw [low8 _ (by omega), h]

set_option maxRecDepth 1000000 in
set_option maxHeartbeats 16000000 in
theorem pad_wp (s : ByteArray) (u0 u1 u2 u3 u4 u5 u6 u7 u9 u10 u11 u12 u13 u14 u15 u16 u17 u18 u19 u20 u21 u22 u23 u24 u25 u26 u27 u28 u29 u30 u31 u32 u33 u34 u35 u36 u37 u38 u39 u40 u41 u42 u43 u44 u45 u46 u47 u48 u49 u50 u51 u52 u53 u54 u55 u56 u57 u58 u59 u60 u61 u62 u63 u64 u65 u66 u67 u68 u69 u70 u71 u72 u73 u74 u75 u76 u77 u78 u79 u80 u81 u82 u83 u84 u85 u86 u87 u88 u89 u90 u91 u92 u93 u94 u95 u96 u97 u98 u99 u100 u101 u102 u103 u104 u105 u106 u107 : Value) (Q0 : Exit → Act → World → Prop) (w : World) (hs : s.size ≤ 17)
    (hexit : ∀ (x36 x37 x38 x39 x40 : Value) (w' : World), w' = w → Q0 (.exit 2) ⟨List.toArray (u0 :: u1 :: u2 :: u3 :: u4 :: u5 :: u6 :: u7 :: (.string (padB s (17 - s.size))) :: u9 :: u10 :: u11 :: u12 :: u13 :: u14 :: u15 :: u16 :: u17 :: u18 :: u19 :: u20 :: u21 :: u22 :: u23 :: u24 :: u25 :: u26 :: u27 :: u28 :: u29 :: u30 :: u31 :: u32 :: u33 :: u34 :: u35 :: x36 :: x37 :: x38 :: x39 :: x40 :: u41 :: u42 :: u43 :: u44 :: u45 :: u46 :: u47 :: u48 :: u49 :: u50 :: u51 :: u52 :: u53 :: u54 :: u55 :: u56 :: u57 :: u58 :: u59 :: u60 :: u61 :: u62 :: u63 :: u64 :: u65 :: u66 :: u67 :: u68 :: u69 :: u70 :: u71 :: u72 :: u73 :: u74 :: u75 :: u76 :: u77 :: u78 :: u79 :: u80 :: u81 :: u82 :: u83 :: u84 :: u85 :: u86 :: u87 :: u88 :: u89 :: u90 :: u91 :: u92 :: u93 :: u94 :: u95 :: u96 :: u97 :: u98 :: u99 :: u100 :: u101 :: u102 :: u103 :: u104 :: u105 :: u106 :: u107 :: []), []⟩ w') :
    Code.wp Try.prog (loopNo Try.f48 1) Q0 ⟨List.toArray (u0 :: u1 :: u2 :: u3 :: u4 :: u5 :: u6 :: u7 :: (.string s) :: u9 :: u10 :: u11 :: u12 :: u13 :: u14 :: u15 :: u16 :: u17 :: u18 :: u19 :: u20 :: u21 :: u22 :: u23 :: u24 :: u25 :: u26 :: u27 :: u28 :: u29 :: u30 :: u31 :: u32 :: u33 :: u34 :: u35 :: u36 :: u37 :: u38 :: u39 :: u40 :: u41 :: u42 :: u43 :: u44 :: u45 :: u46 :: u47 :: u48 :: u49 :: u50 :: u51 :: u52 :: u53 :: u54 :: u55 :: u56 :: u57 :: u58 :: u59 :: u60 :: u61 :: u62 :: u63 :: u64 :: u65 :: u66 :: u67 :: u68 :: u69 :: u70 :: u71 :: u72 :: u73 :: u74 :: u75 :: u76 :: u77 :: u78 :: u79 :: u80 :: u81 :: u82 :: u83 :: u84 :: u85 :: u86 :: u87 :: u88 :: u89 :: u90 :: u91 :: u92 :: u93 :: u94 :: u95 :: u96 :: u97 :: u98 :: u99 :: u100 :: u101 :: u102 :: u103 :: u104 :: u105 :: u106 :: u107 :: []), []⟩ w := by
  conv => arg 2; whnf
  have HX := Lib.hid hexit
  clear hexit
  go_loopg [8] 17 (fun gg s8 wr => ∃ n : Nat, s8 = .string (padB s n) ∧ Aside0 (n ≤ 17 - s.size) ∧ 17 ≤ gg + n ∧ Aside0 (wr = w))
  case atStart => exact ⟨0, rfl, ⟨by omega⟩, by omega, ⟨rfl⟩⟩
  case round =>
    obtain ⟨n, rfl, HN, hg, HW⟩ := hrel
    obtain ⟨z, hz⟩ : ∃ z, padB s n = z := ⟨_, rfl⟩
    have hzs : z.size = s.size + n := by rw [← hz, padB_size]
    have hn := HN.out
    by_cases hlt : z.size < 17
    · have HY := Lib.hid (show padB s (n + 1) = z ++ ⟨#[0]⟩ by rw [padB, hz])
      have k1 : (z.size + 1 ≤ 9223372036854775807) = True := eq_true (by omega)
      have k2 : (9223372036854775807 < z.size + 1) = False := eq_false (by omega)
      have c1 : decide ((z.size : Int) < 17) = true := decide_eq_true (by omega)
      have c2 : decide (z.size < 17) = true := decide_eq_true hlt
      have HZ := Lib.hid hzs
      clear hzs
      rw [hz]
      clear hz
      go_wp2
      go_roundg (17 - (n + 1))
      case measure => have := HZ.out; omega
      case rel => exact ⟨n + 1, by rw [HY.out], ⟨by have := HZ.out; omega⟩, by omega, HW⟩
    · have c1 : decide ((z.size : Int) < 17) = false := decide_eq_false (by omega)
      have c2 : decide (z.size < 17) = false := decide_eq_false hlt
      obtain rfl : n = 17 - s.size := by omega
      have HWo := HW.out
      have HZ := Lib.hid hz
      rw [hz]
      clear hz
      go_wp2
      rw [← HZ.out]
      refine HX.out _ _ _ _ _ _ ?_
      first | exact HWo | rfl


set_option maxRecDepth 1000000 in
set_option maxHeartbeats 16000000 in
theorem sum_wp (gh gm : Nat) (a b c d f r s t x y : Nat) (u0 u1 u2 u3 u4 u5 u7 u8 u11 u12 u13 u14 u15 u16 u17 u18 u19 u20 u21 u22 u23 u24 u25 u26 u27 u28 u29 u30 u31 u32 u33 u34 u35 u36 u37 u38 u39 u40 u41 u42 u43 u44 u45 u46 u47 u48 u49 u50 u51 u52 u53 u54 u55 u56 u57 u58 u59 u60 u61 u62 u63 u64 u65 u66 u67 u68 u69 u70 u71 u72 u73 u74 u75 u76 u77 u78 u79 u80 u81 u82 u83 u84 u85 u86 u87 u88 u89 u90 u91 u92 u93 u94 u95 u96 u97 u98 u99 u100 u101 u102 u103 u104 u105 u106 u107 : Value) (Q0 : Exit → Act → World → Prop) (w : World) (ha : a < 67108864) (hb : b < 67108864) (hc : c < 67108864) (hd : d < 67108864) (hf : f < 67108864) (hr : r < 67108864) (hs : s < 67108864) (ht : t < 67108864) (hx : x < 67108864) (hy : y < 67108864) (hB : Blk w gh 80 (wds .i64 [a, b, c, d, f])) (hM : Blk w gm 80 (wds .i64 [r, s, t, x, y])) (hne : gm ≠ gh)
    (hexit : ∀ (x43 x44 x45 x46 x47 x48 x49 x50 x51 x52 x53 x54 : Value) (w' : World), Blk w' gh 80 (wds .i64 (addL [a, b, c, d, f] [r, s, t, x, y])) ∧ Below gh w w' → Q0 (.exit 4) ⟨List.toArray (u0 :: u1 :: u2 :: u3 :: u4 :: u5 :: (.pointer (some ⟨gh, 0, none⟩)) :: u7 :: u8 :: (.pointer (some ⟨gm, 0, none⟩)) :: (.int .i64 5) :: u11 :: u12 :: u13 :: u14 :: u15 :: u16 :: u17 :: u18 :: u19 :: u20 :: u21 :: u22 :: u23 :: u24 :: u25 :: u26 :: u27 :: u28 :: u29 :: u30 :: u31 :: u32 :: u33 :: u34 :: u35 :: u36 :: u37 :: u38 :: u39 :: u40 :: u41 :: u42 :: x43 :: x44 :: x45 :: x46 :: x47 :: x48 :: x49 :: x50 :: x51 :: x52 :: x53 :: x54 :: u55 :: u56 :: u57 :: u58 :: u59 :: u60 :: u61 :: u62 :: u63 :: u64 :: u65 :: u66 :: u67 :: u68 :: u69 :: u70 :: u71 :: u72 :: u73 :: u74 :: u75 :: u76 :: u77 :: u78 :: u79 :: u80 :: u81 :: u82 :: u83 :: u84 :: u85 :: u86 :: u87 :: u88 :: u89 :: u90 :: u91 :: u92 :: u93 :: u94 :: u95 :: u96 :: u97 :: u98 :: u99 :: u100 :: u101 :: u102 :: u103 :: u104 :: u105 :: u106 :: u107 :: []), []⟩ w') :
    Code.wp Try.prog (loopNo Try.f48 2) Q0 ⟨List.toArray (u0 :: u1 :: u2 :: u3 :: u4 :: u5 :: (.pointer (some ⟨gh, 0, none⟩)) :: u7 :: u8 :: (.pointer (some ⟨gm, 0, none⟩)) :: (.int .i64 0) :: u11 :: u12 :: u13 :: u14 :: u15 :: u16 :: u17 :: u18 :: u19 :: u20 :: u21 :: u22 :: u23 :: u24 :: u25 :: u26 :: u27 :: u28 :: u29 :: u30 :: u31 :: u32 :: u33 :: u34 :: u35 :: u36 :: u37 :: u38 :: u39 :: u40 :: u41 :: u42 :: u43 :: u44 :: u45 :: u46 :: u47 :: u48 :: u49 :: u50 :: u51 :: u52 :: u53 :: u54 :: u55 :: u56 :: u57 :: u58 :: u59 :: u60 :: u61 :: u62 :: u63 :: u64 :: u65 :: u66 :: u67 :: u68 :: u69 :: u70 :: u71 :: u72 :: u73 :: u74 :: u75 :: u76 :: u77 :: u78 :: u79 :: u80 :: u81 :: u82 :: u83 :: u84 :: u85 :: u86 :: u87 :: u88 :: u89 :: u90 :: u91 :: u92 :: u93 :: u94 :: u95 :: u96 :: u97 :: u98 :: u99 :: u100 :: u101 :: u102 :: u103 :: u104 :: u105 :: u106 :: u107 :: []), []⟩ w := by
  conv => arg 2; whnf
  have HX := Lib.hid hexit
  clear hexit
  obtain ⟨n0, N0, z0⟩ := add_i a r ha hr
  obtain ⟨n1, N1, z1⟩ := add_i b s hb hs
  obtain ⟨n2, N2, z2⟩ := add_i c t hc ht
  obtain ⟨n3, N3, z3⟩ := add_i d x hd hx
  obtain ⟨n4, N4, z4⟩ := add_i f y hf hy
  have HE := Lib.hid (show [n0, n1, n2, n3, n4] = addL [a, b, c, d, f] [r, s, t, x, y] by rw [← N0.out, ← N1.out, ← N2.out, ← N3.out, ← N4.out]; rfl)
  have HT := Aside0.mk hB
  have HM := Aside0.mk hM
  have HL := Aside0.mk (Below.refl gh w)
  clear ha hb hc hd hf hr hs ht hx hy N0 N1 N2 N3 N4 hB hM
  generalize hw0 : w = w0 at HT HM HL ⊢
  rw [hw0] at HX
  clear hw0
  have HL : Aside0 (Below gh w0 w0) := ⟨Below.refl _ _⟩
  generalize hwb : w0 = wb at HT HM ⊢
  have HL : Aside0 (Below gh w0 wb) := ⟨hwb ▸ Below.refl _ _⟩
  clear hwb
  refine wp_loop_rounds 6 ?_
  have x0 : wb.cell? ⟨gh, 0, none⟩ = some (.int .i64 (a : Int)) ∧ wb.frozen? ⟨gh, 0, none⟩ = false := HT.out.at 0 _ rfl
  have y0 : wb.cell? ⟨gm, 0, none⟩ = some (.int .i64 (r : Int)) ∧ wb.frozen? ⟨gm, 0, none⟩ = false := HM.out.at 0 _ rfl
  rw [rounds_succ]; go_wp2
  go_still_tail 8, (by kernel_rfl)
  change wpList _ _ _ _ _ wb.drew
  have T1 := Aside0.mk HT.out.drew
  have M1 := Aside0.mk HM.out.drew
  have L1 := Aside0.mk HL.out.drew
  clear x0 y0 HT HM HL
  generalize wb.drew = wd0 at T1 M1 L1 ⊢
  have x0 : wd0.cell? ⟨gh, 0, none⟩ = some (.int .i64 (a : Int)) ∧ wd0.frozen? ⟨gh, 0, none⟩ = false := T1.out.at 0 _ rfl
  go_wp2
  have HT := Aside0.mk ((T1.out.wset 0 n0).eq (show _ = wds .i64 [n0, b, c, d, f] from rfl))
  have HM := Aside0.mk (M1.out.other ⟨gh, 0, none⟩ hne (.int .i64 n0))
  have HL := Aside0.mk (L1.out.setCell (p := ⟨gh, 0, none⟩) (Nat.le_refl _) (.int .i64 n0))
  clear x0 T1 M1 L1
  generalize wd0.setCell ⟨gh, 0, none⟩ (.int .i64 (n0 : Int)) = we0 at HT HM HL ⊢
  have x0 : we0.cell? ⟨gh, 1, none⟩ = some (.int .i64 (b : Int)) ∧ we0.frozen? ⟨gh, 1, none⟩ = false := HT.out.at 1 _ rfl
  have y0 : we0.cell? ⟨gm, 1, none⟩ = some (.int .i64 (s : Int)) ∧ we0.frozen? ⟨gm, 1, none⟩ = false := HM.out.at 1 _ rfl
  rw [rounds_succ]; go_wp2
  go_still_tail 8, (by kernel_rfl)
  change wpList _ _ _ _ _ we0.drew
  have T1 := Aside0.mk HT.out.drew
  have M1 := Aside0.mk HM.out.drew
  have L1 := Aside0.mk HL.out.drew
  clear x0 y0 HT HM HL
  generalize we0.drew = wd1 at T1 M1 L1 ⊢
  have x0 : wd1.cell? ⟨gh, 1, none⟩ = some (.int .i64 (b : Int)) ∧ wd1.frozen? ⟨gh, 1, none⟩ = false := T1.out.at 1 _ rfl
  go_wp2
  have HT := Aside0.mk ((T1.out.wset 1 n1).eq (show _ = wds .i64 [n0, n1, c, d, f] from rfl))
  have HM := Aside0.mk (M1.out.other ⟨gh, 1, none⟩ hne (.int .i64 n1))
  have HL := Aside0.mk (L1.out.setCell (p := ⟨gh, 1, none⟩) (Nat.le_refl _) (.int .i64 n1))
  clear x0 T1 M1 L1
  generalize wd1.setCell ⟨gh, 1, none⟩ (.int .i64 (n1 : Int)) = we1 at HT HM HL ⊢
  have x0 : we1.cell? ⟨gh, 2, none⟩ = some (.int .i64 (c : Int)) ∧ we1.frozen? ⟨gh, 2, none⟩ = false := HT.out.at 2 _ rfl
  have y0 : we1.cell? ⟨gm, 2, none⟩ = some (.int .i64 (t : Int)) ∧ we1.frozen? ⟨gm, 2, none⟩ = false := HM.out.at 2 _ rfl
  rw [rounds_succ]; go_wp2
  go_still_tail 8, (by kernel_rfl)
  change wpList _ _ _ _ _ we1.drew
  have T1 := Aside0.mk HT.out.drew
  have M1 := Aside0.mk HM.out.drew
  have L1 := Aside0.mk HL.out.drew
  clear x0 y0 HT HM HL
  generalize we1.drew = wd2 at T1 M1 L1 ⊢
  have x0 : wd2.cell? ⟨gh, 2, none⟩ = some (.int .i64 (c : Int)) ∧ wd2.frozen? ⟨gh, 2, none⟩ = false := T1.out.at 2 _ rfl
  go_wp2
  have HT := Aside0.mk ((T1.out.wset 2 n2).eq (show _ = wds .i64 [n0, n1, n2, d, f] from rfl))
  have HM := Aside0.mk (M1.out.other ⟨gh, 2, none⟩ hne (.int .i64 n2))
  have HL := Aside0.mk (L1.out.setCell (p := ⟨gh, 2, none⟩) (Nat.le_refl _) (.int .i64 n2))
  clear x0 T1 M1 L1
  generalize wd2.setCell ⟨gh, 2, none⟩ (.int .i64 (n2 : Int)) = we2 at HT HM HL ⊢
  have x0 : we2.cell? ⟨gh, 3, none⟩ = some (.int .i64 (d : Int)) ∧ we2.frozen? ⟨gh, 3, none⟩ = false := HT.out.at 3 _ rfl
  have y0 : we2.cell? ⟨gm, 3, none⟩ = some (.int .i64 (x : Int)) ∧ we2.frozen? ⟨gm, 3, none⟩ = false := HM.out.at 3 _ rfl
  rw [rounds_succ]; go_wp2
  go_still_tail 8, (by kernel_rfl)
  change wpList _ _ _ _ _ we2.drew
  have T1 := Aside0.mk HT.out.drew
  have M1 := Aside0.mk HM.out.drew
  have L1 := Aside0.mk HL.out.drew
  clear x0 y0 HT HM HL
  generalize we2.drew = wd3 at T1 M1 L1 ⊢
  have x0 : wd3.cell? ⟨gh, 3, none⟩ = some (.int .i64 (d : Int)) ∧ wd3.frozen? ⟨gh, 3, none⟩ = false := T1.out.at 3 _ rfl
  go_wp2
  have HT := Aside0.mk ((T1.out.wset 3 n3).eq (show _ = wds .i64 [n0, n1, n2, n3, f] from rfl))
  have HM := Aside0.mk (M1.out.other ⟨gh, 3, none⟩ hne (.int .i64 n3))
  have HL := Aside0.mk (L1.out.setCell (p := ⟨gh, 3, none⟩) (Nat.le_refl _) (.int .i64 n3))
  clear x0 T1 M1 L1
  generalize wd3.setCell ⟨gh, 3, none⟩ (.int .i64 (n3 : Int)) = we3 at HT HM HL ⊢
  have x0 : we3.cell? ⟨gh, 4, none⟩ = some (.int .i64 (f : Int)) ∧ we3.frozen? ⟨gh, 4, none⟩ = false := HT.out.at 4 _ rfl
  have y0 : we3.cell? ⟨gm, 4, none⟩ = some (.int .i64 (y : Int)) ∧ we3.frozen? ⟨gm, 4, none⟩ = false := HM.out.at 4 _ rfl
  rw [rounds_succ]; go_wp2
  go_still_tail 8, (by kernel_rfl)
  change wpList _ _ _ _ _ we3.drew
  have T1 := Aside0.mk HT.out.drew
  have M1 := Aside0.mk HM.out.drew
  have L1 := Aside0.mk HL.out.drew
  clear x0 y0 HT HM HL
  generalize we3.drew = wd4 at T1 M1 L1 ⊢
  have x0 : wd4.cell? ⟨gh, 4, none⟩ = some (.int .i64 (f : Int)) ∧ wd4.frozen? ⟨gh, 4, none⟩ = false := T1.out.at 4 _ rfl
  go_wp2
  have HT := Aside0.mk ((T1.out.wset 4 n4).eq (show _ = wds .i64 [n0, n1, n2, n3, n4] from rfl))
  have HM := Aside0.mk (M1.out.other ⟨gh, 4, none⟩ hne (.int .i64 n4))
  have HL := Aside0.mk (L1.out.setCell (p := ⟨gh, 4, none⟩) (Nat.le_refl _) (.int .i64 n4))
  clear x0 T1 M1 L1
  generalize wd4.setCell ⟨gh, 4, none⟩ (.int .i64 (n4 : Int)) = we4 at HT HM HL ⊢
  rw [rounds_succ]; go_wp2
  have P1 := HT.out
  have P2 := HL.out
  rw [HE.out] at P1
  refine HX.out _ _ _ _ _ _ _ _ _ _ _ _ _ ?_
  exact ⟨P1, P2⟩


end Go.Proofs.Ytihpnededldedaa.Leaf
