/- Carries and sums of limbs. Conditions: bounds on the limbs. -/
import Derived.Test.YtihpnededldedaaArr
import Derived.Test.YtihpnededldedaaPol
import Derived.Deep.RegionHeld3
import Derived.StillTailTactics
namespace Go.Proofs.Ytihpnededldedaa.Leaf

section
open Go.RowKit Go.Shelf Go.Proofs.YtihpnededldedaaW.PrintWords Go.Proofs.YtihpnededldedaaW.PrintLast Go.Proofs.YtihpnededldedaaW.PrintMore Go.Proofs.Ytihpnededldedaa.Pol

theorem carryN_60 (v : List Nat) (h : L5 (2 ^ 60) v) : ∀ j, j < 3 → L5 (2 ^ 60) (carryN v j) := by
  obtain ⟨a, b, c, d, e, rfl, ha, hb, hc, hd, he⟩ := h
  obtain ⟨a1, b1, c1, d1, e1, h1, ka, kb, kc, kd, ke⟩ := carry1_bd a b c d e ha hb hc hd he
  obtain ⟨a2, b2, c2, d2, e2, h2, la, _, lb, lc, ld, le⟩ := carry2_bd a1 b1 c1 d1 e1 ka kb kc kd ke
  have k1 : carryN [a, b, c, d, e] 1 = [a1, b1, c1, d1, e1] := h1
  have k2 : carryN [a, b, c, d, e] 2 = [a2, b2, c2, d2, e2] := by show carry (carryN _ 1) = _; rw [k1]; exact h2
  intro j hj
  obtain rfl | rfl | rfl : j = 0 ∨ j = 1 ∨ j = 2 := by omega
  · exact ⟨a, b, c, d, e, rfl, ha, hb, hc, hd, he⟩
  · rw [k1]; exact ⟨_, _, _, _, _, rfl, by omega, by omega, by omega, by omega, by omega⟩
  · rw [k2]; exact ⟨_, _, _, _, _, rfl, by omega, by omega, by omega, by omega, by omega⟩

theorem Blk.five {w : World} {g : Nat} {t : TypeId} {k : IntKind} {a b c d e : Nat} (h : Blk w g t (wds k [a, b, c, d, e])) :
    (w.cell? ⟨g, 0, none⟩ = some (.int k a) ∧ w.frozen? ⟨g, 0, none⟩ = false) ∧ (w.cell? ⟨g, 1, none⟩ = some (.int k b) ∧ w.frozen? ⟨g, 1, none⟩ = false) ∧ (w.cell? ⟨g, 2, none⟩ = some (.int k c) ∧ w.frozen? ⟨g, 2, none⟩ = false) ∧
    (w.cell? ⟨g, 3, none⟩ = some (.int k d) ∧ w.frozen? ⟨g, 3, none⟩ = false) ∧ (w.cell? ⟨g, 4, none⟩ = some (.int k e) ∧ w.frozen? ⟨g, 4, none⟩ = false) :=
  ⟨h.at 0 _ rfl, h.at 1 _ rfl, h.at 2 _ rfl, h.at 3 _ rfl, h.at 4 _ rfl⟩

theorem wraps_u64 (n : Int) (h0 : 0 ≤ n) (h1 : n < 2 ^ 64) : IntKind.u64.wrap n = n := by rw [IntKind.wrap_u64]; omega
theorem and_u64 (a b : Nat) (ha : a < 2 ^ 64) (hb : b < 2 ^ 64) : Go.bits .and .u64 (a : Int) (b : Int) = ((a &&& b : Nat) : Int) :=
  (bits_nat .u64 64 (by decide) (fun n h0 h1 => wraps_u64 n h0 h1) a b ha hb).1
theorem or_u64 (a b : Nat) (ha : a < 2 ^ 64) (hb : b < 2 ^ 64) : Go.bits .or .u64 (a : Int) (b : Int) = ((a ||| b : Nat) : Int) :=
  (bits_nat .u64 64 (by decide) (fun n h0 h1 => wraps_u64 n h0 h1) a b ha hb).2
theorem low_u64 (a : Nat) (ha : a < 2 ^ 64) : Go.bits .and .u64 (a : Int) 67108863 = ((a % 67108864 : Nat) : Int) := by
  refine (and_u64 a 67108863 ha (by decide)).trans ?_
  rw [show (67108863 : Nat) = 2 ^ 26 - 1 from rfl, Nat.and_two_pow_sub_one_eq_mod]
theorem low_i64 (a : Nat) (ha : a < 2 ^ 63) : Go.bits .and .i64 (a : Int) 67108863 = ((a % 67108864 : Nat) : Int) := by
  refine (and_i64 a 67108863 ha (by decide)).trans ?_
  rw [show (67108863 : Nat) = 2 ^ 26 - 1 from rfl, Nat.and_two_pow_sub_one_eq_mod]
theorem add_w64 (a b n : Nat) (h : a + b = n) (hn : n < 2 ^ 64) : IntKind.u64.wrap ((a : Int) + (b : Int)) = (n : Int) := by rw [wraps_u64 _ (by omega) (by omega)]; omega
theorem add_i64 (a b n : Nat) (h : a + b = n) (hn : n < 2 ^ 63) : IntKind.i64.wrap ((a : Int) + (b : Int)) = (n : Int) := by rw [wraps_i64 _ (by omega) (by omega)]; omega
theorem info5u {v : List Nat} (h : v.length = 5) : (Try.prog.info? 90).map (·.size) = some (wds .u64 v).size := by
  rw [wds_size, h]; kernel_rfl
theorem info5i {v : List Nat} (h : v.length = 5) : (Try.prog.info? 80).map (·.size) = some (wds .i64 v).size := by
  rw [wds_size, h]; kernel_rfl
/-- What a round of carries reckons, each number named. -/
theorem carr_names (a b c d e : Nat) (ha : a < 2 ^ 60) (hb : b < 2 ^ 60) (hc : c < 2 ^ 60) (hd : d < 2 ^ 60) (he : e < 2 ^ 60) :
    ∃ q0 r0 b1 q1 r1 c1 q2 r2 d1 q3 r3 e1 q4 r4 z f : Nat, carr a b c d e = [f, r1, r2, r3, r4] ∧
      (a / 67108864 = q0 ∧ a % 67108864 = r0) ∧ (b + q0 = b1 ∧ b1 / 67108864 = q1 ∧ b1 % 67108864 = r1) ∧ (c + q1 = c1 ∧ c1 / 67108864 = q2 ∧ c1 % 67108864 = r2) ∧
      (d + q2 = d1 ∧ d1 / 67108864 = q3 ∧ d1 % 67108864 = r3) ∧ (e + q3 = e1 ∧ e1 / 67108864 = q4 ∧ e1 % 67108864 = r4) ∧ (5 * q4 = z ∧ r0 + z = f) ∧
      b1 < 2 ^ 61 ∧ c1 < 2 ^ 61 ∧ d1 < 2 ^ 61 ∧ e1 < 2 ^ 61 ∧ z < 2 ^ 61 ∧ f < 2 ^ 61 := by
  refine ⟨_, _, _, _, _, _, _, _, _, _, _, _, _, _, _, _, rfl, ⟨rfl, rfl⟩, ⟨rfl, rfl, rfl⟩, ⟨rfl, rfl, rfl⟩, ⟨rfl, rfl, rfl⟩, ⟨rfl, rfl, rfl⟩, ⟨rfl, rfl⟩, ?_, ?_, ?_, ?_, ?_, ?_⟩ <;> omega
theorem div_int {x q : Nat} (h : x / 67108864 = q) : (x : Int) / 67108864 = (q : Int) := by omega
theorem carr_u64 (a b c d e : Nat) (ha : a < 2 ^ 60) (hb : b < 2 ^ 60) (hc : c < 2 ^ 60) (hd : d < 2 ^ 60) (he : e < 2 ^ 60) :
    ∃ q0 r0 b1 q1 r1 c1 q2 r2 d1 q3 r3 e1 q4 r4 z f : Nat, Hid (carr a b c d e = [f, r1, r2, r3, r4]) ∧ IntKind.u64.wrap (a : Int) = (a : Int) ∧
      ((a : Int) / 67108864 = q0 ∧ Go.bits .and .u64 (a : Int) 67108863 = r0) ∧ (IntKind.u64.wrap ((b : Int) + (q0 : Int)) = b1 ∧ (b1 : Int) / 67108864 = q1 ∧ Go.bits .and .u64 (b1 : Int) 67108863 = r1) ∧
      (IntKind.u64.wrap ((c : Int) + (q1 : Int)) = c1 ∧ (c1 : Int) / 67108864 = q2 ∧ Go.bits .and .u64 (c1 : Int) 67108863 = r2) ∧ (IntKind.u64.wrap ((d : Int) + (q2 : Int)) = d1 ∧ (d1 : Int) / 67108864 = q3 ∧ Go.bits .and .u64 (d1 : Int) 67108863 = r3) ∧
      (IntKind.u64.wrap ((e : Int) + (q3 : Int)) = e1 ∧ (e1 : Int) / 67108864 = q4 ∧ Go.bits .and .u64 (e1 : Int) 67108863 = r4) ∧ (IntKind.u64.wrap (5 * (q4 : Int)) = z ∧ IntKind.u64.wrap ((r0 : Int) + (z : Int)) = f) := by
  obtain ⟨q0, r0, b1, q1, r1, c1, q2, r2, d1, q3, r3, e1, q4, r4, z, f, h, ⟨k1, k2⟩, ⟨l0, l1, l2⟩, ⟨m0, m1, m2⟩, ⟨n0, n1, n2⟩, ⟨o0, o1, o2⟩, ⟨p0, p1⟩, b1', c1', d1', e1', z', f'⟩ := carr_names a b c d e ha hb hc hd he
  refine ⟨q0, r0, b1, q1, r1, c1, q2, r2, d1, q3, r3, e1, q4, r4, z, f, Lib.hid h, wraps_u64 _ (by omega) (by omega), ⟨div_int k1, ?_⟩, ⟨add_w64 _ _ _ l0 (by omega), div_int l1, ?_⟩, ⟨add_w64 _ _ _ m0 (by omega), div_int m1, ?_⟩, ⟨add_w64 _ _ _ n0 (by omega), div_int n1, ?_⟩, ⟨add_w64 _ _ _ o0 (by omega), div_int o1, ?_⟩, ?_, add_w64 _ _ _ p1 (by omega)⟩
  · rw [low_u64 _ (by omega), k2]
  · rw [low_u64 _ (by omega), l2]
  · rw [low_u64 _ (by omega), m2]
  · rw [low_u64 _ (by omega), n2]
  · rw [low_u64 _ (by omega), o2]
  · rw [wraps_u64 _ (by omega) (by omega)]; omega

/-- Five zeros. -/
def zeros5 : List Nat := [0, 0, 0, 0, 0]
/-- Block g holds these words, block h five zeros, and all below is as it was. -/
def Two (w0 wr : World) (g h : Nat) (t : TypeId) (k : IntKind) (v : List Nat) : Prop := Blk wr g t (wds k v) ∧ Blk wr h t (wds k zeros5) ∧ Below w0.heap.size w0 wr ∧ h ≠ g ∧ w0.heap.size ≤ g
theorem Two.a {w0 wr : World} {g h : Nat} {t : TypeId} {k : IntKind} {v : List Nat} (H : Two w0 wr g h t k v) : Blk wr g t (wds k v) := H.1
theorem Two.z {w0 wr : World} {g h : Nat} {t : TypeId} {k : IntKind} {v : List Nat} (H : Two w0 wr g h t k v) : Blk wr h t (wds k zeros5) := H.2.1
theorem Two.l {w0 wr : World} {g h : Nat} {t : TypeId} {k : IntKind} {v : List Nat} (H : Two w0 wr g h t k v) : Below w0.heap.size w0 wr := H.2.2.1
theorem Two.start (w : World) (t : TypeId) (k : IntKind) (v : List Nat) : Two w ((w.alloc (.cells (wds k v) t)).alloc (.cells (wds k zeros5) t)) w.heap.size (w.heap.size + 1) t k v :=
  ⟨(Blk.new _ _ _).alloc _, Blk.new' _ _ _ _ (by simp), below_alloc (below_alloc (Below.refl _ _) _) _, Nat.succ_ne_self _, Nat.le_refl _⟩
theorem Two.set {w0 wr : World} {g h : Nat} {t : TypeId} {k : IntKind} {v : List Nat} (H : Two w0 wr g h t k v) (i n : Nat) : Two w0 (wr.setCell ⟨g, i, none⟩ (.int k (n : Int))) g h t k (v.set i n) :=
  ⟨H.1.wset i n, H.2.1.other _ H.2.2.2.1 _, H.2.2.1.setCell (p := ⟨g, i, none⟩) H.2.2.2.2 _, H.2.2.2⟩
theorem Two.eq {w0 wr : World} {g h : Nat} {t : TypeId} {k : IntKind} {v u : List Nat} (H : Two w0 wr g h t k v) (e : v = u) : Two w0 wr g h t k u := e ▸ H

set_option maxRecDepth 100000 in
set_option maxHeartbeats 4000000 in
theorem carried_calls (v : List Nat) (hv : L5 (2 ^ 60) v) (w : World) : Calls Try.prog 108 #[.agg (wds .u64 v)] w fun e w' => e = .returned (.agg (wds .u64 (carryN v 3))) ∧ Below w.heap.size w w' := by
  have HV := Lib.hid (carryN_60 v hv)
  have H3 := Lib.hid (carry3 v hv).1
  clear hv
  go_enter Try.func108, Try.ntmps108
  go_wp2
  go_loopg [5] 3 (fun gg s_ wr => ∃ j : Nat, s_ = .int .i64 j ∧ j ≤ 3 ∧ 3 ≤ gg + j ∧ Aside0 (Two w wr w.heap.size (w.heap.size + 1) 90 .u64 (carryN v j)))
  case atStart => exact ⟨0, rfl, by omega, by omega, ⟨Two.start w _ _ v⟩⟩
  case round =>
    obtain ⟨j, rfl, hj, hg, HT⟩ := hrel
    by_cases hlt : j < 3
    · have c1 : decide ((j : Int) < 3) = true := decide_eq_true (by omega)
      obtain ⟨a, b, c, d, e, hl, ha, hb, hc, hd, he⟩ := HV.out j hlt
      rw [hl] at HT
      obtain ⟨x0, x1, x2, x3, x4⟩ := HT.out.a.five
      obtain ⟨q0, r0, b1, q1, r1, c1', q2, r2, d1, q3, r3, e1, q4, r4, z, f, HN, wa, ⟨k1, k2⟩, ⟨l0, l1, l2⟩, ⟨m0, m1, m2⟩, ⟨n0, n1, n2⟩, ⟨o0, o1, o2⟩, ⟨p0, p1⟩⟩ := carr_u64 a b c d e ha hb hc hd he
      have HJ := Lib.hid (show carryN v (j + 1) = [f, r1, r2, r3, r4] by rw [carryN, hl]; exact HN.out)
      clear hl ha hb hc hd he HN
      go_wp2
      refine wp_loop_rounds 6 ?_
      repeat any_goals (rw [rounds_succ]; go_wp2)
      have T1 := Aside0.mk ((((((((((((HT.out.set 0 a).set 0 r0).set 1 b1).set 1 r1).set 2 c1').set 2 r2).set 3 d1).set 3 r3).set 4 e1).set 4 r4).set 0 f).eq HJ.out.symm)
      clear HT
      go_roundg (3 - (j + 1))
      case measure => omega
      case rel => exact ⟨j + 1, by go_num, by omega, by omega, T1⟩
    · have c1 : decide ((j : Int) < 3) = false := decide_eq_false (by omega)
      obtain rfl : j = 3 := by omega
      have hl5 := Lib.hid H3.out.length
      go_wp2_with (first | (refine wpList_load_row rfl 90 _ rfl w.heap.size rfl 90 (wds .u64 (carryN v 3)) (0, 0) _ HT.out.a Try.underlying90 rfl (info5u hl5.out) ?_) | (refine wpList_store_row rfl 90 _ _ rfl (w.heap.size + 1) (wds .u64 (carryN v 3)) rfl rfl 90 _ HT.out.z (info5u hl5.out) (by rw [wds_size, wds_size, hl5.out]; rfl) (wds_one _ _) ?_))
      refine ret_row (p := 2) (ty := 90) rfl (w.heap.size + 1) 90 (wds .u64 (carryN v 3)) _ rfl (HT.out.z.row _) Try.underlying90 rfl (info5u hl5.out) rfl ⟨rfl, below_setRow HT.out.l (Nat.le_succ _) _⟩
end

section
open Go.RowKit Go.Shelf Go.Proofs.YtihpnededldedaaW.PrintWords Go.Proofs.YtihpnededldedaaW.PrintLast Go.Proofs.YtihpnededldedaaW.PrintMore Go.Proofs.Ytihpnededldedaa.Pol

theorem Two.drew {w0 wr : World} {g h : Nat} {t : TypeId} {k : IntKind} {v : List Nat} (H : Two w0 wr g h t k v) : Two w0 wr.drew g h t k v :=
  ⟨H.1.drew, H.2.1.drew, H.2.2.1.drew, H.2.2.2⟩
theorem carr_i64 (a b c d e : Nat) (ha : a < 2 ^ 60) (hb : b < 2 ^ 60) (hc : c < 2 ^ 60) (hd : d < 2 ^ 60) (he : e < 2 ^ 60) :
    ∃ q0 r0 b1 q1 r1 c1 q2 r2 d1 q3 r3 e1 q4 r4 z f : Nat, Hid (carr a b c d e = [f, r1, r2, r3, r4]) ∧
      ((a : Int) / 67108864 = q0 ∧ Go.bits .and .i64 (a : Int) 67108863 = r0) ∧ (IntKind.i64.wrap ((b : Int) + (q0 : Int)) = b1 ∧ (b1 : Int) / 67108864 = q1 ∧ Go.bits .and .i64 (b1 : Int) 67108863 = r1) ∧
      (IntKind.i64.wrap ((c : Int) + (q1 : Int)) = c1 ∧ (c1 : Int) / 67108864 = q2 ∧ Go.bits .and .i64 (c1 : Int) 67108863 = r2) ∧ (IntKind.i64.wrap ((d : Int) + (q2 : Int)) = d1 ∧ (d1 : Int) / 67108864 = q3 ∧ Go.bits .and .i64 (d1 : Int) 67108863 = r3) ∧
      (IntKind.i64.wrap ((e : Int) + (q3 : Int)) = e1 ∧ (e1 : Int) / 67108864 = q4 ∧ Go.bits .and .i64 (e1 : Int) 67108863 = r4) ∧ (wrap64 (5 * (q4 : Int)) = z ∧ wrap64 ((r0 : Int) + (z : Int)) = f) := by
  obtain ⟨q0, r0, b1, q1, r1, c1, q2, r2, d1, q3, r3, e1, q4, r4, z, f, h, ⟨k1, k2⟩, ⟨l0, l1, l2⟩, ⟨m0, m1, m2⟩, ⟨n0, n1, n2⟩, ⟨o0, o1, o2⟩, ⟨p0, p1⟩, b1', c1', d1', e1', z', f'⟩ := carr_names a b c d e ha hb hc hd he
  refine ⟨q0, r0, b1, q1, r1, c1, q2, r2, d1, q3, r3, e1, q4, r4, z, f, Lib.hid h, ⟨div_int k1, ?_⟩, ⟨add_i64 _ _ _ l0 (by omega), div_int l1, ?_⟩, ⟨add_i64 _ _ _ m0 (by omega), div_int m1, ?_⟩, ⟨add_i64 _ _ _ n0 (by omega), div_int n1, ?_⟩, ⟨add_i64 _ _ _ o0 (by omega), div_int o1, ?_⟩, ?_, ?_⟩
  · rw [low_i64 _ (by omega), k2]
  · rw [low_i64 _ (by omega), l2]
  · rw [low_i64 _ (by omega), m2]
  · rw [low_i64 _ (by omega), n2]
  · rw [low_i64 _ (by omega), o2]
  · rw [wrap_ok _ (by omega) (by omega)]; omega
  · rw [wrap_ok _ (by omega) (by omega)]; omega

set_option maxRecDepth 100000 in
set_option maxHeartbeats 8000000 in
theorem l03Carry_calls (v : List Nat) (hv : L5 (2 ^ 60) v) (w : World) : Calls Try.prog 84 #[.agg (wds .i64 v)] w fun e w' => e = .returned (.agg (wds .i64 (carryN v 3))) ∧ Below w.heap.size w w' := by
  have HV := Lib.hid (carryN_60 v hv)
  have H3 := Lib.hid (carry3 v hv).1
  clear hv
  go_enter Try.func84, Try.ntmps84
  go_wp2
  go_loopg [3] 3 (fun gg s_ wr => ∃ j : Nat, s_ = .int .i64 j ∧ j ≤ 3 ∧ 3 ≤ gg + j ∧ Aside0 (Two w wr w.heap.size (w.heap.size + 1) 80 .i64 (carryN v j)))
  case atStart => exact ⟨0, rfl, by omega, by omega, ⟨Two.start w _ _ v⟩⟩
  case round =>
    obtain ⟨j, rfl, hj, hg, HT⟩ := hrel
    by_cases hlt : j < 3
    · have c1 : decide ((j : Int) < 3) = true := decide_eq_true (by omega)
      obtain ⟨a, b, c, d, e, hl, ha, hb, hc, hd, he⟩ := HV.out j hlt
      rw [hl] at HT
      obtain ⟨q0, r0, b1, q1, r1, c1', q2, r2, d1, q3, r3, e1, q4, r4, z, f, HN, ⟨k1, k2⟩, ⟨l0, l1, l2⟩, ⟨m0, m1, m2⟩, ⟨n0, n1, n2⟩, ⟨o0, o1, o2⟩, ⟨p0, p1⟩⟩ := carr_i64 a b c d e ha hb hc hd he
      have HJ := Lib.hid (show carryN v (j + 1) = [f, r1, r2, r3, r4] by rw [carryN, hl]; exact HN.out)
      clear hl ha hb hc hd he HN
      obtain ⟨x0, x1, x2, x3, x4⟩ := HT.out.a.five
      have y1 : IntKind.i64.wrap 1 = 1 := rfl
      have y2 : IntKind.i64.wrap 2 = 2 := rfl
      have y3 : IntKind.i64.wrap 3 = 3 := rfl
      have y4 : IntKind.i64.wrap 4 = 4 := rfl
      go_wp2
      refine wp_loop_rounds 5 ?_
      rw [rounds_succ]; go_wp2
      go_still_tail 10, (by kernel_rfl)
      change wpList _ _ _ _ _ wr.drew
      have T0 := Aside0.mk HT.out.drew
      clear x0 x1 x2 x3 x4 HT
      generalize wr.drew = wa0 at T0 ⊢
      obtain ⟨x0, x1, x2, x3, x4⟩ := T0.out.a.five
      go_wp2
      have HT := Aside0.mk (((T0.out.set 1 b1).set 0 r0).eq (show _ = [r0, b1, c, d, e] from rfl))
      clear x0 x1 x2 x3 x4 T0
      generalize ((wa0.setCell ⟨w.heap.size, 1, none⟩ (.int .i64 (b1 : Int))).setCell ⟨w.heap.size, 0, none⟩ (.int .i64 (r0 : Int))) = wb0 at HT ⊢
      obtain ⟨x0, x1, x2, x3, x4⟩ := HT.out.a.five
      rw [rounds_succ]; go_wp2
      go_still_tail 10, (by kernel_rfl)
      change wpList _ _ _ _ _ wb0.drew
      have T1 := Aside0.mk HT.out.drew
      clear x0 x1 x2 x3 x4 HT
      generalize wb0.drew = wa1 at T1 ⊢
      obtain ⟨x0, x1, x2, x3, x4⟩ := T1.out.a.five
      go_wp2
      have HT := Aside0.mk (((T1.out.set 2 c1').set 1 r1).eq (show _ = [r0, r1, c1', d, e] from rfl))
      clear x0 x1 x2 x3 x4 T1
      generalize ((wa1.setCell ⟨w.heap.size, 2, none⟩ (.int .i64 (c1' : Int))).setCell ⟨w.heap.size, 1, none⟩ (.int .i64 (r1 : Int))) = wb1 at HT ⊢
      obtain ⟨x0, x1, x2, x3, x4⟩ := HT.out.a.five
      rw [rounds_succ]; go_wp2
      go_still_tail 10, (by kernel_rfl)
      change wpList _ _ _ _ _ wb1.drew
      have T2 := Aside0.mk HT.out.drew
      clear x0 x1 x2 x3 x4 HT
      generalize wb1.drew = wa2 at T2 ⊢
      obtain ⟨x0, x1, x2, x3, x4⟩ := T2.out.a.five
      go_wp2
      have HT := Aside0.mk (((T2.out.set 3 d1).set 2 r2).eq (show _ = [r0, r1, r2, d1, e] from rfl))
      clear x0 x1 x2 x3 x4 T2
      generalize ((wa2.setCell ⟨w.heap.size, 3, none⟩ (.int .i64 (d1 : Int))).setCell ⟨w.heap.size, 2, none⟩ (.int .i64 (r2 : Int))) = wb2 at HT ⊢
      obtain ⟨x0, x1, x2, x3, x4⟩ := HT.out.a.five
      rw [rounds_succ]; go_wp2
      go_still_tail 10, (by kernel_rfl)
      change wpList _ _ _ _ _ wb2.drew
      have T3 := Aside0.mk HT.out.drew
      clear x0 x1 x2 x3 x4 HT
      generalize wb2.drew = wa3 at T3 ⊢
      obtain ⟨x0, x1, x2, x3, x4⟩ := T3.out.a.five
      go_wp2
      have HT := Aside0.mk (((T3.out.set 4 e1).set 3 r3).eq (show _ = [r0, r1, r2, r3, e1] from rfl))
      clear x0 x1 x2 x3 x4 T3
      generalize ((wa3.setCell ⟨w.heap.size, 4, none⟩ (.int .i64 (e1 : Int))).setCell ⟨w.heap.size, 3, none⟩ (.int .i64 (r3 : Int))) = wb3 at HT ⊢
      obtain ⟨x0, x1, x2, x3, x4⟩ := HT.out.a.five
      rw [rounds_succ]; go_wp2
      have T1 := Aside0.mk (((HT.out.set 0 f).set 4 r4).eq HJ.out.symm)
      clear HT
      go_roundg (3 - (j + 1))
      case measure => omega
      case rel => exact ⟨j + 1, by go_num, by omega, by omega, T1⟩
    · have c1 : decide ((j : Int) < 3) = false := decide_eq_false (by omega)
      obtain rfl : j = 3 := by omega
      have hl5 := Lib.hid H3.out.length
      go_wp2_with (first | (refine wpList_load_row rfl 80 _ rfl w.heap.size rfl 80 (wds .i64 (carryN v 3)) (0, 0) _ HT.out.a Try.underlying80 rfl (info5i hl5.out) ?_) | (refine wpList_store_row rfl 80 _ _ rfl (w.heap.size + 1) (wds .i64 (carryN v 3)) rfl rfl 80 _ HT.out.z (info5i hl5.out) (by rw [wds_size, wds_size, hl5.out]; rfl) (wds_one _ _) ?_))
      refine ret_row (p := 2) (ty := 80) rfl (w.heap.size + 1) 80 (wds .i64 (carryN v 3)) _ rfl (HT.out.z.row _) Try.underlying80 rfl (info5i hl5.out) rfl ⟨rfl, below_setRow HT.out.l (Nat.le_succ _) _⟩
end

section
open Go.RowKit Go.Shelf Go.Proofs.YtihpnededldedaaW.PrintWords Go.Proofs.YtihpnededldedaaW.PrintLast Go.Proofs.YtihpnededldedaaW.PrintMore Go.Proofs.Ytihpnededldedaa.Pol

/-- Block g holds v, the next u, the next five zeros; all below is as it was. -/
def Tri (w0 wr : World) (g : Nat) (t : TypeId) (k : IntKind) (v u : List Nat) : Prop := Blk wr g t (wds k v) ∧ Blk wr (g + 1) t (wds k u) ∧ Blk wr (g + 1 + 1) t (wds k zeros5) ∧ Below w0.heap.size w0 wr ∧ w0.heap.size = g
theorem Tri.start (w : World) (t : TypeId) (k : IntKind) (v u : List Nat) : Tri w (((w.alloc (.cells (wds k v) t)).alloc (.cells (wds k u) t)).alloc (.cells (wds k zeros5) t)) w.heap.size t k v u :=
  ⟨((Blk.new _ _ _).alloc _).alloc _, (Blk.new' _ _ _ _ (by simp)).alloc _, Blk.new' _ _ _ _ (by simp), below_alloc (below_alloc (below_alloc (Below.refl _ _) _) _) _, rfl⟩
theorem Tri.set {w0 wr : World} {g : Nat} {t : TypeId} {k : IntKind} {v u : List Nat} (H : Tri w0 wr g t k v u) (i n : Nat) : Tri w0 (wr.setCell ⟨g, i, none⟩ (.int k (n : Int))) g t k (v.set i n) u :=
  ⟨H.1.wset i n, H.2.1.other _ (Nat.succ_ne_self _) _, H.2.2.1.other _ (by simp; omega) _, H.2.2.2.1.setCell (p := ⟨g, i, none⟩) (Nat.le_of_eq H.2.2.2.2) _, H.2.2.2.2⟩
theorem Tri.drew {w0 wr : World} {g : Nat} {t : TypeId} {k : IntKind} {v u : List Nat} (H : Tri w0 wr g t k v u) : Tri w0 wr.drew g t k v u := ⟨H.1.drew, H.2.1.drew, H.2.2.1.drew, H.2.2.2.1.drew, H.2.2.2.2⟩
theorem Tri.eq {w0 wr : World} {g : Nat} {t : TypeId} {k : IntKind} {v v' u : List Nat} (H : Tri w0 wr g t k v u) (e : v = v') : Tri w0 wr g t k v' u := e ▸ H
/-- What holds of the world at hand is all that is kept of it. -/
theorem wp_world {P : Program} {c : Code} {Q : Exit → Act → World → Prop} {a : Act} {W : World} (S : World → Prop) (hS : S W) (h : ∀ W', S W' → Code.wp P c Q a W') : Code.wp P c Q a W := h W hS
/-- The walk's end is kept closed: no step tries to reckon what is returned. -/
theorem wp_hide {P : Program} {c : Code} {Q : Exit → Act → World → Prop} {a : Act} {w : World} (h : ∀ Q' : Exit → Act → World → Prop, (∀ e a w, Q e a w → Q' e a w) → Code.wp P c Q' a w) : Code.wp P c Q a w := h Q fun _ _ _ h => h
theorem add_u64 (a b : Nat) (ha : a < 67108864) (hb : b < 67108864) : ∃ n : Nat, Hid (a + b = n) ∧ IntKind.u64.wrap ((a : Int) + (b : Int)) = (n : Int) :=
  ⟨a + b, Lib.hid rfl, add_w64 _ _ _ rfl (by omega)⟩

set_option maxRecDepth 100000 in
set_option maxHeartbeats 8000000 in
theorem plus_calls (v u : List Nat) (hv : L5 67108864 v) (hu : L5 67108864 u) (w : World) : Calls Try.prog 89 #[.agg (wds .u64 v), .agg (wds .u64 u)] w fun e w' => e = .returned (.agg (wds .u64 (carryN (addL v u) 3))) ∧ Below w.heap.size w w' := by
  have C := fun W => carried_calls (addL v u) ((addL_ok hv hu).1.mono (by decide)) W
  have H3 := Lib.hid (carry3 (addL v u) ((addL_ok hv hu).1.mono (by decide))).1
  have HA := Lib.hid (addL_ok hv hu).1.length
  obtain ⟨a, b, c, d, e, rfl, ha, hb, hc, hd, he⟩ := hv
  obtain ⟨r, s, t, x, y, rfl, hr, hs, ht, hx, hy⟩ := hu
  obtain ⟨n0, N0, s0⟩ := add_u64 a r ha hr
  obtain ⟨n1, N1, s1⟩ := add_u64 b s hb hs
  obtain ⟨n2, N2, s2⟩ := add_u64 c t hc ht
  obtain ⟨n3, N3, s3⟩ := add_u64 d x hd hx
  obtain ⟨n4, N4, s4⟩ := add_u64 e y he hy
  have HE := Lib.hid (show addL [a, b, c, d, e] [r, s, t, x, y] = [n0, n1, n2, n3, n4] by rw [← N0.out, ← N1.out, ← N2.out, ← N3.out, ← N4.out]; rfl)
  clear ha hb hc hd he hr hs ht hx hy N0 N1 N2 N3 N4
  generalize addL [a, b, c, d, e] [r, s, t, x, y] = q at C H3 HA HE
  have HS := Aside0.mk (Tri.start w 90 .u64 [a, b, c, d, e] [r, s, t, x, y])
  go_enter Try.func89, Try.ntmps89
  go_wp2
  refine wp_world (fun W => Tri w W w.heap.size 90 .u64 [a, b, c, d, e] [r, s, t, x, y]) HS.out ?_
  intro wb HW
  have HT := Aside0.mk HW
  clear HW HS
  refine wp_loop_rounds 6 ?_
  obtain ⟨x0, x1, x2, x3, x4⟩ := HT.out.1.five
  obtain ⟨y0, y1, y2, y3, y4⟩ := HT.out.2.1.five
  rw [rounds_succ]; go_wp2
  go_still_tail 8, (by kernel_rfl)
  change wpList _ _ _ _ _ wb.drew
  have T0 := Aside0.mk HT.out.drew
  clear x0 x1 x2 x3 x4 y0 y1 y2 y3 y4 HT
  generalize wb.drew = wa0 at T0 ⊢
  obtain ⟨x0, x1, x2, x3, x4⟩ := T0.out.1.five
  go_wp2
  have HT := Aside0.mk ((T0.out.set 0 n0).eq (show _ = [n0, b, c, d, e] from rfl))
  clear x0 x1 x2 x3 x4 T0
  generalize (wa0.setCell ⟨w.heap.size, 0, none⟩ (.int .u64 (n0 : Int))) = wb0 at HT ⊢
  obtain ⟨x0, x1, x2, x3, x4⟩ := HT.out.1.five
  obtain ⟨y0, y1, y2, y3, y4⟩ := HT.out.2.1.five
  rw [rounds_succ]; go_wp2
  go_still_tail 8, (by kernel_rfl)
  change wpList _ _ _ _ _ wb0.drew
  have T1 := Aside0.mk HT.out.drew
  clear x0 x1 x2 x3 x4 y0 y1 y2 y3 y4 HT
  generalize wb0.drew = wa1 at T1 ⊢
  obtain ⟨x0, x1, x2, x3, x4⟩ := T1.out.1.five
  go_wp2
  have HT := Aside0.mk ((T1.out.set 1 n1).eq (show _ = [n0, n1, c, d, e] from rfl))
  clear x0 x1 x2 x3 x4 T1
  generalize (wa1.setCell ⟨w.heap.size, 1, none⟩ (.int .u64 (n1 : Int))) = wb1 at HT ⊢
  obtain ⟨x0, x1, x2, x3, x4⟩ := HT.out.1.five
  obtain ⟨y0, y1, y2, y3, y4⟩ := HT.out.2.1.five
  rw [rounds_succ]; go_wp2
  go_still_tail 8, (by kernel_rfl)
  change wpList _ _ _ _ _ wb1.drew
  have T2 := Aside0.mk HT.out.drew
  clear x0 x1 x2 x3 x4 y0 y1 y2 y3 y4 HT
  generalize wb1.drew = wa2 at T2 ⊢
  obtain ⟨x0, x1, x2, x3, x4⟩ := T2.out.1.five
  go_wp2
  have HT := Aside0.mk ((T2.out.set 2 n2).eq (show _ = [n0, n1, n2, d, e] from rfl))
  clear x0 x1 x2 x3 x4 T2
  generalize (wa2.setCell ⟨w.heap.size, 2, none⟩ (.int .u64 (n2 : Int))) = wb2 at HT ⊢
  obtain ⟨x0, x1, x2, x3, x4⟩ := HT.out.1.five
  obtain ⟨y0, y1, y2, y3, y4⟩ := HT.out.2.1.five
  rw [rounds_succ]; go_wp2
  go_still_tail 8, (by kernel_rfl)
  change wpList _ _ _ _ _ wb2.drew
  have T3 := Aside0.mk HT.out.drew
  clear x0 x1 x2 x3 x4 y0 y1 y2 y3 y4 HT
  generalize wb2.drew = wa3 at T3 ⊢
  obtain ⟨x0, x1, x2, x3, x4⟩ := T3.out.1.five
  go_wp2
  have HT := Aside0.mk ((T3.out.set 3 n3).eq (show _ = [n0, n1, n2, n3, e] from rfl))
  clear x0 x1 x2 x3 x4 T3
  generalize (wa3.setCell ⟨w.heap.size, 3, none⟩ (.int .u64 (n3 : Int))) = wb3 at HT ⊢
  obtain ⟨x0, x1, x2, x3, x4⟩ := HT.out.1.five
  obtain ⟨y0, y1, y2, y3, y4⟩ := HT.out.2.1.five
  rw [rounds_succ]; go_wp2
  go_still_tail 8, (by kernel_rfl)
  change wpList _ _ _ _ _ wb3.drew
  have T4 := Aside0.mk HT.out.drew
  clear x0 x1 x2 x3 x4 y0 y1 y2 y3 y4 HT
  generalize wb3.drew = wa4 at T4 ⊢
  obtain ⟨x0, x1, x2, x3, x4⟩ := T4.out.1.five
  go_wp2
  have HT := Aside0.mk ((T4.out.set 4 n4).eq (show _ = [n0, n1, n2, n3, n4] from rfl))
  clear x0 x1 x2 x3 x4 T4
  generalize (wa4.setCell ⟨w.heap.size, 4, none⟩ (.int .u64 (n4 : Int))) = wb4 at HT ⊢
  rw [rounds_succ]
  have T6 := Aside0.mk (HT.out.eq HE.out.symm)
  clear HT HE
  go_wp2_with (first | ((with_reducible refine wpList_load_row (o := ⟨some 18, .load 90 (.tmp 2), _, _, _, _⟩) ?l1a 90 (.tmp 2) ?l1b (w.heap.size) ?l1c 90 (wds .u64 q) (0, 0) ?l1z ?l1d ?l1e ?l1f ?l1g ?_); (case l1a => rfl); (case l1b => rfl); (case l1c => rfl); (case l1d => exact T6.out.1); (case l1e => exact Try.underlying90); (case l1f => rfl); (case l1g => exact info5u HA.out)) | (go_at_call 108; with_reducible refine (C _).mono ?_; rintro e1 w1 ⟨rfl, hb1⟩; replace hb1 := Aside0.mk hb1) | ((with_reducible refine wpList_store_row (o := ⟨none, .store 90 (.tmp 4) (.tmp 19), _, _, _, _⟩) ?s2a 90 (.tmp 4) (.tmp 19) ?s2b (w.heap.size + 1 + 1) (wds .u64 (carryN q 3)) ?s2c ?s2d 90 (wds .u64 zeros5) ?s2e ?s2f ?s2g ?s2h ?_); (case s2a => rfl); (case s2b => rfl); (case s2c => rfl); (case s2d => rfl); (case s2e => exact (T6.out.2.2.1.below hb1.out)); (case s2f => exact info5u H3.out.length); (case s2g => rw [wds_size, wds_size, H3.out.length]; rfl); (case s2h => exact wds_one _ _)))
  refine ret_row (p := 4) (ty := 90) rfl (w.heap.size + 1 + 1) 90 (wds .u64 (carryN q 3)) _ rfl ((T6.out.2.2.1.below hb1.out).row _) Try.underlying90 rfl (info5u H3.out.length) rfl ⟨rfl, below_setRow (T6.out.2.2.2.1.trans (hb1.out.mono T6.out.2.2.2.1.size)) (by omega) _⟩
end

end Go.Proofs.Ytihpnededldedaa.Leaf
