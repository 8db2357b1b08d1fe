/-
  The carries of five limbs, the program's and the reference's. Conditions: limbs below 2 to the 60.
-/
import Derived.Test.YtihpnededldedaaArr
import Derived.Test.YtihpnededldedaaPol
import Derived.Deep.RegionHeld3
namespace Go.Proofs.Ytihpnededldedaa.Leaf
open Go.RowKit Go.Shelf Go.Proofs.YtihpnededldedaaW.PrintWords Go.Proofs.YtihpnededldedaaW.PrintLast Go.Proofs.YtihpnededldedaaW.PrintMore Go.Proofs.Ytihpnededldedaa.Pol

theorem carryN_60 (v : List Nat) (h : L5 (2 ^ 60) v) : ∀ j, j < 3 → L5 (2 ^ 60) (carryN v j) := by
  obtain ⟨a, b, c, d, e, rfl, ha, hb, hc, hd, he⟩ := h
  obtain ⟨a1, b1, c1, d1, e1, h1, ka, kb, kc, kd, ke⟩ := carry1_bd a b c d e ha hb hc hd he
  obtain ⟨a2, b2, c2, d2, e2, h2, la, _, lb, lc, ld, le⟩ := carry2_bd a1 b1 c1 d1 e1 ka kb kc kd ke
  have k1 : carryN [a, b, c, d, e] 1 = [a1, b1, c1, d1, e1] := h1
  have k2 : carryN [a, b, c, d, e] 2 = [a2, b2, c2, d2, e2] := by show carry (carryN _ 1) = _; rw [k1]; exact h2
  intro j hj
  obtain rfl | rfl | rfl : j = 0 ∨ j = 1 ∨ j = 2 := by omega
  · exact ⟨a, b, c, d, e, rfl, ha, hb, hc, hd, he⟩
  · rw [k1]; exact ⟨_, _, _, _, _, rfl, by omega, by omega, by omega, by omega, by omega⟩
  · rw [k2]; exact ⟨_, _, _, _, _, rfl, by omega, by omega, by omega, by omega, by omega⟩

theorem Blk.five {w : World} {g : Nat} {t : TypeId} {k : IntKind} {a b c d e : Nat} (h : Blk w g t (wds k [a, b, c, d, e])) :
    (w.cell? ⟨g, 0, none⟩ = some (.int k a) ∧ w.frozen? ⟨g, 0, none⟩ = false) ∧ (w.cell? ⟨g, 1, none⟩ = some (.int k b) ∧ w.frozen? ⟨g, 1, none⟩ = false) ∧ (w.cell? ⟨g, 2, none⟩ = some (.int k c) ∧ w.frozen? ⟨g, 2, none⟩ = false) ∧
    (w.cell? ⟨g, 3, none⟩ = some (.int k d) ∧ w.frozen? ⟨g, 3, none⟩ = false) ∧ (w.cell? ⟨g, 4, none⟩ = some (.int k e) ∧ w.frozen? ⟨g, 4, none⟩ = false) :=
  ⟨h.at 0 _ rfl, h.at 1 _ rfl, h.at 2 _ rfl, h.at 3 _ rfl, h.at 4 _ rfl⟩

theorem wraps_u64 (n : Int) (h0 : 0 ≤ n) (h1 : n < 2 ^ 64) : IntKind.u64.wrap n = n := by rw [IntKind.wrap_u64]; omega
theorem and_u64 (a b : Nat) (ha : a < 2 ^ 64) (hb : b < 2 ^ 64) : Go.bits .and .u64 (a : Int) (b : Int) = ((a &&& b : Nat) : Int) :=
  (bits_nat .u64 64 (by decide) (fun n h0 h1 => wraps_u64 n h0 h1) a b ha hb).1
theorem or_u64 (a b : Nat) (ha : a < 2 ^ 64) (hb : b < 2 ^ 64) : Go.bits .or .u64 (a : Int) (b : Int) = ((a ||| b : Nat) : Int) :=
  (bits_nat .u64 64 (by decide) (fun n h0 h1 => wraps_u64 n h0 h1) a b ha hb).2
theorem low_u64 (a : Nat) (ha : a < 2 ^ 64) : Go.bits .and .u64 (a : Int) 67108863 = ((a % 67108864 : Nat) : Int) := by
  refine (and_u64 a 67108863 ha (by decide)).trans ?_
  rw [show (67108863 : Nat) = 2 ^ 26 - 1 from rfl, Nat.and_two_pow_sub_one_eq_mod]
theorem low_i64 (a : Nat) (ha : a < 2 ^ 63) : Go.bits .and .i64 (a : Int) 67108863 = ((a % 67108864 : Nat) : Int) := by
  refine (and_i64 a 67108863 ha (by decide)).trans ?_
  rw [show (67108863 : Nat) = 2 ^ 26 - 1 from rfl, Nat.and_two_pow_sub_one_eq_mod]
theorem add_w64 (a b n : Nat) (h : a + b = n) (hn : n < 2 ^ 64) : IntKind.u64.wrap ((a : Int) + (b : Int)) = (n : Int) := by rw [wraps_u64 _ (by omega) (by omega)]; omega
theorem add_i64 (a b n : Nat) (h : a + b = n) (hn : n < 2 ^ 63) : IntKind.i64.wrap ((a : Int) + (b : Int)) = (n : Int) := by rw [wraps_i64 _ (by omega) (by omega)]; omega
theorem info5u {v : List Nat} (h : v.length = 5) : (Try.prog.info? 90).map (·.size) = some (wds .u64 v).size := by
  rw [wds_size, h]; kernel_rfl
theorem info5i {v : List Nat} (h : v.length = 5) : (Try.prog.info? 80).map (·.size) = some (wds .i64 v).size := by
  rw [wds_size, h]; kernel_rfl
/-- What a round of carries reckons, each number named. -/
theorem carr_names (a b c d e : Nat) (ha : a < 2 ^ 60) (hb : b < 2 ^ 60) (hc : c < 2 ^ 60) (hd : d < 2 ^ 60) (he : e < 2 ^ 60) :
    ∃ q0 r0 b1 q1 r1 c1 q2 r2 d1 q3 r3 e1 q4 r4 z f : Nat, carr a b c d e = [f, r1, r2, r3, r4] ∧
      (a / 67108864 = q0 ∧ a % 67108864 = r0) ∧ (b + q0 = b1 ∧ b1 / 67108864 = q1 ∧ b1 % 67108864 = r1) ∧ (c + q1 = c1 ∧ c1 / 67108864 = q2 ∧ c1 % 67108864 = r2) ∧
      (d + q2 = d1 ∧ d1 / 67108864 = q3 ∧ d1 % 67108864 = r3) ∧ (e + q3 = e1 ∧ e1 / 67108864 = q4 ∧ e1 % 67108864 = r4) ∧ (5 * q4 = z ∧ r0 + z = f) ∧
      b1 < 2 ^ 61 ∧ c1 < 2 ^ 61 ∧ d1 < 2 ^ 61 ∧ e1 < 2 ^ 61 ∧ z < 2 ^ 61 ∧ f < 2 ^ 61 := by
  refine ⟨_, _, _, _, _, _, _, _, _, _, _, _, _, _, _, _, rfl, ⟨rfl, rfl⟩, ⟨rfl, rfl, rfl⟩, ⟨rfl, rfl, rfl⟩, ⟨rfl, rfl, rfl⟩, ⟨rfl, rfl, rfl⟩, ⟨rfl, rfl⟩, ?_, ?_, ?_, ?_, ?_, ?_⟩ <;> omega
theorem div_int {x q : Nat} (h : x / 67108864 = q) : (x : Int) / 67108864 = (q : Int) := by omega
theorem carr_u64 (a b c d e : Nat) (ha : a < 2 ^ 60) (hb : b < 2 ^ 60) (hc : c < 2 ^ 60) (hd : d < 2 ^ 60) (he : e < 2 ^ 60) :
    ∃ q0 r0 b1 q1 r1 c1 q2 r2 d1 q3 r3 e1 q4 r4 z f : Nat, Hid (carr a b c d e = [f, r1, r2, r3, r4]) ∧ IntKind.u64.wrap (a : Int) = (a : Int) ∧
      ((a : Int) / 67108864 = q0 ∧ Go.bits .and .u64 (a : Int) 67108863 = r0) ∧ (IntKind.u64.wrap ((b : Int) + (q0 : Int)) = b1 ∧ (b1 : Int) / 67108864 = q1 ∧ Go.bits .and .u64 (b1 : Int) 67108863 = r1) ∧
      (IntKind.u64.wrap ((c : Int) + (q1 : Int)) = c1 ∧ (c1 : Int) / 67108864 = q2 ∧ Go.bits .and .u64 (c1 : Int) 67108863 = r2) ∧ (IntKind.u64.wrap ((d : Int) + (q2 : Int)) = d1 ∧ (d1 : Int) / 67108864 = q3 ∧ Go.bits .and .u64 (d1 : Int) 67108863 = r3) ∧
      (IntKind.u64.wrap ((e : Int) + (q3 : Int)) = e1 ∧ (e1 : Int) / 67108864 = q4 ∧ Go.bits .and .u64 (e1 : Int) 67108863 = r4) ∧ (IntKind.u64.wrap (5 * (q4 : Int)) = z ∧ IntKind.u64.wrap ((r0 : Int) + (z : Int)) = f) := by
  obtain ⟨q0, r0, b1, q1, r1, c1, q2, r2, d1, q3, r3, e1, q4, r4, z, f, h, ⟨k1, k2⟩, ⟨l0, l1, l2⟩, ⟨m0, m1, m2⟩, ⟨n0, n1, n2⟩, ⟨o0, o1, o2⟩, ⟨p0, p1⟩, b1', c1', d1', e1', z', f'⟩ := carr_names a b c d e ha hb hc hd he
  refine ⟨q0, r0, b1, q1, r1, c1, q2, r2, d1, q3, r3, e1, q4, r4, z, f, Lib.hid h, wraps_u64 _ (by omega) (by omega), ⟨div_int k1, ?_⟩, ⟨add_w64 _ _ _ l0 (by omega), div_int l1, ?_⟩, ⟨add_w64 _ _ _ m0 (by omega), div_int m1, ?_⟩, ⟨add_w64 _ _ _ n0 (by omega), div_int n1, ?_⟩, ⟨add_w64 _ _ _ o0 (by omega), div_int o1, ?_⟩, ?_, add_w64 _ _ _ p1 (by omega)⟩
  · rw [low_u64 _ (by omega), k2]
  · rw [low_u64 _ (by omega), l2]
  · rw [low_u64 _ (by omega), m2]
  · rw [low_u64 _ (by omega), n2]
  · rw [low_u64 _ (by omega), o2]
  · rw [wraps_u64 _ (by omega) (by omega)]; omega

/-- Five zeros. -/
def zeros5 : List Nat := [0, 0, 0, 0, 0]
/-- Block g holds these words, block h five zeros, and all below is as it was. -/
def Two (w0 wr : World) (g h : Nat) (t : TypeId) (k : IntKind) (v : List Nat) : Prop := Blk wr g t (wds k v) ∧ Blk wr h t (wds k zeros5) ∧ Below w0.heap.size w0 wr ∧ h ≠ g ∧ w0.heap.size ≤ g
theorem Two.a {w0 wr : World} {g h : Nat} {t : TypeId} {k : IntKind} {v : List Nat} (H : Two w0 wr g h t k v) : Blk wr g t (wds k v) := H.1
theorem Two.z {w0 wr : World} {g h : Nat} {t : TypeId} {k : IntKind} {v : List Nat} (H : Two w0 wr g h t k v) : Blk wr h t (wds k zeros5) := H.2.1
theorem Two.l {w0 wr : World} {g h : Nat} {t : TypeId} {k : IntKind} {v : List Nat} (H : Two w0 wr g h t k v) : Below w0.heap.size w0 wr := H.2.2.1
theorem Two.start (w : World) (t : TypeId) (k : IntKind) (v : List Nat) : Two w ((w.alloc (.cells (wds k v) t)).alloc (.cells (wds k zeros5) t)) w.heap.size (w.heap.size + 1) t k v :=
  ⟨(Blk.new _ _ _).alloc _, Blk.new' _ _ _ _ (by simp), below_alloc (below_alloc (Below.refl _ _) _) _, Nat.succ_ne_self _, Nat.le_refl _⟩
theorem Two.set {w0 wr : World} {g h : Nat} {t : TypeId} {k : IntKind} {v : List Nat} (H : Two w0 wr g h t k v) (i n : Nat) : Two w0 (wr.setCell ⟨g, i, none⟩ (.int k (n : Int))) g h t k (v.set i n) :=
  ⟨H.1.wset i n, H.2.1.other _ H.2.2.2.1 _, H.2.2.1.setCell (p := ⟨g, i, none⟩) H.2.2.2.2 _, H.2.2.2⟩
theorem Two.eq {w0 wr : World} {g h : Nat} {t : TypeId} {k : IntKind} {v u : List Nat} (H : Two w0 wr g h t k v) (e : v = u) : Two w0 wr g h t k u := e ▸ H

set_option maxRecDepth 100000 in
set_option maxHeartbeats 4000000 in
theorem carried_calls (v : List Nat) (hv : L5 (2 ^ 60) v) (w : World) : Calls Try.prog 108 #[.agg (wds .u64 v)] w fun e w' => e = .returned (.agg (wds .u64 (carryN v 3))) ∧ Below w.heap.size w w' := by
  have HV := Lib.hid (carryN_60 v hv)
  have H3 := Lib.hid (carry3 v hv).1
  clear hv
  go_enter Try.func108, Try.ntmps108
  go_wp2
  go_loopg [5] 3 (fun gg s_ wr => ∃ j : Nat, s_ = .int .i64 j ∧ j ≤ 3 ∧ 3 ≤ gg + j ∧ Aside0 (Two w wr w.heap.size (w.heap.size + 1) 90 .u64 (carryN v j)))
  case atStart => exact ⟨0, rfl, by omega, by omega, ⟨Two.start w _ _ v⟩⟩
  case round =>
    obtain ⟨j, rfl, hj, hg, HT⟩ := hrel
    by_cases hlt : j < 3
    · have c1 : decide ((j : Int) < 3) = true := decide_eq_true (by omega)
      obtain ⟨a, b, c, d, e, hl, ha, hb, hc, hd, he⟩ := HV.out j hlt
      rw [hl] at HT
      obtain ⟨x0, x1, x2, x3, x4⟩ := HT.out.a.five
      obtain ⟨q0, r0, b1, q1, r1, c1', q2, r2, d1, q3, r3, e1, q4, r4, z, f, HN, wa, ⟨k1, k2⟩, ⟨l0, l1, l2⟩, ⟨m0, m1, m2⟩, ⟨n0, n1, n2⟩, ⟨o0, o1, o2⟩, ⟨p0, p1⟩⟩ := carr_u64 a b c d e ha hb hc hd he
      have HJ := Lib.hid (show carryN v (j + 1) = [f, r1, r2, r3, r4] by rw [carryN, hl]; exact HN.out)
      clear hl ha hb hc hd he HN
      go_wp2
      refine wp_loop_rounds 6 ?_
      repeat any_goals (rw [rounds_succ]; go_wp2)
      have T1 := Aside0.mk ((((((((((((HT.out.set 0 a).set 0 r0).set 1 b1).set 1 r1).set 2 c1').set 2 r2).set 3 d1).set 3 r3).set 4 e1).set 4 r4).set 0 f).eq HJ.out.symm)
      clear HT
      go_roundg (3 - (j + 1))
      case measure => omega
      case rel => exact ⟨j + 1, by go_num, by omega, by omega, T1⟩
    · have c1 : decide ((j : Int) < 3) = false := decide_eq_false (by omega)
      obtain rfl : j = 3 := by omega
      have hl5 := Lib.hid H3.out.length
      go_wp2_with (first | (refine wpList_load_row rfl 90 _ rfl w.heap.size rfl 90 (wds .u64 (carryN v 3)) (0, 0) _ HT.out.a Try.underlying90 rfl (info5u hl5.out) ?_) | (refine wpList_store_row rfl 90 _ _ rfl (w.heap.size + 1) (wds .u64 (carryN v 3)) rfl rfl 90 _ HT.out.z (info5u hl5.out) (by rw [wds_size, wds_size, hl5.out]; rfl) (wds_one _ _) ?_))
      refine ret_row (p := 2) (ty := 90) rfl (w.heap.size + 1) 90 (wds .u64 (carryN v 3)) _ rfl (HT.out.z.row _) Try.underlying90 rfl (info5u hl5.out) rfl ⟨rfl, below_setRow HT.out.l (Nat.le_succ _) _⟩

end Go.Proofs.Ytihpnededldedaa.Leaf
