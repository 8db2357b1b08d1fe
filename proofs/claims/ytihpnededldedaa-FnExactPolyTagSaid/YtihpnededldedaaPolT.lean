/-
  The program's product of limbs. Conditions: limbs below 2 to the 27 and below 2 to the 26.
-/
import Derived.Test.YtihpnededldedaaPolP
namespace Go.Proofs.Ytihpnededldedaa.Leaf
open Go.RowKit Go.Shelf Go.Proofs.YtihpnededldedaaW.PrintWords Go.Proofs.YtihpnededldedaaW.PrintLast Go.Proofs.YtihpnededldedaaW.PrintMore Go.Proofs.Ytihpnededldedaa.Pol

/-- Block g holds v, the next u, the next five zeros, the next s; all below is as it was. -/
def Quad (w0 wr : World) (g : Nat) (t : TypeId) (k : IntKind) (v u s : List Nat) : Prop := Blk wr g t (wds k v) ∧ Blk wr (g + 1) t (wds k u) ∧ Blk wr (g + 1 + 1) t (wds k zeros5) ∧ Blk wr (g + 1 + 1 + 1) t (wds k s) ∧ Below w0.heap.size w0 wr ∧ w0.heap.size = g
theorem Quad.start (w : World) (t : TypeId) (k : IntKind) (v u s : List Nat) : Quad w ((((w.alloc (.cells (wds k v) t)).alloc (.cells (wds k u) t)).alloc (.cells (wds k zeros5) t)).alloc (.cells (wds k s) t)) w.heap.size t k v u s :=
  ⟨(((Blk.new _ _ _).alloc _).alloc _).alloc _, ((Blk.new' _ _ _ _ (by simp)).alloc _).alloc _, (Blk.new' _ _ _ _ (by simp)).alloc _, Blk.new' _ _ _ _ (by simp), below_alloc (below_alloc (below_alloc (below_alloc (Below.refl _ _) _) _) _) _, rfl⟩
theorem Quad.set {w0 wr : World} {g : Nat} {t : TypeId} {k : IntKind} {v u s : List Nat} (H : Quad w0 wr g t k v u s) (i n : Nat) : Quad w0 (wr.setCell ⟨g + 1 + 1 + 1, i, none⟩ (.int k (n : Int))) g t k v u (s.set i n) :=
  ⟨H.1.other _ (by simp <;> omega) _, H.2.1.other _ (by simp <;> omega) _, H.2.2.1.other _ (by simp) _, H.2.2.2.1.wset i n, H.2.2.2.2.1.setCell (p := ⟨g + 1 + 1 + 1, i, none⟩) (by have := H.2.2.2.2.2; simp; omega) _, H.2.2.2.2.2⟩
theorem Quad.drewN {w0 wr : World} {g : Nat} {t : TypeId} {k : IntKind} {v u s : List Nat} (H : Quad w0 wr g t k v u s) (n : Nat) : Quad w0 (wr.drewN n) g t k v u s := ⟨H.1.drewN n, H.2.1.drewN n, H.2.2.1.drewN n, H.2.2.2.1.drewN n, Below_drewN H.2.2.2.2.1 n, H.2.2.2.2.2⟩
theorem Quad.eq {w0 wr : World} {g : Nat} {t : TypeId} {k : IntKind} {v u s s' : List Nat} (H : Quad w0 wr g t k v u s) (e : s = s') : Quad w0 wr g t k v u s' := e ▸ H
theorem five_u (a : Nat) (h : a < 67108864) : ∃ n : Nat, Hid (5 * a = n) ∧ IntKind.u64.wrap (5 * (a : Int)) = (n : Int) :=
  ⟨5 * a, Lib.hid rfl, by rw [wraps_u64 _ (by omega) (by omega)]; omega⟩
theorem mul_small (a b k : Nat) (ha : a < k) (hb : b < 67108864) (hk : k ≤ 134217728) : a * b < 2 ^ 53 := by
  have h1 : a * b < k * 67108864 := Nat.mul_lt_mul_of_lt_of_le ha (Nat.le_of_lt hb) (Nat.lt_of_le_of_lt (Nat.zero_le _) hb)
  omega
theorem wrap_mul (a b n : Nat) (h : a * b = n) (hn : n < 2 ^ 63) : IntKind.u64.wrap ((a : Int) * (b : Int)) = (n : Int) ∧ IntKind.i64.wrap ((a : Int) * (b : Int)) = (n : Int) := by
  rw [show (a : Int) * (b : Int) = (n : Int) by rw [← h]; push_cast; rfl]
  exact ⟨wraps_u64 _ (by omega) (by omega), wraps_i64 _ (by omega) (by omega)⟩
theorem mul_u (a b : Nat) (ha : a < 67108864) (hb : b < 67108864) : ∃ n : Nat, Hid (a * b = n) ∧ IntKind.u64.wrap ((a : Int) * (b : Int)) = (n : Int) ∧ n < 2 ^ 56 :=
  have h := mul_small a b _ ha hb (by decide)
  ⟨a * b, Lib.hid rfl, (wrap_mul a b _ rfl (Nat.lt_trans h (by decide))).1, Nat.lt_trans h (by decide)⟩
theorem mul5_u (f a b : Nat) (F : Hid (5 * a = f)) (ha : a < 67108864) (hb : b < 67108864) : ∃ n : Nat, Hid (5 * (a * b) = n) ∧ IntKind.u64.wrap ((f : Int) * (b : Int)) = (n : Int) ∧ n < 2 ^ 56 :=
  have h := mul_small a b _ ha hb (by decide)
  ⟨5 * (a * b), Lib.hid rfl, (wrap_mul f b _ (by rw [← F.out, Nat.mul_assoc]) (by omega)).1, by omega⟩
theorem sum_u (k s p : Nat) (hs : s < k * 2 ^ 56) (hp : p < 2 ^ 56) (hk : k ≤ 10) : ∃ n : Nat, Hid (s + p = n) ∧ IntKind.u64.wrap ((s : Int) + (p : Int)) = (n : Int) ∧ n < (k + 1) * 2 ^ 56 :=
  ⟨s + p, Lib.hid rfl, add_w64 _ _ _ rfl (by omega), by omega⟩
theorem keep_u (p : Nat) (hp : p < 2 ^ 56) : IntKind.u64.wrap (p : Int) = (p : Int) := wraps_u64 _ (by omega) (by omega)
theorem mul_i (a b : Nat) (ha : a < 134217728) (hb : b < 67108864) : ∃ n : Nat, Hid (a * b = n) ∧ IntKind.i64.wrap ((a : Int) * (b : Int)) = (n : Int) ∧ n < 2 ^ 53 :=
  have h := mul_small a b _ ha hb (by decide)
  ⟨a * b, Lib.hid rfl, (wrap_mul a b _ rfl (Nat.lt_trans h (by decide))).2, h⟩
theorem five_i (p : Nat) (h : p < 2 ^ 53) : ∃ n : Nat, Hid (5 * p = n) ∧ wrap64 ((p : Int) * 5) = (n : Int) ∧ n < 2 ^ 56 :=
  ⟨5 * p, Lib.hid rfl, by rw [wrap_ok _ (by omega) (by omega)]; omega, by omega⟩
theorem sum_i (k s p : Nat) (hs : s < k * 2 ^ 56) (hp : p < 2 ^ 56) (hk : k ≤ 10) : ∃ n : Nat, Hid (s + p = n) ∧ wrap64 ((s : Int) + (p : Int)) = (n : Int) ∧ n < (k + 1) * 2 ^ 56 :=
  ⟨s + p, Lib.hid rfl, by rw [wrap_ok _ (by omega) (by omega)]; omega, by omega⟩
theorem keep_i (p : Nat) (hp : p < 2 ^ 56) : ∃ n : Nat, Hid (p = n) ∧ (wrap64 (p : Int) = (n : Int) ∧ IntKind.i64.wrap (p : Int) = (n : Int) ∧ wrap64 (0 + (p : Int)) = (n : Int) ∧ IntKind.i64.wrap (0 + (p : Int)) = (n : Int)) ∧ n < 2 ^ 56 :=
  ⟨p, Lib.hid rfl, ⟨wrap_ok _ (by omega) (by omega), wraps_i64 _ (by omega) (by omega), by rw [Int.zero_add]; exact wrap_ok _ (by omega) (by omega), by rw [Int.zero_add]; exact wraps_i64 _ (by omega) (by omega)⟩, hp⟩
theorem up53 {p : Nat} (h : p < 2 ^ 53) : p < 2 ^ 56 := Nat.lt_trans h (by decide)
theorem up1 {p : Nat} (h : p < 2 ^ 56) : p < 1 * 2 ^ 56 := by omega

set_option maxRecDepth 100000 in
set_option maxHeartbeats 32000000 in
theorem times_calls (v u : List Nat) (hv : L5 67108864 v) (hu : L5 67108864 u) (w : World) : Calls Try.prog 90 #[.agg (wds .u64 v), .agg (wds .u64 u)] w fun e w' => e = .returned (.agg (wds .u64 (carryN (mulL v u) 3))) ∧ Below w.heap.size w w' := by
  have C := fun W => carried_calls (mulL v u) (mulL_ok (hv.mono (by decide)) hu).1 W
  have H3 := Lib.hid (carry3 (mulL v u) (mulL_ok (hv.mono (by decide)) hu).1).1
  have HA := Lib.hid (mulL_ok (hv.mono (by decide)) hu).1.length
  obtain ⟨a, b, c, d, e, rfl, ha, hb, hc, hd, he⟩ := hv
  obtain ⟨r, s, t, x, y, rfl, hr, hs, ht, hx, hy⟩ := hu
  obtain ⟨f1, F1, g1⟩ := five_u b hb
  obtain ⟨f2, F2, g2⟩ := five_u c hc
  obtain ⟨f3, F3, g3⟩ := five_u d hd
  obtain ⟨f4, F4, g4⟩ := five_u e he
  obtain ⟨p00, P00, w00, b00⟩ := mul_u a r ha hr
  have k00 := keep_u p00 b00
  obtain ⟨p01, P01, w01, b01⟩ := mul_u a s ha hs
  have k01 := keep_u p01 b01
  obtain ⟨p02, P02, w02, b02⟩ := mul_u a t ha ht
  have k02 := keep_u p02 b02
  obtain ⟨p03, P03, w03, b03⟩ := mul_u a x ha hx
  have k03 := keep_u p03 b03
  obtain ⟨p04, P04, w04, b04⟩ := mul_u a y ha hy
  have k04 := keep_u p04 b04
  obtain ⟨p10, P10, w10, b10⟩ := mul_u b r hb hr
  obtain ⟨s10, S10, t10, c10⟩ := sum_u 1 p01 p10 (up1 b01) b10 (by decide)
  obtain ⟨p11, P11, w11, b11⟩ := mul_u b s hb hs
  obtain ⟨s11, S11, t11, c11⟩ := sum_u 1 p02 p11 (up1 b02) b11 (by decide)
  obtain ⟨p12, P12, w12, b12⟩ := mul_u b t hb ht
  obtain ⟨s12, S12, t12, c12⟩ := sum_u 1 p03 p12 (up1 b03) b12 (by decide)
  obtain ⟨p13, P13, w13, b13⟩ := mul_u b x hb hx
  obtain ⟨s13, S13, t13, c13⟩ := sum_u 1 p04 p13 (up1 b04) b13 (by decide)
  obtain ⟨p14, P14, w14, b14⟩ := mul5_u f1 b y F1 hb hy
  obtain ⟨s14, S14, t14, c14⟩ := sum_u 1 p00 p14 (up1 b00) b14 (by decide)
  obtain ⟨p20, P20, w20, b20⟩ := mul_u c r hc hr
  obtain ⟨s20, S20, t20, c20⟩ := sum_u 2 s11 p20 c11 b20 (by decide)
  obtain ⟨p21, P21, w21, b21⟩ := mul_u c s hc hs
  obtain ⟨s21, S21, t21, c21⟩ := sum_u 2 s12 p21 c12 b21 (by decide)
  obtain ⟨p22, P22, w22, b22⟩ := mul_u c t hc ht
  obtain ⟨s22, S22, t22, c22⟩ := sum_u 2 s13 p22 c13 b22 (by decide)
  obtain ⟨p23, P23, w23, b23⟩ := mul5_u f2 c x F2 hc hx
  obtain ⟨s23, S23, t23, c23⟩ := sum_u 2 s14 p23 c14 b23 (by decide)
  obtain ⟨p24, P24, w24, b24⟩ := mul5_u f2 c y F2 hc hy
  obtain ⟨s24, S24, t24, c24⟩ := sum_u 2 s10 p24 c10 b24 (by decide)
  obtain ⟨p30, P30, w30, b30⟩ := mul_u d r hd hr
  obtain ⟨s30, S30, t30, c30⟩ := sum_u 3 s21 p30 c21 b30 (by decide)
  obtain ⟨p31, P31, w31, b31⟩ := mul_u d s hd hs
  obtain ⟨s31, S31, t31, c31⟩ := sum_u 3 s22 p31 c22 b31 (by decide)
  obtain ⟨p32, P32, w32, b32⟩ := mul5_u f3 d t F3 hd ht
  obtain ⟨s32, S32, t32, c32⟩ := sum_u 3 s23 p32 c23 b32 (by decide)
  obtain ⟨p33, P33, w33, b33⟩ := mul5_u f3 d x F3 hd hx
  obtain ⟨s33, S33, t33, c33⟩ := sum_u 3 s24 p33 c24 b33 (by decide)
  obtain ⟨p34, P34, w34, b34⟩ := mul5_u f3 d y F3 hd hy
  obtain ⟨s34, S34, t34, c34⟩ := sum_u 3 s20 p34 c20 b34 (by decide)
  obtain ⟨p40, P40, w40, b40⟩ := mul_u e r he hr
  obtain ⟨s40, S40, t40, c40⟩ := sum_u 4 s31 p40 c31 b40 (by decide)
  obtain ⟨p41, P41, w41, b41⟩ := mul5_u f4 e s F4 he hs
  obtain ⟨s41, S41, t41, c41⟩ := sum_u 4 s32 p41 c32 b41 (by decide)
  obtain ⟨p42, P42, w42, b42⟩ := mul5_u f4 e t F4 he ht
  obtain ⟨s42, S42, t42, c42⟩ := sum_u 4 s33 p42 c33 b42 (by decide)
  obtain ⟨p43, P43, w43, b43⟩ := mul5_u f4 e x F4 he hx
  obtain ⟨s43, S43, t43, c43⟩ := sum_u 4 s34 p43 c34 b43 (by decide)
  obtain ⟨p44, P44, w44, b44⟩ := mul5_u f4 e y F4 he hy
  obtain ⟨s44, S44, t44, c44⟩ := sum_u 4 s30 p44 c30 b44 (by decide)
  have HE := Lib.hid (show mulL [a, b, c, d, e] [r, s, t, x, y] = [s41, s42, s43, s44, s40] by
    clear C H3 HA g1 g2 g3 g4 w00 b00 k00 w01 b01 k01 w02 b02 k02 w03 b03 k03 w04 b04 k04 w10 b10 t10 c10 w11 b11 t11 c11 w12 b12 t12 c12 w13 b13 t13 c13 w14 b14 t14 c14 w20 b20 t20 c20 w21 b21 t21 c21 w22 b22 t22 c22 w23 b23 t23 c23 w24 b24 t24 c24 w30 b30 t30 c30 w31 b31 t31 c31 w32 b32 t32 c32 w33 b33 t33 c33 w34 b34 t34 c34 w40 b40 t40 c40 w41 b41 t41 c41 w42 b42 t42 c42 w43 b43 t43 c43 w44 b44 t44 c44
    simp only [mulL, mulr, List.cons.injEq, and_true]
    refine ⟨?_, ?_, ?_, ?_, ?_⟩
    · have := P00.out; have := P14.out; have := S14.out; have := P23.out; have := S23.out; have := P32.out; have := S32.out; have := P41.out; have := S41.out; omega
    · have := P01.out; have := P10.out; have := S10.out; have := P24.out; have := S24.out; have := P33.out; have := S33.out; have := P42.out; have := S42.out; omega
    · have := P02.out; have := P11.out; have := S11.out; have := P20.out; have := S20.out; have := P34.out; have := S34.out; have := P43.out; have := S43.out; omega
    · have := P03.out; have := P12.out; have := S12.out; have := P21.out; have := S21.out; have := P30.out; have := S30.out; have := P44.out; have := S44.out; omega
    · have := P04.out; have := P13.out; have := S13.out; have := P22.out; have := S22.out; have := P31.out; have := S31.out; have := P40.out; have := S40.out; omega)
  clear ha hb hc hd he hr hs ht hx hy F1 F2 F3 F4 P00 b00 P01 b01 P02 b02 P03 b03 P04 b04 P10 b10 S10 c10 P11 b11 S11 c11 P12 b12 S12 c12 P13 b13 S13 c13 P14 b14 S14 c14 P20 b20 S20 c20 P21 b21 S21 c21 P22 b22 S22 c22 P23 b23 S23 c23 P24 b24 S24 c24 P30 b30 S30 c30 P31 b31 S31 c31 P32 b32 S32 c32 P33 b33 S33 c33 P34 b34 S34 c34 P40 b40 S40 c40 P41 b41 S41 c41 P42 b42 S42 c42 P43 b43 S43 c43 P44 b44 S44 c44
  generalize mulL [a, b, c, d, e] [r, s, t, x, y] = q at C H3 HA HE
  have HS := Aside0.mk (Quad.start w 90 .u64 [a, b, c, d, e] [r, s, t, x, y] zeros5)
  have il0 : ∀ W, (Instr.index 90 (.agg #[.int .u64 a, .int .u64 b, .int .u64 c, .int .u64 d, .int .u64 e]) (.int .i64 0)).run Try.prog W = .ok (.int .u64 (a : Int)) W := fun W => by kernel_rfl
  have il1 : ∀ W, (Instr.index 90 (.agg #[.int .u64 a, .int .u64 b, .int .u64 c, .int .u64 d, .int .u64 e]) (.int .i64 1)).run Try.prog W = .ok (.int .u64 (b : Int)) W := fun W => by kernel_rfl
  have il2 : ∀ W, (Instr.index 90 (.agg #[.int .u64 a, .int .u64 b, .int .u64 c, .int .u64 d, .int .u64 e]) (.int .i64 2)).run Try.prog W = .ok (.int .u64 (c : Int)) W := fun W => by kernel_rfl
  have il3 : ∀ W, (Instr.index 90 (.agg #[.int .u64 a, .int .u64 b, .int .u64 c, .int .u64 d, .int .u64 e]) (.int .i64 3)).run Try.prog W = .ok (.int .u64 (d : Int)) W := fun W => by kernel_rfl
  have il4 : ∀ W, (Instr.index 90 (.agg #[.int .u64 a, .int .u64 b, .int .u64 c, .int .u64 d, .int .u64 e]) (.int .i64 4)).run Try.prog W = .ok (.int .u64 (e : Int)) W := fun W => by kernel_rfl
  have ir0 : ∀ W, (Instr.index 90 (.agg #[.int .u64 r, .int .u64 s, .int .u64 t, .int .u64 x, .int .u64 y]) (.int .i64 0)).run Try.prog W = .ok (.int .u64 (r : Int)) W := fun W => by kernel_rfl
  have ir1 : ∀ W, (Instr.index 90 (.agg #[.int .u64 r, .int .u64 s, .int .u64 t, .int .u64 x, .int .u64 y]) (.int .i64 1)).run Try.prog W = .ok (.int .u64 (s : Int)) W := fun W => by kernel_rfl
  have ir2 : ∀ W, (Instr.index 90 (.agg #[.int .u64 r, .int .u64 s, .int .u64 t, .int .u64 x, .int .u64 y]) (.int .i64 2)).run Try.prog W = .ok (.int .u64 (t : Int)) W := fun W => by kernel_rfl
  have ir3 : ∀ W, (Instr.index 90 (.agg #[.int .u64 r, .int .u64 s, .int .u64 t, .int .u64 x, .int .u64 y]) (.int .i64 3)).run Try.prog W = .ok (.int .u64 (x : Int)) W := fun W => by kernel_rfl
  have ir4 : ∀ W, (Instr.index 90 (.agg #[.int .u64 r, .int .u64 s, .int .u64 t, .int .u64 x, .int .u64 y]) (.int .i64 4)).run Try.prog W = .ok (.int .u64 (y : Int)) W := fun W => by kernel_rfl
  have HS1 : Aside0 (Blk _ w.heap.size 90 #[.int .u64 a, .int .u64 b, .int .u64 c, .int .u64 d, .int .u64 e]) := ⟨HS.out.1⟩
  go_enter Try.func90, Try.ntmps90
  refine wp_hide ?_
  intro Qx hQx
  have HQ := Lib.hid hQx
  clear hQx
  go_wp2_with (refine wpList_load_row rfl 90 _ rfl w.heap.size rfl 90 #[.int .u64 a, .int .u64 b, .int .u64 c, .int .u64 d, .int .u64 e] (0, 0) _ HS1.out Try.underlying90 rfl (by kernel_rfl) ?_)
  refine wp_world (fun W => Quad w W w.heap.size 90 .u64 [a, b, c, d, e] [r, s, t, x, y] [0, 0, 0, 0, 0]) HS.out ?_
  intro wb HW
  have HT := Aside0.mk HW
  clear HW HS HS1
  refine wp_loop_rounds 6 ?_
  have HR1 : Aside0 (Blk wb (w.heap.size + 1) 90 #[.int .u64 r, .int .u64 s, .int .u64 t, .int .u64 x, .int .u64 y]) := ⟨HT.out.2.1⟩
  obtain ⟨x0, x1, x2, x3, x4⟩ := HT.out.2.2.2.1.five
  rw [rounds_succ]; go_wp2_with (refine wpList_load_row rfl 90 _ rfl (w.heap.size + 1) rfl 90 #[.int .u64 r, .int .u64 s, .int .u64 t, .int .u64 x, .int .u64 y] (0, 0) _ HR1.out Try.underlying90 rfl (by kernel_rfl) ?_)
  refine wp_loop_rounds 6 ?_
  iterate 6 (rw [rounds_succ]; go_wp2)
  have HT1 := Aside0.mk ((((((HT.out.set 0 p00).set 1 p01).set 2 p02).set 3 p03).set 4 p04).eq (show _ = [p00, p01, p02, p03, p04] from rfl))
  clear x0 x1 x2 x3 x4 HT HR1
  generalize (((((wb.setCell ⟨w.heap.size + 1 + 1 + 1, 0, none⟩ (.int .u64 (p00 : Int))).setCell ⟨w.heap.size + 1 + 1 + 1, 1, none⟩ (.int .u64 (p01 : Int))).setCell ⟨w.heap.size + 1 + 1 + 1, 2, none⟩ (.int .u64 (p02 : Int))).setCell ⟨w.heap.size + 1 + 1 + 1, 3, none⟩ (.int .u64 (p03 : Int))).setCell ⟨w.heap.size + 1 + 1 + 1, 4, none⟩ (.int .u64 (p04 : Int))) = wb0 at HT1 ⊢
  have HT := HT1
  clear HT1
  have HR1 : Aside0 (Blk wb0 (w.heap.size + 1) 90 #[.int .u64 r, .int .u64 s, .int .u64 t, .int .u64 x, .int .u64 y]) := ⟨HT.out.2.1⟩
  obtain ⟨x0, x1, x2, x3, x4⟩ := HT.out.2.2.2.1.five
  rw [rounds_succ]; go_wp2_with (refine wpList_load_row rfl 90 _ rfl (w.heap.size + 1) rfl 90 #[.int .u64 r, .int .u64 s, .int .u64 t, .int .u64 x, .int .u64 y] (0, 0) _ HR1.out Try.underlying90 rfl (by kernel_rfl) ?_)
  refine wp_loop_rounds 6 ?_
  iterate 6 (rw [rounds_succ]; go_wp2)
  have HT1 := Aside0.mk ((((((HT.out.set 1 s10).set 2 s11).set 3 s12).set 4 s13).set 0 s14).eq (show _ = [s14, s10, s11, s12, s13] from rfl))
  clear x0 x1 x2 x3 x4 HT HR1
  generalize (((((wb0.setCell ⟨w.heap.size + 1 + 1 + 1, 1, none⟩ (.int .u64 (s10 : Int))).setCell ⟨w.heap.size + 1 + 1 + 1, 2, none⟩ (.int .u64 (s11 : Int))).setCell ⟨w.heap.size + 1 + 1 + 1, 3, none⟩ (.int .u64 (s12 : Int))).setCell ⟨w.heap.size + 1 + 1 + 1, 4, none⟩ (.int .u64 (s13 : Int))).setCell ⟨w.heap.size + 1 + 1 + 1, 0, none⟩ (.int .u64 (s14 : Int))) = wb1 at HT1 ⊢
  have HT := HT1
  clear HT1
  have HR1 : Aside0 (Blk wb1 (w.heap.size + 1) 90 #[.int .u64 r, .int .u64 s, .int .u64 t, .int .u64 x, .int .u64 y]) := ⟨HT.out.2.1⟩
  obtain ⟨x0, x1, x2, x3, x4⟩ := HT.out.2.2.2.1.five
  rw [rounds_succ]; go_wp2_with (refine wpList_load_row rfl 90 _ rfl (w.heap.size + 1) rfl 90 #[.int .u64 r, .int .u64 s, .int .u64 t, .int .u64 x, .int .u64 y] (0, 0) _ HR1.out Try.underlying90 rfl (by kernel_rfl) ?_)
  refine wp_loop_rounds 6 ?_
  iterate 6 (rw [rounds_succ]; go_wp2)
  have HT1 := Aside0.mk ((((((HT.out.set 2 s20).set 3 s21).set 4 s22).set 0 s23).set 1 s24).eq (show _ = [s23, s24, s20, s21, s22] from rfl))
  clear x0 x1 x2 x3 x4 HT HR1
  generalize (((((wb1.setCell ⟨w.heap.size + 1 + 1 + 1, 2, none⟩ (.int .u64 (s20 : Int))).setCell ⟨w.heap.size + 1 + 1 + 1, 3, none⟩ (.int .u64 (s21 : Int))).setCell ⟨w.heap.size + 1 + 1 + 1, 4, none⟩ (.int .u64 (s22 : Int))).setCell ⟨w.heap.size + 1 + 1 + 1, 0, none⟩ (.int .u64 (s23 : Int))).setCell ⟨w.heap.size + 1 + 1 + 1, 1, none⟩ (.int .u64 (s24 : Int))) = wb2 at HT1 ⊢
  have HT := HT1
  clear HT1
  have HR1 : Aside0 (Blk wb2 (w.heap.size + 1) 90 #[.int .u64 r, .int .u64 s, .int .u64 t, .int .u64 x, .int .u64 y]) := ⟨HT.out.2.1⟩
  obtain ⟨x0, x1, x2, x3, x4⟩ := HT.out.2.2.2.1.five
  rw [rounds_succ]; go_wp2_with (refine wpList_load_row rfl 90 _ rfl (w.heap.size + 1) rfl 90 #[.int .u64 r, .int .u64 s, .int .u64 t, .int .u64 x, .int .u64 y] (0, 0) _ HR1.out Try.underlying90 rfl (by kernel_rfl) ?_)
  refine wp_loop_rounds 6 ?_
  iterate 6 (rw [rounds_succ]; go_wp2)
  have HT1 := Aside0.mk ((((((HT.out.set 3 s30).set 4 s31).set 0 s32).set 1 s33).set 2 s34).eq (show _ = [s32, s33, s34, s30, s31] from rfl))
  clear x0 x1 x2 x3 x4 HT HR1
  generalize (((((wb2.setCell ⟨w.heap.size + 1 + 1 + 1, 3, none⟩ (.int .u64 (s30 : Int))).setCell ⟨w.heap.size + 1 + 1 + 1, 4, none⟩ (.int .u64 (s31 : Int))).setCell ⟨w.heap.size + 1 + 1 + 1, 0, none⟩ (.int .u64 (s32 : Int))).setCell ⟨w.heap.size + 1 + 1 + 1, 1, none⟩ (.int .u64 (s33 : Int))).setCell ⟨w.heap.size + 1 + 1 + 1, 2, none⟩ (.int .u64 (s34 : Int))) = wb3 at HT1 ⊢
  have HT := HT1
  clear HT1
  have HR1 : Aside0 (Blk wb3 (w.heap.size + 1) 90 #[.int .u64 r, .int .u64 s, .int .u64 t, .int .u64 x, .int .u64 y]) := ⟨HT.out.2.1⟩
  obtain ⟨x0, x1, x2, x3, x4⟩ := HT.out.2.2.2.1.five
  rw [rounds_succ]; go_wp2_with (refine wpList_load_row rfl 90 _ rfl (w.heap.size + 1) rfl 90 #[.int .u64 r, .int .u64 s, .int .u64 t, .int .u64 x, .int .u64 y] (0, 0) _ HR1.out Try.underlying90 rfl (by kernel_rfl) ?_)
  refine wp_loop_rounds 6 ?_
  iterate 6 (rw [rounds_succ]; go_wp2)
  have HT1 := Aside0.mk ((((((HT.out.set 4 s40).set 0 s41).set 1 s42).set 2 s43).set 3 s44).eq (show _ = [s41, s42, s43, s44, s40] from rfl))
  clear x0 x1 x2 x3 x4 HT HR1
  generalize (((((wb3.setCell ⟨w.heap.size + 1 + 1 + 1, 4, none⟩ (.int .u64 (s40 : Int))).setCell ⟨w.heap.size + 1 + 1 + 1, 0, none⟩ (.int .u64 (s41 : Int))).setCell ⟨w.heap.size + 1 + 1 + 1, 1, none⟩ (.int .u64 (s42 : Int))).setCell ⟨w.heap.size + 1 + 1 + 1, 2, none⟩ (.int .u64 (s43 : Int))).setCell ⟨w.heap.size + 1 + 1 + 1, 3, none⟩ (.int .u64 (s44 : Int))) = wb4 at HT1 ⊢
  have HT := HT1
  clear HT1
  rw [rounds_succ]
  have B3 := Aside0.mk (HT.out.eq HE.out.symm).2.2.2.1
  have B2 := Aside0.mk HT.out.2.2.1
  have BL := Aside0.mk HT.out.2.2.2.2.1
  have BG := Aside0.mk (show w.heap.size ≤ w.heap.size + 1 + 1 by omega)
  clear HT HE g1 g2 g3 g4 w00 k00 w01 k01 w02 k02 w03 k03 w04 k04 w10 t10 w11 t11 w12 t12 w13 t13 w14 t14 w20 t20 w21 t21 w22 t22 w23 t23 w24 t24 w30 t30 w31 t31 w32 t32 w33 t33 w34 t34 w40 t40 w41 t41 w42 t42 w43 t43 w44 t44 il0 il1 il2 il3 il4 ir0 ir1 ir2 ir3 ir4
  generalize w.heap.size + 1 + 1 + 1 = g3 at B3 ⊢
  generalize w.heap.size + 1 + 1 = g2 at B2 BG ⊢
  go_wp2_with (first | ((with_reducible refine wpList_load_row (o := ⟨some 48, .load 90 (.tmp 5), _, _, _, _⟩) ?l1a 90 (.tmp 5) ?l1b (g3) ?l1c 90 (wds .u64 q) (0, 0) ?l1z ?l1d ?l1e ?l1f ?l1g ?_); (case l1a => rfl); (case l1b => rfl); (case l1c => rfl); (case l1d => exact B3.out); (case l1e => exact Try.underlying90); (case l1f => rfl); (case l1g => exact info5u HA.out)) | (go_at_call 108; with_reducible refine (C _).mono ?_; rintro e1 w1 ⟨rfl, hb1⟩; replace hb1 := Aside0.mk hb1) | ((with_reducible refine wpList_store_row (o := ⟨none, .store 90 (.tmp 4) (.tmp 49), _, _, _, _⟩) ?s2a 90 (.tmp 4) (.tmp 49) ?s2b (g2) (wds .u64 (carryN q 3)) ?s2c ?s2d 90 (wds .u64 zeros5) ?s2e ?s2f ?s2g ?s2h ?_); (case s2a => rfl); (case s2b => rfl); (case s2c => rfl); (case s2d => rfl); (case s2e => exact (B2.out.below hb1.out)); (case s2f => exact info5u H3.out.length); (case s2g => rw [wds_size, wds_size, H3.out.length]; rfl); (case s2h => exact wds_one _ _)))
  refine HQ.out _ _ _ ?_
  refine ret_row (p := 4) (ty := 90) rfl g2 90 (wds .u64 (carryN q 3)) _ rfl ((B2.out.below hb1.out).row _) Try.underlying90 rfl (info5u H3.out.length) rfl ⟨rfl, below_setRow (BL.out.trans (hb1.out.mono BL.out.size)) BG.out _⟩

end Go.Proofs.Ytihpnededldedaa.Leaf
