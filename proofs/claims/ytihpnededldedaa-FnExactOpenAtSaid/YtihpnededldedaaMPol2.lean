/- Products of limbs. Conditions: bounds on the limbs. -/
import Derived.Test.YtihpnededldedaaMPol1
namespace Go.Proofs.Ytihpnededldedaa.Leaf

section
open Go.RowKit Go.Shelf Go.Proofs.YtihpnededldedaaW.PrintWords Go.Proofs.YtihpnededldedaaW.PrintLast Go.Proofs.YtihpnededldedaaW.PrintMore Go.Proofs.Ytihpnededldedaa.Pol

/-- Block g holds v, the next u, the next five zeros, the next s; all below is as it was. -/
def Quad (w0 wr : World) (g : Nat) (t : TypeId) (k : IntKind) (v u s : List Nat) : Prop := Blk wr g t (wds k v) ∧ Blk wr (g + 1) t (wds k u) ∧ Blk wr (g + 1 + 1) t (wds k zeros5) ∧ Blk wr (g + 1 + 1 + 1) t (wds k s) ∧ Below w0.heap.size w0 wr ∧ w0.heap.size = g
theorem Quad.start (w : World) (t : TypeId) (k : IntKind) (v u s : List Nat) : Quad w ((((w.alloc (.cells (wds k v) t)).alloc (.cells (wds k u) t)).alloc (.cells (wds k zeros5) t)).alloc (.cells (wds k s) t)) w.heap.size t k v u s :=
  ⟨(((Blk.new _ _ _).alloc _).alloc _).alloc _, ((Blk.new' _ _ _ _ (by simp)).alloc _).alloc _, (Blk.new' _ _ _ _ (by simp)).alloc _, Blk.new' _ _ _ _ (by simp), below_alloc (below_alloc (below_alloc (below_alloc (Below.refl _ _) _) _) _) _, rfl⟩
theorem Quad.set {w0 wr : World} {g : Nat} {t : TypeId} {k : IntKind} {v u s : List Nat} (H : Quad w0 wr g t k v u s) (i n : Nat) : Quad w0 (wr.setCell ⟨g + 1 + 1 + 1, i, none⟩ (.int k (n : Int))) g t k v u (s.set i n) :=
  ⟨H.1.other _ (by simp <;> omega) _, H.2.1.other _ (by simp <;> omega) _, H.2.2.1.other _ (by simp) _, H.2.2.2.1.wset i n, H.2.2.2.2.1.setCell (p := ⟨g + 1 + 1 + 1, i, none⟩) (by have := H.2.2.2.2.2; simp; omega) _, H.2.2.2.2.2⟩
theorem Quad.drewN {w0 wr : World} {g : Nat} {t : TypeId} {k : IntKind} {v u s : List Nat} (H : Quad w0 wr g t k v u s) (n : Nat) : Quad w0 (wr.drewN n) g t k v u s := ⟨H.1.drewN n, H.2.1.drewN n, H.2.2.1.drewN n, H.2.2.2.1.drewN n, Below_drewN H.2.2.2.2.1 n, H.2.2.2.2.2⟩
theorem Quad.eq {w0 wr : World} {g : Nat} {t : TypeId} {k : IntKind} {v u s s' : List Nat} (H : Quad w0 wr g t k v u s) (e : s = s') : Quad w0 wr g t k v u s' := e ▸ H
theorem five_u (a : Nat) (h : a < 67108864) : ∃ n : Nat, Hid (5 * a = n) ∧ IntKind.u64.wrap (5 * (a : Int)) = (n : Int) :=
  ⟨5 * a, Lib.hid rfl, by rw [wraps_u64 _ (by omega) (by omega)]; omega⟩
theorem mul_small (a b k : Nat) (ha : a < k) (hb : b < 67108864) (hk : k ≤ 134217728) : a * b < 2 ^ 53 := by
  have h1 : a * b < k * 67108864 := Nat.mul_lt_mul_of_lt_of_le ha (Nat.le_of_lt hb) (Nat.lt_of_le_of_lt (Nat.zero_le _) hb)
  omega
theorem wrap_mul (a b n : Nat) (h : a * b = n) (hn : n < 2 ^ 63) : IntKind.u64.wrap ((a : Int) * (b : Int)) = (n : Int) ∧ IntKind.i64.wrap ((a : Int) * (b : Int)) = (n : Int) := by
  rw [show (a : Int) * (b : Int) = (n : Int) by rw [← h]; push_cast; rfl]
  exact ⟨wraps_u64 _ (by omega) (by omega), wraps_i64 _ (by omega) (by omega)⟩
theorem mul_u (a b : Nat) (ha : a < 67108864) (hb : b < 67108864) : ∃ n : Nat, Hid (a * b = n) ∧ IntKind.u64.wrap ((a : Int) * (b : Int)) = (n : Int) ∧ n < 2 ^ 56 :=
  have h := mul_small a b _ ha hb (by decide)
  ⟨a * b, Lib.hid rfl, (wrap_mul a b _ rfl (Nat.lt_trans h (by decide))).1, Nat.lt_trans h (by decide)⟩
theorem mul5_u (f a b : Nat) (F : Hid (5 * a = f)) (ha : a < 67108864) (hb : b < 67108864) : ∃ n : Nat, Hid (5 * (a * b) = n) ∧ IntKind.u64.wrap ((f : Int) * (b : Int)) = (n : Int) ∧ n < 2 ^ 56 :=
  have h := mul_small a b _ ha hb (by decide)
  ⟨5 * (a * b), Lib.hid rfl, (wrap_mul f b _ (by rw [← F.out, Nat.mul_assoc]) (by omega)).1, by omega⟩
theorem sum_u (k s p : Nat) (hs : s < k * 2 ^ 56) (hp : p < 2 ^ 56) (hk : k ≤ 10) : ∃ n : Nat, Hid (s + p = n) ∧ IntKind.u64.wrap ((s : Int) + (p : Int)) = (n : Int) ∧ n < (k + 1) * 2 ^ 56 :=
  ⟨s + p, Lib.hid rfl, add_w64 _ _ _ rfl (by omega), by omega⟩
theorem keep_u (p : Nat) (hp : p < 2 ^ 56) : IntKind.u64.wrap (p : Int) = (p : Int) := wraps_u64 _ (by omega) (by omega)
theorem mul_i (a b : Nat) (ha : a < 134217728) (hb : b < 67108864) : ∃ n : Nat, Hid (a * b = n) ∧ IntKind.i64.wrap ((a : Int) * (b : Int)) = (n : Int) ∧ n < 2 ^ 53 :=
  have h := mul_small a b _ ha hb (by decide)
  ⟨a * b, Lib.hid rfl, (wrap_mul a b _ rfl (Nat.lt_trans h (by decide))).2, h⟩
theorem five_i (p : Nat) (h : p < 2 ^ 53) : ∃ n : Nat, Hid (5 * p = n) ∧ wrap64 ((p : Int) * 5) = (n : Int) ∧ n < 2 ^ 56 :=
  ⟨5 * p, Lib.hid rfl, by rw [wrap_ok _ (by omega) (by omega)]; omega, by omega⟩
theorem sum_i (k s p : Nat) (hs : s < k * 2 ^ 56) (hp : p < 2 ^ 56) (hk : k ≤ 10) : ∃ n : Nat, Hid (s + p = n) ∧ wrap64 ((s : Int) + (p : Int)) = (n : Int) ∧ n < (k + 1) * 2 ^ 56 :=
  ⟨s + p, Lib.hid rfl, by rw [wrap_ok _ (by omega) (by omega)]; omega, by omega⟩
theorem keep_i (p : Nat) (hp : p < 2 ^ 56) : ∃ n : Nat, Hid (p = n) ∧ (wrap64 (p : Int) = (n : Int) ∧ IntKind.i64.wrap (p : Int) = (n : Int) ∧ wrap64 (0 + (p : Int)) = (n : Int) ∧ IntKind.i64.wrap (0 + (p : Int)) = (n : Int)) ∧ n < 2 ^ 56 :=
  ⟨p, Lib.hid rfl, ⟨wrap_ok _ (by omega) (by omega), wraps_i64 _ (by omega) (by omega), by rw [Int.zero_add]; exact wrap_ok _ (by omega) (by omega), by rw [Int.zero_add]; exact wraps_i64 _ (by omega) (by omega)⟩, hp⟩
theorem up53 {p : Nat} (h : p < 2 ^ 53) : p < 2 ^ 56 := Nat.lt_trans h (by decide)
theorem up1 {p : Nat} (h : p < 2 ^ 56) : p < 1 * 2 ^ 56 := by omega

set_option maxRecDepth 100000 in
set_option maxHeartbeats 32000000 in
theorem times_calls (v u : List Nat) (hv : L5 67108864 v) (hu : L5 67108864 u) (w : World) : Calls Try.prog 90 #[.agg (wds .u64 v), .agg (wds .u64 u)] w fun e w' => e = .returned (.agg (wds .u64 (carryN (mulL v u) 3))) ∧ Below w.heap.size w w' := by
  have C := fun W => carried_calls (mulL v u) (mulL_ok (hv.mono (by decide)) hu).1 W
  have H3 := Lib.hid (carry3 (mulL v u) (mulL_ok (hv.mono (by decide)) hu).1).1
  have HA := Lib.hid (mulL_ok (hv.mono (by decide)) hu).1.length
  obtain ⟨a, b, c, d, e, rfl, ha, hb, hc, hd, he⟩ := hv
  obtain ⟨r, s, t, x, y, rfl, hr, hs, ht, hx, hy⟩ := hu
  obtain ⟨f1, F1, g1⟩ := five_u b hb
  obtain ⟨f2, F2, g2⟩ := five_u c hc
  obtain ⟨f3, F3, g3⟩ := five_u d hd
  obtain ⟨f4, F4, g4⟩ := five_u e he
  obtain ⟨p00, P00, w00, b00⟩ := mul_u a r ha hr
  have k00 := keep_u p00 b00
  obtain ⟨p01, P01, w01, b01⟩ := mul_u a s ha hs
  have k01 := keep_u p01 b01
  obtain ⟨p02, P02, w02, b02⟩ := mul_u a t ha ht
  have k02 := keep_u p02 b02
  obtain ⟨p03, P03, w03, b03⟩ := mul_u a x ha hx
  have k03 := keep_u p03 b03
  obtain ⟨p04, P04, w04, b04⟩ := mul_u a y ha hy
  have k04 := keep_u p04 b04
  obtain ⟨p10, P10, w10, b10⟩ := mul_u b r hb hr
  obtain ⟨s10, S10, t10, c10⟩ := sum_u 1 p01 p10 (up1 b01) b10 (by decide)
  obtain ⟨p11, P11, w11, b11⟩ := mul_u b s hb hs
  obtain ⟨s11, S11, t11, c11⟩ := sum_u 1 p02 p11 (up1 b02) b11 (by decide)
  obtain ⟨p12, P12, w12, b12⟩ := mul_u b t hb ht
  obtain ⟨s12, S12, t12, c12⟩ := sum_u 1 p03 p12 (up1 b03) b12 (by decide)
  obtain ⟨p13, P13, w13, b13⟩ := mul_u b x hb hx
  obtain ⟨s13, S13, t13, c13⟩ := sum_u 1 p04 p13 (up1 b04) b13 (by decide)
  obtain ⟨p14, P14, w14, b14⟩ := mul5_u f1 b y F1 hb hy
  obtain ⟨s14, S14, t14, c14⟩ := sum_u 1 p00 p14 (up1 b00) b14 (by decide)
  obtain ⟨p20, P20, w20, b20⟩ := mul_u c r hc hr
  obtain ⟨s20, S20, t20, c20⟩ := sum_u 2 s11 p20 c11 b20 (by decide)
  obtain ⟨p21, P21, w21, b21⟩ := mul_u c s hc hs
  obtain ⟨s21, S21, t21, c21⟩ := sum_u 2 s12 p21 c12 b21 (by decide)
  obtain ⟨p22, P22, w22, b22⟩ := mul_u c t hc ht
  obtain ⟨s22, S22, t22, c22⟩ := sum_u 2 s13 p22 c13 b22 (by decide)
  obtain ⟨p23, P23, w23, b23⟩ := mul5_u f2 c x F2 hc hx
  obtain ⟨s23, S23, t23, c23⟩ := sum_u 2 s14 p23 c14 b23 (by decide)
  obtain ⟨p24, P24, w24, b24⟩ := mul5_u f2 c y F2 hc hy
  obtain ⟨s24, S24, t24, c24⟩ := sum_u 2 s10 p24 c10 b24 (by decide)
  obtain ⟨p30, P30, w30, b30⟩ := mul_u d r hd hr
  obtain ⟨s30, S30, t30, c30⟩ := sum_u 3 s21 p30 c21 b30 (by decide)
  obtain ⟨p31, P31, w31, b31⟩ := mul_u d s hd hs
  obtain ⟨s31, S31, t31, c31⟩ := sum_u 3 s22 p31 c22 b31 (by decide)
  obtain ⟨p32, P32, w32, b32⟩ := mul5_u f3 d t F3 hd ht
  obtain ⟨s32, S32, t32, c32⟩ := sum_u 3 s23 p32 c23 b32 (by decide)
  obtain ⟨p33, P33, w33, b33⟩ := mul5_u f3 d x F3 hd hx
  obtain ⟨s33, S33, t33, c33⟩ := sum_u 3 s24 p33 c24 b33 (by decide)
  obtain ⟨p34, P34, w34, b34⟩ := mul5_u f3 d y F3 hd hy
  obtain ⟨s34, S34, t34, c34⟩ := sum_u 3 s20 p34 c20 b34 (by decide)
  obtain ⟨p40, P40, w40, b40⟩ := mul_u e r he hr
  obtain ⟨s40, S40, t40, c40⟩ := sum_u 4 s31 p40 c31 b40 (by decide)
  obtain ⟨p41, P41, w41, b41⟩ := mul5_u f4 e s F4 he hs
  obtain ⟨s41, S41, t41, c41⟩ := sum_u 4 s32 p41 c32 b41 (by decide)
  obtain ⟨p42, P42, w42, b42⟩ := mul5_u f4 e t F4 he ht
  obtain ⟨s42, S42, t42, c42⟩ := sum_u 4 s33 p42 c33 b42 (by decide)
  obtain ⟨p43, P43, w43, b43⟩ := mul5_u f4 e x F4 he hx
  obtain ⟨s43, S43, t43, c43⟩ := sum_u 4 s34 p43 c34 b43 (by decide)
  obtain ⟨p44, P44, w44, b44⟩ := mul5_u f4 e y F4 he hy
  obtain ⟨s44, S44, t44, c44⟩ := sum_u 4 s30 p44 c30 b44 (by decide)
  have HE := Lib.hid (show mulL [a, b, c, d, e] [r, s, t, x, y] = [s41, s42, s43, s44, s40] by
    clear C H3 HA g1 g2 g3 g4 w00 b00 k00 w01 b01 k01 w02 b02 k02 w03 b03 k03 w04 b04 k04 w10 b10 t10 c10 w11 b11 t11 c11 w12 b12 t12 c12 w13 b13 t13 c13 w14 b14 t14 c14 w20 b20 t20 c20 w21 b21 t21 c21 w22 b22 t22 c22 w23 b23 t23 c23 w24 b24 t24 c24 w30 b30 t30 c30 w31 b31 t31 c31 w32 b32 t32 c32 w33 b33 t33 c33 w34 b34 t34 c34 w40 b40 t40 c40 w41 b41 t41 c41 w42 b42 t42 c42 w43 b43 t43 c43 w44 b44 t44 c44
    simp only [mulL, mulr, List.cons.injEq, and_true]
    refine ⟨?_, ?_, ?_, ?_, ?_⟩
    · have := P00.out; have := P14.out; have := S14.out; have := P23.out; have := S23.out; have := P32.out; have := S32.out; have := P41.out; have := S41.out; omega
    · have := P01.out; have := P10.out; have := S10.out; have := P24.out; have := S24.out; have := P33.out; have := S33.out; have := P42.out; have := S42.out; omega
    · have := P02.out; have := P11.out; have := S11.out; have := P20.out; have := S20.out; have := P34.out; have := S34.out; have := P43.out; have := S43.out; omega
    · have := P03.out; have := P12.out; have := S12.out; have := P21.out; have := S21.out; have := P30.out; have := S30.out; have := P44.out; have := S44.out; omega
    · have := P04.out; have := P13.out; have := S13.out; have := P22.out; have := S22.out; have := P31.out; have := S31.out; have := P40.out; have := S40.out; omega)
  clear ha hb hc hd he hr hs ht hx hy F1 F2 F3 F4 P00 b00 P01 b01 P02 b02 P03 b03 P04 b04 P10 b10 S10 c10 P11 b11 S11 c11 P12 b12 S12 c12 P13 b13 S13 c13 P14 b14 S14 c14 P20 b20 S20 c20 P21 b21 S21 c21 P22 b22 S22 c22 P23 b23 S23 c23 P24 b24 S24 c24 P30 b30 S30 c30 P31 b31 S31 c31 P32 b32 S32 c32 P33 b33 S33 c33 P34 b34 S34 c34 P40 b40 S40 c40 P41 b41 S41 c41 P42 b42 S42 c42 P43 b43 S43 c43 P44 b44 S44 c44
  generalize mulL [a, b, c, d, e] [r, s, t, x, y] = q at C H3 HA HE
  have HS := Aside0.mk (Quad.start w 90 .u64 [a, b, c, d, e] [r, s, t, x, y] zeros5)
  have il0 : ∀ W, (Instr.index 90 (.agg #[.int .u64 a, .int .u64 b, .int .u64 c, .int .u64 d, .int .u64 e]) (.int .i64 0)).run Try.prog W = .ok (.int .u64 (a : Int)) W := fun W => by kernel_rfl
  have il1 : ∀ W, (Instr.index 90 (.agg #[.int .u64 a, .int .u64 b, .int .u64 c, .int .u64 d, .int .u64 e]) (.int .i64 1)).run Try.prog W = .ok (.int .u64 (b : Int)) W := fun W => by kernel_rfl
  have il2 : ∀ W, (Instr.index 90 (.agg #[.int .u64 a, .int .u64 b, .int .u64 c, .int .u64 d, .int .u64 e]) (.int .i64 2)).run Try.prog W = .ok (.int .u64 (c : Int)) W := fun W => by kernel_rfl
  have il3 : ∀ W, (Instr.index 90 (.agg #[.int .u64 a, .int .u64 b, .int .u64 c, .int .u64 d, .int .u64 e]) (.int .i64 3)).run Try.prog W = .ok (.int .u64 (d : Int)) W := fun W => by kernel_rfl
  have il4 : ∀ W, (Instr.index 90 (.agg #[.int .u64 a, .int .u64 b, .int .u64 c, .int .u64 d, .int .u64 e]) (.int .i64 4)).run Try.prog W = .ok (.int .u64 (e : Int)) W := fun W => by kernel_rfl
  have ir0 : ∀ W, (Instr.index 90 (.agg #[.int .u64 r, .int .u64 s, .int .u64 t, .int .u64 x, .int .u64 y]) (.int .i64 0)).run Try.prog W = .ok (.int .u64 (r : Int)) W := fun W => by kernel_rfl
  have ir1 : ∀ W, (Instr.index 90 (.agg #[.int .u64 r, .int .u64 s, .int .u64 t, .int .u64 x, .int .u64 y]) (.int .i64 1)).run Try.prog W = .ok (.int .u64 (s : Int)) W := fun W => by kernel_rfl
  have ir2 : ∀ W, (Instr.index 90 (.agg #[.int .u64 r, .int .u64 s, .int .u64 t, .int .u64 x, .int .u64 y]) (.int .i64 2)).run Try.prog W = .ok (.int .u64 (t : Int)) W := fun W => by kernel_rfl
  have ir3 : ∀ W, (Instr.index 90 (.agg #[.int .u64 r, .int .u64 s, .int .u64 t, .int .u64 x, .int .u64 y]) (.int .i64 3)).run Try.prog W = .ok (.int .u64 (x : Int)) W := fun W => by kernel_rfl
  have ir4 : ∀ W, (Instr.index 90 (.agg #[.int .u64 r, .int .u64 s, .int .u64 t, .int .u64 x, .int .u64 y]) (.int .i64 4)).run Try.prog W = .ok (.int .u64 (y : Int)) W := fun W => by kernel_rfl
  have HS1 : Aside0 (Blk _ w.heap.size 90 #[.int .u64 a, .int .u64 b, .int .u64 c, .int .u64 d, .int .u64 e]) := ⟨HS.out.1⟩
  go_enter Try.func90, Try.ntmps90
  refine wp_hide ?_
  intro Qx hQx
  have HQ := Lib.hid hQx
  clear hQx
  go_wp2_with (refine wpList_load_row rfl 90 _ rfl w.heap.size rfl 90 #[.int .u64 a, .int .u64 b, .int .u64 c, .int .u64 d, .int .u64 e] (0, 0) _ HS1.out Try.underlying90 rfl (by kernel_rfl) ?_)
  refine wp_world (fun W => Quad w W w.heap.size 90 .u64 [a, b, c, d, e] [r, s, t, x, y] [0, 0, 0, 0, 0]) HS.out ?_
  intro wb HW
  have HT := Aside0.mk HW
  clear HW HS HS1
  refine wp_loop_rounds 6 ?_
  have HR1 : Aside0 (Blk wb (w.heap.size + 1) 90 #[.int .u64 r, .int .u64 s, .int .u64 t, .int .u64 x, .int .u64 y]) := ⟨HT.out.2.1⟩
  obtain ⟨x0, x1, x2, x3, x4⟩ := HT.out.2.2.2.1.five
  rw [rounds_succ]; go_wp2_with (refine wpList_load_row rfl 90 _ rfl (w.heap.size + 1) rfl 90 #[.int .u64 r, .int .u64 s, .int .u64 t, .int .u64 x, .int .u64 y] (0, 0) _ HR1.out Try.underlying90 rfl (by kernel_rfl) ?_)
  refine wp_loop_rounds 6 ?_
  iterate 6 (rw [rounds_succ]; go_wp2)
  have HT1 := Aside0.mk ((((((HT.out.set 0 p00).set 1 p01).set 2 p02).set 3 p03).set 4 p04).eq (show _ = [p00, p01, p02, p03, p04] from rfl))
  clear x0 x1 x2 x3 x4 HT HR1
  generalize (((((wb.setCell ⟨w.heap.size + 1 + 1 + 1, 0, none⟩ (.int .u64 (p00 : Int))).setCell ⟨w.heap.size + 1 + 1 + 1, 1, none⟩ (.int .u64 (p01 : Int))).setCell ⟨w.heap.size + 1 + 1 + 1, 2, none⟩ (.int .u64 (p02 : Int))).setCell ⟨w.heap.size + 1 + 1 + 1, 3, none⟩ (.int .u64 (p03 : Int))).setCell ⟨w.heap.size + 1 + 1 + 1, 4, none⟩ (.int .u64 (p04 : Int))) = wb0 at HT1 ⊢
  have HT := HT1
  clear HT1
  have HR1 : Aside0 (Blk wb0 (w.heap.size + 1) 90 #[.int .u64 r, .int .u64 s, .int .u64 t, .int .u64 x, .int .u64 y]) := ⟨HT.out.2.1⟩
  obtain ⟨x0, x1, x2, x3, x4⟩ := HT.out.2.2.2.1.five
  rw [rounds_succ]; go_wp2_with (refine wpList_load_row rfl 90 _ rfl (w.heap.size + 1) rfl 90 #[.int .u64 r, .int .u64 s, .int .u64 t, .int .u64 x, .int .u64 y] (0, 0) _ HR1.out Try.underlying90 rfl (by kernel_rfl) ?_)
  refine wp_loop_rounds 6 ?_
  iterate 6 (rw [rounds_succ]; go_wp2)
  have HT1 := Aside0.mk ((((((HT.out.set 1 s10).set 2 s11).set 3 s12).set 4 s13).set 0 s14).eq (show _ = [s14, s10, s11, s12, s13] from rfl))
  clear x0 x1 x2 x3 x4 HT HR1
  generalize (((((wb0.setCell ⟨w.heap.size + 1 + 1 + 1, 1, none⟩ (.int .u64 (s10 : Int))).setCell ⟨w.heap.size + 1 + 1 + 1, 2, none⟩ (.int .u64 (s11 : Int))).setCell ⟨w.heap.size + 1 + 1 + 1, 3, none⟩ (.int .u64 (s12 : Int))).setCell ⟨w.heap.size + 1 + 1 + 1, 4, none⟩ (.int .u64 (s13 : Int))).setCell ⟨w.heap.size + 1 + 1 + 1, 0, none⟩ (.int .u64 (s14 : Int))) = wb1 at HT1 ⊢
  have HT := HT1
  clear HT1
  have HR1 : Aside0 (Blk wb1 (w.heap.size + 1) 90 #[.int .u64 r, .int .u64 s, .int .u64 t, .int .u64 x, .int .u64 y]) := ⟨HT.out.2.1⟩
  obtain ⟨x0, x1, x2, x3, x4⟩ := HT.out.2.2.2.1.five
  rw [rounds_succ]; go_wp2_with (refine wpList_load_row rfl 90 _ rfl (w.heap.size + 1) rfl 90 #[.int .u64 r, .int .u64 s, .int .u64 t, .int .u64 x, .int .u64 y] (0, 0) _ HR1.out Try.underlying90 rfl (by kernel_rfl) ?_)
  refine wp_loop_rounds 6 ?_
  iterate 6 (rw [rounds_succ]; go_wp2)
  have HT1 := Aside0.mk ((((((HT.out.set 2 s20).set 3 s21).set 4 s22).set 0 s23).set 1 s24).eq (show _ = [s23, s24, s20, s21, s22] from rfl))
  clear x0 x1 x2 x3 x4 HT HR1
  generalize (((((wb1.setCell ⟨w.heap.size + 1 + 1 + 1, 2, none⟩ (.int .u64 (s20 : Int))).setCell ⟨w.heap.size + 1 + 1 + 1, 3, none⟩ (.int .u64 (s21 : Int))).setCell ⟨w.heap.size + 1 + 1 + 1, 4, none⟩ (.int .u64 (s22 : Int))).setCell ⟨w.heap.size + 1 + 1 + 1, 0, none⟩ (.int .u64 (s23 : Int))).setCell ⟨w.heap.size + 1 + 1 + 1, 1, none⟩ (.int .u64 (s24 : Int))) = wb2 at HT1 ⊢
  have HT := HT1
  clear HT1
  have HR1 : Aside0 (Blk wb2 (w.heap.size + 1) 90 #[.int .u64 r, .int .u64 s, .int .u64 t, .int .u64 x, .int .u64 y]) := ⟨HT.out.2.1⟩
  obtain ⟨x0, x1, x2, x3, x4⟩ := HT.out.2.2.2.1.five
  rw [rounds_succ]; go_wp2_with (refine wpList_load_row rfl 90 _ rfl (w.heap.size + 1) rfl 90 #[.int .u64 r, .int .u64 s, .int .u64 t, .int .u64 x, .int .u64 y] (0, 0) _ HR1.out Try.underlying90 rfl (by kernel_rfl) ?_)
  refine wp_loop_rounds 6 ?_
  iterate 6 (rw [rounds_succ]; go_wp2)
  have HT1 := Aside0.mk ((((((HT.out.set 3 s30).set 4 s31).set 0 s32).set 1 s33).set 2 s34).eq (show _ = [s32, s33, s34, s30, s31] from rfl))
  clear x0 x1 x2 x3 x4 HT HR1
  generalize (((((wb2.setCell ⟨w.heap.size + 1 + 1 + 1, 3, none⟩ (.int .u64 (s30 : Int))).setCell ⟨w.heap.size + 1 + 1 + 1, 4, none⟩ (.int .u64 (s31 : Int))).setCell ⟨w.heap.size + 1 + 1 + 1, 0, none⟩ (.int .u64 (s32 : Int))).setCell ⟨w.heap.size + 1 + 1 + 1, 1, none⟩ (.int .u64 (s33 : Int))).setCell ⟨w.heap.size + 1 + 1 + 1, 2, none⟩ (.int .u64 (s34 : Int))) = wb3 at HT1 ⊢
  have HT := HT1
  clear HT1
  have HR1 : Aside0 (Blk wb3 (w.heap.size + 1) 90 #[.int .u64 r, .int .u64 s, .int .u64 t, .int .u64 x, .int .u64 y]) := ⟨HT.out.2.1⟩
  obtain ⟨x0, x1, x2, x3, x4⟩ := HT.out.2.2.2.1.five
  rw [rounds_succ]; go_wp2_with (refine wpList_load_row rfl 90 _ rfl (w.heap.size + 1) rfl 90 #[.int .u64 r, .int .u64 s, .int .u64 t, .int .u64 x, .int .u64 y] (0, 0) _ HR1.out Try.underlying90 rfl (by kernel_rfl) ?_)
  refine wp_loop_rounds 6 ?_
  iterate 6 (rw [rounds_succ]; go_wp2)
  have HT1 := Aside0.mk ((((((HT.out.set 4 s40).set 0 s41).set 1 s42).set 2 s43).set 3 s44).eq (show _ = [s41, s42, s43, s44, s40] from rfl))
  clear x0 x1 x2 x3 x4 HT HR1
  generalize (((((wb3.setCell ⟨w.heap.size + 1 + 1 + 1, 4, none⟩ (.int .u64 (s40 : Int))).setCell ⟨w.heap.size + 1 + 1 + 1, 0, none⟩ (.int .u64 (s41 : Int))).setCell ⟨w.heap.size + 1 + 1 + 1, 1, none⟩ (.int .u64 (s42 : Int))).setCell ⟨w.heap.size + 1 + 1 + 1, 2, none⟩ (.int .u64 (s43 : Int))).setCell ⟨w.heap.size + 1 + 1 + 1, 3, none⟩ (.int .u64 (s44 : Int))) = wb4 at HT1 ⊢
  have HT := HT1
  clear HT1
  rw [rounds_succ]
  have B3 := Aside0.mk (HT.out.eq HE.out.symm).2.2.2.1
  have B2 := Aside0.mk HT.out.2.2.1
  have BL := Aside0.mk HT.out.2.2.2.2.1
  have BG := Aside0.mk (show w.heap.size ≤ w.heap.size + 1 + 1 by omega)
  clear HT HE g1 g2 g3 g4 w00 k00 w01 k01 w02 k02 w03 k03 w04 k04 w10 t10 w11 t11 w12 t12 w13 t13 w14 t14 w20 t20 w21 t21 w22 t22 w23 t23 w24 t24 w30 t30 w31 t31 w32 t32 w33 t33 w34 t34 w40 t40 w41 t41 w42 t42 w43 t43 w44 t44 il0 il1 il2 il3 il4 ir0 ir1 ir2 ir3 ir4
  generalize w.heap.size + 1 + 1 + 1 = g3 at B3 ⊢
  generalize w.heap.size + 1 + 1 = g2 at B2 BG ⊢
  go_wp2_with (first | ((with_reducible refine wpList_load_row (o := ⟨some 48, .load 90 (.tmp 5), _, _, _, _⟩) ?l1a 90 (.tmp 5) ?l1b (g3) ?l1c 90 (wds .u64 q) (0, 0) ?l1z ?l1d ?l1e ?l1f ?l1g ?_); (case l1a => rfl); (case l1b => rfl); (case l1c => rfl); (case l1d => exact B3.out); (case l1e => exact Try.underlying90); (case l1f => rfl); (case l1g => exact info5u HA.out)) | (go_at_call 108; with_reducible refine (C _).mono ?_; rintro e1 w1 ⟨rfl, hb1⟩; replace hb1 := Aside0.mk hb1) | ((with_reducible refine wpList_store_row (o := ⟨none, .store 90 (.tmp 4) (.tmp 49), _, _, _, _⟩) ?s2a 90 (.tmp 4) (.tmp 49) ?s2b (g2) (wds .u64 (carryN q 3)) ?s2c ?s2d 90 (wds .u64 zeros5) ?s2e ?s2f ?s2g ?s2h ?_); (case s2a => rfl); (case s2b => rfl); (case s2c => rfl); (case s2d => rfl); (case s2e => exact (B2.out.below hb1.out)); (case s2f => exact info5u H3.out.length); (case s2g => rw [wds_size, wds_size, H3.out.length]; rfl); (case s2h => exact wds_one _ _)))
  refine HQ.out _ _ _ ?_
  refine ret_row (p := 4) (ty := 90) rfl g2 90 (wds .u64 (carryN q 3)) _ rfl ((B2.out.below hb1.out).row _) Try.underlying90 rfl (info5u H3.out.length) rfl ⟨rfl, below_setRow (BL.out.trans (hb1.out.mono BL.out.size)) BG.out _⟩
end

section
open Go.RowKit Go.Shelf Go.Proofs.YtihpnededldedaaW.PrintWords Go.Proofs.YtihpnededldedaaW.PrintLast Go.Proofs.YtihpnededldedaaW.PrintMore Go.Proofs.Ytihpnededldedaa.Pol


set_option maxRecDepth 100000 in
set_option maxHeartbeats 32000000 in
theorem l03Times_calls (v u : List Nat) (hv : L5 134217728 v) (hu : L5 67108864 u) (w : World) : Calls Try.prog 82 #[.agg (wds .i64 v), .agg (wds .i64 u)] w fun e w' => e = .returned (.agg (wds .i64 (carryN (mulL v u) 3))) ∧ Below w.heap.size w w' := by
  have C := fun W => l03Carry_calls (mulL v u) (mulL_ok hv hu).1 W
  have H3 := Lib.hid (carry3 (mulL v u) (mulL_ok hv hu).1).1
  have HA := Lib.hid (mulL_ok hv hu).1.length
  obtain ⟨a, b, c, d, e, rfl, ha, hb, hc, hd, he⟩ := hv
  obtain ⟨r, s, t, x, y, rfl, hr, hs, ht, hx, hy⟩ := hu
  obtain ⟨p00, P00, w00, b00⟩ := mul_i a r ha hr
  obtain ⟨m00, M00, k00, l00⟩ := keep_i p00 (up53 b00)
  obtain ⟨p01, P01, w01, b01⟩ := mul_i a s ha hs
  obtain ⟨m01, M01, k01, l01⟩ := keep_i p01 (up53 b01)
  obtain ⟨p02, P02, w02, b02⟩ := mul_i a t ha ht
  obtain ⟨m02, M02, k02, l02⟩ := keep_i p02 (up53 b02)
  obtain ⟨p03, P03, w03, b03⟩ := mul_i a x ha hx
  obtain ⟨m03, M03, k03, l03⟩ := keep_i p03 (up53 b03)
  obtain ⟨p04, P04, w04, b04⟩ := mul_i a y ha hy
  obtain ⟨m04, M04, k04, l04⟩ := keep_i p04 (up53 b04)
  obtain ⟨p10, P10, w10, b10⟩ := mul_i b r hb hr
  obtain ⟨s10, S10, t10, c10⟩ := sum_i 1 m01 p10 (up1 l01) (up53 b10) (by decide)
  obtain ⟨p11, P11, w11, b11⟩ := mul_i b s hb hs
  obtain ⟨s11, S11, t11, c11⟩ := sum_i 1 m02 p11 (up1 l02) (up53 b11) (by decide)
  obtain ⟨p12, P12, w12, b12⟩ := mul_i b t hb ht
  obtain ⟨s12, S12, t12, c12⟩ := sum_i 1 m03 p12 (up1 l03) (up53 b12) (by decide)
  obtain ⟨p13, P13, w13, b13⟩ := mul_i b x hb hx
  obtain ⟨s13, S13, t13, c13⟩ := sum_i 1 m04 p13 (up1 l04) (up53 b13) (by decide)
  obtain ⟨p14, P14, w14, b14⟩ := mul_i b y hb hy
  obtain ⟨q14, Q14, v14, d14⟩ := five_i p14 b14
  obtain ⟨s14, S14, t14, c14⟩ := sum_i 1 m00 q14 (up1 l00) d14 (by decide)
  obtain ⟨p20, P20, w20, b20⟩ := mul_i c r hc hr
  obtain ⟨s20, S20, t20, c20⟩ := sum_i 2 s11 p20 c11 (up53 b20) (by decide)
  obtain ⟨p21, P21, w21, b21⟩ := mul_i c s hc hs
  obtain ⟨s21, S21, t21, c21⟩ := sum_i 2 s12 p21 c12 (up53 b21) (by decide)
  obtain ⟨p22, P22, w22, b22⟩ := mul_i c t hc ht
  obtain ⟨s22, S22, t22, c22⟩ := sum_i 2 s13 p22 c13 (up53 b22) (by decide)
  obtain ⟨p23, P23, w23, b23⟩ := mul_i c x hc hx
  obtain ⟨q23, Q23, v23, d23⟩ := five_i p23 b23
  obtain ⟨s23, S23, t23, c23⟩ := sum_i 2 s14 q23 c14 d23 (by decide)
  obtain ⟨p24, P24, w24, b24⟩ := mul_i c y hc hy
  obtain ⟨q24, Q24, v24, d24⟩ := five_i p24 b24
  obtain ⟨s24, S24, t24, c24⟩ := sum_i 2 s10 q24 c10 d24 (by decide)
  obtain ⟨p30, P30, w30, b30⟩ := mul_i d r hd hr
  obtain ⟨s30, S30, t30, c30⟩ := sum_i 3 s21 p30 c21 (up53 b30) (by decide)
  obtain ⟨p31, P31, w31, b31⟩ := mul_i d s hd hs
  obtain ⟨s31, S31, t31, c31⟩ := sum_i 3 s22 p31 c22 (up53 b31) (by decide)
  obtain ⟨p32, P32, w32, b32⟩ := mul_i d t hd ht
  obtain ⟨q32, Q32, v32, d32⟩ := five_i p32 b32
  obtain ⟨s32, S32, t32, c32⟩ := sum_i 3 s23 q32 c23 d32 (by decide)
  obtain ⟨p33, P33, w33, b33⟩ := mul_i d x hd hx
  obtain ⟨q33, Q33, v33, d33⟩ := five_i p33 b33
  obtain ⟨s33, S33, t33, c33⟩ := sum_i 3 s24 q33 c24 d33 (by decide)
  obtain ⟨p34, P34, w34, b34⟩ := mul_i d y hd hy
  obtain ⟨q34, Q34, v34, d34⟩ := five_i p34 b34
  obtain ⟨s34, S34, t34, c34⟩ := sum_i 3 s20 q34 c20 d34 (by decide)
  obtain ⟨p40, P40, w40, b40⟩ := mul_i e r he hr
  obtain ⟨s40, S40, t40, c40⟩ := sum_i 4 s31 p40 c31 (up53 b40) (by decide)
  obtain ⟨p41, P41, w41, b41⟩ := mul_i e s he hs
  obtain ⟨q41, Q41, v41, d41⟩ := five_i p41 b41
  obtain ⟨s41, S41, t41, c41⟩ := sum_i 4 s32 q41 c32 d41 (by decide)
  obtain ⟨p42, P42, w42, b42⟩ := mul_i e t he ht
  obtain ⟨q42, Q42, v42, d42⟩ := five_i p42 b42
  obtain ⟨s42, S42, t42, c42⟩ := sum_i 4 s33 q42 c33 d42 (by decide)
  obtain ⟨p43, P43, w43, b43⟩ := mul_i e x he hx
  obtain ⟨q43, Q43, v43, d43⟩ := five_i p43 b43
  obtain ⟨s43, S43, t43, c43⟩ := sum_i 4 s34 q43 c34 d43 (by decide)
  obtain ⟨p44, P44, w44, b44⟩ := mul_i e y he hy
  obtain ⟨q44, Q44, v44, d44⟩ := five_i p44 b44
  obtain ⟨s44, S44, t44, c44⟩ := sum_i 4 s30 q44 c30 d44 (by decide)
  have HE := Lib.hid (show mulL [a, b, c, d, e] [r, s, t, x, y] = [s41, s42, s43, s44, s40] by
    clear C H3 HA w00 b00 k00 l00 w01 b01 k01 l01 w02 b02 k02 l02 w03 b03 k03 l03 w04 b04 k04 l04 w10 b10 t10 c10 w11 b11 t11 c11 w12 b12 t12 c12 w13 b13 t13 c13 w14 b14 v14 d14 t14 c14 w20 b20 t20 c20 w21 b21 t21 c21 w22 b22 t22 c22 w23 b23 v23 d23 t23 c23 w24 b24 v24 d24 t24 c24 w30 b30 t30 c30 w31 b31 t31 c31 w32 b32 v32 d32 t32 c32 w33 b33 v33 d33 t33 c33 w34 b34 v34 d34 t34 c34 w40 b40 t40 c40 w41 b41 v41 d41 t41 c41 w42 b42 v42 d42 t42 c42 w43 b43 v43 d43 t43 c43 w44 b44 v44 d44 t44 c44
    simp only [mulL, mulr, List.cons.injEq, and_true]
    refine ⟨?_, ?_, ?_, ?_, ?_⟩
    · have := P00.out; have := M00.out; have := Q14.out; have := P14.out; have := S14.out; have := Q23.out; have := P23.out; have := S23.out; have := Q32.out; have := P32.out; have := S32.out; have := Q41.out; have := P41.out; have := S41.out; omega
    · have := P01.out; have := M01.out; have := P10.out; have := S10.out; have := Q24.out; have := P24.out; have := S24.out; have := Q33.out; have := P33.out; have := S33.out; have := Q42.out; have := P42.out; have := S42.out; omega
    · have := P02.out; have := M02.out; have := P11.out; have := S11.out; have := P20.out; have := S20.out; have := Q34.out; have := P34.out; have := S34.out; have := Q43.out; have := P43.out; have := S43.out; omega
    · have := P03.out; have := M03.out; have := P12.out; have := S12.out; have := P21.out; have := S21.out; have := P30.out; have := S30.out; have := Q44.out; have := P44.out; have := S44.out; omega
    · have := P04.out; have := M04.out; have := P13.out; have := S13.out; have := P22.out; have := S22.out; have := P31.out; have := S31.out; have := P40.out; have := S40.out; omega)
  clear ha hb hc hd he hr hs ht hx hy P00 b00 M00 l00 P01 b01 M01 l01 P02 b02 M02 l02 P03 b03 M03 l03 P04 b04 M04 l04 P10 b10 S10 c10 P11 b11 S11 c11 P12 b12 S12 c12 P13 b13 S13 c13 P14 b14 Q14 d14 S14 c14 P20 b20 S20 c20 P21 b21 S21 c21 P22 b22 S22 c22 P23 b23 Q23 d23 S23 c23 P24 b24 Q24 d24 S24 c24 P30 b30 S30 c30 P31 b31 S31 c31 P32 b32 Q32 d32 S32 c32 P33 b33 Q33 d33 S33 c33 P34 b34 Q34 d34 S34 c34 P40 b40 S40 c40 P41 b41 Q41 d41 S41 c41 P42 b42 Q42 d42 S42 c42 P43 b43 Q43 d43 S43 c43 P44 b44 Q44 d44 S44 c44
  generalize mulL [a, b, c, d, e] [r, s, t, x, y] = q at C H3 HA HE
  have HS := Aside0.mk (Quad.start w 80 .i64 [a, b, c, d, e] [r, s, t, x, y] zeros5)
  have HS1 : Aside0 (Blk _ w.heap.size 80 #[.int .i64 a, .int .i64 b, .int .i64 c, .int .i64 d, .int .i64 e]) := ⟨HS.out.1⟩
  go_enter Try.func82, Try.ntmps82
  refine wp_hide ?_
  intro Qx hQx
  have HQ := Lib.hid hQx
  clear hQx
  go_wp2
  refine wp_world (fun W => Quad w W w.heap.size 80 .i64 [a, b, c, d, e] [r, s, t, x, y] [0, 0, 0, 0, 0]) HS.out ?_
  intro wb HW
  have HT := Aside0.mk HW
  clear HW HS HS1
  refine wp_loop_rounds 6 ?_
  rw [rounds_succ]; go_wp2
  refine wp_loop_rounds 6 ?_
  have x0 : wb.cell? ⟨w.heap.size, 0, none⟩ = some (.int .i64 (a : Int)) ∧ wb.frozen? ⟨w.heap.size, 0, none⟩ = false := HT.out.1.at 0 _ rfl
  have x1 : wb.cell? ⟨w.heap.size + 1, 0, none⟩ = some (.int .i64 (r : Int)) ∧ wb.frozen? ⟨w.heap.size + 1, 0, none⟩ = false := HT.out.2.1.at 0 _ rfl
  rw [rounds_succ]; go_wp2
  go_quiet (fail)
  have HD := Aside0.mk (HT.out.drewN nq)
  clear x0 x1 HT
  generalize wb.drewN nq = wd00 at HD ⊢
  have x2 : wd00.cell? ⟨w.heap.size + 1 + 1 + 1, 0, none⟩ = some (.int .i64 (0 : Int)) ∧ wd00.frozen? ⟨w.heap.size + 1 + 1 + 1, 0, none⟩ = false := HD.out.2.2.2.1.at 0 _ rfl
  go_wp2
  have HT := Aside0.mk ((HD.out.set 0 m00).eq (show _ = [m00, 0, 0, 0, 0] from rfl))
  clear HD x2
  generalize wd00.setCell ⟨w.heap.size + 1 + 1 + 1, 0, none⟩ (.int .i64 (m00 : Int)) = wb00 at HT ⊢
  have x0 : wb00.cell? ⟨w.heap.size, 0, none⟩ = some (.int .i64 (a : Int)) ∧ wb00.frozen? ⟨w.heap.size, 0, none⟩ = false := HT.out.1.at 0 _ rfl
  have x1 : wb00.cell? ⟨w.heap.size + 1, 1, none⟩ = some (.int .i64 (s : Int)) ∧ wb00.frozen? ⟨w.heap.size + 1, 1, none⟩ = false := HT.out.2.1.at 1 _ rfl
  rw [rounds_succ]; go_wp2
  go_quiet (fail)
  have HD := Aside0.mk (HT.out.drewN nq)
  clear x0 x1 HT
  generalize wb00.drewN nq = wd01 at HD ⊢
  have x2 : wd01.cell? ⟨w.heap.size + 1 + 1 + 1, 1, none⟩ = some (.int .i64 (0 : Int)) ∧ wd01.frozen? ⟨w.heap.size + 1 + 1 + 1, 1, none⟩ = false := HD.out.2.2.2.1.at 1 _ rfl
  go_wp2
  have HT := Aside0.mk ((HD.out.set 1 m01).eq (show _ = [m00, m01, 0, 0, 0] from rfl))
  clear HD x2
  generalize wd01.setCell ⟨w.heap.size + 1 + 1 + 1, 1, none⟩ (.int .i64 (m01 : Int)) = wb01 at HT ⊢
  have x0 : wb01.cell? ⟨w.heap.size, 0, none⟩ = some (.int .i64 (a : Int)) ∧ wb01.frozen? ⟨w.heap.size, 0, none⟩ = false := HT.out.1.at 0 _ rfl
  have x1 : wb01.cell? ⟨w.heap.size + 1, 2, none⟩ = some (.int .i64 (t : Int)) ∧ wb01.frozen? ⟨w.heap.size + 1, 2, none⟩ = false := HT.out.2.1.at 2 _ rfl
  rw [rounds_succ]; go_wp2
  go_quiet (fail)
  have HD := Aside0.mk (HT.out.drewN nq)
  clear x0 x1 HT
  generalize wb01.drewN nq = wd02 at HD ⊢
  have x2 : wd02.cell? ⟨w.heap.size + 1 + 1 + 1, 2, none⟩ = some (.int .i64 (0 : Int)) ∧ wd02.frozen? ⟨w.heap.size + 1 + 1 + 1, 2, none⟩ = false := HD.out.2.2.2.1.at 2 _ rfl
  go_wp2
  have HT := Aside0.mk ((HD.out.set 2 m02).eq (show _ = [m00, m01, m02, 0, 0] from rfl))
  clear HD x2
  generalize wd02.setCell ⟨w.heap.size + 1 + 1 + 1, 2, none⟩ (.int .i64 (m02 : Int)) = wb02 at HT ⊢
  have x0 : wb02.cell? ⟨w.heap.size, 0, none⟩ = some (.int .i64 (a : Int)) ∧ wb02.frozen? ⟨w.heap.size, 0, none⟩ = false := HT.out.1.at 0 _ rfl
  have x1 : wb02.cell? ⟨w.heap.size + 1, 3, none⟩ = some (.int .i64 (x : Int)) ∧ wb02.frozen? ⟨w.heap.size + 1, 3, none⟩ = false := HT.out.2.1.at 3 _ rfl
  rw [rounds_succ]; go_wp2
  go_quiet (fail)
  have HD := Aside0.mk (HT.out.drewN nq)
  clear x0 x1 HT
  generalize wb02.drewN nq = wd03 at HD ⊢
  have x2 : wd03.cell? ⟨w.heap.size + 1 + 1 + 1, 3, none⟩ = some (.int .i64 (0 : Int)) ∧ wd03.frozen? ⟨w.heap.size + 1 + 1 + 1, 3, none⟩ = false := HD.out.2.2.2.1.at 3 _ rfl
  go_wp2
  have HT := Aside0.mk ((HD.out.set 3 m03).eq (show _ = [m00, m01, m02, m03, 0] from rfl))
  clear HD x2
  generalize wd03.setCell ⟨w.heap.size + 1 + 1 + 1, 3, none⟩ (.int .i64 (m03 : Int)) = wb03 at HT ⊢
  have x0 : wb03.cell? ⟨w.heap.size, 0, none⟩ = some (.int .i64 (a : Int)) ∧ wb03.frozen? ⟨w.heap.size, 0, none⟩ = false := HT.out.1.at 0 _ rfl
  have x1 : wb03.cell? ⟨w.heap.size + 1, 4, none⟩ = some (.int .i64 (y : Int)) ∧ wb03.frozen? ⟨w.heap.size + 1, 4, none⟩ = false := HT.out.2.1.at 4 _ rfl
  rw [rounds_succ]; go_wp2
  go_quiet (fail)
  have HD := Aside0.mk (HT.out.drewN nq)
  clear x0 x1 HT
  generalize wb03.drewN nq = wd04 at HD ⊢
  have x2 : wd04.cell? ⟨w.heap.size + 1 + 1 + 1, 4, none⟩ = some (.int .i64 (0 : Int)) ∧ wd04.frozen? ⟨w.heap.size + 1 + 1 + 1, 4, none⟩ = false := HD.out.2.2.2.1.at 4 _ rfl
  go_wp2
  have HT := Aside0.mk ((HD.out.set 4 m04).eq (show _ = [m00, m01, m02, m03, m04] from rfl))
  clear HD x2
  generalize wd04.setCell ⟨w.heap.size + 1 + 1 + 1, 4, none⟩ (.int .i64 (m04 : Int)) = wb04 at HT ⊢
  rw [rounds_succ]; go_wp2
  rw [rounds_succ]; go_wp2
  refine wp_loop_rounds 6 ?_
  have x0 : wb04.cell? ⟨w.heap.size, 1, none⟩ = some (.int .i64 (b : Int)) ∧ wb04.frozen? ⟨w.heap.size, 1, none⟩ = false := HT.out.1.at 1 _ rfl
  have x1 : wb04.cell? ⟨w.heap.size + 1, 0, none⟩ = some (.int .i64 (r : Int)) ∧ wb04.frozen? ⟨w.heap.size + 1, 0, none⟩ = false := HT.out.2.1.at 0 _ rfl
  rw [rounds_succ]; go_wp2
  go_quiet (fail)
  have HD := Aside0.mk (HT.out.drewN nq)
  clear x0 x1 HT
  generalize wb04.drewN nq = wd10 at HD ⊢
  have x2 : wd10.cell? ⟨w.heap.size + 1 + 1 + 1, 1, none⟩ = some (.int .i64 (m01 : Int)) ∧ wd10.frozen? ⟨w.heap.size + 1 + 1 + 1, 1, none⟩ = false := HD.out.2.2.2.1.at 1 _ rfl
  go_wp2
  have HT := Aside0.mk ((HD.out.set 1 s10).eq (show _ = [m00, s10, m02, m03, m04] from rfl))
  clear HD x2
  generalize wd10.setCell ⟨w.heap.size + 1 + 1 + 1, 1, none⟩ (.int .i64 (s10 : Int)) = wb10 at HT ⊢
  have x0 : wb10.cell? ⟨w.heap.size, 1, none⟩ = some (.int .i64 (b : Int)) ∧ wb10.frozen? ⟨w.heap.size, 1, none⟩ = false := HT.out.1.at 1 _ rfl
  have x1 : wb10.cell? ⟨w.heap.size + 1, 1, none⟩ = some (.int .i64 (s : Int)) ∧ wb10.frozen? ⟨w.heap.size + 1, 1, none⟩ = false := HT.out.2.1.at 1 _ rfl
  rw [rounds_succ]; go_wp2
  go_quiet (fail)
  have HD := Aside0.mk (HT.out.drewN nq)
  clear x0 x1 HT
  generalize wb10.drewN nq = wd11 at HD ⊢
  have x2 : wd11.cell? ⟨w.heap.size + 1 + 1 + 1, 2, none⟩ = some (.int .i64 (m02 : Int)) ∧ wd11.frozen? ⟨w.heap.size + 1 + 1 + 1, 2, none⟩ = false := HD.out.2.2.2.1.at 2 _ rfl
  go_wp2
  have HT := Aside0.mk ((HD.out.set 2 s11).eq (show _ = [m00, s10, s11, m03, m04] from rfl))
  clear HD x2
  generalize wd11.setCell ⟨w.heap.size + 1 + 1 + 1, 2, none⟩ (.int .i64 (s11 : Int)) = wb11 at HT ⊢
  have x0 : wb11.cell? ⟨w.heap.size, 1, none⟩ = some (.int .i64 (b : Int)) ∧ wb11.frozen? ⟨w.heap.size, 1, none⟩ = false := HT.out.1.at 1 _ rfl
  have x1 : wb11.cell? ⟨w.heap.size + 1, 2, none⟩ = some (.int .i64 (t : Int)) ∧ wb11.frozen? ⟨w.heap.size + 1, 2, none⟩ = false := HT.out.2.1.at 2 _ rfl
  rw [rounds_succ]; go_wp2
  go_quiet (fail)
  have HD := Aside0.mk (HT.out.drewN nq)
  clear x0 x1 HT
  generalize wb11.drewN nq = wd12 at HD ⊢
  have x2 : wd12.cell? ⟨w.heap.size + 1 + 1 + 1, 3, none⟩ = some (.int .i64 (m03 : Int)) ∧ wd12.frozen? ⟨w.heap.size + 1 + 1 + 1, 3, none⟩ = false := HD.out.2.2.2.1.at 3 _ rfl
  go_wp2
  have HT := Aside0.mk ((HD.out.set 3 s12).eq (show _ = [m00, s10, s11, s12, m04] from rfl))
  clear HD x2
  generalize wd12.setCell ⟨w.heap.size + 1 + 1 + 1, 3, none⟩ (.int .i64 (s12 : Int)) = wb12 at HT ⊢
  have x0 : wb12.cell? ⟨w.heap.size, 1, none⟩ = some (.int .i64 (b : Int)) ∧ wb12.frozen? ⟨w.heap.size, 1, none⟩ = false := HT.out.1.at 1 _ rfl
  have x1 : wb12.cell? ⟨w.heap.size + 1, 3, none⟩ = some (.int .i64 (x : Int)) ∧ wb12.frozen? ⟨w.heap.size + 1, 3, none⟩ = false := HT.out.2.1.at 3 _ rfl
  rw [rounds_succ]; go_wp2
  go_quiet (fail)
  have HD := Aside0.mk (HT.out.drewN nq)
  clear x0 x1 HT
  generalize wb12.drewN nq = wd13 at HD ⊢
  have x2 : wd13.cell? ⟨w.heap.size + 1 + 1 + 1, 4, none⟩ = some (.int .i64 (m04 : Int)) ∧ wd13.frozen? ⟨w.heap.size + 1 + 1 + 1, 4, none⟩ = false := HD.out.2.2.2.1.at 4 _ rfl
  go_wp2
  have HT := Aside0.mk ((HD.out.set 4 s13).eq (show _ = [m00, s10, s11, s12, s13] from rfl))
  clear HD x2
  generalize wd13.setCell ⟨w.heap.size + 1 + 1 + 1, 4, none⟩ (.int .i64 (s13 : Int)) = wb13 at HT ⊢
  have x0 : wb13.cell? ⟨w.heap.size, 1, none⟩ = some (.int .i64 (b : Int)) ∧ wb13.frozen? ⟨w.heap.size, 1, none⟩ = false := HT.out.1.at 1 _ rfl
  have x1 : wb13.cell? ⟨w.heap.size + 1, 4, none⟩ = some (.int .i64 (y : Int)) ∧ wb13.frozen? ⟨w.heap.size + 1, 4, none⟩ = false := HT.out.2.1.at 4 _ rfl
  rw [rounds_succ]; go_wp2
  go_quiet (fail)
  have HD := Aside0.mk (HT.out.drewN nq)
  clear x0 x1 HT
  generalize wb13.drewN nq = wd14 at HD ⊢
  have x2 : wd14.cell? ⟨w.heap.size + 1 + 1 + 1, 0, none⟩ = some (.int .i64 (m00 : Int)) ∧ wd14.frozen? ⟨w.heap.size + 1 + 1 + 1, 0, none⟩ = false := HD.out.2.2.2.1.at 0 _ rfl
  go_wp2
  have HT := Aside0.mk ((HD.out.set 0 s14).eq (show _ = [s14, s10, s11, s12, s13] from rfl))
  clear HD x2
  generalize wd14.setCell ⟨w.heap.size + 1 + 1 + 1, 0, none⟩ (.int .i64 (s14 : Int)) = wb14 at HT ⊢
  rw [rounds_succ]; go_wp2
  rw [rounds_succ]; go_wp2
  refine wp_loop_rounds 6 ?_
  have x0 : wb14.cell? ⟨w.heap.size, 2, none⟩ = some (.int .i64 (c : Int)) ∧ wb14.frozen? ⟨w.heap.size, 2, none⟩ = false := HT.out.1.at 2 _ rfl
  have x1 : wb14.cell? ⟨w.heap.size + 1, 0, none⟩ = some (.int .i64 (r : Int)) ∧ wb14.frozen? ⟨w.heap.size + 1, 0, none⟩ = false := HT.out.2.1.at 0 _ rfl
  rw [rounds_succ]; go_wp2
  go_quiet (fail)
  have HD := Aside0.mk (HT.out.drewN nq)
  clear x0 x1 HT
  generalize wb14.drewN nq = wd20 at HD ⊢
  have x2 : wd20.cell? ⟨w.heap.size + 1 + 1 + 1, 2, none⟩ = some (.int .i64 (s11 : Int)) ∧ wd20.frozen? ⟨w.heap.size + 1 + 1 + 1, 2, none⟩ = false := HD.out.2.2.2.1.at 2 _ rfl
  go_wp2
  have HT := Aside0.mk ((HD.out.set 2 s20).eq (show _ = [s14, s10, s20, s12, s13] from rfl))
  clear HD x2
  generalize wd20.setCell ⟨w.heap.size + 1 + 1 + 1, 2, none⟩ (.int .i64 (s20 : Int)) = wb20 at HT ⊢
  have x0 : wb20.cell? ⟨w.heap.size, 2, none⟩ = some (.int .i64 (c : Int)) ∧ wb20.frozen? ⟨w.heap.size, 2, none⟩ = false := HT.out.1.at 2 _ rfl
  have x1 : wb20.cell? ⟨w.heap.size + 1, 1, none⟩ = some (.int .i64 (s : Int)) ∧ wb20.frozen? ⟨w.heap.size + 1, 1, none⟩ = false := HT.out.2.1.at 1 _ rfl
  rw [rounds_succ]; go_wp2
  go_quiet (fail)
  have HD := Aside0.mk (HT.out.drewN nq)
  clear x0 x1 HT
  generalize wb20.drewN nq = wd21 at HD ⊢
  have x2 : wd21.cell? ⟨w.heap.size + 1 + 1 + 1, 3, none⟩ = some (.int .i64 (s12 : Int)) ∧ wd21.frozen? ⟨w.heap.size + 1 + 1 + 1, 3, none⟩ = false := HD.out.2.2.2.1.at 3 _ rfl
  go_wp2
  have HT := Aside0.mk ((HD.out.set 3 s21).eq (show _ = [s14, s10, s20, s21, s13] from rfl))
  clear HD x2
  generalize wd21.setCell ⟨w.heap.size + 1 + 1 + 1, 3, none⟩ (.int .i64 (s21 : Int)) = wb21 at HT ⊢
  have x0 : wb21.cell? ⟨w.heap.size, 2, none⟩ = some (.int .i64 (c : Int)) ∧ wb21.frozen? ⟨w.heap.size, 2, none⟩ = false := HT.out.1.at 2 _ rfl
  have x1 : wb21.cell? ⟨w.heap.size + 1, 2, none⟩ = some (.int .i64 (t : Int)) ∧ wb21.frozen? ⟨w.heap.size + 1, 2, none⟩ = false := HT.out.2.1.at 2 _ rfl
  rw [rounds_succ]; go_wp2
  go_quiet (fail)
  have HD := Aside0.mk (HT.out.drewN nq)
  clear x0 x1 HT
  generalize wb21.drewN nq = wd22 at HD ⊢
  have x2 : wd22.cell? ⟨w.heap.size + 1 + 1 + 1, 4, none⟩ = some (.int .i64 (s13 : Int)) ∧ wd22.frozen? ⟨w.heap.size + 1 + 1 + 1, 4, none⟩ = false := HD.out.2.2.2.1.at 4 _ rfl
  go_wp2
  have HT := Aside0.mk ((HD.out.set 4 s22).eq (show _ = [s14, s10, s20, s21, s22] from rfl))
  clear HD x2
  generalize wd22.setCell ⟨w.heap.size + 1 + 1 + 1, 4, none⟩ (.int .i64 (s22 : Int)) = wb22 at HT ⊢
  have x0 : wb22.cell? ⟨w.heap.size, 2, none⟩ = some (.int .i64 (c : Int)) ∧ wb22.frozen? ⟨w.heap.size, 2, none⟩ = false := HT.out.1.at 2 _ rfl
  have x1 : wb22.cell? ⟨w.heap.size + 1, 3, none⟩ = some (.int .i64 (x : Int)) ∧ wb22.frozen? ⟨w.heap.size + 1, 3, none⟩ = false := HT.out.2.1.at 3 _ rfl
  rw [rounds_succ]; go_wp2
  go_quiet (fail)
  have HD := Aside0.mk (HT.out.drewN nq)
  clear x0 x1 HT
  generalize wb22.drewN nq = wd23 at HD ⊢
  have x2 : wd23.cell? ⟨w.heap.size + 1 + 1 + 1, 0, none⟩ = some (.int .i64 (s14 : Int)) ∧ wd23.frozen? ⟨w.heap.size + 1 + 1 + 1, 0, none⟩ = false := HD.out.2.2.2.1.at 0 _ rfl
  go_wp2
  have HT := Aside0.mk ((HD.out.set 0 s23).eq (show _ = [s23, s10, s20, s21, s22] from rfl))
  clear HD x2
  generalize wd23.setCell ⟨w.heap.size + 1 + 1 + 1, 0, none⟩ (.int .i64 (s23 : Int)) = wb23 at HT ⊢
  have x0 : wb23.cell? ⟨w.heap.size, 2, none⟩ = some (.int .i64 (c : Int)) ∧ wb23.frozen? ⟨w.heap.size, 2, none⟩ = false := HT.out.1.at 2 _ rfl
  have x1 : wb23.cell? ⟨w.heap.size + 1, 4, none⟩ = some (.int .i64 (y : Int)) ∧ wb23.frozen? ⟨w.heap.size + 1, 4, none⟩ = false := HT.out.2.1.at 4 _ rfl
  rw [rounds_succ]; go_wp2
  go_quiet (fail)
  have HD := Aside0.mk (HT.out.drewN nq)
  clear x0 x1 HT
  generalize wb23.drewN nq = wd24 at HD ⊢
  have x2 : wd24.cell? ⟨w.heap.size + 1 + 1 + 1, 1, none⟩ = some (.int .i64 (s10 : Int)) ∧ wd24.frozen? ⟨w.heap.size + 1 + 1 + 1, 1, none⟩ = false := HD.out.2.2.2.1.at 1 _ rfl
  go_wp2
  have HT := Aside0.mk ((HD.out.set 1 s24).eq (show _ = [s23, s24, s20, s21, s22] from rfl))
  clear HD x2
  generalize wd24.setCell ⟨w.heap.size + 1 + 1 + 1, 1, none⟩ (.int .i64 (s24 : Int)) = wb24 at HT ⊢
  rw [rounds_succ]; go_wp2
  rw [rounds_succ]; go_wp2
  refine wp_loop_rounds 6 ?_
  have x0 : wb24.cell? ⟨w.heap.size, 3, none⟩ = some (.int .i64 (d : Int)) ∧ wb24.frozen? ⟨w.heap.size, 3, none⟩ = false := HT.out.1.at 3 _ rfl
  have x1 : wb24.cell? ⟨w.heap.size + 1, 0, none⟩ = some (.int .i64 (r : Int)) ∧ wb24.frozen? ⟨w.heap.size + 1, 0, none⟩ = false := HT.out.2.1.at 0 _ rfl
  rw [rounds_succ]; go_wp2
  go_quiet (fail)
  have HD := Aside0.mk (HT.out.drewN nq)
  clear x0 x1 HT
  generalize wb24.drewN nq = wd30 at HD ⊢
  have x2 : wd30.cell? ⟨w.heap.size + 1 + 1 + 1, 3, none⟩ = some (.int .i64 (s21 : Int)) ∧ wd30.frozen? ⟨w.heap.size + 1 + 1 + 1, 3, none⟩ = false := HD.out.2.2.2.1.at 3 _ rfl
  go_wp2
  have HT := Aside0.mk ((HD.out.set 3 s30).eq (show _ = [s23, s24, s20, s30, s22] from rfl))
  clear HD x2
  generalize wd30.setCell ⟨w.heap.size + 1 + 1 + 1, 3, none⟩ (.int .i64 (s30 : Int)) = wb30 at HT ⊢
  have x0 : wb30.cell? ⟨w.heap.size, 3, none⟩ = some (.int .i64 (d : Int)) ∧ wb30.frozen? ⟨w.heap.size, 3, none⟩ = false := HT.out.1.at 3 _ rfl
  have x1 : wb30.cell? ⟨w.heap.size + 1, 1, none⟩ = some (.int .i64 (s : Int)) ∧ wb30.frozen? ⟨w.heap.size + 1, 1, none⟩ = false := HT.out.2.1.at 1 _ rfl
  rw [rounds_succ]; go_wp2
  go_quiet (fail)
  have HD := Aside0.mk (HT.out.drewN nq)
  clear x0 x1 HT
  generalize wb30.drewN nq = wd31 at HD ⊢
  have x2 : wd31.cell? ⟨w.heap.size + 1 + 1 + 1, 4, none⟩ = some (.int .i64 (s22 : Int)) ∧ wd31.frozen? ⟨w.heap.size + 1 + 1 + 1, 4, none⟩ = false := HD.out.2.2.2.1.at 4 _ rfl
  go_wp2
  have HT := Aside0.mk ((HD.out.set 4 s31).eq (show _ = [s23, s24, s20, s30, s31] from rfl))
  clear HD x2
  generalize wd31.setCell ⟨w.heap.size + 1 + 1 + 1, 4, none⟩ (.int .i64 (s31 : Int)) = wb31 at HT ⊢
  have x0 : wb31.cell? ⟨w.heap.size, 3, none⟩ = some (.int .i64 (d : Int)) ∧ wb31.frozen? ⟨w.heap.size, 3, none⟩ = false := HT.out.1.at 3 _ rfl
  have x1 : wb31.cell? ⟨w.heap.size + 1, 2, none⟩ = some (.int .i64 (t : Int)) ∧ wb31.frozen? ⟨w.heap.size + 1, 2, none⟩ = false := HT.out.2.1.at 2 _ rfl
  rw [rounds_succ]; go_wp2
  go_quiet (fail)
  have HD := Aside0.mk (HT.out.drewN nq)
  clear x0 x1 HT
  generalize wb31.drewN nq = wd32 at HD ⊢
  have x2 : wd32.cell? ⟨w.heap.size + 1 + 1 + 1, 0, none⟩ = some (.int .i64 (s23 : Int)) ∧ wd32.frozen? ⟨w.heap.size + 1 + 1 + 1, 0, none⟩ = false := HD.out.2.2.2.1.at 0 _ rfl
  go_wp2
  have HT := Aside0.mk ((HD.out.set 0 s32).eq (show _ = [s32, s24, s20, s30, s31] from rfl))
  clear HD x2
  generalize wd32.setCell ⟨w.heap.size + 1 + 1 + 1, 0, none⟩ (.int .i64 (s32 : Int)) = wb32 at HT ⊢
  have x0 : wb32.cell? ⟨w.heap.size, 3, none⟩ = some (.int .i64 (d : Int)) ∧ wb32.frozen? ⟨w.heap.size, 3, none⟩ = false := HT.out.1.at 3 _ rfl
  have x1 : wb32.cell? ⟨w.heap.size + 1, 3, none⟩ = some (.int .i64 (x : Int)) ∧ wb32.frozen? ⟨w.heap.size + 1, 3, none⟩ = false := HT.out.2.1.at 3 _ rfl
  rw [rounds_succ]; go_wp2
  go_quiet (fail)
  have HD := Aside0.mk (HT.out.drewN nq)
  clear x0 x1 HT
  generalize wb32.drewN nq = wd33 at HD ⊢
  have x2 : wd33.cell? ⟨w.heap.size + 1 + 1 + 1, 1, none⟩ = some (.int .i64 (s24 : Int)) ∧ wd33.frozen? ⟨w.heap.size + 1 + 1 + 1, 1, none⟩ = false := HD.out.2.2.2.1.at 1 _ rfl
  go_wp2
  have HT := Aside0.mk ((HD.out.set 1 s33).eq (show _ = [s32, s33, s20, s30, s31] from rfl))
  clear HD x2
  generalize wd33.setCell ⟨w.heap.size + 1 + 1 + 1, 1, none⟩ (.int .i64 (s33 : Int)) = wb33 at HT ⊢
  have x0 : wb33.cell? ⟨w.heap.size, 3, none⟩ = some (.int .i64 (d : Int)) ∧ wb33.frozen? ⟨w.heap.size, 3, none⟩ = false := HT.out.1.at 3 _ rfl
  have x1 : wb33.cell? ⟨w.heap.size + 1, 4, none⟩ = some (.int .i64 (y : Int)) ∧ wb33.frozen? ⟨w.heap.size + 1, 4, none⟩ = false := HT.out.2.1.at 4 _ rfl
  rw [rounds_succ]; go_wp2
  go_quiet (fail)
  have HD := Aside0.mk (HT.out.drewN nq)
  clear x0 x1 HT
  generalize wb33.drewN nq = wd34 at HD ⊢
  have x2 : wd34.cell? ⟨w.heap.size + 1 + 1 + 1, 2, none⟩ = some (.int .i64 (s20 : Int)) ∧ wd34.frozen? ⟨w.heap.size + 1 + 1 + 1, 2, none⟩ = false := HD.out.2.2.2.1.at 2 _ rfl
  go_wp2
  have HT := Aside0.mk ((HD.out.set 2 s34).eq (show _ = [s32, s33, s34, s30, s31] from rfl))
  clear HD x2
  generalize wd34.setCell ⟨w.heap.size + 1 + 1 + 1, 2, none⟩ (.int .i64 (s34 : Int)) = wb34 at HT ⊢
  rw [rounds_succ]; go_wp2
  rw [rounds_succ]; go_wp2
  refine wp_loop_rounds 6 ?_
  have x0 : wb34.cell? ⟨w.heap.size, 4, none⟩ = some (.int .i64 (e : Int)) ∧ wb34.frozen? ⟨w.heap.size, 4, none⟩ = false := HT.out.1.at 4 _ rfl
  have x1 : wb34.cell? ⟨w.heap.size + 1, 0, none⟩ = some (.int .i64 (r : Int)) ∧ wb34.frozen? ⟨w.heap.size + 1, 0, none⟩ = false := HT.out.2.1.at 0 _ rfl
  rw [rounds_succ]; go_wp2
  go_quiet (fail)
  have HD := Aside0.mk (HT.out.drewN nq)
  clear x0 x1 HT
  generalize wb34.drewN nq = wd40 at HD ⊢
  have x2 : wd40.cell? ⟨w.heap.size + 1 + 1 + 1, 4, none⟩ = some (.int .i64 (s31 : Int)) ∧ wd40.frozen? ⟨w.heap.size + 1 + 1 + 1, 4, none⟩ = false := HD.out.2.2.2.1.at 4 _ rfl
  go_wp2
  have HT := Aside0.mk ((HD.out.set 4 s40).eq (show _ = [s32, s33, s34, s30, s40] from rfl))
  clear HD x2
  generalize wd40.setCell ⟨w.heap.size + 1 + 1 + 1, 4, none⟩ (.int .i64 (s40 : Int)) = wb40 at HT ⊢
  have x0 : wb40.cell? ⟨w.heap.size, 4, none⟩ = some (.int .i64 (e : Int)) ∧ wb40.frozen? ⟨w.heap.size, 4, none⟩ = false := HT.out.1.at 4 _ rfl
  have x1 : wb40.cell? ⟨w.heap.size + 1, 1, none⟩ = some (.int .i64 (s : Int)) ∧ wb40.frozen? ⟨w.heap.size + 1, 1, none⟩ = false := HT.out.2.1.at 1 _ rfl
  rw [rounds_succ]; go_wp2
  go_quiet (fail)
  have HD := Aside0.mk (HT.out.drewN nq)
  clear x0 x1 HT
  generalize wb40.drewN nq = wd41 at HD ⊢
  have x2 : wd41.cell? ⟨w.heap.size + 1 + 1 + 1, 0, none⟩ = some (.int .i64 (s32 : Int)) ∧ wd41.frozen? ⟨w.heap.size + 1 + 1 + 1, 0, none⟩ = false := HD.out.2.2.2.1.at 0 _ rfl
  go_wp2
  have HT := Aside0.mk ((HD.out.set 0 s41).eq (show _ = [s41, s33, s34, s30, s40] from rfl))
  clear HD x2
  generalize wd41.setCell ⟨w.heap.size + 1 + 1 + 1, 0, none⟩ (.int .i64 (s41 : Int)) = wb41 at HT ⊢
  have x0 : wb41.cell? ⟨w.heap.size, 4, none⟩ = some (.int .i64 (e : Int)) ∧ wb41.frozen? ⟨w.heap.size, 4, none⟩ = false := HT.out.1.at 4 _ rfl
  have x1 : wb41.cell? ⟨w.heap.size + 1, 2, none⟩ = some (.int .i64 (t : Int)) ∧ wb41.frozen? ⟨w.heap.size + 1, 2, none⟩ = false := HT.out.2.1.at 2 _ rfl
  rw [rounds_succ]; go_wp2
  go_quiet (fail)
  have HD := Aside0.mk (HT.out.drewN nq)
  clear x0 x1 HT
  generalize wb41.drewN nq = wd42 at HD ⊢
  have x2 : wd42.cell? ⟨w.heap.size + 1 + 1 + 1, 1, none⟩ = some (.int .i64 (s33 : Int)) ∧ wd42.frozen? ⟨w.heap.size + 1 + 1 + 1, 1, none⟩ = false := HD.out.2.2.2.1.at 1 _ rfl
  go_wp2
  have HT := Aside0.mk ((HD.out.set 1 s42).eq (show _ = [s41, s42, s34, s30, s40] from rfl))
  clear HD x2
  generalize wd42.setCell ⟨w.heap.size + 1 + 1 + 1, 1, none⟩ (.int .i64 (s42 : Int)) = wb42 at HT ⊢
  have x0 : wb42.cell? ⟨w.heap.size, 4, none⟩ = some (.int .i64 (e : Int)) ∧ wb42.frozen? ⟨w.heap.size, 4, none⟩ = false := HT.out.1.at 4 _ rfl
  have x1 : wb42.cell? ⟨w.heap.size + 1, 3, none⟩ = some (.int .i64 (x : Int)) ∧ wb42.frozen? ⟨w.heap.size + 1, 3, none⟩ = false := HT.out.2.1.at 3 _ rfl
  rw [rounds_succ]; go_wp2
  go_quiet (fail)
  have HD := Aside0.mk (HT.out.drewN nq)
  clear x0 x1 HT
  generalize wb42.drewN nq = wd43 at HD ⊢
  have x2 : wd43.cell? ⟨w.heap.size + 1 + 1 + 1, 2, none⟩ = some (.int .i64 (s34 : Int)) ∧ wd43.frozen? ⟨w.heap.size + 1 + 1 + 1, 2, none⟩ = false := HD.out.2.2.2.1.at 2 _ rfl
  go_wp2
  have HT := Aside0.mk ((HD.out.set 2 s43).eq (show _ = [s41, s42, s43, s30, s40] from rfl))
  clear HD x2
  generalize wd43.setCell ⟨w.heap.size + 1 + 1 + 1, 2, none⟩ (.int .i64 (s43 : Int)) = wb43 at HT ⊢
  have x0 : wb43.cell? ⟨w.heap.size, 4, none⟩ = some (.int .i64 (e : Int)) ∧ wb43.frozen? ⟨w.heap.size, 4, none⟩ = false := HT.out.1.at 4 _ rfl
  have x1 : wb43.cell? ⟨w.heap.size + 1, 4, none⟩ = some (.int .i64 (y : Int)) ∧ wb43.frozen? ⟨w.heap.size + 1, 4, none⟩ = false := HT.out.2.1.at 4 _ rfl
  rw [rounds_succ]; go_wp2
  go_quiet (fail)
  have HD := Aside0.mk (HT.out.drewN nq)
  clear x0 x1 HT
  generalize wb43.drewN nq = wd44 at HD ⊢
  have x2 : wd44.cell? ⟨w.heap.size + 1 + 1 + 1, 3, none⟩ = some (.int .i64 (s30 : Int)) ∧ wd44.frozen? ⟨w.heap.size + 1 + 1 + 1, 3, none⟩ = false := HD.out.2.2.2.1.at 3 _ rfl
  go_wp2
  have HT := Aside0.mk ((HD.out.set 3 s44).eq (show _ = [s41, s42, s43, s44, s40] from rfl))
  clear HD x2
  generalize wd44.setCell ⟨w.heap.size + 1 + 1 + 1, 3, none⟩ (.int .i64 (s44 : Int)) = wb44 at HT ⊢
  rw [rounds_succ]; go_wp2
  rw [rounds_succ]
  have B3 := Aside0.mk (HT.out.eq HE.out.symm).2.2.2.1
  have B2 := Aside0.mk HT.out.2.2.1
  have BL := Aside0.mk HT.out.2.2.2.2.1
  have BG := Aside0.mk (show w.heap.size ≤ w.heap.size + 1 + 1 by omega)
  clear HT HE w00 k00 w01 k01 w02 k02 w03 k03 w04 k04 w10 t10 w11 t11 w12 t12 w13 t13 w14 v14 t14 w20 t20 w21 t21 w22 t22 w23 v23 t23 w24 v24 t24 w30 t30 w31 t31 w32 v32 t32 w33 v33 t33 w34 v34 t34 w40 t40 w41 v41 t41 w42 v42 t42 w43 v43 t43 w44 v44 t44 
  generalize w.heap.size + 1 + 1 + 1 = g3 at B3 ⊢
  generalize w.heap.size + 1 + 1 = g2 at B2 BG ⊢
  go_wp2_with (first | ((with_reducible refine wpList_load_row (o := ⟨some 40, .load 80 (.tmp 5), _, _, _, _⟩) ?l3a 80 (.tmp 5) ?l3b (g3) ?l3c 80 (wds .i64 q) (0, 0) ?l3z ?l3d ?l3e ?l3f ?l3g ?_); (case l3a => rfl); (case l3b => rfl); (case l3c => rfl); (case l3d => exact B3.out); (case l3e => exact Try.underlying80); (case l3f => rfl); (case l3g => exact info5i HA.out)) | (go_at_call 84; with_reducible refine (C _).mono ?_; rintro e1 w1 ⟨rfl, hb1⟩; replace hb1 := Aside0.mk hb1) | ((with_reducible refine wpList_store_row (o := ⟨none, .store 80 (.tmp 4) (.tmp 41), _, _, _, _⟩) ?s4a 80 (.tmp 4) (.tmp 41) ?s4b (g2) (wds .i64 (carryN q 3)) ?s4c ?s4d 80 (wds .i64 zeros5) ?s4e ?s4f ?s4g ?s4h ?_); (case s4a => rfl); (case s4b => rfl); (case s4c => rfl); (case s4d => rfl); (case s4e => exact (B2.out.below hb1.out)); (case s4f => exact info5i H3.out.length); (case s4g => rw [wds_size, wds_size, H3.out.length]; rfl); (case s4h => exact wds_one _ _)))
  refine HQ.out _ _ _ ?_
  refine ret_row (p := 4) (ty := 80) rfl g2 80 (wds .i64 (carryN q 3)) _ rfl ((B2.out.below hb1.out).row _) Try.underlying80 rfl (info5i H3.out.length) rfl ⟨rfl, below_setRow (BL.out.trans (hb1.out.mono BL.out.size)) BG.out _⟩
end

end Go.Proofs.Ytihpnededldedaa.Leaf
