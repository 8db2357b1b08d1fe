/-
  The limbs of at most seventeen bytes, the program's way: bit by bit. Conditions: the number is below 2 to the 130.
-/
import Derived.Test.YtihpnededldedaaPolT
namespace Go.Proofs.Ytihpnededldedaa.Leaf
open Go.RowKit Go.Shelf Go.Proofs.YtihpnededldedaaW.PrintWords Go.Proofs.YtihpnededldedaaW.PrintLast Go.Proofs.YtihpnededldedaaW.PrintMore Go.Proofs.Ytihpnededldedaa.Pol

/-- A string's bytes as natural numbers. -/
def bts (t : ByteArray) (j : Nat) : Nat := (bt t (j : Int)).toNat
theorem bts_lt (t : ByteArray) (j : Nat) : bts t j < 256 := by have := bt_range t (j : Int); unfold bts; omega
theorem bts_int (t : ByteArray) (j : Nat) : bt t (j : Int) = (bts t j : Int) := by have := bt_range t (j : Int); unfold bts; omega
/-- Block g + 1 holds the limbs of the bytes so far, block g five zeros, the next the bytes; all below is as it was. -/
def Lim (w0 wr : World) (g : Nat) (T : TypeId) (t : ByteArray) (n : Nat) : Prop := Blk wr g T (wds .u64 zeros5) ∧ Blk wr (g + 1) T (wds .u64 (limbsN n)) ∧ Row wr (g + 1 + 1) .u8 (bytesOf t) ∧ Below w0.heap.size w0 wr ∧ w0.heap.size = g
theorem Lim.start (w : World) (T e : TypeId) (t : ByteArray) : Lim w (Lib.bytesWorld ((w.alloc (.cells (wds .u64 zeros5) T)).alloc (.cells (wds .u64 zeros5) T)) e t) w.heap.size T t 0 := by
  have hb := bytes_below (Below.refl ((w.alloc (.cells (wds .u64 zeros5) T)).alloc (.cells (wds .u64 zeros5) T)).heap.size ((w.alloc (.cells (wds .u64 zeros5) T)).alloc (.cells (wds .u64 zeros5) T))) (Nat.le_refl _) e t
  refine ⟨((Blk.new _ _ _).alloc _).below hb, ?_, ?_, (below_alloc (below_alloc (Below.refl _ _) _) _).trans (hb.mono (by simp; omega)), rfl⟩
  · exact Blk.below (Blk.new' _ _ _ _ (by simp)) hb
  · have := Row.bytes ((w.alloc (.cells (wds .u64 zeros5) T)).alloc (.cells (wds .u64 zeros5) T)) e t
    simpa using this
theorem Lim.set {w0 wr : World} {g : Nat} {T : TypeId} {t : ByteArray} {n m : Nat} (H : Lim w0 wr g T t n) (i v : Nat) (h : (limbsN n).set i v = limbsN m) : Lim w0 (wr.setCell ⟨g + 1, i, none⟩ (.int .u64 (v : Int))) g T t m :=
  ⟨H.1.other _ (by simp) _, (H.2.1.wset i v).eq (by rw [h]), H.2.2.1.other _ (by simp) _, H.2.2.2.1.setCell (p := ⟨g + 1, i, none⟩) (by have := H.2.2.2.2; simp; omega) _, H.2.2.2.2⟩
theorem Lim.drew {w0 wr : World} {g : Nat} {T : TypeId} {t : ByteArray} {n : Nat} (H : Lim w0 wr g T t n) : Lim w0 wr.drew g T t n := ⟨H.1.drew, H.2.1.drew, H.2.2.1.drew, H.2.2.2.1.drew, H.2.2.2.2⟩
theorem and_u8 (a b : Nat) (ha : a < 2 ^ 8) (hb : b < 2 ^ 8) : Go.bits .and .u8 (a : Int) (b : Int) = ((a &&& b : Nat) : Int) :=
  (bits_nat .u8 8 (by decide) (fun n h0 h1 => wraps_u8 n h0 h1) a b ha hb).1
theorem shl_one (r : Nat) (hr : r < 26) : IntKind.u64.wrap ((2 : Int) ^ r) = ((2 ^ r : Nat) : Int) := by
  have hp : 2 ^ r ≤ 2 ^ 25 := Nat.pow_le_pow_right (by decide) (by omega)
  have e : ((2 : Int) ^ r) = ((2 ^ r : Nat) : Int) := by push_cast; rfl
  rw [e]
  exact wraps_u64 _ (Int.natCast_nonneg _) (by omega)
/-- What one bit's step reckons. -/
theorem bit_names (t : ByteArray) (i b : Nat) (hi : i < 17) (hb : b < 8) (h16 : bts t 16 ≤ 1) (h1 : bts t i / 2 ^ b % 2 = 1) :
    ∃ q r P v n : Nat, (q < 5 ∧ (8 * i + b) / 26 = q ∧ (8 * i + b) % 26 = r ∧ r < 26) ∧ IntKind.u64.wrap ((2 : Int) ^ r) = (P : Int) ∧ (limbsN (bitsF (bts t) i b)).getD q 0 = v ∧
      Go.bits .or .u64 (v : Int) (P : Int) = (n : Int) ∧ (limbsN (bitsF (bts t) i b)).set q n = limbsN (bitsF (bts t) i (b + 1)) := by
  have hat : 8 * i + b < 130 := by
    by_cases e : i = 16
    · subst e
      have hz : b = 0 := by
        rcases Nat.eq_zero_or_pos b with h0 | h0
        · exact h0
        · have : bts t 16 / 2 ^ b = 0 := Nat.div_eq_of_lt (Nat.lt_of_le_of_lt h16 (Nat.one_lt_two_pow (by omega)))
          rw [this] at h1; cases h1
      omega
    · omega
  have hr : (8 * i + b) % 26 < 26 := Nat.mod_lt _ (by decide)
  refine ⟨(8 * i + b) / 26, (8 * i + b) % 26, 2 ^ ((8 * i + b) % 26), _, _, ⟨by omega, rfl, rfl, hr⟩, shl_one _ hr, rfl, or_u64 _ _ ?_ ?_, bit_in (bts t) (bts_lt t) i b h1 hat⟩
  · obtain ⟨a, b', c, d, e, hl, ha, hb', hc, hd, he⟩ := limbsN_L5 (bitsF (bts t) i b)
    rw [limb_at _ (limbsN_L5 _) _ (by omega)]
    exact Nat.lt_trans (Nat.mod_lt _ (by decide)) (by decide)
  · exact Nat.pow_lt_pow_right (by decide) (by omega)
theorem bit_of (y b : Nat) (hy : y < 256) : (y / 2 ^ b % 2 = 1 → Go.bits .and .u8 ((y : Int) / 2 ^ b) 1 = 1) ∧ (y / 2 ^ b % 2 = 0 → Go.bits .and .u8 ((y : Int) / 2 ^ b) 1 = 0) := by
  have hz : y / 2 ^ b < 256 := Nat.lt_of_le_of_lt (Nat.div_le_self _ _) hy
  have ha := and_u8 (y / 2 ^ b) 1 (by omega) (by decide)
  rw [Nat.and_one_is_mod] at ha
  push_cast at ha
  refine ⟨fun h => ?_, fun h => ?_⟩
  · have e := congrArg (fun n : Nat => (n : Int)) h
    push_cast at e
    rw [ha, e]
  · have e := congrArg (fun n : Nat => (n : Int)) h
    push_cast at e
    rw [ha, e]

set_option maxRecDepth 100000 in
set_option maxHeartbeats 8000000 in
theorem limbsOf_calls (t : ByteArray) (hs : t.size ≤ 17) (h16 : bts t 16 ≤ 1) (w : World) : Calls Try.prog 87 #[.string t] w fun e w' => e = .returned (.agg (wds .u64 (limbsN (numF (bts t) t.size)))) ∧ Below w.heap.size w w' := by
  have kb := fun W => print_bytes (P := Try.prog) 9 75 5 Try.underlying9 Try.underlying75 Try.underlying5 t W
  have H16 := Lib.hid h16
  clear h16
  go_enter Try.func87, Try.ntmps87
  refine wp_hide ?_
  intro Qx hQx
  have HQ := Lib.hid hQx
  clear hQx
  go_wp2
  clear kb
  go_loopg [11] t.size (fun gg s11 wr => ∃ i : Nat, s11 = .int .i64 i ∧ i ≤ t.size ∧ t.size ≤ gg + i ∧ Aside0 (Lim w wr w.heap.size 90 t (numF (bts t) i)))
  case atStart => exact ⟨0, rfl, by omega, by omega, ⟨Lim.start w _ _ t⟩⟩
  case round =>
    obtain ⟨i, rfl, hi, hg, HT⟩ := hrel
    by_cases hlt : i < t.size
    · have c1 : decide ((i : Int) < (t.size : Int)) = true := decide_eq_true (by omega)
      have c1' : decide (i < t.size) = true := decide_eq_true hlt
      obtain ⟨x0, _⟩ := HT.out.2.2.1.at (i : Int) (by omega) (by rw [bytesOf_length]; omega)
      rw [rd_bytesOf, bts_int, Int.toNat_natCast] at x0
      go_wp2
      have HF := Lib.hid (show bitsF (bts t) i 8 = numF (bts t) (i + 1) from bitsF_eight _ (bts_lt t) i)
      have hi17 : i < 17 := by omega
      rw [← bitsF_zero] at HT
      clear x0
      go_loopg [16] 8 (fun gg s16 wq => ∃ b : Nat, s16 = .int .i64 b ∧ b ≤ 8 ∧ 8 ≤ gg + b ∧ Aside0 (Lim w wq w.heap.size 90 t (bitsF (bts t) i b)))
      case atStart => exact ⟨0, rfl, by omega, by omega, HT⟩
      case round =>
        clear HT
        obtain ⟨b, rfl, hb, hg2, HT⟩ := hrel
        by_cases hltb : b < 8
        · have c2 : decide ((b : Int) < 8) = true := decide_eq_true (by omega)
          obtain ⟨hz1, hz0⟩ := bit_of (bts t i) b (bts_lt t i)
          by_cases h1 : bts t i / 2 ^ b % 2 = 1
          · obtain ⟨q, r, P, v, n, ⟨hq5, hq, hr, hr26⟩, hP, hv, hn, hset⟩ := bit_names t i b hi17 hltb H16.out h1
            have b1 := hz1 h1
            clear hz1 hz0 h1
            have x1 : wr.cell? ⟨w.heap.size + 1, q, none⟩ = some (.int .u64 (v : Int)) ∧ wr.frozen? ⟨w.heap.size + 1, q, none⟩ = false := by
              have := HT.out.2.1.wat q (by rw [(limbsN_L5 _).length]; exact hq5)
              rw [hv] at this; exact this
            have e1 : (8 * (i : Int) + (b : Int)) / 26 = (q : Int) := by omega
            have e2 : (8 * (i : Int) + (b : Int)) % 26 = (r : Int) := by omega
            have e3 : Int.tdiv (8 * (i : Int) + (b : Int)) 26 = (q : Int) := by rw [Int.tdiv_eq_ediv_of_nonneg (by omega)]; exact e1
            have e4 : Int.tmod (8 * (i : Int) + (b : Int)) 26 = (r : Int) := by rw [Int.tmod_eq_emod_of_nonneg (by omega)]; exact e2
            have p0 : (0 ≤ (q : Int)) = True := eq_true (by omega)
            have p1 : ((q : Int) < 5) = True := eq_true (by omega)
            have p2 : (q < 5) = True := eq_true hq5
            have p3 : (0 ≤ (r : Int)) = True := eq_true (by omega)
            have p4 : ((r : Int) < 0) = False := eq_false (by omega)
            have w1 : IntKind.i64.wrap (q : Int) = (q : Int) := wraps_i64 _ (by omega) (by omega)
            have w2 : IntKind.i64.wrap (r : Int) = (r : Int) := wraps_i64 _ (by omega) (by omega)
            have HSET := Lib.hid hset
            have HV := Lib.hid hv
            clear hset hv hq hr
            go_wp2
            go_still_tail 9, (by kernel_rfl)
            change wpList _ _ _ _ _ wr.drew
            have HD := Aside0.mk HT.out.drew
            clear x1 HT
            generalize wr.drew = wd at HD ⊢
            have x1 : wd.cell? ⟨w.heap.size + 1, q, none⟩ = some (.int .u64 (v : Int)) ∧ wd.frozen? ⟨w.heap.size + 1, q, none⟩ = false := by
              have := HD.out.2.1.wat q (by rw [(limbsN_L5 _).length]; exact hq5)
              rw [HV.out] at this; exact this
            go_wp2
            have HT := Aside0.mk (HD.out.set q n HSET.out)
            clear x1 HD HSET HV e1 e2 e3 e4 p0 p1 p2 p3 p4 w1 w2 hP hn b1
            generalize wd.setCell ⟨w.heap.size + 1, q, none⟩ (.int .u64 (n : Int)) = we at HT ⊢
            go_roundg (8 - (b + 1))
            case measure => omega
            case rel => exact ⟨b + 1, by go_num, by omega, by omega, HT⟩
          · have b0 := hz0 (by omega)
            rw [← bit_out (bts t) i b (by omega)] at HT
            clear hz1 hz0 h1
            go_wp2
            go_roundg (8 - (b + 1))
            case measure => omega
            case rel => exact ⟨b + 1, by go_num, by omega, by omega, HT⟩
        · have c2 : decide ((b : Int) < 8) = false := decide_eq_false (by omega)
          obtain rfl : b = 8 := by omega
          rw [HF.out] at HT
          clear HF
          go_wp2
          go_roundg (t.size - (i + 1))
          case measure => omega
          case rel => exact ⟨i + 1, by go_num, by omega, by omega, HT⟩
    · have c1 : decide ((i : Int) < (t.size : Int)) = false := decide_eq_false (by omega)
      have c1' : decide (i < t.size) = false := decide_eq_false hlt
      obtain rfl : i = t.size := by omega
      have hl5 := Lib.hid (limbsN_L5 (numF (bts t) t.size)).length
      go_wp2_with (first | ((with_reducible refine wpList_load_row (o := ⟨some 39, .load 90 (.tmp 3), _, _, _, _⟩) ?l1a 90 (.tmp 3) ?l1b (w.heap.size + 1) ?l1c 90 (wds .u64 (limbsN (numF (bts t) t.size))) (0, 0) ?l1z ?l1d ?l1e ?l1f ?l1g ?_); (case l1a => rfl); (case l1b => rfl); (case l1c => rfl); (case l1d => exact HT.out.2.1); (case l1e => exact Try.underlying90); (case l1f => rfl); (case l1g => exact info5u hl5.out)) | ((with_reducible refine wpList_store_row (o := ⟨none, .store 90 (.tmp 2) (.tmp 39), _, _, _, _⟩) ?s2a 90 (.tmp 2) (.tmp 39) ?s2b (w.heap.size) (wds .u64 (limbsN (numF (bts t) t.size))) ?s2c ?s2d 90 (wds .u64 zeros5) ?s2e ?s2f ?s2g ?s2h ?_); (case s2a => rfl); (case s2b => rfl); (case s2c => rfl); (case s2d => rfl); (case s2e => exact HT.out.1); (case s2f => exact info5u hl5.out); (case s2g => rw [wds_size, wds_size, hl5.out]; rfl); (case s2h => exact wds_one _ _)))
      refine HQ.out _ _ _ ?_
      refine ret_row (p := 2) (ty := 90) rfl w.heap.size 90 (wds .u64 (limbsN (numF (bts t) t.size))) _ rfl (HT.out.1.row _) Try.underlying90 rfl (info5u hl5.out) rfl ⟨rfl, below_setRow HT.out.2.2.2.1 (Nat.le_refl _) _⟩

end Go.Proofs.Ytihpnededldedaa.Leaf
