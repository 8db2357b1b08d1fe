/-
  impl.tag answers the tag of a text. Conditions: a key of 32 bytes, a text of a million bytes at most.
-/
import Derived.Test.YtihpnededldedaaPolG
import Derived.Test.YtihpnededldedaaPolR
import Derived.Test.YtihpnededldedaaLeafK
import Derived.Test.YtihpnededldedaaCat
namespace Go.Proofs.Ytihpnededldedaa.Leaf
open Go.RowKit Go.Shelf Go.Proofs.YtihpnededldedaaW.PrintWords Go.Proofs.YtihpnededldedaaW.PrintLast Go.Proofs.YtihpnededldedaaW.PrintMore Go.Proofs.Ytihpnededldedaa.Pol

/-- Block j of a text, with a one behind. -/
def blkB (t : ByteArray) (j : Nat) : ByteArray := t.extract (16 * j) (min (16 * j + 16) t.size) ++ ⟨#[1]⟩
def blkOf (t : ByteArray) (j : Nat) : Nat := numF (bts (blkB t j)) (blkB t j).size
def clampB (key : ByteArray) : ByteArray := strOfNums (clampNums key)
def clampR (key : ByteArray) : Nat := numF (bts (clampB key)) 16
/-- The residue of a text. -/
def accOf (key t : ByteArray) (j : Nat) : Nat := accN (blkOf t) (clampR key) j
def tagOf (key t : ByteArray) : ByteArray := strOfNums ((tagNums (accOf key t ((t.size + 15) / 16) % pr) (bts (key.extract 16 key.size)) 16).map fun (x : Nat) => (x : Int))
theorem bts_out (t : ByteArray) (j : Nat) (h : t.size ≤ j) : bts t j = 0 := by
  unfold bts bt
  rw [dif_neg (by rw [Int.toNat_natCast]; omega)]; rfl
theorem clampB_size (key : ByteArray) (h : 16 ≤ key.size) : (clampB key).size = 16 := by
  unfold clampB; rw [strOfNums_size]; unfold clampNums
  rw [maskPart_length, maskPart_length, bytesOf_length, ByteArray.size_extract]; omega
theorem one_size : (⟨#[1]⟩ : ByteArray).size = 1 := rfl
theorem blkB_size (t : ByteArray) (j : Nat) (h : 16 * j < t.size) : (blkB t j).size = min (16 * j + 16) t.size - 16 * j + 1 := by
  unfold blkB; rw [ByteArray.size_append, ByteArray.size_extract, one_size]; omega
theorem blkB_16 (t : ByteArray) (j : Nat) (h : 16 * j < t.size) : bts (blkB t j) 16 ≤ 1 := by
  have hs := blkB_size t j h
  by_cases h16 : (blkB t j).size ≤ 16
  · rw [bts_out _ _ h16]; omega
  · have he : (t.extract (16 * j) (min (16 * j + 16) t.size)).size = 16 := by rw [ByteArray.size_extract]; omega
    have := bt_right (t.extract (16 * j) (min (16 * j + 16) t.size)) ⟨#[1]⟩ 0 (by decide)
    rw [he] at this
    have e1 : bt (⟨#[1]⟩ : ByteArray) ((0 : Nat) : Int) = 1 := by decide
    unfold bts blkB
    rw [show ((16 : Nat) : Int) = ((16 + 0 : Nat) : Int) from rfl, this, e1]; decide
theorem limbs_blk (t : ByteArray) (j : Nat) (h : 16 * j < t.size) (W : World) : Calls Try.prog 87 #[.string (blkB t j)] W fun e w' => e = .returned (.agg (wds .u64 (limbsN (blkOf t j)))) ∧ Below W.heap.size W w' :=
  limbsOf_calls (blkB t j) (by rw [blkB_size t j h]; omega) (blkB_16 t j h) W
theorem numF_130 (f : Nat → Nat) (hf : ∀ j, f j < 256) (h16 : f 16 ≤ 1) : numF f 17 < 1361129467683753853853498429727072845824 := by
  have h := numF_lt f hf 16
  have e : (256 : Nat) ^ 16 = 340282366920938463463374607431768211456 := by decide
  rw [numF, e]; rw [e] at h
  have : f 16 * 340282366920938463463374607431768211456 ≤ 1 * 340282366920938463463374607431768211456 := Nat.mul_le_mul_right _ h16
  omega
theorem numF_17 (t : ByteArray) (hs : t.size ≤ 17) : numF (bts t) 17 = numF (bts t) t.size := by
  have := numF_zero (bts t) t.size (fun j hj => bts_out t j hj) (17 - t.size)
  rw [← this]; congr 1; omega
theorem blk_val (t : ByteArray) (j : Nat) (h : 16 * j < t.size) : val (limbsN (blkOf t j)) = blkOf t j := by
  refine val_limbsN _ ?_
  unfold blkOf
  rw [← numF_17 _ (by rw [blkB_size t j h]; omega)]
  exact numF_130 _ (bts_lt _) (blkB_16 t j h)
theorem clamp_val (key : ByteArray) : val (limbsN (clampR key)) = clampR key := by
  refine val_limbsN _ (Nat.lt_trans (numF_lt _ (bts_lt _) 16) (by decide))
theorem mod_pr_lt (n : Nat) : n % pr < 1361129467683753853853498429727072845824 := Nat.lt_trans (Nat.mod_lt _ (by decide)) (by decide)
theorem Blk.cells5 {w : World} {g : Nat} {t : TypeId} {a b c d e : Nat} (h : Blk w g t (wds .u64 [a, b, c, d, e])) :
    w.cell? ⟨g, 0, none⟩ = some (.int .u64 a) ∧ w.cell? ⟨g, 1, none⟩ = some (.int .u64 b) ∧ w.cell? ⟨g, 2, none⟩ = some (.int .u64 c) ∧ w.cell? ⟨g, 3, none⟩ = some (.int .u64 d) ∧ w.cell? ⟨g, 4, none⟩ = some (.int .u64 e) := by
  obtain ⟨h0, h1, h2, h3, h4⟩ := h.five
  exact ⟨h0.1, h1.1, h2.1, h3.1, h4.1⟩
/-- As wp_hide; a panic looks at the defers alone. -/
theorem wp_hide2 {P : Program} {c : Code} {fn : Func} {R : Ending → World → Prop} {a : Act} {w : World}
    (h : ∀ Q' : Exit → Act → World → Prop, (∀ e a w, bodyPost P fn R e a w → Q' e a w) → (∀ c (a a' : Act) w, a.defers = a'.defers → Q' (.panic c) a w → Q' (.panic c) a' w) → Code.wp P c Q' a w) : Code.wp P c (bodyPost P fn R) a w :=
  h _ (fun _ _ _ h => h) (fun _ _ _ _ hd h => ⟨hd.symm.trans h.1, h.2⟩)
/-- Block g holds v, block h u; all below is as it was. -/
def Tag (w0 wr : World) (g h : Nat) (T : TypeId) (v u : List Nat) : Prop := Blk wr g T (wds .u64 v) ∧ Blk wr h T (wds .u64 u) ∧ Below w0.heap.size w0 wr ∧ h ≠ g
/-- A round of the tag. -/
theorem tag_round (key t : ByteArray) (j : Nat) (h : 16 * j < t.size) (v : List Nat) (hv : Acc v (accOf key t j)) :
    Acc (carryN (mulL (carryN (addL v (limbsN (blkOf t j))) 3) (limbsN (clampR key))) 3) (accOf key t (j + 1)) ∧
    L5 67108864 (carryN (addL v (limbsN (blkOf t j))) 3) := by
  obtain ⟨h1, _, h3, _⟩ := acc_impl hv (limbsN_L5 (blkOf t j)) (limbsN_L5 (clampR key))
  rw [blk_val t j h, clamp_val] at h1
  refine ⟨⟨h1.1, ?_⟩, h3⟩
  exact h1.2

set_option maxRecDepth 100000 in
set_option maxHeartbeats 8000000 in
theorem tag_calls (key t : ByteArray) (hk : key.size = 32) (ht : t.size ≤ 1000000) (w : World) : Calls Try.prog 50 #[.string key, .string t] w fun e w' => e = .returned (.string (tagOf key t)) ∧ Below w.heap.size w w' := by
  have CK := fun W => impl_clamped.calls key (clampB key) W (if_pos (by omega))
  have CL := fun W => limbsOf_calls (clampB key) (by rw [clampB_size key (by omega)]; decide) (by rw [bts_out _ _ (by rw [clampB_size key (by omega)]; decide)]; decide) W
  rw [clampB_size key (by omega)] at CL
  have HR := Lib.hid (show tagOf key t = strOfNums ((tagNums (accOf key t ((t.size + 15) / 16) % pr) (bts (key.extract 16 key.size)) 16).map fun (x : Nat) => (x : Int)) from rfl)
  have HTR := Lib.hid (tag_round key t)
  have HA0 := Lib.hid (show Acc [0, 0, 0, 0, 0] (accOf key t 0) from acc_zero)
  obtain ⟨r0, r1, r2, r3, r4, hr, _⟩ := limbsN_L5 (clampR key)
  have hur := limbsN_L5 (clampR key)
  change ∀ W, Calls Try.prog 87 #[.string (clampB key)] W fun e w' => e = .returned (.agg (wds .u64 (limbsN (clampR key)))) ∧ Below W.heap.size W w' at CL
  rw [hr] at CL HTR hur
  have HK := Lib.hid hk; have HT := Lib.hid ht
  have HU := Lib.hid hur
  clear hr hk ht hur
  generalize clampB key = ck at CK CL
  go_enter Try.func50, Try.ntmps50
  refine wp_hide2 ?_
  intro Qx hQx hPx
  have HQ := Lib.hid hQx
  have HP := Lib.hid hPx
  clear hQx hPx
  go_wp2_with (first | (go_at_call 88; with_reducible refine (CK _).mono ?_; rintro e1 w1 ⟨rfl, hb1⟩; replace hb1 := Aside0.mk hb1) | (go_at_call 87; with_reducible refine (CL _).mono ?_; rintro e2 w2 ⟨rfl, hb2⟩; replace hb2 := Aside0.mk hb2) | ((with_reducible refine wpList_store_row (o := ⟨none, .store 90 (.tmp 6) (.tmp 10), _, _, _, _⟩) ?s1a 90 (.tmp 6) (.tmp 10) ?s1b (w2.heap.size) (wds .u64 [r0, r1, r2, r3, r4]) ?s1c ?s1d 90 (wds .u64 zeros5) ?s1e ?s1f ?s1g ?s1h ?_); (case s1a => rfl); (case s1b => rfl); (case s1c => rfl); (case s1d => rfl); (case s1e => exact Blk.new' _ _ _ _ rfl); (case s1f => exact info5u rfl); (case s1g => rfl); (case s1h => exact wds_one _ _)))
  have B0 := Blk.new w 90 (wds .u64 zeros5)
  have LE1 := hb1.out.size
  have LE2 := hb2.out.size
  have hlt := (B0.below hb1.out).lt
  simp only [World.size_alloc] at LE1
  refine wp_world (fun W => Tag w W w.heap.size w2.heap.size 90 [0, 0, 0, 0, 0] [r0, r1, r2, r3, r4]) ⟨?_, ?_, ?_, ?_⟩ ?_
  · exact ((((B0.below hb1.out).below hb2.out).alloc _).rowOther _ (by omega) _)
  · exact (Blk.new' _ _ _ _ rfl).row _
  · exact below_setRow (below_alloc (((below_alloc (Below.refl _ _) _).trans (hb1.out.mono (by simp))).trans (hb2.out.mono (by omega))) _) (by omega) _
  · omega
  intro wb HW
  have HT1 := Aside0.mk HW
  clear HW hb1 hb2 B0 LE1 LE2 hlt CK CL
  generalize w2.heap.size = gr at HT1 ⊢
  go_loopg [7] t.size (fun gg s7 wr => ∃ (j : Nat) (x0 x1 x2 x3 x4 p : Nat), s7 = .int .i64 p ∧ Aside0 (p = 16 * j) ∧ p ≤ t.size + 15 ∧ j ≤ (t.size + 15) / 16 ∧ t.size ≤ gg + p ∧ Aside0 (Acc [x0, x1, x2, x3, x4] (accOf key t j)) ∧ Aside0 (Tag w wr w.heap.size gr 90 [x0, x1, x2, x3, x4] [r0, r1, r2, r3, r4]))
  case atStart => exact ⟨0, 0, 0, 0, 0, 0, 0, rfl, ⟨rfl⟩, by omega, by omega, by omega, ⟨HA0.out⟩, HT1⟩
  case round =>
    clear HT1 HA0
    obtain ⟨j, h0, h1, h2, h3, h4, p, rfl, HJ, hp, hj, hg, HA, HTg⟩ := hrel
    have hts := HT.out
    by_cases hlt : p < t.size
    · have c1 : decide ((p : Int) < (t.size : Int)) = true := decide_eq_true (by omega)
      have c1' : decide (p < t.size) = true := decide_eq_true hlt
      obtain ⟨hacc, hs⟩ := HTR.out j (by have := HJ.out; omega) _ HA.out
      have C1 := fun W => limbs_blk t j (by have := HJ.out; omega) W
      have hm := limbsN_L5 (blkOf t j)
      generalize limbsN (blkOf t j) = m at C1 hm hacc hs
      have C2 := fun W => plus_calls [h0, h1, h2, h3, h4] m HA.out.1 hm W
      generalize carryN (addL [h0, h1, h2, h3, h4] m) 3 = sm at C2 hs hacc
      have C3 := fun W => times_calls sm [r0, r1, r2, r3, r4] hs HU.out W
      generalize carryN (mulL sm [r0, r1, r2, r3, r4]) 3 = xm at C3 hacc
      obtain ⟨x0, x1, x2, x3, x4, rfl, _⟩ := hacc.1
      have HACC := Aside0.mk hacc
      have C1' : ∀ W, Calls Try.prog 87 #[.string (t.extract p (min (p + 16) t.size) ++ ⟨#[1]⟩)] W fun e w' => e = .returned (.agg (wds .u64 m)) ∧ Below W.heap.size W w'   := by rw [HJ.out]; exact C1
      clear hacc hs hm C1
      go_wp2
      refine tag_r6 _ w.heap.size w.heap.size gr t _ p _ m sm h0 h1 h2 h3 h4 r0 r1 r2 r3 r4 x0 x1 x2 x3 x4 _ _ _ _ _ _ _ _ _ _ _ _ _ _ _ _ _ _ _ _ _ _ _ _ _ _ _ _ _ _ _ _ _ ?hq HTg.out.1 HTg.out.2.1 (Nat.le_refl _) HTg.out.2.2.2 hlt rfl hts rfl C1' C2 C3 ?_
      case hq => exact fun c a a' w hd h => HP.out c a a' w hd h
      intro wn _ _ _ _ _ _ _ _ _ _ _ _ _ _ b1 b2 b3
      have HTn : Aside0 (Tag w wn w.heap.size gr 90 [x0, x1, x2, x3, x4] [r0, r1, r2, r3, r4]) := ⟨b1, b2, HTg.out.2.2.1.trans b3, HTg.out.2.2.2⟩
      clear b1 b2 b3 C1' C2 C3 HTg HA
      go_wp2
      go_roundg (t.size - (p + 16))
      case measure => omega
      case rel => exact ⟨j + 1, x0, x1, x2, x3, x4, p + 16, by go_num, ⟨by have := HJ.out; omega⟩, by omega, by have := HJ.out; omega, by omega, HACC, HTn⟩
    · have c1 : decide ((p : Int) < (t.size : Int)) = false := decide_eq_false (by omega)
      have c1' : decide (p < t.size) = false := decide_eq_false hlt
      have hacc := HA.out
      rw [show j = (t.size + 15) / 16 by have := HJ.out; omega] at hacc
      have CR := fun W => reduced_calls [h0, h1, h2, h3, h4] HA.out.1 W
      rw [hacc.2] at CR
      have hl := limbsN_L5 (accOf key t ((t.size + 15) / 16) % pr)
      have hks : (key.extract 16 key.size).size = 16 := by rw [ByteArray.size_extract, HK.out]; rfl
      have CB := fun W => bytes_calls (limbsN (accOf key t ((t.size + 15) / 16) % pr)) hl (key.extract 16 key.size) (by omega) W
      rw [val_limbsN _ (mod_pr_lt _), ← HR.out] at CB
      generalize limbsN (accOf key t ((t.size + 15) / 16) % pr) = ls at CR CB
      have HTg1 : Aside0 (Blk wr w.heap.size 90 (wds .u64 [h0, h1, h2, h3, h4])) := ⟨HTg.out.1⟩
      have s1 : ((16 : Int) ≤ (key.size : Int)) = True := eq_true (by have := HK.out; omega)
      have s2 : ((key.size : Int) < 16) = False := eq_false (by have := HK.out; omega)
      have s3 : (16 ≤ key.size) = True := eq_true (by have := HK.out; omega)
      have s4 : (key.size < 16) = False := eq_false (by have := HK.out; omega)
      obtain ⟨x0, x1, x2, x3, x4⟩ := HTg1.out.five
      clear hacc hl hks
      have HB0 := Aside0.mk HTg.out.2.2.1
      clear HTg HA HTR
      have CR' : ∀ W, Calls Try.prog 91 #[.agg #[.int .u64 h0, .int .u64 h1, .int .u64 h2, .int .u64 h3, .int .u64 h4]] W fun e w' => e = .returned (.agg (wds .u64 ls)) ∧ Below W.heap.size W w' := CR
      clear CR
      go_wp2
      go_region_held3 (fun W => W.cell? ⟨w.heap.size, 0, none⟩ = some (.int .u64 h0) ∧ W.cell? ⟨w.heap.size, 1, none⟩ = some (.int .u64 h1) ∧ W.cell? ⟨w.heap.size, 2, none⟩ = some (.int .u64 h2) ∧ W.cell? ⟨w.heap.size, 3, none⟩ = some (.int .u64 h3) ∧ W.cell? ⟨w.heap.size, 4, none⟩ = some (.int .u64 h4)) ((refine Blk.cells5 (t := 90) ?_; repeat (first | (with_reducible exact HTg1.out) | (with_reducible refine Blk.below ?_ hbr) | (with_reducible refine Blk.below ?_ hbs) | (with_reducible refine Blk.drewN ?_ _) | (with_reducible refine Blk.drew ?_))))
        (first | (go_at_call 91; with_reducible refine (CR' _).mono ?_; rintro e3 w3 ⟨rfl, hbr⟩) | (go_at_call 92; with_reducible refine (CB _).mono ?_; rintro e4 w4 ⟨rfl, hbs⟩))
      have HBZ := Aside0.mk (HB0.out.drew.trans ((hbr.mono HB0.out.size).trans (hbs.mono (Nat.le_trans HB0.out.size hbr.size))))
      clear hbr hbs
      go_wp2
      refine HQ.out _ _ _ ?_
      go_ret
      exact ⟨rfl, HBZ.out⟩

end Go.Proofs.Ytihpnededldedaa.Leaf
