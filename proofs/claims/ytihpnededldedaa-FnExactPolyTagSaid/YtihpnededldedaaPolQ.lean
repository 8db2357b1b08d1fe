/-
  The limbs of seventeen bytes, the reference's way: byte by byte. Conditions: seventeen bytes at least.
-/
import Derived.Test.YtihpnededldedaaPolL
namespace Go.Proofs.Ytihpnededldedaa.Leaf
open Go.RowKit Go.Shelf Go.Proofs.YtihpnededldedaaW.PrintWords Go.Proofs.YtihpnededldedaaW.PrintLast Go.Proofs.YtihpnededldedaaW.PrintMore Go.Proofs.Ytihpnededldedaa.Pol

/-- Block g holds five zeros, the next s; all below is as it was. -/
def Par (w0 wr : World) (g : Nat) (T : TypeId) (s : List Nat) : Prop := Blk wr g T (wds .i64 zeros5) ∧ Blk wr (g + 1) T (wds .i64 s) ∧ Below w0.heap.size w0 wr ∧ w0.heap.size = g
theorem Par.start (w : World) (T : TypeId) : Par w ((w.alloc (.cells (wds .i64 zeros5) T)).alloc (.cells (wds .i64 zeros5) T)) w.heap.size T (limbsN 0) :=
  ⟨(Blk.new _ _ _).alloc _, Blk.new' _ _ _ _ (by simp), below_alloc (below_alloc (Below.refl _ _) _) _, rfl⟩
theorem Par.set {w0 wr : World} {g : Nat} {T : TypeId} {s : List Nat} (H : Par w0 wr g T s) (i v : Nat) : Par w0 (wr.setCell ⟨g + 1, i, none⟩ (.int .i64 (v : Int))) g T (s.set i v) :=
  ⟨H.1.other _ (by simp) _, H.2.1.wset i v, H.2.2.1.setCell (p := ⟨g + 1, i, none⟩) (by have := H.2.2.2; simp; omega) _, H.2.2.2⟩
theorem Par.drew {w0 wr : World} {g : Nat} {T : TypeId} {s : List Nat} (H : Par w0 wr g T s) : Par w0 wr.drew g T s := ⟨H.1.drew, H.2.1.drew, H.2.2.1.drew, H.2.2.2⟩
theorem Par.eq {w0 wr : World} {g : Nat} {T : TypeId} {s s' : List Nat} (H : Par w0 wr g T s) (e : s = s') : Par w0 wr g T s' := e ▸ H
theorem shl_by (y r : Nat) (hy : y < 256) (hr : r < 26) : IntKind.i64.wrap ((y : Int) * 2 ^ r) = ((y * 2 ^ r : Nat) : Int) ∧ y * 2 ^ r < 2 ^ 34 := by
  have hp : 2 ^ r ≤ 2 ^ 25 := Nat.pow_le_pow_right (by decide) (by omega)
  have hm : y * 2 ^ r ≤ 255 * 2 ^ 25 := Nat.mul_le_mul (by omega) hp
  have e : ((y : Int) * 2 ^ r) = ((y * 2 ^ r : Nat) : Int) := by push_cast; rfl
  rw [e]
  exact ⟨wraps_i64 _ (Int.natCast_nonneg _) (by omega), by omega⟩
/-- What one byte's step reckons. -/
theorem part_names (t : ByteArray) (i : Nat) (hi : i < 17) :
    ∃ q r y s m v n : Nat, ((8 * i / 26 = q ∧ 8 * i % 26 = r ∧ r < 26 ∧ q < 5 ∧ (q = 4 → i ≠ 13 → True)) ∧ bts t i = y) ∧ IntKind.i64.wrap ((y : Int) * 2 ^ r) = (s : Int) ∧ Go.bits .and .i64 (s : Int) 67108863 = (m : Int) ∧
      (limbsN (numF (bts t) i)).getD q 0 = v ∧ IntKind.i64.wrap ((v : Int) + (m : Int)) = (n : Int) ∧
      (¬ (18 < r ∧ q < 4) → Hid ((limbsN (numF (bts t) i)).set q n = limbsN (numF (bts t) (i + 1)))) ∧
      (18 < r ∧ q < 4 → ∃ d v2 p n2 : Nat, d ≤ 26 ∧ IntKind.i64.wrap (26 - (r : Int)) = (d : Int) ∧ IntKind.i64.wrap ((q : Int) + 1) = ((q + 1 : Nat) : Int) ∧ (y : Int) / 2 ^ d = (p : Int) ∧
        ((limbsN (numF (bts t) i)).set q n).getD (q + 1) 0 = v2 ∧ IntKind.i64.wrap ((v2 : Int) + (p : Int)) = (n2 : Int) ∧ Hid (((limbsN (numF (bts t) i)).set q n).set (q + 1) n2 = limbsN (numF (bts t) (i + 1)))) := by
  have hb := bts_lt t i
  have hstep := byteStep i (numF (bts t) i) (bts t i) hi (numF_lt (bts t) (bts_lt t) i) hb
  have hr : 8 * i % 26 < 26 := Nat.mod_lt _ (by decide)
  obtain ⟨h1, h2⟩ := shl_by (bts t i) (8 * i % 26) hb hr
  have hv : ∀ q, (limbsN (numF (bts t) i)).getD q 0 < 67108864 := by
    intro q
    by_cases hq : q < 5
    · rw [limb_at _ (limbsN_L5 _) q hq]; exact Nat.mod_lt _ (by decide)
    · have : (limbsN (numF (bts t) i)).getD q 0 = 0 := by
        rw [List.getD_eq_getElem?_getD, List.getElem?_eq_none (by rw [(limbsN_L5 _).length]; omega)]; rfl
      omega
  have hm : bts t i * 2 ^ (8 * i % 26) % 67108864 < 67108864 := Nat.mod_lt _ (by decide)
  have hv1 := hv (8 * i / 26)
  unfold byteIn at hstep
  refine ⟨8 * i / 26, 8 * i % 26, bts t i, _, _, _, _, ⟨⟨rfl, rfl, hr, by omega, fun _ _ => trivial⟩, rfl⟩, h1, low_i64 _ (by omega), rfl, add_i64 _ _ _ rfl (by omega), fun hn => Lib.hid ?_, fun hy => ?_⟩
  · simp only [if_neg hn] at hstep
    exact hstep
  · simp only [if_pos hy] at hstep
    have hd : bts t i / 2 ^ (26 - 8 * i % 26) < 256 := Nat.lt_of_le_of_lt (Nat.div_le_self _ _) hb
    have hu : ((limbsN (numF (bts t) i)).set (8 * i / 26) ((limbsN (numF (bts t) i)).getD (8 * i / 26) 0 + bts t i * 2 ^ (8 * i % 26) % 67108864)).getD (8 * i / 26 + 1) 0 < 67108864 := by
      rw [List.getD_eq_getElem?_getD, List.getElem?_set_ne (by omega), ← List.getD_eq_getElem?_getD]; exact hv _
    refine ⟨26 - 8 * i % 26, _, bts t i / 2 ^ (26 - 8 * i % 26), _, by omega, ?_, ?_, by push_cast; rfl, rfl, add_i64 _ _ _ rfl (by omega), Lib.hid hstep⟩
    · rw [wraps_i64 _ (by omega) (by omega)]; omega
    · rw [wraps_i64 _ (by omega) (by omega)]; omega

set_option maxRecDepth 100000 in
set_option maxHeartbeats 8000000 in
theorem l03Parts_calls (t : ByteArray) (hs : 17 ≤ t.size) (w : World) : Calls Try.prog 80 #[.string t] w fun e w' => e = .returned (.agg (wds .i64 (limbsN (numF (bts t) 17)))) ∧ Below w.heap.size w w' := by
  go_enter Try.func80, Try.ntmps80
  refine wp_hide ?_
  intro Qx hQx
  have HQ := Lib.hid hQx
  clear hQx
  go_wp2
  go_loopg [4] 17 (fun gg s4 wr => ∃ i : Nat, s4 = .int .i64 i ∧ i ≤ 17 ∧ 17 ≤ gg + i ∧ Aside0 (Par w wr w.heap.size 80 (limbsN (numF (bts t) i))))
  case atStart => exact ⟨0, rfl, by omega, by omega, ⟨Par.start w _⟩⟩
  case round =>
    obtain ⟨i, rfl, hi, hg, HT⟩ := hrel
    by_cases hlt : i < 17
    · have c1 : decide ((i : Int) < 17) = true := decide_eq_true (by omega)
      obtain ⟨q, r, y, s, m, v, n, ⟨⟨hq, hr, hr26, hq5, _⟩, hy⟩, f1, f2, hv, f3, hno, hyes⟩ := part_names t i hlt
      have hlt' : i < t.size := by omega
      have hby : wrap64 ((t[i]'hlt').toNat : Int) = (y : Int) := by
        have h0 : bt t (i : Int) = ((t[i]'hlt').toNat : Int) := dif_pos hlt'
        have h1 := bts_lt t i
        rw [← h0, bts_int, hy]
        exact wrap_ok _ (by omega) (by omega)
      have hin : ((i : Int) < (t.size : Int)) = True := eq_true (by omega)
      have e1 : (8 * (i : Int)) / 26 = (q : Int) := by omega
      have e2 : (8 * (i : Int)) % 26 = (r : Int) := by omega
      have e3 : Int.tdiv (8 * (i : Int)) 26 = (q : Int) := by rw [Int.tdiv_eq_ediv_of_nonneg (by omega)]; exact e1
      have e4 : Int.tmod (8 * (i : Int)) 26 = (r : Int) := by rw [Int.tmod_eq_emod_of_nonneg (by omega)]; exact e2
      have p0 : (0 ≤ (q : Int)) = True := eq_true (by omega)
      have p1 : ((q : Int) < 5) = True := eq_true (by omega)
      have p2 : (q < 5) = True := eq_true hq5
      have p3 : (0 ≤ (r : Int)) = True := eq_true (by omega)
      have p4 : ((r : Int) < 0) = False := eq_false (by omega)
      have w1 : IntKind.i64.wrap (q : Int) = (q : Int) := wraps_i64 _ (by omega) (by omega)
      have w2 : IntKind.i64.wrap (r : Int) = (r : Int) := wraps_i64 _ (by omega) (by omega)
      have HV := Lib.hid hv
      have hwat : Hid (q < (limbsN (numF (bts t) i)).length) := Lib.hid (by rw [(limbsN_L5 _).length]; exact hq5)
      have hwat1 : Hid (q < 4 → q + 1 < ((limbsN (numF (bts t) i)).set q n).length) := Lib.hid (fun h => by rw [List.length_set, (limbsN_L5 _).length]; omega)
      generalize limbsN (numF (bts t) i) = cur at HT HV hno hyes hwat hwat1
      generalize hnxt : limbsN (numF (bts t) (i + 1)) = nxt at hno hyes
      have HNX := Lib.hid hnxt
      clear hnxt
      have x1 : wr.cell? ⟨w.heap.size + 1, q, none⟩ = some (.int .i64 (v : Int)) ∧ wr.frozen? ⟨w.heap.size + 1, q, none⟩ = false := by
        have := HT.out.2.1.wat q hwat.out
        rw [HV.out] at this; exact this
      have HNO := Lib.hid hno
      have HYES := Lib.hid hyes
      have HR := Lib.hid hr26
      clear hno hyes hv hq hr hy hr26
      go_wp2
      go_still_tail 11, (by kernel_rfl)
      change wpList _ _ _ _ _ wr.drew
      have HD := Aside0.mk HT.out.drew
      clear x1 HT
      generalize wr.drew = wd at HD ⊢
      have x1 : wd.cell? ⟨w.heap.size + 1, q, none⟩ = some (.int .i64 (v : Int)) ∧ wd.frozen? ⟨w.heap.size + 1, q, none⟩ = false := by
        have := HD.out.2.1.wat q hwat.out
        rw [HV.out] at this; exact this
      by_cases h18 : 18 < r
      · have t1 : decide ((18 : Int) < (r : Int)) = true := decide_eq_true (by omega)
        by_cases h4 : q < 4
        · have t2 : decide ((q : Int) < 4) = true := decide_eq_true (by omega)
          obtain ⟨d, v2, p, n2, hd26, g1, g2, g3, hv2, g4, HE⟩ := HYES.out ⟨h18, h4⟩
          have hw1 := hwat1.out h4
          have p5 : q + 1 < 5 := by omega
          go_wp2
          have HT := Aside0.mk (HD.out.set q n)
          clear x1 HD hwat1 HNO HYES
          generalize wd.setCell ⟨w.heap.size + 1, q, none⟩ (.int .i64 (n : Int)) = we at HT ⊢
          generalize cur.set q n = cur2 at HT hv2 HE hw1
          generalize q + 1 = q1 at g2 hv2 HE hw1 p5
          have p6 : (0 ≤ (q1 : Int)) = True := eq_true (by omega)
          have p7 : ((q1 : Int) < 5) = True := eq_true (by omega)
          have p8 : (q1 < 5) = True := eq_true p5
          have HV2 := Lib.hid hv2
          have HW1 := Lib.hid hw1
          have p11 : min d 64 = d := by omega
          have p9 : (0 ≤ (d : Int)) = True := eq_true (by omega)
          have p10 : ((d : Int) < 0) = False := eq_false (by omega)
          clear hv2 hw1 p5
          have x1 : we.cell? ⟨w.heap.size + 1, q1, none⟩ = some (.int .i64 (v2 : Int)) ∧ we.frozen? ⟨w.heap.size + 1, q1, none⟩ = false := by
            have := HT.out.2.1.wat q1 HW1.out
            rw [HV2.out] at this; exact this
          go_still_tail 12, (by kernel_rfl)
          change wpList _ _ _ _ _ we.drew
          have HD := Aside0.mk HT.out.drew
          clear x1 HT
          generalize we.drew = wf at HD ⊢
          have x1 : wf.cell? ⟨w.heap.size + 1, q1, none⟩ = some (.int .i64 (v2 : Int)) ∧ wf.frozen? ⟨w.heap.size + 1, q1, none⟩ = false := by
            have := HD.out.2.1.wat q1 HW1.out
            rw [HV2.out] at this; exact this
          go_wp2
          have HT := Aside0.mk ((HD.out.set q1 n2).eq (HE.out.trans HNX.out.symm))
          clear x1 HD HE e1 e2 e3 e4 p0 p1 p2 p3 p4 w1 w2 g1 g2 g3 g4 f1 f2 f3 p6 p7 p8 p9 p10 p11 hd26
          generalize wf.setCell ⟨w.heap.size + 1, q1, none⟩ (.int .i64 (n2 : Int)) = wg at HT ⊢
          go_roundg (17 - (i + 1))
          case measure => omega
          case rel => exact ⟨i + 1, by go_num, by omega, by omega, HT⟩
        · have t2 : decide ((q : Int) < 4) = false := decide_eq_false (by omega)
          have HE := HNO.out (fun h => h4 h.2)
          go_wp2
          have HT := Aside0.mk ((HD.out.set q n).eq (HE.out.trans HNX.out.symm))
          clear x1 HD HE e1 e2 e3 e4 p0 p1 p2 p3 p4 w1 w2 f1 f2 f3 hwat1 HNO HYES
          generalize wd.setCell ⟨w.heap.size + 1, q, none⟩ (.int .i64 (n : Int)) = we at HT ⊢
          go_roundg (17 - (i + 1))
          case measure => omega
          case rel => exact ⟨i + 1, by go_num, by omega, by omega, HT⟩
      · have t1 : decide ((18 : Int) < (r : Int)) = false := decide_eq_false (by omega)
        have HE := HNO.out (fun h => h18 h.1)
        go_wp2
        have HT := Aside0.mk ((HD.out.set q n).eq (HE.out.trans HNX.out.symm))
        clear x1 HD HE e1 e2 e3 e4 p0 p1 p2 p3 p4 w1 w2 f1 f2 f3 hwat1 HNO HYES
        generalize wd.setCell ⟨w.heap.size + 1, q, none⟩ (.int .i64 (n : Int)) = we at HT ⊢
        go_roundg (17 - (i + 1))
        case measure => omega
        case rel => exact ⟨i + 1, by go_num, by omega, by omega, HT⟩
    · have c1 : decide ((i : Int) < 17) = false := decide_eq_false (by omega)
      obtain rfl : i = 17 := by omega
      have hl5 := Lib.hid (limbsN_L5 (numF (bts t) 17)).length
      go_wp2_with (first | ((with_reducible refine wpList_load_row (o := ⟨some 49, .load 80 (.tmp 3), _, _, _, _⟩) ?l1a 80 (.tmp 3) ?l1b (w.heap.size + 1) ?l1c 80 (wds .i64 (limbsN (numF (bts t) 17))) (0, 0) ?l1z ?l1d ?l1e ?l1f ?l1g ?_); (case l1a => rfl); (case l1b => rfl); (case l1c => rfl); (case l1d => exact HT.out.2.1); (case l1e => exact Try.underlying80); (case l1f => rfl); (case l1g => exact info5i hl5.out)) | ((with_reducible refine wpList_store_row (o := ⟨none, .store 80 (.tmp 2) (.tmp 49), _, _, _, _⟩) ?s2a 80 (.tmp 2) (.tmp 49) ?s2b (w.heap.size) (wds .i64 (limbsN (numF (bts t) 17))) ?s2c ?s2d 80 (wds .i64 zeros5) ?s2e ?s2f ?s2g ?s2h ?_); (case s2a => rfl); (case s2b => rfl); (case s2c => rfl); (case s2d => rfl); (case s2e => exact HT.out.1); (case s2f => exact info5i hl5.out); (case s2g => rw [wds_size, wds_size, hl5.out]; rfl); (case s2h => exact wds_one _ _)))
      refine HQ.out _ _ _ ?_
      refine ret_row (p := 2) (ty := 80) rfl w.heap.size 80 (wds .i64 (limbsN (numF (bts t) 17))) _ rfl (HT.out.1.row _) Try.underlying80 rfl (info5i hl5.out) rfl ⟨rfl, below_setRow HT.out.2.2.1 (Nat.le_refl _) _⟩

end Go.Proofs.Ytihpnededldedaa.Leaf
