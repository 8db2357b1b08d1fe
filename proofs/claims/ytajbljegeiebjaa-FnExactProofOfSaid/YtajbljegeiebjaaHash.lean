/- Two digests on their way compared; a new one. Conditions: none. -/
import Derived.Test.YtajbljegeiebjaaArr
import Derived.Deep.MidRow
namespace Go.Proofs.Ytajbljegeiebjaa.Leaf
open Go.RowKit Go.Shelf Go.Proofs.YtajbljegeiebjaaW.PrintWords Go.Proofs.YtajbljegeiebjaaW.PrintLast Go.Proofs.YtajbljegeiebjaaW.PrintMore

theorem ints_at {w : World} {g : Nat} {t : TypeId} {k : IntKind} {v : List Int} (h : Blk w g t (ints k v)) (i : Nat) (hi : i < v.length) : w.cell? ⟨g, i, none⟩ = some (.int k (rd v (i : Int))) ∧ w.frozen? ⟨g, i, none⟩ = false :=
  h.at i _ (ints_get k v i hi)

set_option maxRecDepth 100000 in
set_option maxHeartbeats 8000000 in
theorem eqIntA8_calls (x y : List Int) (hx : x.length = 8) (hy : y.length = 8) (w : World) : Calls Try.prog 44 #[.agg (ints .i64 x), .agg (ints .i64 y)] w fun e w' => e = .returned (.bool (decide (x = y))) ∧ Below w.heap.size w w' := by
  have HX := Lib.hid hx; have HY := Lib.hid hy
  clear hx hy
  have hb : ∀ b : Bool, Hid (decide (x = y) = b) → Hid (b = decide (x = y)) := fun b h => Lib.hid h.out.symm
  go_enter Try.func44, Try.ntmps44
  go_wp2
  go_loopg [5] 8 (fun gg s_ wr => ∃ i : Nat, s_ = .int .i64 i ∧ i ≤ 8 ∧ 8 ≤ gg + i ∧ Aside0 (∀ j : Nat, j < i → rd x (j : Int) = rd y (j : Int)) ∧ Aside0 (Blk wr w.heap.size 22 (ints .i64 x)) ∧ Aside0 (Blk wr (w.heap.size + 1) 22 (ints .i64 y)) ∧ Aside0 (Below w.heap.size w wr))
  case atStart => exact ⟨0, rfl, by omega, by omega, ⟨fun j hj => by omega⟩, ⟨by (repeat' (first | (with_reducible assumption) | (with_reducible exact Blk.new' _ _ _ _ (by simp; done)) | (with_reducible refine Blk.drewN ?_ _) | (with_reducible refine Blk.drew ?_) | (with_reducible refine Blk.alloc ?_ _) | (with_reducible refine Blk.other ?_ _ ?_ _) | (with_reducible refine Blk.rowOther ?_ _ ?_ _) | (simp; omega) | (simp; done)))⟩, ⟨by (repeat' (first | (with_reducible assumption) | (with_reducible exact Blk.new' _ _ _ _ (by simp; done)) | (with_reducible refine Blk.drewN ?_ _) | (with_reducible refine Blk.drew ?_) | (with_reducible refine Blk.alloc ?_ _) | (with_reducible refine Blk.other ?_ _ ?_ _) | (with_reducible refine Blk.rowOther ?_ _ ?_ _) | (simp; omega) | (simp; done)))⟩, ⟨by (repeat' (first | (with_reducible exact Below.refl _ _) | (with_reducible assumption) | (with_reducible refine Below.alloc ?_ ?_ _) | (with_reducible refine Below_drewN ?_ _) | (with_reducible refine Below.setCell ?_ ?_ _) | (with_reducible refine below_setRow ?_ ?_ _) | (with_reducible refine Below.drew ?_) | go_size))⟩⟩
  case round =>
    obtain ⟨i, rfl, hi, hg, HE, HBX, HBY, HL⟩ := hrel
    by_cases hlt : i < 8
    · have c1 : decide ((i : Int) < 8) = true := decide_eq_true (by omega)
      have p0 : (0 ≤ (i : Int)) = True := eq_true (by omega)
      have p1 : ((i : Int) < 8) = True := eq_true (by omega)
      obtain ⟨a, ha⟩ : ∃ n, rd x (i : Int) = n := ⟨_, rfl⟩
      obtain ⟨b, hb⟩ : ∃ n, rd y (i : Int) = n := ⟨_, rfl⟩
      have x1 := (ints_at HBX.out i (by rw [HX.out]; exact hlt)).1
      have y1 := (ints_at HBY.out i (by rw [HY.out]; exact hlt)).1
      rw [ha] at x1; rw [hb] at y1
      have HA := Lib.hid ha; have HBb := Lib.hid hb
      clear ha hb
      by_cases hab : a = b
      · subst hab
        have hE' := Aside0.mk (show ∀ j : Nat, j < i + 1 → rd x (j : Int) = rd y (j : Int) from fun j hj => by
          by_cases e : j = i
          · subst e; rw [HA.out, HBb.out]
          · exact HE.out j (by omega))
        have nb : (a != a) = false := by simp
        go_wp2
        repeat (go_quiet (fail); try go_wp2)
        go_roundg (8 - (i + 1))
        case measure => omega
        case rel => exact ⟨i + 1, by go_num, by omega, by omega, hE', ⟨by (repeat (first | (with_reducible exact (HBX).out) | (with_reducible refine Blk.drewN ?_ _) | (with_reducible refine Blk.drew ?_) | (with_reducible refine Blk.alloc ?_ _)))⟩, ⟨by (repeat (first | (with_reducible exact (HBY).out) | (with_reducible refine Blk.drewN ?_ _) | (with_reducible refine Blk.drew ?_) | (with_reducible refine Blk.alloc ?_ _)))⟩, ⟨by (repeat (first | (with_reducible exact (HL).out) | (with_reducible refine Below_drewN ?_ _) | (with_reducible refine Below.drew ?_)))⟩⟩
      · have hne := Lib.hid (show decide (x = y) = false from decide_eq_false (fun e => hab (by rw [← HA.out, ← HBb.out, e])))
        have nb : (a != b) = true := by simpa using hab
        go_wp2
        repeat (go_quiet (fail); try go_wp2)
        go_ret
        exact ⟨ret_bool hne.out.symm, by (repeat (first | (with_reducible exact (HL).out) | (with_reducible refine Below_drewN ?_ _) | (with_reducible refine Below.drew ?_)))⟩
    · have c1 : decide ((i : Int) < 8) = false := decide_eq_false (by omega)
      obtain rfl : i = 8 := by omega
      have heq := Lib.hid (show decide (x = y) = true from decide_eq_true (List.ext_getElem (by rw [HX.out, HY.out]) fun j h1 h2 => by
        have := HE.out j (by rw [HX.out] at h1; exact h1)
        rwa [rd_get x j (by omega) (by omega), rd_get y j (by omega) (by omega)] at this))
      go_wp2
      go_ret
      exact ⟨ret_bool heq.out.symm, by (repeat (first | (with_reducible exact (HL).out) | (with_reducible refine Below_drewN ?_ _) | (with_reducible refine Below.drew ?_)))⟩

/-- The cells of a digest on its way. -/
def hcs (x : List Int) (b : ByteArray) (n : Int) : Array Value := ints .i64 x ++ #[.string b, .int .i64 n]
theorem hcs_at {w : World} {g : Nat} {t : TypeId} {x : List Int} {b : ByteArray} {n : Int} (h : Blk w g t (hcs x b n)) (hx : x.length = 8) :
    w.rangeAt g 0 (nums .i64 x) ∧ (w.cell? ⟨g, 8, none⟩ = some (.string b) ∧ w.frozen? ⟨g, 8, none⟩ = false) ∧ (w.cell? ⟨g, 9, none⟩ = some (.int .i64 n) ∧ w.frozen? ⟨g, 9, none⟩ = false) := by
  have hs : (ints .i64 x).size = 8 := by rw [ints_size, hx]
  refine ⟨fun j v hv => ?_, h.at 8 _ ?_, h.at 9 _ ?_⟩
  · have hj : j < (ints .i64 x).size := by
      have := (List.getElem?_eq_some_iff.1 hv).1
      rw [ints_size]; simpa [nums] using this
    rw [Nat.zero_add]
    exact (h.at j v (by rw [hcs, Array.getElem?_append_left hj]; simpa [ints] using hv)).1
  · rw [hcs, Array.getElem?_append_right (by omega), hs]; rfl
  · rw [hcs, Array.getElem?_append_right (by omega), hs]; rfl

set_option maxRecDepth 100000 in
set_option maxHeartbeats 8000000 in
theorem eqHash_calls (x y : List Int) (hx : x.length = 8) (hy : y.length = 8) (b c : ByteArray) (n m : Int) (w : World) : Calls Try.prog 16 #[.agg (hcs x b n), .agg (hcs y c m)] w fun e w' => e = .returned (.bool (decide (x = y ∧ b = c ∧ n = m))) ∧ Below w.heap.size w w' := by
  have HQ := fun W => eqIntA8_calls x y hx hy W
  have HI := Lib.hid (show (Try.prog.info? 22).map (·.size) = some (nums .i64 x).length by rw [show (nums .i64 x).length = 8 by simp [nums, hx]]; kernel_rfl)
  have HJ := Lib.hid (show (Try.prog.info? 22).map (·.size) = some (nums .i64 y).length by rw [show (nums .i64 y).length = 8 by simp [nums, hy]]; kernel_rfl)
  have B1 : Blk ((w.alloc (.cells (hcs x b n) 26)).alloc (.cells (hcs y c m) 26)) w.heap.size 26 (hcs x b n) := (Blk.new _ _ _).alloc _
  have B2 : Blk ((w.alloc (.cells (hcs x b n) 26)).alloc (.cells (hcs y c m) 26)) (w.heap.size + 1) 26 (hcs y c m) := Blk.new' _ _ _ _ (by simp)
  have L0 : Below w.heap.size w ((w.alloc (.cells (hcs x b n) 26)).alloc (.cells (hcs y c m) 26)) := by (repeat' (first | (with_reducible exact Below.refl _ _) | (with_reducible assumption) | (with_reducible refine Below.alloc ?_ ?_ _) | (with_reducible refine Below_drewN ?_ _) | (with_reducible refine Below.setCell ?_ ?_ _) | (with_reducible refine below_setRow ?_ ?_ _) | (with_reducible refine Below.drew ?_) | go_size))
  obtain ⟨r1, r2, r3⟩ := hcs_at B1 hx
  obtain ⟨s1, s2, s3⟩ := hcs_at B2 hy
  have R1 := Aside0.mk r1
  have S1 := Aside0.mk s1
  have R := Lib.hid (And.intro B1 (And.intro B2 L0))
  clear B1 B2 L0 r1 s1 r2 r3 s2 s3
  obtain ⟨r, hr⟩ : ∃ r, decide (x = y ∧ b = c ∧ n = m) = r := ⟨_, rfl⟩
  rw [hr]
  by_cases hxy : x = y
  · have dxy : decide (x = y) = true := decide_eq_true hxy
    by_cases hbc : b = c
    · subst hbc
      by_cases hnm : n = m
      · subst hnm
        have nb : (n != n) = false := by simp
        obtain rfl : r = true := by rw [← hr]; exact decide_eq_true ⟨hxy, rfl, rfl⟩
        clear hr hxy
        go_enter Try.func16, Try.ntmps16
        go_wp2_with (first | (refine wpList_load_mid rfl 22 _ rfl w.heap.size 0 rfl (nums .i64 x) _ R1.out Try.underlying22 rfl HI.out ?_) | (refine wpList_load_mid rfl 22 _ rfl (w.heap.size + 1) 0 rfl (nums .i64 y) _ S1.out Try.underlying22 rfl HJ.out ?_) | (go_at_call 44; refine (HQ _).mono ?_; rintro e w1 ⟨rfl, hb1⟩; obtain ⟨⟨c1, c2⟩, ⟨c3, c4⟩⟩ := (hcs_at (R.out.1.below hb1) hx).2; obtain ⟨⟨d1, d2⟩, ⟨d3, d4⟩⟩ := (hcs_at (R.out.2.1.below hb1) hy).2; have L1 := Aside0.mk (R.out.2.2.trans (hb1.mono R.out.2.2.size))))
        go_ret
        exact ⟨rfl, L1.out⟩
      · have nb : (n != m) = true := by simpa using hnm
        obtain rfl : r = false := by rw [← hr]; exact decide_eq_false (fun h => hnm h.2.2)
        clear hr hxy hnm
        go_enter Try.func16, Try.ntmps16
        go_wp2_with (first | (refine wpList_load_mid rfl 22 _ rfl w.heap.size 0 rfl (nums .i64 x) _ R1.out Try.underlying22 rfl HI.out ?_) | (refine wpList_load_mid rfl 22 _ rfl (w.heap.size + 1) 0 rfl (nums .i64 y) _ S1.out Try.underlying22 rfl HJ.out ?_) | (go_at_call 44; refine (HQ _).mono ?_; rintro e w1 ⟨rfl, hb1⟩; obtain ⟨⟨c1, c2⟩, ⟨c3, c4⟩⟩ := (hcs_at (R.out.1.below hb1) hx).2; obtain ⟨⟨d1, d2⟩, ⟨d3, d4⟩⟩ := (hcs_at (R.out.2.1.below hb1) hy).2; have L1 := Aside0.mk (R.out.2.2.trans (hb1.mono R.out.2.2.size))))
        go_ret
        exact ⟨rfl, L1.out⟩
    · have n2 : (b.toList == c.toList) = false := by
        rw [beq_eq_false_iff_ne]
        intro e
        obtain ⟨e1, e2⟩ := (toList_iff b c).1 e
        exact hbc (by
          apply ByteArray.ext
          apply Array.ext'
          apply List.ext_getElem (by rw [data_length, data_length, e1])
          intro j h1 h2
          rw [data_length] at h1 h2
          have := e2 j h1
          rw [bt_get b j h1, bt_get c j h2] at this
          exact UInt8.toNat_inj.1 (by exact_mod_cast this))
      obtain rfl : r = false := by rw [← hr]; exact decide_eq_false (fun h => hbc h.2.1)
      clear hr hxy hbc
      go_enter Try.func16, Try.ntmps16
      go_wp2_with (first | (refine wpList_load_mid rfl 22 _ rfl w.heap.size 0 rfl (nums .i64 x) _ R1.out Try.underlying22 rfl HI.out ?_) | (refine wpList_load_mid rfl 22 _ rfl (w.heap.size + 1) 0 rfl (nums .i64 y) _ S1.out Try.underlying22 rfl HJ.out ?_) | (go_at_call 44; refine (HQ _).mono ?_; rintro e w1 ⟨rfl, hb1⟩; obtain ⟨⟨c1, c2⟩, ⟨c3, c4⟩⟩ := (hcs_at (R.out.1.below hb1) hx).2; obtain ⟨⟨d1, d2⟩, ⟨d3, d4⟩⟩ := (hcs_at (R.out.2.1.below hb1) hy).2; have L1 := Aside0.mk (R.out.2.2.trans (hb1.mono R.out.2.2.size))))
      go_ret
      exact ⟨rfl, L1.out⟩
  · have dxy : decide (x = y) = false := decide_eq_false hxy
    obtain rfl : r = false := by rw [← hr]; exact decide_eq_false (fun h => hxy h.1)
    clear hr hxy
    go_enter Try.func16, Try.ntmps16
    go_wp2_with (first | (refine wpList_load_mid rfl 22 _ rfl w.heap.size 0 rfl (nums .i64 x) _ R1.out Try.underlying22 rfl HI.out ?_) | (refine wpList_load_mid rfl 22 _ rfl (w.heap.size + 1) 0 rfl (nums .i64 y) _ S1.out Try.underlying22 rfl HJ.out ?_) | (go_at_call 44; refine (HQ _).mono ?_; rintro e w1 ⟨rfl, hb1⟩; obtain ⟨⟨c1, c2⟩, ⟨c3, c4⟩⟩ := (hcs_at (R.out.1.below hb1) hx).2; obtain ⟨⟨d1, d2⟩, ⟨d3, d4⟩⟩ := (hcs_at (R.out.2.1.below hb1) hy).2; have L1 := Aside0.mk (R.out.2.2.trans (hb1.mono R.out.2.2.size))))
    go_ret
    exact ⟨rfl, L1.out⟩

/-- The words a digest begins with. -/
def hash0 : List Int := [1779033703, 3144134277, 1013904242, 2773480762, 1359893119, 2600822924, 528734635, 1541459225]

set_option maxRecDepth 100000 in
set_option maxHeartbeats 8000000 in
theorem impl_NewHash_calls (w : World) : Calls Try.prog 75 #[] w fun e w' => e = .returned (.agg (hcs hash0 ⟨#[]⟩ 0)) ∧ Below w.heap.size w w' := by
  go_enter Try.func75, Try.ntmps75
  go_wp2
  refine ret_row (p := 0) (ty := 26) rfl w.heap.size 26 (hcs hash0 ⟨#[]⟩ 0) _ rfl ?_ Try.underlying26 rfl (by kernel_rfl) rfl ⟨rfl, by (repeat' (first | (with_reducible exact Below.refl _ _) | (with_reducible assumption) | (with_reducible refine Below.alloc ?_ ?_ _) | (with_reducible refine Below_drewN ?_ _) | (with_reducible refine Below.setCell ?_ ?_ _) | (with_reducible refine below_setRow ?_ ?_ _) | (with_reducible refine Below.drew ?_) | go_size))⟩
  exact Blk.eq (Blk.new _ _ _) rfl

set_option maxRecDepth 100000 in
set_option maxHeartbeats 8000000 in
theorem spec_NewHash_calls (w : World) : Calls Try.prog 74 #[] w fun e w' => e = .returned (.agg (hcs hash0 ⟨#[]⟩ 0)) ∧ Below w.heap.size w w' := by
  go_enter Try.func74, Try.ntmps74
  go_wp2
  refine ret_row (p := 0) (ty := 26) rfl w.heap.size 26 (hcs hash0 ⟨#[]⟩ 0) _ rfl ?_ Try.underlying26 rfl (by kernel_rfl) rfl ⟨rfl, by (repeat' (first | (with_reducible exact Below.refl _ _) | (with_reducible assumption) | (with_reducible refine Below.alloc ?_ ?_ _) | (with_reducible refine Below_drewN ?_ _) | (with_reducible refine Below.setCell ?_ ?_ _) | (with_reducible refine below_setRow ?_ ?_ _) | (with_reducible refine Below.drew ?_) | go_size))⟩
  exact Blk.eq ((Blk.new _ _ _).alloc _) rfl

end Go.Proofs.Ytajbljegeiebjaa.Leaf
