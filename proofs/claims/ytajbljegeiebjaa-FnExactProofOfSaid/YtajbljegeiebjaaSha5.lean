/- The end of a digest, by the reference and by the program. Conditions: sizes. -/
import Derived.Test.YtajbljegeiebjaaSha4
import Derived.Test.YtajbljegeiebjaaOwn
import Derived.Test.YtajbljegeiebjaaLoop
import Derived.Test.YtajbljegeiebjaaRep
namespace Go.Proofs.Ytajbljegeiebjaa.Leaf

/-! The end of a digest in plain words. Conditions: none. -/
section
open Go.RowKit Go.Shelf Go.Proofs.YtajbljegeiebjaaW.PrintWords Go.Proofs.YtajbljegeiebjaaW.PrintLast Go.Proofs.YtajbljegeiebjaaW.PrintMore Go.Proofs.Ytajbljegeiebjaa.PSha

/-- The first c of a number's T + 1 bytes, the highest first. -/
def beT (T : Nat) (m : Int) (c : Nat) : List Int := (List.range c).map fun (j : Nat) => (m / 2 ^ (8 * (T - j))) % 256
theorem beT_length (T : Nat) (m : Int) (c : Nat) : (beT T m c).length = c := by simp [beT]
theorem beT_succ (T : Nat) (m : Int) (i : Int) (h0 : 0 ≤ i) (h1 : i ≤ T) : beT T m (T - (i - 1)).toNat = beT T m (T - i).toNat ++ [(m / 2 ^ (8 * i).toNat) % 256] := by
  rw [show ((T : Int) - (i - 1)).toNat = ((T : Int) - i).toNat + 1 by omega]
  unfold beT
  rw [List.range_succ, List.map_append]
  simp only [List.map_cons, List.map_nil]
  rw [show 8 * (T - ((T : Int) - i).toNat) = (8 * i).toNat by omega]
def beN (m : Int) (c : Nat) : List Int := beT 7 m c
theorem beN_length (m : Int) (c : Nat) : (beN m c).length = c := beT_length 7 m c
/-- A bit and zeroes. -/
def padZ (j : Nat) : List Int := 128 :: List.replicate j 0
theorem padZ_length (j : Nat) : (padZ j).length = j + 1 := by simp [padZ]
theorem padZ_succ (j : Nat) : padZ (j + 1) = padZ j ++ [0] := by
  unfold padZ
  rw [List.replicate_succ', List.cons_append]
/-- How many zeroes: from how many bytes there were. -/
def zerosOf (n : Int) : Nat := ((119 - n % 64) % 64).toNat
/-- What is added at the end. -/
def tailOf (n : Int) : List Int := padZ (zerosOf n) ++ beN (8 * n) 8
theorem tailOf_size (n : Int) : (strOfNums (tailOf n)).size ≤ 1000000 := by
  rw [strOfNums_size, tailOf, List.length_append, padZ_length, beN_length]; unfold zerosOf; omega
/-- The bytes of the first c words. -/
def outN (h : List Nat) : Nat → List Int
  | 0 => []
  | c + 1 => outN h c ++ [((h.getD c 0 : Nat) : Int) / 16777216 % 256, ((h.getD c 0 : Nat) : Int) / 65536 % 256, ((h.getD c 0 : Nat) : Int) / 256 % 256, ((h.getD c 0 : Nat) : Int) % 256]
theorem outN_length (h : List Nat) : ∀ c, (outN h c).length = 4 * c
  | 0 => rfl
  | c + 1 => by rw [outN, List.length_append, outN_length h c]; simp; omega
/-- The words that a digest ends in. -/
def sumS (h : List Nat) (b : ByteArray) (n : Int) : List Nat := (moreS ((b ++ strOfNums (tailOf n)).size / 64) h (b ++ strOfNums (tailOf n))).1
theorem sumS_ok {h : List Nat} (hh : WN 8 h) (b : ByteArray) (n : Int) : WN 8 (sumS h b n) := moreS_ok _ _ _ hh

/-- The reference's loop for the zeroes: where it ends. -/
theorem zeros_test (n : Int) (j : Nat) (h0 : 0 ≤ n) (h1 : n ≤ 2000000000) (hj : j ≤ zerosOf n) : wrap64 (n + ((j : Int) + 1)) = n + ((j : Int) + 1) ∧ ((n + ((j : Int) + 1)) % 64 != 56) = decide (j < zerosOf n) ∧ (Int.tmod (n + ((j : Int) + 1)) 64 != 56) = decide (j < zerosOf n) := by
  have e : ((n + ((j : Int) + 1)) % 64 != 56) = decide (j < zerosOf n) := by
    rw [Bool.eq_iff_iff]
    unfold zerosOf at hj ⊢
    simp only [bne_iff_ne, ne_eq, decide_eq_true_eq]
    omega
  have hz : zerosOf n ≤ 63 := by unfold zerosOf; omega
  refine ⟨by unfold wrap64; omega, e, ?_⟩
  rw [Int.tmod_eq_emod_of_nonneg (by omega)]
  exact e
theorem pad_room (n : Int) (j : Nat) (hj : j ≤ zerosOf n) : (padZ j).length + 1 ≤ 1000000 := by
  have hz : zerosOf n ≤ 63 := by unfold zerosOf; omega
  rw [padZ_length]; omega
theorem beT_room (T : Nat) (P : List Int) (m : Int) (i : Int) (hP : P.length ≤ 1000) (hT : T ≤ 7) (h0 : 0 ≤ i) : (P ++ beT T m (T - i).toNat).length + 1 ≤ 1000000 := by
  rw [List.length_append, beT_length]; omega
theorem beT_four (a : Nat) : beT 3 (a : Int) 4 = [(a : Int) / 16777216 % 256, (a : Int) / 65536 % 256, (a : Int) / 256 % 256, (a : Int) % 256] := by
  simp [beT, List.range_succ]
theorem outN_succ (h : List Nat) (c : Nat) : outN h (c + 1) = outN h c ++ beT 3 ((h.getD c 0 : Nat) : Int) 4 := by rw [beT_four]; rfl
theorem eight_n (n : Int) (h0 : 0 ≤ n) (h1 : n ≤ 2000000000) : wrap64 (8 * n) = 8 * n := by unfold wrap64; omega
end

/-! The loops of the reference's end of a digest. Conditions: sizes. -/
section
open Go.RowKit Go.Shelf Go.Proofs.YtajbljegeiebjaaW.PrintWords Go.Proofs.YtajbljegeiebjaaW.PrintLast Go.Proofs.YtajbljegeiebjaaW.PrintMore Go.Proofs.Ytajbljegeiebjaa.PSha

set_option maxRecDepth 1000000 in
set_option maxHeartbeats 16000000 in
theorem sum0_wp (w0 : World) (g : Nat) (h : List Nat) (b : ByteArray) (n : Int) (v4 : Value) (u0 u2 u3 u5 u6 u7 u8 u9 u10 u11 u12 u13 u14 u15 u16 u17 u18 u19 u20 u21 u22 u23 u24 u25 u26 u27 u28 u29 u30 u31 u32 u33 u34 u35 u36 u37 u38 u39 u40 u41 u42 u43 u44 u45 u46 u47 u48 u49 u50 u51 u52 u53 u54 u55 u56 u57 u58 u59 u60 : Value) (Q0 : Exit → Act → World → Prop) (w : World) (hh : WN 8 h) (h0 : 0 ≤ n) (h1 : n ≤ 2000000000) (hB : Blk w0 g 26 (hcw h b n)) (hO : OB w w0.heap.size v4 (padZ 0)) (hL : Below w0.heap.size w0 w)
    (hexit : ∀ (x4 x13 x14 x15 x16 x17 x18 x19 x20 x21 x22 : Value) (w' : World), OB w' w0.heap.size x4 (padZ (zerosOf n)) ∧ Below w0.heap.size w0 w' → Q0 (.exit 0) ⟨List.toArray (u0 :: (.pointer (some ⟨g, 0, none⟩)) :: u2 :: u3 :: x4 :: u5 :: u6 :: u7 :: u8 :: u9 :: u10 :: u11 :: u12 :: x13 :: x14 :: x15 :: x16 :: x17 :: x18 :: x19 :: x20 :: x21 :: x22 :: u23 :: u24 :: u25 :: u26 :: u27 :: u28 :: u29 :: u30 :: u31 :: u32 :: u33 :: u34 :: u35 :: u36 :: u37 :: u38 :: u39 :: u40 :: u41 :: u42 :: u43 :: u44 :: u45 :: u46 :: u47 :: u48 :: u49 :: u50 :: u51 :: u52 :: u53 :: u54 :: u55 :: u56 :: u57 :: u58 :: u59 :: u60 :: []), []⟩ w') :
    Code.wp Try.prog (loopNo Try.f47 0) Q0 ⟨List.toArray (u0 :: (.pointer (some ⟨g, 0, none⟩)) :: u2 :: u3 :: v4 :: u5 :: u6 :: u7 :: u8 :: u9 :: u10 :: u11 :: u12 :: u13 :: u14 :: u15 :: u16 :: u17 :: u18 :: u19 :: u20 :: u21 :: u22 :: u23 :: u24 :: u25 :: u26 :: u27 :: u28 :: u29 :: u30 :: u31 :: u32 :: u33 :: u34 :: u35 :: u36 :: u37 :: u38 :: u39 :: u40 :: u41 :: u42 :: u43 :: u44 :: u45 :: u46 :: u47 :: u48 :: u49 :: u50 :: u51 :: u52 :: u53 :: u54 :: u55 :: u56 :: u57 :: u58 :: u59 :: u60 :: []), []⟩ w := by
  conv => arg 2; whnf
  have HX := Lib.hid hexit
  clear hexit
  go_loopg [4] (zerosOf n) (fun gg s4 wr => ∃ j : Nat, j ≤ zerosOf n ∧ zerosOf n ≤ gg + j ∧ Aside0 (OB wr w0.heap.size s4 (padZ j)) ∧ Aside0 (Below w0.heap.size w0 wr))
  case atStart => exact ⟨0, by omega, by omega, ⟨hO⟩, ⟨hL⟩⟩
  case round =>
    obtain ⟨j, hj, hg, HO, HL⟩ := hrel
    obtain ⟨gs, cap, hs⟩ := HO.out.slice (by rw [padZ_length]; omega)
    rw [padZ_length] at hs
    subst hs
    obtain ⟨_, c9, f9⟩ := hcw_buf (hB.below HL.out) hh.1
    obtain ⟨q1, q2, q3⟩ := zeros_test n j h0 h1 hj
    have HP := Lib.hid (padZ_succ j)
    have HQ := Lib.hid (pad_room n j hj)
    by_cases hlt : j < zerosOf n
    · rw [decide_eq_true hlt] at q2 q3
      go_wp2_with (at_builtin; refine wpList_append_bytes rfl _ _ rfl w0 w0.heap.size _ (padZ j) rfl (HO.out.alloc _) (below_alloc HL.out _) (by have := HL.out.size; simp; omega) wr.heap.size [0] rfl (heap_alloc_new _ _) (Nat.succ_pos _) (HQ.out) ?_; intro v' w1 hO hL)
      have O1 := Aside0.mk hO; have L1 := Aside0.mk hL
      rw [← HP.out] at O1
      clear hO hL HO HL q1 q2 q3 c9 f9 HP HQ
      go_roundg (zerosOf n - (j + 1))
      case measure => omega
      case rel => exact ⟨j + 1, by omega, by omega, O1, L1⟩
    · rw [decide_eq_false hlt] at q2 q3
      obtain rfl : j = zerosOf n := by omega
      go_wp2
      have P1 := HO.out
      have P2 := HL.out
      refine HX.out _ _ _ _ _ _ _ _ _ _ _ _ ?_
      exact ⟨P1, P2⟩


set_option maxRecDepth 1000000 in
set_option maxHeartbeats 16000000 in
theorem sum1_wp (w0 : World) (P : List Int) (m : Int) (v4 : Value) (u0 u1 u2 u6 u7 u8 u9 u10 u11 u12 u13 u14 u15 u16 u17 u18 u19 u20 u21 u22 u23 u24 u25 u26 u27 u28 u29 u30 u31 u32 u33 u34 u35 u36 u37 u38 u39 u40 u41 u42 u43 u44 u45 u46 u47 u48 u49 u50 u51 u52 u53 u54 u55 u56 u57 u58 u59 u60 : Value) (Q0 : Exit → Act → World → Prop) (w : World) (hP : P.length ≤ 1000) (hO : OB w w0.heap.size v4 P) (hL : Below w0.heap.size w0 w)
    (hexit : ∀ (x4 x23 x24 x25 x26 x27 x28 x29 x30 x31 x32 x33 x34 : Value) (w' : World), OB w' w0.heap.size x4 (P ++ beT 7 m 8) ∧ Below w0.heap.size w0 w' → Q0 (.exit 2) ⟨List.toArray (u0 :: u1 :: u2 :: (.int .i64 m) :: x4 :: (.int .i64 (-1)) :: u6 :: u7 :: u8 :: u9 :: u10 :: u11 :: u12 :: u13 :: u14 :: u15 :: u16 :: u17 :: u18 :: u19 :: u20 :: u21 :: u22 :: x23 :: x24 :: x25 :: x26 :: x27 :: x28 :: x29 :: x30 :: x31 :: x32 :: x33 :: x34 :: u35 :: u36 :: u37 :: u38 :: u39 :: u40 :: u41 :: u42 :: u43 :: u44 :: u45 :: u46 :: u47 :: u48 :: u49 :: u50 :: u51 :: u52 :: u53 :: u54 :: u55 :: u56 :: u57 :: u58 :: u59 :: u60 :: []), []⟩ w') :
    Code.wp Try.prog (loopNo Try.f47 1) Q0 ⟨List.toArray (u0 :: u1 :: u2 :: (.int .i64 m) :: v4 :: (.int .i64 7) :: u6 :: u7 :: u8 :: u9 :: u10 :: u11 :: u12 :: u13 :: u14 :: u15 :: u16 :: u17 :: u18 :: u19 :: u20 :: u21 :: u22 :: u23 :: u24 :: u25 :: u26 :: u27 :: u28 :: u29 :: u30 :: u31 :: u32 :: u33 :: u34 :: u35 :: u36 :: u37 :: u38 :: u39 :: u40 :: u41 :: u42 :: u43 :: u44 :: u45 :: u46 :: u47 :: u48 :: u49 :: u50 :: u51 :: u52 :: u53 :: u54 :: u55 :: u56 :: u57 :: u58 :: u59 :: u60 :: []), []⟩ w := by
  conv => arg 2; whnf
  have HX := Lib.hid hexit
  clear hexit
  go_loopg [4, 5] 8 (fun gg sv si wr => ∃ i : Int, si = .int .i64 i ∧ -1 ≤ i ∧ i ≤ 7 ∧ i + 1 ≤ (gg : Int) ∧ Aside0 (OB wr w0.heap.size sv (P ++ beT 7 m (7 - i).toNat)) ∧ Aside0 (Below w0.heap.size w0 wr))
  case atStart => exact ⟨7, rfl, by omega, by omega, by omega, ⟨by simpa [beT] using hO⟩, ⟨hL⟩⟩
  case round =>
    obtain ⟨i, rfl, h0, h1, hg, HO, HL⟩ := hrel
    by_cases hlt : 0 ≤ i
    · have c1 : decide (0 ≤ i) = true := decide_eq_true hlt
      have HP := Lib.hid (show P ++ beT 7 m (7 - (i - 1)).toNat = (P ++ beT 7 m (7 - i).toNat) ++ [(m / 2 ^ (8 * i).toNat) % 256] by rw [List.append_assoc]; exact congrArg (P ++ ·) (beT_succ 7 m i hlt h1))
      have HQ := Lib.hid (show (P ++ beT 7 m (7 - i).toNat).length + 1 ≤ 1000000 from beT_room 7 P m i hP (by decide) hlt)
      go_wp2_with (at_builtin; refine wpList_append_bytes rfl _ _ rfl w0 w0.heap.size _ (P ++ beT 7 m (7 - i).toNat) rfl (HO.out.alloc _) (below_alloc HL.out _) (by have := HL.out.size; simp; omega) wr.heap.size [(m / 2 ^ (8 * i).toNat) % 256] rfl (heap_alloc_new _ _) (Nat.succ_pos _) (HQ.out) ?_; intro v' w1 hO hL)
      have O1 := Aside0.mk hO; have L1 := Aside0.mk hL
      rw [← HP.out] at O1
      clear hO hL HO HL HP HQ
      go_roundg (i.toNat)
      case measure => omega
      case rel => exact ⟨i - 1, rfl, by omega, by omega, by omega, O1, L1⟩
    · have c1 : decide (0 ≤ i) = false := decide_eq_false hlt
      obtain rfl : i = -1 := by omega
      go_wp2
      have P1 := HO.out
      have P2 := HL.out
      refine HX.out _ _ _ _ _ _ _ _ _ _ _ _ _ _ ?_
      exact ⟨P1, P2⟩


set_option maxRecDepth 1000000 in
set_option maxHeartbeats 16000000 in
theorem sum3_wp (w0 : World) (P : List Int) (g c : Nat) (h : List Nat) (b : ByteArray) (n : Int) (v6 : Value) (u0 u2 u3 u4 u5 u9 u10 u11 u12 u13 u14 u15 u16 u17 u18 u19 u20 u21 u22 u23 u24 u25 u26 u27 u28 u29 u30 u31 u32 u33 u34 u35 u36 u37 u38 u39 u40 u41 u42 u43 u44 u45 u46 u47 u48 u49 u50 u51 u52 u53 u54 u55 u56 u57 u58 u59 u60 : Value) (Q0 : Exit → Act → World → Prop) (w : World) (hh : WN 8 h) (hc : c < 8) (hB : Blk w0 g 26 (hcw h b n)) (hP : P.length ≤ 1000) (hO : OB w w0.heap.size v6 P) (hL : Below w0.heap.size w0 w)
    (hexit : ∀ (x6 x44 x45 x46 x47 x48 x49 x50 x51 x52 x53 x54 x55 x56 x57 x58 : Value) (w' : World), OB w' w0.heap.size x6 (P ++ beT 3 ((h.getD c 0 : Nat) : Int) 4) ∧ Below w0.heap.size w0 w' → Q0 (.exit 6) ⟨List.toArray (u0 :: (.pointer (some ⟨g, 0, none⟩)) :: u2 :: u3 :: u4 :: u5 :: x6 :: (.int .i64 (c : Int)) :: (.int .i64 (-1)) :: u9 :: u10 :: u11 :: u12 :: u13 :: u14 :: u15 :: u16 :: u17 :: u18 :: u19 :: u20 :: u21 :: u22 :: u23 :: u24 :: u25 :: u26 :: u27 :: u28 :: u29 :: u30 :: u31 :: u32 :: u33 :: u34 :: u35 :: u36 :: u37 :: u38 :: u39 :: u40 :: u41 :: u42 :: u43 :: x44 :: x45 :: x46 :: x47 :: x48 :: x49 :: x50 :: x51 :: x52 :: x53 :: x54 :: x55 :: x56 :: x57 :: x58 :: u59 :: u60 :: []), []⟩ w') :
    Code.wp Try.prog (loopNo Try.f47 3) Q0 ⟨List.toArray (u0 :: (.pointer (some ⟨g, 0, none⟩)) :: u2 :: u3 :: u4 :: u5 :: v6 :: (.int .i64 (c : Int)) :: (.int .i64 3) :: u9 :: u10 :: u11 :: u12 :: u13 :: u14 :: u15 :: u16 :: u17 :: u18 :: u19 :: u20 :: u21 :: u22 :: u23 :: u24 :: u25 :: u26 :: u27 :: u28 :: u29 :: u30 :: u31 :: u32 :: u33 :: u34 :: u35 :: u36 :: u37 :: u38 :: u39 :: u40 :: u41 :: u42 :: u43 :: u44 :: u45 :: u46 :: u47 :: u48 :: u49 :: u50 :: u51 :: u52 :: u53 :: u54 :: u55 :: u56 :: u57 :: u58 :: u59 :: u60 :: []), []⟩ w := by
  conv => arg 2; whnf
  have HX := Lib.hid hexit
  clear hexit
  go_loopg [6, 8] 4 (fun gg sv si wr => ∃ i : Int, si = .int .i64 i ∧ -1 ≤ i ∧ i ≤ 3 ∧ i + 1 ≤ (gg : Int) ∧ Aside0 (OB wr w0.heap.size sv (P ++ beT 3 ((h.getD c 0 : Nat) : Int) (3 - i).toNat)) ∧ Aside0 (Below w0.heap.size w0 wr))
  case atStart => exact ⟨3, rfl, by omega, by omega, by omega, ⟨by simpa [beT] using hO⟩, ⟨hL⟩⟩
  case round =>
    obtain ⟨i, rfl, h0, h1, hg, HO, HL⟩ := hrel
    by_cases hlt : 0 ≤ i
    · have c1 : decide (0 ≤ i) = true := decide_eq_true hlt
      have HP := Lib.hid (show P ++ beT 3 ((h.getD c 0 : Nat) : Int) (3 - (i - 1)).toNat = (P ++ beT 3 ((h.getD c 0 : Nat) : Int) (3 - i).toNat) ++ [(((h.getD c 0 : Nat) : Int) / 2 ^ (8 * i).toNat) % 256] by rw [List.append_assoc]; exact congrArg (P ++ ·) (beT_succ 3 ((h.getD c 0 : Nat) : Int) i hlt h1))
      have HQ := Lib.hid (show (P ++ beT 3 ((h.getD c 0 : Nat) : Int) (3 - i).toNat).length + 1 ≤ 1000000 from beT_room 3 P ((h.getD c 0 : Nat) : Int) i hP (by decide) hlt)
      have p0 : (0 ≤ (c : Int)) = True := eq_true (by omega)
      have p1 : ((c : Int) < 8) = True := eq_true (by omega)
      obtain ⟨x1, _⟩ := (hB.below HL.out).hat hh.1 c hc
      obtain ⟨wd, hwd⟩ : ∃ wd, h.getD c 0 = wd := ⟨_, rfl⟩
      rw [hwd] at x1 HO HP HQ
      replace hwd := Lib.hid hwd
      go_wp2_with (at_builtin; refine wpList_append_bytes rfl _ _ rfl w0 w0.heap.size _ (P ++ beT 3 (wd : Int) (3 - i).toNat) rfl (HO.out.alloc _) (below_alloc HL.out _) (by have := HL.out.size; simp; omega) wr.heap.size [((wd : Int) / 2 ^ (8 * i).toNat) % 256] rfl (heap_alloc_new _ _) (Nat.succ_pos _) (HQ.out) ?_; intro v' w1 hO hL)
      have O1 := Aside0.mk hO; have L1 := Aside0.mk hL
      rw [← HP.out, ← hwd.out] at O1
      clear hO hL HO HL HP HQ
      go_roundg (i.toNat)
      case measure => omega
      case rel => exact ⟨i - 1, rfl, by omega, by omega, by omega, O1, L1⟩
    · have c1 : decide (0 ≤ i) = false := decide_eq_false hlt
      obtain rfl : i = -1 := by omega
      go_wp2
      have P1 := HO.out
      have P2 := HL.out
      refine HX.out _ _ _ _ _ _ _ _ _ _ _ _ _ _ _ _ _ ?_
      exact ⟨P1, P2⟩


set_option maxRecDepth 1000000 in
set_option maxHeartbeats 16000000 in
theorem sum2_wp (w0 : World) (g : Nat) (h : List Nat) (b : ByteArray) (n : Int) (v6 : Value) (u0 u2 u3 u4 u5 u8 u9 u10 u11 u12 u13 u14 u15 u16 u17 u18 u19 u20 u21 u22 u23 u24 u25 u26 u27 u28 u29 u30 u31 u32 u33 u34 u35 u36 u37 u38 u39 u40 u41 u42 u43 u44 u45 u46 u47 u48 u49 u50 u51 u52 u53 u54 u55 u56 u57 u58 u59 u60 : Value) (Q0 : Exit → Act → World → Prop) (w : World) (hh : WN 8 h) (hB : Blk w0 g 26 (hcw h b n)) (hO : OB w w0.heap.size v6 []) (hL : Below w0.heap.size w0 w)
    (hexit : ∀ (x6 x8 x40 x41 x42 x43 x44 x45 x46 x47 x48 x49 x50 x51 x52 x53 x54 x55 x56 x57 x58 : Value) (w' : World), OB w' w0.heap.size x6 (outN h 8) ∧ Below w0.heap.size w0 w' → Q0 (.exit 4) ⟨List.toArray (u0 :: (.pointer (some ⟨g, 0, none⟩)) :: u2 :: u3 :: u4 :: u5 :: x6 :: (.int .i64 8) :: x8 :: u9 :: u10 :: u11 :: u12 :: u13 :: u14 :: u15 :: u16 :: u17 :: u18 :: u19 :: u20 :: u21 :: u22 :: u23 :: u24 :: u25 :: u26 :: u27 :: u28 :: u29 :: u30 :: u31 :: u32 :: u33 :: u34 :: u35 :: u36 :: u37 :: u38 :: u39 :: x40 :: x41 :: x42 :: x43 :: x44 :: x45 :: x46 :: x47 :: x48 :: x49 :: x50 :: x51 :: x52 :: x53 :: x54 :: x55 :: x56 :: x57 :: x58 :: u59 :: u60 :: []), []⟩ w') :
    Code.wp Try.prog (loopNo Try.f47 2) Q0 ⟨List.toArray (u0 :: (.pointer (some ⟨g, 0, none⟩)) :: u2 :: u3 :: u4 :: u5 :: v6 :: (.int .i64 0) :: u8 :: u9 :: u10 :: u11 :: u12 :: u13 :: u14 :: u15 :: u16 :: u17 :: u18 :: u19 :: u20 :: u21 :: u22 :: u23 :: u24 :: u25 :: u26 :: u27 :: u28 :: u29 :: u30 :: u31 :: u32 :: u33 :: u34 :: u35 :: u36 :: u37 :: u38 :: u39 :: u40 :: u41 :: u42 :: u43 :: u44 :: u45 :: u46 :: u47 :: u48 :: u49 :: u50 :: u51 :: u52 :: u53 :: u54 :: u55 :: u56 :: u57 :: u58 :: u59 :: u60 :: []), []⟩ w := by
  conv => arg 2; whnf
  have HX := Lib.hid hexit
  clear hexit
  go_loopg [6, 7] 8 (fun gg sv si wr => ∃ i : Nat, si = .int .i64 i ∧ i ≤ 8 ∧ 8 ≤ gg + i ∧ Aside0 (OB wr w0.heap.size sv (outN h i)) ∧ Aside0 (Below w0.heap.size w0 wr))
  case atStart => exact ⟨0, rfl, by omega, by omega, ⟨hO⟩, ⟨hL⟩⟩
  case round =>
    obtain ⟨i, rfl, hi, hg, HO, HL⟩ := hrel
    by_cases hlt : i < 8
    · have c1 : decide ((i : Int) < 8) = true := decide_eq_true (by omega)
      have HQ := Lib.hid (show (outN h i).length ≤ 1000 by rw [outN_length]; omega)
      go_wp2
      refine sum3_wp w0 (outN h i) g i h b n _ _ _ _ _ _ _ _ _ _ _ _ _ _ _ _ _ _ _ _ _ _ _ _ _ _ _ _ _ _ _ _ _ _ _ _ _ _ _ _ _ _ _ _ _ _ _ _ _ _ _ _ _ _ _ _ _ _ _ _ hh hlt hB HQ.out HO.out HL.out ?_
      intro x6 _ _ _ _ _ _ _ _ _ _ _ _ _ _ _ w1
      rintro ⟨P1, P2⟩
      have O1 := Aside0.mk P1; have L1 := Aside0.mk P2
      rw [← outN_succ h i] at O1
      clear P1 P2 HO HL HQ
      go_wp2
      go_roundg (8 - (i + 1))
      case measure => omega
      case rel => exact ⟨i + 1, by go_num, by omega, by omega, O1, L1⟩
    · have c1 : decide ((i : Int) < 8) = false := decide_eq_false (by omega)
      obtain rfl : i = 8 := by omega
      go_wp2
      have P1 := HO.out
      have P2 := HL.out
      refine HX.out _ _ _ _ _ _ _ _ _ _ _ _ _ _ _ _ _ _ _ _ _ _ ?_
      exact ⟨P1, P2⟩
end

/-! The reference ends a digest: its contract. Conditions: eight words of 32 bits, sizes. -/
section
open Go.RowKit Go.Shelf Go.Proofs.YtajbljegeiebjaaW.PrintWords Go.Proofs.YtajbljegeiebjaaW.PrintLast Go.Proofs.YtajbljegeiebjaaW.PrintMore Go.Proofs.Ytajbljegeiebjaa.PSha


set_option maxRecDepth 1000000 in
set_option maxHeartbeats 16000000 in
theorem l01Sum_calls (h : List Nat) (b : ByteArray) (n : Int) (hh : WN 8 h) (hb : b.size ≤ 1000000) (h0 : 0 ≤ n) (h1 : n ≤ 1000000000) (w : World) :
    Calls Try.prog 47 #[.agg (hcw h b n)] w fun e w' => e = .returned (.string (strOfNums (outN (sumS h b n) 8))) ∧ Below w.heap.size w w' := by
  have HH := Lib.hid hh
  have h2 : n ≤ 2000000000 := by omega
  obtain ⟨h3, b3, n3, he3, ho3, HC⟩ : ∃ (h3 : List Nat) (b3 : ByteArray) (n3 : Int), sumS h b n = h3 ∧ WN 8 h3 ∧ ∀ W, Calls Try.prog 39 #[.agg (hcw h b n), .string (strOfNums (tailOf n))] W fun e w' => e = .returned (.agg (hcw h3 b3 n3)) ∧ Below W.heap.size W w' :=
    ⟨_, _, _, rfl, sumS_ok hh b n, fun W => l01More_calls h b (strOfNums (tailOf n)) n hh hb (tailOf_size n) h0 h2 W⟩
  rw [he3]
  replace HC := Lib.hid HC; have HO3 := Lib.hid ho3
  have H0 := Lib.hid h0; have H1 := Lib.hid h2
  clear hh hb h1 he3 ho3
  go_enter Try.func47, Try.ntmps47
  go_upto_region 1 with (fail)
  refine wp_world (fun W => Blk W w.heap.size 26 (hcw h b n) ∧ Below w.heap.size w W) ⟨Blk.new _ _ _, by (repeat' (first | (with_reducible exact Below.refl _ _) | (with_reducible assumption) | (with_reducible refine Below.alloc ?_ ?_ _) | (with_reducible refine Below_drewN ?_ _) | (with_reducible refine Below.setCell ?_ ?_ _) | (with_reducible refine below_setRow ?_ ?_ _) | (with_reducible refine Below.drew ?_) | go_size))⟩ ?_
  rintro W0 ⟨P1, P2⟩
  have B0 := Aside0.mk P1; have L0 := Aside0.mk P2
  clear P1 P2
  obtain ⟨_, c9, f9⟩ := hcw_buf B0.out HH.out.1
  go_wp2
  refine sum0_wp W0 w.heap.size h b n _ _ _ _ _ _ _ _ _ _ _ _ _ _ _ _ _ _ _ _ _ _ _ _ _ _ _ _ _ _ _ _ _ _ _ _ _ _ _ _ _ _ _ _ _ _ _ _ _ _ _ _ _ _ _ _ _ _ _ _ _ _ HH.out H0.out H1.out B0.out (OB.lit W0 _ [128] (Nat.le_refl _) (by decide)) (below_alloc (Below.refl _ _) _) ?_
  intro x4 _ _ _ _ _ _ _ _ _ _ w1
  rintro ⟨P1, P2⟩
  have O1 := Aside0.mk P1; have L1 := Aside0.mk P2
  clear P1 P2 c9 f9
  go_wp2
  refine sum1_wp W0 (padZ (zerosOf n)) (8 * n) x4 _ _ _ _ _ _ _ _ _ _ _ _ _ _ _ _ _ _ _ _ _ _ _ _ _ _ _ _ _ _ _ _ _ _ _ _ _ _ _ _ _ _ _ _ _ _ _ _ _ _ _ _ _ _ _ _ _ _ _ _ (by rw [padZ_length]; unfold zerosOf; omega) O1.out L1.out ?_
  intro x4' _ _ _ _ _ _ _ _ _ _ _ _ w2
  rintro ⟨P1, P2⟩
  have O2 : Aside0 (OB w2 W0.heap.size x4' (tailOf n)) := ⟨P1⟩
  have L2 := Aside0.mk P2
  clear P1 P2 O1 L1
  have B2 := Aside0.mk (B0.out.below L2.out)
  have hcv := O2.out.string
  go_wp2_with (first
    | (refine wpList_load_hash rfl _ rfl w.heap.size rfl B2.out HH.out.1 ?_)
    | (go_at_call 39; refine (HC.out _).mono ?_; rintro e w3 ⟨rfl, hb⟩; have B3 := Aside0.mk (B2.out.below hb); have L3 := Aside0.mk ((L0.out.trans (L2.out.mono L0.out.size)).trans (hb.mono (Nat.le_trans L0.out.size L2.out.size))); clear hb)
    | (refine wpList_store_hash rfl _ _ rfl w.heap.size h3 b3 n3 rfl rfl B3.out (hcw_size HH.out.1) HO3.out.1 ?_; intro w4 hB4 hO4; have B4 := Aside0.mk hB4; have L4 := Aside0.mk (hO4.below L3.out L3.out.size (Nat.le_refl _)); clear hB4 hO4 hcv))
  refine sum2_wp w4 w.heap.size h3 b3 n3 _ _ _ _ _ _ _ _ _ _ _ _ _ _ _ _ _ _ _ _ _ _ _ _ _ _ _ _ _ _ _ _ _ _ _ _ _ _ _ _ _ _ _ _ _ _ _ _ _ _ _ _ _ _ _ _ _ _ _ _ _ HO3.out B4.out (OB.lit w4 _ [] (Nat.le_refl _) (by decide)) (below_alloc (Below.refl _ _) _) ?_
  intro x6 _ _ _ _ _ _ _ _ _ _ _ _ _ _ _ _ _ _ _ _ w5
  rintro ⟨P1, P2⟩
  have O5 := Aside0.mk P1; have L5 := Aside0.mk (L4.out.trans (P2.mono L4.out.size))
  clear P1 P2
  have hcv := O5.out.string
  go_wp2
  go_ret
  exact ⟨rfl, L5.out⟩
end

/-! The loops of the program's end of a digest. Conditions: sizes. -/
section
open Go.RowKit Go.Shelf Go.Proofs.YtajbljegeiebjaaW.PrintWords Go.Proofs.YtajbljegeiebjaaW.PrintLast Go.Proofs.YtajbljegeiebjaaW.PrintMore Go.Proofs.Ytajbljegeiebjaa.PSha

set_option maxRecDepth 1000000 in
set_option maxHeartbeats 16000000 in
theorem isum0_wp (w0 : World) (P : List Int) (m : Int) (u0 u1 u2 u6 u7 u8 u9 u10 u11 u12 u13 u14 u15 u16 u17 u18 u19 u20 u21 u22 u23 u24 u25 u26 u27 u28 u29 u30 u31 u32 u33 u34 u35 u36 u37 u38 u39 u40 u41 u42 u43 u44 u45 u46 u47 u48 u49 u50 u51 u52 u53 u54 u55 : Value) (Q0 : Exit → Act → World → Prop) (w : World) (hP : P.length ≤ 1000) (hL : Below w0.heap.size w0 w)
    (hexit : ∀ (x19 x20 x21 x22 x23 x24 x25 x26 x27 x28 x29 x30 x31 : Value) (w' : World), Below w0.heap.size w0 w' → Q0 (.exit 0) ⟨List.toArray (u0 :: u1 :: u2 :: (.int .i64 m) :: (.string (strOfNums (P ++ beT 7 m 8))) :: (.int .i64 (-1)) :: u6 :: u7 :: u8 :: u9 :: u10 :: u11 :: u12 :: u13 :: u14 :: u15 :: u16 :: u17 :: u18 :: x19 :: x20 :: x21 :: x22 :: x23 :: x24 :: x25 :: x26 :: x27 :: x28 :: x29 :: x30 :: x31 :: u32 :: u33 :: u34 :: u35 :: u36 :: u37 :: u38 :: u39 :: u40 :: u41 :: u42 :: u43 :: u44 :: u45 :: u46 :: u47 :: u48 :: u49 :: u50 :: u51 :: u52 :: u53 :: u54 :: u55 :: []), []⟩ w') :
    Code.wp Try.prog (loopNo Try.f48 0) Q0 ⟨List.toArray (u0 :: u1 :: u2 :: (.int .i64 m) :: (.string (strOfNums P)) :: (.int .i64 7) :: u6 :: u7 :: u8 :: u9 :: u10 :: u11 :: u12 :: u13 :: u14 :: u15 :: u16 :: u17 :: u18 :: u19 :: u20 :: u21 :: u22 :: u23 :: u24 :: u25 :: u26 :: u27 :: u28 :: u29 :: u30 :: u31 :: u32 :: u33 :: u34 :: u35 :: u36 :: u37 :: u38 :: u39 :: u40 :: u41 :: u42 :: u43 :: u44 :: u45 :: u46 :: u47 :: u48 :: u49 :: u50 :: u51 :: u52 :: u53 :: u54 :: u55 :: []), []⟩ w := by
  conv => arg 2; whnf
  have HX := Lib.hid hexit
  clear hexit
  go_loopg [4, 5] 8 (fun gg sv si wr => ∃ i : Int, si = .int .i64 i ∧ -1 ≤ i ∧ i ≤ 7 ∧ i + 1 ≤ (gg : Int) ∧ sv = .string (strOfNums (P ++ beT 7 m (7 - i).toNat)) ∧ Aside0 (Below w0.heap.size w0 wr))
  case atStart => exact ⟨7, rfl, by omega, by omega, by omega, by simp [beT], ⟨hL⟩⟩
  case round =>
    obtain ⟨i, rfl, h0, h1, hg, rfl, HL⟩ := hrel
    by_cases hlt : 0 ≤ i
    · have c1 : decide (0 ≤ i) = true := decide_eq_true hlt
      have HP := Lib.hid (show P ++ beT 7 m (7 - (i - 1)).toNat = (P ++ beT 7 m (7 - i).toNat) ++ [(m / 2 ^ (8 * i).toNat) % 256] by rw [List.append_assoc]; exact congrArg (P ++ ·) (beT_succ 7 m i hlt h1))
      have HQ : (P ++ beT 7 m (7 - i).toNat).length + 1 ≤ 1000000 := beT_room 7 P m i hP (by decide) hlt
      obtain ⟨y, hy⟩ : ∃ y, (m / 2 ^ (8 * i).toNat) % 256 = y := ⟨_, rfl⟩
      have hcv : (convert 81 9 (.slice (some ⟨wr.heap.size, 0, none⟩) 1 1)).run Try.prog (wr.alloc (.cells #[.int .u8 y] 5)) = .ok (.string (strOfNums [y])) (wr.alloc (.cells #[.int .u8 y] 5)) := (OB.lit wr wr.heap.size [y] (Nat.le_refl _) (by show (1 : Nat) ≤ 1000000; decide)).string
      have HS := Lib.hid (show strOfNums (P ++ beT 7 m (7 - (i - 1)).toNat) = strOfNums (P ++ beT 7 m (7 - i).toNat) ++ strOfNums [y] by rw [HP.out, strOfNums_append, hy])
      obtain ⟨s, hs⟩ : ∃ s, strOfNums (P ++ beT 7 m (7 - i).toNat) = s := ⟨_, rfl⟩
      have hz : (9223372036854775807 < s.size + (strOfNums [y]).size) = False := eq_false (by rw [← hs, strOfNums_size, strOfNums_size]; show ¬ 9223372036854775807 < _ + 1; have := HQ; omega)
      rw [hs] at HS
      simp only [hs]
      replace hs := Lib.hid hs
      clear HQ HP
      have L1 := Aside0.mk (below_alloc HL.out (.cells #[.int .u8 y] 5))
      go_wp2
      clear HL hcv hz
      go_roundg (i.toNat)
      case measure => omega
      case rel => exact ⟨i - 1, rfl, by omega, by omega, by omega, by rw [HS.out], L1⟩
    · have c1 : decide (0 ≤ i) = false := decide_eq_false hlt
      obtain rfl : i = -1 := by omega
      go_wp2
      have P2 := HL.out
      refine HX.out _ _ _ _ _ _ _ _ _ _ _ _ _ _ ?_
      exact P2


set_option maxRecDepth 1000000 in
set_option maxHeartbeats 16000000 in
theorem isum1_wp (w0 : World) (h : List Nat) (v6 : Value) (u0 u1 u2 u3 u4 u5 u7 u8 u9 u10 u11 u12 u13 u14 u15 u16 u17 u18 u19 u20 u21 u22 u23 u24 u25 u26 u27 u28 u29 u30 u31 u32 u33 u34 u37 u38 u39 u40 u41 u42 u43 u44 u45 u46 u47 u48 u49 u50 u51 u52 u53 u54 u55 : Value) (Q0 : Exit → Act → World → Prop) (w : World) (hh : WN 8 h) (hO : OB w w0.heap.size v6 []) (hL : Below w0.heap.size w0 w)
    (hexit : ∀ (x6 x8 x37 x38 x39 x40 x41 x42 x43 x44 x45 x46 x47 x48 x49 x50 x51 x52 x53 : Value) (w' : World), OB w' w0.heap.size x6 (outN h 8) ∧ Below w0.heap.size w0 w' → Q0 (.exit 2) ⟨List.toArray (u0 :: u1 :: u2 :: u3 :: u4 :: u5 :: x6 :: u7 :: x8 :: u9 :: u10 :: u11 :: u12 :: u13 :: u14 :: u15 :: u16 :: u17 :: u18 :: u19 :: u20 :: u21 :: u22 :: u23 :: u24 :: u25 :: u26 :: u27 :: u28 :: u29 :: u30 :: u31 :: u32 :: u33 :: u34 :: (.agg (wds .i64 h)) :: (.int .i64 8) :: x37 :: x38 :: x39 :: x40 :: x41 :: x42 :: x43 :: x44 :: x45 :: x46 :: x47 :: x48 :: x49 :: x50 :: x51 :: x52 :: x53 :: u54 :: u55 :: []), []⟩ w') :
    Code.wp Try.prog (loopNo Try.f48 1) Q0 ⟨List.toArray (u0 :: u1 :: u2 :: u3 :: u4 :: u5 :: v6 :: u7 :: u8 :: u9 :: u10 :: u11 :: u12 :: u13 :: u14 :: u15 :: u16 :: u17 :: u18 :: u19 :: u20 :: u21 :: u22 :: u23 :: u24 :: u25 :: u26 :: u27 :: u28 :: u29 :: u30 :: u31 :: u32 :: u33 :: u34 :: (.agg (wds .i64 h)) :: (.int .i64 0) :: u37 :: u38 :: u39 :: u40 :: u41 :: u42 :: u43 :: u44 :: u45 :: u46 :: u47 :: u48 :: u49 :: u50 :: u51 :: u52 :: u53 :: u54 :: u55 :: []), []⟩ w := by
  conv => arg 2; whnf
  have HX := Lib.hid hexit
  clear hexit
  go_loopg [6, 36] 8 (fun gg sv si wr => ∃ i : Nat, si = .int .i64 i ∧ i ≤ 8 ∧ 8 ≤ gg + i ∧ Aside0 (OB wr w0.heap.size sv (outN h i)) ∧ Aside0 (Below w0.heap.size w0 wr))
  case atStart => exact ⟨0, rfl, by omega, by omega, ⟨hO⟩, ⟨hL⟩⟩
  case round =>
    obtain ⟨i, rfl, hi, hg, HO, HL⟩ := hrel
    by_cases hlt : i < 8
    · have c1 : decide ((i : Int) < 8) = true := decide_eq_true (by omega)
      have p0 : (0 ≤ (i : Int)) = True := eq_true (by omega)
      have p1 : ((i : Int) < 8) = True := eq_true (by omega)
      have hx := fun W => index8_int h hh.1 i hlt W
      have HQ := Lib.hid (show (outN h i).length + 4 ≤ 1000000 by rw [outN_length]; omega)
      have HP : Hid (outN h (i + 1) = outN h i ++ [((h.getD i 0 : Nat) : Int) / 16777216 % 256, ((h.getD i 0 : Nat) : Int) / 65536 % 256, ((h.getD i 0 : Nat) : Int) / 256 % 256, ((h.getD i 0 : Nat) : Int) % 256]) := Lib.hid rfl
      obtain ⟨a, ha⟩ : ∃ a, h.getD i 0 = a := ⟨_, rfl⟩
      simp only [ha] at hx HP
      clear ha
      go_wp2_with (at_builtin; refine wpList_append_bytes rfl _ _ rfl w0 w0.heap.size _ (outN h i) rfl (HO.out.alloc _) (below_alloc HL.out _) (by have := HL.out.size; simp; omega) wr.heap.size [(a : Int) / 16777216 % 256, (a : Int) / 65536 % 256, (a : Int) / 256 % 256, (a : Int) % 256] rfl (heap_alloc_new _ _) (Nat.succ_pos _) HQ.out ?_; intro v' w1 hO1 hL1)
      have O1 := Aside0.mk hO1; have L1 := Aside0.mk hL1
      rw [← HP.out] at O1
      clear hO1 hL1 HO HL HP HQ hx
      go_roundg (8 - (i + 1))
      case measure => omega
      case rel => exact ⟨i + 1, by go_num, by omega, by omega, O1, L1⟩
    · have c1 : decide ((i : Int) < 8) = false := decide_eq_false (by omega)
      obtain rfl : i = 8 := by omega
      go_wp2
      have P1 := HO.out
      have P2 := HL.out
      refine HX.out _ _ _ _ _ _ _ _ _ _ _ _ _ _ _ _ _ _ _ _ ?_
      exact ⟨P1, P2⟩
end

/-! The program ends a digest: its contract. Conditions: eight words of 32 bits, sizes; what is left over is less than a block. -/
section
open Go.RowKit Go.Shelf Go.Proofs.YtajbljegeiebjaaW.PrintWords Go.Proofs.YtajbljegeiebjaaW.PrintLast Go.Proofs.YtajbljegeiebjaaW.PrintMore Go.Proofs.Ytajbljegeiebjaa.PSha


theorem repeat_zero : ∀ z : Nat, (⟨(Lib.repeatL [0] z).toArray⟩ : ByteArray) = strOfNums (List.replicate z 0) := by
  intro z
  have e : ∀ z, Lib.repeatL [0] z = (List.replicate z (0 : UInt8)) := by
    intro z
    induction z with
    | zero => rfl
    | succ z ih => rw [Lib.repeatL, ih, List.replicate_succ]; rfl
  rw [e]
  simp [strOfNums]
theorem pad_str (z : Nat) : (⟨#[128]⟩ : ByteArray) ++ strOfNums (List.replicate z 0) = strOfNums (padZ z) := by
  have : (⟨#[128]⟩ : ByteArray) = strOfNums [128] := rfl
  rw [this, ← strOfNums_append]; rfl
theorem zeros_places (b : ByteArray) (n : Int) (h : (b.size : Int) = n % 64) : b.size ≤ 63 ∧ (119 - (b.size : Int)) % 64 = ((zerosOf n : Nat) : Int) ∧ Int.tmod (119 - (b.size : Int)) 64 = ((zerosOf n : Nat) : Int) ∧ wrap64 (119 - (b.size : Int)) = 119 - (b.size : Int) ∧ zerosOf n ≤ 63 := by
  have e : (119 - (b.size : Int)) % 64 = ((zerosOf n : Nat) : Int) := by unfold zerosOf; omega
  refine ⟨by omega, e, ?_, by unfold wrap64; omega, by unfold zerosOf; omega⟩
  rw [Int.tmod_eq_emod_of_nonneg (by omega)]; exact e

set_option maxRecDepth 1000000 in
set_option maxHeartbeats 16000000 in
theorem sum_calls (h : List Nat) (b : ByteArray) (n : Int) (hh : WN 8 h) (hbn : (b.size : Int) = n % 64) (h0 : 0 ≤ n) (h1 : n ≤ 1000000000) (w : World) :
    Calls Try.prog 48 #[.agg (hcw h b n)] w fun e w' => e = .returned (.string (strOfNums (outN (sumS h b n) 8))) ∧ Below w.heap.size w w' := by
  have HH := Lib.hid hh
  have h2 : n ≤ 2000000000 := by omega
  obtain ⟨hb1, z1, z2, z3, z4⟩ := zeros_places b n hbn
  obtain ⟨h3, b3, n3, he3, ho3, HC⟩ : ∃ (h3 : List Nat) (b3 : ByteArray) (n3 : Int), sumS h b n = h3 ∧ WN 8 h3 ∧ ∀ W, Calls Try.prog 43 #[.agg (hcw h b n), .string (strOfNums (tailOf n))] W fun e w' => e = .returned (.agg (hcw h3 b3 n3)) ∧ Below W.heap.size W w' :=
    ⟨_, _, _, rfl, sumS_ok hh b n, fun W => more_calls h b (strOfNums (tailOf n)) n hh (Nat.le_trans hb1 (by decide)) (tailOf_size n) h0 h2 W⟩
  rw [he3]
  replace HC := Lib.hid HC; have HO3 := Lib.hid ho3
  have hf : ∀ W, (Instr.field 26 (.agg (hcw h3 b3 n3)) 0).run Try.prog W = .ok (.agg (wds .i64 h3)) W := by
    obtain ⟨a0, a1, a2, a3, a4, a5, a6, a7, rfl, _⟩ := ho3.four
    intro W; kernel_rfl
  obtain ⟨z, hz⟩ : ∃ z, zerosOf n = z := ⟨_, rfl⟩
  have HT := Lib.hid (show tailOf n = padZ z ++ beT 7 (8 * n) 8 by unfold tailOf; rw [hz]; rfl)
  rw [hz] at z1 z2 z4
  have HRep := Lib.hid (fun W => Go.Proofs.Try.strings_Repeat ⟨#[0]⟩ z W (Nat.le_trans z4 (by decide)) (by show 1 * z ≤ _; omega))
  obtain ⟨rs, hrs⟩ : ∃ rs, (⟨(Lib.repeatL [0] z).toArray⟩ : ByteArray) = rs := ⟨_, rfl⟩
  have HRep2 : Hid (∀ W, Calls Try.prog 76 #[.string ⟨#[0]⟩, .int .i64 z] W fun e w' => e = .returned (.string rs) ∧ Below W.heap.size W w') := Lib.hid (fun W => hrs ▸ HRep.out W)
  have hrs2 : rs = strOfNums (List.replicate z 0) := by rw [← hrs, repeat_zero]
  have rsz : rs.size = z := by rw [hrs2, strOfNums_size, List.length_replicate]
  have hq : (9223372036854775807 < 1 + rs.size) = False := eq_false (by rw [rsz]; omega)
  have hcat : (⟨#[128]⟩ : ByteArray) ++ rs = strOfNums (padZ z) := by rw [hrs2, pad_str]
  have HZ := Lib.hid (show (padZ z).length ≤ 1000 by rw [padZ_length]; omega)
  clear hh h1 he3 ho3 hbn hz HRep hrs hrs2 rsz
  go_enter Try.func48, Try.ntmps48
  go_upto_region 1 with (fail)
  refine wp_world (fun W => Blk W w.heap.size 26 (hcw h b n) ∧ Below w.heap.size w W) ⟨Blk.new _ _ _, by (repeat' (first | (with_reducible exact Below.refl _ _) | (with_reducible assumption) | (with_reducible refine Below.alloc ?_ ?_ _) | (with_reducible refine Below_drewN ?_ _) | (with_reducible refine Below.setCell ?_ ?_ _) | (with_reducible refine below_setRow ?_ ?_ _) | (with_reducible refine Below.drew ?_) | go_size))⟩ ?_
  rintro W0 ⟨P1, P2⟩
  have B0 := Aside0.mk P1; have L0 := Aside0.mk P2
  clear P1 P2
  obtain ⟨⟨c8, f8⟩, c9, f9⟩ := hcw_buf B0.out HH.out.1
  go_wp2_with (go_at_call 76; refine (HRep2.out _).mono ?_; rintro e w1 ⟨rfl, hb⟩; have B1 := Aside0.mk (B0.out.below (hb.mono (Nat.le_of_lt_succ (Nat.lt_succ_of_le (Nat.le_refl _))))); have L1 := Aside0.mk (L0.out.trans (hb.mono L0.out.size)); clear hb)
  refine isum0_wp w1 (padZ z) (8 * n) _ _ _ _ _ _ _ _ _ _ _ _ _ _ _ _ _ _ _ _ _ _ _ _ _ _ _ _ _ _ _ _ _ _ _ _ _ _ _ _ _ _ _ _ _ _ _ _ _ _ _ _ _ _ _ HZ.out (Below.refl _ _) ?_
  intro _ _ _ _ _ _ _ _ _ _ _ _ _ w2
  intro P2
  have B2 := Aside0.mk (B1.out.below P2); have L2 := Aside0.mk (L1.out.trans (P2.mono L1.out.size))
  rw [← HT.out]
  clear P2 c8 f8 c9 f9 hcat hq z1 z2 z3 B0 L0 B1 L1
  go_wp2_with (first
    | (refine wpList_load_hash rfl _ rfl w.heap.size rfl B2.out HH.out.1 ?_)
    | (go_at_call 43; refine (HC.out _).mono ?_; rintro e w3 ⟨rfl, hb⟩; have L3 := Aside0.mk (L2.out.trans (hb.mono L2.out.size)); clear hb))
  refine isum1_wp w3 h3 _ _ _ _ _ _ _ _ _ _ _ _ _ _ _ _ _ _ _ _ _ _ _ _ _ _ _ _ _ _ _ _ _ _ _ _ _ _ _ _ _ _ _ _ _ _ _ _ _ _ _ _ _ _ _ _ HO3.out (OB.nil _ _) (Below.refl _ _) ?_
  intro x6 _ _ _ _ _ _ _ _ _ _ _ _ _ _ _ _ _ _ w5
  rintro ⟨P1, P2⟩
  have O5 := Aside0.mk P1; have L5 := Aside0.mk (L3.out.trans (P2.mono L3.out.size))
  clear P1 P2 hf
  have hcv := O5.out.string
  go_wp2
  go_ret
  exact ⟨rfl, L5.out⟩
end

end Go.Proofs.Ytajbljegeiebjaa.Leaf
