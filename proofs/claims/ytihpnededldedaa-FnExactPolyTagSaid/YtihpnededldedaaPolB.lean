/-
  The sixteen bytes of a tag, the program's way: bit by bit. Conditions: limbs below 2 to the 26, sixteen bytes of a key.
-/
import Derived.Test.YtihpnededldedaaPolL
namespace Go.Proofs.Ytihpnededldedaa.Leaf
open Go.RowKit Go.Shelf Go.Proofs.YtihpnededldedaaW.PrintWords Go.Proofs.YtihpnededldedaaW.PrintLast Go.Proofs.YtihpnededldedaaW.PrintMore Go.Proofs.Ytihpnededldedaa.Pol

/-- The first i bytes of the tag, and zeros behind. -/
def tagRow (n : Nat) (k : Nat → Nat) (i : Nat) : List Int := ((tagNums n k i).map fun (x : Nat) => (x : Int)) ++ List.replicate (16 - i) 0
theorem tagRow_length (n : Nat) (k : Nat → Nat) (i : Nat) (h : i ≤ 16) : (tagRow n k i).length = 16 := by
  unfold tagRow; rw [List.length_append, List.length_map, tagNums_length, List.length_replicate]; omega
theorem tagRow_set (n : Nat) (k : Nat → Nat) (i : Nat) (h : i < 16) : (tagRow n k i).set i (((tagSum n k i + (n / 256 ^ i % 256 + k i)) % 256 : Nat) : Int) = tagRow n k (i + 1) := by
  have e : List.replicate (16 - i) (0 : Int) = 0 :: List.replicate (16 - (i + 1)) 0 := by
    rw [show 16 - i = (16 - (i + 1)) + 1 by omega]; rfl
  unfold tagRow
  rw [e, List.set_append_right _ _ (by rw [List.length_map, tagNums_length]; omega), List.length_map, tagNums_length, Nat.sub_self, List.set_cons_zero, tagNums, List.map_append, List.append_assoc]
  rfl
theorem tagRow_end (n : Nat) (k : Nat → Nat) : tagRow n k 16 = (tagNums n k 16).map fun (x : Nat) => (x : Int) := by
  unfold tagRow; rw [Nat.sub_self, List.replicate_zero, List.append_nil]
theorem made16 : madeCells #[.int .u8 0] 16 = #[.int .u8 0, .int .u8 0, .int .u8 0, .int .u8 0, .int .u8 0, .int .u8 0, .int .u8 0, .int .u8 0, .int .u8 0, .int .u8 0, .int .u8 0, .int .u8 0, .int .u8 0, .int .u8 0, .int .u8 0, .int .u8 0] := by kernel_rfl
theorem Row.of_blk {w : World} {g : Nat} {t : TypeId} {k : IntKind} {xs : List Int} (h : Blk w g t (ints k xs)) : Row w g k xs := by
  refine ⟨h.lt, fun j hj => ?_⟩
  have := h.at j _ (ints_get k xs j hj)
  have e : rd xs (j : Int) = xs.getD j 0 := rfl
  rw [e] at this; exact this
/-- Block g holds v, the next the row; all below is as it was. -/
def Byt (w0 wr : World) (g : Nat) (T : TypeId) (v : List Nat) (xs : List Int) : Prop := Blk wr g T (wds .u64 v) ∧ Row wr (g + 1) .u8 xs ∧ Below w0.heap.size w0 wr ∧ w0.heap.size = g
theorem Byt.start (w : World) (T e : TypeId) (v : List Nat) (n : Nat) (k : Nat → Nat) : Byt w ((w.alloc (.cells (wds .u64 v) T)).alloc (.cells #[.int .u8 0, .int .u8 0, .int .u8 0, .int .u8 0, .int .u8 0, .int .u8 0, .int .u8 0, .int .u8 0, .int .u8 0, .int .u8 0, .int .u8 0, .int .u8 0, .int .u8 0, .int .u8 0, .int .u8 0, .int .u8 0] e)) w.heap.size T v (tagRow n k 0) :=
  ⟨(Blk.new _ _ _).alloc _, Row.of_blk (t := e) (Blk.new' _ _ _ _ (by simp)), below_alloc (below_alloc (Below.refl _ _) _) _, rfl⟩
theorem Byt.set {w0 wr : World} {g : Nat} {T : TypeId} {v : List Nat} {xs : List Int} (H : Byt w0 wr g T v xs) (i : Nat) (h : i < xs.length) (x : Int) : Byt w0 (wr.setCell ⟨g + 1, i, none⟩ (.int .u8 x)) g T v (xs.set i x) := by
  have hs := H.2.1.set (i : Int) (Int.natCast_nonneg _) (by omega) x
  rw [Int.toNat_natCast] at hs
  exact ⟨H.1.other _ (by simp) _, hs, H.2.2.1.setCell (p := ⟨g + 1, i, none⟩) (by have := H.2.2.2; simp; omega) _, H.2.2.2⟩
theorem and_one_u64 (v : Nat) (r : Nat) (hv : v < 67108864) : (v / 2 ^ r % 2 = 1 → Go.bits .and .u64 ((v : Int) / 2 ^ r) 1 = 1) ∧ (v / 2 ^ r % 2 = 0 → Go.bits .and .u64 ((v : Int) / 2 ^ r) 1 = 0) := by
  have hz : v / 2 ^ r < 67108864 := Nat.lt_of_le_of_lt (Nat.div_le_self _ _) hv
  have ha := and_u64 (v / 2 ^ r) 1 (by omega) (by decide)
  rw [Nat.and_one_is_mod] at ha
  push_cast at ha
  refine ⟨fun h => ?_, fun h => ?_⟩
  · have e := congrArg (fun n : Nat => (n : Int)) h
    push_cast at e
    rw [ha, e]
  · have e := congrArg (fun n : Nat => (n : Int)) h
    push_cast at e
    rw [ha, e]
theorem own_names (v : List Nat) (hv : L5 67108864 v) (i b : Nat) (hi : i < 16) (hb : b < 8) :
    ∃ q r x own own' : Nat, ((8 * i + b) / 26 = q ∧ (8 * i + b) % 26 = r ∧ r < 26 ∧ q < 5) ∧ v.getD q 0 = x ∧ val v / 256 ^ i % 2 ^ b = own ∧ val v / 256 ^ i % 2 ^ (b + 1) = own' ∧
      ((Go.bits .and .u64 ((x : Int) / 2 ^ r) 1 = 1 ∧ ∃ P : Nat, wrap64 ((2 : Int) ^ b) = (P : Int) ∧ Go.bits .or .i64 (own : Int) (P : Int) = (own' : Int)) ∨ (Go.bits .and .u64 ((x : Int) / 2 ^ r) 1 = 0 ∧ Go.bits .or .i64 (own : Int) 0 = (own' : Int))) := by
  have hat : 8 * i + b < 130 := by omega
  have hbit := bitOut v hv (8 * i + b) hat
  have hown := own_step (val v / 256 ^ i) b
  rw [byte_bit] at hown
  have hq : (8 * i + b) / 26 < 5 := by omega
  have hx : v.getD ((8 * i + b) / 26) 0 < 67108864 := by rw [limb_at v hv _ hq]; exact Nat.mod_lt _ (by decide)
  obtain ⟨h1, h0⟩ := and_one_u64 (v.getD ((8 * i + b) / 26) 0) ((8 * i + b) % 26) hx
  have hp : 2 ^ b ≤ 2 ^ 7 := Nat.pow_le_pow_right (by decide) (by omega)
  have hlt : val v / 256 ^ i % 2 ^ b < 2 ^ b := Nat.mod_lt _ (Nat.two_pow_pos b)
  refine ⟨_, _, _, _, _, ⟨rfl, rfl, Nat.mod_lt _ (by decide), hq⟩, rfl, rfl, rfl, ?_⟩
  rw [← hbit] at hown
  rcases Nat.mod_two_eq_zero_or_one (v.getD ((8 * i + b) / 26) 0 / 2 ^ ((8 * i + b) % 26)) with hz | hz
  · refine .inr ⟨h0 hz, ?_⟩
    rw [hz, Nat.zero_mul, Nat.or_zero] at hown
    have := or_i64' (val v / 256 ^ i % 2 ^ b) 0 (by omega) (by decide)
    rw [Nat.or_zero, hown] at this
    rw [hown]; exact this
  · refine .inl ⟨h1 hz, 2 ^ b, ?_, ?_⟩
    · have e : ((2 : Int) ^ b) = ((2 ^ b : Nat) : Int) := by push_cast; rfl
      rw [e]; exact wrap_ok _ (by omega) (by omega)
    · rw [hz, Nat.one_mul] at hown
      rw [or_i64' _ _ (by omega) (by omega), hown]

set_option maxRecDepth 100000 in
set_option maxHeartbeats 8000000 in
theorem bytes_calls (v : List Nat) (hv : L5 67108864 v) (key : ByteArray) (hk : 16 ≤ key.size) (w : World) : Calls Try.prog 92 #[.agg (wds .u64 v), .string key] w fun e w' => e = .returned (.string (strOfNums ((tagNums (val v) (bts key) 16).map fun (x : Nat) => (x : Int)))) ∧ Below w.heap.size w w' := by
  have mk := print_make (P := Try.prog) 75 5 .u8 1 Try.underlying75 (by kernel_rfl) (by decide) 16 (by decide)
  simp only [show ((16 : Nat) : Int) = 16 from rfl, made16] at mk
  have HV := Lib.hid hv
  have HK := Lib.hid hk
  clear hv hk
  go_enter Try.func92, Try.ntmps92
  refine wp_hide ?_
  intro Qx hQx
  have HQ := Lib.hid hQx
  clear hQx
  go_wp2
  clear mk
  go_loopg [6, 14] 16 (fun gg s6 s14 wr => ∃ i : Nat, s14 = .int .i64 i ∧ s6 = .int .i64 (tagSum (val v) (bts key) i) ∧ i ≤ 16 ∧ 16 ≤ gg + i ∧ Aside0 (Byt w wr w.heap.size 90 v (tagRow (val v) (bts key) i)))
  case atStart => exact ⟨0, rfl, rfl, by omega, by omega, ⟨Byt.start w _ _ v _ _⟩⟩
  case round =>
    obtain ⟨i, rfl, rfl, hi, hg, HT⟩ := hrel
    by_cases hlt : i < 16
    · have c1 : decide ((i : Int) < 16) = true := decide_eq_true (by omega)
      have hlt' : i < key.size := by have := HK.out; omega
      have hs1 := tagSum_le (val v) (bts key) (bts_lt key) i
      have HSUM := Lib.hid (show tagSum (val v) (bts key) (i + 1) = (tagSum (val v) (bts key) i + (val v / 256 ^ i % 256 + bts key i)) / 256 from rfl)
      have HSET := Lib.hid (tagRow_set (val v) (bts key) i hlt)
      have HLEN := Lib.hid (tagRow_length (val v) (bts key) i hi)
      generalize tagSum (val v) (bts key) i = cs at hs1 HSUM HSET ⊢
      go_wp2
      go_loopg [8, 17] 8 (fun gg s8 s17 wq => ∃ b own : Nat, s17 = .int .i64 b ∧ s8 = .int .i64 own ∧ b ≤ 8 ∧ 8 ≤ gg + b ∧ Aside0 (val v / 256 ^ i % 2 ^ b = own) ∧ Aside0 (Byt w wq w.heap.size 90 v (tagRow (val v) (bts key) i)))
      case atStart => exact ⟨0, 0, rfl, rfl, by omega, by omega, ⟨by rw [Nat.pow_zero, Nat.mod_one]⟩, HT⟩
      case round =>
        clear HT
        obtain ⟨b, own, rfl, rfl, hb, hg2, HO, HT⟩ := hrel
        by_cases hltb : b < 8
        · have c2 : decide ((b : Int) < 8) = true := decide_eq_true (by omega)
          obtain ⟨q, r, x, own0, own', ⟨hq, hr, hr26, hq5⟩, hx, ho, ho', hw⟩ := own_names v HV.out i b hlt hltb
          rw [HO.out] at ho
          subst ho
          have HO' := Aside0.mk ho'
          clear ho' HO
          have e1 : (8 * (i : Int) + (b : Int)) / 26 = (q : Int) := by omega
          have e2 : (8 * (i : Int) + (b : Int)) % 26 = (r : Int) := by omega
          have e3 : Int.tdiv (8 * (i : Int) + (b : Int)) 26 = (q : Int) := by rw [Int.tdiv_eq_ediv_of_nonneg (by omega)]; exact e1
          have e4 : Int.tmod (8 * (i : Int) + (b : Int)) 26 = (r : Int) := by rw [Int.tmod_eq_emod_of_nonneg (by omega)]; exact e2
          have p0 : (0 ≤ (q : Int)) = True := eq_true (by omega)
          have p1 : ((q : Int) < 5) = True := eq_true (by omega)
          have p2 : (q < 5) = True := eq_true hq5
          have p3 : (0 ≤ (r : Int)) = True := eq_true (by omega)
          have p4 : ((r : Int) < 0) = False := eq_false (by omega)
          have p5 : min r 64 = r := by omega
          have p6 : min b 64 = b := by omega
          have x1 : wr.cell? ⟨w.heap.size, q, none⟩ = some (.int .u64 (x : Int)) ∧ wr.frozen? ⟨w.heap.size, q, none⟩ = false := by
            have := HT.out.1.wat q (by rw [HV.out.length]; exact hq5)
            rw [hx] at this; exact this
          clear hx hq hr
          rcases hw with ⟨w1, P, w2, w3⟩ | ⟨w1, w2⟩
          · go_wp2
            go_roundg (8 - (b + 1))
            case measure => omega
            case rel => exact ⟨b + 1, own', by go_num, rfl, by omega, by omega, HO', HT⟩
          · go_wp2
            go_roundg (8 - (b + 1))
            case measure => omega
            case rel => exact ⟨b + 1, own', by go_num, rfl, by omega, by omega, HO', HT⟩
        · have c2 : decide ((b : Int) < 8) = false := decide_eq_false (by omega)
          obtain rfl : b = 8 := by omega
          have ho := HO.out
          rw [show (2 : Nat) ^ 8 = 256 from rfl] at ho
          rw [ho] at HSUM HSET
          have hown : own < 256 := by rw [← ho]; exact Nat.mod_lt _ (by decide)
          have hby : wrap64 ((key[i]'hlt').toNat : Int) = (bts key i : Int) := by
            have h0 : bt key (i : Int) = ((key[i]'hlt').toNat : Int) := dif_pos hlt'
            have h1 := bts_lt key i
            rw [← h0, bts_int]
            exact wrap_ok _ (by omega) (by omega)
          have hyl := bts_lt key i
          generalize bts key i = y at hby hyl HSUM HSET
          clear ho HO
          have x1 := HT.out.2.1.at (i : Int) (by omega) (by rw [HLEN.out]; omega)
          rw [Int.toNat_natCast] at x1
          go_wp2
          have HT2 : Aside0 (Byt w (wr.setCell ⟨w.heap.size + 1, i, none⟩ (.int .u8 (((cs : Int) + ((own : Int) + (y : Int))) % 256))) w.heap.size 90 v (tagRow (val v) (bts key) (i + 1))) := ⟨by
            have h := HT.out.set i (by rw [HLEN.out]; exact hlt) (((cs : Int) + ((own : Int) + (y : Int))) % 256)
            have e := HSET.out
            push_cast at e
            rw [e] at h; exact h⟩
          have HS6 := Lib.hid (show ((tagSum (val v) (bts key) (i + 1) : Nat) : Int) = ((cs : Int) + ((own : Int) + (y : Int))) / 256 by rw [HSUM.out]; push_cast; rfl)
          clear x1 HT HSET HSUM hby
          generalize wr.setCell ⟨w.heap.size + 1, i, none⟩ (.int .u8 (((cs : Int) + ((own : Int) + (y : Int))) % 256)) = we at HT2 ⊢
          go_roundg (16 - (i + 1))
          case measure => omega
          case rel => exact ⟨i + 1, by go_num, by rw [HS6.out], by omega, by omega, HT2⟩
    · have c1 : decide ((i : Int) < 16) = false := decide_eq_false (by omega)
      obtain rfl : i = 16 := by omega
      have hC := HT.out.2.1.C (by rw [tagRow_length _ _ _ (by omega)]; omega)
      rw [tagRow_length _ _ _ (by omega), tagRow_end] at hC
      have hcv : ∀ c : Nat, (convert 75 9 (.slice (some ⟨w.heap.size + 1, 0, none⟩) 16 c)).run Try.prog wr = .ok (.string (strOfNums ((tagNums (val v) (bts key) 16).map fun (x : Nat) => (x : Int)))) wr := fun c => by
        exact Kd.C_string Try.underlying75 Try.underlying5 Try.underlying9 hC
      generalize strOfNums ((tagNums (val v) (bts key) 16).map fun (x : Nat) => (x : Int)) = r at hcv HQ
      clear hC
      go_wp2
      refine HQ.out _ _ _ ?_
      go_ret
      exact ⟨rfl, HT.out.2.2.1⟩

end Go.Proofs.Ytihpnededldedaa.Leaf
