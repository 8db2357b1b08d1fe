/- A text added to a digest, by the reference and by the program. Conditions: sizes. -/
import Derived.Test.YtajbljegeiebjaaSha3
import Derived.Test.YtajbljegeiebjaaSha2
import Derived.Deep.Cut
namespace Go.Proofs.Ytajbljegeiebjaa.Leaf

/-! A text added to a digest: plain words, and laws for its cells. Conditions: none. -/
section
open Go.RowKit Go.Shelf Go.Proofs.YtajbljegeiebjaaW.PrintWords Go.Proofs.YtajbljegeiebjaaW.PrintLast Go.Proofs.YtajbljegeiebjaaW.PrintMore Go.Proofs.Ytajbljegeiebjaa.PSha

/-- So many blocks taken in: the words, and what is left over. -/
def moreS : Nat → List Nat → ByteArray → List Nat × ByteArray
  | 0, h, t => (h, t)
  | k + 1, h, t => moreS k (shaBlk h t) (t.extract 64 t.size)
theorem moreS_ok : ∀ (k : Nat) (h : List Nat) (t : ByteArray), WN 8 h → WN 8 (moreS k h t).1
  | 0, _, _, hh => hh
  | k + 1, _, t, hh => moreS_ok k _ _ (shaBlk_ok hh t)
theorem moreS_size : ∀ (k : Nat) (h : List Nat) (t : ByteArray), (moreS k h t).2.size = t.size - 64 * k
  | 0, _, t => by simp [moreS]
  | k + 1, h, t => by rw [moreS, moreS_size k, ByteArray.size_extract]; omega
/-- A block's first sixty-four bytes are all that counts. -/
theorem wordBE_extract (t : ByteArray) (i : Nat) (h : i < 16) (ht : 64 ≤ t.size) : wordBE (t.extract 0 64) (4 * i) = wordBE t (4 * i) := by
  unfold wordBE
  have e := fun j (hj : j < 64) => bt_extract t 0 64 j (by omega) ht
  simp only [Nat.zero_add] at e
  rw [e (4 * i + 3) (by omega), e (4 * i + 2) (by omega), e (4 * i + 1) (by omega), e (4 * i) (by omega)]
theorem fillN_congr (f g : Nat → Nat) (off : Nat) : ∀ (n : Nat) (v : List Nat), (∀ i, i < n → f i = g i) → fillN f off n v = fillN g off n v
  | 0, _, _ => rfl
  | n + 1, v, h => by rw [fillN, fillN, fillN_congr f g off n v (fun i hi => h i (by omega)), h n (by omega)]
theorem shaBlk_extract (h : List Nat) (t : ByteArray) (ht : 64 ≤ t.size) : shaBlk h (t.extract 0 64) = shaBlk h t := by
  unfold shaBlk schedOf
  rw [fillN_congr (fun i => wordBE (t.extract 0 64) (4 * i)) (fun i => wordBE t (4 * i)) 0 16 zeros64 (fun i hi => wordBE_extract t i hi ht)]

theorem hcw_size {h : List Nat} {b : ByteArray} {n : Int} (hh : h.length = 8) : (hcw h b n).size = 10 := by
  unfold hcw; rw [Array.size_append, wds_size, hh]; rfl
theorem hcw_one (h : List Nat) (b : ByteArray) (n : Int) : (hcw h b n).all (·.oneCell') = true := by
  rw [Array.all_eq_true_iff_forall_mem]
  intro v hv
  rw [hcw, Array.mem_append] at hv
  rcases hv with hv | hv
  · exact (Array.all_eq_true_iff_forall_mem.1 (wds_one .i64 h)) v hv
  · simp only [List.mem_toArray, List.mem_cons, List.not_mem_nil, or_false] at hv
    rcases hv with rfl | rfl <;> rfl
theorem hcw_setBuf {h : List Nat} {b : ByteArray} {n : Int} (hh : h.length = 8) (c : ByteArray) : (hcw h b n).setIfInBounds 8 (.string c) = hcw h c n := by
  match h, hh with
  | [a0, a1, a2, a3, a4, a5, a6, a7], _ => rfl
theorem hcw_setN {h : List Nat} {b : ByteArray} {n : Int} (hh : h.length = 8) (m : Int) : (hcw h b n).setIfInBounds 9 (.int .i64 m) = hcw h b m := by
  match h, hh with
  | [a0, a1, a2, a3, a4, a5, a6, a7], _ => rfl
theorem Blk.hbuf {w : World} {g : Nat} {t : TypeId} {h : List Nat} {b : ByteArray} {n : Int} (H : Blk w g t (hcw h b n)) (hh : h.length = 8) (c : ByteArray) : Blk (w.setCell ⟨g, 8, none⟩ (.string c)) g t (hcw h c n) := (H.set 8 _).eq (hcw_setBuf hh c)
theorem Blk.hnum {w : World} {g : Nat} {t : TypeId} {h : List Nat} {b : ByteArray} {n : Int} (H : Blk w g t (hcw h b n)) (hh : h.length = 8) (m : Int) : Blk (w.setCell ⟨g, 9, none⟩ (.int .i64 m)) g t (hcw h b m) := (H.set 9 _).eq (hcw_setN hh m)

theorem setCells8 {w : World} {g : Nat} {t : TypeId} {h : List Nat} {b : ByteArray} {n : Int} (H : Blk w g t (hcw h b n)) (hh : h.length = 8) (v : List Nat) (hv : v.length = 8) :
    Blk (w.setCells g 0 (wds .i64 v).toList) g t (hcw v b n) ∧ Only g w (w.setCells g 0 (wds .i64 v).toList) := by
  match h, hh, v, hv with
  | [a0, a1, a2, a3, a4, a5, a6, a7], _, [c0, c1, c2, c3, c4, c5, c6, c7], _ =>
    have e : w.setCells g 0 (wds .i64 [c0, c1, c2, c3, c4, c5, c6, c7]).toList = (((((((w.setCell ⟨g, 0, none⟩ (.int .i64 c0)).setCell ⟨g, 1, none⟩ (.int .i64 c1)).setCell ⟨g, 2, none⟩ (.int .i64 c2)).setCell ⟨g, 3, none⟩ (.int .i64 c3)).setCell ⟨g, 4, none⟩ (.int .i64 c4)).setCell ⟨g, 5, none⟩ (.int .i64 c5)).setCell ⟨g, 6, none⟩ (.int .i64 c6)).setCell ⟨g, 7, none⟩ (.int .i64 c7) := by
      simp only [wds, List.map_cons, List.map_nil, World.setCells, Nat.zero_add, Nat.reduceAdd]
    rw [e]
    refine ⟨((((((((H.hset rfl 0 (by decide) c0).hset rfl 1 (by decide) c1).hset rfl 2 (by decide) c2).hset rfl 3 (by decide) c3).hset rfl 4 (by decide) c4).hset rfl 5 (by decide) c5).hset rfl 6 (by decide) c6).hset rfl 7 (by decide) c7).eq ?_, ?_⟩
    · rfl
    · exact (((((((((Only.refl g w).set 0 _).set 1 _).set 2 _).set 3 _).set 4 _).set 5 _).set 6 _).set 7 _)
/-- The words of a digest on its way, written whole. -/
theorem wpList_store_h {ops : Array Oper} {rest : List Oper} {op : Oper} {a : Act} {w : World} {Q : Exit → Act → World → Prop} (hgd : op.guard = none) (x y : Operand) (ho : op.op = .store 22 x y)
    (g : Nat) (v : List Nat) (hx : a.eval x = .pointer (some ⟨g, 0, none⟩)) (hy : a.eval y = .agg (wds .i64 v)) {t : TypeId} {h : List Nat} {b : ByteArray} {n : Int} (H : Blk w g t (hcw h b n)) (hh : h.length = 8) (hv : v.length = 8)
    (hK : ∀ w', Blk w' g t (hcw v b n) → Only g w w' → wpList Try.prog ops Q rest (a.put op.dst undef) w') : wpList Try.prog ops Q (op :: rest) a w := by
  refine wpList_store_mid hgd 22 x y ho g 0 (wds .i64 v) hx hy ?_ (by rw [wds_size, hv]; kernel_rfl) (wds_one _ _) ?_
  · intro j hj
    rw [wds_size, hv] at hj
    rw [Nat.zero_add]
    obtain ⟨e1, e2⟩ := H.hat hh j hj
    exact ⟨by rw [e1]; rfl, e2⟩
  · obtain ⟨p, q⟩ := setCells8 H hh v hv
    exact hK _ p q
/-- A digest on its way, read and written whole. -/
theorem wpList_load_hash {ops : Array Oper} {rest : List Oper} {op : Oper} {a : Act} {w : World} {Q : Exit → Act → World → Prop} (hgd : op.guard = none) (x : Operand) (ho : op.op = .load 26 x)
    (g : Nat) (hx : a.eval x = .pointer (some ⟨g, 0, none⟩)) {t : TypeId} {h : List Nat} {b : ByteArray} {n : Int} (H : Blk w g t (hcw h b n)) (hh : h.length = 8)
    (hK : wpList Try.prog ops Q rest (a.put op.dst (.agg (hcw h b n))) w) : wpList Try.prog ops Q (op :: rest) a w :=
  wpList_load_row hgd 26 x ho g hx t (hcw h b n) (0, 0) _ H Try.underlying26 rfl (by rw [hcw_size hh]; kernel_rfl) hK
theorem wpList_store_hash {ops : Array Oper} {rest : List Oper} {op : Oper} {a : Act} {w : World} {Q : Exit → Act → World → Prop} (hgd : op.guard = none) (x y : Operand) (ho : op.op = .store 26 x y)
    (g : Nat) (v : List Nat) (c : ByteArray) (m : Int) (hx : a.eval x = .pointer (some ⟨g, 0, none⟩)) (hy : a.eval y = .agg (hcw v c m)) {t : TypeId} {old : Array Value} (H : Blk w g t old) (ho10 : old.size = 10) (hv : v.length = 8)
    (hK : ∀ w', Blk w' g t (hcw v c m) → Only g w w' → wpList Try.prog ops Q rest (a.put op.dst undef) w') : wpList Try.prog ops Q (op :: rest) a w :=
  wpList_store_row hgd 26 x y ho g (hcw v c m) hx hy t old H (by rw [hcw_size hv]; kernel_rfl) (by rw [hcw_size hv, ho10]) (hcw_one _ _ _) (hK _ (H.row _) (by
    have b := below_setRow (Below.refl 0 w) (Nat.zero_le g) (hcw v c m)
    exact ⟨b.os, b.tape, b.output, b.size, fun j _ hne => setRow_other w g j _ (fun e => hne (by rw [e]))⟩))

theorem hcw_cells {h : List Nat} (b : ByteArray) (n : Int) (hh : h.length = 8) : (hcw h b n)[8]? = some (.string b) ∧ (hcw h b n)[9]? = some (.int .i64 n) ∧ (hcw h b n).size = 10 := by
  match h, hh with
  | [a0, a1, a2, a3, a4, a5, a6, a7], _ => exact ⟨rfl, rfl, rfl⟩

theorem moreS_step (h : List Nat) (b : ByteArray) (hb : 64 ≤ b.size) : moreS (b.size / 64) h b = moreS ((b.extract 64 b.size).size / 64) (shaBlk h b) (b.extract 64 b.size) := by
  rw [show b.size / 64 = ((b.extract 64 b.size).size / 64) + 1 by rw [ByteArray.size_extract]; omega]
  rfl
theorem moreS_done (h : List Nat) (b : ByteArray) (hb : ¬ 64 ≤ b.size) : moreS (b.size / 64) h b = (h, b) := by
  rw [show b.size / 64 = 0 by omega]; rfl
theorem extract_size (b : ByteArray) (M : Nat) (hb : 64 ≤ b.size) (hM : b.size ≤ M) : (b.extract 64 b.size).size / 64 + 1 = b.size / 64 ∧ (b.extract 64 b.size).size ≤ M := by
  rw [ByteArray.size_extract]; omega
end

/-! The reference adds a text to a digest: its contract. Conditions: eight words of 32 bits, sizes. -/
section
open Go.RowKit Go.Shelf Go.Proofs.YtajbljegeiebjaaW.PrintWords Go.Proofs.YtajbljegeiebjaaW.PrintLast Go.Proofs.YtajbljegeiebjaaW.PrintMore Go.Proofs.Ytajbljegeiebjaa.PSha

theorem more_places (b t : ByteArray) (n : Int) (hb : b.size ≤ 1000000) (ht : t.size ≤ 1000000) (h0 : 0 ≤ n) (h1 : n ≤ 2000000000) :
    wrap64 (n + (t.size : Int)) = n + (t.size : Int) ∧ (b ++ t).size ≤ 2000000 ∧ (9223372036854775807 < b.size + t.size) = False := by
  refine ⟨by unfold wrap64; omega, by rw [ByteArray.size_append]; omega, eq_false (by omega)⟩

set_option maxRecDepth 1000000 in
set_option maxHeartbeats 16000000 in
theorem l01More_calls (h : List Nat) (b t : ByteArray) (n : Int) (hh : WN 8 h) (hb : b.size ≤ 1000000) (ht : t.size ≤ 1000000) (h0 : 0 ≤ n) (h1 : n ≤ 2000000000) (w : World) :
    Calls Try.prog 39 #[.agg (hcw h b n), .string t] w fun e w' => e = .returned (.agg (hcw (moreS ((b ++ t).size / 64) h (b ++ t)).1 (moreS ((b ++ t).size / 64) h (b ++ t)).2 (n + t.size))) ∧ Below w.heap.size w w' := by
  obtain ⟨m1, m2, hq⟩ := more_places b t n hb ht h0 h1
  have HH := Lib.hid hh
  have HR := Lib.hid (rfl : moreS ((b ++ t).size / 64) h (b ++ t) = moreS ((b ++ t).size / 64) h (b ++ t))
  obtain ⟨s, hs⟩ : ∃ s, b ++ t = s := ⟨_, rfl⟩
  obtain ⟨R, hR⟩ : ∃ R, moreS ((b ++ t).size / 64) h (b ++ t) = R := ⟨_, rfl⟩
  rw [hR]
  rw [hs] at hR m2
  replace HR := Lib.hid hR
  obtain ⟨n', hn'⟩ : ∃ x, x = n + (t.size : Int) := ⟨_, rfl⟩
  replace m1 := m1.trans hn'.symm
  rw [← hn']
  have M2 := Lib.hid m2
  clear hh hb ht h0 h1 hR hn' m2
  go_enter Try.func39, Try.ntmps39
  go_upto_region 1 with (fail)
  refine wp_world (fun W => Blk W w.heap.size 26 (hcw h b n) ∧ (∃ z, z.size = 10 ∧ Blk W (w.heap.size + 1) 26 z) ∧ Below w.heap.size w W) ⟨(Blk.new _ _ _).alloc _, ⟨_, rfl, Blk.new' _ _ _ _ (by simp)⟩, by (repeat' (first | (with_reducible exact Below.refl _ _) | (with_reducible assumption) | (with_reducible refine Below.alloc ?_ ?_ _) | (with_reducible refine Below_drewN ?_ _) | (with_reducible refine Below.setCell ?_ ?_ _) | (with_reducible refine below_setRow ?_ ?_ _) | (with_reducible refine Below.drew ?_) | go_size))⟩ ?_
  rintro W0 ⟨P1, P2, P3⟩
  have H0 := Aside0.mk P1; have Z0 := Aside0.mk P2; have L0 := Aside0.mk P3
  clear P1 P2 P3
  obtain ⟨⟨c8, f8⟩, c9, f9⟩ := hcw_buf H0.out HH.out.1
  go_wp2
  have H1 := Aside0.mk ((H0.out.hnum HH.out.1 n').hbuf HH.out.1 s)
  have L1 := Aside0.mk ((L0.out.setCell (p := ⟨w.heap.size, 9, none⟩) (Nat.le_refl _) (.int .i64 n')).setCell (p := ⟨w.heap.size, 8, none⟩) (Nat.le_refl _) (.string s))
  have Z1 : Aside0 (∃ z, z.size = 10 ∧ Blk ((W0.setCell ⟨w.heap.size, 9, none⟩ (.int .i64 n')).setCell ⟨w.heap.size, 8, none⟩ (.string s)) (w.heap.size + 1) 26 z) := ⟨by
    obtain ⟨z, hz, hb⟩ := Z0.out
    exact ⟨z, hz, (hb.other ⟨w.heap.size, 9, none⟩ (by simp) _).other ⟨w.heap.size, 8, none⟩ (by simp) _⟩⟩
  clear H0 L0 Z0 c8 f8 c9 f9 hs hq m1
  go_loopg [] (s.size / 64) (fun gg wr => ∃ (h' : List Nat) (b' : ByteArray), b'.size / 64 ≤ gg ∧ Aside0 (WN 8 h') ∧ Aside0 (b'.size ≤ 2000000) ∧ Aside0 (moreS (b'.size / 64) h' b' = R) ∧ Aside0 (Blk wr w.heap.size 26 (hcw h' b' n')) ∧ Aside0 (∃ z, z.size = 10 ∧ Blk wr (w.heap.size + 1) 26 z) ∧ Aside0 (Below w.heap.size w wr))
  case atStart => exact ⟨h, s, Nat.le_refl _, ⟨HH.out⟩, ⟨M2.out⟩, ⟨HR.out⟩, H1, Z1, L1⟩
  case round =>
    obtain ⟨h', b', hg, HW, HM, HR', HB, HZ, HL⟩ := hrel
    obtain ⟨⟨c8, f8⟩, _⟩ := hcw_buf HB.out HW.out.1
    by_cases hlt : 64 ≤ b'.size
    · have c1 : decide ((64 : Int) ≤ (b'.size : Int)) = true := decide_eq_true (by omega)
      have HC := fun W => l01Block_calls h' HW.out b' hlt HM.out W
      obtain ⟨z1, z2⟩ := extract_size b' 2000000 hlt HM.out
      replace z1 := Lib.hid z1
      replace z2 := Aside0.mk z2
      have HS := Aside0.mk ((moreS_step h' b' hlt).symm.trans HR'.out)
      have HW1 := Aside0.mk (shaBlk_ok HW.out b')
      go_wp2_with (first
        | (refine wpList_load_h rfl _ rfl w.heap.size rfl HB.out HW.out.1 ?_)
        | (go_at_call 67; refine (HC _).mono ?_; rintro e w1 ⟨rfl, hb⟩; have HB1 := Aside0.mk (HB.out.below hb); have HL1 := Aside0.mk (HL.out.trans (hb.mono HL.out.size)); have HZ1 : Aside0 (∃ z, z.size = 10 ∧ Blk w1 (w.heap.size + 1) 26 z) := ⟨by obtain ⟨z, hz, hq⟩ := HZ.out; exact ⟨z, hz, hq.below hb⟩⟩; clear hb c8 f8 HB HL HZ)
        | (refine wpList_store_h rfl _ _ rfl w.heap.size (shaBlk h' b') rfl rfl HB1.out HW.out.1 HW1.out.1 ?_; intro w2 hB2 hO2; obtain ⟨⟨c8, f8⟩, _⟩ := hcw_buf hB2 HW1.out.1; have HB2 := Aside0.mk hB2; have HL2 := Aside0.mk (hO2.below HL1.out HL1.out.size (Nat.le_refl _)); have HZ2 : Aside0 (∃ z, z.size = 10 ∧ Blk w2 (w.heap.size + 1) 26 z) := ⟨by obtain ⟨z, hz, hq⟩ := HZ1.out; exact ⟨z, hz, hO2.blk hq (by simp)⟩⟩; clear hB2 hO2 HB1 HL1 HZ1))
      have HB3 := Aside0.mk (HB2.out.hbuf HW1.out.1 (b'.extract 64 b'.size))
      have HL3 := Aside0.mk (HL2.out.setCell (p := ⟨w.heap.size, 8, none⟩) (Nat.le_refl _) (.string (b'.extract 64 b'.size)))
      have HZ3 : Aside0 (∃ z, z.size = 10 ∧ Blk (w2.setCell ⟨w.heap.size, 8, none⟩ (.string (b'.extract 64 b'.size))) (w.heap.size + 1) 26 z) := ⟨by obtain ⟨z, hz, hq⟩ := HZ2.out; exact ⟨z, hz, hq.other ⟨w.heap.size, 8, none⟩ (by simp) _⟩⟩
      clear HB2 HL2 HZ2 c8 f8 HC
      go_roundg ((b'.extract 64 b'.size).size / 64)
      case measure => have := z1.out; omega
      case rel => exact ⟨shaBlk h' b', b'.extract 64 b'.size, Nat.le_refl _, HW1, z2, HS, HB3, HZ3, HL3⟩
    · have c1 : decide ((64 : Int) ≤ (b'.size : Int)) = false := decide_eq_false (by omega)
      have HE := Lib.hid (show R = (h', b') by rw [← HR'.out]; exact moreS_done h' b' hlt)
      obtain ⟨z, hz, hq⟩ := HZ.out
      have HZ1 := Aside0.mk hq
      replace hz := Lib.hid hz
      clear HZ hq
      go_wp2_with (first
        | (refine wpList_load_hash rfl _ rfl w.heap.size rfl HB.out HW.out.1 ?_)
        | (refine wpList_store_hash rfl _ _ rfl (w.heap.size + 1) h' b' n' rfl rfl HZ1.out hz.out HW.out.1 ?_; intro w2 hB2 hO2; have HB2 := Aside0.mk hB2; have HL2 := Aside0.mk (hO2.below HL.out HL.out.size (by simp)); clear hB2 hO2))
      refine ret_row (p := 4) (ty := 26) rfl (w.heap.size + 1) 26 (hcw h' b' n') _ rfl HB2.out Try.underlying26 rfl (by rw [hcw_size HW.out.1]; kernel_rfl) rfl ⟨by rw [HE.out], HL2.out⟩
end

/-! The program adds a text to a digest: its contract. Conditions: eight words of 32 bits, sizes. -/
section
open Go.RowKit Go.Shelf Go.Proofs.YtajbljegeiebjaaW.PrintWords Go.Proofs.YtajbljegeiebjaaW.PrintLast Go.Proofs.YtajbljegeiebjaaW.PrintMore Go.Proofs.Ytajbljegeiebjaa.PSha

theorem imore_places (b t : ByteArray) (n : Int) (hb : b.size ≤ 1000000) (ht : t.size ≤ 1000000) (h0 : 0 ≤ n) (h1 : n ≤ 2000000000) :
    wrap64 (n + (t.size : Int)) = n + (t.size : Int) ∧ (b ++ t).size ≤ 2000000 ∧ (9223372036854775807 < b.size + t.size) = False := by
  refine ⟨by unfold wrap64; omega, by rw [ByteArray.size_append]; omega, eq_false (by omega)⟩

set_option maxRecDepth 1000000 in
set_option maxHeartbeats 16000000 in
theorem more_calls (h : List Nat) (b t : ByteArray) (n : Int) (hh : WN 8 h) (hb : b.size ≤ 1000000) (ht : t.size ≤ 1000000) (h0 : 0 ≤ n) (h1 : n ≤ 2000000000) (w : World) :
    Calls Try.prog 43 #[.agg (hcw h b n), .string t] w fun e w' => e = .returned (.agg (hcw (moreS ((b ++ t).size / 64) h (b ++ t)).1 (moreS ((b ++ t).size / 64) h (b ++ t)).2 (n + t.size))) ∧ Below w.heap.size w w' := by
  obtain ⟨m1, m2, hq⟩ := imore_places b t n hb ht h0 h1
  have HH := Lib.hid hh
  have KT := fun W => constants_calls W
  obtain ⟨s, hs⟩ : ∃ s, b ++ t = s := ⟨_, rfl⟩
  obtain ⟨R, hR⟩ : ∃ R, moreS ((b ++ t).size / 64) h (b ++ t) = R := ⟨_, rfl⟩
  rw [hR]
  rw [hs] at hR m2
  have HR := Lib.hid hR
  obtain ⟨n', hn'⟩ : ∃ x, x = n + (t.size : Int) := ⟨_, rfl⟩
  replace m1 := m1.trans hn'.symm
  rw [← hn']
  have M2 := Lib.hid m2
  clear hh hb ht h0 h1 hR hn' m2
  go_enter Try.func43, Try.ntmps43
  go_upto_region 1 with (fail)
  refine wp_world (fun W => Blk W w.heap.size 26 (hcw h b n) ∧ (∃ z, z.size = 10 ∧ Blk W (w.heap.size + 1) 26 z) ∧ Below w.heap.size w W) ⟨(Blk.new _ _ _).alloc _, ⟨_, rfl, Blk.new' _ _ _ _ (by simp)⟩, by (repeat' (first | (with_reducible exact Below.refl _ _) | (with_reducible assumption) | (with_reducible refine Below.alloc ?_ ?_ _) | (with_reducible refine Below_drewN ?_ _) | (with_reducible refine Below.setCell ?_ ?_ _) | (with_reducible refine below_setRow ?_ ?_ _) | (with_reducible refine Below.drew ?_) | go_size))⟩ ?_
  rintro W0 ⟨P1, P2, P3⟩
  have H0 := Aside0.mk P1; have Z0 := Aside0.mk P2; have L0 := Aside0.mk P3
  clear P1 P2 P3
  go_upto_region 2 with (first
    | (go_at_call 72; refine (KT _).mono ?_; rintro e w1 ⟨rfl, hb⟩; have H1 := Aside0.mk (H0.out.below hb); have L1 := Aside0.mk (L0.out.trans (hb.mono L0.out.size)); have Z1 : Aside0 (∃ z, z.size = 10 ∧ Blk w1 (w.heap.size + 1) 26 z) := ⟨by obtain ⟨z, hz, hq⟩ := Z0.out; exact ⟨z, hz, hq.below hb⟩⟩; clear hb H0 L0 Z0)
    | (refine wpList_store_row rfl 76 _ _ rfl w1.heap.size (wds .u32 ktab) rfl rfl 76 _ (Blk.new _ _ _) (by kernel_rfl) (by kernel_rfl) (wds_one _ _) ?_))
  refine wp_world (fun W => Blk W w.heap.size 26 (hcw h b n) ∧ (∃ z, z.size = 10 ∧ Blk W (w.heap.size + 1) 26 z) ∧ Blk W w1.heap.size 76 (wds .u32 ktab) ∧ Below w.heap.size w W) ⟨?_, ?_, ?_, ?_⟩ ?_
  · exact (H1.out.alloc _).rowOther _ (Nat.ne_of_lt H1.out.lt) _
  · obtain ⟨z, hz, hq⟩ := Z1.out
    exact ⟨z, hz, (hq.alloc _).rowOther _ (Nat.ne_of_lt hq.lt) _⟩
  · exact (Blk.new _ _ _).row _
  · exact below_setRow (below_alloc L1.out _) L1.out.size _
  rintro W2 ⟨P1, P2, P3, P4⟩
  have H2 := Aside0.mk P1; have Z2 := Aside0.mk P2; have K2 := Aside0.mk P3; have L2 := Aside0.mk P4
  have hlt0 := Lib.hid (show w.heap.size ≠ w1.heap.size ∧ w1.heap.size ≠ w.heap.size from ⟨Nat.ne_of_lt H1.out.lt, Nat.ne_of_gt H1.out.lt⟩)
  clear P1 P2 P3 P4 H1 L1 Z1 KT
  obtain ⟨⟨c8, f8⟩, c9, f9⟩ := hcw_buf H2.out HH.out.1
  go_wp2
  have H3 := Aside0.mk (H2.out.hnum HH.out.1 n')
  have L3 := Aside0.mk (L2.out.setCell (p := ⟨w.heap.size, 9, none⟩) (Nat.le_refl _) (.int .i64 n'))
  have K3 := Aside0.mk (K2.out.other ⟨w.heap.size, 9, none⟩ hlt0.out.2 (.int .i64 n'))
  have Z3 : Aside0 (∃ z, z.size = 10 ∧ Blk (W2.setCell ⟨w.heap.size, 9, none⟩ (.int .i64 n')) (w.heap.size + 1) 26 z) := ⟨by
    obtain ⟨z, hz, hb⟩ := Z2.out
    exact ⟨z, hz, hb.other ⟨w.heap.size, 9, none⟩ (by simp) _⟩⟩
  clear H2 L2 K2 Z2 c8 f8 c9 f9 hs hq m1
  go_loopg [1] (s.size / 64) (fun gg s1 wr => ∃ (h' : List Nat) (b' : ByteArray), s1 = .string b' ∧ b'.size / 64 ≤ gg ∧ Aside0 (WN 8 h') ∧ Aside0 (b'.size ≤ 2000000) ∧ Aside0 (moreS (b'.size / 64) h' b' = R) ∧ Aside0 (Blk wr w.heap.size 26 (hcw h' b n')) ∧ Aside0 (∃ z, z.size = 10 ∧ Blk wr (w.heap.size + 1) 26 z) ∧ Aside0 (Blk wr w1.heap.size 76 (wds .u32 ktab)) ∧ Aside0 (Below w.heap.size w wr))
  case atStart => exact ⟨h, s, rfl, Nat.le_refl _, ⟨HH.out⟩, ⟨M2.out⟩, ⟨HR.out⟩, H3, Z3, K3, L3⟩
  case round =>
    obtain ⟨h', b', rfl, hg, HW, HM, HR', HB, HZ, HK, HL⟩ := hrel
    by_cases hlt : 64 ≤ b'.size
    · have c1 : decide ((64 : Int) ≤ (b'.size : Int)) = true := decide_eq_true (by omega)
      obtain ⟨z1, z2⟩ := extract_size b' 2000000 hlt HM.out
      replace z1 := Lib.hid z1
      replace z2 := Aside0.mk z2
      have HS := Aside0.mk ((moreS_step h' b' hlt).symm.trans HR'.out)
      have HW1 := Aside0.mk (shaBlk_ok HW.out b')
      have HC := block_calls w.heap.size w1.heap.size h' b n' HW.out (b'.extract 0 64) (by rw [ByteArray.size_extract]; omega) wr HB.out HK.out hlt0.out.2
      rw [shaBlk_extract h' b' hlt] at HC
      go_wp2_with (go_at_call 73; refine HC.mono ?_; rintro e w2 ⟨rfl, hB2, hO2⟩; have HB2 := Aside0.mk hB2; have HL2 := Aside0.mk (hO2.below HL.out HL.out.size (Nat.le_refl _)); have HK2 := Aside0.mk (hO2.blk HK.out hlt0.out.2); have HZ2 : Aside0 (∃ z, z.size = 10 ∧ Blk w2 (w.heap.size + 1) 26 z) := ⟨by obtain ⟨z, hz, hq⟩ := HZ.out; exact ⟨z, hz, hO2.blk hq (by simp)⟩⟩; clear hB2 hO2 HB HL HZ HK HC)
      go_roundg ((b'.extract 64 b'.size).size / 64)
      case measure => have := z1.out; omega
      case rel => exact ⟨shaBlk h' b', b'.extract 64 b'.size, rfl, Nat.le_refl _, HW1, z2, HS, HB2, HZ2, HK2, HL2⟩
    · have c1 : decide ((64 : Int) ≤ (b'.size : Int)) = false := decide_eq_false (by omega)
      have HE := Lib.hid (show R = (h', b') by rw [← HR'.out]; exact moreS_done h' b' hlt)
      obtain ⟨⟨c8, f8⟩, _⟩ := hcw_buf HB.out HW.out.1
      have HB1 := Aside0.mk (HB.out.hbuf HW.out.1 b')
      have HL1 := Aside0.mk (HL.out.setCell (p := ⟨w.heap.size, 8, none⟩) (Nat.le_refl _) (.string b'))
      obtain ⟨z, hz, hq⟩ := HZ.out
      have HZ1 := Aside0.mk (hq.other ⟨w.heap.size, 8, none⟩ (by simp) (.string b'))
      replace hz := Lib.hid hz
      clear HZ hq HB HL HK HR'
      go_wp2_with (first
        | (refine wpList_load_hash rfl _ rfl w.heap.size rfl HB1.out HW.out.1 ?_)
        | (refine wpList_store_hash rfl _ _ rfl (w.heap.size + 1) h' b' n' rfl rfl HZ1.out hz.out HW.out.1 ?_; intro w2 hB2 hO2; have HB2 := Aside0.mk hB2; have HL2 := Aside0.mk (hO2.below HL1.out HL1.out.size (by simp)); clear hB2 hO2))
      refine ret_row (p := 4) (ty := 26) rfl (w.heap.size + 1) 26 (hcw h' b' n') _ rfl HB2.out Try.underlying26 rfl (by rw [hcw_size HW.out.1]; kernel_rfl) rfl ⟨by rw [HE.out], HL2.out⟩
end

end Go.Proofs.Ytajbljegeiebjaa.Leaf
