/-
  The first loop of impl.stream: the words of a text of 64 bytes. Conditions: none.
-/
import Derived.Test.YtihpnededldedaaChaB
import Derived.Test.YtihpnededldedaaLoop
import Derived.Test.YtihpnededldedaaBits
namespace Go.Proofs.Ytihpnededldedaa.Leaf
open Go.RowKit Go.Shelf Go.Proofs.YtihpnededldedaaW.PrintWords Go.Proofs.YtihpnededldedaaW.PrintLast Go.Proofs.YtihpnededldedaaW.PrintMore Go.Proofs.Ytihpnededldedaa.PCha

theorem word_some (a : ByteArray) (i : Nat) (h : i + 4 ≤ a.size) (ha : a.size ≤ 65536) : ∃ n, spec_l02Word.f a (i : Int) = some n ∧ impl_littleWord.f (a.extract i a.size) = some n ∧ wrap64 n = n := by
  have w1 : wrap64 ((i : Int) + 1) = ((i + 1 : Nat) : Int) := by rw [wrap_ok _ (by omega) (by omega)]; omega
  have w2 : wrap64 ((i : Int) + 2) = ((i + 2 : Nat) : Int) := by rw [wrap_ok _ (by omega) (by omega)]; omega
  have w3 : wrap64 ((i : Int) + 3) = ((i + 3 : Nat) : Int) := by rw [wrap_ok _ (by omega) (by omega)]; omega
  have hs : (a.extract i a.size).size = a.size - i := by rw [ByteArray.size_extract]; omega
  have p0 : (0 : Int) ≤ (i : Int) := by omega
  have p1 : (0 : Int) ≤ ((i + 1 : Nat) : Int) := by omega
  have p2 : (0 : Int) ≤ ((i + 2 : Nat) : Int) := by omega
  have p3 : (0 : Int) ≤ ((i + 3 : Nat) : Int) := by omega
  have q0 : (i : Int) < (a.size : Int) := by omega
  have q1 : ((i + 1 : Nat) : Int) < (a.size : Int) := by omega
  have q2 : ((i + 2 : Nat) : Int) < (a.size : Int) := by omega
  have q3 : ((i + 3 : Nat) : Int) < (a.size : Int) := by omega
  have r0 : (0 : Int) < ((a.extract i a.size).size : Int) := by rw [hs]; omega
  have r1 : (1 : Int) < ((a.extract i a.size).size : Int) := by rw [hs]; omega
  have r2 : (2 : Int) < ((a.extract i a.size).size : Int) := by rw [hs]; omega
  have r3 : (3 : Int) < ((a.extract i a.size).size : Int) := by rw [hs]; omega
  have f0 := bt_extract a i a.size 0 (by omega) (by omega)
  have f1 := bt_extract a i a.size 1 (by omega) (by omega)
  have f2 := bt_extract a i a.size 2 (by omega) (by omega)
  have f3 := bt_extract a i a.size 3 (by omega) (by omega)
  obtain ⟨x0, e0, y0⟩ := bt_nat a ((i + 0 : Nat) : Int)
  obtain ⟨x1, e1, y1⟩ := bt_nat a ((i + 1 : Nat) : Int)
  obtain ⟨x2, e2, y2⟩ := bt_nat a ((i + 2 : Nat) : Int)
  obtain ⟨x3, e3, y3⟩ := bt_nat a ((i + 3 : Nat) : Int)
  replace f0 : bt (a.extract i a.size) 0 = x0 := f0.trans e0
  replace f1 : bt (a.extract i a.size) 1 = x1 := f1.trans e1
  replace f2 : bt (a.extract i a.size) 2 = x2 := f2.trans e2
  replace f3 : bt (a.extract i a.size) 3 = x3 := f3.trans e3
  refine ⟨((le32 x0 x1 x2 x3 : Nat) : Int), ?_, ?_, ?_⟩
  · unfold spec_l02Word.f
    rw [w1, w2, w3, if_pos p0, if_pos q0, if_pos p1, if_pos q1, if_pos p2, if_pos q2, if_pos p3, if_pos q3]
    have e0' : bt a (i : Int) = x0 := e0
    rw [e0', e1, e2, e3, le32_i64 _ _ _ _ y0 y1 y2 y3]
  · unfold impl_littleWord.f
    rw [if_pos r0, if_pos r1, if_pos r2, if_pos r3, f0, f1, f2, f3, le32_u32 _ _ _ _ y0 y1 y2 y3]
  · have g3 := (le32_lt x0 x1 x2 x3 y0 y1 y2 y3).2.2
    clear f0 f1 f2 f3 e0 e1 e2 e3
    exact wrap_ok _ (by omega) (by omega)

/-- From place i on the reference's loop ends; with whole words the program's loop ends in the same. -/
theorem littleWord_at (s : ByteArray) (i : Nat) (h : i + 4 ≤ s.size) (hs : s.size ≤ 65536) : impl_littleWord.f (s.extract i s.size) = some ((wordAt s i : Nat) : Int) := by
  obtain ⟨n, h1, h2, _⟩ := word_some s i h hs
  rw [l02Word_some s i h (by omega)] at h1
  cases h1
  exact h2
set_option maxRecDepth 1000000 in
set_option maxHeartbeats 16000000 in
theorem str0_wp (s : ByteArray) (g gx : Nat) (v : List Nat) (u0 u1 u2 u3 u4 u5 u6 u10 u11 u12 u13 u14 u15 u16 u17 u18 u19 u20 u21 u22 u23 u24 u26 u27 u28 u29 u30 u31 u32 u33 u34 u35 u36 u37 u38 u39 u40 u41 u42 u43 u44 u45 u46 u47 u48 u49 u50 u51 u52 u53 u54 u55 u56 u57 u58 u59 u60 u61 u62 u63 u64 u65 u66 u67 u68 u69 u70 u71 u72 u73 u74 u75 u76 u77 u78 u79 u80 u81 u82 u83 u84 u85 u86 u87 u88 u89 u90 u91 u92 u93 u94 u95 u96 u97 u98 u99 u100 u101 u102 u103 u104 u105 u106 u107 u108 u109 u110 : Value) (Q0 : Exit → Act → World → Prop) (w : World) (hs : s.size = 64) (hv : v.length = 16) (hlg : gx < g) (hX : Blk w gx 78 (wds .u32 v)) (hY : Blk w g 78 (wds .u32 v))
    (hexit : ∀ (x10 x26 x27 x28 x29 x30 x31 x32 x33 x34 x35 x36 x37 x38 x39 x40 : Value) (w' : World), Blk w' gx 78 (wds .u32 (fillN (fun i => wordAt s (4 * i)) 0 16 v)) ∧ Blk w' g 78 (wds .u32 (fillN (fun i => wordAt s (4 * i)) 0 16 v)) ∧ Below gx w w' → Q0 (.exit 0) ⟨List.toArray (u0 :: u1 :: u2 :: u3 :: u4 :: u5 :: u6 :: (.string s) :: (.pointer (some ⟨gx, 0, none⟩)) :: (.pointer (some ⟨g, 0, none⟩)) :: x10 :: u11 :: u12 :: u13 :: u14 :: u15 :: u16 :: u17 :: u18 :: u19 :: u20 :: u21 :: u22 :: u23 :: u24 :: (.int .i64 16) :: x26 :: x27 :: x28 :: x29 :: x30 :: x31 :: x32 :: x33 :: x34 :: x35 :: x36 :: x37 :: x38 :: x39 :: x40 :: u41 :: u42 :: u43 :: u44 :: u45 :: u46 :: u47 :: u48 :: u49 :: u50 :: u51 :: u52 :: u53 :: u54 :: u55 :: u56 :: u57 :: u58 :: u59 :: u60 :: u61 :: u62 :: u63 :: u64 :: u65 :: u66 :: u67 :: u68 :: u69 :: u70 :: u71 :: u72 :: u73 :: u74 :: u75 :: u76 :: u77 :: u78 :: u79 :: u80 :: u81 :: u82 :: u83 :: u84 :: u85 :: u86 :: u87 :: u88 :: u89 :: u90 :: u91 :: u92 :: u93 :: u94 :: u95 :: u96 :: u97 :: u98 :: u99 :: u100 :: u101 :: u102 :: u103 :: u104 :: u105 :: u106 :: u107 :: u108 :: u109 :: u110 :: []), []⟩ w') :
    Code.wp Try.prog (loopNo Try.f47 0) Q0 ⟨List.toArray (u0 :: u1 :: u2 :: u3 :: u4 :: u5 :: u6 :: (.string s) :: (.pointer (some ⟨gx, 0, none⟩)) :: (.pointer (some ⟨g, 0, none⟩)) :: u10 :: u11 :: u12 :: u13 :: u14 :: u15 :: u16 :: u17 :: u18 :: u19 :: u20 :: u21 :: u22 :: u23 :: u24 :: (.int .i64 0) :: u26 :: u27 :: u28 :: u29 :: u30 :: u31 :: u32 :: u33 :: u34 :: u35 :: u36 :: u37 :: u38 :: u39 :: u40 :: u41 :: u42 :: u43 :: u44 :: u45 :: u46 :: u47 :: u48 :: u49 :: u50 :: u51 :: u52 :: u53 :: u54 :: u55 :: u56 :: u57 :: u58 :: u59 :: u60 :: u61 :: u62 :: u63 :: u64 :: u65 :: u66 :: u67 :: u68 :: u69 :: u70 :: u71 :: u72 :: u73 :: u74 :: u75 :: u76 :: u77 :: u78 :: u79 :: u80 :: u81 :: u82 :: u83 :: u84 :: u85 :: u86 :: u87 :: u88 :: u89 :: u90 :: u91 :: u92 :: u93 :: u94 :: u95 :: u96 :: u97 :: u98 :: u99 :: u100 :: u101 :: u102 :: u103 :: u104 :: u105 :: u106 :: u107 :: u108 :: u109 :: u110 :: []), []⟩ w := by
  conv => arg 2; whnf
  have HX := Lib.hid hexit
  clear hexit
  go_loopg [25] 16 (fun gg s_ wr => ∃ i : Nat, s_ = .int .i64 i ∧ i ≤ 16 ∧ 16 ≤ gg + i ∧ Aside0 (Blk wr gx 78 (wds .u32 (fillN (fun i => wordAt s (4 * i)) 0 i v))) ∧ Aside0 (Blk wr g 78 (wds .u32 (fillN (fun i => wordAt s (4 * i)) 0 i v))) ∧ Aside0 (Below gx w wr))
  case atStart => exact ⟨0, rfl, by omega, by omega, ⟨hX⟩, ⟨hY⟩, ⟨Below.refl _ _⟩⟩
  case round =>
    obtain ⟨i, rfl, hi, hg, HA, HB, HL⟩ := hrel
    by_cases hlt : i < 16
    · have c1 : decide ((i : Int) < 16) = true := decide_eq_true (by omega)
      have hw := fun W => impl_littleWord.calls (s.extract (4 * i) s.size) _ W (littleWord_at s (4 * i) (by omega) (by omega))
      have m4 := mul4 i (by omega)
      have n0 : (4 * (i : Int)).toNat = 4 * i := by omega
      have n2 : (0 ≤ (i : Int)) = True := eq_true (by omega)
      have n3 : ((i : Int) < 16) = True := eq_true (by omega)
      have n4 : (0 ≤ 4 * (i : Int)) = True := eq_true (by omega)
      have n5 : (4 * (i : Int) ≤ (s.size : Int)) = True := eq_true (by omega)
      have x1 := HA.out.wat i (by rw [fillN_length, hv]; omega)
      have y1 := HB.out.wat i (by rw [fillN_length, hv]; omega)
      have hn : ((fillN (fun i => wordAt s (4 * i)) 0 i v).set i (wordAt s (4 * i))).getD i 0 = wordAt s (4 * i) := by simp [List.getD_eq_getElem?_getD, fillN_length, hv, hlt]
      have A2 := fun m => ((HA.out.drewN m).wset i (wordAt s (4 * i))).wat i (by rw [List.length_set, fillN_length, hv]; omega)
      simp only [hn] at A2
      have B2 := fun m => ((HB.out.drewN m).other ⟨gx, i, none⟩ (by simp only; omega) (.int .u32 (wordAt s (4 * i) : Int))).wat i (by rw [fillN_length, hv]; omega)
      have A3 := fun m => Aside0.mk (((HA.out.drewN m).wset i (wordAt s (4 * i))).other ⟨g, i, none⟩ (by simp only; omega) (.int .u32 (wordAt s (4 * i) : Int)))
      have B3 := fun m => Aside0.mk (((HB.out.drewN m).other ⟨gx, i, none⟩ (by simp only; omega) (.int .u32 (wordAt s (4 * i) : Int))).wset i (wordAt s (4 * i)))
      have L3 := fun m => Aside0.mk (((Below_drewN HL.out m).setCell (p := ⟨gx, i, none⟩) (Nat.le_refl _) (.int .u32 (wordAt s (4 * i) : Int))).setCell (p := ⟨g, i, none⟩) (Nat.le_of_lt hlg) (.int .u32 (wordAt s (4 * i) : Int)))
      have a1 := fun m => (A2 m).1
      have b1 := fun m => (B2 m).1
      have b2 := fun m => (B2 m).2
      simp only [hs] at hw n5
      clear HA HB HL hn A2 B2
      go_wp2_with (go_at_call 79; with_reducible refine (hw _).mono ?_; rintro e w1 ⟨rfl, ⟨m1, rfl⟩⟩)
      go_roundg (16 - (i + 1))
      case measure => omega
      case rel => exact ⟨i + 1, by go_num, by omega, by omega, ⟨by simpa [fillN] using (A3 _).out⟩, ⟨by simpa [fillN] using (B3 _).out⟩, L3 _⟩
    · have c1 : decide ((i : Int) < 16) = false := decide_eq_false (by omega)
      obtain rfl : i = 16 := by omega
      go_wp2
      have P1 := HA.out
      have P2 := HB.out
      have P3 := HL.out
      refine HX.out _ _ _ _ _ _ _ _ _ _ _ _ _ _ _ _ _ ?_
      exact ⟨P1, P2, P3⟩


end Go.Proofs.Ytihpnededldedaa.Leaf
