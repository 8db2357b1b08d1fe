/-
  The last loop of impl.stream: the bytes of sixteen sums. Conditions: sixteen words.
-/
import Derived.Test.YtihpnededldedaaChaB
import Derived.Test.YtihpnededldedaaLoop
import Derived.Test.YtihpnededldedaaLeafL
namespace Go.Proofs.Ytihpnededldedaa.Leaf
open Go.RowKit Go.Shelf Go.Proofs.YtihpnededldedaaW.PrintWords Go.Proofs.YtihpnededldedaaW.PrintLast Go.Proofs.YtihpnededldedaaW.PrintMore Go.Proofs.Ytihpnededldedaa.PCha

theorem sumBytes_len (v f : List Nat) : ∀ i, (sumBytes v f i).length = 4 * i
  | 0 => rfl
  | i + 1 => by rw [sumBytes, List.length_append, sumBytes_len v f i, littleNums_length]; omega
set_option maxRecDepth 1000000 in
set_option maxHeartbeats 16000000 in
theorem strO_wp (g gx : Nat) (v f : List Nat) (u0 u1 u2 u3 u4 u5 u6 u7 u10 u11 u12 u13 u14 u15 u17 u18 u19 u20 u21 u22 u23 u24 u25 u26 u27 u28 u29 u30 u31 u32 u33 u34 u35 u36 u37 u38 u39 u40 u41 u42 u43 u44 u45 u46 u47 u48 u49 u50 u51 u52 u53 u54 u55 u56 u57 u58 u59 u60 u61 u62 u63 u64 u65 u66 u67 u68 u69 u70 u71 u72 u73 u74 u75 u76 u77 u78 u79 u80 u81 u82 u83 u84 u85 u86 u87 u88 u89 u90 u91 u92 u93 u94 u96 u97 u98 u99 u100 u101 u102 u103 u104 u105 u106 u107 u108 u109 u110 : Value) (Q0 : Exit → Act → World → Prop) (w : World) (hv : W16 v) (hf : W16 f) (hG : Blk w g 78 (wds .u32 v)) (hF : Blk w gx 78 (wds .u32 f))
    (hexit : ∀ (x17 x96 x97 x98 x99 x100 x101 x102 x103 x104 x105 x106 x107 x108 x109 : Value) (w' : World), Below w.heap.size w w' → Q0 (.exit 8) ⟨List.toArray (u0 :: u1 :: u2 :: u3 :: u4 :: u5 :: u6 :: u7 :: (.pointer (some ⟨gx, 0, none⟩)) :: (.pointer (some ⟨g, 0, none⟩)) :: u10 :: u11 :: u12 :: u13 :: u14 :: u15 :: (.string (strOfNums (sumBytes v f 16))) :: x17 :: u18 :: u19 :: u20 :: u21 :: u22 :: u23 :: u24 :: u25 :: u26 :: u27 :: u28 :: u29 :: u30 :: u31 :: u32 :: u33 :: u34 :: u35 :: u36 :: u37 :: u38 :: u39 :: u40 :: u41 :: u42 :: u43 :: u44 :: u45 :: u46 :: u47 :: u48 :: u49 :: u50 :: u51 :: u52 :: u53 :: u54 :: u55 :: u56 :: u57 :: u58 :: u59 :: u60 :: u61 :: u62 :: u63 :: u64 :: u65 :: u66 :: u67 :: u68 :: u69 :: u70 :: u71 :: u72 :: u73 :: u74 :: u75 :: u76 :: u77 :: u78 :: u79 :: u80 :: u81 :: u82 :: u83 :: u84 :: u85 :: u86 :: u87 :: u88 :: u89 :: u90 :: u91 :: u92 :: u93 :: u94 :: (.int .i64 16) :: x96 :: x97 :: x98 :: x99 :: x100 :: x101 :: x102 :: x103 :: x104 :: x105 :: x106 :: x107 :: x108 :: x109 :: u110 :: []), []⟩ w') :
    Code.wp Try.prog (loopNo Try.f47 4) Q0 ⟨List.toArray (u0 :: u1 :: u2 :: u3 :: u4 :: u5 :: u6 :: u7 :: (.pointer (some ⟨gx, 0, none⟩)) :: (.pointer (some ⟨g, 0, none⟩)) :: u10 :: u11 :: u12 :: u13 :: u14 :: u15 :: (.string ⟨#[]⟩) :: u17 :: u18 :: u19 :: u20 :: u21 :: u22 :: u23 :: u24 :: u25 :: u26 :: u27 :: u28 :: u29 :: u30 :: u31 :: u32 :: u33 :: u34 :: u35 :: u36 :: u37 :: u38 :: u39 :: u40 :: u41 :: u42 :: u43 :: u44 :: u45 :: u46 :: u47 :: u48 :: u49 :: u50 :: u51 :: u52 :: u53 :: u54 :: u55 :: u56 :: u57 :: u58 :: u59 :: u60 :: u61 :: u62 :: u63 :: u64 :: u65 :: u66 :: u67 :: u68 :: u69 :: u70 :: u71 :: u72 :: u73 :: u74 :: u75 :: u76 :: u77 :: u78 :: u79 :: u80 :: u81 :: u82 :: u83 :: u84 :: u85 :: u86 :: u87 :: u88 :: u89 :: u90 :: u91 :: u92 :: u93 :: u94 :: (.int .i64 0) :: u96 :: u97 :: u98 :: u99 :: u100 :: u101 :: u102 :: u103 :: u104 :: u105 :: u106 :: u107 :: u108 :: u109 :: u110 :: []), []⟩ w := by
  conv => arg 2; whnf
  have HX := Lib.hid hexit
  clear hexit
  have hS : ∀ (i : Nat), i < 16 → ∀ W, Below w.heap.size w W → W.cell? ⟨g, i, none⟩ = some (.int .u32 ((v.getD i 0 : Nat) : Int)) ∧ W.cell? ⟨gx, i, none⟩ = some (.int .u32 ((f.getD i 0 : Nat) : Int)) := fun i hi W hb =>
    ⟨((hG.below hb).wat i (by rw [hv.1]; exact hi)).1, ((hF.below hb).wat i (by rw [hf.1]; exact hi)).1⟩
  go_loopg [16, 95] 16 (fun gg s16 s_ wr => ∃ i : Nat, s_ = .int .i64 i ∧ s16 = .string (strOfNums (sumBytes v f i)) ∧ i ≤ 16 ∧ 16 ≤ gg + i ∧ Aside0 (Below w.heap.size w wr))
  case atStart => exact ⟨0, rfl, rfl, by omega, by omega, ⟨Below.refl _ _⟩⟩
  case round =>
    obtain ⟨i, rfl, rfl, hi, hg, HL⟩ := hrel
    by_cases hlt : i < 16
    · have c1 : decide ((i : Int) < 16) = true := decide_eq_true (by omega)
      have c2 : (0 ≤ (i : Int)) = True := eq_true (by omega)
      have c3 : ((i : Int) < 16) = True := eq_true (by omega)
      have hT := hS i hlt
      have NX := Lib.hid (show strOfNums (sumBytes v f i) ++ strOfNums (littleNums (((v.getD i 0 + f.getD i 0) % 2 ^ 32 : Nat) : Int) 4) = strOfNums (sumBytes v f (i + 1)) by rw [sumBytes, strOfNums_append])
      have hz : (strOfNums (sumBytes v f i)).size + (strOfNums (littleNums (((v.getD i 0 + f.getD i 0) % 2 ^ 32 : Nat) : Int) 4)).size ≤ 9223372036854775807 := by rw [strOfNums_size, strOfNums_size, sumBytes_len, littleNums_length]; omega
      obtain ⟨a, ha⟩ : ∃ n, v.getD i 0 = n := ⟨_, rfl⟩
      obtain ⟨b, hb⟩ : ∃ n, f.getD i 0 = n := ⟨_, rfl⟩
      obtain ⟨n, ln, hn, _, hm⟩ := add_step (v.getD i 0) (f.getD i 0) (hv.2 i) (hf.2 i)
      rw [ha, hb] at hT hm NX hz
      replace hn : Hid ((a + b) % 2 ^ 32 = n) := by rw [← ha, ← hb]; exact hn
      rw [hn.out] at NX hz
      have hw32 : IntKind.u32.wrap ((a : Int) + (b : Int)) = (n : Int) := by first | exact hm | (simp only [IntKind.wrap]; exact hm) | (simp [IntKind.wrap]; omega)
      have hw64 : IntKind.i64.wrap (n : Int) = (n : Int) := (i64_w _).trans (wrap_ok _ (by omega) (by omega))
      have hC := fun W => impl_little.calls (n : Int) 4 _ W (if_pos ⟨by decide, by decide⟩)
      have HD := HL.out.drew
      clear ha hb hn ln
      simp only [show Int.toNat 4 = 4 from rfl] at hC
      generalize strOfNums (littleNums (n : Int) 4) = z at hC NX hz
      have hz2 := eq_false (Nat.not_lt.2 hz)
      generalize strOfNums (sumBytes v f i) = y at NX hz hz2 ⊢
      replace hz := eq_true hz
      go_wp2
      go_region_held3 (fun W => W.cell? ⟨g, i, none⟩ = some (.int .u32 (a : Int)) ∧ W.cell? ⟨gx, i, none⟩ = some (.int .u32 (b : Int))) ((first | with_reducible exact hT _ HD | (with_reducible refine hT _ ?_; with_reducible assumption)))
        (first | (go_at_call 78; (try rw [hw32]); (try rw [hw64]); with_reducible refine (hC _).mono ?_; rintro e w' ⟨rfl, hbel⟩; have L1 := below_step HD hbel))
      go_wp2
      go_roundg (16 - (i + 1))
      case measure => omega
      case rel => exact ⟨i + 1, by go_num, by rw [NX.out], by omega, by omega, ⟨L1⟩⟩
    · have c1 : decide ((i : Int) < 16) = false := decide_eq_false (by omega)
      obtain rfl : i = 16 := by omega
      go_wp2
      have P2 := HL.out
      refine HX.out _ _ _ _ _ _ _ _ _ _ _ _ _ _ _ _ ?_
      exact P2


end Go.Proofs.Ytihpnededldedaa.Leaf
