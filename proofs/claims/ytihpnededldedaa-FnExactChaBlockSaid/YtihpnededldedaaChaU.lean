/- The reference's last loop: the bytes of the sums. Conditions: words of 32 bits. -/
import Derived.Test.YtihpnededldedaaChaV
import Derived.Deep.RegionHeld3
namespace Go.Proofs.Ytihpnededldedaa.Leaf
open Go.RowKit Go.Shelf Go.Proofs.YtihpnededldedaaW.PrintWords Go.Proofs.YtihpnededldedaaW.PrintLast Go.Proofs.YtihpnededldedaaW.PrintMore Go.Proofs.Ytihpnededldedaa.PCha

theorem sumBytes_length (v f : List Nat) : ∀ i, (sumBytes v f i).length = 4 * i
  | 0 => rfl
  | i + 1 => by rw [sumBytes, List.length_append, sumBytes_length v f i, littleNums_length]; omega
theorem sumBytes_some (v f : List Nat) (i : Nat) (hi : i < 16) : spec_l02Bytes.f (sumBytes v f i) (((v.getD i 0 + f.getD i 0) % 2 ^ 32 : Nat) : Int) = some (sumBytes v f (i + 1)) := by
  unfold spec_l02Bytes.f
  rw [Option.bind_some, if_pos (by rw [sumBytes_length]; show 4 * i + 4 < _; omega)]
  show some (sumBytes v f i ++ _) = some (sumBytes v f i ++ littleNums _ 4)
  simp [littleNums, List.range_succ]

set_option maxRecDepth 1000000 in
set_option maxHeartbeats 16000000 in
theorem loop6_wp (w0 : World) (g gv : Nat) (v f : List Nat) (v15 : Value) (u0 u1 u2 u3 u4 u5 u6 u8 u9 u10 u12 u13 u14 u17 u18 u19 u20 u21 u22 u23 u24 u25 u26 u27 u28 u29 u30 u31 u32 u33 u34 u35 u36 u37 u38 u39 u40 u41 u42 u43 u44 u45 u46 u47 u48 u49 u50 u51 u52 u53 u54 u55 u56 u57 u58 u59 u60 u61 u62 u63 u64 u65 u66 u67 u68 u69 u70 u71 u72 u73 u74 u75 u76 u77 u78 u79 u80 u81 u82 u83 u84 u85 u86 u87 u88 u89 u90 u91 u92 u93 u94 u95 u96 u97 u98 u99 u100 u101 u102 u103 u104 : Value) (Q0 : Exit → Act → World → Prop) (w : World) (hv : W16 v) (hf : W16 f) (hG : Blk w0 gv 72 (wds .i64 v)) (hF : Blk w0 g 72 (wds .i64 f)) (hO : Kd.R (Kd.int .u8) 5 w w0.heap.size (fun _ => True) v15 []) (hL : Below w0.heap.size w0 w)
    (hexit : ∀ (x15 x89 x90 x91 x92 x93 x94 x95 x96 x97 x98 x99 x100 x101 x102 : Value) (w' : World), Kd.R (Kd.int .u8) 5 w' w0.heap.size (fun _ => True) x15 (sumBytes v f 16) ∧ Below w0.heap.size w0 w' → Q0 (.exit 12) ⟨List.toArray (u0 :: u1 :: u2 :: u3 :: u4 :: u5 :: u6 :: (.pointer (some ⟨g, 0, none⟩)) :: u8 :: u9 :: u10 :: (.pointer (some ⟨gv, 0, none⟩)) :: u12 :: u13 :: u14 :: x15 :: (.int .i64 16) :: u17 :: u18 :: u19 :: u20 :: u21 :: u22 :: u23 :: u24 :: u25 :: u26 :: u27 :: u28 :: u29 :: u30 :: u31 :: u32 :: u33 :: u34 :: u35 :: u36 :: u37 :: u38 :: u39 :: u40 :: u41 :: u42 :: u43 :: u44 :: u45 :: u46 :: u47 :: u48 :: u49 :: u50 :: u51 :: u52 :: u53 :: u54 :: u55 :: u56 :: u57 :: u58 :: u59 :: u60 :: u61 :: u62 :: u63 :: u64 :: u65 :: u66 :: u67 :: u68 :: u69 :: u70 :: u71 :: u72 :: u73 :: u74 :: u75 :: u76 :: u77 :: u78 :: u79 :: u80 :: u81 :: u82 :: u83 :: u84 :: u85 :: u86 :: u87 :: u88 :: x89 :: x90 :: x91 :: x92 :: x93 :: x94 :: x95 :: x96 :: x97 :: x98 :: x99 :: x100 :: x101 :: x102 :: u103 :: u104 :: []), []⟩ w') :
    Code.wp Try.prog (loopNo Try.f45 6) Q0 ⟨List.toArray (u0 :: u1 :: u2 :: u3 :: u4 :: u5 :: u6 :: (.pointer (some ⟨g, 0, none⟩)) :: u8 :: u9 :: u10 :: (.pointer (some ⟨gv, 0, none⟩)) :: u12 :: u13 :: u14 :: v15 :: (.int .i64 0) :: u17 :: u18 :: u19 :: u20 :: u21 :: u22 :: u23 :: u24 :: u25 :: u26 :: u27 :: u28 :: u29 :: u30 :: u31 :: u32 :: u33 :: u34 :: u35 :: u36 :: u37 :: u38 :: u39 :: u40 :: u41 :: u42 :: u43 :: u44 :: u45 :: u46 :: u47 :: u48 :: u49 :: u50 :: u51 :: u52 :: u53 :: u54 :: u55 :: u56 :: u57 :: u58 :: u59 :: u60 :: u61 :: u62 :: u63 :: u64 :: u65 :: u66 :: u67 :: u68 :: u69 :: u70 :: u71 :: u72 :: u73 :: u74 :: u75 :: u76 :: u77 :: u78 :: u79 :: u80 :: u81 :: u82 :: u83 :: u84 :: u85 :: u86 :: u87 :: u88 :: u89 :: u90 :: u91 :: u92 :: u93 :: u94 :: u95 :: u96 :: u97 :: u98 :: u99 :: u100 :: u101 :: u102 :: u103 :: u104 :: []), []⟩ w := by
  conv => arg 2; whnf
  have HX := Lib.hid hexit
  clear hexit
  have hS : ∀ (i : Nat), i < 16 → ∀ W, Below w0.heap.size w0 W → W.cell? ⟨gv, i, none⟩ = some (.int .i64 ((v.getD i 0 : Nat) : Int)) ∧ W.cell? ⟨g, i, none⟩ = some (.int .i64 ((f.getD i 0 : Nat) : Int)) := fun i hi W hb =>
    ⟨((hG.below hb).wat i (by rw [hv.1]; exact hi)).1, ((hF.below hb).wat i (by rw [hf.1]; exact hi)).1⟩
  go_loopg [15, 16] 16 (fun gg s15 s_ wr => ∃ i : Nat, s_ = .int .i64 i ∧ i ≤ 16 ∧ 16 ≤ gg + i ∧ Aside0 (Kd.R (Kd.int .u8) 5 wr w0.heap.size (fun _ => True) s15 (sumBytes v f i)) ∧ Aside0 (Below w0.heap.size w0 wr))
  case atStart => exact ⟨0, rfl, by omega, by omega, ⟨hO⟩, ⟨hL⟩⟩
  case round =>
    obtain ⟨i, rfl, hi, hg, HO, HL⟩ := hrel
    by_cases hlt : i < 16
    · have c1 : decide ((i : Int) < 16) = true := decide_eq_true (by omega)
      have c2 : (0 ≤ (i : Int)) = True := eq_true (by omega)
      have c3 : ((i : Int) < 16) = True := eq_true (by omega)
      have hT := hS i hlt
      have HY := Lib.hid (sumBytes_some v f i hlt)
      obtain ⟨a, ha⟩ : ∃ n, v.getD i 0 = n := ⟨_, rfl⟩
      obtain ⟨b, hb⟩ : ∃ n, f.getD i 0 = n := ⟨_, rfl⟩
      obtain ⟨n, _, hn, hm, _⟩ := add_step (v.getD i 0) (f.getD i 0) (hv.2 i) (hf.2 i)
      rw [ha, hb] at hT hm
      replace hn : Hid ((a + b) % 2 ^ 32 = n) := by rw [← ha, ← hb]; exact hn
      have hC := spec_l02Bytes.calls (fun _ => True) _ (sumBytes v f i) (n : Int) (sumBytes v f (i + 1)) w0 wr.drew HL.out.drew (Kd.R_drew HO.out) (by have := HY.out; rw [ha, hb, hn.out] at this; exact this)
      have HD := HL.out.drew
      have hm2 : Go.bits .and .i64 (IntKind.i64.wrap ((a : Int) + (b : Int))) 4294967295 = (n : Int) := (congrArg (fun z => Go.bits .and .i64 z 4294967295) (i64_w _)).trans hm
      rw [← hm2] at hC
      clear hm2
      clear ha hb hn HY
      go_wp2
      go_region_held3 (fun W => W.cell? ⟨gv, i, none⟩ = some (.int .i64 (a : Int)) ∧ W.cell? ⟨g, i, none⟩ = some (.int .i64 (b : Int))) ((first | with_reducible exact hT _ HD | (with_reducible refine hT _ ?_; with_reducible assumption)))
        (first | (go_at_call 77; with_reducible refine hC.mono ?_; rintro e w' ⟨v0, rfl, hR, hbel, hkept⟩))
      have R1 := Aside0.mk (Kd.R_mono hR (fun _ _ => trivial))
      have L1 := Aside0.mk hbel
      clear hR hbel hkept HD hC HO HL
      go_wp2
      go_roundg (16 - (i + 1))
      case measure => omega
      case rel => exact ⟨i + 1, by go_num, by omega, by omega, R1, L1⟩
    · have c1 : decide ((i : Int) < 16) = false := decide_eq_false (by omega)
      obtain rfl : i = 16 := by omega
      go_wp2
      have P1 := HO.out
      have P2 := HL.out
      refine HX.out _ _ _ _ _ _ _ _ _ _ _ _ _ _ _ _ ?_
      exact ⟨P1, P2⟩


end Go.Proofs.Ytihpnededldedaa.Leaf
