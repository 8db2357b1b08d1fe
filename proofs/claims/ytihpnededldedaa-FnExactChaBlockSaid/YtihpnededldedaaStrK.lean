/-
  The innermost loop of impl.stream: four quarter rounds on columns (step 0) or diagonals (step 1). Conditions: sixteen words.
-/
import Derived.Test.YtihpnededldedaaStrR
namespace Go.Proofs.Ytihpnededldedaa.Leaf
open Go.RowKit Go.Shelf Go.Proofs.YtihpnededldedaaW.PrintWords Go.Proofs.YtihpnededldedaaW.PrintLast Go.Proofs.YtihpnededldedaaW.PrintMore Go.Proofs.Ytihpnededldedaa.PCha

set_option maxRecDepth 1000000 in
set_option maxHeartbeats 16000000 in
theorem strA_wp (g : Nat) (v : List Nat) (u0 u1 u2 u3 u4 u5 u6 u7 u8 u10 u12 u13 u14 u15 u16 u17 u18 u19 u20 u21 u22 u23 u24 u25 u26 u27 u28 u29 u30 u31 u32 u33 u34 u35 u36 u37 u38 u39 u40 u41 u42 u43 u44 u45 u47 u48 u49 u50 u51 u52 u53 u54 u55 u56 u57 u58 u59 u60 u61 u62 u63 u64 u65 u66 u67 u68 u69 u70 u71 u72 u73 u74 u75 u76 u77 u78 u79 u80 u81 u82 u83 u84 u85 u86 u87 u88 u89 u90 u91 u92 u93 u94 u95 u96 u97 u98 u99 u100 u101 u102 u103 u104 u105 u106 u107 u108 u109 u110 : Value) (Q0 : Exit → Act → World → Prop) (w : World) (hQ0 : ∀ c (a a' : Act) w, a.defers = a'.defers → Q0 (.panic c) a w → Q0 (.panic c) a' w) (hv : W16 v) (hB : Blk w g 78 (wds .u32 v))
    (hexit : ∀ (x12 x13 x14 x15 x47 x48 x49 x50 x51 x52 x53 x54 x55 x56 x57 x58 x59 x60 x61 x62 x63 x64 x65 x66 x67 x68 x69 x70 x71 x72 x73 x74 x75 x76 x77 x78 x79 x80 x81 x82 x83 x84 x85 x86 x87 x88 x89 x90 x91 x92 : Value) (w' : World), Blk w' g 78 (wds .u32 (halfA v 4)) ∧ Below g w w' ∧ w.heap.size ≤ w'.heap.size → Q0 (.exit 6) ⟨List.toArray (u0 :: u1 :: u2 :: u3 :: u4 :: u5 :: u6 :: u7 :: u8 :: (.pointer (some ⟨g, 0, none⟩)) :: u10 :: (.int .i64 0) :: x12 :: x13 :: x14 :: x15 :: u16 :: u17 :: u18 :: u19 :: u20 :: u21 :: u22 :: u23 :: u24 :: u25 :: u26 :: u27 :: u28 :: u29 :: u30 :: u31 :: u32 :: u33 :: u34 :: u35 :: u36 :: u37 :: u38 :: u39 :: u40 :: u41 :: u42 :: u43 :: u44 :: u45 :: (.int .i64 4) :: x47 :: x48 :: x49 :: x50 :: x51 :: x52 :: x53 :: x54 :: x55 :: x56 :: x57 :: x58 :: x59 :: x60 :: x61 :: x62 :: x63 :: x64 :: x65 :: x66 :: x67 :: x68 :: x69 :: x70 :: x71 :: x72 :: x73 :: x74 :: x75 :: x76 :: x77 :: x78 :: x79 :: x80 :: x81 :: x82 :: x83 :: x84 :: x85 :: x86 :: x87 :: x88 :: x89 :: x90 :: x91 :: x92 :: u93 :: u94 :: u95 :: u96 :: u97 :: u98 :: u99 :: u100 :: u101 :: u102 :: u103 :: u104 :: u105 :: u106 :: u107 :: u108 :: u109 :: u110 :: []), []⟩ w') :
    Code.wp Try.prog (loopNo Try.f47 3) Q0 ⟨List.toArray (u0 :: u1 :: u2 :: u3 :: u4 :: u5 :: u6 :: u7 :: u8 :: (.pointer (some ⟨g, 0, none⟩)) :: u10 :: (.int .i64 0) :: u12 :: u13 :: u14 :: u15 :: u16 :: u17 :: u18 :: u19 :: u20 :: u21 :: u22 :: u23 :: u24 :: u25 :: u26 :: u27 :: u28 :: u29 :: u30 :: u31 :: u32 :: u33 :: u34 :: u35 :: u36 :: u37 :: u38 :: u39 :: u40 :: u41 :: u42 :: u43 :: u44 :: u45 :: (.int .i64 0) :: u47 :: u48 :: u49 :: u50 :: u51 :: u52 :: u53 :: u54 :: u55 :: u56 :: u57 :: u58 :: u59 :: u60 :: u61 :: u62 :: u63 :: u64 :: u65 :: u66 :: u67 :: u68 :: u69 :: u70 :: u71 :: u72 :: u73 :: u74 :: u75 :: u76 :: u77 :: u78 :: u79 :: u80 :: u81 :: u82 :: u83 :: u84 :: u85 :: u86 :: u87 :: u88 :: u89 :: u90 :: u91 :: u92 :: u93 :: u94 :: u95 :: u96 :: u97 :: u98 :: u99 :: u100 :: u101 :: u102 :: u103 :: u104 :: u105 :: u106 :: u107 :: u108 :: u109 :: u110 :: []), []⟩ w := by
  conv => arg 2; whnf
  have HX := Lib.hid hexit
  clear hexit
  go_loopg [46] 4 (fun gg s_ wr => ∃ k : Nat, s_ = .int .i64 k ∧ k ≤ 4 ∧ 4 ≤ gg + k ∧ Aside0 (Blk wr g 78 (wds .u32 (halfA v k))) ∧ Aside0 (Below g w wr) ∧ Aside0 (w.heap.size ≤ wr.heap.size))
  case atStart => exact ⟨0, rfl, by omega, by omega, ⟨hB⟩, ⟨Below.refl _ _⟩, ⟨Nat.le_refl _⟩⟩
  case round =>
    obtain ⟨k, rfl, hi, hg, HB, HL, HZ⟩ := hrel
    by_cases hlt : k < 4
    · obtain rfl | rfl | rfl | rfl : k = 0 ∨ k = 1 ∨ k = 2 ∨ k = 3 := by omega
      · have U := hv.halfA 0
        go_wp2
        refine stream_r18 _ g (halfA v 0) 0 4 8 12 _ _ _ _ wr _ _ _ _ _ _ _ _ _ _ _ _ _ _ _ _ _ _ _ _ _ _ _ _ _ _ _ _ _ _ _ _ _ _ _ _ _ _ _ _ _ _ _ _ _ _ _ _ _ _ _ _ _ _ _ _ _ _ _ _ _ _ _ _ _ _ _ _ _ _ _ _ _ _ _ _ _ _ _ _ _ _ _ _ _ _ _ _ _ _ _ _ _ _ _ _ _ _ _ _ _ _ _ _ _ _ (fun c a a' w e h => hQ0 c a a' w e h) HB.out U.1 (by decide) (by decide) (by decide) (by decide) rfl rfl rfl rfl (U.2 _) (U.2 _) (U.2 _) (U.2 _) ?_
        intro w2 y66 y67 y68 y69 y70 y71 y72 y73 y74 y75 y76 y77 y78 y79 y80 y81 y82 y83 y84 y85 y86 y87 y88 y89 y90 y91 L2 Z2 B2
        have B3 : Blk w2 g 78 (wds .u32 (halfA v (0 + 1))) := B2
        have L3 := Aside0.mk (HL.out.trans L2)
        have Z3 := Aside0.mk (Nat.le_trans HZ.out Z2)
        replace B3 := Aside0.mk B3
        clear HB HL HZ L2 Z2 B2
        go_wp2
        go_roundg (4 - (0 + 1))
        case measure => omega
        case rel => exact ⟨0 + 1, by first | rfl | go_num, by omega, by omega, B3, L3, Z3⟩
      · have U := hv.halfA 1
        go_wp2
        refine stream_r18 _ g (halfA v 1) 1 5 9 13 _ _ _ _ wr _ _ _ _ _ _ _ _ _ _ _ _ _ _ _ _ _ _ _ _ _ _ _ _ _ _ _ _ _ _ _ _ _ _ _ _ _ _ _ _ _ _ _ _ _ _ _ _ _ _ _ _ _ _ _ _ _ _ _ _ _ _ _ _ _ _ _ _ _ _ _ _ _ _ _ _ _ _ _ _ _ _ _ _ _ _ _ _ _ _ _ _ _ _ _ _ _ _ _ _ _ _ _ _ _ _ (fun c a a' w e h => hQ0 c a a' w e h) HB.out U.1 (by decide) (by decide) (by decide) (by decide) rfl rfl rfl rfl (U.2 _) (U.2 _) (U.2 _) (U.2 _) ?_
        intro w2 y66 y67 y68 y69 y70 y71 y72 y73 y74 y75 y76 y77 y78 y79 y80 y81 y82 y83 y84 y85 y86 y87 y88 y89 y90 y91 L2 Z2 B2
        have B3 : Blk w2 g 78 (wds .u32 (halfA v (1 + 1))) := B2
        have L3 := Aside0.mk (HL.out.trans L2)
        have Z3 := Aside0.mk (Nat.le_trans HZ.out Z2)
        replace B3 := Aside0.mk B3
        clear HB HL HZ L2 Z2 B2
        go_wp2
        go_roundg (4 - (1 + 1))
        case measure => omega
        case rel => exact ⟨1 + 1, by first | rfl | go_num, by omega, by omega, B3, L3, Z3⟩
      · have U := hv.halfA 2
        go_wp2
        refine stream_r18 _ g (halfA v 2) 2 6 10 14 _ _ _ _ wr _ _ _ _ _ _ _ _ _ _ _ _ _ _ _ _ _ _ _ _ _ _ _ _ _ _ _ _ _ _ _ _ _ _ _ _ _ _ _ _ _ _ _ _ _ _ _ _ _ _ _ _ _ _ _ _ _ _ _ _ _ _ _ _ _ _ _ _ _ _ _ _ _ _ _ _ _ _ _ _ _ _ _ _ _ _ _ _ _ _ _ _ _ _ _ _ _ _ _ _ _ _ _ _ _ _ (fun c a a' w e h => hQ0 c a a' w e h) HB.out U.1 (by decide) (by decide) (by decide) (by decide) rfl rfl rfl rfl (U.2 _) (U.2 _) (U.2 _) (U.2 _) ?_
        intro w2 y66 y67 y68 y69 y70 y71 y72 y73 y74 y75 y76 y77 y78 y79 y80 y81 y82 y83 y84 y85 y86 y87 y88 y89 y90 y91 L2 Z2 B2
        have B3 : Blk w2 g 78 (wds .u32 (halfA v (2 + 1))) := B2
        have L3 := Aside0.mk (HL.out.trans L2)
        have Z3 := Aside0.mk (Nat.le_trans HZ.out Z2)
        replace B3 := Aside0.mk B3
        clear HB HL HZ L2 Z2 B2
        go_wp2
        go_roundg (4 - (2 + 1))
        case measure => omega
        case rel => exact ⟨2 + 1, by first | rfl | go_num, by omega, by omega, B3, L3, Z3⟩
      · have U := hv.halfA 3
        go_wp2
        refine stream_r18 _ g (halfA v 3) 3 7 11 15 _ _ _ _ wr _ _ _ _ _ _ _ _ _ _ _ _ _ _ _ _ _ _ _ _ _ _ _ _ _ _ _ _ _ _ _ _ _ _ _ _ _ _ _ _ _ _ _ _ _ _ _ _ _ _ _ _ _ _ _ _ _ _ _ _ _ _ _ _ _ _ _ _ _ _ _ _ _ _ _ _ _ _ _ _ _ _ _ _ _ _ _ _ _ _ _ _ _ _ _ _ _ _ _ _ _ _ _ _ _ _ (fun c a a' w e h => hQ0 c a a' w e h) HB.out U.1 (by decide) (by decide) (by decide) (by decide) rfl rfl rfl rfl (U.2 _) (U.2 _) (U.2 _) (U.2 _) ?_
        intro w2 y66 y67 y68 y69 y70 y71 y72 y73 y74 y75 y76 y77 y78 y79 y80 y81 y82 y83 y84 y85 y86 y87 y88 y89 y90 y91 L2 Z2 B2
        have B3 : Blk w2 g 78 (wds .u32 (halfA v (3 + 1))) := B2
        have L3 := Aside0.mk (HL.out.trans L2)
        have Z3 := Aside0.mk (Nat.le_trans HZ.out Z2)
        replace B3 := Aside0.mk B3
        clear HB HL HZ L2 Z2 B2
        go_wp2
        go_roundg (4 - (3 + 1))
        case measure => omega
        case rel => exact ⟨3 + 1, by first | rfl | go_num, by omega, by omega, B3, L3, Z3⟩
    · have c1 : decide ((k : Int) < 4) = false := decide_eq_false (by omega)
      have c2 : decide (k < 4) = false := decide_eq_false (by omega)
      obtain rfl : k = 4 := by omega
      go_wp2
      have P1 := HB.out
      have P2 := HL.out
      have P3 := HZ.out
      refine HX.out _ _ _ _ _ _ _ _ _ _ _ _ _ _ _ _ _ _ _ _ _ _ _ _ _ _ _ _ _ _ _ _ _ _ _ _ _ _ _ _ _ _ _ _ _ _ _ _ _ _ _ ?_
      exact ⟨P1, P2, P3⟩


set_option maxRecDepth 1000000 in
set_option maxHeartbeats 16000000 in
theorem strB_wp (g : Nat) (v : List Nat) (u0 u1 u2 u3 u4 u5 u6 u7 u8 u10 u12 u13 u14 u15 u16 u17 u18 u19 u20 u21 u22 u23 u24 u25 u26 u27 u28 u29 u30 u31 u32 u33 u34 u35 u36 u37 u38 u39 u40 u41 u42 u43 u44 u45 u47 u48 u49 u50 u51 u52 u53 u54 u55 u56 u57 u58 u59 u60 u61 u62 u63 u64 u65 u66 u67 u68 u69 u70 u71 u72 u73 u74 u75 u76 u77 u78 u79 u80 u81 u82 u83 u84 u85 u86 u87 u88 u89 u90 u91 u92 u93 u94 u95 u96 u97 u98 u99 u100 u101 u102 u103 u104 u105 u106 u107 u108 u109 u110 : Value) (Q0 : Exit → Act → World → Prop) (w : World) (hQ0 : ∀ c (a a' : Act) w, a.defers = a'.defers → Q0 (.panic c) a w → Q0 (.panic c) a' w) (hv : W16 v) (hB : Blk w g 78 (wds .u32 v))
    (hexit : ∀ (x12 x13 x14 x15 x47 x48 x49 x50 x51 x52 x53 x54 x55 x56 x57 x58 x59 x60 x61 x62 x63 x64 x65 x66 x67 x68 x69 x70 x71 x72 x73 x74 x75 x76 x77 x78 x79 x80 x81 x82 x83 x84 x85 x86 x87 x88 x89 x90 x91 x92 : Value) (w' : World), Blk w' g 78 (wds .u32 (halfB v 4)) ∧ Below g w w' ∧ w.heap.size ≤ w'.heap.size → Q0 (.exit 6) ⟨List.toArray (u0 :: u1 :: u2 :: u3 :: u4 :: u5 :: u6 :: u7 :: u8 :: (.pointer (some ⟨g, 0, none⟩)) :: u10 :: (.int .i64 1) :: x12 :: x13 :: x14 :: x15 :: u16 :: u17 :: u18 :: u19 :: u20 :: u21 :: u22 :: u23 :: u24 :: u25 :: u26 :: u27 :: u28 :: u29 :: u30 :: u31 :: u32 :: u33 :: u34 :: u35 :: u36 :: u37 :: u38 :: u39 :: u40 :: u41 :: u42 :: u43 :: u44 :: u45 :: (.int .i64 4) :: x47 :: x48 :: x49 :: x50 :: x51 :: x52 :: x53 :: x54 :: x55 :: x56 :: x57 :: x58 :: x59 :: x60 :: x61 :: x62 :: x63 :: x64 :: x65 :: x66 :: x67 :: x68 :: x69 :: x70 :: x71 :: x72 :: x73 :: x74 :: x75 :: x76 :: x77 :: x78 :: x79 :: x80 :: x81 :: x82 :: x83 :: x84 :: x85 :: x86 :: x87 :: x88 :: x89 :: x90 :: x91 :: x92 :: u93 :: u94 :: u95 :: u96 :: u97 :: u98 :: u99 :: u100 :: u101 :: u102 :: u103 :: u104 :: u105 :: u106 :: u107 :: u108 :: u109 :: u110 :: []), []⟩ w') :
    Code.wp Try.prog (loopNo Try.f47 3) Q0 ⟨List.toArray (u0 :: u1 :: u2 :: u3 :: u4 :: u5 :: u6 :: u7 :: u8 :: (.pointer (some ⟨g, 0, none⟩)) :: u10 :: (.int .i64 1) :: u12 :: u13 :: u14 :: u15 :: u16 :: u17 :: u18 :: u19 :: u20 :: u21 :: u22 :: u23 :: u24 :: u25 :: u26 :: u27 :: u28 :: u29 :: u30 :: u31 :: u32 :: u33 :: u34 :: u35 :: u36 :: u37 :: u38 :: u39 :: u40 :: u41 :: u42 :: u43 :: u44 :: u45 :: (.int .i64 0) :: u47 :: u48 :: u49 :: u50 :: u51 :: u52 :: u53 :: u54 :: u55 :: u56 :: u57 :: u58 :: u59 :: u60 :: u61 :: u62 :: u63 :: u64 :: u65 :: u66 :: u67 :: u68 :: u69 :: u70 :: u71 :: u72 :: u73 :: u74 :: u75 :: u76 :: u77 :: u78 :: u79 :: u80 :: u81 :: u82 :: u83 :: u84 :: u85 :: u86 :: u87 :: u88 :: u89 :: u90 :: u91 :: u92 :: u93 :: u94 :: u95 :: u96 :: u97 :: u98 :: u99 :: u100 :: u101 :: u102 :: u103 :: u104 :: u105 :: u106 :: u107 :: u108 :: u109 :: u110 :: []), []⟩ w := by
  conv => arg 2; whnf
  have HX := Lib.hid hexit
  clear hexit
  go_loopg [46] 4 (fun gg s_ wr => ∃ k : Nat, s_ = .int .i64 k ∧ k ≤ 4 ∧ 4 ≤ gg + k ∧ Aside0 (Blk wr g 78 (wds .u32 (halfB v k))) ∧ Aside0 (Below g w wr) ∧ Aside0 (w.heap.size ≤ wr.heap.size))
  case atStart => exact ⟨0, rfl, by omega, by omega, ⟨hB⟩, ⟨Below.refl _ _⟩, ⟨Nat.le_refl _⟩⟩
  case round =>
    obtain ⟨k, rfl, hi, hg, HB, HL, HZ⟩ := hrel
    by_cases hlt : k < 4
    · obtain rfl | rfl | rfl | rfl : k = 0 ∨ k = 1 ∨ k = 2 ∨ k = 3 := by omega
      · have U := hv.halfB 0
        go_wp2
        refine stream_r18 _ g (halfB v 0) 0 5 10 15 _ _ _ _ wr _ _ _ _ _ _ _ _ _ _ _ _ _ _ _ _ _ _ _ _ _ _ _ _ _ _ _ _ _ _ _ _ _ _ _ _ _ _ _ _ _ _ _ _ _ _ _ _ _ _ _ _ _ _ _ _ _ _ _ _ _ _ _ _ _ _ _ _ _ _ _ _ _ _ _ _ _ _ _ _ _ _ _ _ _ _ _ _ _ _ _ _ _ _ _ _ _ _ _ _ _ _ _ _ _ _ (fun c a a' w e h => hQ0 c a a' w e h) HB.out U.1 (by decide) (by decide) (by decide) (by decide) rfl rfl rfl rfl (U.2 _) (U.2 _) (U.2 _) (U.2 _) ?_
        intro w2 y66 y67 y68 y69 y70 y71 y72 y73 y74 y75 y76 y77 y78 y79 y80 y81 y82 y83 y84 y85 y86 y87 y88 y89 y90 y91 L2 Z2 B2
        have B3 : Blk w2 g 78 (wds .u32 (halfB v (0 + 1))) := B2
        have L3 := Aside0.mk (HL.out.trans L2)
        have Z3 := Aside0.mk (Nat.le_trans HZ.out Z2)
        replace B3 := Aside0.mk B3
        clear HB HL HZ L2 Z2 B2
        go_wp2
        go_roundg (4 - (0 + 1))
        case measure => omega
        case rel => exact ⟨0 + 1, by first | rfl | go_num, by omega, by omega, B3, L3, Z3⟩
      · have U := hv.halfB 1
        go_wp2
        refine stream_r18 _ g (halfB v 1) 1 6 11 12 _ _ _ _ wr _ _ _ _ _ _ _ _ _ _ _ _ _ _ _ _ _ _ _ _ _ _ _ _ _ _ _ _ _ _ _ _ _ _ _ _ _ _ _ _ _ _ _ _ _ _ _ _ _ _ _ _ _ _ _ _ _ _ _ _ _ _ _ _ _ _ _ _ _ _ _ _ _ _ _ _ _ _ _ _ _ _ _ _ _ _ _ _ _ _ _ _ _ _ _ _ _ _ _ _ _ _ _ _ _ _ (fun c a a' w e h => hQ0 c a a' w e h) HB.out U.1 (by decide) (by decide) (by decide) (by decide) rfl rfl rfl rfl (U.2 _) (U.2 _) (U.2 _) (U.2 _) ?_
        intro w2 y66 y67 y68 y69 y70 y71 y72 y73 y74 y75 y76 y77 y78 y79 y80 y81 y82 y83 y84 y85 y86 y87 y88 y89 y90 y91 L2 Z2 B2
        have B3 : Blk w2 g 78 (wds .u32 (halfB v (1 + 1))) := B2
        have L3 := Aside0.mk (HL.out.trans L2)
        have Z3 := Aside0.mk (Nat.le_trans HZ.out Z2)
        replace B3 := Aside0.mk B3
        clear HB HL HZ L2 Z2 B2
        go_wp2
        go_roundg (4 - (1 + 1))
        case measure => omega
        case rel => exact ⟨1 + 1, by first | rfl | go_num, by omega, by omega, B3, L3, Z3⟩
      · have U := hv.halfB 2
        go_wp2
        refine stream_r18 _ g (halfB v 2) 2 7 8 13 _ _ _ _ wr _ _ _ _ _ _ _ _ _ _ _ _ _ _ _ _ _ _ _ _ _ _ _ _ _ _ _ _ _ _ _ _ _ _ _ _ _ _ _ _ _ _ _ _ _ _ _ _ _ _ _ _ _ _ _ _ _ _ _ _ _ _ _ _ _ _ _ _ _ _ _ _ _ _ _ _ _ _ _ _ _ _ _ _ _ _ _ _ _ _ _ _ _ _ _ _ _ _ _ _ _ _ _ _ _ _ (fun c a a' w e h => hQ0 c a a' w e h) HB.out U.1 (by decide) (by decide) (by decide) (by decide) rfl rfl rfl rfl (U.2 _) (U.2 _) (U.2 _) (U.2 _) ?_
        intro w2 y66 y67 y68 y69 y70 y71 y72 y73 y74 y75 y76 y77 y78 y79 y80 y81 y82 y83 y84 y85 y86 y87 y88 y89 y90 y91 L2 Z2 B2
        have B3 : Blk w2 g 78 (wds .u32 (halfB v (2 + 1))) := B2
        have L3 := Aside0.mk (HL.out.trans L2)
        have Z3 := Aside0.mk (Nat.le_trans HZ.out Z2)
        replace B3 := Aside0.mk B3
        clear HB HL HZ L2 Z2 B2
        go_wp2
        go_roundg (4 - (2 + 1))
        case measure => omega
        case rel => exact ⟨2 + 1, by first | rfl | go_num, by omega, by omega, B3, L3, Z3⟩
      · have U := hv.halfB 3
        go_wp2
        refine stream_r18 _ g (halfB v 3) 3 4 9 14 _ _ _ _ wr _ _ _ _ _ _ _ _ _ _ _ _ _ _ _ _ _ _ _ _ _ _ _ _ _ _ _ _ _ _ _ _ _ _ _ _ _ _ _ _ _ _ _ _ _ _ _ _ _ _ _ _ _ _ _ _ _ _ _ _ _ _ _ _ _ _ _ _ _ _ _ _ _ _ _ _ _ _ _ _ _ _ _ _ _ _ _ _ _ _ _ _ _ _ _ _ _ _ _ _ _ _ _ _ _ _ (fun c a a' w e h => hQ0 c a a' w e h) HB.out U.1 (by decide) (by decide) (by decide) (by decide) rfl rfl rfl rfl (U.2 _) (U.2 _) (U.2 _) (U.2 _) ?_
        intro w2 y66 y67 y68 y69 y70 y71 y72 y73 y74 y75 y76 y77 y78 y79 y80 y81 y82 y83 y84 y85 y86 y87 y88 y89 y90 y91 L2 Z2 B2
        have B3 : Blk w2 g 78 (wds .u32 (halfB v (3 + 1))) := B2
        have L3 := Aside0.mk (HL.out.trans L2)
        have Z3 := Aside0.mk (Nat.le_trans HZ.out Z2)
        replace B3 := Aside0.mk B3
        clear HB HL HZ L2 Z2 B2
        go_wp2
        go_roundg (4 - (3 + 1))
        case measure => omega
        case rel => exact ⟨3 + 1, by first | rfl | go_num, by omega, by omega, B3, L3, Z3⟩
    · have c1 : decide ((k : Int) < 4) = false := decide_eq_false (by omega)
      have c2 : decide (k < 4) = false := decide_eq_false (by omega)
      obtain rfl : k = 4 := by omega
      go_wp2
      have P1 := HB.out
      have P2 := HL.out
      have P3 := HZ.out
      refine HX.out _ _ _ _ _ _ _ _ _ _ _ _ _ _ _ _ _ _ _ _ _ _ _ _ _ _ _ _ _ _ _ _ _ _ _ _ _ _ _ _ _ _ _ _ _ _ _ _ _ _ _ ?_
      exact ⟨P1, P2, P3⟩


end Go.Proofs.Ytihpnededldedaa.Leaf
