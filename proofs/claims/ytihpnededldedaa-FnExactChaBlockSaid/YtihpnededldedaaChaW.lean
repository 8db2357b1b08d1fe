/- The loops of the reference's block of the stream, each in a declaration of its own. Conditions: lengths. -/
import Derived.Test.YtihpnededldedaaChaB
import Derived.Test.YtihpnededldedaaLoop
namespace Go.Proofs.Ytihpnededldedaa.Leaf
open Go.RowKit Go.Shelf Go.Proofs.YtihpnededldedaaW.PrintWords Go.Proofs.YtihpnededldedaaW.PrintLast Go.Proofs.YtihpnededldedaaW.PrintMore Go.Proofs.Ytihpnededldedaa.PCha

set_option maxRecDepth 1000000 in
set_option maxHeartbeats 16000000 in
theorem loop0_wp (key nonce : ByteArray) (count : Nat) (g : Nat) (v : List Nat) (u3 u4 u5 u6 u9 u10 u11 u12 u13 u14 u15 u16 u17 u18 u19 u20 u21 u22 u23 u24 u25 u26 u27 u28 u29 u30 u31 u32 u33 u34 u35 u36 u37 u38 u39 u40 u41 u42 u43 u44 u45 u46 u47 u48 u49 u50 u51 u52 u53 u54 u55 u56 u57 u58 u59 u60 u61 u62 u63 u64 u65 u66 u67 u68 u69 u70 u71 u72 u73 u74 u75 u76 u77 u78 u79 u80 u81 u82 u83 u84 u85 u86 u87 u88 u89 u90 u91 u92 u93 u94 u95 u96 u97 u98 u99 u100 u101 u102 u103 u104 : Value) (Q0 : Exit → Act → World → Prop) (w : World) (hv : v.length = 16) (hsz : chaConst.size = 16) (hB : Blk w g 72 (wds .i64 v))
    (hexit : ∀ (x18 x19 x20 x21 x22 x23 x24 x25 x26 : Value) (w' : World), Blk w' g 72 (wds .i64 (fillN (fun i => wordAt chaConst (4 * i)) 0 4 v)) ∧ Below g w w' → Q0 (.exit 0) ⟨List.toArray ((.string key) :: (.string nonce) :: (.int .i64 count) :: u3 :: u4 :: u5 :: u6 :: (.pointer (some ⟨g, 0, none⟩)) :: (.int .i64 4) :: u9 :: u10 :: u11 :: u12 :: u13 :: u14 :: u15 :: u16 :: u17 :: x18 :: x19 :: x20 :: x21 :: x22 :: x23 :: x24 :: x25 :: x26 :: u27 :: u28 :: u29 :: u30 :: u31 :: u32 :: u33 :: u34 :: u35 :: u36 :: u37 :: u38 :: u39 :: u40 :: u41 :: u42 :: u43 :: u44 :: u45 :: u46 :: u47 :: u48 :: u49 :: u50 :: u51 :: u52 :: u53 :: u54 :: u55 :: u56 :: u57 :: u58 :: u59 :: u60 :: u61 :: u62 :: u63 :: u64 :: u65 :: u66 :: u67 :: u68 :: u69 :: u70 :: u71 :: u72 :: u73 :: u74 :: u75 :: u76 :: u77 :: u78 :: u79 :: u80 :: u81 :: u82 :: u83 :: u84 :: u85 :: u86 :: u87 :: u88 :: u89 :: u90 :: u91 :: u92 :: u93 :: u94 :: u95 :: u96 :: u97 :: u98 :: u99 :: u100 :: u101 :: u102 :: u103 :: u104 :: []), []⟩ w') :
    Code.wp Try.prog (loopNo Try.f45 0) Q0 ⟨List.toArray ((.string key) :: (.string nonce) :: (.int .i64 count) :: u3 :: u4 :: u5 :: u6 :: (.pointer (some ⟨g, 0, none⟩)) :: (.int .i64 0) :: u9 :: u10 :: u11 :: u12 :: u13 :: u14 :: u15 :: u16 :: u17 :: u18 :: u19 :: u20 :: u21 :: u22 :: u23 :: u24 :: u25 :: u26 :: u27 :: u28 :: u29 :: u30 :: u31 :: u32 :: u33 :: u34 :: u35 :: u36 :: u37 :: u38 :: u39 :: u40 :: u41 :: u42 :: u43 :: u44 :: u45 :: u46 :: u47 :: u48 :: u49 :: u50 :: u51 :: u52 :: u53 :: u54 :: u55 :: u56 :: u57 :: u58 :: u59 :: u60 :: u61 :: u62 :: u63 :: u64 :: u65 :: u66 :: u67 :: u68 :: u69 :: u70 :: u71 :: u72 :: u73 :: u74 :: u75 :: u76 :: u77 :: u78 :: u79 :: u80 :: u81 :: u82 :: u83 :: u84 :: u85 :: u86 :: u87 :: u88 :: u89 :: u90 :: u91 :: u92 :: u93 :: u94 :: u95 :: u96 :: u97 :: u98 :: u99 :: u100 :: u101 :: u102 :: u103 :: u104 :: []), []⟩ w := by
  conv => arg 2; whnf
  have HX := Lib.hid hexit
  clear hexit
  go_loopg [8] 4 (fun gg s_ wr => ∃ i : Nat, s_ = .int .i64 i ∧ i ≤ 4 ∧ 4 ≤ gg + i ∧ Aside0 (Blk wr g 72 (wds .i64 (fillN (fun i => wordAt chaConst (4 * i)) 0 i v))) ∧ Aside0 (Below g w wr))
  case atStart => exact ⟨0, rfl, by omega, by omega, ⟨hB⟩, ⟨Below.refl _ _⟩⟩
  case round =>
    obtain ⟨i, rfl, hi, hg, HB, HL⟩ := hrel
    by_cases hlt : i < 4
    · have c1 : decide ((i : Int) < 4) = true := decide_eq_true (by omega)
      have hw := fun W => spec_l02Word.calls chaConst (4 * (i : Int)) _ W (l02Word_some chaConst (4 * i) (by omega) (by omega))
      have m4 := mul4 i (by omega)
      rw [show ((4 * i : Nat) : Int) = 4 * (i : Int) by omega] at m4
      have x1 := HB.out.wat (0 + i) (by rw [fillN_length, hv]; omega)
      have n1 : (0 + (i : Int)).toNat = 0 + i := by omega
      have n2 : (0 ≤ 0 + (i : Int)) = True := eq_true (by omega)
      have n3 : (0 + (i : Int) < 16) = True := eq_true (by omega)
      have n4 := wadd 0 i (by decide) (by decide) (by omega)
      have B1 := fun m => Aside0.mk ((HB.out.drewN m).wset (0 + i) (wordAt chaConst (4 * i)))
      have L1 := fun m => Aside0.mk ((Below_drewN HL.out m).setCell (p := ⟨g, 0 + i, none⟩) (Nat.le_refl _) (.int .i64 (wordAt chaConst (4 * i))))
      simp only [Nat.zero_add] at B1 L1 x1
      clear HB HL n1 n2 n3 n4
      go_wp2_with (go_at_call 75; with_reducible refine (hw _).mono ?_; rintro e w1 ⟨rfl, ⟨m1, rfl⟩⟩)
      go_roundg (4 - (i + 1))
      case measure => omega
      case rel => exact ⟨i + 1, by go_num, by omega, by omega, ⟨by simpa [fillN] using (B1 _).out⟩, L1 _⟩
    · have c1 : decide ((i : Int) < 4) = false := decide_eq_false (by omega)
      obtain rfl : i = 4 := by omega
      go_wp2
      have P1 := HB.out
      have P2 := HL.out
      refine HX.out _ _ _ _ _ _ _ _ _ _ ?_
      exact ⟨P1, P2⟩


set_option maxRecDepth 1000000 in
set_option maxHeartbeats 16000000 in
theorem loop1_wp (key nonce : ByteArray) (count : Nat) (g : Nat) (v : List Nat) (u3 u4 u5 u6 u8 u10 u11 u12 u13 u14 u15 u16 u17 u18 u19 u20 u21 u22 u23 u24 u25 u26 u27 u28 u29 u30 u31 u32 u33 u34 u35 u36 u37 u38 u39 u40 u41 u42 u43 u44 u45 u46 u47 u48 u49 u50 u51 u52 u53 u54 u55 u56 u57 u58 u59 u60 u61 u62 u63 u64 u65 u66 u67 u68 u69 u70 u71 u72 u73 u74 u75 u76 u77 u78 u79 u80 u81 u82 u83 u84 u85 u86 u87 u88 u89 u90 u91 u92 u93 u94 u95 u96 u97 u98 u99 u100 u101 u102 u103 u104 : Value) (Q0 : Exit → Act → World → Prop) (w : World) (hv : v.length = 16) (hsz : key.size = 32) (hB : Blk w g 72 (wds .i64 v))
    (hexit : ∀ (x27 x28 x29 x30 x31 x32 x33 x34 x35 x36 x37 : Value) (w' : World), Blk w' g 72 (wds .i64 (fillN (fun i => wordAt key (4 * i)) 4 8 v)) ∧ Below g w w' → Q0 (.exit 2) ⟨List.toArray ((.string key) :: (.string nonce) :: (.int .i64 count) :: u3 :: u4 :: u5 :: u6 :: (.pointer (some ⟨g, 0, none⟩)) :: u8 :: (.int .i64 8) :: u10 :: u11 :: u12 :: u13 :: u14 :: u15 :: u16 :: u17 :: u18 :: u19 :: u20 :: u21 :: u22 :: u23 :: u24 :: u25 :: u26 :: x27 :: x28 :: x29 :: x30 :: x31 :: x32 :: x33 :: x34 :: x35 :: x36 :: x37 :: u38 :: u39 :: u40 :: u41 :: u42 :: u43 :: u44 :: u45 :: u46 :: u47 :: u48 :: u49 :: u50 :: u51 :: u52 :: u53 :: u54 :: u55 :: u56 :: u57 :: u58 :: u59 :: u60 :: u61 :: u62 :: u63 :: u64 :: u65 :: u66 :: u67 :: u68 :: u69 :: u70 :: u71 :: u72 :: u73 :: u74 :: u75 :: u76 :: u77 :: u78 :: u79 :: u80 :: u81 :: u82 :: u83 :: u84 :: u85 :: u86 :: u87 :: u88 :: u89 :: u90 :: u91 :: u92 :: u93 :: u94 :: u95 :: u96 :: u97 :: u98 :: u99 :: u100 :: u101 :: u102 :: u103 :: u104 :: []), []⟩ w') :
    Code.wp Try.prog (loopNo Try.f45 1) Q0 ⟨List.toArray ((.string key) :: (.string nonce) :: (.int .i64 count) :: u3 :: u4 :: u5 :: u6 :: (.pointer (some ⟨g, 0, none⟩)) :: u8 :: (.int .i64 0) :: u10 :: u11 :: u12 :: u13 :: u14 :: u15 :: u16 :: u17 :: u18 :: u19 :: u20 :: u21 :: u22 :: u23 :: u24 :: u25 :: u26 :: u27 :: u28 :: u29 :: u30 :: u31 :: u32 :: u33 :: u34 :: u35 :: u36 :: u37 :: u38 :: u39 :: u40 :: u41 :: u42 :: u43 :: u44 :: u45 :: u46 :: u47 :: u48 :: u49 :: u50 :: u51 :: u52 :: u53 :: u54 :: u55 :: u56 :: u57 :: u58 :: u59 :: u60 :: u61 :: u62 :: u63 :: u64 :: u65 :: u66 :: u67 :: u68 :: u69 :: u70 :: u71 :: u72 :: u73 :: u74 :: u75 :: u76 :: u77 :: u78 :: u79 :: u80 :: u81 :: u82 :: u83 :: u84 :: u85 :: u86 :: u87 :: u88 :: u89 :: u90 :: u91 :: u92 :: u93 :: u94 :: u95 :: u96 :: u97 :: u98 :: u99 :: u100 :: u101 :: u102 :: u103 :: u104 :: []), []⟩ w := by
  conv => arg 2; whnf
  have HX := Lib.hid hexit
  clear hexit
  go_loopg [9] 8 (fun gg s_ wr => ∃ i : Nat, s_ = .int .i64 i ∧ i ≤ 8 ∧ 8 ≤ gg + i ∧ Aside0 (Blk wr g 72 (wds .i64 (fillN (fun i => wordAt key (4 * i)) 4 i v))) ∧ Aside0 (Below g w wr))
  case atStart => exact ⟨0, rfl, by omega, by omega, ⟨hB⟩, ⟨Below.refl _ _⟩⟩
  case round =>
    obtain ⟨i, rfl, hi, hg, HB, HL⟩ := hrel
    by_cases hlt : i < 8
    · have c1 : decide ((i : Int) < 8) = true := decide_eq_true (by omega)
      have hw := fun W => spec_l02Word.calls key (4 * (i : Int)) _ W (l02Word_some key (4 * i) (by omega) (by omega))
      have m4 := mul4 i (by omega)
      rw [show ((4 * i : Nat) : Int) = 4 * (i : Int) by omega] at m4
      have x1 := HB.out.wat (4 + i) (by rw [fillN_length, hv]; omega)
      have n1 : (4 + (i : Int)).toNat = 4 + i := by omega
      have n2 : (0 ≤ 4 + (i : Int)) = True := eq_true (by omega)
      have n3 : (4 + (i : Int) < 16) = True := eq_true (by omega)
      have n4 := wadd 4 i (by decide) (by decide) (by omega)
      have B1 := fun m => Aside0.mk ((HB.out.drewN m).wset (4 + i) (wordAt key (4 * i)))
      have L1 := fun m => Aside0.mk ((Below_drewN HL.out m).setCell (p := ⟨g, 4 + i, none⟩) (Nat.le_refl _) (.int .i64 (wordAt key (4 * i))))
      clear HB HL
      go_wp2_with (go_at_call 75; with_reducible refine (hw _).mono ?_; rintro e w1 ⟨rfl, ⟨m1, rfl⟩⟩)
      go_roundg (8 - (i + 1))
      case measure => omega
      case rel => exact ⟨i + 1, by go_num, by omega, by omega, B1 _, L1 _⟩
    · have c1 : decide ((i : Int) < 8) = false := decide_eq_false (by omega)
      obtain rfl : i = 8 := by omega
      go_wp2
      have P1 := HB.out
      have P2 := HL.out
      refine HX.out _ _ _ _ _ _ _ _ _ _ _ _ ?_
      exact ⟨P1, P2⟩


set_option maxRecDepth 1000000 in
set_option maxHeartbeats 16000000 in
theorem loop2_wp (key nonce : ByteArray) (count : Nat) (g : Nat) (v : List Nat) (u3 u4 u5 u6 u8 u9 u11 u12 u13 u14 u15 u16 u17 u18 u19 u20 u21 u22 u23 u24 u25 u26 u27 u28 u29 u30 u31 u32 u33 u34 u35 u36 u37 u38 u39 u40 u41 u42 u43 u44 u45 u46 u47 u48 u49 u50 u51 u52 u53 u54 u55 u56 u57 u58 u59 u60 u61 u62 u63 u64 u65 u66 u67 u68 u69 u70 u71 u72 u73 u74 u75 u76 u77 u78 u79 u80 u81 u82 u83 u84 u85 u86 u87 u88 u89 u90 u91 u92 u93 u94 u95 u96 u97 u98 u99 u100 u101 u102 u103 u104 : Value) (Q0 : Exit → Act → World → Prop) (w : World) (hv : v.length = 16) (hsz : nonce.size = 12) (hB : Blk w g 72 (wds .i64 v))
    (hexit : ∀ (x40 x41 x42 x43 x44 x45 x46 x47 x48 x49 x50 : Value) (w' : World), Blk w' g 72 (wds .i64 (fillN (fun i => wordAt nonce (4 * i)) 13 3 v)) ∧ Below g w w' → Q0 (.exit 4) ⟨List.toArray ((.string key) :: (.string nonce) :: (.int .i64 count) :: u3 :: u4 :: u5 :: u6 :: (.pointer (some ⟨g, 0, none⟩)) :: u8 :: u9 :: (.int .i64 3) :: u11 :: u12 :: u13 :: u14 :: u15 :: u16 :: u17 :: u18 :: u19 :: u20 :: u21 :: u22 :: u23 :: u24 :: u25 :: u26 :: u27 :: u28 :: u29 :: u30 :: u31 :: u32 :: u33 :: u34 :: u35 :: u36 :: u37 :: u38 :: u39 :: x40 :: x41 :: x42 :: x43 :: x44 :: x45 :: x46 :: x47 :: x48 :: x49 :: x50 :: u51 :: u52 :: u53 :: u54 :: u55 :: u56 :: u57 :: u58 :: u59 :: u60 :: u61 :: u62 :: u63 :: u64 :: u65 :: u66 :: u67 :: u68 :: u69 :: u70 :: u71 :: u72 :: u73 :: u74 :: u75 :: u76 :: u77 :: u78 :: u79 :: u80 :: u81 :: u82 :: u83 :: u84 :: u85 :: u86 :: u87 :: u88 :: u89 :: u90 :: u91 :: u92 :: u93 :: u94 :: u95 :: u96 :: u97 :: u98 :: u99 :: u100 :: u101 :: u102 :: u103 :: u104 :: []), []⟩ w') :
    Code.wp Try.prog (loopNo Try.f45 2) Q0 ⟨List.toArray ((.string key) :: (.string nonce) :: (.int .i64 count) :: u3 :: u4 :: u5 :: u6 :: (.pointer (some ⟨g, 0, none⟩)) :: u8 :: u9 :: (.int .i64 0) :: u11 :: u12 :: u13 :: u14 :: u15 :: u16 :: u17 :: u18 :: u19 :: u20 :: u21 :: u22 :: u23 :: u24 :: u25 :: u26 :: u27 :: u28 :: u29 :: u30 :: u31 :: u32 :: u33 :: u34 :: u35 :: u36 :: u37 :: u38 :: u39 :: u40 :: u41 :: u42 :: u43 :: u44 :: u45 :: u46 :: u47 :: u48 :: u49 :: u50 :: u51 :: u52 :: u53 :: u54 :: u55 :: u56 :: u57 :: u58 :: u59 :: u60 :: u61 :: u62 :: u63 :: u64 :: u65 :: u66 :: u67 :: u68 :: u69 :: u70 :: u71 :: u72 :: u73 :: u74 :: u75 :: u76 :: u77 :: u78 :: u79 :: u80 :: u81 :: u82 :: u83 :: u84 :: u85 :: u86 :: u87 :: u88 :: u89 :: u90 :: u91 :: u92 :: u93 :: u94 :: u95 :: u96 :: u97 :: u98 :: u99 :: u100 :: u101 :: u102 :: u103 :: u104 :: []), []⟩ w := by
  conv => arg 2; whnf
  have HX := Lib.hid hexit
  clear hexit
  go_loopg [10] 3 (fun gg s_ wr => ∃ i : Nat, s_ = .int .i64 i ∧ i ≤ 3 ∧ 3 ≤ gg + i ∧ Aside0 (Blk wr g 72 (wds .i64 (fillN (fun i => wordAt nonce (4 * i)) 13 i v))) ∧ Aside0 (Below g w wr))
  case atStart => exact ⟨0, rfl, by omega, by omega, ⟨hB⟩, ⟨Below.refl _ _⟩⟩
  case round =>
    obtain ⟨i, rfl, hi, hg, HB, HL⟩ := hrel
    by_cases hlt : i < 3
    · have c1 : decide ((i : Int) < 3) = true := decide_eq_true (by omega)
      have hw := fun W => spec_l02Word.calls nonce (4 * (i : Int)) _ W (l02Word_some nonce (4 * i) (by omega) (by omega))
      have m4 := mul4 i (by omega)
      rw [show ((4 * i : Nat) : Int) = 4 * (i : Int) by omega] at m4
      have x1 := HB.out.wat (13 + i) (by rw [fillN_length, hv]; omega)
      have n1 : (13 + (i : Int)).toNat = 13 + i := by omega
      have n2 : (0 ≤ 13 + (i : Int)) = True := eq_true (by omega)
      have n3 : (13 + (i : Int) < 16) = True := eq_true (by omega)
      have n4 := wadd 13 i (by decide) (by decide) (by omega)
      have B1 := fun m => Aside0.mk ((HB.out.drewN m).wset (13 + i) (wordAt nonce (4 * i)))
      have L1 := fun m => Aside0.mk ((Below_drewN HL.out m).setCell (p := ⟨g, 13 + i, none⟩) (Nat.le_refl _) (.int .i64 (wordAt nonce (4 * i))))
      clear HB HL
      go_wp2_with (go_at_call 75; with_reducible refine (hw _).mono ?_; rintro e w1 ⟨rfl, ⟨m1, rfl⟩⟩)
      go_roundg (3 - (i + 1))
      case measure => omega
      case rel => exact ⟨i + 1, by go_num, by omega, by omega, B1 _, L1 _⟩
    · have c1 : decide ((i : Int) < 3) = false := decide_eq_false (by omega)
      obtain rfl : i = 3 := by omega
      go_wp2
      have P1 := HB.out
      have P2 := HL.out
      refine HX.out _ _ _ _ _ _ _ _ _ _ _ _ ?_
      exact ⟨P1, P2⟩


set_option maxRecDepth 1000000 in
set_option maxHeartbeats 16000000 in
theorem loop4_wp (gv : Nat) (v : List Nat) (u0 u1 u2 u3 u4 u5 u6 u7 u8 u9 u10 u12 u14 u15 u16 u17 u18 u19 u20 u21 u22 u23 u24 u25 u26 u27 u28 u29 u30 u31 u32 u33 u34 u35 u36 u37 u38 u39 u40 u41 u42 u43 u44 u45 u46 u47 u48 u49 u50 u51 u52 u53 u54 u55 u56 u57 u58 u59 u60 u61 u62 u63 u64 u65 u66 u67 u68 u69 u70 u71 u72 u73 u74 u75 u76 u77 u78 u79 u80 u81 u82 u83 u84 u85 u86 u87 u88 u89 u90 u91 u92 u93 u94 u95 u96 u97 u98 u99 u100 u101 u102 u103 u104 : Value) (Q0 : Exit → Act → World → Prop) (w : World) (hv : W16 v) (hB : Blk w gv 72 (wds .i64 v))
    (hexit : ∀ (x56 x57 x58 x59 x60 x61 x62 x63 x64 x65 x66 x67 x68 : Value) (w' : World), Blk w' gv 72 (wds .i64 (halfA v 4)) ∧ Below gv w w' → Q0 (.exit 8) ⟨List.toArray (u0 :: u1 :: u2 :: u3 :: u4 :: u5 :: u6 :: u7 :: u8 :: u9 :: u10 :: (.pointer (some ⟨gv, 0, none⟩)) :: u12 :: (.int .i64 4) :: u14 :: u15 :: u16 :: u17 :: u18 :: u19 :: u20 :: u21 :: u22 :: u23 :: u24 :: u25 :: u26 :: u27 :: u28 :: u29 :: u30 :: u31 :: u32 :: u33 :: u34 :: u35 :: u36 :: u37 :: u38 :: u39 :: u40 :: u41 :: u42 :: u43 :: u44 :: u45 :: u46 :: u47 :: u48 :: u49 :: u50 :: u51 :: u52 :: u53 :: u54 :: u55 :: x56 :: x57 :: x58 :: x59 :: x60 :: x61 :: x62 :: x63 :: x64 :: x65 :: x66 :: x67 :: x68 :: u69 :: u70 :: u71 :: u72 :: u73 :: u74 :: u75 :: u76 :: u77 :: u78 :: u79 :: u80 :: u81 :: u82 :: u83 :: u84 :: u85 :: u86 :: u87 :: u88 :: u89 :: u90 :: u91 :: u92 :: u93 :: u94 :: u95 :: u96 :: u97 :: u98 :: u99 :: u100 :: u101 :: u102 :: u103 :: u104 :: []), []⟩ w') :
    Code.wp Try.prog (loopNo Try.f45 4) Q0 ⟨List.toArray (u0 :: u1 :: u2 :: u3 :: u4 :: u5 :: u6 :: u7 :: u8 :: u9 :: u10 :: (.pointer (some ⟨gv, 0, none⟩)) :: u12 :: (.int .i64 0) :: u14 :: u15 :: u16 :: u17 :: u18 :: u19 :: u20 :: u21 :: u22 :: u23 :: u24 :: u25 :: u26 :: u27 :: u28 :: u29 :: u30 :: u31 :: u32 :: u33 :: u34 :: u35 :: u36 :: u37 :: u38 :: u39 :: u40 :: u41 :: u42 :: u43 :: u44 :: u45 :: u46 :: u47 :: u48 :: u49 :: u50 :: u51 :: u52 :: u53 :: u54 :: u55 :: u56 :: u57 :: u58 :: u59 :: u60 :: u61 :: u62 :: u63 :: u64 :: u65 :: u66 :: u67 :: u68 :: u69 :: u70 :: u71 :: u72 :: u73 :: u74 :: u75 :: u76 :: u77 :: u78 :: u79 :: u80 :: u81 :: u82 :: u83 :: u84 :: u85 :: u86 :: u87 :: u88 :: u89 :: u90 :: u91 :: u92 :: u93 :: u94 :: u95 :: u96 :: u97 :: u98 :: u99 :: u100 :: u101 :: u102 :: u103 :: u104 :: []), []⟩ w := by
  conv => arg 2; whnf
  have HX := Lib.hid hexit
  clear hexit
  go_loopg [13] 4 (fun gg s_ wr => ∃ k : Nat, s_ = .int .i64 k ∧ k ≤ 4 ∧ 4 ≤ gg + k ∧ Aside0 (Blk wr gv 72 (wds .i64 (halfA v k))) ∧ Aside0 (Below gv w wr))
  case atStart => exact ⟨0, rfl, by omega, by omega, ⟨hB⟩, ⟨Below.refl _ _⟩⟩
  case round =>
    obtain ⟨k, rfl, hi, hg, HB, HL⟩ := hrel
    by_cases hlt : k < 4
    · have c1 : decide ((k : Int) < 4) = true := decide_eq_true (by omega)
      have hR := roundA_at v hv k hlt
      have HU := Lib.hid (hv.halfA k).1
      have HU1 := Lib.hid (hv.halfA (k + 1)).1
      have n4 := wadd 4 k (by decide) (by decide) (by omega)
      have n8 := wadd 8 k (by decide) (by decide) (by omega)
      have n12 := wadd 12 k (by decide) (by decide) (by omega)
      go_wp2_with (first | (refine wpList_load_row rfl 72 _ rfl gv rfl 72 (wds .i64 (halfA v k)) (0, 0) _ HB.out Try.underlying72 rfl (info16 HU.out) ?_) | (go_at_call 76; with_reducible refine (hR _).mono ?_; rintro e w1 ⟨rfl, hb1⟩; replace hb1 := Aside0.mk hb1) | (refine wpList_store_row rfl 72 _ _ rfl gv (wds .i64 (halfA v (k + 1))) rfl rfl 72 _ (HB.out.below hb1.out) (info16 HU1.out) (size16 HU.out HU1.out) (wds_one _ _) ?_))
      have B1 := Aside0.mk ((HB.out.below hb1.out).row (wds .i64 (halfA v (k + 1))))
      have L1 := Aside0.mk (below_setRow (HL.out.trans (hb1.out.mono (Nat.le_of_lt HB.out.lt))) (Nat.le_refl gv) (wds .i64 (halfA v (k + 1))))
      clear HB HL hb1
      go_roundg (4 - (k + 1))
      case measure => omega
      case rel => exact ⟨k + 1, by go_num, by omega, by omega, B1, L1⟩
    · have c1 : decide ((k : Int) < 4) = false := decide_eq_false (by omega)
      obtain rfl : k = 4 := by omega
      go_wp2
      have P1 := HB.out
      have P2 := HL.out
      refine HX.out _ _ _ _ _ _ _ _ _ _ _ _ _ _ ?_
      exact ⟨P1, P2⟩


set_option maxRecDepth 1000000 in
set_option maxHeartbeats 16000000 in
theorem loop5_wp (gv : Nat) (v : List Nat) (u0 u1 u2 u3 u4 u5 u6 u7 u8 u9 u10 u12 u13 u15 u16 u17 u18 u19 u20 u21 u22 u23 u24 u25 u26 u27 u28 u29 u30 u31 u32 u33 u34 u35 u36 u37 u38 u39 u40 u41 u42 u43 u44 u45 u46 u47 u48 u49 u50 u51 u52 u53 u54 u55 u56 u57 u58 u59 u60 u61 u62 u63 u64 u65 u66 u67 u68 u69 u70 u71 u72 u73 u74 u75 u76 u77 u78 u79 u80 u81 u82 u83 u84 u85 u86 u87 u88 u89 u90 u91 u92 u93 u94 u95 u96 u97 u98 u99 u100 u101 u102 u103 u104 : Value) (Q0 : Exit → Act → World → Prop) (w : World) (hv : W16 v) (hB : Blk w gv 72 (wds .i64 v))
    (hexit : ∀ (x69 x70 x71 x72 x73 x74 x75 x76 x77 x78 x79 x80 x81 x82 x83 x84 x85 x86 x87 : Value) (w' : World), Blk w' gv 72 (wds .i64 (halfB v 4)) ∧ Below gv w w' → Q0 (.exit 10) ⟨List.toArray (u0 :: u1 :: u2 :: u3 :: u4 :: u5 :: u6 :: u7 :: u8 :: u9 :: u10 :: (.pointer (some ⟨gv, 0, none⟩)) :: u12 :: u13 :: (.int .i64 4) :: u15 :: u16 :: u17 :: u18 :: u19 :: u20 :: u21 :: u22 :: u23 :: u24 :: u25 :: u26 :: u27 :: u28 :: u29 :: u30 :: u31 :: u32 :: u33 :: u34 :: u35 :: u36 :: u37 :: u38 :: u39 :: u40 :: u41 :: u42 :: u43 :: u44 :: u45 :: u46 :: u47 :: u48 :: u49 :: u50 :: u51 :: u52 :: u53 :: u54 :: u55 :: u56 :: u57 :: u58 :: u59 :: u60 :: u61 :: u62 :: u63 :: u64 :: u65 :: u66 :: u67 :: u68 :: x69 :: x70 :: x71 :: x72 :: x73 :: x74 :: x75 :: x76 :: x77 :: x78 :: x79 :: x80 :: x81 :: x82 :: x83 :: x84 :: x85 :: x86 :: x87 :: u88 :: u89 :: u90 :: u91 :: u92 :: u93 :: u94 :: u95 :: u96 :: u97 :: u98 :: u99 :: u100 :: u101 :: u102 :: u103 :: u104 :: []), []⟩ w') :
    Code.wp Try.prog (loopNo Try.f45 5) Q0 ⟨List.toArray (u0 :: u1 :: u2 :: u3 :: u4 :: u5 :: u6 :: u7 :: u8 :: u9 :: u10 :: (.pointer (some ⟨gv, 0, none⟩)) :: u12 :: u13 :: (.int .i64 0) :: u15 :: u16 :: u17 :: u18 :: u19 :: u20 :: u21 :: u22 :: u23 :: u24 :: u25 :: u26 :: u27 :: u28 :: u29 :: u30 :: u31 :: u32 :: u33 :: u34 :: u35 :: u36 :: u37 :: u38 :: u39 :: u40 :: u41 :: u42 :: u43 :: u44 :: u45 :: u46 :: u47 :: u48 :: u49 :: u50 :: u51 :: u52 :: u53 :: u54 :: u55 :: u56 :: u57 :: u58 :: u59 :: u60 :: u61 :: u62 :: u63 :: u64 :: u65 :: u66 :: u67 :: u68 :: u69 :: u70 :: u71 :: u72 :: u73 :: u74 :: u75 :: u76 :: u77 :: u78 :: u79 :: u80 :: u81 :: u82 :: u83 :: u84 :: u85 :: u86 :: u87 :: u88 :: u89 :: u90 :: u91 :: u92 :: u93 :: u94 :: u95 :: u96 :: u97 :: u98 :: u99 :: u100 :: u101 :: u102 :: u103 :: u104 :: []), []⟩ w := by
  conv => arg 2; whnf
  have HX := Lib.hid hexit
  clear hexit
  go_loopg [14] 4 (fun gg s_ wr => ∃ k : Nat, s_ = .int .i64 k ∧ k ≤ 4 ∧ 4 ≤ gg + k ∧ Aside0 (Blk wr gv 72 (wds .i64 (halfB v k))) ∧ Aside0 (Below gv w wr))
  case atStart => exact ⟨0, rfl, by omega, by omega, ⟨hB⟩, ⟨Below.refl _ _⟩⟩
  case round =>
    obtain ⟨k, rfl, hi, hg, HB, HL⟩ := hrel
    by_cases hlt : k < 4
    · have c1 : decide ((k : Int) < 4) = true := decide_eq_true (by omega)
      obtain rfl | rfl | rfl | rfl : k = 0 ∨ k = 1 ∨ k = 2 ∨ k = 3 := by omega
      · have hR : ∀ W, Calls Try.prog 76 #[.agg (wds .i64 (halfB v 0)), .int .i64 0, .int .i64 5, .int .i64 10, .int .i64 15] W fun e w' => e = .returned (.agg (wds .i64 (halfB v (0 + 1)))) ∧ Below W.heap.size W w' := roundB_at v hv 0 (by decide)
        have HU := Lib.hid (hv.halfB 0).1
        have HU1 := Lib.hid (hv.halfB (0 + 1)).1
        generalize hxk : halfB v 0 = xk at hR HU HB
        generalize hxl : halfB v (0 + 1) = xl at hR HU1
        replace hxl := Lib.hid hxl
        clear hxk
        go_wp2_with (first | (refine wpList_load_row rfl 72 _ rfl gv rfl 72 (wds .i64 xk) (0, 0) _ HB.out Try.underlying72 rfl (info16 HU.out) ?_) | (go_at_call 76; with_reducible refine (hR _).mono ?_; rintro e w1 ⟨rfl, hb1⟩; replace hb1 := Aside0.mk hb1) | (refine wpList_store_row rfl 72 _ _ rfl gv (wds .i64 xl) rfl rfl 72 _ (HB.out.below hb1.out) (info16 HU1.out) (size16 HU.out HU1.out) (wds_one _ _) ?_))
        have B1 := Aside0.mk ((HB.out.below hb1.out).row (wds .i64 xl))
        have L1 := Aside0.mk (below_setRow (HL.out.trans (hb1.out.mono (Nat.le_of_lt HB.out.lt))) (Nat.le_refl gv) (wds .i64 xl))
        clear HB HL hb1
        rw [← hxl.out] at B1 L1 ⊢
        go_roundg (4 - (0 + 1))
        case measure => omega
        case rel => exact ⟨0 + 1, by go_num, by omega, by omega, B1, L1⟩
      · have hR : ∀ W, Calls Try.prog 76 #[.agg (wds .i64 (halfB v 1)), .int .i64 1, .int .i64 6, .int .i64 11, .int .i64 12] W fun e w' => e = .returned (.agg (wds .i64 (halfB v (1 + 1)))) ∧ Below W.heap.size W w' := roundB_at v hv 1 (by decide)
        have HU := Lib.hid (hv.halfB 1).1
        have HU1 := Lib.hid (hv.halfB (1 + 1)).1
        generalize hxk : halfB v 1 = xk at hR HU HB
        generalize hxl : halfB v (1 + 1) = xl at hR HU1
        replace hxl := Lib.hid hxl
        clear hxk
        go_wp2_with (first | (refine wpList_load_row rfl 72 _ rfl gv rfl 72 (wds .i64 xk) (0, 0) _ HB.out Try.underlying72 rfl (info16 HU.out) ?_) | (go_at_call 76; with_reducible refine (hR _).mono ?_; rintro e w1 ⟨rfl, hb1⟩; replace hb1 := Aside0.mk hb1) | (refine wpList_store_row rfl 72 _ _ rfl gv (wds .i64 xl) rfl rfl 72 _ (HB.out.below hb1.out) (info16 HU1.out) (size16 HU.out HU1.out) (wds_one _ _) ?_))
        have B1 := Aside0.mk ((HB.out.below hb1.out).row (wds .i64 xl))
        have L1 := Aside0.mk (below_setRow (HL.out.trans (hb1.out.mono (Nat.le_of_lt HB.out.lt))) (Nat.le_refl gv) (wds .i64 xl))
        clear HB HL hb1
        rw [← hxl.out] at B1 L1 ⊢
        go_roundg (4 - (1 + 1))
        case measure => omega
        case rel => exact ⟨1 + 1, by go_num, by omega, by omega, B1, L1⟩
      · have hR : ∀ W, Calls Try.prog 76 #[.agg (wds .i64 (halfB v 2)), .int .i64 2, .int .i64 7, .int .i64 8, .int .i64 13] W fun e w' => e = .returned (.agg (wds .i64 (halfB v (2 + 1)))) ∧ Below W.heap.size W w' := roundB_at v hv 2 (by decide)
        have HU := Lib.hid (hv.halfB 2).1
        have HU1 := Lib.hid (hv.halfB (2 + 1)).1
        generalize hxk : halfB v 2 = xk at hR HU HB
        generalize hxl : halfB v (2 + 1) = xl at hR HU1
        replace hxl := Lib.hid hxl
        clear hxk
        go_wp2_with (first | (refine wpList_load_row rfl 72 _ rfl gv rfl 72 (wds .i64 xk) (0, 0) _ HB.out Try.underlying72 rfl (info16 HU.out) ?_) | (go_at_call 76; with_reducible refine (hR _).mono ?_; rintro e w1 ⟨rfl, hb1⟩; replace hb1 := Aside0.mk hb1) | (refine wpList_store_row rfl 72 _ _ rfl gv (wds .i64 xl) rfl rfl 72 _ (HB.out.below hb1.out) (info16 HU1.out) (size16 HU.out HU1.out) (wds_one _ _) ?_))
        have B1 := Aside0.mk ((HB.out.below hb1.out).row (wds .i64 xl))
        have L1 := Aside0.mk (below_setRow (HL.out.trans (hb1.out.mono (Nat.le_of_lt HB.out.lt))) (Nat.le_refl gv) (wds .i64 xl))
        clear HB HL hb1
        rw [← hxl.out] at B1 L1 ⊢
        go_roundg (4 - (2 + 1))
        case measure => omega
        case rel => exact ⟨2 + 1, by go_num, by omega, by omega, B1, L1⟩
      · have hR : ∀ W, Calls Try.prog 76 #[.agg (wds .i64 (halfB v 3)), .int .i64 3, .int .i64 4, .int .i64 9, .int .i64 14] W fun e w' => e = .returned (.agg (wds .i64 (halfB v (3 + 1)))) ∧ Below W.heap.size W w' := roundB_at v hv 3 (by decide)
        have HU := Lib.hid (hv.halfB 3).1
        have HU1 := Lib.hid (hv.halfB (3 + 1)).1
        generalize hxk : halfB v 3 = xk at hR HU HB
        generalize hxl : halfB v (3 + 1) = xl at hR HU1
        replace hxl := Lib.hid hxl
        clear hxk
        go_wp2_with (first | (refine wpList_load_row rfl 72 _ rfl gv rfl 72 (wds .i64 xk) (0, 0) _ HB.out Try.underlying72 rfl (info16 HU.out) ?_) | (go_at_call 76; with_reducible refine (hR _).mono ?_; rintro e w1 ⟨rfl, hb1⟩; replace hb1 := Aside0.mk hb1) | (refine wpList_store_row rfl 72 _ _ rfl gv (wds .i64 xl) rfl rfl 72 _ (HB.out.below hb1.out) (info16 HU1.out) (size16 HU.out HU1.out) (wds_one _ _) ?_))
        have B1 := Aside0.mk ((HB.out.below hb1.out).row (wds .i64 xl))
        have L1 := Aside0.mk (below_setRow (HL.out.trans (hb1.out.mono (Nat.le_of_lt HB.out.lt))) (Nat.le_refl gv) (wds .i64 xl))
        clear HB HL hb1
        rw [← hxl.out] at B1 L1 ⊢
        go_roundg (4 - (3 + 1))
        case measure => omega
        case rel => exact ⟨3 + 1, by go_num, by omega, by omega, B1, L1⟩
    · have c1 : decide ((k : Int) < 4) = false := decide_eq_false (by omega)
      obtain rfl : k = 4 := by omega
      go_wp2
      have P1 := HB.out
      have P2 := HL.out
      refine HX.out _ _ _ _ _ _ _ _ _ _ _ _ _ _ _ _ _ _ _ _ ?_
      exact ⟨P1, P2⟩


end Go.Proofs.Ytihpnededldedaa.Leaf
