/- The reference's block of the digest. Conditions: words of 32 bits, sixty-four bytes at least. -/
import Derived.Test.YtajbljegeiebjaaSha1
import Derived.Test.YtajbljegeiebjaaLoop
import Derived.Deep.RegionHeld3
import Derived.StillTailTactics
import Derived.Great.BuildSlice
namespace Go.Proofs.Ytajbljegeiebjaa.Leaf

/-! The loops of the reference's block of the digest, each in a declaration of its own. Conditions: lengths. -/
section
open Go.RowKit Go.Shelf Go.Proofs.YtajbljegeiebjaaW.PrintWords Go.Proofs.YtajbljegeiebjaaW.PrintLast Go.Proofs.YtajbljegeiebjaaW.PrintMore Go.Proofs.Ytajbljegeiebjaa.PSha

set_option maxRecDepth 1000000 in
set_option maxHeartbeats 16000000 in
theorem sha0_wp (t : ByteArray) (g : Nat) (v : List Nat) (u0 u2 u3 u4 u7 u8 u9 u10 u11 u12 u13 u14 u15 u16 u17 u18 u19 u20 u21 u22 u23 u24 u25 u26 u27 u28 u29 u30 u31 u32 u33 u34 u35 u36 u37 u38 u39 u40 u41 u42 u43 u44 u45 u46 u47 u48 u49 u50 u51 u52 u53 u54 u55 u56 u57 u58 u59 u60 u61 u62 u63 u64 u65 u66 u67 u68 u69 u70 u71 u72 u73 u74 u75 u76 u77 u78 u79 u80 u81 u82 u83 u84 u85 u86 u87 u88 u89 u90 u91 u92 u93 u94 u95 u96 u97 u98 u99 u100 u101 u102 u103 u104 u105 u106 u107 u108 u109 u110 u111 u112 u113 u114 u115 u116 u117 u118 u119 u120 u121 u122 u123 u124 u125 u126 u127 u128 u129 u130 u131 u132 u133 u134 u135 u136 u137 u138 u139 u140 u141 u142 u143 u144 u145 u146 u147 u148 u149 u150 u151 u152 u153 u154 u155 u156 u157 u158 u159 u160 u161 u162 u163 u164 u165 u166 u167 u168 u169 u170 u171 u172 u173 u174 u175 u176 u177 u178 u179 u180 u181 u182 u183 u184 u185 u186 u187 u188 u189 u190 u191 u192 u193 : Value) (Q0 : Exit → Act → World → Prop) (w : World) (hv : v.length = 64) (hsz : 64 ≤ t.size) (hsz2 : t.size ≤ 2000000) (hB : Blk w g 84 (wds .i64 v))
    (hexit : ∀ (x20 x21 x22 x23 x24 x25 x26 x27 x28 x29 : Value) (w' : World), Blk w' g 84 (wds .i64 (fillN (fun i => wordBE t (4 * i)) 0 16 v)) ∧ Below g w w' → Q0 (.exit 0) ⟨List.toArray (u0 :: (.string t) :: u2 :: u3 :: u4 :: (.pointer (some ⟨g, 0, none⟩)) :: (.int .i64 16) :: u7 :: u8 :: u9 :: u10 :: u11 :: u12 :: u13 :: u14 :: u15 :: u16 :: u17 :: u18 :: u19 :: x20 :: x21 :: x22 :: x23 :: x24 :: x25 :: x26 :: x27 :: x28 :: x29 :: u30 :: u31 :: u32 :: u33 :: u34 :: u35 :: u36 :: u37 :: u38 :: u39 :: u40 :: u41 :: u42 :: u43 :: u44 :: u45 :: u46 :: u47 :: u48 :: u49 :: u50 :: u51 :: u52 :: u53 :: u54 :: u55 :: u56 :: u57 :: u58 :: u59 :: u60 :: u61 :: u62 :: u63 :: u64 :: u65 :: u66 :: u67 :: u68 :: u69 :: u70 :: u71 :: u72 :: u73 :: u74 :: u75 :: u76 :: u77 :: u78 :: u79 :: u80 :: u81 :: u82 :: u83 :: u84 :: u85 :: u86 :: u87 :: u88 :: u89 :: u90 :: u91 :: u92 :: u93 :: u94 :: u95 :: u96 :: u97 :: u98 :: u99 :: u100 :: u101 :: u102 :: u103 :: u104 :: u105 :: u106 :: u107 :: u108 :: u109 :: u110 :: u111 :: u112 :: u113 :: u114 :: u115 :: u116 :: u117 :: u118 :: u119 :: u120 :: u121 :: u122 :: u123 :: u124 :: u125 :: u126 :: u127 :: u128 :: u129 :: u130 :: u131 :: u132 :: u133 :: u134 :: u135 :: u136 :: u137 :: u138 :: u139 :: u140 :: u141 :: u142 :: u143 :: u144 :: u145 :: u146 :: u147 :: u148 :: u149 :: u150 :: u151 :: u152 :: u153 :: u154 :: u155 :: u156 :: u157 :: u158 :: u159 :: u160 :: u161 :: u162 :: u163 :: u164 :: u165 :: u166 :: u167 :: u168 :: u169 :: u170 :: u171 :: u172 :: u173 :: u174 :: u175 :: u176 :: u177 :: u178 :: u179 :: u180 :: u181 :: u182 :: u183 :: u184 :: u185 :: u186 :: u187 :: u188 :: u189 :: u190 :: u191 :: u192 :: u193 :: []), []⟩ w') :
    Code.wp Try.prog (loopNo Try.f67 0) Q0 ⟨List.toArray (u0 :: (.string t) :: u2 :: u3 :: u4 :: (.pointer (some ⟨g, 0, none⟩)) :: (.int .i64 0) :: u7 :: u8 :: u9 :: u10 :: u11 :: u12 :: u13 :: u14 :: u15 :: u16 :: u17 :: u18 :: u19 :: u20 :: u21 :: u22 :: u23 :: u24 :: u25 :: u26 :: u27 :: u28 :: u29 :: u30 :: u31 :: u32 :: u33 :: u34 :: u35 :: u36 :: u37 :: u38 :: u39 :: u40 :: u41 :: u42 :: u43 :: u44 :: u45 :: u46 :: u47 :: u48 :: u49 :: u50 :: u51 :: u52 :: u53 :: u54 :: u55 :: u56 :: u57 :: u58 :: u59 :: u60 :: u61 :: u62 :: u63 :: u64 :: u65 :: u66 :: u67 :: u68 :: u69 :: u70 :: u71 :: u72 :: u73 :: u74 :: u75 :: u76 :: u77 :: u78 :: u79 :: u80 :: u81 :: u82 :: u83 :: u84 :: u85 :: u86 :: u87 :: u88 :: u89 :: u90 :: u91 :: u92 :: u93 :: u94 :: u95 :: u96 :: u97 :: u98 :: u99 :: u100 :: u101 :: u102 :: u103 :: u104 :: u105 :: u106 :: u107 :: u108 :: u109 :: u110 :: u111 :: u112 :: u113 :: u114 :: u115 :: u116 :: u117 :: u118 :: u119 :: u120 :: u121 :: u122 :: u123 :: u124 :: u125 :: u126 :: u127 :: u128 :: u129 :: u130 :: u131 :: u132 :: u133 :: u134 :: u135 :: u136 :: u137 :: u138 :: u139 :: u140 :: u141 :: u142 :: u143 :: u144 :: u145 :: u146 :: u147 :: u148 :: u149 :: u150 :: u151 :: u152 :: u153 :: u154 :: u155 :: u156 :: u157 :: u158 :: u159 :: u160 :: u161 :: u162 :: u163 :: u164 :: u165 :: u166 :: u167 :: u168 :: u169 :: u170 :: u171 :: u172 :: u173 :: u174 :: u175 :: u176 :: u177 :: u178 :: u179 :: u180 :: u181 :: u182 :: u183 :: u184 :: u185 :: u186 :: u187 :: u188 :: u189 :: u190 :: u191 :: u192 :: u193 :: []), []⟩ w := by
  conv => arg 2; whnf
  have HX := Lib.hid hexit
  clear hexit
  go_loopg [6] 16 (fun gg s_ wr => ∃ i : Nat, s_ = .int .i64 i ∧ i ≤ 16 ∧ 16 ≤ gg + i ∧ Aside0 (Blk wr g 84 (wds .i64 (fillN (fun i => wordBE t (4 * i)) 0 i v))) ∧ Aside0 (Below g w wr))
  case atStart => exact ⟨0, rfl, by omega, by omega, ⟨hB⟩, ⟨Below.refl _ _⟩⟩
  case round =>
    obtain ⟨i, rfl, hi, hg, HB, HL⟩ := hrel
    by_cases hlt : i < 16
    · have c1 : decide ((i : Int) < 16) = true := decide_eq_true (by omega)
      have hw := fun W => spec_l01Word.calls t (4 * (i : Int)) _ W (l01Word_some t (4 * i) (by omega) (by omega))
      have m4 : wrap64 (4 * (i : Int)) = 4 * (i : Int) := by unfold wrap64; omega
      have x1 := HB.out.wat i (by rw [fillN_length, hv]; omega)
      have B1 := fun m => Aside0.mk ((HB.out.drewN m).wset i (wordBE t (4 * i)))
      have L1 := fun m => Aside0.mk ((Below_drewN HL.out m).setCell (p := ⟨g, i, none⟩) (Nat.le_refl _) (.int .i64 (wordBE t (4 * i))))
      clear HB HL
      go_wp2_with (go_at_call 80; with_reducible refine (hw _).mono ?_; rintro e w1 ⟨rfl, ⟨m1, rfl⟩⟩)
      go_roundg (16 - (i + 1))
      case measure => omega
      case rel => exact ⟨i + 1, by go_num, by omega, by omega, ⟨by simpa [fillN] using (B1 _).out⟩, L1 _⟩
    · have c1 : decide ((i : Int) < 16) = false := decide_eq_false (by omega)
      obtain rfl : i = 16 := by omega
      go_wp2
      have P1 := HB.out
      have P2 := HL.out
      refine HX.out _ _ _ _ _ _ _ _ _ _ _ ?_
      exact ⟨P1, P2⟩


set_option maxRecDepth 1000000 in
set_option maxHeartbeats 16000000 in
theorem sha1_wp (g : Nat) (v : List Nat) (u0 u1 u2 u3 u4 u6 u8 u9 u10 u11 u12 u13 u14 u15 u16 u17 u18 u19 u20 u21 u22 u23 u24 u25 u26 u27 u28 u29 u30 u31 u32 u33 u34 u35 u36 u37 u38 u39 u40 u41 u42 u43 u44 u45 u46 u47 u48 u49 u50 u51 u52 u53 u54 u55 u56 u57 u58 u59 u60 u61 u62 u63 u64 u65 u66 u67 u68 u69 u70 u71 u72 u73 u74 u75 u76 u77 u78 u79 u80 u81 u82 u83 u84 u85 u86 u87 u88 u89 u90 u91 u92 u93 u94 u95 u96 u97 u98 u99 u100 u101 u102 u103 u104 u105 u106 u107 u108 u109 u110 u111 u112 u113 u114 u115 u116 u117 u118 u119 u120 u121 u122 u123 u124 u125 u126 u127 u128 u129 u130 u131 u132 u133 u134 u135 u136 u137 u138 u139 u140 u141 u142 u143 u144 u145 u146 u147 u148 u149 u150 u151 u152 u153 u154 u155 u156 u157 u158 u159 u160 u161 u162 u163 u164 u165 u166 u167 u168 u169 u170 u171 u172 u173 u174 u175 u176 u177 u178 u179 u180 u181 u182 u183 u184 u185 u186 u187 u188 u189 u190 u191 u192 u193 : Value) (Q0 : Exit → Act → World → Prop) (w : World) (hv : WN 64 v) (hB : Blk w g 84 (wds .i64 v))
    (hexit : ∀ (x8 x9 x30 x31 x32 x33 x34 x35 x36 x37 x38 x39 x40 x41 x42 x43 x44 x45 x46 x47 x48 x49 x50 x51 x52 x53 x54 x55 x56 x57 x58 x59 x60 x61 x62 x63 x64 x65 x66 x67 x68 x69 x70 x71 x72 x73 x74 x75 x76 x77 x78 x79 x80 x81 x82 x83 : Value) (w' : World), Blk w' g 84 (wds .i64 (schedN v 48)) ∧ Below g w w' → Q0 (.exit 2) ⟨List.toArray (u0 :: u1 :: u2 :: u3 :: u4 :: (.pointer (some ⟨g, 0, none⟩)) :: u6 :: (.int .i64 64) :: x8 :: x9 :: u10 :: u11 :: u12 :: u13 :: u14 :: u15 :: u16 :: u17 :: u18 :: u19 :: u20 :: u21 :: u22 :: u23 :: u24 :: u25 :: u26 :: u27 :: u28 :: u29 :: x30 :: x31 :: x32 :: x33 :: x34 :: x35 :: x36 :: x37 :: x38 :: x39 :: x40 :: x41 :: x42 :: x43 :: x44 :: x45 :: x46 :: x47 :: x48 :: x49 :: x50 :: x51 :: x52 :: x53 :: x54 :: x55 :: x56 :: x57 :: x58 :: x59 :: x60 :: x61 :: x62 :: x63 :: x64 :: x65 :: x66 :: x67 :: x68 :: x69 :: x70 :: x71 :: x72 :: x73 :: x74 :: x75 :: x76 :: x77 :: x78 :: x79 :: x80 :: x81 :: x82 :: x83 :: u84 :: u85 :: u86 :: u87 :: u88 :: u89 :: u90 :: u91 :: u92 :: u93 :: u94 :: u95 :: u96 :: u97 :: u98 :: u99 :: u100 :: u101 :: u102 :: u103 :: u104 :: u105 :: u106 :: u107 :: u108 :: u109 :: u110 :: u111 :: u112 :: u113 :: u114 :: u115 :: u116 :: u117 :: u118 :: u119 :: u120 :: u121 :: u122 :: u123 :: u124 :: u125 :: u126 :: u127 :: u128 :: u129 :: u130 :: u131 :: u132 :: u133 :: u134 :: u135 :: u136 :: u137 :: u138 :: u139 :: u140 :: u141 :: u142 :: u143 :: u144 :: u145 :: u146 :: u147 :: u148 :: u149 :: u150 :: u151 :: u152 :: u153 :: u154 :: u155 :: u156 :: u157 :: u158 :: u159 :: u160 :: u161 :: u162 :: u163 :: u164 :: u165 :: u166 :: u167 :: u168 :: u169 :: u170 :: u171 :: u172 :: u173 :: u174 :: u175 :: u176 :: u177 :: u178 :: u179 :: u180 :: u181 :: u182 :: u183 :: u184 :: u185 :: u186 :: u187 :: u188 :: u189 :: u190 :: u191 :: u192 :: u193 :: []), []⟩ w') :
    Code.wp Try.prog (loopNo Try.f67 1) Q0 ⟨List.toArray (u0 :: u1 :: u2 :: u3 :: u4 :: (.pointer (some ⟨g, 0, none⟩)) :: u6 :: (.int .i64 16) :: u8 :: u9 :: u10 :: u11 :: u12 :: u13 :: u14 :: u15 :: u16 :: u17 :: u18 :: u19 :: u20 :: u21 :: u22 :: u23 :: u24 :: u25 :: u26 :: u27 :: u28 :: u29 :: u30 :: u31 :: u32 :: u33 :: u34 :: u35 :: u36 :: u37 :: u38 :: u39 :: u40 :: u41 :: u42 :: u43 :: u44 :: u45 :: u46 :: u47 :: u48 :: u49 :: u50 :: u51 :: u52 :: u53 :: u54 :: u55 :: u56 :: u57 :: u58 :: u59 :: u60 :: u61 :: u62 :: u63 :: u64 :: u65 :: u66 :: u67 :: u68 :: u69 :: u70 :: u71 :: u72 :: u73 :: u74 :: u75 :: u76 :: u77 :: u78 :: u79 :: u80 :: u81 :: u82 :: u83 :: u84 :: u85 :: u86 :: u87 :: u88 :: u89 :: u90 :: u91 :: u92 :: u93 :: u94 :: u95 :: u96 :: u97 :: u98 :: u99 :: u100 :: u101 :: u102 :: u103 :: u104 :: u105 :: u106 :: u107 :: u108 :: u109 :: u110 :: u111 :: u112 :: u113 :: u114 :: u115 :: u116 :: u117 :: u118 :: u119 :: u120 :: u121 :: u122 :: u123 :: u124 :: u125 :: u126 :: u127 :: u128 :: u129 :: u130 :: u131 :: u132 :: u133 :: u134 :: u135 :: u136 :: u137 :: u138 :: u139 :: u140 :: u141 :: u142 :: u143 :: u144 :: u145 :: u146 :: u147 :: u148 :: u149 :: u150 :: u151 :: u152 :: u153 :: u154 :: u155 :: u156 :: u157 :: u158 :: u159 :: u160 :: u161 :: u162 :: u163 :: u164 :: u165 :: u166 :: u167 :: u168 :: u169 :: u170 :: u171 :: u172 :: u173 :: u174 :: u175 :: u176 :: u177 :: u178 :: u179 :: u180 :: u181 :: u182 :: u183 :: u184 :: u185 :: u186 :: u187 :: u188 :: u189 :: u190 :: u191 :: u192 :: u193 :: []), []⟩ w := by
  conv => arg 2; whnf
  have HX := Lib.hid hexit
  clear hexit
  go_loopg [7] 48 (fun gg s_ wr => ∃ (i : Nat) (x : Int), s_ = .int .i64 x ∧ Aside0 (x = (i : Int) + 16) ∧ 16 ≤ x ∧ x ≤ 64 ∧ i ≤ 48 ∧ 48 ≤ gg + i ∧ Aside0 (Blk wr g 84 (wds .i64 (schedN v i))) ∧ Aside0 (Below g w wr))
  case atStart => exact ⟨0, 16, rfl, ⟨by omega⟩, by omega, by omega, by omega, by omega, ⟨hB⟩, ⟨Below.refl _ _⟩⟩
  case round =>
    obtain ⟨i, x, rfl, HI, hx0, hx1, hi, hg, HB, HL⟩ := hrel
    by_cases hlt : i < 48
    · have hu := hv.schedN i
      obtain ⟨u, hue⟩ : ∃ u, schedN v i = u := ⟨_, rfl⟩
      have HU := Lib.hid (show schedN v (i + 1) = u.set (16 + i) ((u.getD i 0 + sig0 (u.getD (i + 1) 0) + u.getD (i + 9) 0 + sig1 (u.getD (i + 14) 0)) % 2 ^ 32) by rw [← hue]; rfl)
      rw [hue] at hu HB
      clear hue
      obtain ⟨p16, p15, p7, p2, r7, r18, q3, x1, sa, r17, r19, q10, x2, sb, n1, n2, n3, n, Hn, hp, ⟨tr7, tr18, tr17, tr19⟩, ⟨tq3, tq10⟩, ⟨tx1, tsa, tx2, tsb⟩, ⟨tn1, tn2, tn3⟩, tn⟩ := sched_step u hu i hlt
      rw [Hn.out] at HU
      obtain ⟨y15, y2, y16, y7, hy, ⟨m15, m2, m16, m7⟩, ⟨z15, z2, z16, z7, z0⟩, ⟨k15, k2, k16, k7, k0⟩, c1⟩ := sched_places i x HI.out hlt
      have SW := fun (W : World) (h : Blk W g 84 (wds .i64 u)) => sched_world h hu.1 i hlt x y15 y2 y16 y7 hy p16 p15 p7 p2 hp
      replace SW := Lib.hid SW
      have C7 := fun W => right_calls tr7 W
      have C18 := fun W => right_calls tr18 W
      have C17 := fun W => right_calls tr17 W
      have C19 := fun W => right_calls tr19 W
      rw [← hy.2.2.2.2] at HU
      clear hy hp Hn tr7 tr18 tr17 tr19 hu
      obtain ⟨_, b15, _, _, _, _, _⟩ := SW.out _ HB.out
      go_wp2
      go_quiet (first | (go_at_call 81; with_reducible exact Calls.quiet_of (C7 _)) | (go_at_call 81; with_reducible exact Calls.quiet_of (C18 _)))
      have HB2 := Aside0.mk (HB.out.drewN nq); have HL2 := Aside0.mk (Below_drewN HL.out nq)
      clear b15 HB HL C7 C18
      generalize wr.drewN nq = wa at HB2 HL2 ⊢
      obtain ⟨_, _, _, b2, _, _, _⟩ := SW.out _ HB2.out
      go_wp2
      go_quiet (first | (go_at_call 81; with_reducible exact Calls.quiet_of (C17 _)) | (go_at_call 81; with_reducible exact Calls.quiet_of (C19 _)))
      have HB3 := Aside0.mk (HB2.out.drewN nq); have HL3 := Aside0.mk (Below_drewN HL2.out nq)
      clear b2 HB2 HL2 C17 C19
      generalize wa.drewN nq = wb at HB3 HL3 ⊢
      obtain ⟨b16, _, b7, _, ⟨b0, hb0⟩, f0, kk⟩ := SW.out _ HB3.out
      obtain ⟨kk1, kk2⟩ := kk (.int .i64 n)
      have B1 := fun m => Aside0.mk ((HB3.out.wset x.toNat n).drewN m)
      have L1 := fun m => Aside0.mk (Below_drewN (HL3.out.setCell (p := ⟨g, x.toNat, none⟩) (Nat.le_refl _) (.int .i64 n)) m)
      clear HB3 HL3
      go_wp2
      go_region_held3 (fun W => W.cell? ⟨g, y16.toNat, none⟩ = some (.int .i64 (p16 : Int)) ∧ W.cell? ⟨g, y7.toNat, none⟩ = some (.int .i64 (p7 : Int))) (go_keep) (fail)
      have B2 := B1 1
      have L2 := L1 1
      rw [← HU.out] at B2
      clear B1 L1 HU kk kk1 kk2 b16 b7 hb0 f0 SW z15 z2 z16 z7 z0 k15 k2 k16 k7 k0 m15 m2 m16 m7 tq3 tq10 tx1 tsa tx2 tsb tn tn1 tn2 tn3
      go_wp2
      go_roundg (48 - (i + 1))
      case measure => omega
      case rel => exact ⟨i + 1, x + 1, rfl, ⟨by have := HI.out; omega⟩, by omega, by have := HI.out; omega, by omega, by omega, B2, L2⟩
    · have c1 : decide (x < 64) = false := decide_eq_false (by have := HI.out; omega)
      obtain rfl : i = 48 := by omega
      obtain rfl : x = 64 := by have := HI.out; omega
      go_wp2
      have P1 := HB.out
      have P2 := HL.out
      refine HX.out _ _ _ _ _ _ _ _ _ _ _ _ _ _ _ _ _ _ _ _ _ _ _ _ _ _ _ _ _ _ _ _ _ _ _ _ _ _ _ _ _ _ _ _ _ _ _ _ _ _ _ _ _ _ _ _ _ ?_
      exact ⟨P1, P2⟩
end

/-! The reference's sixty-four rounds of the digest. Conditions: words of 32 bits. -/
section
open Go.RowKit Go.Shelf Go.Proofs.YtajbljegeiebjaaW.PrintWords Go.Proofs.YtajbljegeiebjaaW.PrintLast Go.Proofs.YtajbljegeiebjaaW.PrintMore Go.Proofs.Ytajbljegeiebjaa.PSha

set_option maxRecDepth 1000000 in
set_option maxHeartbeats 16000000 in
theorem sha2_wp (gw gk gv : Nat) (ks ws v : List Nat) (u0 u1 u2 u3 u4 u6 u7 u8 u9 u13 u14 u15 u16 u17 u18 u19 u20 u21 u22 u23 u24 u25 u26 u27 u28 u29 u30 u31 u32 u33 u34 u35 u36 u37 u38 u39 u40 u41 u42 u43 u44 u45 u46 u47 u48 u49 u50 u51 u52 u53 u54 u55 u56 u57 u58 u59 u60 u61 u62 u63 u64 u65 u66 u67 u68 u69 u70 u71 u72 u73 u74 u75 u76 u77 u78 u79 u80 u81 u82 u83 u84 u85 u86 u87 u88 u89 u90 u91 u92 u93 u94 u95 u96 u97 u98 u99 u100 u101 u102 u103 u104 u105 u106 u107 u108 u109 u110 u111 u112 u113 u114 u115 u116 u117 u118 u119 u120 u121 u122 u123 u124 u125 u126 u127 u128 u129 u130 u131 u132 u133 u134 u135 u136 u137 u138 u139 u140 u141 u142 u143 u144 u145 u146 u147 u148 u149 u150 u151 u152 u153 u154 u155 u156 u157 u158 u159 u160 u161 u162 u163 u164 u165 u166 u167 u168 u169 u170 u171 u172 u173 u174 u175 u176 u177 u178 u179 u180 u181 u182 u183 u184 u185 u186 u187 u188 u189 u190 u191 u192 u193 : Value) (Q0 : Exit → Act → World → Prop) (w : World) (hv : WN 8 v) (hks : WN 64 ks) (hws : WN 64 ws) (hB : Blk w gv 22 (wds .i64 v)) (hK : Blk w gk 84 (wds .i64 ks)) (hW : Blk w gw 84 (wds .i64 ws)) (hgk : gk < gv) (hgw : gw < gv)
    (hexit : ∀ (x13 x14 x15 x16 x17 x86 x87 x88 x89 x90 x91 x92 x93 x94 x95 x96 x97 x98 x99 x100 x101 x102 x103 x104 x105 x106 x107 x108 x109 x110 x111 x112 x113 x114 x115 x116 x117 x118 x119 x120 x121 x122 x123 x124 x125 x126 x127 x128 x129 x130 x131 x132 x133 x134 x135 x136 x137 x138 x139 x140 x141 x142 x143 x144 x145 x146 x147 x148 x149 x150 x151 x152 x153 x154 x155 x156 x157 x158 x159 x160 x161 x162 x163 x164 x165 x166 x167 x168 x169 x170 x171 x172 x173 x174 x175 x176 x177 x178 : Value) (w' : World), Blk w' gv 22 (wds .i64 (roundsN ks ws v 64)) ∧ Below gv w w' → Q0 (.exit 4) ⟨List.toArray (u0 :: u1 :: u2 :: u3 :: u4 :: (.pointer (some ⟨gw, 0, none⟩)) :: u6 :: u7 :: u8 :: u9 :: (.pointer (some ⟨gk, 0, none⟩)) :: (.pointer (some ⟨gv, 0, none⟩)) :: (.int .i64 64) :: x13 :: x14 :: x15 :: x16 :: x17 :: u18 :: u19 :: u20 :: u21 :: u22 :: u23 :: u24 :: u25 :: u26 :: u27 :: u28 :: u29 :: u30 :: u31 :: u32 :: u33 :: u34 :: u35 :: u36 :: u37 :: u38 :: u39 :: u40 :: u41 :: u42 :: u43 :: u44 :: u45 :: u46 :: u47 :: u48 :: u49 :: u50 :: u51 :: u52 :: u53 :: u54 :: u55 :: u56 :: u57 :: u58 :: u59 :: u60 :: u61 :: u62 :: u63 :: u64 :: u65 :: u66 :: u67 :: u68 :: u69 :: u70 :: u71 :: u72 :: u73 :: u74 :: u75 :: u76 :: u77 :: u78 :: u79 :: u80 :: u81 :: u82 :: u83 :: u84 :: u85 :: x86 :: x87 :: x88 :: x89 :: x90 :: x91 :: x92 :: x93 :: x94 :: x95 :: x96 :: x97 :: x98 :: x99 :: x100 :: x101 :: x102 :: x103 :: x104 :: x105 :: x106 :: x107 :: x108 :: x109 :: x110 :: x111 :: x112 :: x113 :: x114 :: x115 :: x116 :: x117 :: x118 :: x119 :: x120 :: x121 :: x122 :: x123 :: x124 :: x125 :: x126 :: x127 :: x128 :: x129 :: x130 :: x131 :: x132 :: x133 :: x134 :: x135 :: x136 :: x137 :: x138 :: x139 :: x140 :: x141 :: x142 :: x143 :: x144 :: x145 :: x146 :: x147 :: x148 :: x149 :: x150 :: x151 :: x152 :: x153 :: x154 :: x155 :: x156 :: x157 :: x158 :: x159 :: x160 :: x161 :: x162 :: x163 :: x164 :: x165 :: x166 :: x167 :: x168 :: x169 :: x170 :: x171 :: x172 :: x173 :: x174 :: x175 :: x176 :: x177 :: x178 :: u179 :: u180 :: u181 :: u182 :: u183 :: u184 :: u185 :: u186 :: u187 :: u188 :: u189 :: u190 :: u191 :: u192 :: u193 :: []), []⟩ w') :
    Code.wp Try.prog (loopNo Try.f67 2) Q0 ⟨List.toArray (u0 :: u1 :: u2 :: u3 :: u4 :: (.pointer (some ⟨gw, 0, none⟩)) :: u6 :: u7 :: u8 :: u9 :: (.pointer (some ⟨gk, 0, none⟩)) :: (.pointer (some ⟨gv, 0, none⟩)) :: (.int .i64 0) :: u13 :: u14 :: u15 :: u16 :: u17 :: u18 :: u19 :: u20 :: u21 :: u22 :: u23 :: u24 :: u25 :: u26 :: u27 :: u28 :: u29 :: u30 :: u31 :: u32 :: u33 :: u34 :: u35 :: u36 :: u37 :: u38 :: u39 :: u40 :: u41 :: u42 :: u43 :: u44 :: u45 :: u46 :: u47 :: u48 :: u49 :: u50 :: u51 :: u52 :: u53 :: u54 :: u55 :: u56 :: u57 :: u58 :: u59 :: u60 :: u61 :: u62 :: u63 :: u64 :: u65 :: u66 :: u67 :: u68 :: u69 :: u70 :: u71 :: u72 :: u73 :: u74 :: u75 :: u76 :: u77 :: u78 :: u79 :: u80 :: u81 :: u82 :: u83 :: u84 :: u85 :: u86 :: u87 :: u88 :: u89 :: u90 :: u91 :: u92 :: u93 :: u94 :: u95 :: u96 :: u97 :: u98 :: u99 :: u100 :: u101 :: u102 :: u103 :: u104 :: u105 :: u106 :: u107 :: u108 :: u109 :: u110 :: u111 :: u112 :: u113 :: u114 :: u115 :: u116 :: u117 :: u118 :: u119 :: u120 :: u121 :: u122 :: u123 :: u124 :: u125 :: u126 :: u127 :: u128 :: u129 :: u130 :: u131 :: u132 :: u133 :: u134 :: u135 :: u136 :: u137 :: u138 :: u139 :: u140 :: u141 :: u142 :: u143 :: u144 :: u145 :: u146 :: u147 :: u148 :: u149 :: u150 :: u151 :: u152 :: u153 :: u154 :: u155 :: u156 :: u157 :: u158 :: u159 :: u160 :: u161 :: u162 :: u163 :: u164 :: u165 :: u166 :: u167 :: u168 :: u169 :: u170 :: u171 :: u172 :: u173 :: u174 :: u175 :: u176 :: u177 :: u178 :: u179 :: u180 :: u181 :: u182 :: u183 :: u184 :: u185 :: u186 :: u187 :: u188 :: u189 :: u190 :: u191 :: u192 :: u193 :: []), []⟩ w := by
  conv => arg 2; whnf
  have HX := Lib.hid hexit
  clear hexit
  have TR : Hid (∀ W, Below gv w W → ∀ i, i < 64 → W.cell? ⟨gk, i, none⟩ = some (.int .i64 ((ks.getD i 0 : Nat) : Int)) ∧ W.cell? ⟨gw, i, none⟩ = some (.int .i64 ((ws.getD i 0 : Nat) : Int))) := Lib.hid (fun W hb i hi =>
    ⟨((hK.move (hb.block gk hgk)).wat i (by rw [hks.1]; exact hi)).1, ((hW.move (hb.block gw hgw)).wat i (by rw [hws.1]; exact hi)).1⟩)
  go_loopg [12] 64 (fun gg s_ wr => ∃ i : Nat, s_ = .int .i64 i ∧ i ≤ 64 ∧ 64 ≤ gg + i ∧ Aside0 (Blk wr gv 22 (wds .i64 (roundsN ks ws v i))) ∧ Aside0 (Below gv w wr))
  case atStart => exact ⟨0, rfl, by omega, by omega, ⟨hB⟩, ⟨Below.refl _ _⟩⟩
  case round =>
    obtain ⟨i, rfl, hi, hg, HB, HL⟩ := hrel
    by_cases hlt : i < 64
    · have c1 : decide ((i : Int) < 64) = true := decide_eq_true (by omega)
      have p0 : (0 ≤ (i : Int)) = True := eq_true (by omega)
      have p1 : ((i : Int) < 64) = True := eq_true (by omega)
      have hu := hv.roundsN ks ws i
      have HU : Hid (roundsN ks ws v (i + 1) = round8 (ks.getD i 0) (ws.getD i 0) (roundsN ks ws v i)) := Lib.hid rfl
      generalize roundsN ks ws v i = u at hu HU HB
      have hT := fun W hb => TR.out W hb i hlt
      have hk := hks.2 i; have hw := hws.2 i
      generalize ks.getD i 0 = k at hT hk HU
      generalize ws.getD i 0 = wd at hT hw HU
      obtain ⟨a0, a1, a2, a3, a4, a5, a6, a7, rfl, ⟨h0, h1, h2, h3⟩, h4, h5, h6, h7⟩ := hu.four
      obtain ⟨r6, r11, r25, x1, s, d1, ne, d2, c, y1, y2, y3, x, r2, r13, r22, x2, r, m1, m2, m3, m4, m, z1, z2, n0, z3, n4, Hn, ⟨tr6, tr11, tr25⟩, ⟨tx1, ts⟩, ⟨td1, tne, td2, tc⟩, ⟨ty1, ty2, ty3, tx⟩, ⟨tr2, tr13, tr22⟩, ⟨tx2, tr⟩, ⟨tm1, tm2, tm3, tm4, tm⟩, ⟨tz1, tz2, tn0⟩, tz3, tn4⟩ := round_step a0 a1 a2 a3 a4 a5 a6 a7 k wd h0 h1 h2 h3 h4 h5 h6 h7 hk hw
      rw [Hn.out] at HU
      have C6 := fun W => right_calls tr6 W
      have C11 := fun W => right_calls tr11 W
      have C25 := fun W => right_calls tr25 W
      have C2 := fun W => right_calls tr2 W
      have C13 := fun W => right_calls tr13 W
      have C22 := fun W => right_calls tr22 W
      clear Hn h0 h1 h2 h3 h4 h5 h6 h7 hk hw hu tr6 tr11 tr25 tr2 tr13 tr22
      replace HB : Aside0 (Blk wr gv 22 #[.int .i64 a0, .int .i64 a1, .int .i64 a2, .int .i64 a3, .int .i64 a4, .int .i64 a5, .int .i64 a6, .int .i64 a7]) := HB
      obtain ⟨⟨b0, b1, b2, b3, b4, b5, b6, b7⟩, f0, f1, f2, f3, f4, f5, f6, f7⟩ := HB.out.at8
      obtain ⟨tk, tw⟩ := hT wr HL.out
      replace hT := Lib.hid hT
      go_wp2
      go_quiet (first | (go_at_call 81; with_reducible exact Calls.quiet_of (C6 _)) | (go_at_call 81; with_reducible exact Calls.quiet_of (C11 _)) | (go_at_call 81; with_reducible exact Calls.quiet_of (C25 _)))
      have HB2 := Aside0.mk (HB.out.drewN nq); have HL2 := Aside0.mk (Below_drewN HL.out nq)
      clear C6 C11 C25 HB HL b0 b1 b2 b3 b4 b5 b6 b7 f0 f1 f2 f3 f4 f5 f6 f7 tk tw
      generalize wr.drewN nq = wa at HB2 HL2 ⊢
      obtain ⟨⟨b0, b1, b2, b3, b4, b5, b6, b7⟩, f0, f1, f2, f3, f4, f5, f6, f7⟩ := HB2.out.at8
      obtain ⟨tk, tw⟩ := hT.out wa HL2.out
      go_wp2
      go_quiet (fail)
      have HB3 := Aside0.mk (HB2.out.drewN nq); have HL3 := Aside0.mk (Below_drewN HL2.out nq)
      clear HB2 HL2 b0 b1 b2 b3 b4 b5 b6 b7 f0 f1 f2 f3 f4 f5 f6 f7 tk tw hT
      generalize wa.drewN nq = wb at HB3 HL3 ⊢
      obtain ⟨⟨b0, b1, b2, b3, b4, b5, b6, b7⟩, f0, f1, f2, f3, f4, f5, f6, f7⟩ := HB3.out.at8
      go_wp2
      go_quiet (first | (go_at_call 81; with_reducible exact Calls.quiet_of (C2 _)) | (go_at_call 81; with_reducible exact Calls.quiet_of (C13 _)) | (go_at_call 81; with_reducible exact Calls.quiet_of (C22 _)))
      have HB4 := Aside0.mk (HB3.out.drewN nq); have HL4 := Aside0.mk (Below_drewN HL3.out nq)
      clear C2 C13 C22 HB3 HL3 b0 b1 b2 b3 b4 b5 b6 b7 f0 f1 f2 f3 f4 f5 f6 f7
      generalize wb.drewN nq = wc at HB4 HL4 ⊢
      obtain ⟨⟨b0, b1, b2, b3, b4, b5, b6, b7⟩, f0, f1, f2, f3, f4, f5, f6, f7⟩ := HB4.out.at8
      go_wp2
      have B5 : Aside0 (Blk ((((((((wc.setCell ⟨gv, 0, none⟩ (.int .i64 n0)).setCell ⟨gv, 1, none⟩ (.int .i64 a0)).setCell ⟨gv, 2, none⟩ (.int .i64 a1)).setCell ⟨gv, 3, none⟩ (.int .i64 a2)).setCell ⟨gv, 4, none⟩ (.int .i64 n4)).setCell ⟨gv, 5, none⟩ (.int .i64 a4)).setCell ⟨gv, 6, none⟩ (.int .i64 a5)).setCell ⟨gv, 7, none⟩ (.int .i64 a6)) gv 22 (wds .i64 [n0, a0, a1, a2, n4, a4, a5, a6])) :=
        ⟨((((((((HB4.out.set 0 _).set 1 _).set 2 _).set 3 _).set 4 _).set 5 _).set 6 _).set 7 _).eq rfl⟩
      have L5 := Aside0.mk ((((((((HL4.out.setCell (p := ⟨gv, 0, none⟩) (Nat.le_refl _) (.int .i64 n0)).setCell (p := ⟨gv, 1, none⟩) (Nat.le_refl _) (.int .i64 a0)).setCell (p := ⟨gv, 2, none⟩) (Nat.le_refl _) (.int .i64 a1)).setCell (p := ⟨gv, 3, none⟩) (Nat.le_refl _) (.int .i64 a2)).setCell (p := ⟨gv, 4, none⟩) (Nat.le_refl _) (.int .i64 n4)).setCell (p := ⟨gv, 5, none⟩) (Nat.le_refl _) (.int .i64 a4)).setCell (p := ⟨gv, 6, none⟩) (Nat.le_refl _) (.int .i64 a5)).setCell (p := ⟨gv, 7, none⟩) (Nat.le_refl _) (.int .i64 a6))
      rw [← HU.out] at B5
      clear HB4 HL4 b0 b1 b2 b3 b4 b5 b6 b7 f0 f1 f2 f3 f4 f5 f6 f7 HU tx1 ts td1 tne td2 tc ty1 ty2 ty3 tx tx2 tr tm1 tm2 tm3 tm4 tm tz1 tz2 tn0 tz3 tn4 p0 p1 c1
      go_roundg (64 - (i + 1))
      case measure => omega
      case rel => exact ⟨i + 1, by go_num, by omega, by omega, B5, L5⟩
    · have c1 : decide ((i : Int) < 64) = false := decide_eq_false (by omega)
      obtain rfl : i = 64 := by omega
      go_wp2
      have P1 := HB.out
      have P2 := HL.out
      refine HX.out _ _ _ _ _ _ _ _ _ _ _ _ _ _ _ _ _ _ _ _ _ _ _ _ _ _ _ _ _ _ _ _ _ _ _ _ _ _ _ _ _ _ _ _ _ _ _ _ _ _ _ _ _ _ _ _ _ _ _ _ _ _ _ _ _ _ _ _ _ _ _ _ _ _ _ _ _ _ _ _ _ _ _ _ _ _ _ _ _ _ _ _ _ _ _ _ _ _ _ ?_
      exact ⟨P1, P2⟩
end

/-! The reference's sums at the end of a block of the digest. Conditions: words of 32 bits. -/
section
open Go.RowKit Go.Shelf Go.Proofs.YtajbljegeiebjaaW.PrintWords Go.Proofs.YtajbljegeiebjaaW.PrintLast Go.Proofs.YtajbljegeiebjaaW.PrintMore Go.Proofs.Ytajbljegeiebjaa.PSha

set_option maxRecDepth 1000000 in
set_option maxHeartbeats 16000000 in
theorem sha3_wp (gh gv : Nat) (h v : List Nat) (u0 u1 u3 u4 u5 u6 u7 u8 u9 u10 u12 u13 u14 u15 u16 u17 u19 u20 u21 u22 u23 u24 u25 u26 u27 u28 u29 u30 u31 u32 u33 u34 u35 u36 u37 u38 u39 u40 u41 u42 u43 u44 u45 u46 u47 u48 u49 u50 u51 u52 u53 u54 u55 u56 u57 u58 u59 u60 u61 u62 u63 u64 u65 u66 u67 u68 u69 u70 u71 u72 u73 u74 u75 u76 u77 u78 u79 u80 u81 u82 u83 u84 u85 u86 u87 u88 u89 u90 u91 u92 u93 u94 u95 u96 u97 u98 u99 u100 u101 u102 u103 u104 u105 u106 u107 u108 u109 u110 u111 u112 u113 u114 u115 u116 u117 u118 u119 u120 u121 u122 u123 u124 u125 u126 u127 u128 u129 u130 u131 u132 u133 u134 u135 u136 u137 u138 u139 u140 u141 u142 u143 u144 u145 u146 u147 u148 u149 u150 u151 u152 u153 u154 u155 u156 u157 u158 u159 u160 u161 u162 u163 u164 u165 u166 u167 u168 u169 u170 u171 u172 u173 u174 u175 u176 u177 u178 u179 u180 u181 u182 u183 u184 u185 u186 u187 u188 u189 u190 u191 u192 u193 : Value) (Q0 : Exit → Act → World → Prop) (w : World) (hh : WN 8 h) (hv : WN 8 v) (hB : Blk w gh 22 (wds .i64 h)) (hV : Blk w gv 22 (wds .i64 v)) (hne : gv ≠ gh)
    (hexit : ∀ (x179 x180 x181 x182 x183 x184 x185 x186 x187 x188 x189 x190 x191 x192 : Value) (w' : World), Blk w' gh 22 (wds .i64 (addN h v 8)) ∧ Below gh w w' ∧ Only gh w w' → Q0 (.exit 6) ⟨List.toArray (u0 :: u1 :: (.pointer (some ⟨gh, 0, none⟩)) :: u3 :: u4 :: u5 :: u6 :: u7 :: u8 :: u9 :: u10 :: (.pointer (some ⟨gv, 0, none⟩)) :: u12 :: u13 :: u14 :: u15 :: u16 :: u17 :: (.int .i64 8) :: u19 :: u20 :: u21 :: u22 :: u23 :: u24 :: u25 :: u26 :: u27 :: u28 :: u29 :: u30 :: u31 :: u32 :: u33 :: u34 :: u35 :: u36 :: u37 :: u38 :: u39 :: u40 :: u41 :: u42 :: u43 :: u44 :: u45 :: u46 :: u47 :: u48 :: u49 :: u50 :: u51 :: u52 :: u53 :: u54 :: u55 :: u56 :: u57 :: u58 :: u59 :: u60 :: u61 :: u62 :: u63 :: u64 :: u65 :: u66 :: u67 :: u68 :: u69 :: u70 :: u71 :: u72 :: u73 :: u74 :: u75 :: u76 :: u77 :: u78 :: u79 :: u80 :: u81 :: u82 :: u83 :: u84 :: u85 :: u86 :: u87 :: u88 :: u89 :: u90 :: u91 :: u92 :: u93 :: u94 :: u95 :: u96 :: u97 :: u98 :: u99 :: u100 :: u101 :: u102 :: u103 :: u104 :: u105 :: u106 :: u107 :: u108 :: u109 :: u110 :: u111 :: u112 :: u113 :: u114 :: u115 :: u116 :: u117 :: u118 :: u119 :: u120 :: u121 :: u122 :: u123 :: u124 :: u125 :: u126 :: u127 :: u128 :: u129 :: u130 :: u131 :: u132 :: u133 :: u134 :: u135 :: u136 :: u137 :: u138 :: u139 :: u140 :: u141 :: u142 :: u143 :: u144 :: u145 :: u146 :: u147 :: u148 :: u149 :: u150 :: u151 :: u152 :: u153 :: u154 :: u155 :: u156 :: u157 :: u158 :: u159 :: u160 :: u161 :: u162 :: u163 :: u164 :: u165 :: u166 :: u167 :: u168 :: u169 :: u170 :: u171 :: u172 :: u173 :: u174 :: u175 :: u176 :: u177 :: u178 :: x179 :: x180 :: x181 :: x182 :: x183 :: x184 :: x185 :: x186 :: x187 :: x188 :: x189 :: x190 :: x191 :: x192 :: u193 :: []), []⟩ w') :
    Code.wp Try.prog (loopNo Try.f67 3) Q0 ⟨List.toArray (u0 :: u1 :: (.pointer (some ⟨gh, 0, none⟩)) :: u3 :: u4 :: u5 :: u6 :: u7 :: u8 :: u9 :: u10 :: (.pointer (some ⟨gv, 0, none⟩)) :: u12 :: u13 :: u14 :: u15 :: u16 :: u17 :: (.int .i64 0) :: u19 :: u20 :: u21 :: u22 :: u23 :: u24 :: u25 :: u26 :: u27 :: u28 :: u29 :: u30 :: u31 :: u32 :: u33 :: u34 :: u35 :: u36 :: u37 :: u38 :: u39 :: u40 :: u41 :: u42 :: u43 :: u44 :: u45 :: u46 :: u47 :: u48 :: u49 :: u50 :: u51 :: u52 :: u53 :: u54 :: u55 :: u56 :: u57 :: u58 :: u59 :: u60 :: u61 :: u62 :: u63 :: u64 :: u65 :: u66 :: u67 :: u68 :: u69 :: u70 :: u71 :: u72 :: u73 :: u74 :: u75 :: u76 :: u77 :: u78 :: u79 :: u80 :: u81 :: u82 :: u83 :: u84 :: u85 :: u86 :: u87 :: u88 :: u89 :: u90 :: u91 :: u92 :: u93 :: u94 :: u95 :: u96 :: u97 :: u98 :: u99 :: u100 :: u101 :: u102 :: u103 :: u104 :: u105 :: u106 :: u107 :: u108 :: u109 :: u110 :: u111 :: u112 :: u113 :: u114 :: u115 :: u116 :: u117 :: u118 :: u119 :: u120 :: u121 :: u122 :: u123 :: u124 :: u125 :: u126 :: u127 :: u128 :: u129 :: u130 :: u131 :: u132 :: u133 :: u134 :: u135 :: u136 :: u137 :: u138 :: u139 :: u140 :: u141 :: u142 :: u143 :: u144 :: u145 :: u146 :: u147 :: u148 :: u149 :: u150 :: u151 :: u152 :: u153 :: u154 :: u155 :: u156 :: u157 :: u158 :: u159 :: u160 :: u161 :: u162 :: u163 :: u164 :: u165 :: u166 :: u167 :: u168 :: u169 :: u170 :: u171 :: u172 :: u173 :: u174 :: u175 :: u176 :: u177 :: u178 :: u179 :: u180 :: u181 :: u182 :: u183 :: u184 :: u185 :: u186 :: u187 :: u188 :: u189 :: u190 :: u191 :: u192 :: u193 :: []), []⟩ w := by
  conv => arg 2; whnf
  have HX := Lib.hid hexit
  clear hexit
  have TR : Hid (∀ W, Blk W gv 22 (wds .i64 v) → ∀ i, i < 8 → W.cell? ⟨gv, i, none⟩ = some (.int .i64 ((v.getD i 0 : Nat) : Int))) := Lib.hid (fun W hb i hi => (hb.wat i (by rw [hv.1]; exact hi)).1)
  go_loopg [18] 8 (fun gg s_ wr => ∃ i : Nat, s_ = .int .i64 i ∧ i ≤ 8 ∧ 8 ≤ gg + i ∧ Aside0 (Blk wr gh 22 (wds .i64 (addN h v i))) ∧ Aside0 (Blk wr gv 22 (wds .i64 v)) ∧ Aside0 (Below gh w wr) ∧ Aside0 (Only gh w wr))
  case atStart => exact ⟨0, rfl, by omega, by omega, ⟨hB⟩, ⟨hV⟩, ⟨Below.refl _ _⟩, ⟨Only.refl _ _⟩⟩
  case round =>
    obtain ⟨i, rfl, hi, hg, HB, HV, HL, HO⟩ := hrel
    by_cases hlt : i < 8
    · have c1 : decide ((i : Int) < 8) = true := decide_eq_true (by omega)
      have p0 : (0 ≤ (i : Int)) = True := eq_true (by omega)
      have p1 : ((i : Int) < 8) = True := eq_true (by omega)
      obtain ⟨b1, f1⟩ := HB.out.wat i (by rw [addN_length, hh.1]; exact hlt)
      have b2 := TR.out _ HV.out i hlt
      rw [addN_at h v i i (Nat.le_refl _)] at b1
      have HU : Hid (addN h v (i + 1) = (addN h v i).set i ((h.getD i 0 + v.getD i 0) % 2 ^ 32)) := Lib.hid rfl
      have h1 := hh.2 i; have h2 := hv.2 i
      generalize h.getD i 0 = a at b1 HU h1
      generalize v.getD i 0 = b at b2 HU h2
      obtain ⟨s, n, Hn, ts, ts', tn⟩ := add8_step a b h1 h2
      rw [Hn.out] at HU
      have HB1 := Aside0.mk HB.out.drew; have HV1 := Aside0.mk HV.out.drew; have HL1 := Aside0.mk HL.out.drew; have HO1 := Aside0.mk HO.out.drew
      clear Hn h1 h2
      go_wp2
      go_still_tail 10, (by kernel_rfl)
      change wpList _ _ _ _ _ wr.drew
      clear HB HV HL HO b1 b2 f1
      generalize wr.drew = wd at HB1 HV1 HL1 HO1 ⊢
      obtain ⟨b1, f1⟩ := HB1.out.wat i (by rw [addN_length, hh.1]; exact hlt)
      have B1 := Aside0.mk (HB1.out.wset i n)
      have V1 := Aside0.mk (HV1.out.other ⟨gh, i, none⟩ hne (.int .i64 n))
      have L1 := Aside0.mk (HL1.out.setCell (p := ⟨gh, i, none⟩) (Nat.le_refl _) (.int .i64 n))
      have O1 := Aside0.mk (HO1.out.set i (.int .i64 n))
      rw [← HU.out] at B1
      clear HB1 HV1 HL1 HO1 HU ts ts' tn
      go_wp2
      go_roundg (8 - (i + 1))
      case measure => omega
      case rel => exact ⟨i + 1, by go_num, by omega, by omega, B1, V1, L1, O1⟩
    · have c1 : decide ((i : Int) < 8) = false := decide_eq_false (by omega)
      obtain rfl : i = 8 := by omega
      go_wp2
      have P1 := HB.out
      have P2 := HL.out
      have P3 := HO.out
      refine HX.out _ _ _ _ _ _ _ _ _ _ _ _ _ _ _ ?_
      exact ⟨P1, P2, P3⟩
end

/-! The reference's table. Conditions: none. -/
section
open Go.RowKit Go.Shelf Go.Proofs.YtajbljegeiebjaaW.PrintWords Go.Proofs.YtajbljegeiebjaaW.PrintLast Go.Proofs.YtajbljegeiebjaaW.PrintMore Go.Proofs.Ytajbljegeiebjaa.PSha

set_option maxRecDepth 100000 in
set_option maxHeartbeats 8000000 in
theorem l01Table_calls (w : World) : Calls Try.prog 82 #[] w fun e w' => e = .returned (.agg (wds .i64 ktab)) ∧ Below w.heap.size w w' := by
  go_enter Try.func82, Try.ntmps82
  go_wp2_with (first
    | (refine Great.wpList_buildTo rfl 84 _ rfl (some 1) rfl (wds .i64 ktab) (by kernel_rfl) ?_)
    | (refine wpList_store_row rfl 84 _ _ rfl w.heap.size (wds .i64 ktab) rfl rfl 84 _ (Blk.new _ _ _) (by kernel_rfl) (by kernel_rfl) (wds_one _ _) ?_))
  refine ret_row (p := 0) (ty := 84) rfl w.heap.size 84 (wds .i64 ktab) _ rfl ?_ Try.underlying84 rfl (by kernel_rfl) rfl ⟨rfl, ?_⟩
  · exact (Blk.new _ _ _).row _
  · exact below_setRow (below_alloc (Below.refl _ _) _) (Nat.le_refl _) _
end

/-! The reference's block of the digest: its contract. Conditions: eight words of 32 bits, sixty-four bytes at least. -/
section
open Go.RowKit Go.Shelf Go.Proofs.YtajbljegeiebjaaW.PrintWords Go.Proofs.YtajbljegeiebjaaW.PrintLast Go.Proofs.YtajbljegeiebjaaW.PrintMore Go.Proofs.Ytajbljegeiebjaa.PSha


theorem info8 {v : List Nat} (h : v.length = 8) : (Try.prog.info? 22).map (·.size) = some (wds .i64 v).size := by
  rw [wds_size, h]; kernel_rfl
set_option maxRecDepth 1000000 in
set_option maxHeartbeats 16000000 in
theorem l01Block_calls (h : List Nat) (hh : WN 8 h) (t : ByteArray) (ht : 64 ≤ t.size) (ht2 : t.size ≤ 2000000) (w : World) :
    Calls Try.prog 67 #[.agg (wds .i64 h), .string t] w fun e w' => e = .returned (.agg (wds .i64 (shaBlk h t))) ∧ Below w.heap.size w w' := by
  obtain ⟨a0, a1, a2, a3, a4, a5, a6, a7, hE, _⟩ := hh.four
  have HH := Lib.hid hh; have HT := Lib.hid ht; have HT2 := Lib.hid ht2
  have HS := Lib.hid (show wds .i64 h = #[.int .i64 a0, .int .i64 a1, .int .i64 a2, .int .i64 a3, .int .i64 a4, .int .i64 a5, .int .i64 a6, .int .i64 a7] by rw [hE]; rfl)
  have KT := fun W => l01Table_calls W
  rw [HS.out]
  clear hh ht ht2 hE
  go_enter Try.func67, Try.ntmps67
  go_wp2_with (first
    | (refine Great.wpList_buildTo rfl 84 _ rfl (some 19) rfl (wds .i64 zeros64) (by kernel_rfl) ?_)
    | (refine wpList_store_row rfl 84 _ _ rfl (w.heap.size + 1 + 1) (wds .i64 zeros64) rfl rfl 84 _ (Blk.new' _ _ _ _ (by simp)) (by kernel_rfl) (by kernel_rfl) (wds_one _ _) ?_))
  refine wp_world (fun W => Blk W w.heap.size 22 (wds .i64 h) ∧ (∃ z, Blk W (w.heap.size + 1) 22 #[z, z, z, z, z, z, z, z]) ∧ Blk W (w.heap.size + 1 + 1) 84 (wds .i64 zeros64) ∧ Below w.heap.size w W ∧ w.heap.size + 1 + 1 < W.heap.size) ⟨?_, ⟨.int .i64 0, ?_⟩, ?_, ?_, ?_⟩ ?_
  · rw [HS.out]; exact (((Blk.new _ _ _).alloc _).alloc _).rowOther _ (by omega) _
  · exact ((Blk.new' _ _ _ _ (by simp)).alloc _).rowOther _ (by omega) _
  · exact (Blk.new' _ _ _ _ (by simp)).row _
  · exact below_setRow (below_alloc (below_alloc (below_alloc (Below.refl _ _) _) _) _) (by omega) _
  · rw [size_setRow]; simp
  rintro W0 ⟨P1, P2, P3, P4, P5⟩
  have A0 := Aside0.mk P1; have Z0 := Aside0.mk P2; have G0 := Aside0.mk P3; have L0 := Aside0.mk P4; have S0 := Aside0.mk P5
  clear P1 P2 P3 P4 P5
  refine sha0_wp t (w.heap.size + 1 + 1) zeros64 _ _ _ _ _ _ _ _ _ _ _ _ _ _ _ _ _ _ _ _ _ _ _ _ _ _ _ _ _ _ _ _ _ _ _ _ _ _ _ _ _ _ _ _ _ _ _ _ _ _ _ _ _ _ _ _ _ _ _ _ _ _ _ _ _ _ _ _ _ _ _ _ _ _ _ _ _ _ _ _ _ _ _ _ _ _ _ _ _ _ _ _ _ _ _ _ _ _ _ _ _ _ _ _ _ _ _ _ _ _ _ _ _ _ _ _ _ _ _ _ _ _ _ _ _ _ _ _ _ _ _ _ _ _ _ _ _ _ _ _ _ _ _ _ _ _ _ _ _ _ _ _ _ _ _ _ _ _ _ _ _ _ _ _ _ _ _ _ _ _ _ _ _ _ _ _ _ _ _ _ _ _ _ _ _ _ _ _ _ _ _ _ _ zeros64_ok.1 HT.out HT2.out G0.out ?_
  intro _ _ _ _ _ _ _ _ _ _ w1
  rintro ⟨P1, P2⟩
  have G1 := Aside0.mk P1
  have A1 := Aside0.mk (A0.out.move (P2.block _ (by omega)))
  have Z1 : Aside0 (∃ z, Blk w1 (w.heap.size + 1) 22 #[z, z, z, z, z, z, z, z]) := ⟨by obtain ⟨z, hz⟩ := Z0.out; exact ⟨z, hz.move (P2.block _ (by omega))⟩⟩
  have L1 := Aside0.mk (L0.out.trans (P2.mono (by omega)))
  have S1 := Aside0.mk (Nat.lt_of_lt_of_le S0.out P2.size)
  clear P1 P2 A0 Z0 G0 L0 S0
  go_wp2
  refine sha1_wp (w.heap.size + 1 + 1) _ _ _ _ _ _ _ _ _ _ _ _ _ _ _ _ _ _ _ _ _ _ _ _ _ _ _ _ _ _ _ _ _ _ _ _ _ _ _ _ _ _ _ _ _ _ _ _ _ _ _ _ _ _ _ _ _ _ _ _ _ _ _ _ _ _ _ _ _ _ _ _ _ _ _ _ _ _ _ _ _ _ _ _ _ _ _ _ _ _ _ _ _ _ _ _ _ _ _ _ _ _ _ _ _ _ _ _ _ _ _ _ _ _ _ _ _ _ _ _ _ _ _ _ _ _ _ _ _ _ _ _ _ _ _ _ _ _ _ _ _ _ _ _ _ _ _ _ _ _ _ _ _ _ _ _ _ _ _ _ _ _ _ _ _ _ _ _ _ _ _ _ _ _ _ _ _ _ _ _ _ _ _ _ _ _ _ _ _ _ _ _ _ _ _ (sched16_ok t) G1.out ?_
  intro _ _ _ _ _ _ _ _ _ _ _ _ _ _ _ _ _ _ _ _ _ _ _ _ _ _ _ _ _ _ _ _ _ _ _ _ _ _ _ _ _ _ _ _ _ _ _ _ _ _ _ _ _ _ _ _ w2
  rintro ⟨P1, P2⟩
  have G2 : Aside0 (Blk w2 (w.heap.size + 1 + 1) 84 (wds .i64 (schedOf t))) := ⟨P1⟩
  have A2 := Aside0.mk (A1.out.move (P2.block _ (by omega)))
  have Z2 : Aside0 (∃ z, Blk w2 (w.heap.size + 1) 22 #[z, z, z, z, z, z, z, z]) := ⟨by obtain ⟨z, hz⟩ := Z1.out; exact ⟨z, hz.move (P2.block _ (by omega))⟩⟩
  have L2 := Aside0.mk (L1.out.trans (P2.mono (by omega)))
  have S2 := Aside0.mk (Nat.lt_of_lt_of_le S1.out P2.size)
  clear P1 P2 A1 Z1 G1 L1 S1
  go_wp2_with (first
    | (go_at_call 82; refine (KT _).mono ?_; rintro e w3 ⟨rfl, hb⟩; have A3 := Aside0.mk (A2.out.below hb); have G3 := Aside0.mk (G2.out.below hb); have Z3 := Aside0.mk Z2.out; obtain ⟨z, hz⟩ := Z3.out; replace Z3 := Aside0.mk (hz.below hb); have L3 := Aside0.mk (L2.out.trans (hb.mono L2.out.size)); have S3 := Aside0.mk (Nat.lt_of_lt_of_le S2.out hb.size); clear hb hz A2 G2 Z2 L2 S2)
    | (refine wpList_store_row rfl 84 _ _ rfl w3.heap.size (wds .i64 ktab) rfl rfl 84 _ (Blk.new _ _ _) (by kernel_rfl) (by kernel_rfl) (wds_one _ _) ?_)
    | (refine wpList_load_row rfl 22 _ rfl w.heap.size rfl 22 #[.int .i64 a0, .int .i64 a1, .int .i64 a2, .int .i64 a3, .int .i64 a4, .int .i64 a5, .int .i64 a6, .int .i64 a7] (0, 0) _ (((show Blk _ _ _ _ from HS.out ▸ A3.out).alloc _).rowOther _ (Nat.ne_of_lt A3.out.lt) _) Try.underlying22 rfl (by kernel_rfl) ?_))
  refine wp_world (fun W => Blk W w.heap.size 22 (wds .i64 h) ∧ (∃ z, Blk W (w.heap.size + 1) 22 #[z, z, z, z, z, z, z, z]) ∧ Blk W (w.heap.size + 1 + 1) 84 (wds .i64 (schedOf t)) ∧ Blk W w3.heap.size 84 (wds .i64 ktab) ∧ Blk W (w3.heap.size + 1) 22 (wds .i64 h) ∧ Below w.heap.size w W) ⟨?_, ?_, ?_, ?_, ?_, ?_⟩ ?_
  · exact ((A3.out.alloc _).rowOther _ (Nat.ne_of_lt A3.out.lt) _).alloc _
  · exact ⟨z, ((Z3.out.alloc _).rowOther _ (Nat.ne_of_lt Z3.out.lt) _).alloc _⟩
  · exact ((G3.out.alloc _).rowOther _ (Nat.ne_of_lt G3.out.lt) _).alloc _
  · exact ((Blk.new _ _ _).row _).alloc _
  · rw [HS.out]; exact Blk.new' _ _ _ _ (by rw [size_setRow]; simp)
  · exact below_alloc (below_setRow (below_alloc L3.out _) L3.out.size _) _
  rintro W4 ⟨P1, P2, P3, P4, P5, P6⟩
  have A4 := Aside0.mk P1; have Z4 := Aside0.mk P2; have G4 := Aside0.mk P3; have K4 := Aside0.mk P4; have V4 := Aside0.mk P5; have L4 := Aside0.mk P6
  have hw3 := S3.out
  clear P1 P2 P3 P4 P5 P6 A3 Z3 G3 L3 S3
  refine sha2_wp (w.heap.size + 1 + 1) w3.heap.size (w3.heap.size + 1) ktab (schedOf t) h _ _ _ _ _ _ _ _ _ _ _ _ _ _ _ _ _ _ _ _ _ _ _ _ _ _ _ _ _ _ _ _ _ _ _ _ _ _ _ _ _ _ _ _ _ _ _ _ _ _ _ _ _ _ _ _ _ _ _ _ _ _ _ _ _ _ _ _ _ _ _ _ _ _ _ _ _ _ _ _ _ _ _ _ _ _ _ _ _ _ _ _ _ _ _ _ _ _ _ _ _ _ _ _ _ _ _ _ _ _ _ _ _ _ _ _ _ _ _ _ _ _ _ _ _ _ _ _ _ _ _ _ _ _ _ _ _ _ _ _ _ _ _ _ _ _ _ _ _ _ _ _ _ _ _ _ _ _ _ _ _ _ _ _ _ _ _ _ _ _ _ _ _ _ _ _ _ _ _ _ _ _ _ _ _ _ _ _ _ _ _ _ HH.out ktab_ok (schedOf_ok t) V4.out K4.out G4.out (by omega) (by omega) ?_
  intro _ _ _ _ _ _ _ _ _ _ _ _ _ _ _ _ _ _ _ _ _ _ _ _ _ _ _ _ _ _ _ _ _ _ _ _ _ _ _ _ _ _ _ _ _ _ _ _ _ _ _ _ _ _ _ _ _ _ _ _ _ _ _ _ _ _ _ _ _ _ _ _ _ _ _ _ _ _ _ _ _ _ _ _ _ _ _ _ _ _ _ _ _ _ _ _ _ _ w5
  rintro ⟨P1, P2⟩
  have V5 := Aside0.mk P1
  have A5 := Aside0.mk (A4.out.move (P2.block _ (by omega)))
  have Z5 : Aside0 (∃ z, Blk w5 (w.heap.size + 1) 22 #[z, z, z, z, z, z, z, z]) := ⟨by obtain ⟨z, hz⟩ := Z4.out; exact ⟨z, hz.move (P2.block _ (by omega))⟩⟩
  have L5 := Aside0.mk (L4.out.trans (P2.mono (by omega)))
  clear P1 P2 A4 Z4 G4 K4 V4 L4
  go_wp2
  refine sha3_wp w.heap.size (w3.heap.size + 1) h (roundsN ktab (schedOf t) h 64) _ _ _ _ _ _ _ _ _ _ _ _ _ _ _ _ _ _ _ _ _ _ _ _ _ _ _ _ _ _ _ _ _ _ _ _ _ _ _ _ _ _ _ _ _ _ _ _ _ _ _ _ _ _ _ _ _ _ _ _ _ _ _ _ _ _ _ _ _ _ _ _ _ _ _ _ _ _ _ _ _ _ _ _ _ _ _ _ _ _ _ _ _ _ _ _ _ _ _ _ _ _ _ _ _ _ _ _ _ _ _ _ _ _ _ _ _ _ _ _ _ _ _ _ _ _ _ _ _ _ _ _ _ _ _ _ _ _ _ _ _ _ _ _ _ _ _ _ _ _ _ _ _ _ _ _ _ _ _ _ _ _ _ _ _ _ _ _ _ _ _ _ _ _ _ _ _ _ _ _ _ _ _ _ _ _ _ _ _ _ _ _ _ HH.out (HH.out.roundsN _ _ 64) A5.out V5.out (by omega) ?_
  intro _ _ _ _ _ _ _ _ _ _ _ _ _ _ w6
  rintro ⟨P1, P2, P3⟩
  have A6 : Aside0 (Blk w6 w.heap.size 22 (wds .i64 (shaBlk h t))) := ⟨P1⟩
  have Z6 : Aside0 (∃ z, Blk w6 (w.heap.size + 1) 22 #[z, z, z, z, z, z, z, z]) := ⟨by obtain ⟨z, hz⟩ := Z5.out; exact ⟨z, P3.blk hz (by omega)⟩⟩
  have L6 := Aside0.mk (L5.out.trans P2)
  obtain ⟨b0, b1, b2, b3, b4, b5, b6, b7, hR, _⟩ := (shaBlk_ok HH.out t).four
  have HR := Lib.hid hR
  rw [HR.out] at A6
  obtain ⟨⟨p0, p1, p2, p3, p4, p5, p6, p7⟩, _⟩ := Blk.at8 (show Blk w6 w.heap.size 22 #[.int .i64 b0, .int .i64 b1, .int .i64 b2, .int .i64 b3, .int .i64 b4, .int .i64 b5, .int .i64 b6, .int .i64 b7] from A6.out)
  obtain ⟨z, hz⟩ := Z6.out
  obtain ⟨⟨q0, q1, q2, q3, q4, q5, q6, q7⟩, f0, f1, f2, f3, f4, f5, f6, f7⟩ := hz.at8
  replace hz := Aside0.mk hz
  clear P1 P2 P3 Z6 A5 Z5 V5 L5 hR hw3 A6
  go_wp2
  refine ret_row (p := 4) (ty := 22) rfl (w.heap.size + 1) 22 #[.int .i64 b0, .int .i64 b1, .int .i64 b2, .int .i64 b3, .int .i64 b4, .int .i64 b5, .int .i64 b6, .int .i64 b7] _ rfl ?_ Try.underlying22 rfl (by kernel_rfl) rfl ⟨by rw [HR.out]; rfl, ?_⟩
  · exact ((((((((hz.out.set 0 _).set 1 _).set 2 _).set 3 _).set 4 _).set 5 _).set 6 _).set 7 _).eq rfl
  · exact ((((((((L6.out.setCell (by simp) _).setCell (by simp) _).setCell (by simp) _).setCell (by simp) _).setCell (by simp) _).setCell (by simp) _).setCell (by simp) _).setCell (by simp) _)
end

end Go.Proofs.Ytajbljegeiebjaa.Leaf
