/-
  The reference's tag as a whole. Conditions: a key of 32 bytes, a text of a million bytes at most.
-/
import Derived.Test.YtihpnededldedaaPolI
namespace Go.Proofs.Ytihpnededldedaa.Leaf
open Go.RowKit Go.Shelf Go.Proofs.YtihpnededldedaaW.PrintWords Go.Proofs.YtihpnededldedaaW.PrintLast Go.Proofs.YtihpnededldedaaW.PrintMore Go.Proofs.Ytihpnededldedaa.Pol

set_option maxRecDepth 1000000 in
set_option maxHeartbeats 16000000 in
theorem byt_wp (key : ByteArray) (bb gh : Nat) (v : List Nat) (v11 : Value) (u1 u2 u3 u4 u5 u7 u8 u9 u10 u14 u15 u16 u17 u18 u19 u20 u21 u22 u23 u24 u25 u26 u27 u28 u29 u30 u31 u32 u33 u34 u35 u36 u37 u38 u39 u40 u41 u42 u43 u44 u45 u46 u47 u48 u49 u50 u51 u52 u53 u54 u55 u56 u57 u58 u59 u60 u61 u62 u63 u64 u65 u66 u67 u68 u69 u70 u71 u72 u73 u74 u75 u76 u77 u78 u79 u80 u81 u82 u83 u84 u85 u86 u87 u88 u89 u90 u91 u92 u93 u94 u95 u96 u97 u98 u99 u100 u101 u102 u103 u104 u105 u106 u107 : Value) (Q0 : Exit → Act → World → Prop) (w : World) (hv : L5 67108864 v) (hk : key.size = 32) (hB : Blk w gh 80 (wds .i64 v)) (hlb : gh < bb) (hbw : bb ≤ w.heap.size) (hO : w.ownsRow bb 5 1 v11 ([] : List Int).length (nums .u8 ([] : List Int)))
    (hexit : ∀ (x11 x12 x14 x15 x62 x63 x64 x65 x66 x67 x68 x69 x70 x71 x72 x73 x74 x75 x76 x77 x78 x79 x80 x81 x82 x83 x84 x85 x86 x87 x88 x89 x90 x91 x92 x93 x94 x95 x96 x97 x98 x99 x100 x101 x102 x103 x104 x105 : Value) (w' : World), w'.ownsRow bb 5 1 x11 (tagI (val v) (bts (key.extract 16 key.size)) 16).length (nums .u8 (tagI (val v) (bts (key.extract 16 key.size)) 16)) ∧ Below bb w w' → Q0 (.exit 6) ⟨List.toArray ((.string key) :: u1 :: u2 :: u3 :: u4 :: u5 :: (.pointer (some ⟨gh, 0, none⟩)) :: u7 :: u8 :: u9 :: u10 :: x11 :: x12 :: (.int .i64 16) :: x14 :: x15 :: u16 :: u17 :: u18 :: u19 :: u20 :: u21 :: u22 :: u23 :: u24 :: u25 :: u26 :: u27 :: u28 :: u29 :: u30 :: u31 :: u32 :: u33 :: u34 :: u35 :: u36 :: u37 :: u38 :: u39 :: u40 :: u41 :: u42 :: u43 :: u44 :: u45 :: u46 :: u47 :: u48 :: u49 :: u50 :: u51 :: u52 :: u53 :: u54 :: u55 :: u56 :: u57 :: u58 :: u59 :: u60 :: u61 :: x62 :: x63 :: x64 :: x65 :: x66 :: x67 :: x68 :: x69 :: x70 :: x71 :: x72 :: x73 :: x74 :: x75 :: x76 :: x77 :: x78 :: x79 :: x80 :: x81 :: x82 :: x83 :: x84 :: x85 :: x86 :: x87 :: x88 :: x89 :: x90 :: x91 :: x92 :: x93 :: x94 :: x95 :: x96 :: x97 :: x98 :: x99 :: x100 :: x101 :: x102 :: x103 :: x104 :: x105 :: u106 :: u107 :: []), []⟩ w') :
    Code.wp Try.prog (loopNo Try.f48 3) Q0 ⟨List.toArray ((.string key) :: u1 :: u2 :: u3 :: u4 :: u5 :: (.pointer (some ⟨gh, 0, none⟩)) :: u7 :: u8 :: u9 :: u10 :: v11 :: (.int .i64 0) :: (.int .i64 0) :: u14 :: u15 :: u16 :: u17 :: u18 :: u19 :: u20 :: u21 :: u22 :: u23 :: u24 :: u25 :: u26 :: u27 :: u28 :: u29 :: u30 :: u31 :: u32 :: u33 :: u34 :: u35 :: u36 :: u37 :: u38 :: u39 :: u40 :: u41 :: u42 :: u43 :: u44 :: u45 :: u46 :: u47 :: u48 :: u49 :: u50 :: u51 :: u52 :: u53 :: u54 :: u55 :: u56 :: u57 :: u58 :: u59 :: u60 :: u61 :: u62 :: u63 :: u64 :: u65 :: u66 :: u67 :: u68 :: u69 :: u70 :: u71 :: u72 :: u73 :: u74 :: u75 :: u76 :: u77 :: u78 :: u79 :: u80 :: u81 :: u82 :: u83 :: u84 :: u85 :: u86 :: u87 :: u88 :: u89 :: u90 :: u91 :: u92 :: u93 :: u94 :: u95 :: u96 :: u97 :: u98 :: u99 :: u100 :: u101 :: u102 :: u103 :: u104 :: u105 :: u106 :: u107 :: []), []⟩ w := by
  conv => arg 2; whnf
  have HX := Lib.hid hexit
  clear hexit
  have hinfo : (Try.prog.info? 5).map (fun i => (i.zero, i.size, i.bytes)) = some (some (.int .u8 0), 1, 1) := by kernel_rfl
  obtain ⟨i0, hi_, hz0, hz1, hz2⟩ := info_parts hinfo
  have HI := Aside0.mk hi_; have HZ0 := Aside0.mk hz0; have HZ1 := Aside0.mk hz1; have HZ2 := Aside0.mk hz2
  have HV := Lib.hid hv
  have HK := Lib.hid hk
  have HBW := Aside0.mk hbw
  have HB0 := Aside0.mk hB
  clear hi_ hz0 hz1 hz2 hinfo hv hk hbw
  go_loopg [11, 12, 13] 16 (fun gg s11 s12 s13 wr => ∃ i : Nat, s13 = .int .i64 i ∧ s12 = .int .i64 (tagSum (val v) (bts (key.extract 16 key.size)) i) ∧ i ≤ 16 ∧ 16 ≤ gg + i ∧ Aside0 (wr.ownsRow bb 5 1 s11 (tagI (val v) (bts (key.extract 16 key.size)) i).length (nums .u8 (tagI (val v) (bts (key.extract 16 key.size)) i))) ∧ Aside0 (Blk wr gh 80 (wds .i64 v)) ∧ Aside0 (Below bb w wr))
  case atStart => exact ⟨0, rfl, rfl, by omega, by omega, ⟨hO⟩, ⟨hB⟩, ⟨Below.refl _ _⟩⟩
  case round =>
    obtain ⟨i, rfl, rfl, hi, hg, HO, HB, HL⟩ := hrel
    by_cases hlt : i < 16
    · have c1 : decide ((i : Int) < 16) = true := decide_eq_true (by omega)
      have hs1 := tagSum_le (val v) (bts (key.extract 16 key.size)) (bts_lt (key.extract 16 key.size)) i
      have HSUM := Lib.hid (show tagSum (val v) (bts (key.extract 16 key.size)) (i + 1) = (tagSum (val v) (bts (key.extract 16 key.size)) i + (val v / 256 ^ i % 256 + bts (key.extract 16 key.size) i)) / 256 from rfl)
      have hsucc := tagI_succ (val v) (bts (key.extract 16 key.size)) i
      have hlen := tagI_length (val v) (bts (key.extract 16 key.size)) i
      obtain ⟨q, r, x, s, o, ⟨hq, hr, hr26, hq5⟩, hx, hs, ho, hlow, hhigh⟩ := out_names v HV.out i hlt
      rw [ho] at HSUM hsucc
      have hol : o < 256 := by rw [← ho]; exact Nat.mod_lt _ (by decide)
      have hkk := HK.out
      have hlt'' : 16 + i < key.size := by omega
      have hby : wrap64 ((key[16 + i]'hlt'').toNat : Int) = (bts (key.extract 16 key.size) i : Int) := by
        have h0 : bt key ((16 + i : Nat) : Int) = ((key[16 + i]'hlt'').toNat : Int) := dif_pos hlt''
        have h1 : bt (key.extract 16 key.size) (i : Int) = bt key ((16 + i : Nat) : Int) := bt_extract key 16 key.size i (by omega) (Nat.le_refl _)
        have h2 := bts_lt (key.extract 16 key.size) i
        rw [← h0, ← h1, bts_int]
        exact wrap_ok _ (by omega) (by omega)
      have hyl := bts_lt (key.extract 16 key.size) i
      generalize bts (key.extract 16 key.size) i = y at hby hyl HSUM hsucc
      generalize tagSum (val v) (bts (key.extract 16 key.size)) i = cs at hs1 HSUM hsucc ⊢
      have HY := Lib.hid (show tagI (val v) (bts (key.extract 16 key.size)) (i + 1) = tagI (val v) (bts (key.extract 16 key.size)) i ++ [(((cs : Int) + ((o : Int) + (y : Int))) % 256)] from hsucc)
      have H63 := Aside0.mk (show (tagI (val v) (bts (key.extract 16 key.size)) i).length + 1 ≤ maxLen by rw [hlen]; unfold maxLen; omega)
      have H47 := Aside0.mk (show ((tagI (val v) (bts (key.extract 16 key.size)) i).length + 1) * 1 ≤ 140737488355328 by rw [hlen]; omega)
      have HS := Aside0.mk (show bb ≤ wr.heap.size from Nat.le_trans HBW.out HL.out.size)
      have e1 : (8 * (i : Int)) / 26 = (q : Int) := by omega
      have e2 : (8 * (i : Int)) % 26 = (r : Int) := by omega
      have p0 : (0 ≤ (q : Int)) = True := eq_true (by omega)
      have p1 : ((q : Int) < 5) = True := eq_true (by omega)
      have p2 : (q < 5) = True := eq_true hq5
      have p3 : (0 ≤ (r : Int)) = True := eq_true (by omega)
      have p4 : ((r : Int) < 0) = False := eq_false (by omega)
      have p5 : min r 64 = r := by omega
      have x1 : wr.cell? ⟨gh, q, none⟩ = some (.int .i64 (x : Int)) ∧ wr.frozen? ⟨gh, q, none⟩ = false := by
        have := HB.out.wat q (by rw [HV.out.length]; exact hq5)
        rw [hx] at this; exact this
      have HHI := Lib.hid hhigh
      clear hx hq hr ho hsucc hlen hhigh hkk
      by_cases h18 : 18 < r
      · have t1 : decide ((18 : Int) < (r : Int)) = true := decide_eq_true (by omega)
        obtain ⟨x2, m, s2, hq1, hx2, g2, g3, g4⟩ := HHI.out h18
        have x3 : wr.cell? ⟨gh, q + 1, none⟩ = some (.int .i64 (x2 : Int)) ∧ wr.frozen? ⟨gh, q + 1, none⟩ = false := by
          have := HB.out.wat (q + 1) (by rw [HV.out.length]; exact hq1)
          rw [hx2] at this; exact this
        clear hx2 hlow HHI
        go_wp2_with (at_builtin; refine wpList_append_lies _ rfl _ _ 75 rfl bb 5 i0 (.int .u8 0) 1 1 Try.underlying75 HI.out HZ0.out HZ1.out HZ2.out rfl (by decide) _ _ _ rfl (HO.out.alloc _) ⟨wr.heap.size, 0, none⟩ 1 1 [.int .u8 (((cs : Int) + ((o : Int) + (y : Int))) % 256)] rfl rfl (cell_one_new _ _ _) (by simp [Value.oneCell']) (by decide) H63.out H47.out (by have := HS.out; simp; omega) _ rfl ?_; intro g cap w1 hown' hgrow hat hlt')
        have B1 := Aside0.mk ((HL.out.alloc HS.out (.cells #[.int .u8 (((cs : Int) + ((o : Int) + (y : Int))) % 256)] 5)).grown hgrow (by have := HS.out; simp; omega) (fun k e => own_base HO.out k e))
        have O1 := Aside0.mk hown'
        have G1 := Aside0.mk (HB0.out.move (B1.out.block gh hlb))
        have HS6 := Lib.hid (show ((tagSum (val v) (bts (key.extract 16 key.size)) (i + 1) : Nat) : Int) = ((cs : Int) + ((o : Int) + (y : Int))) / 256 by rw [HSUM.out]; push_cast; rfl)
        clear hown' hgrow hat hlt' HO HL HB HSUM HS
        go_roundg (16 - (i + 1))
        case measure => omega
        case rel => exact ⟨i + 1, by go_num, by rw [HS6.out], by omega, by omega, ⟨by rw [HY.out, List.length_append, nums_append]; exact O1.out⟩, ⟨(show Blk _ gh 80 _ from G1.out)⟩, B1⟩
      · have t1 : decide ((18 : Int) < (r : Int)) = false := decide_eq_false (by omega)
        have g4 := hlow h18
        clear hlow HHI
        go_wp2_with (at_builtin; refine wpList_append_lies _ rfl _ _ 75 rfl bb 5 i0 (.int .u8 0) 1 1 Try.underlying75 HI.out HZ0.out HZ1.out HZ2.out rfl (by decide) _ _ _ rfl (HO.out.alloc _) ⟨wr.heap.size, 0, none⟩ 1 1 [.int .u8 (((cs : Int) + ((o : Int) + (y : Int))) % 256)] rfl rfl (cell_one_new _ _ _) (by simp [Value.oneCell']) (by decide) H63.out H47.out (by have := HS.out; simp; omega) _ rfl ?_; intro g cap w1 hown' hgrow hat hlt')
        have B1 := Aside0.mk ((HL.out.alloc HS.out (.cells #[.int .u8 (((cs : Int) + ((o : Int) + (y : Int))) % 256)] 5)).grown hgrow (by have := HS.out; simp; omega) (fun k e => own_base HO.out k e))
        have O1 := Aside0.mk hown'
        have G1 := Aside0.mk (HB0.out.move (B1.out.block gh hlb))
        have HS6 := Lib.hid (show ((tagSum (val v) (bts (key.extract 16 key.size)) (i + 1) : Nat) : Int) = ((cs : Int) + ((o : Int) + (y : Int))) / 256 by rw [HSUM.out]; push_cast; rfl)
        clear hown' hgrow hat hlt' HO HL HB HSUM HS
        go_roundg (16 - (i + 1))
        case measure => omega
        case rel => exact ⟨i + 1, by go_num, by rw [HS6.out], by omega, by omega, ⟨by rw [HY.out, List.length_append, nums_append]; exact O1.out⟩, ⟨(show Blk _ gh 80 _ from G1.out)⟩, B1⟩
    · have c1 : decide ((i : Int) < 16) = false := decide_eq_false (by omega)
      obtain rfl : i = 16 := by omega
      have P1 := HO.out
      have P2 := HL.out
      go_wp2
      refine HX.out _ _ _ _ _ _ _ _ _ _ _ _ _ _ _ _ _ _ _ _ _ _ _ _ _ _ _ _ _ _ _ _ _ _ _ _ _ _ _ _ _ _ _ _ _ _ _ _ _ ?_
      exact ⟨P1, P2⟩


end Go.Proofs.Ytihpnededldedaa.Leaf
