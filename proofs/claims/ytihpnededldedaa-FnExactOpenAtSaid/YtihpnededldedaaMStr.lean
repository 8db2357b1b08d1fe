/- The program's block of the stream. Conditions: words of 32 bits. -/
import Derived.Test.YtihpnededldedaaMCha
import Derived.Test.YtihpnededldedaaLoop
import Derived.Test.YtihpnededldedaaWTab
import Derived.Test.YtihpnededldedaaLeafL
import Derived.Test.YtihpnededldedaaBits
import Derived.Test.YtihpnededldedaaCat
namespace Go.Proofs.Ytihpnededldedaa.Leaf

section
open Go.RowKit Go.Shelf Go.Proofs.YtihpnededldedaaW.PrintWords Go.Proofs.YtihpnededldedaaW.PrintLast Go.Proofs.YtihpnededldedaaW.PrintMore Go.Proofs.Ytihpnededldedaa.PCha
set_option linter.unusedSimpArgs false
set_option linter.unusedVariables false
def regions : Code → List Code
  | .region i o d => [.region i o d]
  | .loop c => regions c
  | .seq a b => regions a ++ regions b
  | .block _ c => regions c
  | .scope c => regions c
  | .cond _ a b => regions a ++ regions b
  | _ => []
def isReg (k : Nat) : Code → Bool
  | .region i _ _ => i == k
  | _ => false
noncomputable def regNo (f : Func) (k : Nat) : Code := (((f.body.map regions).getD []).find? (isReg k)).getD .skip
theorem le_set {n : Nat} {W : World} (h : n ≤ W.heap.size) (p : Addr) (v : Value) : n ≤ (W.setCell p v).heap.size := Nat.le_trans h (by simp [World.setCell])
def strT : Bool × List (List Nat × List Nat) := (true, [([], []), ([], []), ([], []), ([], []), ([], []), ([4], [4]), ([5], [5]), ([], []), ([7], [7]), ([8], [8]), ([], []), ([10], [10]), ([11], [11]), ([], []), ([13], [13]), ([14], [14]), ([6, 9, 12, 15], [6, 9, 12, 15]), ([16], [16]), ([17], [17]), ([17], [17]), ([17], [17]), ([17], [17]), ([0, 0, 4, 5, 6, 7, 8, 9, 10, 11, 12, 13, 14, 15, 16, 17, 18], [0]), ([22, 18, 16, 0, 4, 5, 6, 7, 8, 9, 10, 11, 12, 13, 14, 15, 16, 17, 18], [18, 22]), ([1, 0, 1, 4, 5, 6, 7, 8, 9, 10, 11, 12, 13, 14, 15, 16, 17, 18, 19, 22, 23], [1]), ([24, 19, 23, 0, 1, 4, 5, 6, 7, 8, 9, 10, 11, 12, 13, 14, 15, 16, 17, 18, 19, 22, 23], [19, 24]), ([2, 0, 1, 2, 4, 5, 6, 7, 8, 9, 10, 11, 12, 13, 14, 15, 16, 17, 18, 19, 20, 22, 23, 24, 25], [2]), ([26, 20, 25, 0, 1, 2, 4, 5, 6, 7, 8, 9, 10, 11, 12, 13, 14, 15, 16, 17, 18, 19, 20, 22, 23, 24, 25], [20, 26]), ([3, 0, 1, 2, 3, 4, 5, 6, 7, 8, 9, 10, 11, 12, 13, 14, 15, 16, 17, 18, 19, 20, 21, 22, 23, 24, 25, 26, 27], [3]), ([28, 21, 27, 0, 1, 2, 3, 4, 5, 6, 7, 8, 9, 10, 11, 12, 13, 14, 15, 16, 17, 18, 19, 20, 21, 22, 23, 24, 25, 26, 27], [21, 28])])
def strB : List Nat := [0, 0, 0, 0, 0, 16, 48, 0, 128, 384, 0, 1024, 3072, 0, 8192, 24576, 65520, 131056, 262128, 262128, 262128, 262128, 524273, 4718577, 13631475, 30408691, 65011703, 132120567, 268435455, 536870911]
theorem strTab : rtab .any (opsOf Try.f47 18) = strT := by kernel_rfl
theorem strBits : waitsOk strT.2 strB = true := by kernel_rfl

set_option maxHeartbeats 8000000 in
set_option maxRecDepth 100000 in
theorem stream_r18 (Q : Exit → Act → World → Prop) (g : Nat) (y : List Nat) (ia ib ic id va vb vc vd : Nat) (w : World) (u0 u1 u2 u3 u4 u5 u6 u7 u8 u10 u11 u16 u17 u18 u19 u20 u21 u22 u23 u24 u25 u26 u27 u28 u29 u30 u31 u32 u33 u34 u35 u36 u37 u38 u39 u40 u41 u42 u43 u44 u45 u46 u47 u48 u49 u50 u51 u52 u53 u54 u55 u56 u57 u58 u59 u60 u61 u62 u63 u64 u65 u66 u67 u68 u69 u70 u71 u72 u73 u74 u75 u76 u77 u78 u79 u80 u81 u82 u83 u84 u85 u86 u87 u88 u89 u90 u91 u92 u93 u94 u95 u96 u97 u98 u99 u100 u101 u102 u103 u104 u105 u106 u107 u108 u109 u110 : Value) (hQ0 : ∀ c (a a' : Act) w, a.defers = a'.defers → Q (.panic c) a w → Q (.panic c) a' w)
    (hB : Blk w g 78 (wds .u32 y)) (hl : y.length = 16) (ha : ia < 16) (hb : ib < 16) (hc : ic < 16) (hd : id < 16) (ea : y.getD ia 0 = va) (eb : y.getD ib 0 = vb) (ec : y.getD ic 0 = vc) (ed : y.getD id 0 = vd) (la : va < 2 ^ 32) (lb : vb < 2 ^ 32) (lc : vc < 2 ^ 32) (ld : vd < 2 ^ 32)
    (h : ∀ w' v66 v67 v68 v69 v70 v71 v72 v73 v74 v75 v76 v77 v78 v79 v80 v81 v82 v83 v84 v85 v86 v87 v88 v89 v90 v91, Below g w w' → w.heap.size ≤ w'.heap.size → Blk w' g 78 (wds .u32 ((((y.set ia ((qr va vb vc vd).getD 0 0)).set ib ((qr va vb vc vd).getD 1 0)).set ic ((qr va vb vc vd).getD 2 0)).set id ((qr va vb vc vd).getD 3 0))) → Q .normal ⟨#[u0, u1, u2, u3, u4, u5, u6, u7, u8, .pointer (some ⟨g, 0, none⟩), u10, u11, .int .i64 ia, .int .i64 ib, .int .i64 ic, .int .i64 id, u16, u17, u18, u19, u20, u21, u22, u23, u24, u25, u26, u27, u28, u29, u30, u31, u32, u33, u34, u35, u36, u37, u38, u39, u40, u41, u42, u43, u44, u45, u46, u47, u48, u49, u50, u51, u52, u53, u54, u55, u56, u57, u58, u59, u60, u61, u62, u63, u64, u65, v66, v67, v68, v69, v70, v71, v72, v73, v74, v75, v76, v77, v78, v79, v80, v81, v82, v83, v84, v85, v86, v87, v88, v89, v90, v91, u92, u93, u94, u95, u96, u97, u98, u99, u100, u101, u102, u103, u104, u105, u106, u107, u108, u109, u110], []⟩ w') :
    Code.wp Try.prog (regNo Try.f47 18) Q ⟨#[u0, u1, u2, u3, u4, u5, u6, u7, u8, .pointer (some ⟨g, 0, none⟩), u10, u11, .int .i64 ia, .int .i64 ib, .int .i64 ic, .int .i64 id, u16, u17, u18, u19, u20, u21, u22, u23, u24, u25, u26, u27, u28, u29, u30, u31, u32, u33, u34, u35, u36, u37, u38, u39, u40, u41, u42, u43, u44, u45, u46, u47, u48, u49, u50, u51, u52, u53, u54, u55, u56, u57, u58, u59, u60, u61, u62, u63, u64, u65, u66, u67, u68, u69, u70, u71, u72, u73, u74, u75, u76, u77, u78, u79, u80, u81, u82, u83, u84, u85, u86, u87, u88, u89, u90, u91, u92, u93, u94, u95, u96, u97, u98, u99, u100, u101, u102, u103, u104, u105, u106, u107, u108, u109, u110], []⟩ w := by
  conv => arg 2; whnf
  have hwa := (hB.wat ia (by omega)).1; have hwb := (hB.wat ib (by omega)).1; have hwc := (hB.wat ic (by omega)).1; have hwd := (hB.wat id (by omega)).1
  rw [ea] at hwa; rw [eb] at hwb; rw [ec] at hwc; rw [ed] at hwd
  have HL := Aside0.mk (Below.refl w.heap.size w)
  refine start_ (n := 30) (S := fun w' => w'.cell? ⟨g, ia, none⟩ = some (.int .u32 va) ∧ w'.cell? ⟨g, ib, none⟩ = some (.int .u32 vb) ∧ w'.cell? ⟨g, ic, none⟩ = some (.int .u32 vc) ∧ w'.cell? ⟨g, id, none⟩ = some (.int .u32 vd)) (ds := [23, 25, 27, 29]) #[false, false, false, false, false, false, false, false, false, false, false, false, false, false, false, false, false, false, false, false, false, false, false, false, false, false, false, false, false, false] (by kernel_rfl) rfl rfl ⟨(HL.out.cell (World.block_lt_of_cell? w _ hwa)).trans hwa, (HL.out.cell (World.block_lt_of_cell? w _ hwb)).trans hwb, (HL.out.cell (World.block_lt_of_cell? w _ hwc)).trans hwc, (HL.out.cell (World.block_lt_of_cell? w _ hwd)).trans hwd⟩ (fun hHeld => ?_); refine with_tabW strTab strBits (fun HT_ HW_ => ?_)
  have pia : (0 ≤ (ia : Int)) = True := eq_true (by omega)
  have qia : ((ia : Int) < 16) = True := eq_true (by omega)
  have ria : (ia < 16) = True := eq_true (by omega)
  have pib : (0 ≤ (ib : Int)) = True := eq_true (by omega)
  have qib : ((ib : Int) < 16) = True := eq_true (by omega)
  have rib : (ib < 16) = True := eq_true (by omega)
  have pic : (0 ≤ (ic : Int)) = True := eq_true (by omega)
  have qic : ((ic : Int) < 16) = True := eq_true (by omega)
  have ric : (ic < 16) = True := eq_true (by omega)
  have pid : (0 ≤ (id : Int)) = True := eq_true (by omega)
  have qid : ((id : Int) < 16) = True := eq_true (by omega)
  have rid : (id < 16) = True := eq_true (by omega)
  have HBk := Aside0.mk (hB.drew)
  have HL1 := Aside0.mk (below_drew1 HL.out)
  generalize w.drew = w1 at HBk HL1 hHeld ⊢
  have HI := Lib.hid (And.intro ha (And.intro hb (And.intro hc hd)))
  clear HL ha hb hc hd ea eb ec ed
  refine pure_ (i := 0) (N := some 67) (v := ?_) (a' := ?_) #[true, false, false, false, false, false, false, false, false, false, false, false, false, false, false, false, false, false, false, false, false, false, false, false, false, false, false, false, false, false] rfl rfl (any_of HT_.out (by kernel_rfl)) (fun c a w h => hQ0 c (a.put _ _) a w rfl h) (Or.inl ⟨by rfl, ?_⟩) ?_ ?_
  rotate_left
  · intro w'
    go_simp
    with_reducible rfl
  rotate_left
  · simp only [Act.put, List.setIfInBounds_toArray, List.set_cons_zero, List.set_cons_succ, i64_w, i32_w]
    rfl
  refine pure_ (i := 1) (N := some 68) (v := ?_) (a' := ?_) #[true, true, false, false, false, false, false, false, false, false, false, false, false, false, false, false, false, false, false, false, false, false, false, false, false, false, false, false, false, false] rfl rfl (any_of HT_.out (by kernel_rfl)) (fun c a w h => hQ0 c (a.put _ _) a w rfl h) (Or.inl ⟨by rfl, ?_⟩) ?_ ?_
  rotate_left
  · intro w'
    go_simp
    with_reducible rfl
  rotate_left
  · simp only [Act.put, List.setIfInBounds_toArray, List.set_cons_zero, List.set_cons_succ, i64_w, i32_w]
    rfl
  refine pure_ (i := 2) (N := some 69) (v := ?_) (a' := ?_) #[true, true, true, false, false, false, false, false, false, false, false, false, false, false, false, false, false, false, false, false, false, false, false, false, false, false, false, false, false, false] rfl rfl (any_of HT_.out (by kernel_rfl)) (fun c a w h => hQ0 c (a.put _ _) a w rfl h) (Or.inl ⟨by rfl, ?_⟩) ?_ ?_
  rotate_left
  · intro w'
    go_simp
    with_reducible rfl
  rotate_left
  · simp only [Act.put, List.setIfInBounds_toArray, List.set_cons_zero, List.set_cons_succ, i64_w, i32_w]
    rfl
  refine pure_ (i := 3) (N := some 70) (v := ?_) (a' := ?_) #[true, true, true, true, false, false, false, false, false, false, false, false, false, false, false, false, false, false, false, false, false, false, false, false, false, false, false, false, false, false] rfl rfl (any_of HT_.out (by kernel_rfl)) (fun c a w h => hQ0 c (a.put _ _) a w rfl h) (Or.inl ⟨by rfl, ?_⟩) ?_ ?_
  rotate_left
  · intro w'
    go_simp
    with_reducible rfl
  rotate_left
  · simp only [Act.put, List.setIfInBounds_toArray, List.set_cons_zero, List.set_cons_succ, i64_w, i32_w]
    rfl
  refine pure_ (i := 4) (N := some 71) (v := ?_) (a' := ?_) #[true, true, true, true, true, false, false, false, false, false, false, false, false, false, false, false, false, false, false, false, false, false, false, false, false, false, false, false, false, false] rfl rfl (any_of HT_.out (by kernel_rfl)) (fun c a w h => hQ0 c (a.put _ _) a w rfl h) (Or.inl ⟨by rfl, ?_⟩) ?_ ?_
  rotate_left
  · intro w'
    go_simp
    with_reducible rfl
  rotate_left
  · simp only [Act.put, List.setIfInBounds_toArray, List.set_cons_zero, List.set_cons_succ, i64_w, i32_w]
    rfl
  refine pure_ (i := 5) (N := some 72) (v := ?_) (a' := ?_) #[true, true, true, true, true, true, false, false, false, false, false, false, false, false, false, false, false, false, false, false, false, false, false, false, false, false, false, false, false, false] rfl rfl (any_of HT_.out (by kernel_rfl)) (fun c a w h => hQ0 c (a.put _ _) a w rfl h) (Or.inl ⟨by rfl, ?_⟩) ?_ ?_
  rotate_left
  · intro w'
    go_simp
    with_reducible rfl
  rotate_left
  · simp only [Act.put, List.setIfInBounds_toArray, List.set_cons_zero, List.set_cons_succ, i64_w, i32_w]
    rfl
  refine pure_ (i := 7) (N := some 74) (v := ?_) (a' := ?_) #[true, true, true, true, true, true, false, true, false, false, false, false, false, false, false, false, false, false, false, false, false, false, false, false, false, false, false, false, false, false] rfl rfl (any_of HT_.out (by kernel_rfl)) (fun c a w h => hQ0 c (a.put _ _) a w rfl h) (Or.inl ⟨by rfl, ?_⟩) ?_ ?_
  rotate_left
  · intro w'
    go_simp
    with_reducible rfl
  rotate_left
  · simp only [Act.put, List.setIfInBounds_toArray, List.set_cons_zero, List.set_cons_succ, i64_w, i32_w]
    rfl
  refine pure_ (i := 8) (N := some 75) (v := ?_) (a' := ?_) #[true, true, true, true, true, true, false, true, true, false, false, false, false, false, false, false, false, false, false, false, false, false, false, false, false, false, false, false, false, false] rfl rfl (any_of HT_.out (by kernel_rfl)) (fun c a w h => hQ0 c (a.put _ _) a w rfl h) (Or.inl ⟨by rfl, ?_⟩) ?_ ?_
  rotate_left
  · intro w'
    go_simp
    with_reducible rfl
  rotate_left
  · simp only [Act.put, List.setIfInBounds_toArray, List.set_cons_zero, List.set_cons_succ, i64_w, i32_w]
    rfl
  refine pure_ (i := 10) (N := some 77) (v := ?_) (a' := ?_) #[true, true, true, true, true, true, false, true, true, false, true, false, false, false, false, false, false, false, false, false, false, false, false, false, false, false, false, false, false, false] rfl rfl (any_of HT_.out (by kernel_rfl)) (fun c a w h => hQ0 c (a.put _ _) a w rfl h) (Or.inl ⟨by rfl, ?_⟩) ?_ ?_
  rotate_left
  · intro w'
    go_simp
    with_reducible rfl
  rotate_left
  · simp only [Act.put, List.setIfInBounds_toArray, List.set_cons_zero, List.set_cons_succ, i64_w, i32_w]
    rfl
  refine pure_ (i := 11) (N := some 78) (v := ?_) (a' := ?_) #[true, true, true, true, true, true, false, true, true, false, true, true, false, false, false, false, false, false, false, false, false, false, false, false, false, false, false, false, false, false] rfl rfl (any_of HT_.out (by kernel_rfl)) (fun c a w h => hQ0 c (a.put _ _) a w rfl h) (Or.inl ⟨by rfl, ?_⟩) ?_ ?_
  rotate_left
  · intro w'
    go_simp
    with_reducible rfl
  rotate_left
  · simp only [Act.put, List.setIfInBounds_toArray, List.set_cons_zero, List.set_cons_succ, i64_w, i32_w]
    rfl
  refine pure_ (i := 13) (N := some 80) (v := ?_) (a' := ?_) #[true, true, true, true, true, true, false, true, true, false, true, true, false, true, false, false, false, false, false, false, false, false, false, false, false, false, false, false, false, false] rfl rfl (any_of HT_.out (by kernel_rfl)) (fun c a w h => hQ0 c (a.put _ _) a w rfl h) (Or.inl ⟨by rfl, ?_⟩) ?_ ?_
  rotate_left
  · intro w'
    go_simp
    with_reducible rfl
  rotate_left
  · simp only [Act.put, List.setIfInBounds_toArray, List.set_cons_zero, List.set_cons_succ, i64_w, i32_w]
    rfl
  refine pure_ (i := 14) (N := some 81) (v := ?_) (a' := ?_) #[true, true, true, true, true, true, false, true, true, false, true, true, false, true, true, false, false, false, false, false, false, false, false, false, false, false, false, false, false, false] rfl rfl (any_of HT_.out (by kernel_rfl)) (fun c a w h => hQ0 c (a.put _ _) a w rfl h) (Or.inl ⟨by rfl, ?_⟩) ?_ ?_
  rotate_left
  · intro w'
    go_simp
    with_reducible rfl
  rotate_left
  · simp only [Act.put, List.setIfInBounds_toArray, List.set_cons_zero, List.set_cons_succ, i64_w, i32_w]
    rfl
  refine take_ (i := 6) (N := some 73) (v := ?_) (a' := ?_) #[true, true, true, true, true, true, true, true, true, false, true, true, false, true, true, false, false, false, false, false, false, false, false, false, false, false, false, false, false, false] rfl rfl (take_ofW HT_.out HW_.out (by kernel_rfl)) (fun c a w h => hQ0 c (a.put _ _) a w rfl h) (Or.inl ⟨by rfl, ?_⟩) hHeld ?_ ?_
  rotate_left
  · rintro w' ⟨s0, s1, s2, s3⟩
    go_simp
    with_reducible rfl
  rotate_left
  · simp only [Act.put, List.setIfInBounds_toArray, List.set_cons_zero, List.set_cons_succ, i64_w, i32_w]
    rfl
  refine take_ (i := 9) (N := some 76) (v := ?_) (a' := ?_) #[true, true, true, true, true, true, true, true, true, true, true, true, false, true, true, false, false, false, false, false, false, false, false, false, false, false, false, false, false, false] rfl rfl (take_ofW HT_.out HW_.out (by kernel_rfl)) (fun c a w h => hQ0 c (a.put _ _) a w rfl h) (Or.inl ⟨by rfl, ?_⟩) hHeld ?_ ?_
  rotate_left
  · rintro w' ⟨s0, s1, s2, s3⟩
    go_simp
    with_reducible rfl
  rotate_left
  · simp only [Act.put, List.setIfInBounds_toArray, List.set_cons_zero, List.set_cons_succ, i64_w, i32_w]
    rfl
  refine take_ (i := 12) (N := some 79) (v := ?_) (a' := ?_) #[true, true, true, true, true, true, true, true, true, true, true, true, true, true, true, false, false, false, false, false, false, false, false, false, false, false, false, false, false, false] rfl rfl (take_ofW HT_.out HW_.out (by kernel_rfl)) (fun c a w h => hQ0 c (a.put _ _) a w rfl h) (Or.inl ⟨by rfl, ?_⟩) hHeld ?_ ?_
  rotate_left
  · rintro w' ⟨s0, s1, s2, s3⟩
    go_simp
    with_reducible rfl
  rotate_left
  · simp only [Act.put, List.setIfInBounds_toArray, List.set_cons_zero, List.set_cons_succ, i64_w, i32_w]
    rfl
  refine take_ (i := 15) (N := some 82) (v := ?_) (a' := ?_) #[true, true, true, true, true, true, true, true, true, true, true, true, true, true, true, true, false, false, false, false, false, false, false, false, false, false, false, false, false, false] rfl rfl (take_ofW HT_.out HW_.out (by kernel_rfl)) (fun c a w h => hQ0 c (a.put _ _) a w rfl h) (Or.inl ⟨by rfl, ?_⟩) hHeld ?_ ?_
  rotate_left
  · rintro w' ⟨s0, s1, s2, s3⟩
    go_simp
    with_reducible rfl
  rotate_left
  · simp only [Act.put, List.setIfInBounds_toArray, List.set_cons_zero, List.set_cons_succ, i64_w, i32_w]
    rfl
  refine one_ (i := 16) (N := some 83) #[true, true, true, true, true, true, true, true, true, true, true, true, true, true, true, true, true, false, false, false, false, false, false, false, false, false, false, false, false, false] rfl rfl (one_of HT_.out (by kernel_rfl)) (by decide) (fun K hK => ?_)
  refine goes_ Try.func43 (by kernel_rfl) rfl #[.int .u32 va, .int .u32 vb, .int .u32 vc, .int .u32 vd] (by rfl) rfl rfl (by (try simp only [List.map_toArray, List.map_cons, List.map_nil]); first | done | rfl) ?_
  with_reducible refine (quarter_calls va vb vc vd la lb lc ld _).mono ?_
  rintro e w12 ⟨rfl, hb⟩
  refine ⟨_, rfl, ?_⟩
  have n0_ := Aside0.mk (HBk.out.below hb)
  have n1_ := Aside0.mk (below_step HL1.out hb)
  clear HBk HL1 hb
  have HBk := n0_
  have HL1 := n1_
  clear n0_ n1_
  refine hK.out _ _ ⟨(HL1.out.cell (World.block_lt_of_cell? w _ hwa)).trans hwa, (HL1.out.cell (World.block_lt_of_cell? w _ hwb)).trans hwb, (HL1.out.cell (World.block_lt_of_cell? w _ hwc)).trans hwc, (HL1.out.cell (World.block_lt_of_cell? w _ hwd)).trans hwd⟩ (fun hHeld => ?_)
  clear hK K
  refine norm_ (a' := ?_) ?_ ?_
  rotate_left
  · show Act.put _ (some 83) _ = _
    simp only [Act.put, List.setIfInBounds_toArray, List.set_cons_zero, List.set_cons_succ, i64_w, i32_w]
    rfl
  have HG := Aside0.mk (HL1.out.mono (Nat.le_of_lt hB.lt))
  have HZ := Aside0.mk HL1.out.size
  clear HL1 hwa hwb hwc hwd hHeld
  generalize (qr va vb vc vd).getD 0 0 = q0 at h ⊢
  generalize (qr va vb vc vd).getD 1 0 = q1 at h ⊢
  generalize (qr va vb vc vd).getD 2 0 = q2 at h ⊢
  generalize (qr va vb vc vd).getD 3 0 = q3 at h ⊢
  refine pure_ (i := 17) (N := some 66) (v := ?_) (a' := ?_) #[true, true, true, true, true, true, true, true, true, true, true, true, true, true, true, true, true, true, false, false, false, false, false, false, false, false, false, false, false, false] rfl rfl (any_of HT_.out (by kernel_rfl)) (fun c a w h => hQ0 c (a.put _ _) a w rfl h) (Or.inl ⟨by rfl, ?_⟩) ?_ ?_
  rotate_left
  · intro w'
    go_simp
    with_reducible rfl
  rotate_left
  · simp only [Act.put, List.setIfInBounds_toArray, List.set_cons_zero, List.set_cons_succ, i64_w, i32_w]
    rfl
  refine pure_ (i := 18) (N := some 84) (v := ?_) (a' := ?_) #[true, true, true, true, true, true, true, true, true, true, true, true, true, true, true, true, true, true, true, false, false, false, false, false, false, false, false, false, false, false] rfl rfl (any_of HT_.out (by kernel_rfl)) (fun c a w h => hQ0 c (a.put _ _) a w rfl h) (Or.inl ⟨by rfl, ?_⟩) ?_ ?_
  rotate_left
  · intro w'
    go_simp
    with_reducible rfl
  rotate_left
  · simp only [Act.put, List.setIfInBounds_toArray, List.set_cons_zero, List.set_cons_succ, i64_w, i32_w]
    rfl
  refine pure_ (i := 19) (N := some 85) (v := ?_) (a' := ?_) #[true, true, true, true, true, true, true, true, true, true, true, true, true, true, true, true, true, true, true, true, false, false, false, false, false, false, false, false, false, false] rfl rfl (any_of HT_.out (by kernel_rfl)) (fun c a w h => hQ0 c (a.put _ _) a w rfl h) (Or.inl ⟨by rfl, ?_⟩) ?_ ?_
  rotate_left
  · intro w'
    go_simp
    with_reducible rfl
  rotate_left
  · simp only [Act.put, List.setIfInBounds_toArray, List.set_cons_zero, List.set_cons_succ, i64_w, i32_w]
    rfl
  refine pure_ (i := 20) (N := some 86) (v := ?_) (a' := ?_) #[true, true, true, true, true, true, true, true, true, true, true, true, true, true, true, true, true, true, true, true, true, false, false, false, false, false, false, false, false, false] rfl rfl (any_of HT_.out (by kernel_rfl)) (fun c a w h => hQ0 c (a.put _ _) a w rfl h) (Or.inl ⟨by rfl, ?_⟩) ?_ ?_
  rotate_left
  · intro w'
    go_simp
    with_reducible rfl
  rotate_left
  · simp only [Act.put, List.setIfInBounds_toArray, List.set_cons_zero, List.set_cons_succ, i64_w, i32_w]
    rfl
  refine pure_ (i := 21) (N := some 87) (v := ?_) (a' := ?_) #[true, true, true, true, true, true, true, true, true, true, true, true, true, true, true, true, true, true, true, true, true, true, false, false, false, false, false, false, false, false] rfl rfl (any_of HT_.out (by kernel_rfl)) (fun c a w h => hQ0 c (a.put _ _) a w rfl h) (Or.inl ⟨by rfl, ?_⟩) ?_ ?_
  rotate_left
  · intro w'
    go_simp
    with_reducible rfl
  rotate_left
  · simp only [Act.put, List.setIfInBounds_toArray, List.set_cons_zero, List.set_cons_succ, i64_w, i32_w]
    rfl
  refine pure_ (i := 22) (N := some 88) (v := ?_) (a' := ?_) #[true, true, true, true, true, true, true, true, true, true, true, true, true, true, true, true, true, true, true, true, true, true, true, false, false, false, false, false, false, false] rfl rfl (any_of HT_.out (by kernel_rfl)) (fun c a w h => hQ0 c (a.put _ _) a w rfl h) (Or.inl ⟨by rfl, ?_⟩) ?_ ?_
  rotate_left
  · intro w'
    go_simp
    with_reducible rfl
  rotate_left
  · simp only [Act.put, List.setIfInBounds_toArray, List.set_cons_zero, List.set_cons_succ, i64_w, i32_w]
    rfl
  have hcf0 := HBk.out.wat ia (by have hi := HI.out; (try simp only [List.length_set]); omega)
  have hc0 := hcf0.1
  have hf0 := hcf0.2
  refine last_ (i := 23) (N := none) #[true, true, true, true, true, true, true, true, true, true, true, true, true, true, true, true, true, true, true, true, true, true, true, true, false, false, false, false, false, false] rfl rfl (one_of HT_.out (by kernel_rfl)) (by decide) (fun K hK => ?_)
  refine skip_ (w1 := ?_) (by rfl) rfl ?_ ?_
  rotate_left
  · go_simp
    rfl
  refine hK.out _ _ ?_
  clear hK K hcf0 hc0 hf0
  have n0_ := Aside0.mk (HBk.out.wset ia q0)
  have n1_ := Aside0.mk (HG.out.setCell (p := ⟨g, ia, none⟩) (Nat.le_refl g) (.int .u32 (q0 : Int)))
  have n2_ := Aside0.mk (le_set HZ.out ⟨g, ia, none⟩ (.int .u32 (q0 : Int)))
  clear HBk HG HZ
  have HBk := n0_
  have HG := n1_
  have HZ := n2_
  clear n0_ n1_ n2_
  generalize World.setCell _ ⟨g, ia, none⟩ _ = wn0 at HBk HG HZ ⊢
  refine pure_ (i := 24) (N := some 89) (v := ?_) (a' := ?_) #[true, true, true, true, true, true, true, true, true, true, true, true, true, true, true, true, true, true, true, true, true, true, true, true, true, false, false, false, false, false] rfl rfl (any_of HT_.out (by kernel_rfl)) (fun c a w h => hQ0 c (a.put _ _) a w rfl h) (Or.inl ⟨by rfl, ?_⟩) ?_ ?_
  rotate_left
  · intro w'
    go_simp
    with_reducible rfl
  rotate_left
  · simp only [Act.put, List.setIfInBounds_toArray, List.set_cons_zero, List.set_cons_succ, i64_w, i32_w]
    rfl
  have hcf1 := HBk.out.wat ib (by have hi := HI.out; (try simp only [List.length_set]); omega)
  have hc1 := hcf1.1
  have hf1 := hcf1.2
  refine last_ (i := 25) (N := none) #[true, true, true, true, true, true, true, true, true, true, true, true, true, true, true, true, true, true, true, true, true, true, true, true, true, true, false, false, false, false] rfl rfl (one_of HT_.out (by kernel_rfl)) (by decide) (fun K hK => ?_)
  refine skip_ (w1 := ?_) (by rfl) rfl ?_ ?_
  rotate_left
  · go_simp
    rfl
  refine hK.out _ _ ?_
  clear hK K hcf1 hc1 hf1
  have n0_ := Aside0.mk (HBk.out.wset ib q1)
  have n1_ := Aside0.mk (HG.out.setCell (p := ⟨g, ib, none⟩) (Nat.le_refl g) (.int .u32 (q1 : Int)))
  have n2_ := Aside0.mk (le_set HZ.out ⟨g, ib, none⟩ (.int .u32 (q1 : Int)))
  clear HBk HG HZ
  have HBk := n0_
  have HG := n1_
  have HZ := n2_
  clear n0_ n1_ n2_
  generalize World.setCell _ ⟨g, ib, none⟩ _ = wn1 at HBk HG HZ ⊢
  refine pure_ (i := 26) (N := some 90) (v := ?_) (a' := ?_) #[true, true, true, true, true, true, true, true, true, true, true, true, true, true, true, true, true, true, true, true, true, true, true, true, true, true, true, false, false, false] rfl rfl (any_of HT_.out (by kernel_rfl)) (fun c a w h => hQ0 c (a.put _ _) a w rfl h) (Or.inl ⟨by rfl, ?_⟩) ?_ ?_
  rotate_left
  · intro w'
    go_simp
    with_reducible rfl
  rotate_left
  · simp only [Act.put, List.setIfInBounds_toArray, List.set_cons_zero, List.set_cons_succ, i64_w, i32_w]
    rfl
  have hcf2 := HBk.out.wat ic (by have hi := HI.out; (try simp only [List.length_set]); omega)
  have hc2 := hcf2.1
  have hf2 := hcf2.2
  refine last_ (i := 27) (N := none) #[true, true, true, true, true, true, true, true, true, true, true, true, true, true, true, true, true, true, true, true, true, true, true, true, true, true, true, true, false, false] rfl rfl (one_of HT_.out (by kernel_rfl)) (by decide) (fun K hK => ?_)
  refine skip_ (w1 := ?_) (by rfl) rfl ?_ ?_
  rotate_left
  · go_simp
    rfl
  refine hK.out _ _ ?_
  clear hK K hcf2 hc2 hf2
  have n0_ := Aside0.mk (HBk.out.wset ic q2)
  have n1_ := Aside0.mk (HG.out.setCell (p := ⟨g, ic, none⟩) (Nat.le_refl g) (.int .u32 (q2 : Int)))
  have n2_ := Aside0.mk (le_set HZ.out ⟨g, ic, none⟩ (.int .u32 (q2 : Int)))
  clear HBk HG HZ
  have HBk := n0_
  have HG := n1_
  have HZ := n2_
  clear n0_ n1_ n2_
  generalize World.setCell _ ⟨g, ic, none⟩ _ = wn2 at HBk HG HZ ⊢
  refine pure_ (i := 28) (N := some 91) (v := ?_) (a' := ?_) #[true, true, true, true, true, true, true, true, true, true, true, true, true, true, true, true, true, true, true, true, true, true, true, true, true, true, true, true, true, false] rfl rfl (any_of HT_.out (by kernel_rfl)) (fun c a w h => hQ0 c (a.put _ _) a w rfl h) (Or.inl ⟨by rfl, ?_⟩) ?_ ?_
  rotate_left
  · intro w'
    go_simp
    with_reducible rfl
  rotate_left
  · simp only [Act.put, List.setIfInBounds_toArray, List.set_cons_zero, List.set_cons_succ, i64_w, i32_w]
    rfl
  have hcf3 := HBk.out.wat id (by have hi := HI.out; (try simp only [List.length_set]); omega)
  have hc3 := hcf3.1
  have hf3 := hcf3.2
  refine last_ (i := 29) (N := none) #[true, true, true, true, true, true, true, true, true, true, true, true, true, true, true, true, true, true, true, true, true, true, true, true, true, true, true, true, true, true] rfl rfl (one_of HT_.out (by kernel_rfl)) (by decide) (fun K hK => ?_)
  refine skip_ (w1 := ?_) (by rfl) rfl ?_ ?_
  rotate_left
  · go_simp
    rfl
  refine hK.out _ _ ?_
  clear hK K hcf3 hc3 hf3
  have n0_ := Aside0.mk (HBk.out.wset id q3)
  have n1_ := Aside0.mk (HG.out.setCell (p := ⟨g, id, none⟩) (Nat.le_refl g) (.int .u32 (q3 : Int)))
  have n2_ := Aside0.mk (le_set HZ.out ⟨g, id, none⟩ (.int .u32 (q3 : Int)))
  clear HBk HG HZ
  have HBk := n0_
  have HG := n1_
  have HZ := n2_
  clear n0_ n1_ n2_
  generalize World.setCell _ ⟨g, id, none⟩ _ = wn3 at HBk HG HZ ⊢
  refine done_ (done_of HT_.out (by kernel_rfl)) ?_
  exact h _ _ _ _ _ _ _ _ _ _ _ _ _ _ _ _ _ _ _ _ _ _ _ _ _ _ _ HG.out HZ.out HBk.out
end

section
open Go.RowKit Go.Shelf Go.Proofs.YtihpnededldedaaW.PrintWords Go.Proofs.YtihpnededldedaaW.PrintLast Go.Proofs.YtihpnededldedaaW.PrintMore Go.Proofs.Ytihpnededldedaa.PCha

set_option maxRecDepth 1000000 in
set_option maxHeartbeats 16000000 in
theorem strA_wp (g : Nat) (v : List Nat) (u0 u1 u2 u3 u4 u5 u6 u7 u8 u10 u12 u13 u14 u15 u16 u17 u18 u19 u20 u21 u22 u23 u24 u25 u26 u27 u28 u29 u30 u31 u32 u33 u34 u35 u36 u37 u38 u39 u40 u41 u42 u43 u44 u45 u47 u48 u49 u50 u51 u52 u53 u54 u55 u56 u57 u58 u59 u60 u61 u62 u63 u64 u65 u66 u67 u68 u69 u70 u71 u72 u73 u74 u75 u76 u77 u78 u79 u80 u81 u82 u83 u84 u85 u86 u87 u88 u89 u90 u91 u92 u93 u94 u95 u96 u97 u98 u99 u100 u101 u102 u103 u104 u105 u106 u107 u108 u109 u110 : Value) (Q0 : Exit → Act → World → Prop) (w : World) (hQ0 : ∀ c (a a' : Act) w, a.defers = a'.defers → Q0 (.panic c) a w → Q0 (.panic c) a' w) (hv : W16 v) (hB : Blk w g 78 (wds .u32 v))
    (hexit : ∀ (x12 x13 x14 x15 x47 x48 x49 x50 x51 x52 x53 x54 x55 x56 x57 x58 x59 x60 x61 x62 x63 x64 x65 x66 x67 x68 x69 x70 x71 x72 x73 x74 x75 x76 x77 x78 x79 x80 x81 x82 x83 x84 x85 x86 x87 x88 x89 x90 x91 x92 : Value) (w' : World), Blk w' g 78 (wds .u32 (halfA v 4)) ∧ Below g w w' ∧ w.heap.size ≤ w'.heap.size → Q0 (.exit 6) ⟨List.toArray (u0 :: u1 :: u2 :: u3 :: u4 :: u5 :: u6 :: u7 :: u8 :: (.pointer (some ⟨g, 0, none⟩)) :: u10 :: (.int .i64 0) :: x12 :: x13 :: x14 :: x15 :: u16 :: u17 :: u18 :: u19 :: u20 :: u21 :: u22 :: u23 :: u24 :: u25 :: u26 :: u27 :: u28 :: u29 :: u30 :: u31 :: u32 :: u33 :: u34 :: u35 :: u36 :: u37 :: u38 :: u39 :: u40 :: u41 :: u42 :: u43 :: u44 :: u45 :: (.int .i64 4) :: x47 :: x48 :: x49 :: x50 :: x51 :: x52 :: x53 :: x54 :: x55 :: x56 :: x57 :: x58 :: x59 :: x60 :: x61 :: x62 :: x63 :: x64 :: x65 :: x66 :: x67 :: x68 :: x69 :: x70 :: x71 :: x72 :: x73 :: x74 :: x75 :: x76 :: x77 :: x78 :: x79 :: x80 :: x81 :: x82 :: x83 :: x84 :: x85 :: x86 :: x87 :: x88 :: x89 :: x90 :: x91 :: x92 :: u93 :: u94 :: u95 :: u96 :: u97 :: u98 :: u99 :: u100 :: u101 :: u102 :: u103 :: u104 :: u105 :: u106 :: u107 :: u108 :: u109 :: u110 :: []), []⟩ w') :
    Code.wp Try.prog (loopNo Try.f47 3) Q0 ⟨List.toArray (u0 :: u1 :: u2 :: u3 :: u4 :: u5 :: u6 :: u7 :: u8 :: (.pointer (some ⟨g, 0, none⟩)) :: u10 :: (.int .i64 0) :: u12 :: u13 :: u14 :: u15 :: u16 :: u17 :: u18 :: u19 :: u20 :: u21 :: u22 :: u23 :: u24 :: u25 :: u26 :: u27 :: u28 :: u29 :: u30 :: u31 :: u32 :: u33 :: u34 :: u35 :: u36 :: u37 :: u38 :: u39 :: u40 :: u41 :: u42 :: u43 :: u44 :: u45 :: (.int .i64 0) :: u47 :: u48 :: u49 :: u50 :: u51 :: u52 :: u53 :: u54 :: u55 :: u56 :: u57 :: u58 :: u59 :: u60 :: u61 :: u62 :: u63 :: u64 :: u65 :: u66 :: u67 :: u68 :: u69 :: u70 :: u71 :: u72 :: u73 :: u74 :: u75 :: u76 :: u77 :: u78 :: u79 :: u80 :: u81 :: u82 :: u83 :: u84 :: u85 :: u86 :: u87 :: u88 :: u89 :: u90 :: u91 :: u92 :: u93 :: u94 :: u95 :: u96 :: u97 :: u98 :: u99 :: u100 :: u101 :: u102 :: u103 :: u104 :: u105 :: u106 :: u107 :: u108 :: u109 :: u110 :: []), []⟩ w := by
  conv => arg 2; whnf
  have HX := Lib.hid hexit
  clear hexit
  go_loopg [46] 4 (fun gg s_ wr => ∃ k : Nat, s_ = .int .i64 k ∧ k ≤ 4 ∧ 4 ≤ gg + k ∧ Aside0 (Blk wr g 78 (wds .u32 (halfA v k))) ∧ Aside0 (Below g w wr) ∧ Aside0 (w.heap.size ≤ wr.heap.size))
  case atStart => exact ⟨0, rfl, by omega, by omega, ⟨hB⟩, ⟨Below.refl _ _⟩, ⟨Nat.le_refl _⟩⟩
  case round =>
    obtain ⟨k, rfl, hi, hg, HB, HL, HZ⟩ := hrel
    by_cases hlt : k < 4
    · obtain rfl | rfl | rfl | rfl : k = 0 ∨ k = 1 ∨ k = 2 ∨ k = 3 := by omega
      · have U := hv.halfA 0
        go_wp2
        refine stream_r18 _ g (halfA v 0) 0 4 8 12 _ _ _ _ wr _ _ _ _ _ _ _ _ _ _ _ _ _ _ _ _ _ _ _ _ _ _ _ _ _ _ _ _ _ _ _ _ _ _ _ _ _ _ _ _ _ _ _ _ _ _ _ _ _ _ _ _ _ _ _ _ _ _ _ _ _ _ _ _ _ _ _ _ _ _ _ _ _ _ _ _ _ _ _ _ _ _ _ _ _ _ _ _ _ _ _ _ _ _ _ _ _ _ _ _ _ _ _ _ _ _ (fun c a a' w e h => hQ0 c a a' w e h) HB.out U.1 (by decide) (by decide) (by decide) (by decide) rfl rfl rfl rfl (U.2 _) (U.2 _) (U.2 _) (U.2 _) ?_
        intro w2 y66 y67 y68 y69 y70 y71 y72 y73 y74 y75 y76 y77 y78 y79 y80 y81 y82 y83 y84 y85 y86 y87 y88 y89 y90 y91 L2 Z2 B2
        have B3 : Blk w2 g 78 (wds .u32 (halfA v (0 + 1))) := B2
        have L3 := Aside0.mk (HL.out.trans L2)
        have Z3 := Aside0.mk (Nat.le_trans HZ.out Z2)
        replace B3 := Aside0.mk B3
        clear HB HL HZ L2 Z2 B2
        go_wp2
        go_roundg (4 - (0 + 1))
        case measure => omega
        case rel => exact ⟨0 + 1, by first | rfl | go_num, by omega, by omega, B3, L3, Z3⟩
      · have U := hv.halfA 1
        go_wp2
        refine stream_r18 _ g (halfA v 1) 1 5 9 13 _ _ _ _ wr _ _ _ _ _ _ _ _ _ _ _ _ _ _ _ _ _ _ _ _ _ _ _ _ _ _ _ _ _ _ _ _ _ _ _ _ _ _ _ _ _ _ _ _ _ _ _ _ _ _ _ _ _ _ _ _ _ _ _ _ _ _ _ _ _ _ _ _ _ _ _ _ _ _ _ _ _ _ _ _ _ _ _ _ _ _ _ _ _ _ _ _ _ _ _ _ _ _ _ _ _ _ _ _ _ _ (fun c a a' w e h => hQ0 c a a' w e h) HB.out U.1 (by decide) (by decide) (by decide) (by decide) rfl rfl rfl rfl (U.2 _) (U.2 _) (U.2 _) (U.2 _) ?_
        intro w2 y66 y67 y68 y69 y70 y71 y72 y73 y74 y75 y76 y77 y78 y79 y80 y81 y82 y83 y84 y85 y86 y87 y88 y89 y90 y91 L2 Z2 B2
        have B3 : Blk w2 g 78 (wds .u32 (halfA v (1 + 1))) := B2
        have L3 := Aside0.mk (HL.out.trans L2)
        have Z3 := Aside0.mk (Nat.le_trans HZ.out Z2)
        replace B3 := Aside0.mk B3
        clear HB HL HZ L2 Z2 B2
        go_wp2
        go_roundg (4 - (1 + 1))
        case measure => omega
        case rel => exact ⟨1 + 1, by first | rfl | go_num, by omega, by omega, B3, L3, Z3⟩
      · have U := hv.halfA 2
        go_wp2
        refine stream_r18 _ g (halfA v 2) 2 6 10 14 _ _ _ _ wr _ _ _ _ _ _ _ _ _ _ _ _ _ _ _ _ _ _ _ _ _ _ _ _ _ _ _ _ _ _ _ _ _ _ _ _ _ _ _ _ _ _ _ _ _ _ _ _ _ _ _ _ _ _ _ _ _ _ _ _ _ _ _ _ _ _ _ _ _ _ _ _ _ _ _ _ _ _ _ _ _ _ _ _ _ _ _ _ _ _ _ _ _ _ _ _ _ _ _ _ _ _ _ _ _ _ (fun c a a' w e h => hQ0 c a a' w e h) HB.out U.1 (by decide) (by decide) (by decide) (by decide) rfl rfl rfl rfl (U.2 _) (U.2 _) (U.2 _) (U.2 _) ?_
        intro w2 y66 y67 y68 y69 y70 y71 y72 y73 y74 y75 y76 y77 y78 y79 y80 y81 y82 y83 y84 y85 y86 y87 y88 y89 y90 y91 L2 Z2 B2
        have B3 : Blk w2 g 78 (wds .u32 (halfA v (2 + 1))) := B2
        have L3 := Aside0.mk (HL.out.trans L2)
        have Z3 := Aside0.mk (Nat.le_trans HZ.out Z2)
        replace B3 := Aside0.mk B3
        clear HB HL HZ L2 Z2 B2
        go_wp2
        go_roundg (4 - (2 + 1))
        case measure => omega
        case rel => exact ⟨2 + 1, by first | rfl | go_num, by omega, by omega, B3, L3, Z3⟩
      · have U := hv.halfA 3
        go_wp2
        refine stream_r18 _ g (halfA v 3) 3 7 11 15 _ _ _ _ wr _ _ _ _ _ _ _ _ _ _ _ _ _ _ _ _ _ _ _ _ _ _ _ _ _ _ _ _ _ _ _ _ _ _ _ _ _ _ _ _ _ _ _ _ _ _ _ _ _ _ _ _ _ _ _ _ _ _ _ _ _ _ _ _ _ _ _ _ _ _ _ _ _ _ _ _ _ _ _ _ _ _ _ _ _ _ _ _ _ _ _ _ _ _ _ _ _ _ _ _ _ _ _ _ _ _ (fun c a a' w e h => hQ0 c a a' w e h) HB.out U.1 (by decide) (by decide) (by decide) (by decide) rfl rfl rfl rfl (U.2 _) (U.2 _) (U.2 _) (U.2 _) ?_
        intro w2 y66 y67 y68 y69 y70 y71 y72 y73 y74 y75 y76 y77 y78 y79 y80 y81 y82 y83 y84 y85 y86 y87 y88 y89 y90 y91 L2 Z2 B2
        have B3 : Blk w2 g 78 (wds .u32 (halfA v (3 + 1))) := B2
        have L3 := Aside0.mk (HL.out.trans L2)
        have Z3 := Aside0.mk (Nat.le_trans HZ.out Z2)
        replace B3 := Aside0.mk B3
        clear HB HL HZ L2 Z2 B2
        go_wp2
        go_roundg (4 - (3 + 1))
        case measure => omega
        case rel => exact ⟨3 + 1, by first | rfl | go_num, by omega, by omega, B3, L3, Z3⟩
    · have c1 : decide ((k : Int) < 4) = false := decide_eq_false (by omega)
      have c2 : decide (k < 4) = false := decide_eq_false (by omega)
      obtain rfl : k = 4 := by omega
      go_wp2
      have P1 := HB.out
      have P2 := HL.out
      have P3 := HZ.out
      refine HX.out _ _ _ _ _ _ _ _ _ _ _ _ _ _ _ _ _ _ _ _ _ _ _ _ _ _ _ _ _ _ _ _ _ _ _ _ _ _ _ _ _ _ _ _ _ _ _ _ _ _ _ ?_
      exact ⟨P1, P2, P3⟩


set_option maxRecDepth 1000000 in
set_option maxHeartbeats 16000000 in
theorem strB_wp (g : Nat) (v : List Nat) (u0 u1 u2 u3 u4 u5 u6 u7 u8 u10 u12 u13 u14 u15 u16 u17 u18 u19 u20 u21 u22 u23 u24 u25 u26 u27 u28 u29 u30 u31 u32 u33 u34 u35 u36 u37 u38 u39 u40 u41 u42 u43 u44 u45 u47 u48 u49 u50 u51 u52 u53 u54 u55 u56 u57 u58 u59 u60 u61 u62 u63 u64 u65 u66 u67 u68 u69 u70 u71 u72 u73 u74 u75 u76 u77 u78 u79 u80 u81 u82 u83 u84 u85 u86 u87 u88 u89 u90 u91 u92 u93 u94 u95 u96 u97 u98 u99 u100 u101 u102 u103 u104 u105 u106 u107 u108 u109 u110 : Value) (Q0 : Exit → Act → World → Prop) (w : World) (hQ0 : ∀ c (a a' : Act) w, a.defers = a'.defers → Q0 (.panic c) a w → Q0 (.panic c) a' w) (hv : W16 v) (hB : Blk w g 78 (wds .u32 v))
    (hexit : ∀ (x12 x13 x14 x15 x47 x48 x49 x50 x51 x52 x53 x54 x55 x56 x57 x58 x59 x60 x61 x62 x63 x64 x65 x66 x67 x68 x69 x70 x71 x72 x73 x74 x75 x76 x77 x78 x79 x80 x81 x82 x83 x84 x85 x86 x87 x88 x89 x90 x91 x92 : Value) (w' : World), Blk w' g 78 (wds .u32 (halfB v 4)) ∧ Below g w w' ∧ w.heap.size ≤ w'.heap.size → Q0 (.exit 6) ⟨List.toArray (u0 :: u1 :: u2 :: u3 :: u4 :: u5 :: u6 :: u7 :: u8 :: (.pointer (some ⟨g, 0, none⟩)) :: u10 :: (.int .i64 1) :: x12 :: x13 :: x14 :: x15 :: u16 :: u17 :: u18 :: u19 :: u20 :: u21 :: u22 :: u23 :: u24 :: u25 :: u26 :: u27 :: u28 :: u29 :: u30 :: u31 :: u32 :: u33 :: u34 :: u35 :: u36 :: u37 :: u38 :: u39 :: u40 :: u41 :: u42 :: u43 :: u44 :: u45 :: (.int .i64 4) :: x47 :: x48 :: x49 :: x50 :: x51 :: x52 :: x53 :: x54 :: x55 :: x56 :: x57 :: x58 :: x59 :: x60 :: x61 :: x62 :: x63 :: x64 :: x65 :: x66 :: x67 :: x68 :: x69 :: x70 :: x71 :: x72 :: x73 :: x74 :: x75 :: x76 :: x77 :: x78 :: x79 :: x80 :: x81 :: x82 :: x83 :: x84 :: x85 :: x86 :: x87 :: x88 :: x89 :: x90 :: x91 :: x92 :: u93 :: u94 :: u95 :: u96 :: u97 :: u98 :: u99 :: u100 :: u101 :: u102 :: u103 :: u104 :: u105 :: u106 :: u107 :: u108 :: u109 :: u110 :: []), []⟩ w') :
    Code.wp Try.prog (loopNo Try.f47 3) Q0 ⟨List.toArray (u0 :: u1 :: u2 :: u3 :: u4 :: u5 :: u6 :: u7 :: u8 :: (.pointer (some ⟨g, 0, none⟩)) :: u10 :: (.int .i64 1) :: u12 :: u13 :: u14 :: u15 :: u16 :: u17 :: u18 :: u19 :: u20 :: u21 :: u22 :: u23 :: u24 :: u25 :: u26 :: u27 :: u28 :: u29 :: u30 :: u31 :: u32 :: u33 :: u34 :: u35 :: u36 :: u37 :: u38 :: u39 :: u40 :: u41 :: u42 :: u43 :: u44 :: u45 :: (.int .i64 0) :: u47 :: u48 :: u49 :: u50 :: u51 :: u52 :: u53 :: u54 :: u55 :: u56 :: u57 :: u58 :: u59 :: u60 :: u61 :: u62 :: u63 :: u64 :: u65 :: u66 :: u67 :: u68 :: u69 :: u70 :: u71 :: u72 :: u73 :: u74 :: u75 :: u76 :: u77 :: u78 :: u79 :: u80 :: u81 :: u82 :: u83 :: u84 :: u85 :: u86 :: u87 :: u88 :: u89 :: u90 :: u91 :: u92 :: u93 :: u94 :: u95 :: u96 :: u97 :: u98 :: u99 :: u100 :: u101 :: u102 :: u103 :: u104 :: u105 :: u106 :: u107 :: u108 :: u109 :: u110 :: []), []⟩ w := by
  conv => arg 2; whnf
  have HX := Lib.hid hexit
  clear hexit
  go_loopg [46] 4 (fun gg s_ wr => ∃ k : Nat, s_ = .int .i64 k ∧ k ≤ 4 ∧ 4 ≤ gg + k ∧ Aside0 (Blk wr g 78 (wds .u32 (halfB v k))) ∧ Aside0 (Below g w wr) ∧ Aside0 (w.heap.size ≤ wr.heap.size))
  case atStart => exact ⟨0, rfl, by omega, by omega, ⟨hB⟩, ⟨Below.refl _ _⟩, ⟨Nat.le_refl _⟩⟩
  case round =>
    obtain ⟨k, rfl, hi, hg, HB, HL, HZ⟩ := hrel
    by_cases hlt : k < 4
    · obtain rfl | rfl | rfl | rfl : k = 0 ∨ k = 1 ∨ k = 2 ∨ k = 3 := by omega
      · have U := hv.halfB 0
        go_wp2
        refine stream_r18 _ g (halfB v 0) 0 5 10 15 _ _ _ _ wr _ _ _ _ _ _ _ _ _ _ _ _ _ _ _ _ _ _ _ _ _ _ _ _ _ _ _ _ _ _ _ _ _ _ _ _ _ _ _ _ _ _ _ _ _ _ _ _ _ _ _ _ _ _ _ _ _ _ _ _ _ _ _ _ _ _ _ _ _ _ _ _ _ _ _ _ _ _ _ _ _ _ _ _ _ _ _ _ _ _ _ _ _ _ _ _ _ _ _ _ _ _ _ _ _ _ (fun c a a' w e h => hQ0 c a a' w e h) HB.out U.1 (by decide) (by decide) (by decide) (by decide) rfl rfl rfl rfl (U.2 _) (U.2 _) (U.2 _) (U.2 _) ?_
        intro w2 y66 y67 y68 y69 y70 y71 y72 y73 y74 y75 y76 y77 y78 y79 y80 y81 y82 y83 y84 y85 y86 y87 y88 y89 y90 y91 L2 Z2 B2
        have B3 : Blk w2 g 78 (wds .u32 (halfB v (0 + 1))) := B2
        have L3 := Aside0.mk (HL.out.trans L2)
        have Z3 := Aside0.mk (Nat.le_trans HZ.out Z2)
        replace B3 := Aside0.mk B3
        clear HB HL HZ L2 Z2 B2
        go_wp2
        go_roundg (4 - (0 + 1))
        case measure => omega
        case rel => exact ⟨0 + 1, by first | rfl | go_num, by omega, by omega, B3, L3, Z3⟩
      · have U := hv.halfB 1
        go_wp2
        refine stream_r18 _ g (halfB v 1) 1 6 11 12 _ _ _ _ wr _ _ _ _ _ _ _ _ _ _ _ _ _ _ _ _ _ _ _ _ _ _ _ _ _ _ _ _ _ _ _ _ _ _ _ _ _ _ _ _ _ _ _ _ _ _ _ _ _ _ _ _ _ _ _ _ _ _ _ _ _ _ _ _ _ _ _ _ _ _ _ _ _ _ _ _ _ _ _ _ _ _ _ _ _ _ _ _ _ _ _ _ _ _ _ _ _ _ _ _ _ _ _ _ _ _ (fun c a a' w e h => hQ0 c a a' w e h) HB.out U.1 (by decide) (by decide) (by decide) (by decide) rfl rfl rfl rfl (U.2 _) (U.2 _) (U.2 _) (U.2 _) ?_
        intro w2 y66 y67 y68 y69 y70 y71 y72 y73 y74 y75 y76 y77 y78 y79 y80 y81 y82 y83 y84 y85 y86 y87 y88 y89 y90 y91 L2 Z2 B2
        have B3 : Blk w2 g 78 (wds .u32 (halfB v (1 + 1))) := B2
        have L3 := Aside0.mk (HL.out.trans L2)
        have Z3 := Aside0.mk (Nat.le_trans HZ.out Z2)
        replace B3 := Aside0.mk B3
        clear HB HL HZ L2 Z2 B2
        go_wp2
        go_roundg (4 - (1 + 1))
        case measure => omega
        case rel => exact ⟨1 + 1, by first | rfl | go_num, by omega, by omega, B3, L3, Z3⟩
      · have U := hv.halfB 2
        go_wp2
        refine stream_r18 _ g (halfB v 2) 2 7 8 13 _ _ _ _ wr _ _ _ _ _ _ _ _ _ _ _ _ _ _ _ _ _ _ _ _ _ _ _ _ _ _ _ _ _ _ _ _ _ _ _ _ _ _ _ _ _ _ _ _ _ _ _ _ _ _ _ _ _ _ _ _ _ _ _ _ _ _ _ _ _ _ _ _ _ _ _ _ _ _ _ _ _ _ _ _ _ _ _ _ _ _ _ _ _ _ _ _ _ _ _ _ _ _ _ _ _ _ _ _ _ _ (fun c a a' w e h => hQ0 c a a' w e h) HB.out U.1 (by decide) (by decide) (by decide) (by decide) rfl rfl rfl rfl (U.2 _) (U.2 _) (U.2 _) (U.2 _) ?_
        intro w2 y66 y67 y68 y69 y70 y71 y72 y73 y74 y75 y76 y77 y78 y79 y80 y81 y82 y83 y84 y85 y86 y87 y88 y89 y90 y91 L2 Z2 B2
        have B3 : Blk w2 g 78 (wds .u32 (halfB v (2 + 1))) := B2
        have L3 := Aside0.mk (HL.out.trans L2)
        have Z3 := Aside0.mk (Nat.le_trans HZ.out Z2)
        replace B3 := Aside0.mk B3
        clear HB HL HZ L2 Z2 B2
        go_wp2
        go_roundg (4 - (2 + 1))
        case measure => omega
        case rel => exact ⟨2 + 1, by first | rfl | go_num, by omega, by omega, B3, L3, Z3⟩
      · have U := hv.halfB 3
        go_wp2
        refine stream_r18 _ g (halfB v 3) 3 4 9 14 _ _ _ _ wr _ _ _ _ _ _ _ _ _ _ _ _ _ _ _ _ _ _ _ _ _ _ _ _ _ _ _ _ _ _ _ _ _ _ _ _ _ _ _ _ _ _ _ _ _ _ _ _ _ _ _ _ _ _ _ _ _ _ _ _ _ _ _ _ _ _ _ _ _ _ _ _ _ _ _ _ _ _ _ _ _ _ _ _ _ _ _ _ _ _ _ _ _ _ _ _ _ _ _ _ _ _ _ _ _ _ (fun c a a' w e h => hQ0 c a a' w e h) HB.out U.1 (by decide) (by decide) (by decide) (by decide) rfl rfl rfl rfl (U.2 _) (U.2 _) (U.2 _) (U.2 _) ?_
        intro w2 y66 y67 y68 y69 y70 y71 y72 y73 y74 y75 y76 y77 y78 y79 y80 y81 y82 y83 y84 y85 y86 y87 y88 y89 y90 y91 L2 Z2 B2
        have B3 : Blk w2 g 78 (wds .u32 (halfB v (3 + 1))) := B2
        have L3 := Aside0.mk (HL.out.trans L2)
        have Z3 := Aside0.mk (Nat.le_trans HZ.out Z2)
        replace B3 := Aside0.mk B3
        clear HB HL HZ L2 Z2 B2
        go_wp2
        go_roundg (4 - (3 + 1))
        case measure => omega
        case rel => exact ⟨3 + 1, by first | rfl | go_num, by omega, by omega, B3, L3, Z3⟩
    · have c1 : decide ((k : Int) < 4) = false := decide_eq_false (by omega)
      have c2 : decide (k < 4) = false := decide_eq_false (by omega)
      obtain rfl : k = 4 := by omega
      go_wp2
      have P1 := HB.out
      have P2 := HL.out
      have P3 := HZ.out
      refine HX.out _ _ _ _ _ _ _ _ _ _ _ _ _ _ _ _ _ _ _ _ _ _ _ _ _ _ _ _ _ _ _ _ _ _ _ _ _ _ _ _ _ _ _ _ _ _ _ _ _ _ _ ?_
      exact ⟨P1, P2, P3⟩
end

section
open Go.RowKit Go.Shelf Go.Proofs.YtihpnededldedaaW.PrintWords Go.Proofs.YtihpnededldedaaW.PrintLast Go.Proofs.YtihpnededldedaaW.PrintMore Go.Proofs.Ytihpnededldedaa.PCha

def stepW (v : List Nat) : Nat → List Nat
  | 0 => v
  | 1 => halfA v 4
  | _ => halfB (halfA v 4) 4
set_option maxRecDepth 1000000 in
set_option maxHeartbeats 16000000 in
theorem strS_wp (g : Nat) (v : List Nat) (u0 u1 u2 u3 u4 u5 u6 u7 u8 u10 u11 u12 u13 u14 u15 u16 u17 u18 u19 u20 u21 u22 u23 u24 u25 u26 u27 u28 u29 u30 u31 u32 u33 u34 u35 u36 u37 u38 u39 u40 u41 u42 u44 u45 u46 u47 u48 u49 u50 u51 u52 u53 u54 u55 u56 u57 u58 u59 u60 u61 u62 u63 u64 u65 u66 u67 u68 u69 u70 u71 u72 u73 u74 u75 u76 u77 u78 u79 u80 u81 u82 u83 u84 u85 u86 u87 u88 u89 u90 u91 u92 u93 u94 u95 u96 u97 u98 u99 u100 u101 u102 u103 u104 u105 u106 u107 u108 u109 u110 : Value) (Q0 : Exit → Act → World → Prop) (w : World) (hQ0 : ∀ c (a a' : Act) w, a.defers = a'.defers → Q0 (.panic c) a w → Q0 (.panic c) a' w) (hv : W16 v) (hB : Blk w g 78 (wds .u32 v))
    (hexit : ∀ (x11 x12 x13 x14 x15 x44 x45 x46 x47 x48 x49 x50 x51 x52 x53 x54 x55 x56 x57 x58 x59 x60 x61 x62 x63 x64 x65 x66 x67 x68 x69 x70 x71 x72 x73 x74 x75 x76 x77 x78 x79 x80 x81 x82 x83 x84 x85 x86 x87 x88 x89 x90 x91 x92 x93 : Value) (w' : World), Blk w' g 78 (wds .u32 (stepW v 2)) ∧ Below g w w' ∧ w.heap.size ≤ w'.heap.size → Q0 (.exit 4) ⟨List.toArray (u0 :: u1 :: u2 :: u3 :: u4 :: u5 :: u6 :: u7 :: u8 :: (.pointer (some ⟨g, 0, none⟩)) :: u10 :: x11 :: x12 :: x13 :: x14 :: x15 :: u16 :: u17 :: u18 :: u19 :: u20 :: u21 :: u22 :: u23 :: u24 :: u25 :: u26 :: u27 :: u28 :: u29 :: u30 :: u31 :: u32 :: u33 :: u34 :: u35 :: u36 :: u37 :: u38 :: u39 :: u40 :: u41 :: u42 :: (.int .i64 2) :: x44 :: x45 :: x46 :: x47 :: x48 :: x49 :: x50 :: x51 :: x52 :: x53 :: x54 :: x55 :: x56 :: x57 :: x58 :: x59 :: x60 :: x61 :: x62 :: x63 :: x64 :: x65 :: x66 :: x67 :: x68 :: x69 :: x70 :: x71 :: x72 :: x73 :: x74 :: x75 :: x76 :: x77 :: x78 :: x79 :: x80 :: x81 :: x82 :: x83 :: x84 :: x85 :: x86 :: x87 :: x88 :: x89 :: x90 :: x91 :: x92 :: x93 :: u94 :: u95 :: u96 :: u97 :: u98 :: u99 :: u100 :: u101 :: u102 :: u103 :: u104 :: u105 :: u106 :: u107 :: u108 :: u109 :: u110 :: []), []⟩ w') :
    Code.wp Try.prog (loopNo Try.f47 2) Q0 ⟨List.toArray (u0 :: u1 :: u2 :: u3 :: u4 :: u5 :: u6 :: u7 :: u8 :: (.pointer (some ⟨g, 0, none⟩)) :: u10 :: u11 :: u12 :: u13 :: u14 :: u15 :: u16 :: u17 :: u18 :: u19 :: u20 :: u21 :: u22 :: u23 :: u24 :: u25 :: u26 :: u27 :: u28 :: u29 :: u30 :: u31 :: u32 :: u33 :: u34 :: u35 :: u36 :: u37 :: u38 :: u39 :: u40 :: u41 :: u42 :: (.int .i64 0) :: u44 :: u45 :: u46 :: u47 :: u48 :: u49 :: u50 :: u51 :: u52 :: u53 :: u54 :: u55 :: u56 :: u57 :: u58 :: u59 :: u60 :: u61 :: u62 :: u63 :: u64 :: u65 :: u66 :: u67 :: u68 :: u69 :: u70 :: u71 :: u72 :: u73 :: u74 :: u75 :: u76 :: u77 :: u78 :: u79 :: u80 :: u81 :: u82 :: u83 :: u84 :: u85 :: u86 :: u87 :: u88 :: u89 :: u90 :: u91 :: u92 :: u93 :: u94 :: u95 :: u96 :: u97 :: u98 :: u99 :: u100 :: u101 :: u102 :: u103 :: u104 :: u105 :: u106 :: u107 :: u108 :: u109 :: u110 :: []), []⟩ w := by
  conv => arg 2; whnf
  have HX := Lib.hid hexit
  clear hexit
  go_loopg [43] 2 (fun gg s_ wr => ∃ k : Nat, s_ = .int .i64 k ∧ k ≤ 2 ∧ 2 ≤ gg + k ∧ Aside0 (Blk wr g 78 (wds .u32 (stepW v k))) ∧ Aside0 (Below g w wr) ∧ Aside0 (w.heap.size ≤ wr.heap.size))
  case atStart => exact ⟨0, rfl, by omega, by omega, ⟨hB⟩, ⟨Below.refl _ _⟩, ⟨Nat.le_refl _⟩⟩
  case round =>
    obtain ⟨k, rfl, hi, hg, HB, HL, HZ⟩ := hrel
    by_cases hlt : k < 2
    · obtain rfl | rfl : k = 0 ∨ k = 1 := by omega
      · go_wp2
        refine strA_wp g (v) _ _ _ _ _ _ _ _ _ _ _ _ _ _ _ _ _ _ _ _ _ _ _ _ _ _ _ _ _ _ _ _ _ _ _ _ _ _ _ _ _ _ _ _ _ _ _ _ _ _ _ _ _ _ _ _ _ _ _ _ _ _ _ _ _ _ _ _ _ _ _ _ _ _ _ _ _ _ _ _ _ _ _ _ _ _ _ _ _ _ _ _ _ _ _ _ _ _ _ _ _ _ _ _ _ _ _ _ _ _ (fun c a a' w e h => hQ0 c a a' w e h) hv HB.out ?_
        intro _ _ _ _ _ _ _ _ _ _ _ _ _ _ _ _ _ _ _ _ _ _ _ _ _ _ _ _ _ _ _ _ _ _ _ _ _ _ _ _ _ _ _ _ _ _ _ _ _ _ w2
        rintro ⟨P1, P2, P3⟩
        have B3 := Aside0.mk (show Blk w2 g 78 (wds .u32 (stepW v (0 + 1))) from P1)
        have L3 := Aside0.mk (HL.out.trans P2)
        have Z3 := Aside0.mk (Nat.le_trans HZ.out P3)
        clear P1 P2 P3 HB HL HZ
        go_wp2
        go_roundg (2 - (0 + 1))
        case measure => omega
        case rel => exact ⟨0 + 1, by first | rfl | go_num, by omega, by omega, B3, L3, Z3⟩
      · go_wp2
        refine strB_wp g (halfA v 4) _ _ _ _ _ _ _ _ _ _ _ _ _ _ _ _ _ _ _ _ _ _ _ _ _ _ _ _ _ _ _ _ _ _ _ _ _ _ _ _ _ _ _ _ _ _ _ _ _ _ _ _ _ _ _ _ _ _ _ _ _ _ _ _ _ _ _ _ _ _ _ _ _ _ _ _ _ _ _ _ _ _ _ _ _ _ _ _ _ _ _ _ _ _ _ _ _ _ _ _ _ _ _ _ _ _ _ _ _ _ (fun c a a' w e h => hQ0 c a a' w e h) (hv.halfA 4) HB.out ?_
        intro _ _ _ _ _ _ _ _ _ _ _ _ _ _ _ _ _ _ _ _ _ _ _ _ _ _ _ _ _ _ _ _ _ _ _ _ _ _ _ _ _ _ _ _ _ _ _ _ _ _ w2
        rintro ⟨P1, P2, P3⟩
        have B3 := Aside0.mk (show Blk w2 g 78 (wds .u32 (stepW v (1 + 1))) from P1)
        have L3 := Aside0.mk (HL.out.trans P2)
        have Z3 := Aside0.mk (Nat.le_trans HZ.out P3)
        clear P1 P2 P3 HB HL HZ
        go_wp2
        go_roundg (2 - (1 + 1))
        case measure => omega
        case rel => exact ⟨1 + 1, by first | rfl | go_num, by omega, by omega, B3, L3, Z3⟩
    · have c1 : decide ((k : Int) < 2) = false := decide_eq_false (by omega)
      have c2 : decide (k < 2) = false := decide_eq_false (by omega)
      obtain rfl : k = 2 := by omega
      go_wp2
      have P1 := HB.out
      have P2 := HL.out
      have P3 := HZ.out
      refine HX.out _ _ _ _ _ _ _ _ _ _ _ _ _ _ _ _ _ _ _ _ _ _ _ _ _ _ _ _ _ _ _ _ _ _ _ _ _ _ _ _ _ _ _ _ _ _ _ _ _ _ _ _ _ _ _ _ ?_
      exact ⟨P1, P2, P3⟩


set_option maxRecDepth 1000000 in
set_option maxHeartbeats 16000000 in
theorem strT_wp (g : Nat) (v : List Nat) (u0 u1 u2 u3 u4 u5 u6 u7 u8 u10 u11 u12 u13 u14 u15 u16 u17 u18 u19 u20 u21 u22 u23 u24 u25 u26 u27 u28 u29 u30 u31 u32 u33 u34 u35 u36 u37 u38 u39 u40 u42 u43 u44 u45 u46 u47 u48 u49 u50 u51 u52 u53 u54 u55 u56 u57 u58 u59 u60 u61 u62 u63 u64 u65 u66 u67 u68 u69 u70 u71 u72 u73 u74 u75 u76 u77 u78 u79 u80 u81 u82 u83 u84 u85 u86 u87 u88 u89 u90 u91 u92 u93 u94 u95 u96 u97 u98 u99 u100 u101 u102 u103 u104 u105 u106 u107 u108 u109 u110 : Value) (Q0 : Exit → Act → World → Prop) (w : World) (hQ0 : ∀ c (a a' : Act) w, a.defers = a'.defers → Q0 (.panic c) a w → Q0 (.panic c) a' w) (hv : W16 v) (hB : Blk w g 78 (wds .u32 v))
    (hexit : ∀ (x11 x12 x13 x14 x15 x42 x43 x44 x45 x46 x47 x48 x49 x50 x51 x52 x53 x54 x55 x56 x57 x58 x59 x60 x61 x62 x63 x64 x65 x66 x67 x68 x69 x70 x71 x72 x73 x74 x75 x76 x77 x78 x79 x80 x81 x82 x83 x84 x85 x86 x87 x88 x89 x90 x91 x92 x93 x94 : Value) (w' : World), Blk w' g 78 (wds .u32 (rounds20 v 10)) ∧ Below g w w' ∧ w.heap.size ≤ w'.heap.size → Q0 (.exit 2) ⟨List.toArray (u0 :: u1 :: u2 :: u3 :: u4 :: u5 :: u6 :: u7 :: u8 :: (.pointer (some ⟨g, 0, none⟩)) :: u10 :: x11 :: x12 :: x13 :: x14 :: x15 :: u16 :: u17 :: u18 :: u19 :: u20 :: u21 :: u22 :: u23 :: u24 :: u25 :: u26 :: u27 :: u28 :: u29 :: u30 :: u31 :: u32 :: u33 :: u34 :: u35 :: u36 :: u37 :: u38 :: u39 :: u40 :: (.int .i64 10) :: x42 :: x43 :: x44 :: x45 :: x46 :: x47 :: x48 :: x49 :: x50 :: x51 :: x52 :: x53 :: x54 :: x55 :: x56 :: x57 :: x58 :: x59 :: x60 :: x61 :: x62 :: x63 :: x64 :: x65 :: x66 :: x67 :: x68 :: x69 :: x70 :: x71 :: x72 :: x73 :: x74 :: x75 :: x76 :: x77 :: x78 :: x79 :: x80 :: x81 :: x82 :: x83 :: x84 :: x85 :: x86 :: x87 :: x88 :: x89 :: x90 :: x91 :: x92 :: x93 :: x94 :: u95 :: u96 :: u97 :: u98 :: u99 :: u100 :: u101 :: u102 :: u103 :: u104 :: u105 :: u106 :: u107 :: u108 :: u109 :: u110 :: []), []⟩ w') :
    Code.wp Try.prog (loopNo Try.f47 1) Q0 ⟨List.toArray (u0 :: u1 :: u2 :: u3 :: u4 :: u5 :: u6 :: u7 :: u8 :: (.pointer (some ⟨g, 0, none⟩)) :: u10 :: u11 :: u12 :: u13 :: u14 :: u15 :: u16 :: u17 :: u18 :: u19 :: u20 :: u21 :: u22 :: u23 :: u24 :: u25 :: u26 :: u27 :: u28 :: u29 :: u30 :: u31 :: u32 :: u33 :: u34 :: u35 :: u36 :: u37 :: u38 :: u39 :: u40 :: (.int .i64 0) :: u42 :: u43 :: u44 :: u45 :: u46 :: u47 :: u48 :: u49 :: u50 :: u51 :: u52 :: u53 :: u54 :: u55 :: u56 :: u57 :: u58 :: u59 :: u60 :: u61 :: u62 :: u63 :: u64 :: u65 :: u66 :: u67 :: u68 :: u69 :: u70 :: u71 :: u72 :: u73 :: u74 :: u75 :: u76 :: u77 :: u78 :: u79 :: u80 :: u81 :: u82 :: u83 :: u84 :: u85 :: u86 :: u87 :: u88 :: u89 :: u90 :: u91 :: u92 :: u93 :: u94 :: u95 :: u96 :: u97 :: u98 :: u99 :: u100 :: u101 :: u102 :: u103 :: u104 :: u105 :: u106 :: u107 :: u108 :: u109 :: u110 :: []), []⟩ w := by
  conv => arg 2; whnf
  have HX := Lib.hid hexit
  clear hexit
  go_loopg [41] 10 (fun gg s_ wr => ∃ k : Nat, s_ = .int .i64 k ∧ k ≤ 10 ∧ 10 ≤ gg + k ∧ Aside0 (Blk wr g 78 (wds .u32 (rounds20 v k))) ∧ Aside0 (Below g w wr) ∧ Aside0 (w.heap.size ≤ wr.heap.size))
  case atStart => exact ⟨0, rfl, by omega, by omega, ⟨hB⟩, ⟨Below.refl _ _⟩, ⟨Nat.le_refl _⟩⟩
  case round =>
    obtain ⟨k, rfl, hi, hg, HB, HL, HZ⟩ := hrel
    by_cases hlt : k < 10
    · have c1 : decide ((k : Int) < 10) = true := decide_eq_true (by omega)
      have c2 : decide (k < 10) = true := decide_eq_true (by omega)
      go_wp2
      refine strS_wp g (rounds20 v k) _ _ _ _ _ _ _ _ _ _ _ _ _ _ _ _ _ _ _ _ _ _ _ _ _ _ _ _ _ _ _ _ _ _ _ _ _ _ _ _ _ _ _ _ _ _ _ _ _ _ _ _ _ _ _ _ _ _ _ _ _ _ _ _ _ _ _ _ _ _ _ _ _ _ _ _ _ _ _ _ _ _ _ _ _ _ _ _ _ _ _ _ _ _ _ _ _ _ _ _ _ _ _ _ _ _ _ _ _ _ _ (fun c a a' w e h => hQ0 c a a' w e h) (hv.rounds20 k) HB.out ?_
      intro _ _ _ _ _ _ _ _ _ _ _ _ _ _ _ _ _ _ _ _ _ _ _ _ _ _ _ _ _ _ _ _ _ _ _ _ _ _ _ _ _ _ _ _ _ _ _ _ _ _ _ _ _ _ _ w2
      rintro ⟨P1, P2, P3⟩
      have B3 := Aside0.mk (show Blk w2 g 78 (wds .u32 (rounds20 v (k + 1))) from P1)
      have L3 := Aside0.mk (HL.out.trans P2)
      have Z3 := Aside0.mk (Nat.le_trans HZ.out P3)
      clear P1 P2 P3 HB HL HZ
      go_wp2
      go_roundg (10 - (k + 1))
      case measure => omega
      case rel => exact ⟨k + 1, by go_num, by omega, by omega, B3, L3, Z3⟩
    · have c1 : decide ((k : Int) < 10) = false := decide_eq_false (by omega)
      have c2 : decide (k < 10) = false := decide_eq_false (by omega)
      obtain rfl : k = 10 := by omega
      go_wp2
      have P1 := HB.out
      have P2 := HL.out
      have P3 := HZ.out
      refine HX.out _ _ _ _ _ _ _ _ _ _ _ _ _ _ _ _ _ _ _ _ _ _ _ _ _ _ _ _ _ _ _ _ _ _ _ _ _ _ _ _ _ _ _ _ _ _ _ _ _ _ _ _ _ _ _ _ _ _ _ ?_
      exact ⟨P1, P2, P3⟩
end

section
open Go.RowKit Go.Shelf Go.Proofs.YtihpnededldedaaW.PrintWords Go.Proofs.YtihpnededldedaaW.PrintLast Go.Proofs.YtihpnededldedaaW.PrintMore Go.Proofs.Ytihpnededldedaa.PCha

theorem sumBytes_len (v f : List Nat) : ∀ i, (sumBytes v f i).length = 4 * i
  | 0 => rfl
  | i + 1 => by rw [sumBytes, List.length_append, sumBytes_len v f i, littleNums_length]; omega
set_option maxRecDepth 1000000 in
set_option maxHeartbeats 16000000 in
theorem strO_wp (g gx : Nat) (v f : List Nat) (u0 u1 u2 u3 u4 u5 u6 u7 u10 u11 u12 u13 u14 u15 u17 u18 u19 u20 u21 u22 u23 u24 u25 u26 u27 u28 u29 u30 u31 u32 u33 u34 u35 u36 u37 u38 u39 u40 u41 u42 u43 u44 u45 u46 u47 u48 u49 u50 u51 u52 u53 u54 u55 u56 u57 u58 u59 u60 u61 u62 u63 u64 u65 u66 u67 u68 u69 u70 u71 u72 u73 u74 u75 u76 u77 u78 u79 u80 u81 u82 u83 u84 u85 u86 u87 u88 u89 u90 u91 u92 u93 u94 u96 u97 u98 u99 u100 u101 u102 u103 u104 u105 u106 u107 u108 u109 u110 : Value) (Q0 : Exit → Act → World → Prop) (w : World) (hv : W16 v) (hf : W16 f) (hG : Blk w g 78 (wds .u32 v)) (hF : Blk w gx 78 (wds .u32 f))
    (hexit : ∀ (x17 x96 x97 x98 x99 x100 x101 x102 x103 x104 x105 x106 x107 x108 x109 : Value) (w' : World), Below w.heap.size w w' → Q0 (.exit 8) ⟨List.toArray (u0 :: u1 :: u2 :: u3 :: u4 :: u5 :: u6 :: u7 :: (.pointer (some ⟨gx, 0, none⟩)) :: (.pointer (some ⟨g, 0, none⟩)) :: u10 :: u11 :: u12 :: u13 :: u14 :: u15 :: (.string (strOfNums (sumBytes v f 16))) :: x17 :: u18 :: u19 :: u20 :: u21 :: u22 :: u23 :: u24 :: u25 :: u26 :: u27 :: u28 :: u29 :: u30 :: u31 :: u32 :: u33 :: u34 :: u35 :: u36 :: u37 :: u38 :: u39 :: u40 :: u41 :: u42 :: u43 :: u44 :: u45 :: u46 :: u47 :: u48 :: u49 :: u50 :: u51 :: u52 :: u53 :: u54 :: u55 :: u56 :: u57 :: u58 :: u59 :: u60 :: u61 :: u62 :: u63 :: u64 :: u65 :: u66 :: u67 :: u68 :: u69 :: u70 :: u71 :: u72 :: u73 :: u74 :: u75 :: u76 :: u77 :: u78 :: u79 :: u80 :: u81 :: u82 :: u83 :: u84 :: u85 :: u86 :: u87 :: u88 :: u89 :: u90 :: u91 :: u92 :: u93 :: u94 :: (.int .i64 16) :: x96 :: x97 :: x98 :: x99 :: x100 :: x101 :: x102 :: x103 :: x104 :: x105 :: x106 :: x107 :: x108 :: x109 :: u110 :: []), []⟩ w') :
    Code.wp Try.prog (loopNo Try.f47 4) Q0 ⟨List.toArray (u0 :: u1 :: u2 :: u3 :: u4 :: u5 :: u6 :: u7 :: (.pointer (some ⟨gx, 0, none⟩)) :: (.pointer (some ⟨g, 0, none⟩)) :: u10 :: u11 :: u12 :: u13 :: u14 :: u15 :: (.string ⟨#[]⟩) :: u17 :: u18 :: u19 :: u20 :: u21 :: u22 :: u23 :: u24 :: u25 :: u26 :: u27 :: u28 :: u29 :: u30 :: u31 :: u32 :: u33 :: u34 :: u35 :: u36 :: u37 :: u38 :: u39 :: u40 :: u41 :: u42 :: u43 :: u44 :: u45 :: u46 :: u47 :: u48 :: u49 :: u50 :: u51 :: u52 :: u53 :: u54 :: u55 :: u56 :: u57 :: u58 :: u59 :: u60 :: u61 :: u62 :: u63 :: u64 :: u65 :: u66 :: u67 :: u68 :: u69 :: u70 :: u71 :: u72 :: u73 :: u74 :: u75 :: u76 :: u77 :: u78 :: u79 :: u80 :: u81 :: u82 :: u83 :: u84 :: u85 :: u86 :: u87 :: u88 :: u89 :: u90 :: u91 :: u92 :: u93 :: u94 :: (.int .i64 0) :: u96 :: u97 :: u98 :: u99 :: u100 :: u101 :: u102 :: u103 :: u104 :: u105 :: u106 :: u107 :: u108 :: u109 :: u110 :: []), []⟩ w := by
  conv => arg 2; whnf
  have HX := Lib.hid hexit
  clear hexit
  have hS : ∀ (i : Nat), i < 16 → ∀ W, Below w.heap.size w W → W.cell? ⟨g, i, none⟩ = some (.int .u32 ((v.getD i 0 : Nat) : Int)) ∧ W.cell? ⟨gx, i, none⟩ = some (.int .u32 ((f.getD i 0 : Nat) : Int)) := fun i hi W hb =>
    ⟨((hG.below hb).wat i (by rw [hv.1]; exact hi)).1, ((hF.below hb).wat i (by rw [hf.1]; exact hi)).1⟩
  go_loopg [16, 95] 16 (fun gg s16 s_ wr => ∃ i : Nat, s_ = .int .i64 i ∧ s16 = .string (strOfNums (sumBytes v f i)) ∧ i ≤ 16 ∧ 16 ≤ gg + i ∧ Aside0 (Below w.heap.size w wr))
  case atStart => exact ⟨0, rfl, rfl, by omega, by omega, ⟨Below.refl _ _⟩⟩
  case round =>
    obtain ⟨i, rfl, rfl, hi, hg, HL⟩ := hrel
    by_cases hlt : i < 16
    · have c1 : decide ((i : Int) < 16) = true := decide_eq_true (by omega)
      have c2 : (0 ≤ (i : Int)) = True := eq_true (by omega)
      have c3 : ((i : Int) < 16) = True := eq_true (by omega)
      have hT := hS i hlt
      have NX := Lib.hid (show strOfNums (sumBytes v f i) ++ strOfNums (littleNums (((v.getD i 0 + f.getD i 0) % 2 ^ 32 : Nat) : Int) 4) = strOfNums (sumBytes v f (i + 1)) by rw [sumBytes, strOfNums_append])
      have hz : (strOfNums (sumBytes v f i)).size + (strOfNums (littleNums (((v.getD i 0 + f.getD i 0) % 2 ^ 32 : Nat) : Int) 4)).size ≤ 9223372036854775807 := by rw [strOfNums_size, strOfNums_size, sumBytes_len, littleNums_length]; omega
      obtain ⟨a, ha⟩ : ∃ n, v.getD i 0 = n := ⟨_, rfl⟩
      obtain ⟨b, hb⟩ : ∃ n, f.getD i 0 = n := ⟨_, rfl⟩
      obtain ⟨n, ln, hn, _, hm⟩ := add_step (v.getD i 0) (f.getD i 0) (hv.2 i) (hf.2 i)
      rw [ha, hb] at hT hm NX hz
      replace hn : Hid ((a + b) % 2 ^ 32 = n) := by rw [← ha, ← hb]; exact hn
      rw [hn.out] at NX hz
      have hw32 : IntKind.u32.wrap ((a : Int) + (b : Int)) = (n : Int) := by first | exact hm | (simp only [IntKind.wrap]; exact hm) | (simp [IntKind.wrap]; omega)
      have hw64 : IntKind.i64.wrap (n : Int) = (n : Int) := (i64_w _).trans (wrap_ok _ (by omega) (by omega))
      have hC := fun W => impl_little.calls (n : Int) 4 _ W (if_pos ⟨by decide, by decide⟩)
      have HD := HL.out.drew
      clear ha hb hn ln
      simp only [show Int.toNat 4 = 4 from rfl] at hC
      generalize strOfNums (littleNums (n : Int) 4) = z at hC NX hz
      have hz2 := eq_false (Nat.not_lt.2 hz)
      generalize strOfNums (sumBytes v f i) = y at NX hz hz2 ⊢
      replace hz := eq_true hz
      go_wp2
      go_region_held3 (fun W => W.cell? ⟨g, i, none⟩ = some (.int .u32 (a : Int)) ∧ W.cell? ⟨gx, i, none⟩ = some (.int .u32 (b : Int))) ((first | with_reducible exact hT _ HD | (with_reducible refine hT _ ?_; with_reducible assumption)))
        (first | (go_at_call 78; (try rw [hw32]); (try rw [hw64]); with_reducible refine (hC _).mono ?_; rintro e w' ⟨rfl, hbel⟩; have L1 := below_step HD hbel))
      go_wp2
      go_roundg (16 - (i + 1))
      case measure => omega
      case rel => exact ⟨i + 1, by go_num, by rw [NX.out], by omega, by omega, ⟨L1⟩⟩
    · have c1 : decide ((i : Int) < 16) = false := decide_eq_false (by omega)
      obtain rfl : i = 16 := by omega
      go_wp2
      have P2 := HL.out
      refine HX.out _ _ _ _ _ _ _ _ _ _ _ _ _ _ _ _ ?_
      exact P2
end

section
open Go.RowKit Go.Shelf Go.Proofs.YtihpnededldedaaW.PrintWords Go.Proofs.YtihpnededldedaaW.PrintLast Go.Proofs.YtihpnededldedaaW.PrintMore Go.Proofs.Ytihpnededldedaa.PCha

theorem word_some (a : ByteArray) (i : Nat) (h : i + 4 ≤ a.size) (ha : a.size ≤ 65536) : ∃ n, spec_l02Word.f a (i : Int) = some n ∧ impl_littleWord.f (a.extract i a.size) = some n ∧ wrap64 n = n := by
  have w1 : wrap64 ((i : Int) + 1) = ((i + 1 : Nat) : Int) := by rw [wrap_ok _ (by omega) (by omega)]; omega
  have w2 : wrap64 ((i : Int) + 2) = ((i + 2 : Nat) : Int) := by rw [wrap_ok _ (by omega) (by omega)]; omega
  have w3 : wrap64 ((i : Int) + 3) = ((i + 3 : Nat) : Int) := by rw [wrap_ok _ (by omega) (by omega)]; omega
  have hs : (a.extract i a.size).size = a.size - i := by rw [ByteArray.size_extract]; omega
  have p0 : (0 : Int) ≤ (i : Int) := by omega
  have p1 : (0 : Int) ≤ ((i + 1 : Nat) : Int) := by omega
  have p2 : (0 : Int) ≤ ((i + 2 : Nat) : Int) := by omega
  have p3 : (0 : Int) ≤ ((i + 3 : Nat) : Int) := by omega
  have q0 : (i : Int) < (a.size : Int) := by omega
  have q1 : ((i + 1 : Nat) : Int) < (a.size : Int) := by omega
  have q2 : ((i + 2 : Nat) : Int) < (a.size : Int) := by omega
  have q3 : ((i + 3 : Nat) : Int) < (a.size : Int) := by omega
  have r0 : (0 : Int) < ((a.extract i a.size).size : Int) := by rw [hs]; omega
  have r1 : (1 : Int) < ((a.extract i a.size).size : Int) := by rw [hs]; omega
  have r2 : (2 : Int) < ((a.extract i a.size).size : Int) := by rw [hs]; omega
  have r3 : (3 : Int) < ((a.extract i a.size).size : Int) := by rw [hs]; omega
  have f0 := bt_extract a i a.size 0 (by omega) (by omega)
  have f1 := bt_extract a i a.size 1 (by omega) (by omega)
  have f2 := bt_extract a i a.size 2 (by omega) (by omega)
  have f3 := bt_extract a i a.size 3 (by omega) (by omega)
  obtain ⟨x0, e0, y0⟩ := bt_nat a ((i + 0 : Nat) : Int)
  obtain ⟨x1, e1, y1⟩ := bt_nat a ((i + 1 : Nat) : Int)
  obtain ⟨x2, e2, y2⟩ := bt_nat a ((i + 2 : Nat) : Int)
  obtain ⟨x3, e3, y3⟩ := bt_nat a ((i + 3 : Nat) : Int)
  replace f0 : bt (a.extract i a.size) 0 = x0 := f0.trans e0
  replace f1 : bt (a.extract i a.size) 1 = x1 := f1.trans e1
  replace f2 : bt (a.extract i a.size) 2 = x2 := f2.trans e2
  replace f3 : bt (a.extract i a.size) 3 = x3 := f3.trans e3
  refine ⟨((le32 x0 x1 x2 x3 : Nat) : Int), ?_, ?_, ?_⟩
  · unfold spec_l02Word.f
    rw [w1, w2, w3, if_pos p0, if_pos q0, if_pos p1, if_pos q1, if_pos p2, if_pos q2, if_pos p3, if_pos q3]
    have e0' : bt a (i : Int) = x0 := e0
    rw [e0', e1, e2, e3, le32_i64 _ _ _ _ y0 y1 y2 y3]
  · unfold impl_littleWord.f
    rw [if_pos r0, if_pos r1, if_pos r2, if_pos r3, f0, f1, f2, f3, le32_u32 _ _ _ _ y0 y1 y2 y3]
  · have g3 := (le32_lt x0 x1 x2 x3 y0 y1 y2 y3).2.2
    clear f0 f1 f2 f3 e0 e1 e2 e3
    exact wrap_ok _ (by omega) (by omega)

/-- From place i on the reference's loop ends; with whole words the program's loop ends in the same. -/
theorem littleWord_at (s : ByteArray) (i : Nat) (h : i + 4 ≤ s.size) (hs : s.size ≤ 65536) : impl_littleWord.f (s.extract i s.size) = some ((wordAt s i : Nat) : Int) := by
  obtain ⟨n, h1, h2, _⟩ := word_some s i h hs
  rw [l02Word_some s i h (by omega)] at h1
  cases h1
  exact h2
set_option maxRecDepth 1000000 in
set_option maxHeartbeats 16000000 in
theorem str0_wp (s : ByteArray) (g gx : Nat) (v : List Nat) (u0 u1 u2 u3 u4 u5 u6 u10 u11 u12 u13 u14 u15 u16 u17 u18 u19 u20 u21 u22 u23 u24 u26 u27 u28 u29 u30 u31 u32 u33 u34 u35 u36 u37 u38 u39 u40 u41 u42 u43 u44 u45 u46 u47 u48 u49 u50 u51 u52 u53 u54 u55 u56 u57 u58 u59 u60 u61 u62 u63 u64 u65 u66 u67 u68 u69 u70 u71 u72 u73 u74 u75 u76 u77 u78 u79 u80 u81 u82 u83 u84 u85 u86 u87 u88 u89 u90 u91 u92 u93 u94 u95 u96 u97 u98 u99 u100 u101 u102 u103 u104 u105 u106 u107 u108 u109 u110 : Value) (Q0 : Exit → Act → World → Prop) (w : World) (hs : s.size = 64) (hv : v.length = 16) (hlg : gx < g) (hX : Blk w gx 78 (wds .u32 v)) (hY : Blk w g 78 (wds .u32 v))
    (hexit : ∀ (x10 x26 x27 x28 x29 x30 x31 x32 x33 x34 x35 x36 x37 x38 x39 x40 : Value) (w' : World), Blk w' gx 78 (wds .u32 (fillN (fun i => wordAt s (4 * i)) 0 16 v)) ∧ Blk w' g 78 (wds .u32 (fillN (fun i => wordAt s (4 * i)) 0 16 v)) ∧ Below gx w w' → Q0 (.exit 0) ⟨List.toArray (u0 :: u1 :: u2 :: u3 :: u4 :: u5 :: u6 :: (.string s) :: (.pointer (some ⟨gx, 0, none⟩)) :: (.pointer (some ⟨g, 0, none⟩)) :: x10 :: u11 :: u12 :: u13 :: u14 :: u15 :: u16 :: u17 :: u18 :: u19 :: u20 :: u21 :: u22 :: u23 :: u24 :: (.int .i64 16) :: x26 :: x27 :: x28 :: x29 :: x30 :: x31 :: x32 :: x33 :: x34 :: x35 :: x36 :: x37 :: x38 :: x39 :: x40 :: u41 :: u42 :: u43 :: u44 :: u45 :: u46 :: u47 :: u48 :: u49 :: u50 :: u51 :: u52 :: u53 :: u54 :: u55 :: u56 :: u57 :: u58 :: u59 :: u60 :: u61 :: u62 :: u63 :: u64 :: u65 :: u66 :: u67 :: u68 :: u69 :: u70 :: u71 :: u72 :: u73 :: u74 :: u75 :: u76 :: u77 :: u78 :: u79 :: u80 :: u81 :: u82 :: u83 :: u84 :: u85 :: u86 :: u87 :: u88 :: u89 :: u90 :: u91 :: u92 :: u93 :: u94 :: u95 :: u96 :: u97 :: u98 :: u99 :: u100 :: u101 :: u102 :: u103 :: u104 :: u105 :: u106 :: u107 :: u108 :: u109 :: u110 :: []), []⟩ w') :
    Code.wp Try.prog (loopNo Try.f47 0) Q0 ⟨List.toArray (u0 :: u1 :: u2 :: u3 :: u4 :: u5 :: u6 :: (.string s) :: (.pointer (some ⟨gx, 0, none⟩)) :: (.pointer (some ⟨g, 0, none⟩)) :: u10 :: u11 :: u12 :: u13 :: u14 :: u15 :: u16 :: u17 :: u18 :: u19 :: u20 :: u21 :: u22 :: u23 :: u24 :: (.int .i64 0) :: u26 :: u27 :: u28 :: u29 :: u30 :: u31 :: u32 :: u33 :: u34 :: u35 :: u36 :: u37 :: u38 :: u39 :: u40 :: u41 :: u42 :: u43 :: u44 :: u45 :: u46 :: u47 :: u48 :: u49 :: u50 :: u51 :: u52 :: u53 :: u54 :: u55 :: u56 :: u57 :: u58 :: u59 :: u60 :: u61 :: u62 :: u63 :: u64 :: u65 :: u66 :: u67 :: u68 :: u69 :: u70 :: u71 :: u72 :: u73 :: u74 :: u75 :: u76 :: u77 :: u78 :: u79 :: u80 :: u81 :: u82 :: u83 :: u84 :: u85 :: u86 :: u87 :: u88 :: u89 :: u90 :: u91 :: u92 :: u93 :: u94 :: u95 :: u96 :: u97 :: u98 :: u99 :: u100 :: u101 :: u102 :: u103 :: u104 :: u105 :: u106 :: u107 :: u108 :: u109 :: u110 :: []), []⟩ w := by
  conv => arg 2; whnf
  have HX := Lib.hid hexit
  clear hexit
  go_loopg [25] 16 (fun gg s_ wr => ∃ i : Nat, s_ = .int .i64 i ∧ i ≤ 16 ∧ 16 ≤ gg + i ∧ Aside0 (Blk wr gx 78 (wds .u32 (fillN (fun i => wordAt s (4 * i)) 0 i v))) ∧ Aside0 (Blk wr g 78 (wds .u32 (fillN (fun i => wordAt s (4 * i)) 0 i v))) ∧ Aside0 (Below gx w wr))
  case atStart => exact ⟨0, rfl, by omega, by omega, ⟨hX⟩, ⟨hY⟩, ⟨Below.refl _ _⟩⟩
  case round =>
    obtain ⟨i, rfl, hi, hg, HA, HB, HL⟩ := hrel
    by_cases hlt : i < 16
    · have c1 : decide ((i : Int) < 16) = true := decide_eq_true (by omega)
      have hw := fun W => impl_littleWord.calls (s.extract (4 * i) s.size) _ W (littleWord_at s (4 * i) (by omega) (by omega))
      have m4 := mul4 i (by omega)
      have n0 : (4 * (i : Int)).toNat = 4 * i := by omega
      have n2 : (0 ≤ (i : Int)) = True := eq_true (by omega)
      have n3 : ((i : Int) < 16) = True := eq_true (by omega)
      have n4 : (0 ≤ 4 * (i : Int)) = True := eq_true (by omega)
      have n5 : (4 * (i : Int) ≤ (s.size : Int)) = True := eq_true (by omega)
      have x1 := HA.out.wat i (by rw [fillN_length, hv]; omega)
      have y1 := HB.out.wat i (by rw [fillN_length, hv]; omega)
      have hn : ((fillN (fun i => wordAt s (4 * i)) 0 i v).set i (wordAt s (4 * i))).getD i 0 = wordAt s (4 * i) := by simp [List.getD_eq_getElem?_getD, fillN_length, hv, hlt]
      have A2 := fun m => ((HA.out.drewN m).wset i (wordAt s (4 * i))).wat i (by rw [List.length_set, fillN_length, hv]; omega)
      simp only [hn] at A2
      have B2 := fun m => ((HB.out.drewN m).other ⟨gx, i, none⟩ (by simp only; omega) (.int .u32 (wordAt s (4 * i) : Int))).wat i (by rw [fillN_length, hv]; omega)
      have A3 := fun m => Aside0.mk (((HA.out.drewN m).wset i (wordAt s (4 * i))).other ⟨g, i, none⟩ (by simp only; omega) (.int .u32 (wordAt s (4 * i) : Int)))
      have B3 := fun m => Aside0.mk (((HB.out.drewN m).other ⟨gx, i, none⟩ (by simp only; omega) (.int .u32 (wordAt s (4 * i) : Int))).wset i (wordAt s (4 * i)))
      have L3 := fun m => Aside0.mk (((Below_drewN HL.out m).setCell (p := ⟨gx, i, none⟩) (Nat.le_refl _) (.int .u32 (wordAt s (4 * i) : Int))).setCell (p := ⟨g, i, none⟩) (Nat.le_of_lt hlg) (.int .u32 (wordAt s (4 * i) : Int)))
      have a1 := fun m => (A2 m).1
      have b1 := fun m => (B2 m).1
      have b2 := fun m => (B2 m).2
      simp only [hs] at hw n5
      clear HA HB HL hn A2 B2
      go_wp2_with (go_at_call 79; with_reducible refine (hw _).mono ?_; rintro e w1 ⟨rfl, ⟨m1, rfl⟩⟩)
      go_roundg (16 - (i + 1))
      case measure => omega
      case rel => exact ⟨i + 1, by go_num, by omega, by omega, ⟨by simpa [fillN] using (A3 _).out⟩, ⟨by simpa [fillN] using (B3 _).out⟩, L3 _⟩
    · have c1 : decide ((i : Int) < 16) = false := decide_eq_false (by omega)
      obtain rfl : i = 16 := by omega
      go_wp2
      have P1 := HA.out
      have P2 := HB.out
      have P3 := HL.out
      refine HX.out _ _ _ _ _ _ _ _ _ _ _ _ _ _ _ _ _ ?_
      exact ⟨P1, P2, P3⟩
end

section
open Go.RowKit Go.Shelf Go.Proofs.YtihpnededldedaaW.PrintWords Go.Proofs.YtihpnededldedaaW.PrintLast Go.Proofs.YtihpnededldedaaW.PrintMore Go.Proofs.Ytihpnededldedaa.PCha

theorem wordAt_left (a b : ByteArray) (i : Nat) (h : i + 4 ≤ a.size) : wordAt (a ++ b) i = wordAt a i := by
  unfold wordAt
  rw [bt_left a b i (by omega), bt_left a b (i + 1) (by omega), bt_left a b (i + 2) (by omega), bt_left a b (i + 3) (by omega)]
theorem wordAt_right (a b : ByteArray) (i : Nat) (h : i + 4 ≤ b.size) : wordAt (a ++ b) (a.size + i) = wordAt b i := by
  unfold wordAt
  rw [bt_right a b i (by omega), show a.size + i + 1 = a.size + (i + 1) by omega, show a.size + i + 2 = a.size + (i + 2) by omega, show a.size + i + 3 = a.size + (i + 3) by omega, bt_right a b (i + 1) (by omega), bt_right a b (i + 2) (by omega), bt_right a b (i + 3) (by omega)]

theorem firstW_text (key nonce c : ByteArray) (count : Nat) (hk : key.size = 32) (hc : c.size = 4) (hn : nonce.size = 12) (hw : wordAt c 0 = count) : fillN (fun i => wordAt (((chaConst ++ key) ++ c) ++ nonce) (4 * i)) 0 16 zeros16 = firstW key nonce count := by
  have hs0 : chaConst.size = 16 := rfl
  have hs1 : (chaConst ++ key).size = 48 := by rw [ByteArray.size_append]; omega
  have hs2 : ((chaConst ++ key) ++ c).size = 52 := by rw [ByteArray.size_append]; omega
  have h0 : ∀ j, j + 4 ≤ 16 → wordAt (((chaConst ++ key) ++ c) ++ nonce) j = wordAt chaConst j := fun j h => by
    rw [wordAt_left _ _ j (by omega), wordAt_left _ _ j (by omega), wordAt_left _ _ j (by omega)]
  have h1 : ∀ j, j + 4 ≤ 32 → wordAt (((chaConst ++ key) ++ c) ++ nonce) (16 + j) = wordAt key j := fun j h => by
    rw [wordAt_left _ _ _ (by omega), wordAt_left _ _ _ (by omega)]
    exact wordAt_right chaConst key j (by omega)
  have h2 : wordAt (((chaConst ++ key) ++ c) ++ nonce) 48 = count := by
    rw [wordAt_left _ _ _ (by omega)]
    have := wordAt_right (chaConst ++ key) c 0 (by omega)
    rw [hs1] at this
    rw [← hw]; exact this
  have h3 : ∀ j, j + 4 ≤ 12 → wordAt (((chaConst ++ key) ++ c) ++ nonce) (52 + j) = wordAt nonce j := fun j h => by
    have := wordAt_right ((chaConst ++ key) ++ c) nonce j (by omega)
    rw [hs2] at this
    exact this
  generalize ((chaConst ++ key) ++ c) ++ nonce = s at h0 h1 h2 h3 ⊢
  have e2 : firstW key nonce count = [wordAt chaConst 0, wordAt chaConst 4, wordAt chaConst 8, wordAt chaConst 12, wordAt key 0, wordAt key 4, wordAt key 8, wordAt key 12, wordAt key 16, wordAt key 20, wordAt key 24, wordAt key 28, count, wordAt nonce 0, wordAt nonce 4, wordAt nonce 8] := rfl
  rw [e2]
  show [wordAt s 0, wordAt s 4, wordAt s 8, wordAt s 12, wordAt s 16, wordAt s 20, wordAt s 24, wordAt s 28, wordAt s 32, wordAt s 36, wordAt s 40, wordAt s 44, wordAt s 48, wordAt s 52, wordAt s 56, wordAt s 60] = _
  rw [(h0 0 (by decide) : wordAt s 0 = _), (h0 4 (by decide) : wordAt s 4 = _), (h0 8 (by decide) : wordAt s 8 = _), (h0 12 (by decide) : wordAt s 12 = _), (h1 0 (by decide) : wordAt s 16 = _), (h1 4 (by decide) : wordAt s 20 = _), (h1 8 (by decide) : wordAt s 24 = _), (h1 12 (by decide) : wordAt s 28 = _), (h1 16 (by decide) : wordAt s 32 = _), (h1 20 (by decide) : wordAt s 36 = _), (h1 24 (by decide) : wordAt s 40 = _), (h1 28 (by decide) : wordAt s 44 = _), h2, (h3 0 (by decide) : wordAt s 52 = _), (h3 4 (by decide) : wordAt s 56 = _), (h3 8 (by decide) : wordAt s 60 = _)]
end

section
open Go.RowKit Go.Shelf Go.Proofs.YtihpnededldedaaW.PrintWords Go.Proofs.YtihpnededldedaaW.PrintLast Go.Proofs.YtihpnededldedaaW.PrintMore Go.Proofs.Ytihpnededldedaa.PCha
set_option maxRecDepth 1000000 in
set_option maxHeartbeats 16000000 in
theorem stream_calls (key nonce : ByteArray) (count : Nat) (hk : key.size = 32) (hn : nonce.size = 12) (hc : count < 2 ^ 32) (hw : wordAt (strOfNums (littleNums (count : Int) 4)) 0 = count) (w : World) :
    Calls Try.prog 47 #[.string key, .string nonce, .int .i64 count] w fun e w' => e = .returned (.string (chaBlk key nonce count)) ∧ Below w.heap.size w w' := by
  have FO := firstW_ok key nonce count hc
  have HR := Lib.hid (show chaBlk key nonce count = strOfNums (sumBytes (rounds20 (firstW key nonce count) 10) (firstW key nonce count) 16) from rfl)
  have hz : (strOfNums (littleNums (count : Int) 4)).size = 4 := by rw [strOfNums_size, littleNums_length]
  have hT := firstW_text key nonce _ count hk hz hn hw
  have hC := fun W => impl_little.calls (count : Int) 4 _ W (if_pos ⟨by decide, by decide⟩)
  simp only [show Int.toNat 4 = 4 from rfl] at hC
  generalize strOfNums (littleNums (count : Int) 4) = z at hC hz hT
  have s1 : (chaConst ++ key).size = 48 := by rw [ByteArray.size_append, hk]; rfl
  have s2 : ((chaConst ++ key) ++ z).size = 52 := by rw [ByteArray.size_append]; omega
  have s3 : (((chaConst ++ key) ++ z) ++ nonce).size = 64 := by rw [ByteArray.size_append]; omega
  have HT := Lib.hid hT; have HS := Lib.hid s3
  have k1 : (16 + key.size ≤ 9223372036854775807) = True := eq_true (by omega)
  have k1' : (9223372036854775807 < 16 + key.size) = False := eq_false (by omega)
  have k2 : (16 + key.size + z.size ≤ 9223372036854775807) = True := eq_true (by omega)
  have k2' : (9223372036854775807 < 16 + key.size + z.size) = False := eq_false (by omega)
  have k3 : (16 + key.size + z.size + nonce.size ≤ 9223372036854775807) = True := eq_true (by omega)
  have k3' : (9223372036854775807 < 16 + key.size + z.size + nonce.size) = False := eq_false (by omega)
  clear hT hk hn hc hw hz s1 s2 s3
  go_enter Try.func47, Try.ntmps47
  go_wp2_with (go_at_call 78; with_reducible refine (hC _).mono ?_; rintro e w0 ⟨rfl, hb0⟩; have L0 := Aside0.mk hb0)
  refine str0_wp (((chaConst ++ key) ++ z) ++ nonce) (w0.heap.size + 1) w0.heap.size zeros16 _ _ _ _ _ _ _ _ _ _ _ _ _ _ _ _ _ _ _ _ _ _ _ _ _ _ _ _ _ _ _ _ _ _ _ _ _ _ _ _ _ _ _ _ _ _ _ _ _ _ _ _ _ _ _ _ _ _ _ _ _ _ _ _ _ _ _ _ _ _ _ _ _ _ _ _ _ _ _ _ _ _ _ _ _ _ _ _ _ _ _ _ _ _ _ _ _ _ _ _ _ _ _ _ _ _ _ _ _ HS.out rfl (by omega) ((Blk.new w0 78 _).alloc _) (Blk.new' _ _ _ _ (by simp)) ?_
  intro _ _ _ _ _ _ _ _ _ _ _ _ _ _ _ _ w1
  rintro ⟨P1, P2, P3⟩
  rw [HT.out] at P1 P2
  have X1 : Aside0 (Blk w1 w0.heap.size 78 (wds .u32 (firstW key nonce count))) := ⟨P1⟩
  have Y1 : Aside0 (Blk w1 (w0.heap.size + 1) 78 (wds .u32 (firstW key nonce count))) := ⟨P2⟩
  have L1 : Aside0 (Below w.heap.size w w1) := ⟨(below_alloc (below_alloc L0.out _) _).trans (P3.mono L0.out.size)⟩
  have Z1 : Aside0 (w.heap.size ≤ w0.heap.size) := ⟨L0.out.size⟩
  clear P1 P2 P3 L0 hb0 HT HS k1 k1' k2 k2' k3 k3' hC
  generalize firstW key nonce count = fw at FO HR X1 Y1
  go_wp2
  refine strT_wp (w0.heap.size + 1) fw _ _ _ _ _ _ _ _ _ _ _ _ _ _ _ _ _ _ _ _ _ _ _ _ _ _ _ _ _ _ _ _ _ _ _ _ _ _ _ _ _ _ _ _ _ _ _ _ _ _ _ _ _ _ _ _ _ _ _ _ _ _ _ _ _ _ _ _ _ _ _ _ _ _ _ _ _ _ _ _ _ _ _ _ _ _ _ _ _ _ _ _ _ _ _ _ _ _ _ _ _ _ _ _ _ _ _ _ _ _ _ ?hq FO Y1.out ?_
  case hq =>
    intro c a a1 w4 hd h
    have h1 : a.defers = [] ∧ _ := h
    exact ⟨hd.symm.trans h1.1, h1.2⟩
  intro _ _ _ _ _ _ _ _ _ _ _ _ _ _ _ _ _ _ _ _ _ _ _ _ _ _ _ _ _ _ _ _ _ _ _ _ _ _ _ _ _ _ _ _ _ _ _ _ _ _ _ _ _ _ _ _ _ _ w2
  rintro ⟨P1, P2, P3⟩
  have Y2 : Aside0 (Blk w2 (w0.heap.size + 1) 78 (wds .u32 (rounds20 fw 10))) := ⟨P1⟩
  have X2 : Aside0 (Blk w2 w0.heap.size 78 (wds .u32 fw)) := ⟨X1.out.move (P2.block _ (Nat.lt_succ_self _))⟩
  have L2 : Aside0 (Below w.heap.size w w2) := ⟨L1.out.trans (P2.mono (Nat.le_succ_of_le Z1.out))⟩
  clear P1 P2 P3 X1 Y1 L1
  have VO := FO.rounds20 10
  generalize rounds20 fw 10 = vv at VO HR Y2
  go_wp2
  refine strO_wp (w0.heap.size + 1) w0.heap.size vv fw _ _ _ _ _ _ _ _ _ _ _ _ _ _ _ _ _ _ _ _ _ _ _ _ _ _ _ _ _ _ _ _ _ _ _ _ _ _ _ _ _ _ _ _ _ _ _ _ _ _ _ _ _ _ _ _ _ _ _ _ _ _ _ _ _ _ _ _ _ _ _ _ _ _ _ _ _ _ _ _ _ _ _ _ _ _ _ _ _ _ _ _ _ _ _ _ _ _ _ _ _ _ _ _ _ _ _ _ _ VO FO Y2.out X2.out ?_
  intro _ _ _ _ _ _ _ _ _ _ _ _ _ _ _ w3
  intro P1
  have L3 := Aside0.mk (L2.out.trans (P1.mono L2.out.size))
  clear P1
  go_wp2
  go_ret
  exact ⟨ret_str HR.out.symm, L3.out⟩
end

end Go.Proofs.Ytihpnededldedaa.Leaf
