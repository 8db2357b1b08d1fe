/-
  Region 18 of impl.stream: the four words are taken, turned and put back. Conditions: four places of the sixteen, all apart.
-/
import Derived.Test.YtihpnededldedaaChaB
import Derived.Test.YtihpnededldedaaLoop
import Derived.Test.YtihpnededldedaaWTab
namespace Go.Proofs.Ytihpnededldedaa.Leaf
open Go.RowKit Go.Shelf Go.Proofs.YtihpnededldedaaW.PrintWords Go.Proofs.YtihpnededldedaaW.PrintLast Go.Proofs.YtihpnededldedaaW.PrintMore Go.Proofs.Ytihpnededldedaa.PCha
set_option linter.unusedSimpArgs false
set_option linter.unusedVariables false
def regions : Code → List Code
  | .region i o d => [.region i o d]
  | .loop c => regions c
  | .seq a b => regions a ++ regions b
  | .block _ c => regions c
  | .scope c => regions c
  | .cond _ a b => regions a ++ regions b
  | _ => []
def isReg (k : Nat) : Code → Bool
  | .region i _ _ => i == k
  | _ => false
noncomputable def regNo (f : Func) (k : Nat) : Code := (((f.body.map regions).getD []).find? (isReg k)).getD .skip
theorem le_set {n : Nat} {W : World} (h : n ≤ W.heap.size) (p : Addr) (v : Value) : n ≤ (W.setCell p v).heap.size := Nat.le_trans h (by simp [World.setCell])
def strT : Bool × List (List Nat × List Nat) := (true, [([], []), ([], []), ([], []), ([], []), ([], []), ([4], [4]), ([5], [5]), ([], []), ([7], [7]), ([8], [8]), ([], []), ([10], [10]), ([11], [11]), ([], []), ([13], [13]), ([14], [14]), ([6, 9, 12, 15], [6, 9, 12, 15]), ([16], [16]), ([17], [17]), ([17], [17]), ([17], [17]), ([17], [17]), ([0, 0, 4, 5, 6, 7, 8, 9, 10, 11, 12, 13, 14, 15, 16, 17, 18], [0]), ([22, 18, 16, 0, 4, 5, 6, 7, 8, 9, 10, 11, 12, 13, 14, 15, 16, 17, 18], [18, 22]), ([1, 0, 1, 4, 5, 6, 7, 8, 9, 10, 11, 12, 13, 14, 15, 16, 17, 18, 19, 22, 23], [1]), ([24, 19, 23, 0, 1, 4, 5, 6, 7, 8, 9, 10, 11, 12, 13, 14, 15, 16, 17, 18, 19, 22, 23], [19, 24]), ([2, 0, 1, 2, 4, 5, 6, 7, 8, 9, 10, 11, 12, 13, 14, 15, 16, 17, 18, 19, 20, 22, 23, 24, 25], [2]), ([26, 20, 25, 0, 1, 2, 4, 5, 6, 7, 8, 9, 10, 11, 12, 13, 14, 15, 16, 17, 18, 19, 20, 22, 23, 24, 25], [20, 26]), ([3, 0, 1, 2, 3, 4, 5, 6, 7, 8, 9, 10, 11, 12, 13, 14, 15, 16, 17, 18, 19, 20, 21, 22, 23, 24, 25, 26, 27], [3]), ([28, 21, 27, 0, 1, 2, 3, 4, 5, 6, 7, 8, 9, 10, 11, 12, 13, 14, 15, 16, 17, 18, 19, 20, 21, 22, 23, 24, 25, 26, 27], [21, 28])])
def strB : List Nat := [0, 0, 0, 0, 0, 16, 48, 0, 128, 384, 0, 1024, 3072, 0, 8192, 24576, 65520, 131056, 262128, 262128, 262128, 262128, 524273, 4718577, 13631475, 30408691, 65011703, 132120567, 268435455, 536870911]
theorem strTab : rtab .any (opsOf Try.f47 18) = strT := by kernel_rfl
theorem strBits : waitsOk strT.2 strB = true := by kernel_rfl

set_option maxHeartbeats 8000000 in
set_option maxRecDepth 100000 in
theorem stream_r18 (Q : Exit → Act → World → Prop) (g : Nat) (y : List Nat) (ia ib ic id va vb vc vd : Nat) (w : World) (u0 u1 u2 u3 u4 u5 u6 u7 u8 u10 u11 u16 u17 u18 u19 u20 u21 u22 u23 u24 u25 u26 u27 u28 u29 u30 u31 u32 u33 u34 u35 u36 u37 u38 u39 u40 u41 u42 u43 u44 u45 u46 u47 u48 u49 u50 u51 u52 u53 u54 u55 u56 u57 u58 u59 u60 u61 u62 u63 u64 u65 u66 u67 u68 u69 u70 u71 u72 u73 u74 u75 u76 u77 u78 u79 u80 u81 u82 u83 u84 u85 u86 u87 u88 u89 u90 u91 u92 u93 u94 u95 u96 u97 u98 u99 u100 u101 u102 u103 u104 u105 u106 u107 u108 u109 u110 : Value) (hQ0 : ∀ c (a a' : Act) w, a.defers = a'.defers → Q (.panic c) a w → Q (.panic c) a' w)
    (hB : Blk w g 78 (wds .u32 y)) (hl : y.length = 16) (ha : ia < 16) (hb : ib < 16) (hc : ic < 16) (hd : id < 16) (ea : y.getD ia 0 = va) (eb : y.getD ib 0 = vb) (ec : y.getD ic 0 = vc) (ed : y.getD id 0 = vd) (la : va < 2 ^ 32) (lb : vb < 2 ^ 32) (lc : vc < 2 ^ 32) (ld : vd < 2 ^ 32)
    (h : ∀ w' v66 v67 v68 v69 v70 v71 v72 v73 v74 v75 v76 v77 v78 v79 v80 v81 v82 v83 v84 v85 v86 v87 v88 v89 v90 v91, Below g w w' → w.heap.size ≤ w'.heap.size → Blk w' g 78 (wds .u32 ((((y.set ia ((qr va vb vc vd).getD 0 0)).set ib ((qr va vb vc vd).getD 1 0)).set ic ((qr va vb vc vd).getD 2 0)).set id ((qr va vb vc vd).getD 3 0))) → Q .normal ⟨#[u0, u1, u2, u3, u4, u5, u6, u7, u8, .pointer (some ⟨g, 0, none⟩), u10, u11, .int .i64 ia, .int .i64 ib, .int .i64 ic, .int .i64 id, u16, u17, u18, u19, u20, u21, u22, u23, u24, u25, u26, u27, u28, u29, u30, u31, u32, u33, u34, u35, u36, u37, u38, u39, u40, u41, u42, u43, u44, u45, u46, u47, u48, u49, u50, u51, u52, u53, u54, u55, u56, u57, u58, u59, u60, u61, u62, u63, u64, u65, v66, v67, v68, v69, v70, v71, v72, v73, v74, v75, v76, v77, v78, v79, v80, v81, v82, v83, v84, v85, v86, v87, v88, v89, v90, v91, u92, u93, u94, u95, u96, u97, u98, u99, u100, u101, u102, u103, u104, u105, u106, u107, u108, u109, u110], []⟩ w') :
    Code.wp Try.prog (regNo Try.f47 18) Q ⟨#[u0, u1, u2, u3, u4, u5, u6, u7, u8, .pointer (some ⟨g, 0, none⟩), u10, u11, .int .i64 ia, .int .i64 ib, .int .i64 ic, .int .i64 id, u16, u17, u18, u19, u20, u21, u22, u23, u24, u25, u26, u27, u28, u29, u30, u31, u32, u33, u34, u35, u36, u37, u38, u39, u40, u41, u42, u43, u44, u45, u46, u47, u48, u49, u50, u51, u52, u53, u54, u55, u56, u57, u58, u59, u60, u61, u62, u63, u64, u65, u66, u67, u68, u69, u70, u71, u72, u73, u74, u75, u76, u77, u78, u79, u80, u81, u82, u83, u84, u85, u86, u87, u88, u89, u90, u91, u92, u93, u94, u95, u96, u97, u98, u99, u100, u101, u102, u103, u104, u105, u106, u107, u108, u109, u110], []⟩ w := by
  conv => arg 2; whnf
  have hwa := (hB.wat ia (by omega)).1; have hwb := (hB.wat ib (by omega)).1; have hwc := (hB.wat ic (by omega)).1; have hwd := (hB.wat id (by omega)).1
  rw [ea] at hwa; rw [eb] at hwb; rw [ec] at hwc; rw [ed] at hwd
  have HL := Aside0.mk (Below.refl w.heap.size w)
  refine start_ (n := 30) (S := fun w' => w'.cell? ⟨g, ia, none⟩ = some (.int .u32 va) ∧ w'.cell? ⟨g, ib, none⟩ = some (.int .u32 vb) ∧ w'.cell? ⟨g, ic, none⟩ = some (.int .u32 vc) ∧ w'.cell? ⟨g, id, none⟩ = some (.int .u32 vd)) (ds := [23, 25, 27, 29]) #[false, false, false, false, false, false, false, false, false, false, false, false, false, false, false, false, false, false, false, false, false, false, false, false, false, false, false, false, false, false] (by kernel_rfl) rfl rfl ⟨(HL.out.cell (World.block_lt_of_cell? w _ hwa)).trans hwa, (HL.out.cell (World.block_lt_of_cell? w _ hwb)).trans hwb, (HL.out.cell (World.block_lt_of_cell? w _ hwc)).trans hwc, (HL.out.cell (World.block_lt_of_cell? w _ hwd)).trans hwd⟩ (fun hHeld => ?_); refine with_tabW strTab strBits (fun HT_ HW_ => ?_)
  have pia : (0 ≤ (ia : Int)) = True := eq_true (by omega)
  have qia : ((ia : Int) < 16) = True := eq_true (by omega)
  have ria : (ia < 16) = True := eq_true (by omega)
  have pib : (0 ≤ (ib : Int)) = True := eq_true (by omega)
  have qib : ((ib : Int) < 16) = True := eq_true (by omega)
  have rib : (ib < 16) = True := eq_true (by omega)
  have pic : (0 ≤ (ic : Int)) = True := eq_true (by omega)
  have qic : ((ic : Int) < 16) = True := eq_true (by omega)
  have ric : (ic < 16) = True := eq_true (by omega)
  have pid : (0 ≤ (id : Int)) = True := eq_true (by omega)
  have qid : ((id : Int) < 16) = True := eq_true (by omega)
  have rid : (id < 16) = True := eq_true (by omega)
  have HBk := Aside0.mk (hB.drew)
  have HL1 := Aside0.mk (below_drew1 HL.out)
  generalize w.drew = w1 at HBk HL1 hHeld ⊢
  have HI := Lib.hid (And.intro ha (And.intro hb (And.intro hc hd)))
  clear HL ha hb hc hd ea eb ec ed
  refine pure_ (i := 0) (N := some 67) (v := ?_) (a' := ?_) #[true, false, false, false, false, false, false, false, false, false, false, false, false, false, false, false, false, false, false, false, false, false, false, false, false, false, false, false, false, false] rfl rfl (any_of HT_.out (by kernel_rfl)) (fun c a w h => hQ0 c (a.put _ _) a w rfl h) (Or.inl ⟨by rfl, ?_⟩) ?_ ?_
  rotate_left
  · intro w'
    go_simp
    with_reducible rfl
  rotate_left
  · simp only [Act.put, List.setIfInBounds_toArray, List.set_cons_zero, List.set_cons_succ, i64_w, i32_w]
    rfl
  refine pure_ (i := 1) (N := some 68) (v := ?_) (a' := ?_) #[true, true, false, false, false, false, false, false, false, false, false, false, false, false, false, false, false, false, false, false, false, false, false, false, false, false, false, false, false, false] rfl rfl (any_of HT_.out (by kernel_rfl)) (fun c a w h => hQ0 c (a.put _ _) a w rfl h) (Or.inl ⟨by rfl, ?_⟩) ?_ ?_
  rotate_left
  · intro w'
    go_simp
    with_reducible rfl
  rotate_left
  · simp only [Act.put, List.setIfInBounds_toArray, List.set_cons_zero, List.set_cons_succ, i64_w, i32_w]
    rfl
  refine pure_ (i := 2) (N := some 69) (v := ?_) (a' := ?_) #[true, true, true, false, false, false, false, false, false, false, false, false, false, false, false, false, false, false, false, false, false, false, false, false, false, false, false, false, false, false] rfl rfl (any_of HT_.out (by kernel_rfl)) (fun c a w h => hQ0 c (a.put _ _) a w rfl h) (Or.inl ⟨by rfl, ?_⟩) ?_ ?_
  rotate_left
  · intro w'
    go_simp
    with_reducible rfl
  rotate_left
  · simp only [Act.put, List.setIfInBounds_toArray, List.set_cons_zero, List.set_cons_succ, i64_w, i32_w]
    rfl
  refine pure_ (i := 3) (N := some 70) (v := ?_) (a' := ?_) #[true, true, true, true, false, false, false, false, false, false, false, false, false, false, false, false, false, false, false, false, false, false, false, false, false, false, false, false, false, false] rfl rfl (any_of HT_.out (by kernel_rfl)) (fun c a w h => hQ0 c (a.put _ _) a w rfl h) (Or.inl ⟨by rfl, ?_⟩) ?_ ?_
  rotate_left
  · intro w'
    go_simp
    with_reducible rfl
  rotate_left
  · simp only [Act.put, List.setIfInBounds_toArray, List.set_cons_zero, List.set_cons_succ, i64_w, i32_w]
    rfl
  refine pure_ (i := 4) (N := some 71) (v := ?_) (a' := ?_) #[true, true, true, true, true, false, false, false, false, false, false, false, false, false, false, false, false, false, false, false, false, false, false, false, false, false, false, false, false, false] rfl rfl (any_of HT_.out (by kernel_rfl)) (fun c a w h => hQ0 c (a.put _ _) a w rfl h) (Or.inl ⟨by rfl, ?_⟩) ?_ ?_
  rotate_left
  · intro w'
    go_simp
    with_reducible rfl
  rotate_left
  · simp only [Act.put, List.setIfInBounds_toArray, List.set_cons_zero, List.set_cons_succ, i64_w, i32_w]
    rfl
  refine pure_ (i := 5) (N := some 72) (v := ?_) (a' := ?_) #[true, true, true, true, true, true, false, false, false, false, false, false, false, false, false, false, false, false, false, false, false, false, false, false, false, false, false, false, false, false] rfl rfl (any_of HT_.out (by kernel_rfl)) (fun c a w h => hQ0 c (a.put _ _) a w rfl h) (Or.inl ⟨by rfl, ?_⟩) ?_ ?_
  rotate_left
  · intro w'
    go_simp
    with_reducible rfl
  rotate_left
  · simp only [Act.put, List.setIfInBounds_toArray, List.set_cons_zero, List.set_cons_succ, i64_w, i32_w]
    rfl
  refine pure_ (i := 7) (N := some 74) (v := ?_) (a' := ?_) #[true, true, true, true, true, true, false, true, false, false, false, false, false, false, false, false, false, false, false, false, false, false, false, false, false, false, false, false, false, false] rfl rfl (any_of HT_.out (by kernel_rfl)) (fun c a w h => hQ0 c (a.put _ _) a w rfl h) (Or.inl ⟨by rfl, ?_⟩) ?_ ?_
  rotate_left
  · intro w'
    go_simp
    with_reducible rfl
  rotate_left
  · simp only [Act.put, List.setIfInBounds_toArray, List.set_cons_zero, List.set_cons_succ, i64_w, i32_w]
    rfl
  refine pure_ (i := 8) (N := some 75) (v := ?_) (a' := ?_) #[true, true, true, true, true, true, false, true, true, false, false, false, false, false, false, false, false, false, false, false, false, false, false, false, false, false, false, false, false, false] rfl rfl (any_of HT_.out (by kernel_rfl)) (fun c a w h => hQ0 c (a.put _ _) a w rfl h) (Or.inl ⟨by rfl, ?_⟩) ?_ ?_
  rotate_left
  · intro w'
    go_simp
    with_reducible rfl
  rotate_left
  · simp only [Act.put, List.setIfInBounds_toArray, List.set_cons_zero, List.set_cons_succ, i64_w, i32_w]
    rfl
  refine pure_ (i := 10) (N := some 77) (v := ?_) (a' := ?_) #[true, true, true, true, true, true, false, true, true, false, true, false, false, false, false, false, false, false, false, false, false, false, false, false, false, false, false, false, false, false] rfl rfl (any_of HT_.out (by kernel_rfl)) (fun c a w h => hQ0 c (a.put _ _) a w rfl h) (Or.inl ⟨by rfl, ?_⟩) ?_ ?_
  rotate_left
  · intro w'
    go_simp
    with_reducible rfl
  rotate_left
  · simp only [Act.put, List.setIfInBounds_toArray, List.set_cons_zero, List.set_cons_succ, i64_w, i32_w]
    rfl
  refine pure_ (i := 11) (N := some 78) (v := ?_) (a' := ?_) #[true, true, true, true, true, true, false, true, true, false, true, true, false, false, false, false, false, false, false, false, false, false, false, false, false, false, false, false, false, false] rfl rfl (any_of HT_.out (by kernel_rfl)) (fun c a w h => hQ0 c (a.put _ _) a w rfl h) (Or.inl ⟨by rfl, ?_⟩) ?_ ?_
  rotate_left
  · intro w'
    go_simp
    with_reducible rfl
  rotate_left
  · simp only [Act.put, List.setIfInBounds_toArray, List.set_cons_zero, List.set_cons_succ, i64_w, i32_w]
    rfl
  refine pure_ (i := 13) (N := some 80) (v := ?_) (a' := ?_) #[true, true, true, true, true, true, false, true, true, false, true, true, false, true, false, false, false, false, false, false, false, false, false, false, false, false, false, false, false, false] rfl rfl (any_of HT_.out (by kernel_rfl)) (fun c a w h => hQ0 c (a.put _ _) a w rfl h) (Or.inl ⟨by rfl, ?_⟩) ?_ ?_
  rotate_left
  · intro w'
    go_simp
    with_reducible rfl
  rotate_left
  · simp only [Act.put, List.setIfInBounds_toArray, List.set_cons_zero, List.set_cons_succ, i64_w, i32_w]
    rfl
  refine pure_ (i := 14) (N := some 81) (v := ?_) (a' := ?_) #[true, true, true, true, true, true, false, true, true, false, true, true, false, true, true, false, false, false, false, false, false, false, false, false, false, false, false, false, false, false] rfl rfl (any_of HT_.out (by kernel_rfl)) (fun c a w h => hQ0 c (a.put _ _) a w rfl h) (Or.inl ⟨by rfl, ?_⟩) ?_ ?_
  rotate_left
  · intro w'
    go_simp
    with_reducible rfl
  rotate_left
  · simp only [Act.put, List.setIfInBounds_toArray, List.set_cons_zero, List.set_cons_succ, i64_w, i32_w]
    rfl
  refine take_ (i := 6) (N := some 73) (v := ?_) (a' := ?_) #[true, true, true, true, true, true, true, true, true, false, true, true, false, true, true, false, false, false, false, false, false, false, false, false, false, false, false, false, false, false] rfl rfl (take_ofW HT_.out HW_.out (by kernel_rfl)) (fun c a w h => hQ0 c (a.put _ _) a w rfl h) (Or.inl ⟨by rfl, ?_⟩) hHeld ?_ ?_
  rotate_left
  · rintro w' ⟨s0, s1, s2, s3⟩
    go_simp
    with_reducible rfl
  rotate_left
  · simp only [Act.put, List.setIfInBounds_toArray, List.set_cons_zero, List.set_cons_succ, i64_w, i32_w]
    rfl
  refine take_ (i := 9) (N := some 76) (v := ?_) (a' := ?_) #[true, true, true, true, true, true, true, true, true, true, true, true, false, true, true, false, false, false, false, false, false, false, false, false, false, false, false, false, false, false] rfl rfl (take_ofW HT_.out HW_.out (by kernel_rfl)) (fun c a w h => hQ0 c (a.put _ _) a w rfl h) (Or.inl ⟨by rfl, ?_⟩) hHeld ?_ ?_
  rotate_left
  · rintro w' ⟨s0, s1, s2, s3⟩
    go_simp
    with_reducible rfl
  rotate_left
  · simp only [Act.put, List.setIfInBounds_toArray, List.set_cons_zero, List.set_cons_succ, i64_w, i32_w]
    rfl
  refine take_ (i := 12) (N := some 79) (v := ?_) (a' := ?_) #[true, true, true, true, true, true, true, true, true, true, true, true, true, true, true, false, false, false, false, false, false, false, false, false, false, false, false, false, false, false] rfl rfl (take_ofW HT_.out HW_.out (by kernel_rfl)) (fun c a w h => hQ0 c (a.put _ _) a w rfl h) (Or.inl ⟨by rfl, ?_⟩) hHeld ?_ ?_
  rotate_left
  · rintro w' ⟨s0, s1, s2, s3⟩
    go_simp
    with_reducible rfl
  rotate_left
  · simp only [Act.put, List.setIfInBounds_toArray, List.set_cons_zero, List.set_cons_succ, i64_w, i32_w]
    rfl
  refine take_ (i := 15) (N := some 82) (v := ?_) (a' := ?_) #[true, true, true, true, true, true, true, true, true, true, true, true, true, true, true, true, false, false, false, false, false, false, false, false, false, false, false, false, false, false] rfl rfl (take_ofW HT_.out HW_.out (by kernel_rfl)) (fun c a w h => hQ0 c (a.put _ _) a w rfl h) (Or.inl ⟨by rfl, ?_⟩) hHeld ?_ ?_
  rotate_left
  · rintro w' ⟨s0, s1, s2, s3⟩
    go_simp
    with_reducible rfl
  rotate_left
  · simp only [Act.put, List.setIfInBounds_toArray, List.set_cons_zero, List.set_cons_succ, i64_w, i32_w]
    rfl
  refine one_ (i := 16) (N := some 83) #[true, true, true, true, true, true, true, true, true, true, true, true, true, true, true, true, true, false, false, false, false, false, false, false, false, false, false, false, false, false] rfl rfl (one_of HT_.out (by kernel_rfl)) (by decide) (fun K hK => ?_)
  refine goes_ Try.func43 (by kernel_rfl) rfl #[.int .u32 va, .int .u32 vb, .int .u32 vc, .int .u32 vd] (by rfl) rfl rfl (by (try simp only [List.map_toArray, List.map_cons, List.map_nil]); first | done | rfl) ?_
  with_reducible refine (quarter_calls va vb vc vd la lb lc ld _).mono ?_
  rintro e w12 ⟨rfl, hb⟩
  refine ⟨_, rfl, ?_⟩
  have n0_ := Aside0.mk (HBk.out.below hb)
  have n1_ := Aside0.mk (below_step HL1.out hb)
  clear HBk HL1 hb
  have HBk := n0_
  have HL1 := n1_
  clear n0_ n1_
  refine hK.out _ _ ⟨(HL1.out.cell (World.block_lt_of_cell? w _ hwa)).trans hwa, (HL1.out.cell (World.block_lt_of_cell? w _ hwb)).trans hwb, (HL1.out.cell (World.block_lt_of_cell? w _ hwc)).trans hwc, (HL1.out.cell (World.block_lt_of_cell? w _ hwd)).trans hwd⟩ (fun hHeld => ?_)
  clear hK K
  refine norm_ (a' := ?_) ?_ ?_
  rotate_left
  · show Act.put _ (some 83) _ = _
    simp only [Act.put, List.setIfInBounds_toArray, List.set_cons_zero, List.set_cons_succ, i64_w, i32_w]
    rfl
  have HG := Aside0.mk (HL1.out.mono (Nat.le_of_lt hB.lt))
  have HZ := Aside0.mk HL1.out.size
  clear HL1 hwa hwb hwc hwd hHeld
  generalize (qr va vb vc vd).getD 0 0 = q0 at h ⊢
  generalize (qr va vb vc vd).getD 1 0 = q1 at h ⊢
  generalize (qr va vb vc vd).getD 2 0 = q2 at h ⊢
  generalize (qr va vb vc vd).getD 3 0 = q3 at h ⊢
  refine pure_ (i := 17) (N := some 66) (v := ?_) (a' := ?_) #[true, true, true, true, true, true, true, true, true, true, true, true, true, true, true, true, true, true, false, false, false, false, false, false, false, false, false, false, false, false] rfl rfl (any_of HT_.out (by kernel_rfl)) (fun c a w h => hQ0 c (a.put _ _) a w rfl h) (Or.inl ⟨by rfl, ?_⟩) ?_ ?_
  rotate_left
  · intro w'
    go_simp
    with_reducible rfl
  rotate_left
  · simp only [Act.put, List.setIfInBounds_toArray, List.set_cons_zero, List.set_cons_succ, i64_w, i32_w]
    rfl
  refine pure_ (i := 18) (N := some 84) (v := ?_) (a' := ?_) #[true, true, true, true, true, true, true, true, true, true, true, true, true, true, true, true, true, true, true, false, false, false, false, false, false, false, false, false, false, false] rfl rfl (any_of HT_.out (by kernel_rfl)) (fun c a w h => hQ0 c (a.put _ _) a w rfl h) (Or.inl ⟨by rfl, ?_⟩) ?_ ?_
  rotate_left
  · intro w'
    go_simp
    with_reducible rfl
  rotate_left
  · simp only [Act.put, List.setIfInBounds_toArray, List.set_cons_zero, List.set_cons_succ, i64_w, i32_w]
    rfl
  refine pure_ (i := 19) (N := some 85) (v := ?_) (a' := ?_) #[true, true, true, true, true, true, true, true, true, true, true, true, true, true, true, true, true, true, true, true, false, false, false, false, false, false, false, false, false, false] rfl rfl (any_of HT_.out (by kernel_rfl)) (fun c a w h => hQ0 c (a.put _ _) a w rfl h) (Or.inl ⟨by rfl, ?_⟩) ?_ ?_
  rotate_left
  · intro w'
    go_simp
    with_reducible rfl
  rotate_left
  · simp only [Act.put, List.setIfInBounds_toArray, List.set_cons_zero, List.set_cons_succ, i64_w, i32_w]
    rfl
  refine pure_ (i := 20) (N := some 86) (v := ?_) (a' := ?_) #[true, true, true, true, true, true, true, true, true, true, true, true, true, true, true, true, true, true, true, true, true, false, false, false, false, false, false, false, false, false] rfl rfl (any_of HT_.out (by kernel_rfl)) (fun c a w h => hQ0 c (a.put _ _) a w rfl h) (Or.inl ⟨by rfl, ?_⟩) ?_ ?_
  rotate_left
  · intro w'
    go_simp
    with_reducible rfl
  rotate_left
  · simp only [Act.put, List.setIfInBounds_toArray, List.set_cons_zero, List.set_cons_succ, i64_w, i32_w]
    rfl
  refine pure_ (i := 21) (N := some 87) (v := ?_) (a' := ?_) #[true, true, true, true, true, true, true, true, true, true, true, true, true, true, true, true, true, true, true, true, true, true, false, false, false, false, false, false, false, false] rfl rfl (any_of HT_.out (by kernel_rfl)) (fun c a w h => hQ0 c (a.put _ _) a w rfl h) (Or.inl ⟨by rfl, ?_⟩) ?_ ?_
  rotate_left
  · intro w'
    go_simp
    with_reducible rfl
  rotate_left
  · simp only [Act.put, List.setIfInBounds_toArray, List.set_cons_zero, List.set_cons_succ, i64_w, i32_w]
    rfl
  refine pure_ (i := 22) (N := some 88) (v := ?_) (a' := ?_) #[true, true, true, true, true, true, true, true, true, true, true, true, true, true, true, true, true, true, true, true, true, true, true, false, false, false, false, false, false, false] rfl rfl (any_of HT_.out (by kernel_rfl)) (fun c a w h => hQ0 c (a.put _ _) a w rfl h) (Or.inl ⟨by rfl, ?_⟩) ?_ ?_
  rotate_left
  · intro w'
    go_simp
    with_reducible rfl
  rotate_left
  · simp only [Act.put, List.setIfInBounds_toArray, List.set_cons_zero, List.set_cons_succ, i64_w, i32_w]
    rfl
  have hcf0 := HBk.out.wat ia (by have hi := HI.out; (try simp only [List.length_set]); omega)
  have hc0 := hcf0.1
  have hf0 := hcf0.2
  refine last_ (i := 23) (N := none) #[true, true, true, true, true, true, true, true, true, true, true, true, true, true, true, true, true, true, true, true, true, true, true, true, false, false, false, false, false, false] rfl rfl (one_of HT_.out (by kernel_rfl)) (by decide) (fun K hK => ?_)
  refine skip_ (w1 := ?_) (by rfl) rfl ?_ ?_
  rotate_left
  · go_simp
    rfl
  refine hK.out _ _ ?_
  clear hK K hcf0 hc0 hf0
  have n0_ := Aside0.mk (HBk.out.wset ia q0)
  have n1_ := Aside0.mk (HG.out.setCell (p := ⟨g, ia, none⟩) (Nat.le_refl g) (.int .u32 (q0 : Int)))
  have n2_ := Aside0.mk (le_set HZ.out ⟨g, ia, none⟩ (.int .u32 (q0 : Int)))
  clear HBk HG HZ
  have HBk := n0_
  have HG := n1_
  have HZ := n2_
  clear n0_ n1_ n2_
  generalize World.setCell _ ⟨g, ia, none⟩ _ = wn0 at HBk HG HZ ⊢
  refine pure_ (i := 24) (N := some 89) (v := ?_) (a' := ?_) #[true, true, true, true, true, true, true, true, true, true, true, true, true, true, true, true, true, true, true, true, true, true, true, true, true, false, false, false, false, false] rfl rfl (any_of HT_.out (by kernel_rfl)) (fun c a w h => hQ0 c (a.put _ _) a w rfl h) (Or.inl ⟨by rfl, ?_⟩) ?_ ?_
  rotate_left
  · intro w'
    go_simp
    with_reducible rfl
  rotate_left
  · simp only [Act.put, List.setIfInBounds_toArray, List.set_cons_zero, List.set_cons_succ, i64_w, i32_w]
    rfl
  have hcf1 := HBk.out.wat ib (by have hi := HI.out; (try simp only [List.length_set]); omega)
  have hc1 := hcf1.1
  have hf1 := hcf1.2
  refine last_ (i := 25) (N := none) #[true, true, true, true, true, true, true, true, true, true, true, true, true, true, true, true, true, true, true, true, true, true, true, true, true, true, false, false, false, false] rfl rfl (one_of HT_.out (by kernel_rfl)) (by decide) (fun K hK => ?_)
  refine skip_ (w1 := ?_) (by rfl) rfl ?_ ?_
  rotate_left
  · go_simp
    rfl
  refine hK.out _ _ ?_
  clear hK K hcf1 hc1 hf1
  have n0_ := Aside0.mk (HBk.out.wset ib q1)
  have n1_ := Aside0.mk (HG.out.setCell (p := ⟨g, ib, none⟩) (Nat.le_refl g) (.int .u32 (q1 : Int)))
  have n2_ := Aside0.mk (le_set HZ.out ⟨g, ib, none⟩ (.int .u32 (q1 : Int)))
  clear HBk HG HZ
  have HBk := n0_
  have HG := n1_
  have HZ := n2_
  clear n0_ n1_ n2_
  generalize World.setCell _ ⟨g, ib, none⟩ _ = wn1 at HBk HG HZ ⊢
  refine pure_ (i := 26) (N := some 90) (v := ?_) (a' := ?_) #[true, true, true, true, true, true, true, true, true, true, true, true, true, true, true, true, true, true, true, true, true, true, true, true, true, true, true, false, false, false] rfl rfl (any_of HT_.out (by kernel_rfl)) (fun c a w h => hQ0 c (a.put _ _) a w rfl h) (Or.inl ⟨by rfl, ?_⟩) ?_ ?_
  rotate_left
  · intro w'
    go_simp
    with_reducible rfl
  rotate_left
  · simp only [Act.put, List.setIfInBounds_toArray, List.set_cons_zero, List.set_cons_succ, i64_w, i32_w]
    rfl
  have hcf2 := HBk.out.wat ic (by have hi := HI.out; (try simp only [List.length_set]); omega)
  have hc2 := hcf2.1
  have hf2 := hcf2.2
  refine last_ (i := 27) (N := none) #[true, true, true, true, true, true, true, true, true, true, true, true, true, true, true, true, true, true, true, true, true, true, true, true, true, true, true, true, false, false] rfl rfl (one_of HT_.out (by kernel_rfl)) (by decide) (fun K hK => ?_)
  refine skip_ (w1 := ?_) (by rfl) rfl ?_ ?_
  rotate_left
  · go_simp
    rfl
  refine hK.out _ _ ?_
  clear hK K hcf2 hc2 hf2
  have n0_ := Aside0.mk (HBk.out.wset ic q2)
  have n1_ := Aside0.mk (HG.out.setCell (p := ⟨g, ic, none⟩) (Nat.le_refl g) (.int .u32 (q2 : Int)))
  have n2_ := Aside0.mk (le_set HZ.out ⟨g, ic, none⟩ (.int .u32 (q2 : Int)))
  clear HBk HG HZ
  have HBk := n0_
  have HG := n1_
  have HZ := n2_
  clear n0_ n1_ n2_
  generalize World.setCell _ ⟨g, ic, none⟩ _ = wn2 at HBk HG HZ ⊢
  refine pure_ (i := 28) (N := some 91) (v := ?_) (a' := ?_) #[true, true, true, true, true, true, true, true, true, true, true, true, true, true, true, true, true, true, true, true, true, true, true, true, true, true, true, true, true, false] rfl rfl (any_of HT_.out (by kernel_rfl)) (fun c a w h => hQ0 c (a.put _ _) a w rfl h) (Or.inl ⟨by rfl, ?_⟩) ?_ ?_
  rotate_left
  · intro w'
    go_simp
    with_reducible rfl
  rotate_left
  · simp only [Act.put, List.setIfInBounds_toArray, List.set_cons_zero, List.set_cons_succ, i64_w, i32_w]
    rfl
  have hcf3 := HBk.out.wat id (by have hi := HI.out; (try simp only [List.length_set]); omega)
  have hc3 := hcf3.1
  have hf3 := hcf3.2
  refine last_ (i := 29) (N := none) #[true, true, true, true, true, true, true, true, true, true, true, true, true, true, true, true, true, true, true, true, true, true, true, true, true, true, true, true, true, true] rfl rfl (one_of HT_.out (by kernel_rfl)) (by decide) (fun K hK => ?_)
  refine skip_ (w1 := ?_) (by rfl) rfl ?_ ?_
  rotate_left
  · go_simp
    rfl
  refine hK.out _ _ ?_
  clear hK K hcf3 hc3 hf3
  have n0_ := Aside0.mk (HBk.out.wset id q3)
  have n1_ := Aside0.mk (HG.out.setCell (p := ⟨g, id, none⟩) (Nat.le_refl g) (.int .u32 (q3 : Int)))
  have n2_ := Aside0.mk (le_set HZ.out ⟨g, id, none⟩ (.int .u32 (q3 : Int)))
  clear HBk HG HZ
  have HBk := n0_
  have HG := n1_
  have HZ := n2_
  clear n0_ n1_ n2_
  generalize World.setCell _ ⟨g, id, none⟩ _ = wn3 at HBk HG HZ ⊢
  refine done_ (done_of HT_.out (by kernel_rfl)) ?_
  exact h _ _ _ _ _ _ _ _ _ _ _ _ _ _ _ _ _ _ _ _ _ _ _ _ _ _ _ HG.out HZ.out HBk.out

end Go.Proofs.Ytihpnededldedaa.Leaf
