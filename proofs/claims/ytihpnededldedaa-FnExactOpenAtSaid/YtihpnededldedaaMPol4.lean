/- The tag of a text, the program's and the reference's. Conditions: a key of 32 bytes. -/
import Derived.Test.YtihpnededldedaaMPol3
import Derived.Test.YtihpnededldedaaWTab
import Derived.Test.YtihpnededldedaaLeafK
import Derived.Test.YtihpnededldedaaCat
import Derived.Test.YtihpnededldedaaMPol2
import Derived.Test.YtihpnededldedaaLeafL
import Derived.Test.YtihpnededldedaaLoop
namespace Go.Proofs.Ytihpnededldedaa.Leaf

section
open Go.RowKit Go.Shelf Go.Proofs.YtihpnededldedaaW.PrintWords Go.Proofs.YtihpnededldedaaW.PrintLast Go.Proofs.YtihpnededldedaaW.PrintMore Go.Proofs.Ytihpnededldedaa.Pol
set_option linter.unusedSimpArgs false
set_option linter.unusedVariables false
def regionsT : Code → List Code
  | .region i o d => [.region i o d]
  | .loop c => regionsT c
  | .seq a b => regionsT a ++ regionsT b
  | .block _ c => regionsT c
  | .scope c => regionsT c
  | .cond _ a b => regionsT a ++ regionsT b
  | _ => []
def isRegT (k : Nat) : Code → Bool
  | .region i _ _ => i == k
  | _ => false
noncomputable def regNoT (f : Func) (k : Nat) : Code := (((f.body.map regionsT).getD []).find? (isRegT k)).getD .skip
def tagT : Bool × List (List Nat × List Nat) := (true, [([], []), ([], []), ([], []), ([], []), ([3], [3]), ([], []), ([5], [5]), ([4, 6], [4, 6]), ([1, 2, 7], [1, 2, 7]), ([8], [8]), ([9], [9]), ([0, 10, 10], [0, 10]), ([], []), ([11, 12, 11], [11, 12]), ([13, 13, 0, 1, 2, 3, 4, 5, 6, 7, 8, 9, 10, 11, 12, 13], [13])])
def tagB : List Nat := [0, 0, 0, 0, 8, 0, 32, 120, 254, 510, 1022, 2047, 0, 8191, 16383]
theorem tagTab : rtab .any (opsOf Try.f50 6) = tagT := by kernel_rfl
theorem tagBits : waitsOk tagT.2 tagB = true := by kernel_rfl

set_option maxHeartbeats 8000000 in
set_option maxRecDepth 100000 in
theorem tag_r6 (Q : Exit → Act → World → Prop) (g0 g gr : Nat) (t z : ByteArray) (p e : Nat) (m s : List Nat) (h0 h1 h2 h3 h4 r0 r1 r2 r3 r4 x0 x1 x2 x3 x4 : Nat) (w : World) (u0 u2 u3 u4 u8 u9 u10 u11 u12 u13 u14 u15 u16 u17 u18 u19 u20 u21 u22 u23 u24 u25 u26 u27 u28 u29 u30 u31 u32 u33 u34 u35 : Value) (hQ0 : ∀ c (a a' : Act) w, a.defers = a'.defers → Q (.panic c) a w → Q (.panic c) a' w)
    (hB : Blk w g 90 (wds .u64 [h0, h1, h2, h3, h4])) (hR : Blk w gr 90 (wds .u64 [r0, r1, r2, r3, r4])) (hg0 : g0 ≤ g) (hne : gr ≠ g) (hp : p < t.size) (he : min (p + 16) t.size = e) (ht : t.size ≤ 1000000) (hz : t.extract p e ++ ⟨#[1]⟩ = z)
    (C1 : ∀ W, Calls Try.prog 87 #[.string z] W fun e w' => e = .returned (.agg (wds .u64 m)) ∧ Below W.heap.size W w')
    (C2 : ∀ W, Calls Try.prog 89 #[.agg #[.int .u64 h0, .int .u64 h1, .int .u64 h2, .int .u64 h3, .int .u64 h4], .agg (wds .u64 m)] W fun e w' => e = .returned (.agg (wds .u64 s)) ∧ Below W.heap.size W w')
    (C3 : ∀ W, Calls Try.prog 90 #[.agg (wds .u64 s), .agg #[.int .u64 r0, .int .u64 r1, .int .u64 r2, .int .u64 r3, .int .u64 r4]] W fun e w' => e = .returned (.agg #[.int .u64 x0, .int .u64 x1, .int .u64 x2, .int .u64 x3, .int .u64 x4]) ∧ Below W.heap.size W w')
    (h : ∀ w' v17 v18 v19 v20 v21 v22 v23 v24 v25 v26 v27 v28 v29 v30, Blk w' g 90 (wds .u64 [x0, x1, x2, x3, x4]) → Blk w' gr 90 (wds .u64 [r0, r1, r2, r3, r4]) → Below g0 w w' → Q .normal ⟨#[u0, .string t, u2, u3, u4, .pointer (some ⟨g, 0, none⟩), .pointer (some ⟨gr, 0, none⟩), .int .i64 p, u8, u9, u10, u11, u12, u13, u14, u15, u16, v17, v18, v19, v20, v21, v22, v23, v24, v25, v26, v27, v28, v29, v30, u31, u32, u33, u34, u35], []⟩ w') :
    Code.wp Try.prog (regNoT Try.f50 6) Q ⟨#[u0, .string t, u2, u3, u4, .pointer (some ⟨g, 0, none⟩), .pointer (some ⟨gr, 0, none⟩), .int .i64 p, u8, u9, u10, u11, u12, u13, u14, u15, u16, u17, u18, u19, u20, u21, u22, u23, u24, u25, u26, u27, u28, u29, u30, u31, u32, u33, u34, u35], []⟩ w := by
  conv => arg 2; whnf
  have HL := Aside0.mk (Below.refl w.heap.size w)
  refine start_ (n := 15) (S := fun w' => w'.cell? ⟨g, 0, none⟩ = some (.int .u64 h0) ∧ w'.cell? ⟨g, 1, none⟩ = some (.int .u64 h1) ∧ w'.cell? ⟨g, 2, none⟩ = some (.int .u64 h2) ∧ w'.cell? ⟨g, 3, none⟩ = some (.int .u64 h3) ∧ w'.cell? ⟨g, 4, none⟩ = some (.int .u64 h4) ∧ w'.cell? ⟨gr, 0, none⟩ = some (.int .u64 r0) ∧ w'.cell? ⟨gr, 1, none⟩ = some (.int .u64 r1) ∧ w'.cell? ⟨gr, 2, none⟩ = some (.int .u64 r2) ∧ w'.cell? ⟨gr, 3, none⟩ = some (.int .u64 r3) ∧ w'.cell? ⟨gr, 4, none⟩ = some (.int .u64 r4)) (ds := [14]) #[false, false, false, false, false, false, false, false, false, false, false, false, false, false, false] (by kernel_rfl) rfl rfl ⟨(Blk.five hB).1.1, (Blk.five hB).2.1.1, (Blk.five hB).2.2.1.1, (Blk.five hB).2.2.2.1.1, (Blk.five hB).2.2.2.2.1, (Blk.five hR).1.1, (Blk.five hR).2.1.1, (Blk.five hR).2.2.1.1, (Blk.five hR).2.2.2.1.1, (Blk.five hR).2.2.2.2.1⟩ (fun hHeld => ?_); refine with_tabW tagTab tagBits (fun HT_ HW_ => ?_)
  have HBk := Aside0.mk (hB.drew)
  have HRk := Aside0.mk (hR.drew)
  have HL1 := Aside0.mk (below_drew1 HL.out)
  generalize w.drew = w1 at HBk HRk HL1 hHeld ⊢
  have HLT := Aside0.mk hB.lt
  obtain ⟨q, hq⟩ : ∃ q, p + 16 = q := ⟨_, rfl⟩
  have hwq : wrap64 ((p : Int) + 16) = (q : Int) := by rw [wrap_ok _ (by omega) (by omega)]; omega
  have hmin : (if (t.size : Int) < (q : Int) then (t.size : Int) else (q : Int)) = (e : Int) := by split <;> omega
  have hmin2 : (if t.size < q then (t.size : Int) else (q : Int)) = (e : Int) := by split <;> omega
  have hpe : p ≤ e := by omega
  have het : e ≤ t.size := by omega
  obtain ⟨y, hy⟩ : ∃ y, t.extract p e = y := ⟨_, rfl⟩
  have hys : y.size + 1 ≤ 9223372036854775807 := by rw [← hy, ByteArray.size_extract]; omega
  rw [hy] at hz
  have hys1 : (y.size + 1 ≤ 9223372036854775807) = True := eq_true hys
  have hys2 : (9223372036854775807 < y.size + 1) = False := eq_false (by omega)
  have n1 : (0 ≤ (p : Int)) = True := eq_true (by omega)
  have n2 : ((p : Int) ≤ (e : Int)) = True := eq_true (by omega)
  have n3 : ((e : Int) ≤ (t.size : Int)) = True := eq_true (by omega)
  have n4 : ((e : Int) < (p : Int)) = False := eq_false (by omega)
  have n5 : ((t.size : Int) < (e : Int)) = False := eq_false (by omega)
  have n6 : ((p : Int) < 0) = False := eq_false (by omega)
  have n7 : ((e : Int) < 0) = False := eq_false (by omega)
  clear HL hB hR hq he hp hys
  refine take_ (i := 0) (N := some 17) (v := ?_) (a' := ?_) #[true, false, false, false, false, false, false, false, false, false, false, false, false, false, false] rfl rfl (take_ofW HT_.out HW_.out (by kernel_rfl)) (fun c a w h => hQ0 c (a.put _ _) a w rfl h) (Or.inl ⟨by rfl, ?_⟩) hHeld ?_ ?_
  rotate_left
  · rintro w' ⟨s0, s1, s2, s3, s4, s5, s6, s7, s8, s9⟩
    go_simp
    with_reducible rfl
  rotate_left
  · simp only [Act.put, List.setIfInBounds_toArray, List.set_cons_zero, List.set_cons_succ, i64_w, i32_w]
    rfl
  refine take_ (i := 12) (N := some 29) (v := ?_) (a' := ?_) #[true, false, false, false, false, false, false, false, false, false, false, false, true, false, false] rfl rfl (take_ofW HT_.out HW_.out (by kernel_rfl)) (fun c a w h => hQ0 c (a.put _ _) a w rfl h) (Or.inl ⟨by rfl, ?_⟩) hHeld ?_ ?_
  rotate_left
  · rintro w' ⟨s0, s1, s2, s3, s4, s5, s6, s7, s8, s9⟩
    go_simp
    with_reducible rfl
  rotate_left
  · simp only [Act.put, List.setIfInBounds_toArray, List.set_cons_zero, List.set_cons_succ, i64_w, i32_w]
    rfl
  refine pure_ (i := 1) (N := some 18) (v := ?_) (a' := ?_) #[true, true, false, false, false, false, false, false, false, false, false, false, true, false, false] rfl rfl (any_of HT_.out (by kernel_rfl)) (fun c a w h => hQ0 c (a.put _ _) a w rfl h) (Or.inl ⟨by rfl, ?_⟩) ?_ ?_
  rotate_left
  · intro w'
    go_simp
    with_reducible rfl
  rotate_left
  · simp only [Act.put, List.setIfInBounds_toArray, List.set_cons_zero, List.set_cons_succ, i64_w, i32_w]
    rfl
  refine pure_ (i := 2) (N := some 19) (v := ?_) (a' := ?_) #[true, true, true, false, false, false, false, false, false, false, false, false, true, false, false] rfl rfl (any_of HT_.out (by kernel_rfl)) (fun c a w h => hQ0 c (a.put _ _) a w rfl h) (Or.inl ⟨by rfl, ?_⟩) ?_ ?_
  rotate_left
  · intro w'
    go_simp
    with_reducible rfl
  rotate_left
  · simp only [Act.put, List.setIfInBounds_toArray, List.set_cons_zero, List.set_cons_succ, i64_w, i32_w]
    rfl
  refine pure_ (i := 3) (N := some 20) (v := ?_) (a' := ?_) #[true, true, true, true, false, false, false, false, false, false, false, false, true, false, false] rfl rfl (any_of HT_.out (by kernel_rfl)) (fun c a w h => hQ0 c (a.put _ _) a w rfl h) (Or.inl ⟨by rfl, ?_⟩) ?_ ?_
  rotate_left
  · intro w'
    go_simp
    with_reducible rfl
  rotate_left
  · simp only [Act.put, List.setIfInBounds_toArray, List.set_cons_zero, List.set_cons_succ, i64_w, i32_w]
    rfl
  refine pure_ (i := 4) (N := some 21) (v := ?_) (a' := ?_) #[true, true, true, true, true, false, false, false, false, false, false, false, true, false, false] rfl rfl (any_of HT_.out (by kernel_rfl)) (fun c a w h => hQ0 c (a.put _ _) a w rfl h) (Or.inl ⟨by rfl, ?_⟩) ?_ ?_
  rotate_left
  · intro w'
    go_simp
    with_reducible rfl
  rotate_left
  · simp only [Act.put, List.setIfInBounds_toArray, List.set_cons_zero, List.set_cons_succ, i64_w, i32_w]
    rfl
  refine pure_ (i := 5) (N := some 22) (v := ?_) (a' := ?_) #[true, true, true, true, true, true, false, false, false, false, false, false, true, false, false] rfl rfl (any_of HT_.out (by kernel_rfl)) (fun c a w h => hQ0 c (a.put _ _) a w rfl h) (Or.inl ⟨by rfl, ?_⟩) ?_ ?_
  rotate_left
  · intro w'
    go_simp
    with_reducible rfl
  rotate_left
  · simp only [Act.put, List.setIfInBounds_toArray, List.set_cons_zero, List.set_cons_succ, i64_w, i32_w]
    rfl
  refine pure_ (i := 6) (N := some 23) (v := ?_) (a' := ?_) #[true, true, true, true, true, true, true, false, false, false, false, false, true, false, false] rfl rfl (any_of HT_.out (by kernel_rfl)) (fun c a w h => hQ0 c (a.put _ _) a w rfl h) (Or.inl ⟨by rfl, ?_⟩) ?_ ?_
  rotate_left
  · intro w'
    go_simp
    with_reducible rfl
  rotate_left
  · simp only [Act.put, List.setIfInBounds_toArray, List.set_cons_zero, List.set_cons_succ, i64_w, i32_w]
    rfl
  refine pure_ (i := 7) (N := some 24) (v := ?_) (a' := ?_) #[true, true, true, true, true, true, true, true, false, false, false, false, true, false, false] rfl rfl (any_of HT_.out (by kernel_rfl)) (fun c a w h => hQ0 c (a.put _ _) a w rfl h) (Or.inl ⟨by rfl, ?_⟩) ?_ ?_
  rotate_left
  · intro w'
    go_simp
    with_reducible rfl
  rotate_left
  · simp only [Act.put, List.setIfInBounds_toArray, List.set_cons_zero, List.set_cons_succ, i64_w, i32_w]
    rfl
  refine pure_ (i := 8) (N := some 25) (v := ?_) (a' := ?_) #[true, true, true, true, true, true, true, true, true, false, false, false, true, false, false] rfl rfl (any_of HT_.out (by kernel_rfl)) (fun c a w h => hQ0 c (a.put _ _) a w rfl h) (Or.inl ⟨by rfl, ?_⟩) ?_ ?_
  rotate_left
  · intro w'
    go_simp
    with_reducible rfl
  rotate_left
  · simp only [Act.put, List.setIfInBounds_toArray, List.set_cons_zero, List.set_cons_succ, i64_w, i32_w]
    rfl
  refine pure_ (i := 9) (N := some 26) (v := ?_) (a' := ?_) #[true, true, true, true, true, true, true, true, true, true, false, false, true, false, false] rfl rfl (any_of HT_.out (by kernel_rfl)) (fun c a w h => hQ0 c (a.put _ _) a w rfl h) (Or.inl ⟨by rfl, ?_⟩) ?_ ?_
  rotate_left
  · intro w'
    go_simp
    with_reducible rfl
  rotate_left
  · simp only [Act.put, List.setIfInBounds_toArray, List.set_cons_zero, List.set_cons_succ, i64_w, i32_w]
    rfl
  refine one_ (i := 10) (N := some 27) #[true, true, true, true, true, true, true, true, true, true, true, false, true, false, false] rfl rfl (one_of HT_.out (by kernel_rfl)) (by decide) (fun K hK => ?_)
  refine goes_ Try.func87 (by kernel_rfl) rfl #[.string z] (by rfl) rfl rfl (by (try simp only [List.map_toArray, List.map_cons, List.map_nil]); first | done | rfl) ?_
  with_reducible refine (C1 _).mono ?_
  rintro e10 w10 ⟨rfl, hb⟩
  refine ⟨_, rfl, ?_⟩
  have n0_ := Aside0.mk (HBk.out.below hb)
  have n1_ := Aside0.mk (HRk.out.below hb)
  have n2_ := Aside0.mk (below_step HL1.out hb)
  clear HBk HRk HL1 hb
  have HBk := n0_
  have HRk := n1_
  have HL1 := n2_
  clear n0_ n1_ n2_
  refine hK.out _ _ ⟨(Blk.five HBk.out).1.1, (Blk.five HBk.out).2.1.1, (Blk.five HBk.out).2.2.1.1, (Blk.five HBk.out).2.2.2.1.1, (Blk.five HBk.out).2.2.2.2.1, (Blk.five HRk.out).1.1, (Blk.five HRk.out).2.1.1, (Blk.five HRk.out).2.2.1.1, (Blk.five HRk.out).2.2.2.1.1, (Blk.five HRk.out).2.2.2.2.1⟩ (fun hHeld => ?_)
  clear hK K
  refine norm_ (a' := ?_) ?_ ?_
  rotate_left
  · show Act.put _ (some 27) _ = _
    simp only [Act.put, List.setIfInBounds_toArray, List.set_cons_zero, List.set_cons_succ, i64_w, i32_w]
    rfl
  refine one_ (i := 11) (N := some 28) #[true, true, true, true, true, true, true, true, true, true, true, true, true, false, false] rfl rfl (one_of HT_.out (by kernel_rfl)) (by decide) (fun K hK => ?_)
  refine goes_ Try.func89 (by kernel_rfl) rfl #[.agg #[.int .u64 h0, .int .u64 h1, .int .u64 h2, .int .u64 h3, .int .u64 h4], .agg (wds .u64 m)] (by rfl) rfl rfl (by (try simp only [List.map_toArray, List.map_cons, List.map_nil]); first | done | rfl) ?_
  with_reducible refine (C2 _).mono ?_
  rintro e11 w11 ⟨rfl, hb⟩
  refine ⟨_, rfl, ?_⟩
  have n0_ := Aside0.mk (HBk.out.below hb)
  have n1_ := Aside0.mk (HRk.out.below hb)
  have n2_ := Aside0.mk (below_step HL1.out hb)
  clear HBk HRk HL1 hb
  have HBk := n0_
  have HRk := n1_
  have HL1 := n2_
  clear n0_ n1_ n2_
  refine hK.out _ _ ⟨(Blk.five HBk.out).1.1, (Blk.five HBk.out).2.1.1, (Blk.five HBk.out).2.2.1.1, (Blk.five HBk.out).2.2.2.1.1, (Blk.five HBk.out).2.2.2.2.1, (Blk.five HRk.out).1.1, (Blk.five HRk.out).2.1.1, (Blk.five HRk.out).2.2.1.1, (Blk.five HRk.out).2.2.2.1.1, (Blk.five HRk.out).2.2.2.2.1⟩ (fun hHeld => ?_)
  clear hK K
  refine norm_ (a' := ?_) ?_ ?_
  rotate_left
  · show Act.put _ (some 28) _ = _
    simp only [Act.put, List.setIfInBounds_toArray, List.set_cons_zero, List.set_cons_succ, i64_w, i32_w]
    rfl
  refine one_ (i := 13) (N := some 30) #[true, true, true, true, true, true, true, true, true, true, true, true, true, true, false] rfl rfl (one_of HT_.out (by kernel_rfl)) (by decide) (fun K hK => ?_)
  refine goes_ Try.func90 (by kernel_rfl) rfl #[.agg (wds .u64 s), .agg #[.int .u64 r0, .int .u64 r1, .int .u64 r2, .int .u64 r3, .int .u64 r4]] (by rfl) rfl rfl (by (try simp only [List.map_toArray, List.map_cons, List.map_nil]); first | done | rfl) ?_
  with_reducible refine (C3 _).mono ?_
  rintro e13 w13 ⟨rfl, hb⟩
  refine ⟨_, rfl, ?_⟩
  have n0_ := Aside0.mk (HBk.out.below hb)
  have n1_ := Aside0.mk (HRk.out.below hb)
  have n2_ := Aside0.mk (below_step HL1.out hb)
  clear HBk HRk HL1 hb
  have HBk := n0_
  have HRk := n1_
  have HL1 := n2_
  clear n0_ n1_ n2_
  refine hK.out _ _ ⟨(Blk.five HBk.out).1.1, (Blk.five HBk.out).2.1.1, (Blk.five HBk.out).2.2.1.1, (Blk.five HBk.out).2.2.2.1.1, (Blk.five HBk.out).2.2.2.2.1, (Blk.five HRk.out).1.1, (Blk.five HRk.out).2.1.1, (Blk.five HRk.out).2.2.1.1, (Blk.five HRk.out).2.2.2.1.1, (Blk.five HRk.out).2.2.2.2.1⟩ (fun hHeld => ?_)
  clear hK K
  refine norm_ (a' := ?_) ?_ ?_
  rotate_left
  · show Act.put _ (some 30) _ = _
    simp only [Act.put, List.setIfInBounds_toArray, List.set_cons_zero, List.set_cons_succ, i64_w, i32_w]
    rfl
  clear C1 C2 C3 hwq hmin hmin2 n1 n2 n3 n4 n5 n6 n7 hys1 hys2 hy hz
  obtain ⟨c0, c1, c2, c3, c4⟩ := HBk.out.five
  refine last_ (i := 14) (N := none) #[true, true, true, true, true, true, true, true, true, true, true, true, true, true, true] rfl rfl (one_of HT_.out (by kernel_rfl)) (by decide) (fun K hK => ?_)
  refine skip_ (w1 := ?_) (by rfl) rfl ?_ ?_
  rotate_left
  · go_simp
    rfl
  refine hK.out _ _ ?_
  clear hK K c0 c1 c2 c3 c4
  have HX := Aside0.mk (((((((HBk.out.wset 0 x0).wset 1 x1).wset 2 x2).wset 3 x3).wset 4 x4)).eq (show _ = wds .u64 [x0, x1, x2, x3, x4] from rfl))
  have HY := Aside0.mk (((((HRk.out.other ⟨g, 0, none⟩ hne (.int .u64 x0)).other ⟨g, 1, none⟩ hne (.int .u64 x1)).other ⟨g, 2, none⟩ hne (.int .u64 x2)).other ⟨g, 3, none⟩ hne (.int .u64 x3)).other ⟨g, 4, none⟩ hne (.int .u64 x4))
  have HW := Aside0.mk ((((((HL1.out.mono (Nat.le_trans hg0 (Nat.le_of_lt HLT.out))).setCell (p := ⟨g, 0, none⟩) hg0 (.int .u64 x0)).setCell (p := ⟨g, 1, none⟩) hg0 (.int .u64 x1)).setCell (p := ⟨g, 2, none⟩) hg0 (.int .u64 x2)).setCell (p := ⟨g, 3, none⟩) hg0 (.int .u64 x3)).setCell (p := ⟨g, 4, none⟩) hg0 (.int .u64 x4))
  refine done_ (done_of HT_.out (by kernel_rfl)) ?_
  exact h _ _ _ _ _ _ _ _ _ _ _ _ _ _ _ HX.out HY.out HW.out
end

section
open Go.RowKit Go.Shelf Go.Proofs.YtihpnededldedaaW.PrintWords Go.Proofs.YtihpnededldedaaW.PrintLast Go.Proofs.YtihpnededldedaaW.PrintMore Go.Proofs.Ytihpnededldedaa.Pol

/-- Block j of a text, with a one behind. -/
def blkB (t : ByteArray) (j : Nat) : ByteArray := t.extract (16 * j) (min (16 * j + 16) t.size) ++ ⟨#[1]⟩
def blkOf (t : ByteArray) (j : Nat) : Nat := numF (bts (blkB t j)) (blkB t j).size
def clampB (key : ByteArray) : ByteArray := strOfNums (clampNums key)
def clampR (key : ByteArray) : Nat := numF (bts (clampB key)) 16
/-- The residue of a text. -/
def accOf (key t : ByteArray) (j : Nat) : Nat := accN (blkOf t) (clampR key) j
def tagOf (key t : ByteArray) : ByteArray := strOfNums ((tagNums (accOf key t ((t.size + 15) / 16) % pr) (bts (key.extract 16 key.size)) 16).map fun (x : Nat) => (x : Int))
theorem bts_out (t : ByteArray) (j : Nat) (h : t.size ≤ j) : bts t j = 0 := by
  unfold bts bt
  rw [dif_neg (by rw [Int.toNat_natCast]; omega)]; rfl
theorem clampB_size (key : ByteArray) (h : 16 ≤ key.size) : (clampB key).size = 16 := by
  unfold clampB; rw [strOfNums_size]; unfold clampNums
  rw [maskPart_length, maskPart_length, bytesOf_length, ByteArray.size_extract]; omega
theorem one_size : (⟨#[1]⟩ : ByteArray).size = 1 := rfl
theorem blkB_size (t : ByteArray) (j : Nat) (h : 16 * j < t.size) : (blkB t j).size = min (16 * j + 16) t.size - 16 * j + 1 := by
  unfold blkB; rw [ByteArray.size_append, ByteArray.size_extract, one_size]; omega
theorem blkB_16 (t : ByteArray) (j : Nat) (h : 16 * j < t.size) : bts (blkB t j) 16 ≤ 1 := by
  have hs := blkB_size t j h
  by_cases h16 : (blkB t j).size ≤ 16
  · rw [bts_out _ _ h16]; omega
  · have he : (t.extract (16 * j) (min (16 * j + 16) t.size)).size = 16 := by rw [ByteArray.size_extract]; omega
    have := bt_right (t.extract (16 * j) (min (16 * j + 16) t.size)) ⟨#[1]⟩ 0 (by decide)
    rw [he] at this
    have e1 : bt (⟨#[1]⟩ : ByteArray) ((0 : Nat) : Int) = 1 := by decide
    unfold bts blkB
    rw [show ((16 : Nat) : Int) = ((16 + 0 : Nat) : Int) from rfl, this, e1]; decide
theorem limbs_blk (t : ByteArray) (j : Nat) (h : 16 * j < t.size) (W : World) : Calls Try.prog 87 #[.string (blkB t j)] W fun e w' => e = .returned (.agg (wds .u64 (limbsN (blkOf t j)))) ∧ Below W.heap.size W w' :=
  limbsOf_calls (blkB t j) (by rw [blkB_size t j h]; omega) (blkB_16 t j h) W
theorem numF_130 (f : Nat → Nat) (hf : ∀ j, f j < 256) (h16 : f 16 ≤ 1) : numF f 17 < 1361129467683753853853498429727072845824 := by
  have h := numF_lt f hf 16
  have e : (256 : Nat) ^ 16 = 340282366920938463463374607431768211456 := by decide
  rw [numF, e]; rw [e] at h
  have : f 16 * 340282366920938463463374607431768211456 ≤ 1 * 340282366920938463463374607431768211456 := Nat.mul_le_mul_right _ h16
  omega
theorem numF_17 (t : ByteArray) (hs : t.size ≤ 17) : numF (bts t) 17 = numF (bts t) t.size := by
  have := numF_zero (bts t) t.size (fun j hj => bts_out t j hj) (17 - t.size)
  rw [← this]; congr 1; omega
theorem blk_val (t : ByteArray) (j : Nat) (h : 16 * j < t.size) : val (limbsN (blkOf t j)) = blkOf t j := by
  refine val_limbsN _ ?_
  unfold blkOf
  rw [← numF_17 _ (by rw [blkB_size t j h]; omega)]
  exact numF_130 _ (bts_lt _) (blkB_16 t j h)
theorem clamp_val (key : ByteArray) : val (limbsN (clampR key)) = clampR key := by
  refine val_limbsN _ (Nat.lt_trans (numF_lt _ (bts_lt _) 16) (by decide))
theorem mod_pr_lt (n : Nat) : n % pr < 1361129467683753853853498429727072845824 := Nat.lt_trans (Nat.mod_lt _ (by decide)) (by decide)
theorem Blk.cells5 {w : World} {g : Nat} {t : TypeId} {a b c d e : Nat} (h : Blk w g t (wds .u64 [a, b, c, d, e])) :
    w.cell? ⟨g, 0, none⟩ = some (.int .u64 a) ∧ w.cell? ⟨g, 1, none⟩ = some (.int .u64 b) ∧ w.cell? ⟨g, 2, none⟩ = some (.int .u64 c) ∧ w.cell? ⟨g, 3, none⟩ = some (.int .u64 d) ∧ w.cell? ⟨g, 4, none⟩ = some (.int .u64 e) := by
  obtain ⟨h0, h1, h2, h3, h4⟩ := h.five
  exact ⟨h0.1, h1.1, h2.1, h3.1, h4.1⟩
/-- As wp_hide; a panic looks at the defers alone. -/
theorem wp_hide2 {P : Program} {c : Code} {fn : Func} {R : Ending → World → Prop} {a : Act} {w : World}
    (h : ∀ Q' : Exit → Act → World → Prop, (∀ e a w, bodyPost P fn R e a w → Q' e a w) → (∀ c (a a' : Act) w, a.defers = a'.defers → Q' (.panic c) a w → Q' (.panic c) a' w) → Code.wp P c Q' a w) : Code.wp P c (bodyPost P fn R) a w :=
  h _ (fun _ _ _ h => h) (fun _ _ _ _ hd h => ⟨hd.symm.trans h.1, h.2⟩)
/-- Block g holds v, block h u; all below is as it was. -/
def Tag (w0 wr : World) (g h : Nat) (T : TypeId) (v u : List Nat) : Prop := Blk wr g T (wds .u64 v) ∧ Blk wr h T (wds .u64 u) ∧ Below w0.heap.size w0 wr ∧ h ≠ g
/-- A round of the tag. -/
theorem tag_round (key t : ByteArray) (j : Nat) (h : 16 * j < t.size) (v : List Nat) (hv : Acc v (accOf key t j)) :
    Acc (carryN (mulL (carryN (addL v (limbsN (blkOf t j))) 3) (limbsN (clampR key))) 3) (accOf key t (j + 1)) ∧
    L5 67108864 (carryN (addL v (limbsN (blkOf t j))) 3) := by
  obtain ⟨h1, _, h3, _⟩ := acc_impl hv (limbsN_L5 (blkOf t j)) (limbsN_L5 (clampR key))
  rw [blk_val t j h, clamp_val] at h1
  refine ⟨⟨h1.1, ?_⟩, h3⟩
  exact h1.2

set_option maxRecDepth 100000 in
set_option maxHeartbeats 8000000 in
theorem tag_calls (key t : ByteArray) (hk : key.size = 32) (ht : t.size ≤ 1000000) (w : World) : Calls Try.prog 50 #[.string key, .string t] w fun e w' => e = .returned (.string (tagOf key t)) ∧ Below w.heap.size w w' := by
  have CK := fun W => impl_clamped.calls key (clampB key) W (if_pos (by omega))
  have CL := fun W => limbsOf_calls (clampB key) (by rw [clampB_size key (by omega)]; decide) (by rw [bts_out _ _ (by rw [clampB_size key (by omega)]; decide)]; decide) W
  rw [clampB_size key (by omega)] at CL
  have HR := Lib.hid (show tagOf key t = strOfNums ((tagNums (accOf key t ((t.size + 15) / 16) % pr) (bts (key.extract 16 key.size)) 16).map fun (x : Nat) => (x : Int)) from rfl)
  have HTR := Lib.hid (tag_round key t)
  have HA0 := Lib.hid (show Acc [0, 0, 0, 0, 0] (accOf key t 0) from acc_zero)
  obtain ⟨r0, r1, r2, r3, r4, hr, _⟩ := limbsN_L5 (clampR key)
  have hur := limbsN_L5 (clampR key)
  change ∀ W, Calls Try.prog 87 #[.string (clampB key)] W fun e w' => e = .returned (.agg (wds .u64 (limbsN (clampR key)))) ∧ Below W.heap.size W w' at CL
  rw [hr] at CL HTR hur
  have HK := Lib.hid hk; have HT := Lib.hid ht
  have HU := Lib.hid hur
  clear hr hk ht hur
  generalize clampB key = ck at CK CL
  go_enter Try.func50, Try.ntmps50
  refine wp_hide2 ?_
  intro Qx hQx hPx
  have HQ := Lib.hid hQx
  have HP := Lib.hid hPx
  clear hQx hPx
  go_wp2_with (first | (go_at_call 88; with_reducible refine (CK _).mono ?_; rintro e1 w1 ⟨rfl, hb1⟩; replace hb1 := Aside0.mk hb1) | (go_at_call 87; with_reducible refine (CL _).mono ?_; rintro e2 w2 ⟨rfl, hb2⟩; replace hb2 := Aside0.mk hb2) | ((with_reducible refine wpList_store_row (o := ⟨none, .store 90 (.tmp 6) (.tmp 10), _, _, _, _⟩) ?s1a 90 (.tmp 6) (.tmp 10) ?s1b (w2.heap.size) (wds .u64 [r0, r1, r2, r3, r4]) ?s1c ?s1d 90 (wds .u64 zeros5) ?s1e ?s1f ?s1g ?s1h ?_); (case s1a => rfl); (case s1b => rfl); (case s1c => rfl); (case s1d => rfl); (case s1e => exact Blk.new' _ _ _ _ rfl); (case s1f => exact info5u rfl); (case s1g => rfl); (case s1h => exact wds_one _ _)))
  have B0 := Blk.new w 90 (wds .u64 zeros5)
  have LE1 := hb1.out.size
  have LE2 := hb2.out.size
  have hlt := (B0.below hb1.out).lt
  simp only [World.size_alloc] at LE1
  refine wp_world (fun W => Tag w W w.heap.size w2.heap.size 90 [0, 0, 0, 0, 0] [r0, r1, r2, r3, r4]) ⟨?_, ?_, ?_, ?_⟩ ?_
  · exact ((((B0.below hb1.out).below hb2.out).alloc _).rowOther _ (by omega) _)
  · exact (Blk.new' _ _ _ _ rfl).row _
  · exact below_setRow (below_alloc (((below_alloc (Below.refl _ _) _).trans (hb1.out.mono (by simp))).trans (hb2.out.mono (by omega))) _) (by omega) _
  · omega
  intro wb HW
  have HT1 := Aside0.mk HW
  clear HW hb1 hb2 B0 LE1 LE2 hlt CK CL
  generalize w2.heap.size = gr at HT1 ⊢
  go_loopg [7] t.size (fun gg s7 wr => ∃ (j : Nat) (x0 x1 x2 x3 x4 p : Nat), s7 = .int .i64 p ∧ Aside0 (p = 16 * j) ∧ p ≤ t.size + 15 ∧ j ≤ (t.size + 15) / 16 ∧ t.size ≤ gg + p ∧ Aside0 (Acc [x0, x1, x2, x3, x4] (accOf key t j)) ∧ Aside0 (Tag w wr w.heap.size gr 90 [x0, x1, x2, x3, x4] [r0, r1, r2, r3, r4]))
  case atStart => exact ⟨0, 0, 0, 0, 0, 0, 0, rfl, ⟨rfl⟩, by omega, by omega, by omega, ⟨HA0.out⟩, HT1⟩
  case round =>
    clear HT1 HA0
    obtain ⟨j, h0, h1, h2, h3, h4, p, rfl, HJ, hp, hj, hg, HA, HTg⟩ := hrel
    have hts := HT.out
    by_cases hlt : p < t.size
    · have c1 : decide ((p : Int) < (t.size : Int)) = true := decide_eq_true (by omega)
      have c1' : decide (p < t.size) = true := decide_eq_true hlt
      obtain ⟨hacc, hs⟩ := HTR.out j (by have := HJ.out; omega) _ HA.out
      have C1 := fun W => limbs_blk t j (by have := HJ.out; omega) W
      have hm := limbsN_L5 (blkOf t j)
      generalize limbsN (blkOf t j) = m at C1 hm hacc hs
      have C2 := fun W => plus_calls [h0, h1, h2, h3, h4] m HA.out.1 hm W
      generalize carryN (addL [h0, h1, h2, h3, h4] m) 3 = sm at C2 hs hacc
      have C3 := fun W => times_calls sm [r0, r1, r2, r3, r4] hs HU.out W
      generalize carryN (mulL sm [r0, r1, r2, r3, r4]) 3 = xm at C3 hacc
      obtain ⟨x0, x1, x2, x3, x4, rfl, _⟩ := hacc.1
      have HACC := Aside0.mk hacc
      have C1' : ∀ W, Calls Try.prog 87 #[.string (t.extract p (min (p + 16) t.size) ++ ⟨#[1]⟩)] W fun e w' => e = .returned (.agg (wds .u64 m)) ∧ Below W.heap.size W w'   := by rw [HJ.out]; exact C1
      clear hacc hs hm C1
      go_wp2
      refine tag_r6 _ w.heap.size w.heap.size gr t _ p _ m sm h0 h1 h2 h3 h4 r0 r1 r2 r3 r4 x0 x1 x2 x3 x4 _ _ _ _ _ _ _ _ _ _ _ _ _ _ _ _ _ _ _ _ _ _ _ _ _ _ _ _ _ _ _ _ _ ?hq HTg.out.1 HTg.out.2.1 (Nat.le_refl _) HTg.out.2.2.2 hlt rfl hts rfl C1' C2 C3 ?_
      case hq => exact fun c a a' w hd h => HP.out c a a' w hd h
      intro wn _ _ _ _ _ _ _ _ _ _ _ _ _ _ b1 b2 b3
      have HTn : Aside0 (Tag w wn w.heap.size gr 90 [x0, x1, x2, x3, x4] [r0, r1, r2, r3, r4]) := ⟨b1, b2, HTg.out.2.2.1.trans b3, HTg.out.2.2.2⟩
      clear b1 b2 b3 C1' C2 C3 HTg HA
      go_wp2
      go_roundg (t.size - (p + 16))
      case measure => omega
      case rel => exact ⟨j + 1, x0, x1, x2, x3, x4, p + 16, by go_num, ⟨by have := HJ.out; omega⟩, by omega, by have := HJ.out; omega, by omega, HACC, HTn⟩
    · have c1 : decide ((p : Int) < (t.size : Int)) = false := decide_eq_false (by omega)
      have c1' : decide (p < t.size) = false := decide_eq_false hlt
      have hacc := HA.out
      rw [show j = (t.size + 15) / 16 by have := HJ.out; omega] at hacc
      have CR := fun W => reduced_calls [h0, h1, h2, h3, h4] HA.out.1 W
      rw [hacc.2] at CR
      have hl := limbsN_L5 (accOf key t ((t.size + 15) / 16) % pr)
      have hks : (key.extract 16 key.size).size = 16 := by rw [ByteArray.size_extract, HK.out]; rfl
      have CB := fun W => bytes_calls (limbsN (accOf key t ((t.size + 15) / 16) % pr)) hl (key.extract 16 key.size) (by omega) W
      rw [val_limbsN _ (mod_pr_lt _), ← HR.out] at CB
      generalize limbsN (accOf key t ((t.size + 15) / 16) % pr) = ls at CR CB
      have HTg1 : Aside0 (Blk wr w.heap.size 90 (wds .u64 [h0, h1, h2, h3, h4])) := ⟨HTg.out.1⟩
      have s1 : ((16 : Int) ≤ (key.size : Int)) = True := eq_true (by have := HK.out; omega)
      have s2 : ((key.size : Int) < 16) = False := eq_false (by have := HK.out; omega)
      have s3 : (16 ≤ key.size) = True := eq_true (by have := HK.out; omega)
      have s4 : (key.size < 16) = False := eq_false (by have := HK.out; omega)
      obtain ⟨x0, x1, x2, x3, x4⟩ := HTg1.out.five
      clear hacc hl hks
      have HB0 := Aside0.mk HTg.out.2.2.1
      clear HTg HA HTR
      have CR' : ∀ W, Calls Try.prog 91 #[.agg #[.int .u64 h0, .int .u64 h1, .int .u64 h2, .int .u64 h3, .int .u64 h4]] W fun e w' => e = .returned (.agg (wds .u64 ls)) ∧ Below W.heap.size W w' := CR
      clear CR
      go_wp2
      go_region_held3 (fun W => W.cell? ⟨w.heap.size, 0, none⟩ = some (.int .u64 h0) ∧ W.cell? ⟨w.heap.size, 1, none⟩ = some (.int .u64 h1) ∧ W.cell? ⟨w.heap.size, 2, none⟩ = some (.int .u64 h2) ∧ W.cell? ⟨w.heap.size, 3, none⟩ = some (.int .u64 h3) ∧ W.cell? ⟨w.heap.size, 4, none⟩ = some (.int .u64 h4)) ((refine Blk.cells5 (t := 90) ?_; repeat (first | (with_reducible exact HTg1.out) | (with_reducible refine Blk.below ?_ hbr) | (with_reducible refine Blk.below ?_ hbs) | (with_reducible refine Blk.drewN ?_ _) | (with_reducible refine Blk.drew ?_))))
        (first | (go_at_call 91; with_reducible refine (CR' _).mono ?_; rintro e3 w3 ⟨rfl, hbr⟩) | (go_at_call 92; with_reducible refine (CB _).mono ?_; rintro e4 w4 ⟨rfl, hbs⟩))
      have HBZ := Aside0.mk (HB0.out.drew.trans ((hbr.mono HB0.out.size).trans (hbs.mono (Nat.le_trans HB0.out.size hbr.size))))
      clear hbr hbs
      go_wp2
      refine HQ.out _ _ _ ?_
      go_ret
      exact ⟨rfl, HBZ.out⟩
end

section
open Go.RowKit Go.Shelf Go.Proofs.YtihpnededldedaaW.PrintWords Go.Proofs.YtihpnededldedaaW.PrintLast Go.Proofs.YtihpnededldedaaW.PrintMore Go.Proofs.Ytihpnededldedaa.Pol

/-- A text with n zeros behind. -/
def padB (s : ByteArray) : Nat → ByteArray
  | 0 => s
  | n + 1 => padB s n ++ ⟨#[0]⟩
theorem padB_size (s : ByteArray) : ∀ n, (padB s n).size = s.size + n
  | 0 => rfl
  | n + 1 => by rw [padB, ByteArray.size_append, padB_size s n]; rfl
theorem bts_zero (a : ByteArray) (j : Nat) : bts (a ++ ⟨#[0]⟩) j = bts a j := by
  by_cases h : j < a.size
  · unfold bts; rw [bt_left a _ j h]
  · rw [bts_out a j (by omega)]
    by_cases h1 : j = a.size
    · have := bt_right a ⟨#[0]⟩ 0 (by decide)
      unfold bts
      rw [show (j : Int) = ((a.size + 0 : Nat) : Int) by omega, this]; decide
    · exact bts_out _ j (by rw [ByteArray.size_append, show (⟨#[0]⟩ : ByteArray).size = 1 from rfl]; omega)
theorem bts_pad (s : ByteArray) (j : Nat) : ∀ n, bts (padB s n) j = bts s j
  | 0 => rfl
  | n + 1 => by rw [padB, bts_zero, bts_pad s j n]
theorem add_i (a b : Nat) (ha : a < 67108864) (hb : b < 67108864) : ∃ n : Nat, Hid (a + b = n) ∧ IntKind.i64.wrap ((a : Int) + (b : Int)) = (n : Int) :=
  ⟨a + b, Lib.hid rfl, add_i64 _ _ _ rfl (by omega)⟩
/-- The first i bytes of the tag. -/
def tagI (n : Nat) (k : Nat → Nat) (i : Nat) : List Int := (tagNums n k i).map fun (x : Nat) => (x : Int)
theorem tagI_succ (n : Nat) (k : Nat → Nat) (i : Nat) : tagI n k (i + 1) = tagI n k i ++ [((tagSum n k i : Int) + ((n / 256 ^ i % 256 : Nat) + (k i : Int))) % 256] := by
  have e : ∀ o : Nat, (((tagSum n k i + (o + k i)) % 256 : Nat) : Int) = ((tagSum n k i : Int) + ((o : Int) + (k i : Int))) % 256 := fun o => by omega
  unfold tagI; rw [tagNums, List.map_append, ← e]; rfl
theorem tagI_length (n : Nat) (k : Nat → Nat) (i : Nat) : (tagI n k i).length = i := by unfold tagI; rw [List.length_map, tagNums_length]
theorem low8 (a : Nat) (ha : a < 2 ^ 63) : Go.bits .and .i64 (a : Int) 255 = ((a % 256 : Nat) : Int) := by
  refine (and_i64 a 255 ha (by decide)).trans ?_
  rw [show (255 : Nat) = 2 ^ 8 - 1 from rfl, Nat.and_two_pow_sub_one_eq_mod]
/-- What one byte of the tag reckons. -/
theorem out_names (v : List Nat) (hv : L5 67108864 v) (i : Nat) (hi : i < 16) :
    ∃ q r x s o : Nat, (8 * i / 26 = q ∧ 8 * i % 26 = r ∧ r < 26 ∧ q < 5) ∧ v.getD q 0 = x ∧ (x : Int) / 2 ^ r = (s : Int) ∧ val v / 256 ^ i % 256 = o ∧
      (¬ 18 < r → Go.bits .and .i64 (s : Int) 255 = (o : Int)) ∧
      (18 < r → ∃ x2 m s2 : Nat, q + 1 < 5 ∧ v.getD (q + 1) 0 = x2 ∧ wrap64 ((x2 : Int) * 2 ^ (26 - r)) = (m : Int) ∧ wrap64 ((s : Int) + (m : Int)) = (s2 : Int) ∧ Go.bits .and .i64 (s2 : Int) 255 = (o : Int)) := by
  have h := byteOut_val v hv i hi
  have hlt : ∀ q, q < 5 → v.getD q 0 < 67108864 := fun q hq => by rw [limb_at v hv q hq]; exact Nat.mod_lt _ (by decide)
  have hq : 8 * i / 26 < 5 := by omega
  have hx := hlt _ hq
  have hs : v.getD (8 * i / 26) 0 / 2 ^ (8 * i % 26) < 67108864 := Nat.lt_of_le_of_lt (Nat.div_le_self _ _) hx
  unfold byteOut at h
  refine ⟨_, _, _, v.getD (8 * i / 26) 0 / 2 ^ (8 * i % 26), _, ⟨rfl, rfl, Nat.mod_lt _ (by decide), hq⟩, rfl, by push_cast; rfl, rfl, fun hn => ?_, fun hy => ?_⟩
  · rw [if_neg hn] at h
    rw [low8 _ (by omega), h]
  · rw [if_pos hy] at h
    have hq1 : 8 * i / 26 + 1 < 5 := by omega
    have hx2 := hlt _ hq1
    have hp : 2 ^ (26 - 8 * i % 26) ≤ 2 ^ 8 := Nat.pow_le_pow_right (by decide) (by omega)
    have hm : v.getD (8 * i / 26 + 1) 0 * 2 ^ (26 - 8 * i % 26) ≤ 67108864 * 2 ^ 8 := Nat.mul_le_mul (Nat.le_of_lt hx2) hp
    refine ⟨_, v.getD (8 * i / 26 + 1) 0 * 2 ^ (26 - 8 * i % 26), v.getD (8 * i / 26) 0 / 2 ^ (8 * i % 26) + v.getD (8 * i / 26 + 1) 0 * 2 ^ (26 - 8 * i % 26), hq1, rfl, ?_, ?_, ?_⟩
    · have e : ((v.getD (8 * i / 26 + 1) 0 : Nat) : Int) * 2 ^ (26 - 8 * i % 26) = ((v.getD (8 * i / 26 + 1) 0 * 2 ^ (26 - 8 * i % 26) : Nat) : Int) := by push_cast; rfl
      rw [e]
      generalize v.getD (8 * i / 26 + 1) 0 * 2 ^ (26 - 8 * i % 26) = m at hm
      exact wrap_ok _ (by omega) (by omega)
    · clear h
      generalize v.getD (8 * i / 26 + 1) 0 * 2 ^ (26 - 8 * i % 26) = m at hm
      generalize v.getD (8 * i / 26) 0 / 2 ^ (8 * i % 26) = s at hs
      rw [wrap_ok _ (by omega) (by omega)]; omega
    · rw [low8 _ (by omega), h]

set_option maxRecDepth 1000000 in
set_option maxHeartbeats 16000000 in
theorem pad_wp (s : ByteArray) (u0 u1 u2 u3 u4 u5 u6 u7 u9 u10 u11 u12 u13 u14 u15 u16 u17 u18 u19 u20 u21 u22 u23 u24 u25 u26 u27 u28 u29 u30 u31 u32 u33 u34 u35 u36 u37 u38 u39 u40 u41 u42 u43 u44 u45 u46 u47 u48 u49 u50 u51 u52 u53 u54 u55 u56 u57 u58 u59 u60 u61 u62 u63 u64 u65 u66 u67 u68 u69 u70 u71 u72 u73 u74 u75 u76 u77 u78 u79 u80 u81 u82 u83 u84 u85 u86 u87 u88 u89 u90 u91 u92 u93 u94 u95 u96 u97 u98 u99 u100 u101 u102 u103 u104 u105 u106 u107 : Value) (Q0 : Exit → Act → World → Prop) (w : World) (hs : s.size ≤ 17)
    (hexit : ∀ (x36 x37 x38 x39 x40 : Value) (w' : World), w' = w → Q0 (.exit 2) ⟨List.toArray (u0 :: u1 :: u2 :: u3 :: u4 :: u5 :: u6 :: u7 :: (.string (padB s (17 - s.size))) :: u9 :: u10 :: u11 :: u12 :: u13 :: u14 :: u15 :: u16 :: u17 :: u18 :: u19 :: u20 :: u21 :: u22 :: u23 :: u24 :: u25 :: u26 :: u27 :: u28 :: u29 :: u30 :: u31 :: u32 :: u33 :: u34 :: u35 :: x36 :: x37 :: x38 :: x39 :: x40 :: u41 :: u42 :: u43 :: u44 :: u45 :: u46 :: u47 :: u48 :: u49 :: u50 :: u51 :: u52 :: u53 :: u54 :: u55 :: u56 :: u57 :: u58 :: u59 :: u60 :: u61 :: u62 :: u63 :: u64 :: u65 :: u66 :: u67 :: u68 :: u69 :: u70 :: u71 :: u72 :: u73 :: u74 :: u75 :: u76 :: u77 :: u78 :: u79 :: u80 :: u81 :: u82 :: u83 :: u84 :: u85 :: u86 :: u87 :: u88 :: u89 :: u90 :: u91 :: u92 :: u93 :: u94 :: u95 :: u96 :: u97 :: u98 :: u99 :: u100 :: u101 :: u102 :: u103 :: u104 :: u105 :: u106 :: u107 :: []), []⟩ w') :
    Code.wp Try.prog (loopNo Try.f48 1) Q0 ⟨List.toArray (u0 :: u1 :: u2 :: u3 :: u4 :: u5 :: u6 :: u7 :: (.string s) :: u9 :: u10 :: u11 :: u12 :: u13 :: u14 :: u15 :: u16 :: u17 :: u18 :: u19 :: u20 :: u21 :: u22 :: u23 :: u24 :: u25 :: u26 :: u27 :: u28 :: u29 :: u30 :: u31 :: u32 :: u33 :: u34 :: u35 :: u36 :: u37 :: u38 :: u39 :: u40 :: u41 :: u42 :: u43 :: u44 :: u45 :: u46 :: u47 :: u48 :: u49 :: u50 :: u51 :: u52 :: u53 :: u54 :: u55 :: u56 :: u57 :: u58 :: u59 :: u60 :: u61 :: u62 :: u63 :: u64 :: u65 :: u66 :: u67 :: u68 :: u69 :: u70 :: u71 :: u72 :: u73 :: u74 :: u75 :: u76 :: u77 :: u78 :: u79 :: u80 :: u81 :: u82 :: u83 :: u84 :: u85 :: u86 :: u87 :: u88 :: u89 :: u90 :: u91 :: u92 :: u93 :: u94 :: u95 :: u96 :: u97 :: u98 :: u99 :: u100 :: u101 :: u102 :: u103 :: u104 :: u105 :: u106 :: u107 :: []), []⟩ w := by
  conv => arg 2; whnf
  have HX := Lib.hid hexit
  clear hexit
  go_loopg [8] 17 (fun gg s8 wr => ∃ n : Nat, s8 = .string (padB s n) ∧ Aside0 (n ≤ 17 - s.size) ∧ 17 ≤ gg + n ∧ Aside0 (wr = w))
  case atStart => exact ⟨0, rfl, ⟨by omega⟩, by omega, ⟨rfl⟩⟩
  case round =>
    obtain ⟨n, rfl, HN, hg, HW⟩ := hrel
    obtain ⟨z, hz⟩ : ∃ z, padB s n = z := ⟨_, rfl⟩
    have hzs : z.size = s.size + n := by rw [← hz, padB_size]
    have hn := HN.out
    by_cases hlt : z.size < 17
    · have HY := Lib.hid (show padB s (n + 1) = z ++ ⟨#[0]⟩ by rw [padB, hz])
      have k1 : (z.size + 1 ≤ 9223372036854775807) = True := eq_true (by omega)
      have k2 : (9223372036854775807 < z.size + 1) = False := eq_false (by omega)
      have c1 : decide ((z.size : Int) < 17) = true := decide_eq_true (by omega)
      have c2 : decide (z.size < 17) = true := decide_eq_true hlt
      have HZ := Lib.hid hzs
      clear hzs
      rw [hz]
      clear hz
      go_wp2
      go_roundg (17 - (n + 1))
      case measure => have := HZ.out; omega
      case rel => exact ⟨n + 1, by rw [HY.out], ⟨by have := HZ.out; omega⟩, by omega, HW⟩
    · have c1 : decide ((z.size : Int) < 17) = false := decide_eq_false (by omega)
      have c2 : decide (z.size < 17) = false := decide_eq_false hlt
      obtain rfl : n = 17 - s.size := by omega
      have HWo := HW.out
      have HZ := Lib.hid hz
      rw [hz]
      clear hz
      go_wp2
      rw [← HZ.out]
      refine HX.out _ _ _ _ _ _ ?_
      first | exact HWo | rfl


set_option maxRecDepth 1000000 in
set_option maxHeartbeats 16000000 in
theorem sum_wp (gh gm : Nat) (a b c d f r s t x y : Nat) (u0 u1 u2 u3 u4 u5 u7 u8 u11 u12 u13 u14 u15 u16 u17 u18 u19 u20 u21 u22 u23 u24 u25 u26 u27 u28 u29 u30 u31 u32 u33 u34 u35 u36 u37 u38 u39 u40 u41 u42 u43 u44 u45 u46 u47 u48 u49 u50 u51 u52 u53 u54 u55 u56 u57 u58 u59 u60 u61 u62 u63 u64 u65 u66 u67 u68 u69 u70 u71 u72 u73 u74 u75 u76 u77 u78 u79 u80 u81 u82 u83 u84 u85 u86 u87 u88 u89 u90 u91 u92 u93 u94 u95 u96 u97 u98 u99 u100 u101 u102 u103 u104 u105 u106 u107 : Value) (Q0 : Exit → Act → World → Prop) (w : World) (ha : a < 67108864) (hb : b < 67108864) (hc : c < 67108864) (hd : d < 67108864) (hf : f < 67108864) (hr : r < 67108864) (hs : s < 67108864) (ht : t < 67108864) (hx : x < 67108864) (hy : y < 67108864) (hB : Blk w gh 80 (wds .i64 [a, b, c, d, f])) (hM : Blk w gm 80 (wds .i64 [r, s, t, x, y])) (hne : gm ≠ gh)
    (hexit : ∀ (x43 x44 x45 x46 x47 x48 x49 x50 x51 x52 x53 x54 : Value) (w' : World), Blk w' gh 80 (wds .i64 (addL [a, b, c, d, f] [r, s, t, x, y])) ∧ Below gh w w' → Q0 (.exit 4) ⟨List.toArray (u0 :: u1 :: u2 :: u3 :: u4 :: u5 :: (.pointer (some ⟨gh, 0, none⟩)) :: u7 :: u8 :: (.pointer (some ⟨gm, 0, none⟩)) :: (.int .i64 5) :: u11 :: u12 :: u13 :: u14 :: u15 :: u16 :: u17 :: u18 :: u19 :: u20 :: u21 :: u22 :: u23 :: u24 :: u25 :: u26 :: u27 :: u28 :: u29 :: u30 :: u31 :: u32 :: u33 :: u34 :: u35 :: u36 :: u37 :: u38 :: u39 :: u40 :: u41 :: u42 :: x43 :: x44 :: x45 :: x46 :: x47 :: x48 :: x49 :: x50 :: x51 :: x52 :: x53 :: x54 :: u55 :: u56 :: u57 :: u58 :: u59 :: u60 :: u61 :: u62 :: u63 :: u64 :: u65 :: u66 :: u67 :: u68 :: u69 :: u70 :: u71 :: u72 :: u73 :: u74 :: u75 :: u76 :: u77 :: u78 :: u79 :: u80 :: u81 :: u82 :: u83 :: u84 :: u85 :: u86 :: u87 :: u88 :: u89 :: u90 :: u91 :: u92 :: u93 :: u94 :: u95 :: u96 :: u97 :: u98 :: u99 :: u100 :: u101 :: u102 :: u103 :: u104 :: u105 :: u106 :: u107 :: []), []⟩ w') :
    Code.wp Try.prog (loopNo Try.f48 2) Q0 ⟨List.toArray (u0 :: u1 :: u2 :: u3 :: u4 :: u5 :: (.pointer (some ⟨gh, 0, none⟩)) :: u7 :: u8 :: (.pointer (some ⟨gm, 0, none⟩)) :: (.int .i64 0) :: u11 :: u12 :: u13 :: u14 :: u15 :: u16 :: u17 :: u18 :: u19 :: u20 :: u21 :: u22 :: u23 :: u24 :: u25 :: u26 :: u27 :: u28 :: u29 :: u30 :: u31 :: u32 :: u33 :: u34 :: u35 :: u36 :: u37 :: u38 :: u39 :: u40 :: u41 :: u42 :: u43 :: u44 :: u45 :: u46 :: u47 :: u48 :: u49 :: u50 :: u51 :: u52 :: u53 :: u54 :: u55 :: u56 :: u57 :: u58 :: u59 :: u60 :: u61 :: u62 :: u63 :: u64 :: u65 :: u66 :: u67 :: u68 :: u69 :: u70 :: u71 :: u72 :: u73 :: u74 :: u75 :: u76 :: u77 :: u78 :: u79 :: u80 :: u81 :: u82 :: u83 :: u84 :: u85 :: u86 :: u87 :: u88 :: u89 :: u90 :: u91 :: u92 :: u93 :: u94 :: u95 :: u96 :: u97 :: u98 :: u99 :: u100 :: u101 :: u102 :: u103 :: u104 :: u105 :: u106 :: u107 :: []), []⟩ w := by
  conv => arg 2; whnf
  have HX := Lib.hid hexit
  clear hexit
  obtain ⟨n0, N0, z0⟩ := add_i a r ha hr
  obtain ⟨n1, N1, z1⟩ := add_i b s hb hs
  obtain ⟨n2, N2, z2⟩ := add_i c t hc ht
  obtain ⟨n3, N3, z3⟩ := add_i d x hd hx
  obtain ⟨n4, N4, z4⟩ := add_i f y hf hy
  have HE := Lib.hid (show [n0, n1, n2, n3, n4] = addL [a, b, c, d, f] [r, s, t, x, y] by rw [← N0.out, ← N1.out, ← N2.out, ← N3.out, ← N4.out]; rfl)
  have HT := Aside0.mk hB
  have HM := Aside0.mk hM
  have HL := Aside0.mk (Below.refl gh w)
  clear ha hb hc hd hf hr hs ht hx hy N0 N1 N2 N3 N4 hB hM
  generalize hw0 : w = w0 at HT HM HL ⊢
  rw [hw0] at HX
  clear hw0
  have HL : Aside0 (Below gh w0 w0) := ⟨Below.refl _ _⟩
  generalize hwb : w0 = wb at HT HM ⊢
  have HL : Aside0 (Below gh w0 wb) := ⟨hwb ▸ Below.refl _ _⟩
  clear hwb
  refine wp_loop_rounds 6 ?_
  have x0 : wb.cell? ⟨gh, 0, none⟩ = some (.int .i64 (a : Int)) ∧ wb.frozen? ⟨gh, 0, none⟩ = false := HT.out.at 0 _ rfl
  have y0 : wb.cell? ⟨gm, 0, none⟩ = some (.int .i64 (r : Int)) ∧ wb.frozen? ⟨gm, 0, none⟩ = false := HM.out.at 0 _ rfl
  rw [rounds_succ]; go_wp2
  go_still_tail 8, (by kernel_rfl)
  change wpList _ _ _ _ _ wb.drew
  have T1 := Aside0.mk HT.out.drew
  have M1 := Aside0.mk HM.out.drew
  have L1 := Aside0.mk HL.out.drew
  clear x0 y0 HT HM HL
  generalize wb.drew = wd0 at T1 M1 L1 ⊢
  have x0 : wd0.cell? ⟨gh, 0, none⟩ = some (.int .i64 (a : Int)) ∧ wd0.frozen? ⟨gh, 0, none⟩ = false := T1.out.at 0 _ rfl
  go_wp2
  have HT := Aside0.mk ((T1.out.wset 0 n0).eq (show _ = wds .i64 [n0, b, c, d, f] from rfl))
  have HM := Aside0.mk (M1.out.other ⟨gh, 0, none⟩ hne (.int .i64 n0))
  have HL := Aside0.mk (L1.out.setCell (p := ⟨gh, 0, none⟩) (Nat.le_refl _) (.int .i64 n0))
  clear x0 T1 M1 L1
  generalize wd0.setCell ⟨gh, 0, none⟩ (.int .i64 (n0 : Int)) = we0 at HT HM HL ⊢
  have x0 : we0.cell? ⟨gh, 1, none⟩ = some (.int .i64 (b : Int)) ∧ we0.frozen? ⟨gh, 1, none⟩ = false := HT.out.at 1 _ rfl
  have y0 : we0.cell? ⟨gm, 1, none⟩ = some (.int .i64 (s : Int)) ∧ we0.frozen? ⟨gm, 1, none⟩ = false := HM.out.at 1 _ rfl
  rw [rounds_succ]; go_wp2
  go_still_tail 8, (by kernel_rfl)
  change wpList _ _ _ _ _ we0.drew
  have T1 := Aside0.mk HT.out.drew
  have M1 := Aside0.mk HM.out.drew
  have L1 := Aside0.mk HL.out.drew
  clear x0 y0 HT HM HL
  generalize we0.drew = wd1 at T1 M1 L1 ⊢
  have x0 : wd1.cell? ⟨gh, 1, none⟩ = some (.int .i64 (b : Int)) ∧ wd1.frozen? ⟨gh, 1, none⟩ = false := T1.out.at 1 _ rfl
  go_wp2
  have HT := Aside0.mk ((T1.out.wset 1 n1).eq (show _ = wds .i64 [n0, n1, c, d, f] from rfl))
  have HM := Aside0.mk (M1.out.other ⟨gh, 1, none⟩ hne (.int .i64 n1))
  have HL := Aside0.mk (L1.out.setCell (p := ⟨gh, 1, none⟩) (Nat.le_refl _) (.int .i64 n1))
  clear x0 T1 M1 L1
  generalize wd1.setCell ⟨gh, 1, none⟩ (.int .i64 (n1 : Int)) = we1 at HT HM HL ⊢
  have x0 : we1.cell? ⟨gh, 2, none⟩ = some (.int .i64 (c : Int)) ∧ we1.frozen? ⟨gh, 2, none⟩ = false := HT.out.at 2 _ rfl
  have y0 : we1.cell? ⟨gm, 2, none⟩ = some (.int .i64 (t : Int)) ∧ we1.frozen? ⟨gm, 2, none⟩ = false := HM.out.at 2 _ rfl
  rw [rounds_succ]; go_wp2
  go_still_tail 8, (by kernel_rfl)
  change wpList _ _ _ _ _ we1.drew
  have T1 := Aside0.mk HT.out.drew
  have M1 := Aside0.mk HM.out.drew
  have L1 := Aside0.mk HL.out.drew
  clear x0 y0 HT HM HL
  generalize we1.drew = wd2 at T1 M1 L1 ⊢
  have x0 : wd2.cell? ⟨gh, 2, none⟩ = some (.int .i64 (c : Int)) ∧ wd2.frozen? ⟨gh, 2, none⟩ = false := T1.out.at 2 _ rfl
  go_wp2
  have HT := Aside0.mk ((T1.out.wset 2 n2).eq (show _ = wds .i64 [n0, n1, n2, d, f] from rfl))
  have HM := Aside0.mk (M1.out.other ⟨gh, 2, none⟩ hne (.int .i64 n2))
  have HL := Aside0.mk (L1.out.setCell (p := ⟨gh, 2, none⟩) (Nat.le_refl _) (.int .i64 n2))
  clear x0 T1 M1 L1
  generalize wd2.setCell ⟨gh, 2, none⟩ (.int .i64 (n2 : Int)) = we2 at HT HM HL ⊢
  have x0 : we2.cell? ⟨gh, 3, none⟩ = some (.int .i64 (d : Int)) ∧ we2.frozen? ⟨gh, 3, none⟩ = false := HT.out.at 3 _ rfl
  have y0 : we2.cell? ⟨gm, 3, none⟩ = some (.int .i64 (x : Int)) ∧ we2.frozen? ⟨gm, 3, none⟩ = false := HM.out.at 3 _ rfl
  rw [rounds_succ]; go_wp2
  go_still_tail 8, (by kernel_rfl)
  change wpList _ _ _ _ _ we2.drew
  have T1 := Aside0.mk HT.out.drew
  have M1 := Aside0.mk HM.out.drew
  have L1 := Aside0.mk HL.out.drew
  clear x0 y0 HT HM HL
  generalize we2.drew = wd3 at T1 M1 L1 ⊢
  have x0 : wd3.cell? ⟨gh, 3, none⟩ = some (.int .i64 (d : Int)) ∧ wd3.frozen? ⟨gh, 3, none⟩ = false := T1.out.at 3 _ rfl
  go_wp2
  have HT := Aside0.mk ((T1.out.wset 3 n3).eq (show _ = wds .i64 [n0, n1, n2, n3, f] from rfl))
  have HM := Aside0.mk (M1.out.other ⟨gh, 3, none⟩ hne (.int .i64 n3))
  have HL := Aside0.mk (L1.out.setCell (p := ⟨gh, 3, none⟩) (Nat.le_refl _) (.int .i64 n3))
  clear x0 T1 M1 L1
  generalize wd3.setCell ⟨gh, 3, none⟩ (.int .i64 (n3 : Int)) = we3 at HT HM HL ⊢
  have x0 : we3.cell? ⟨gh, 4, none⟩ = some (.int .i64 (f : Int)) ∧ we3.frozen? ⟨gh, 4, none⟩ = false := HT.out.at 4 _ rfl
  have y0 : we3.cell? ⟨gm, 4, none⟩ = some (.int .i64 (y : Int)) ∧ we3.frozen? ⟨gm, 4, none⟩ = false := HM.out.at 4 _ rfl
  rw [rounds_succ]; go_wp2
  go_still_tail 8, (by kernel_rfl)
  change wpList _ _ _ _ _ we3.drew
  have T1 := Aside0.mk HT.out.drew
  have M1 := Aside0.mk HM.out.drew
  have L1 := Aside0.mk HL.out.drew
  clear x0 y0 HT HM HL
  generalize we3.drew = wd4 at T1 M1 L1 ⊢
  have x0 : wd4.cell? ⟨gh, 4, none⟩ = some (.int .i64 (f : Int)) ∧ wd4.frozen? ⟨gh, 4, none⟩ = false := T1.out.at 4 _ rfl
  go_wp2
  have HT := Aside0.mk ((T1.out.wset 4 n4).eq (show _ = wds .i64 [n0, n1, n2, n3, n4] from rfl))
  have HM := Aside0.mk (M1.out.other ⟨gh, 4, none⟩ hne (.int .i64 n4))
  have HL := Aside0.mk (L1.out.setCell (p := ⟨gh, 4, none⟩) (Nat.le_refl _) (.int .i64 n4))
  clear x0 T1 M1 L1
  generalize wd4.setCell ⟨gh, 4, none⟩ (.int .i64 (n4 : Int)) = we4 at HT HM HL ⊢
  rw [rounds_succ]; go_wp2
  have P1 := HT.out
  have P2 := HL.out
  rw [HE.out] at P1
  refine HX.out _ _ _ _ _ _ _ _ _ _ _ _ _ ?_
  exact ⟨P1, P2⟩
end

section
open Go.RowKit Go.Shelf Go.Proofs.YtihpnededldedaaW.PrintWords Go.Proofs.YtihpnededldedaaW.PrintLast Go.Proofs.YtihpnededldedaaW.PrintMore Go.Proofs.Ytihpnededldedaa.Pol

set_option maxRecDepth 1000000 in
set_option maxHeartbeats 16000000 in
theorem byt_wp (key : ByteArray) (bb gh : Nat) (v : List Nat) (v11 : Value) (u1 u2 u3 u4 u5 u7 u8 u9 u10 u14 u15 u16 u17 u18 u19 u20 u21 u22 u23 u24 u25 u26 u27 u28 u29 u30 u31 u32 u33 u34 u35 u36 u37 u38 u39 u40 u41 u42 u43 u44 u45 u46 u47 u48 u49 u50 u51 u52 u53 u54 u55 u56 u57 u58 u59 u60 u61 u62 u63 u64 u65 u66 u67 u68 u69 u70 u71 u72 u73 u74 u75 u76 u77 u78 u79 u80 u81 u82 u83 u84 u85 u86 u87 u88 u89 u90 u91 u92 u93 u94 u95 u96 u97 u98 u99 u100 u101 u102 u103 u104 u105 u106 u107 : Value) (Q0 : Exit → Act → World → Prop) (w : World) (hv : L5 67108864 v) (hk : key.size = 32) (hB : Blk w gh 80 (wds .i64 v)) (hlb : gh < bb) (hbw : bb ≤ w.heap.size) (hO : w.ownsRow bb 5 1 v11 ([] : List Int).length (nums .u8 ([] : List Int)))
    (hexit : ∀ (x11 x12 x14 x15 x62 x63 x64 x65 x66 x67 x68 x69 x70 x71 x72 x73 x74 x75 x76 x77 x78 x79 x80 x81 x82 x83 x84 x85 x86 x87 x88 x89 x90 x91 x92 x93 x94 x95 x96 x97 x98 x99 x100 x101 x102 x103 x104 x105 : Value) (w' : World), w'.ownsRow bb 5 1 x11 (tagI (val v) (bts (key.extract 16 key.size)) 16).length (nums .u8 (tagI (val v) (bts (key.extract 16 key.size)) 16)) ∧ Below bb w w' → Q0 (.exit 6) ⟨List.toArray ((.string key) :: u1 :: u2 :: u3 :: u4 :: u5 :: (.pointer (some ⟨gh, 0, none⟩)) :: u7 :: u8 :: u9 :: u10 :: x11 :: x12 :: (.int .i64 16) :: x14 :: x15 :: u16 :: u17 :: u18 :: u19 :: u20 :: u21 :: u22 :: u23 :: u24 :: u25 :: u26 :: u27 :: u28 :: u29 :: u30 :: u31 :: u32 :: u33 :: u34 :: u35 :: u36 :: u37 :: u38 :: u39 :: u40 :: u41 :: u42 :: u43 :: u44 :: u45 :: u46 :: u47 :: u48 :: u49 :: u50 :: u51 :: u52 :: u53 :: u54 :: u55 :: u56 :: u57 :: u58 :: u59 :: u60 :: u61 :: x62 :: x63 :: x64 :: x65 :: x66 :: x67 :: x68 :: x69 :: x70 :: x71 :: x72 :: x73 :: x74 :: x75 :: x76 :: x77 :: x78 :: x79 :: x80 :: x81 :: x82 :: x83 :: x84 :: x85 :: x86 :: x87 :: x88 :: x89 :: x90 :: x91 :: x92 :: x93 :: x94 :: x95 :: x96 :: x97 :: x98 :: x99 :: x100 :: x101 :: x102 :: x103 :: x104 :: x105 :: u106 :: u107 :: []), []⟩ w') :
    Code.wp Try.prog (loopNo Try.f48 3) Q0 ⟨List.toArray ((.string key) :: u1 :: u2 :: u3 :: u4 :: u5 :: (.pointer (some ⟨gh, 0, none⟩)) :: u7 :: u8 :: u9 :: u10 :: v11 :: (.int .i64 0) :: (.int .i64 0) :: u14 :: u15 :: u16 :: u17 :: u18 :: u19 :: u20 :: u21 :: u22 :: u23 :: u24 :: u25 :: u26 :: u27 :: u28 :: u29 :: u30 :: u31 :: u32 :: u33 :: u34 :: u35 :: u36 :: u37 :: u38 :: u39 :: u40 :: u41 :: u42 :: u43 :: u44 :: u45 :: u46 :: u47 :: u48 :: u49 :: u50 :: u51 :: u52 :: u53 :: u54 :: u55 :: u56 :: u57 :: u58 :: u59 :: u60 :: u61 :: u62 :: u63 :: u64 :: u65 :: u66 :: u67 :: u68 :: u69 :: u70 :: u71 :: u72 :: u73 :: u74 :: u75 :: u76 :: u77 :: u78 :: u79 :: u80 :: u81 :: u82 :: u83 :: u84 :: u85 :: u86 :: u87 :: u88 :: u89 :: u90 :: u91 :: u92 :: u93 :: u94 :: u95 :: u96 :: u97 :: u98 :: u99 :: u100 :: u101 :: u102 :: u103 :: u104 :: u105 :: u106 :: u107 :: []), []⟩ w := by
  conv => arg 2; whnf
  have HX := Lib.hid hexit
  clear hexit
  have hinfo : (Try.prog.info? 5).map (fun i => (i.zero, i.size, i.bytes)) = some (some (.int .u8 0), 1, 1) := by kernel_rfl
  obtain ⟨i0, hi_, hz0, hz1, hz2⟩ := info_parts hinfo
  have HI := Aside0.mk hi_; have HZ0 := Aside0.mk hz0; have HZ1 := Aside0.mk hz1; have HZ2 := Aside0.mk hz2
  have HV := Lib.hid hv
  have HK := Lib.hid hk
  have HBW := Aside0.mk hbw
  have HB0 := Aside0.mk hB
  clear hi_ hz0 hz1 hz2 hinfo hv hk hbw
  go_loopg [11, 12, 13] 16 (fun gg s11 s12 s13 wr => ∃ i : Nat, s13 = .int .i64 i ∧ s12 = .int .i64 (tagSum (val v) (bts (key.extract 16 key.size)) i) ∧ i ≤ 16 ∧ 16 ≤ gg + i ∧ Aside0 (wr.ownsRow bb 5 1 s11 (tagI (val v) (bts (key.extract 16 key.size)) i).length (nums .u8 (tagI (val v) (bts (key.extract 16 key.size)) i))) ∧ Aside0 (Blk wr gh 80 (wds .i64 v)) ∧ Aside0 (Below bb w wr))
  case atStart => exact ⟨0, rfl, rfl, by omega, by omega, ⟨hO⟩, ⟨hB⟩, ⟨Below.refl _ _⟩⟩
  case round =>
    obtain ⟨i, rfl, rfl, hi, hg, HO, HB, HL⟩ := hrel
    by_cases hlt : i < 16
    · have c1 : decide ((i : Int) < 16) = true := decide_eq_true (by omega)
      have hs1 := tagSum_le (val v) (bts (key.extract 16 key.size)) (bts_lt (key.extract 16 key.size)) i
      have HSUM := Lib.hid (show tagSum (val v) (bts (key.extract 16 key.size)) (i + 1) = (tagSum (val v) (bts (key.extract 16 key.size)) i + (val v / 256 ^ i % 256 + bts (key.extract 16 key.size) i)) / 256 from rfl)
      have hsucc := tagI_succ (val v) (bts (key.extract 16 key.size)) i
      have hlen := tagI_length (val v) (bts (key.extract 16 key.size)) i
      obtain ⟨q, r, x, s, o, ⟨hq, hr, hr26, hq5⟩, hx, hs, ho, hlow, hhigh⟩ := out_names v HV.out i hlt
      rw [ho] at HSUM hsucc
      have hol : o < 256 := by rw [← ho]; exact Nat.mod_lt _ (by decide)
      have hkk := HK.out
      have hlt'' : 16 + i < key.size := by omega
      have hby : wrap64 ((key[16 + i]'hlt'').toNat : Int) = (bts (key.extract 16 key.size) i : Int) := by
        have h0 : bt key ((16 + i : Nat) : Int) = ((key[16 + i]'hlt'').toNat : Int) := dif_pos hlt''
        have h1 : bt (key.extract 16 key.size) (i : Int) = bt key ((16 + i : Nat) : Int) := bt_extract key 16 key.size i (by omega) (Nat.le_refl _)
        have h2 := bts_lt (key.extract 16 key.size) i
        rw [← h0, ← h1, bts_int]
        exact wrap_ok _ (by omega) (by omega)
      have hyl := bts_lt (key.extract 16 key.size) i
      generalize bts (key.extract 16 key.size) i = y at hby hyl HSUM hsucc
      generalize tagSum (val v) (bts (key.extract 16 key.size)) i = cs at hs1 HSUM hsucc ⊢
      have HY := Lib.hid (show tagI (val v) (bts (key.extract 16 key.size)) (i + 1) = tagI (val v) (bts (key.extract 16 key.size)) i ++ [(((cs : Int) + ((o : Int) + (y : Int))) % 256)] from hsucc)
      have H63 := Aside0.mk (show (tagI (val v) (bts (key.extract 16 key.size)) i).length + 1 ≤ maxLen by rw [hlen]; unfold maxLen; omega)
      have H47 := Aside0.mk (show ((tagI (val v) (bts (key.extract 16 key.size)) i).length + 1) * 1 ≤ 140737488355328 by rw [hlen]; omega)
      have HS := Aside0.mk (show bb ≤ wr.heap.size from Nat.le_trans HBW.out HL.out.size)
      have e1 : (8 * (i : Int)) / 26 = (q : Int) := by omega
      have e2 : (8 * (i : Int)) % 26 = (r : Int) := by omega
      have p0 : (0 ≤ (q : Int)) = True := eq_true (by omega)
      have p1 : ((q : Int) < 5) = True := eq_true (by omega)
      have p2 : (q < 5) = True := eq_true hq5
      have p3 : (0 ≤ (r : Int)) = True := eq_true (by omega)
      have p4 : ((r : Int) < 0) = False := eq_false (by omega)
      have p5 : min r 64 = r := by omega
      have x1 : wr.cell? ⟨gh, q, none⟩ = some (.int .i64 (x : Int)) ∧ wr.frozen? ⟨gh, q, none⟩ = false := by
        have := HB.out.wat q (by rw [HV.out.length]; exact hq5)
        rw [hx] at this; exact this
      have HHI := Lib.hid hhigh
      clear hx hq hr ho hsucc hlen hhigh hkk
      by_cases h18 : 18 < r
      · have t1 : decide ((18 : Int) < (r : Int)) = true := decide_eq_true (by omega)
        obtain ⟨x2, m, s2, hq1, hx2, g2, g3, g4⟩ := HHI.out h18
        have x3 : wr.cell? ⟨gh, q + 1, none⟩ = some (.int .i64 (x2 : Int)) ∧ wr.frozen? ⟨gh, q + 1, none⟩ = false := by
          have := HB.out.wat (q + 1) (by rw [HV.out.length]; exact hq1)
          rw [hx2] at this; exact this
        clear hx2 hlow HHI
        go_wp2_with (at_builtin; refine wpList_append_lies _ rfl _ _ 75 rfl bb 5 i0 (.int .u8 0) 1 1 Try.underlying75 HI.out HZ0.out HZ1.out HZ2.out rfl (by decide) _ _ _ rfl (HO.out.alloc _) ⟨wr.heap.size, 0, none⟩ 1 1 [.int .u8 (((cs : Int) + ((o : Int) + (y : Int))) % 256)] rfl rfl (cell_one_new _ _ _) (by simp [Value.oneCell']) (by decide) H63.out H47.out (by have := HS.out; simp; omega) _ rfl ?_; intro g cap w1 hown' hgrow hat hlt')
        have B1 := Aside0.mk ((HL.out.alloc HS.out (.cells #[.int .u8 (((cs : Int) + ((o : Int) + (y : Int))) % 256)] 5)).grown hgrow (by have := HS.out; simp; omega) (fun k e => own_base HO.out k e))
        have O1 := Aside0.mk hown'
        have G1 := Aside0.mk (HB0.out.move (B1.out.block gh hlb))
        have HS6 := Lib.hid (show ((tagSum (val v) (bts (key.extract 16 key.size)) (i + 1) : Nat) : Int) = ((cs : Int) + ((o : Int) + (y : Int))) / 256 by rw [HSUM.out]; push_cast; rfl)
        clear hown' hgrow hat hlt' HO HL HB HSUM HS
        go_roundg (16 - (i + 1))
        case measure => omega
        case rel => exact ⟨i + 1, by go_num, by rw [HS6.out], by omega, by omega, ⟨by rw [HY.out, List.length_append, nums_append]; exact O1.out⟩, ⟨(show Blk _ gh 80 _ from G1.out)⟩, B1⟩
      · have t1 : decide ((18 : Int) < (r : Int)) = false := decide_eq_false (by omega)
        have g4 := hlow h18
        clear hlow HHI
        go_wp2_with (at_builtin; refine wpList_append_lies _ rfl _ _ 75 rfl bb 5 i0 (.int .u8 0) 1 1 Try.underlying75 HI.out HZ0.out HZ1.out HZ2.out rfl (by decide) _ _ _ rfl (HO.out.alloc _) ⟨wr.heap.size, 0, none⟩ 1 1 [.int .u8 (((cs : Int) + ((o : Int) + (y : Int))) % 256)] rfl rfl (cell_one_new _ _ _) (by simp [Value.oneCell']) (by decide) H63.out H47.out (by have := HS.out; simp; omega) _ rfl ?_; intro g cap w1 hown' hgrow hat hlt')
        have B1 := Aside0.mk ((HL.out.alloc HS.out (.cells #[.int .u8 (((cs : Int) + ((o : Int) + (y : Int))) % 256)] 5)).grown hgrow (by have := HS.out; simp; omega) (fun k e => own_base HO.out k e))
        have O1 := Aside0.mk hown'
        have G1 := Aside0.mk (HB0.out.move (B1.out.block gh hlb))
        have HS6 := Lib.hid (show ((tagSum (val v) (bts (key.extract 16 key.size)) (i + 1) : Nat) : Int) = ((cs : Int) + ((o : Int) + (y : Int))) / 256 by rw [HSUM.out]; push_cast; rfl)
        clear hown' hgrow hat hlt' HO HL HB HSUM HS
        go_roundg (16 - (i + 1))
        case measure => omega
        case rel => exact ⟨i + 1, by go_num, by rw [HS6.out], by omega, by omega, ⟨by rw [HY.out, List.length_append, nums_append]; exact O1.out⟩, ⟨(show Blk _ gh 80 _ from G1.out)⟩, B1⟩
    · have c1 : decide ((i : Int) < 16) = false := decide_eq_false (by omega)
      obtain rfl : i = 16 := by omega
      have P1 := HO.out
      have P2 := HL.out
      go_wp2
      refine HX.out _ _ _ _ _ _ _ _ _ _ _ _ _ _ _ _ _ _ _ _ _ _ _ _ _ _ _ _ _ _ _ _ _ _ _ _ _ _ _ _ _ _ _ _ _ _ _ _ _ ?_
      exact ⟨P1, P2⟩
end

section
open Go.RowKit Go.Shelf Go.Proofs.YtihpnededldedaaW.PrintWords Go.Proofs.YtihpnededldedaaW.PrintLast Go.Proofs.YtihpnededldedaaW.PrintMore Go.Proofs.Ytihpnededldedaa.Pol

theorem parts_blk (t : ByteArray) (j : Nat) (h : 16 * j < t.size) (W : World) : Calls Try.prog 80 #[.string (padB (blkB t j) (17 - (blkB t j).size))] W fun e w' => e = .returned (.agg (wds .i64 (limbsN (blkOf t j)))) ∧ Below W.heap.size W w' := by
  have hs := blkB_size t j h
  have hc := l03Parts_calls (padB (blkB t j) (17 - (blkB t j).size)) (by rw [padB_size]; omega) W
  have e : numF (bts (padB (blkB t j) (17 - (blkB t j).size))) 17 = blkOf t j := (numF_congr _ _ 17 (fun i _ => bts_pad _ i _)).trans (numF_17 (blkB t j) (by omega))
  rw [e] at hc
  exact hc
theorem parts_key (key : ByteArray) (h : 16 ≤ key.size) (W : World) : Calls Try.prog 80 #[.string (clampB key ++ ⟨#[0]⟩)] W fun e w' => e = .returned (.agg (wds .i64 (limbsN (clampR key)))) ∧ Below W.heap.size W w' := by
  have hz : (clampB key ++ (⟨#[0]⟩ : ByteArray)).size = 17 := by rw [ByteArray.size_append, clampB_size key h]; rfl
  have hc := l03Parts_calls (clampB key ++ ⟨#[0]⟩) (by omega) W
  have e : numF (bts (clampB key ++ (⟨#[0]⟩ : ByteArray))) 17 = clampR key := by
    refine (numF_congr _ _ 17 (fun i _ => bts_zero _ i)).trans ((numF_17 (clampB key) (by rw [clampB_size key h]; decide)).trans ?_)
    rw [clampB_size key h]; rfl
  rw [e] at hc
  exact hc
/-- A round of the reference's tag. -/
theorem tag_roundS (key t : ByteArray) (j : Nat) (h : 16 * j < t.size) (v : List Nat) (hv : Pol.Acc v (accOf key t j)) :
    Pol.Acc (carryN (mulL (addL v (limbsN (blkOf t j))) (limbsN (clampR key))) 3) (accOf key t (j + 1)) ∧ L5 134217728 (addL v (limbsN (blkOf t j))) := by
  obtain ⟨h1, h2, _⟩ := acc_spec hv (limbsN_L5 (blkOf t j)) (limbsN_L5 (clampR key))
  rw [blk_val t j h, clamp_val] at h1
  exact ⟨⟨h1.1, h1.2⟩, h2⟩

set_option maxRecDepth 1000000 in
set_option maxHeartbeats 16000000 in
theorem blocks_wp (key t : ByteArray) (gh gr : Nat) (r0 r1 r2 r3 r4 : Nat) (u0 u2 u3 u4 u8 u9 u10 u11 u12 u13 u14 u15 u16 u17 u18 u19 u20 u21 u22 u23 u24 u25 u26 u27 u28 u29 u30 u31 u32 u33 u34 u35 u36 u37 u38 u39 u40 u41 u42 u43 u44 u45 u46 u47 u48 u49 u50 u51 u52 u53 u54 u55 u56 u57 u58 u59 u60 u61 u62 u63 u64 u65 u66 u67 u68 u69 u70 u71 u72 u73 u74 u75 u76 u77 u78 u79 u80 u81 u82 u83 u84 u85 u86 u87 u88 u89 u90 u91 u92 u93 u94 u95 u96 u97 u98 u99 u100 u101 u102 u103 u104 u105 u106 u107 : Value) (Q0 : Exit → Act → World → Prop) (w : World) (hr5 : limbsN (clampR key) = [r0, r1, r2, r3, r4]) (ht : t.size ≤ 1000000) (hlt0 : gr < gh) (hB : Blk w gh 80 (wds .i64 [0, 0, 0, 0, 0])) (hR : Blk w gr 80 (wds .i64 [r0, r1, r2, r3, r4]))
    (hexit : ∀ (x7 x8 x9 x10 x21 x22 x23 x24 x25 x26 x27 x28 x29 x30 x31 x32 x33 x34 x35 x36 x37 x38 x39 x40 x41 x42 x43 x44 x45 x46 x47 x48 x49 x50 x51 x52 x53 x54 x55 x56 x57 : Value) (w' : World), (∃ v, Pol.Acc v (accOf key t ((t.size + 15) / 16)) ∧ Blk w' gh 80 (wds .i64 v) ∧ Below gh w w') → Q0 (.exit 0) ⟨List.toArray (u0 :: (.string t) :: u2 :: u3 :: u4 :: (.pointer (some ⟨gr, 0, none⟩)) :: (.pointer (some ⟨gh, 0, none⟩)) :: x7 :: x8 :: x9 :: x10 :: u11 :: u12 :: u13 :: u14 :: u15 :: u16 :: u17 :: u18 :: u19 :: u20 :: x21 :: x22 :: x23 :: x24 :: x25 :: x26 :: x27 :: x28 :: x29 :: x30 :: x31 :: x32 :: x33 :: x34 :: x35 :: x36 :: x37 :: x38 :: x39 :: x40 :: x41 :: x42 :: x43 :: x44 :: x45 :: x46 :: x47 :: x48 :: x49 :: x50 :: x51 :: x52 :: x53 :: x54 :: x55 :: x56 :: x57 :: u58 :: u59 :: u60 :: u61 :: u62 :: u63 :: u64 :: u65 :: u66 :: u67 :: u68 :: u69 :: u70 :: u71 :: u72 :: u73 :: u74 :: u75 :: u76 :: u77 :: u78 :: u79 :: u80 :: u81 :: u82 :: u83 :: u84 :: u85 :: u86 :: u87 :: u88 :: u89 :: u90 :: u91 :: u92 :: u93 :: u94 :: u95 :: u96 :: u97 :: u98 :: u99 :: u100 :: u101 :: u102 :: u103 :: u104 :: u105 :: u106 :: u107 :: []), []⟩ w') :
    Code.wp Try.prog (loopNo Try.f48 0) Q0 ⟨List.toArray (u0 :: (.string t) :: u2 :: u3 :: u4 :: (.pointer (some ⟨gr, 0, none⟩)) :: (.pointer (some ⟨gh, 0, none⟩)) :: (.int .i64 0) :: u8 :: u9 :: u10 :: u11 :: u12 :: u13 :: u14 :: u15 :: u16 :: u17 :: u18 :: u19 :: u20 :: u21 :: u22 :: u23 :: u24 :: u25 :: u26 :: u27 :: u28 :: u29 :: u30 :: u31 :: u32 :: u33 :: u34 :: u35 :: u36 :: u37 :: u38 :: u39 :: u40 :: u41 :: u42 :: u43 :: u44 :: u45 :: u46 :: u47 :: u48 :: u49 :: u50 :: u51 :: u52 :: u53 :: u54 :: u55 :: u56 :: u57 :: u58 :: u59 :: u60 :: u61 :: u62 :: u63 :: u64 :: u65 :: u66 :: u67 :: u68 :: u69 :: u70 :: u71 :: u72 :: u73 :: u74 :: u75 :: u76 :: u77 :: u78 :: u79 :: u80 :: u81 :: u82 :: u83 :: u84 :: u85 :: u86 :: u87 :: u88 :: u89 :: u90 :: u91 :: u92 :: u93 :: u94 :: u95 :: u96 :: u97 :: u98 :: u99 :: u100 :: u101 :: u102 :: u103 :: u104 :: u105 :: u106 :: u107 :: []), []⟩ w := by
  conv => arg 2; whnf
  have HX := Lib.hid hexit
  clear hexit
  have HR5 := Lib.hid hr5; have HTS := Lib.hid ht; have HGR := Aside0.mk hlt0; have HR0 := Aside0.mk hR; have HGH := Aside0.mk hB.lt
  have HTR := Lib.hid (tag_roundS key t)
  have hcl := limbsN_L5 (clampR key)
  rw [HR5.out] at HTR hcl
  have HCL := Lib.hid hcl
  have HA0 := Lib.hid (show Pol.Acc [0, 0, 0, 0, 0] (accOf key t 0) from acc_zero)
  clear hr5 ht hlt0 hcl
  go_loopg [7] t.size (fun gg s7 wr => ∃ (j : Nat) (h0 h1 h2 h3 h4 p : Nat), s7 = .int .i64 p ∧ Aside0 (p = 16 * j) ∧ p ≤ t.size + 15 ∧ j ≤ (t.size + 15) / 16 ∧ t.size ≤ gg + p ∧ Aside0 (Pol.Acc [h0, h1, h2, h3, h4] (accOf key t j)) ∧ Aside0 (Blk wr gh 80 (wds .i64 [h0, h1, h2, h3, h4])) ∧ Aside0 (Below gh w wr))
  case atStart => exact ⟨0, 0, 0, 0, 0, 0, 0, rfl, ⟨rfl⟩, by omega, by omega, by omega, ⟨HA0.out⟩, ⟨hB⟩, ⟨Below.refl _ _⟩⟩
  case round =>
    clear HA0
    obtain ⟨j, h0, h1, h2, h3, h4, p, rfl, HJ, hp, hj, hg, HA, HB, HL⟩ := hrel
    have hts := HTS.out
    by_cases hlt : p < t.size
    · have c1 : decide ((p : Int) < (t.size : Int)) = true := decide_eq_true (by omega)
      have c1' : decide (p < t.size) = true := decide_eq_true hlt
      obtain ⟨hacc, hsum⟩ := HTR.out j (by have := HJ.out; omega) _ HA.out
      have C1 := fun W => parts_blk t j (by have := HJ.out; omega) W
      have hbs := blkB_size t j (by have := HJ.out; omega)
      have hbs17 : Hid ((blkB t j).size ≤ 17) := Lib.hid (by omega)
      obtain ⟨m0, m1, m2, m3, m4, hmE, q0, q1, q2, q3, q4⟩ := limbsN_L5 (blkOf t j)
      rw [hmE] at C1 hacc hsum
      have C2 := fun W => l03Times_calls (addL [h0, h1, h2, h3, h4] [m0, m1, m2, m3, m4]) [r0, r1, r2, r3, r4] hsum HCL.out W
      have hsl := Lib.hid hsum.length
      have HBZ : Hid (t.extract p (min (p + 16) t.size) ++ ⟨#[1]⟩ = blkB t j) := Lib.hid (by rw [HJ.out]; rfl)
      obtain ⟨e, he⟩ : ∃ e, min (p + 16) t.size = e := ⟨_, rfl⟩
      have hmin1 : (if p + 16 < t.size then ((p : Int) + 16) else (t.size : Int)) = (e : Int) := by split <;> omega
      have hmin2 : (if (p : Int) + 16 < (t.size : Int) then ((p : Int) + 16) else (t.size : Int)) = (e : Int) := by split <;> omega
      have hpe : p ≤ e := by omega
      have het : e ≤ t.size := by omega
      rw [he] at HBZ
      obtain ⟨y, hy⟩ : ∃ y, t.extract p e = y := ⟨_, rfl⟩
      have hys : y.size + 1 ≤ 9223372036854775807 := by rw [← hy, ByteArray.size_extract]; omega
      rw [hy] at HBZ
      have hz := HBZ.out
      generalize blkB t j = z at C1 hbs17 hz
      have hys1 : (y.size + 1 ≤ 9223372036854775807) = True := eq_true hys
      have hys2 : (9223372036854775807 < y.size + 1) = False := eq_false (by omega)
      have HACC := Lib.hid hacc
      have HQ5 := Lib.hid (And.intro q0 (And.intro q1 (And.intro q2 (And.intro q3 q4))))
      clear hacc hbs hmE HBZ he hys hsum q0 q1 q2 q3 q4
      go_wp2
      refine pad_wp z _ _ _ _ _ _ _ _ _ _ _ _ _ _ _ _ _ _ _ _ _ _ _ _ _ _ _ _ _ _ _ _ _ _ _ _ _ _ _ _ _ _ _ _ _ _ _ _ _ _ _ _ _ _ _ _ _ _ _ _ _ _ _ _ _ _ _ _ _ _ _ _ _ _ _ _ _ _ _ _ _ _ _ _ _ _ _ _ _ _ _ _ _ _ _ _ _ _ _ _ _ _ _ _ _ _ _ _ _ hbs17.out ?_
      intro _ _ _ _ _ wp hwp
      subst hwp
      clear hmin1 hmin2 hy hz hys1 hys2 hbs17
      generalize padB z (17 - z.size) = pz at C1 ⊢
      go_upto_region 10 with (first | (go_at_call 80; with_reducible refine (C1 _).mono ?_; rintro e1 w1 ⟨rfl, hb1⟩; replace hb1 := Aside0.mk hb1) | ((with_reducible refine wpList_store_row (o := ⟨none, .store 80 (.tmp 9) (.tmp 42), _, _, _, _⟩) ?s1a 80 (.tmp 9) (.tmp 42) ?s1b (w1.heap.size) (wds .i64 [m0, m1, m2, m3, m4]) ?s1c ?s1d 80 (wds .i64 zeros5) ?s1e ?s1f ?s1g ?s1h ?_); (case s1a => rfl); (case s1b => rfl); (case s1c => rfl); (case s1d => rfl); (case s1e => exact Blk.new' _ _ _ _ rfl); (case s1f => exact info5i rfl); (case s1g => rfl); (case s1h => exact wds_one _ _)))
      have hs1 := hb1.out.size
      have hs0 := HL.out.size
      have hgh := HGH.out
      have BH : Aside0 (Blk ((w1.alloc (.cells #[.int .i64 0, .int .i64 0, .int .i64 0, .int .i64 0, .int .i64 0] 80)).setRow w1.heap.size (wds .i64 [m0, m1, m2, m3, m4])) gh 80 (wds .i64 [h0, h1, h2, h3, h4])) := ⟨((HB.out.below hb1.out).alloc _).rowOther _ (by omega) _⟩
      have BM : Aside0 (Blk ((w1.alloc (.cells #[.int .i64 0, .int .i64 0, .int .i64 0, .int .i64 0, .int .i64 0] 80)).setRow w1.heap.size (wds .i64 [m0, m1, m2, m3, m4])) w1.heap.size 80 (wds .i64 [m0, m1, m2, m3, m4])) := ⟨(Blk.new' _ _ _ _ rfl).row _⟩
      have BL : Aside0 (Below gh w ((w1.alloc (.cells #[.int .i64 0, .int .i64 0, .int .i64 0, .int .i64 0, .int .i64 0] 80)).setRow w1.heap.size (wds .i64 [m0, m1, m2, m3, m4]))) := ⟨below_setRow ((HL.out.trans (hb1.out.mono (by omega))).alloc (by omega) _) (by omega) _⟩
      have hne : w1.heap.size ≠ gh := by omega
      clear hb1 HB HL hs1 hs0 hgh C1
      generalize hwx : (w1.alloc (.cells #[.int .i64 0, .int .i64 0, .int .i64 0, .int .i64 0, .int .i64 0] 80)).setRow w1.heap.size (wds .i64 [m0, m1, m2, m3, m4]) = wx at BH BM BL ⊢
      clear hwx
      generalize w1.heap.size = gm at BM hne ⊢
      go_wp2
      obtain ⟨a0, a1, a2, a3, a4⟩ : h0 < 67108864 ∧ h1 < 67108864 ∧ h2 < 67108864 ∧ h3 < 67108864 ∧ h4 < 67108864 := by
        obtain ⟨_, _, _, _, _, e0, g⟩ := HA.out.1
        injection e0 with ea e0; injection e0 with eb e0; injection e0 with ec e0; injection e0 with ed e0; injection e0 with ee e0
        subst ea eb ec ed ee; exact g
      obtain ⟨q0, q1, q2, q3, q4⟩ := HQ5.out
      refine sum_wp gh gm h0 h1 h2 h3 h4 m0 m1 m2 m3 m4 _ _ _ _ _ _ _ _ _ _ _ _ _ _ _ _ _ _ _ _ _ _ _ _ _ _ _ _ _ _ _ _ _ _ _ _ _ _ _ _ _ _ _ _ _ _ _ _ _ _ _ _ _ _ _ _ _ _ _ _ _ _ _ _ _ _ _ _ _ _ _ _ _ _ _ _ _ _ _ _ _ _ _ _ _ _ _ _ _ _ _ _ _ _ _ _ _ _ _ _ _ _ _ _ _ _ _ a0 a1 a2 a3 a4 q0 q1 q2 q3 q4 BH.out BM.out hne ?_
      intro _ _ _ _ _ _ _ _ _ _ _ _ w3
      rintro ⟨P1, P2⟩
      clear a0 a1 a2 a3 a4 q0 q1 q2 q3 q4
      have BS := Aside0.mk P1
      have BLS := Aside0.mk (BL.out.trans P2)
      have BR : Aside0 (Blk w3 gr 80 (wds .i64 [r0, r1, r2, r3, r4])) := ⟨HR0.out.move (BLS.out.block gr HGR.out)⟩
      clear P1 P2 BH BM BL HQ5 HA
      generalize addL [h0, h1, h2, h3, h4] [m0, m1, m2, m3, m4] = sm at C2 hsl BS HACC
      obtain ⟨x0, x1, x2, x3, x4, hxE, _⟩ := HACC.out.1
      have HXE := Lib.hid hxE
      clear hxE
      have C2' : ∀ W, Calls Try.prog 82 #[.agg (wds .i64 sm), .agg (wds .i64 [r0, r1, r2, r3, r4])] W fun e w' => e = .returned (.agg (wds .i64 [x0, x1, x2, x3, x4])) ∧ Below W.heap.size W w' := by rw [← HXE.out]; exact C2
      clear C2
      go_wp2_with (first | ((with_reducible refine wpList_load_row (o := ⟨some 55, .load 80 (.tmp 6), _, _, _, _⟩) ?l2a 80 (.tmp 6) ?l2b (gh) ?l2c 80 (wds .i64 sm) (0, 0) ?l2z ?l2d ?l2e ?l2f ?l2g ?_); (case l2a => rfl); (case l2b => rfl); (case l2c => rfl); (case l2d => exact BS.out); (case l2e => exact Try.underlying80); (case l2f => rfl); (case l2g => exact info5i hsl.out)) | ((with_reducible refine wpList_load_row (o := ⟨some 56, .load 80 (.tmp 5), _, _, _, _⟩) ?l3a 80 (.tmp 5) ?l3b (gr) ?l3c 80 (wds .i64 [r0, r1, r2, r3, r4]) (0, 0) ?l3z ?l3d ?l3e ?l3f ?l3g ?_); (case l3a => rfl); (case l3b => rfl); (case l3c => rfl); (case l3d => exact BR.out); (case l3e => exact Try.underlying80); (case l3f => rfl); (case l3g => exact info5i rfl)) | (go_at_call 82; with_reducible refine (C2' _).mono ?_; rintro e4 w4 ⟨rfl, hb4⟩; replace hb4 := Aside0.mk hb4) | ((with_reducible refine wpList_store_row (o := ⟨none, .store 80 (.tmp 6) (.tmp 57), _, _, _, _⟩) ?s4a 80 (.tmp 6) (.tmp 57) ?s4b (gh) (wds .i64 [x0, x1, x2, x3, x4]) ?s4c ?s4d 80 (wds .i64 sm) ?s4e ?s4f ?s4g ?s4h ?_); (case s4a => rfl); (case s4b => rfl); (case s4c => rfl); (case s4d => rfl); (case s4e => exact (BS.out.below hb4.out)); (case s4f => exact info5i rfl); (case s4g => rw [wds_size, wds_size, hsl.out]; rfl); (case s4h => exact wds_one _ _)))
      have BX : Aside0 (Blk (w4.setRow gh (wds .i64 [x0, x1, x2, x3, x4])) gh 80 (wds .i64 [x0, x1, x2, x3, x4])) := ⟨(BS.out.below hb4.out).row _⟩
      have BLX : Aside0 (Below gh w (w4.setRow gh (wds .i64 [x0, x1, x2, x3, x4]))) := ⟨below_setRow (BLS.out.trans (hb4.out.mono (Nat.le_of_lt BS.out.lt))) (Nat.le_refl _) _⟩
      have HACX : Aside0 (Pol.Acc [x0, x1, x2, x3, x4] (accOf key t (j + 1))) := ⟨by rw [← HXE.out]; exact HACC.out⟩
      clear BS BLS BR hb4 C2' HACC
      generalize w4.setRow gh (wds .i64 [x0, x1, x2, x3, x4]) = wz at BX BLX ⊢
      go_roundg (t.size - (p + 16))
      case measure => omega
      case rel => exact ⟨j + 1, x0, x1, x2, x3, x4, p + 16, by go_num, ⟨by have := HJ.out; omega⟩, by omega, by have := HJ.out; omega, by omega, HACX, BX, BLX⟩
    · have c1 : decide ((p : Int) < (t.size : Int)) = false := decide_eq_false (by omega)
      have c1' : decide (p < t.size) = false := decide_eq_false hlt
      have hacc := HA.out
      rw [show j = (t.size + 15) / 16 by have := HJ.out; omega] at hacc
      have P0 := Lib.hid hacc
      have P1 := HB.out
      have P2 := HL.out
      clear hacc
      go_wp2
      refine HX.out _ _ _ _ _ _ _ _ _ _ _ _ _ _ _ _ _ _ _ _ _ _ _ _ _ _ _ _ _ _ _ _ _ _ _ _ _ _ _ _ _ _ ?_
      exact ⟨_, P0.out, P1, P2⟩
end

section
open Go.RowKit Go.Shelf Go.Proofs.YtihpnededldedaaW.PrintWords Go.Proofs.YtihpnededldedaaW.PrintLast Go.Proofs.YtihpnededldedaaW.PrintMore Go.Proofs.Ytihpnededldedaa.Pol

set_option maxRecDepth 1000000 in
set_option maxHeartbeats 16000000 in
theorem l03Tag_calls (key t : ByteArray) (hk : key.size = 32) (ht : t.size ≤ 1000000) (w : World) : Calls Try.prog 48 #[.string key, .string t] w fun e w' => e = .returned (.string (tagOf key t)) ∧ Below w.heap.size w w' := by
  have CK := fun W => spec_l03Clamp.calls key (clampB key) W (if_pos (by omega))
  have CP := fun W => parts_key key (by omega) W
  have hcs := clampB_size key (by omega)
  have HR := Lib.hid (show tagOf key t = strOfNums (tagI (accOf key t ((t.size + 15) / 16) % pr) (bts (key.extract 16 key.size)) 16) from rfl)
  obtain ⟨r0, r1, r2, r3, r4, hr, _⟩ := limbsN_L5 (clampR key)
  rw [hr] at CP
  have HRR := Lib.hid hr
  have HK := Lib.hid hk; have HT := Lib.hid ht
  clear hr hk ht
  generalize clampB key = ck at CK CP hcs
  have k1 : (ck.size + 1 ≤ 9223372036854775807) = True := eq_true (by omega)
  have k2 : (9223372036854775807 < ck.size + 1) = False := eq_false (by omega)
  clear hcs
  go_enter Try.func48, Try.ntmps48
  refine wp_hide ?_
  intro Qx hQx
  have HQ := Lib.hid hQx
  clear hQx
  go_wp2_with (first | (go_at_call 81; with_reducible refine (CK _).mono ?_; rintro e1 w1 ⟨rfl, hb1⟩; replace hb1 := Aside0.mk hb1) | (go_at_call 80; with_reducible refine (CP _).mono ?_; rintro e2 w2 ⟨rfl, hb2⟩; replace hb2 := Aside0.mk hb2) | ((with_reducible refine wpList_store_row (o := ⟨none, .store 80 (.tmp 5) (.tmp 19), _, _, _, _⟩) ?s5a 80 (.tmp 5) (.tmp 19) ?s5b (w2.heap.size) (wds .i64 [r0, r1, r2, r3, r4]) ?s5c ?s5d 80 (wds .i64 zeros5) ?s5e ?s5f ?s5g ?s5h ?_); (case s5a => rfl); (case s5b => rfl); (case s5c => rfl); (case s5d => rfl); (case s5e => exact Blk.new' _ _ _ _ rfl); (case s5f => exact info5i rfl); (case s5g => rfl); (case s5h => exact wds_one _ _)))
  refine wp_world (fun W => Blk W w2.heap.size 80 (wds .i64 [r0, r1, r2, r3, r4]) ∧ Blk W (w2.heap.size + 1) 80 (wds .i64 [0, 0, 0, 0, 0]) ∧ Below w.heap.size w W ∧ w.heap.size ≤ w2.heap.size) ⟨?_, ?_, ?_, ?_⟩ ?_
  · exact ((Blk.new' _ _ _ _ rfl).row _).alloc _
  · exact Blk.new' _ _ _ _ (by rw [size_setRow]; simp)
  · exact (below_setRow (((hb1.out).trans (hb2.out.mono hb1.out.size)).alloc (Nat.le_trans hb1.out.size hb2.out.size) _) (Nat.le_trans hb1.out.size hb2.out.size) _).alloc (by rw [size_setRow]; have := hb1.out.size; have := hb2.out.size; simp; omega) _
  · exact Nat.le_trans hb1.out.size hb2.out.size
  rintro wb ⟨P1, P2, P3, P4⟩
  have BR := Aside0.mk P1; have BH := Aside0.mk P2; have BL := Aside0.mk P3; have BG := Aside0.mk P4
  clear P1 P2 P3 P4 hb1 hb2 CK CP k1 k2
  generalize w2.heap.size = gr at BR BH BG ⊢
  refine blocks_wp key t (gr + 1) gr r0 r1 r2 r3 r4 _ _ _ _ _ _ _ _ _ _ _ _ _ _ _ _ _ _ _ _ _ _ _ _ _ _ _ _ _ _ _ _ _ _ _ _ _ _ _ _ _ _ _ _ _ _ _ _ _ _ _ _ _ _ _ _ _ _ _ _ _ _ _ _ _ _ _ _ _ _ _ _ _ _ _ _ _ _ _ _ _ _ _ _ _ _ _ _ _ _ _ _ _ _ _ _ _ _ _ _ _ _ _ _ _ _ HRR.out HT.out (Nat.lt_succ_self _) BH.out BR.out ?_
  intro _ _ _ _ _ _ _ _ _ _ _ _ _ _ _ _ _ _ _ _ _ _ _ _ _ _ _ _ _ _ _ _ _ _ _ _ _ _ _ _ _ w3
  rintro ⟨v, hacc, P1, P2⟩
  have BV := Aside0.mk P1
  have BLV := Aside0.mk (BL.out.trans (P2.mono (Nat.le_succ_of_le BG.out)))
  clear P1 P2 BR BH BL
  have C1 := fun W => l03Carry_calls v (hacc.1.mono (by decide)) W
  rw [carry_still v hacc.1] at C1
  have C2 := fun W => l03Less_calls v hacc.1 W
  rw [hacc.2] at C2
  have hl5 := limbsN_L5 (accOf key t ((t.size + 15) / 16) % pr)
  have HVL := Lib.hid (val_limbsN _ (mod_pr_lt (accOf key t ((t.size + 15) / 16))))
  have HL5 := Lib.hid hl5
  have HVE := Lib.hid hacc.1.length
  clear hacc hl5
  generalize limbsN (accOf key t ((t.size + 15) / 16) % pr) = ls at C2 HVL HL5
  generalize hgh : gr + 1 = gh at BV ⊢
  have BGH : Aside0 (w.heap.size ≤ gh) := ⟨by have := BG.out; omega⟩
  clear hgh BG
  go_upto_region 16 with (first | ((with_reducible refine wpList_load_row (o := ⟨some 58, .load 80 (.tmp 6), _, _, _, _⟩) ?l6a 80 (.tmp 6) ?l6b (gh) ?l6c 80 (wds .i64 v) (0, 0) ?l6z ?l6d ?l6e ?l6f ?l6g ?_); (case l6a => rfl); (case l6b => rfl); (case l6c => rfl); (case l6d => exact BV.out); (case l6e => exact Try.underlying80); (case l6f => rfl); (case l6g => exact info5i HVE.out)) | (go_at_call 84; with_reducible refine (C1 _).mono ?_; rintro e4 w4 ⟨rfl, hb4⟩; replace hb4 := Aside0.mk hb4) | (go_at_call 83; with_reducible refine (C2 _).mono ?_; rintro e5 w5 ⟨rfl, hb5⟩; replace hb5 := Aside0.mk hb5) | ((with_reducible refine wpList_store_row (o := ⟨none, .store 80 (.tmp 6) (.tmp 60), _, _, _, _⟩) ?s7a 80 (.tmp 6) (.tmp 60) ?s7b (gh) (wds .i64 ls) ?s7c ?s7d 80 (wds .i64 v) ?s7e ?s7f ?s7g ?s7h ?_); (case s7a => rfl); (case s7b => rfl); (case s7c => rfl); (case s7d => rfl); (case s7e => exact ((BV.out.below hb4.out).below hb5.out)); (case s7f => exact info5i HL5.out.length); (case s7g => rw [wds_size, wds_size, HVE.out, HL5.out.length]); (case s7h => exact wds_one _ _)))
  have BX : Aside0 (Blk (w5.setRow gh (wds .i64 ls)) gh 80 (wds .i64 ls)) := ⟨((BV.out.below hb4.out).below hb5.out).row _⟩
  have BLX : Aside0 (Below w.heap.size w (w5.setRow gh (wds .i64 ls))) := ⟨below_setRow ((BLV.out.trans (hb4.out.mono BLV.out.size)).trans (hb5.out.mono (Nat.le_trans BLV.out.size hb4.out.size))) BGH.out _⟩
  clear BV BLV hb4 hb5 C1 C2 HVE
  generalize w5.setRow gh (wds .i64 ls) = wx at BX BLX ⊢
  go_wp2
  refine byt_wp key wx.heap.size gh ls _ _ _ _ _ _ _ _ _ _ _ _ _ _ _ _ _ _ _ _ _ _ _ _ _ _ _ _ _ _ _ _ _ _ _ _ _ _ _ _ _ _ _ _ _ _ _ _ _ _ _ _ _ _ _ _ _ _ _ _ _ _ _ _ _ _ _ _ _ _ _ _ _ _ _ _ _ _ _ _ _ _ _ _ _ _ _ _ _ _ _ _ _ _ _ _ _ _ _ _ _ _ _ _ _ _ HL5.out HK.out (BX.out.alloc _) BX.out.lt (by simp) (own_lit wx wx.heap.size 5 .u8 [] (Nat.le_refl _) (by simp)) ?_
  intro _ _ _ _ _ _ _ _ _ _ _ _ _ _ _ _ _ _ _ _ _ _ _ _ _ _ _ _ _ _ _ _ _ _ _ _ _ _ _ _ _ _ _ _ _ _ _ _ w6
  rintro ⟨P1, P2⟩
  rw [HVL.out] at P1
  have hcv := own_string (P := Try.prog) (src := 75) (dst := 9) Try.underlying75 Try.underlying5 Try.underlying9 P1
  have hr := HR.out
  have BZ : Aside0 (Below w.heap.size w w6) := ⟨(BLX.out.alloc BLX.out.size _).trans (P2.mono BLX.out.size)⟩
  rw [← hr] at hcv
  clear hr P1 P2 HR BX BLX
  go_wp2
  refine HQ.out _ _ _ ?_
  go_ret
  exact ⟨rfl, BZ.out⟩
end

end Go.Proofs.Ytihpnededldedaa.Leaf
