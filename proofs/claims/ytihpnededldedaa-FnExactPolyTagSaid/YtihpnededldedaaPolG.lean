/-
  Region 6 of impl.tag: the sum so far, a block more, the product, put back. Conditions: a place within the text.
-/
import Derived.Test.YtihpnededldedaaPolB
import Derived.Test.YtihpnededldedaaWTab
namespace Go.Proofs.Ytihpnededldedaa.Leaf
open Go.RowKit Go.Shelf Go.Proofs.YtihpnededldedaaW.PrintWords Go.Proofs.YtihpnededldedaaW.PrintLast Go.Proofs.YtihpnededldedaaW.PrintMore Go.Proofs.Ytihpnededldedaa.Pol
set_option linter.unusedSimpArgs false
set_option linter.unusedVariables false
def regionsT : Code → List Code
  | .region i o d => [.region i o d]
  | .loop c => regionsT c
  | .seq a b => regionsT a ++ regionsT b
  | .block _ c => regionsT c
  | .scope c => regionsT c
  | .cond _ a b => regionsT a ++ regionsT b
  | _ => []
def isRegT (k : Nat) : Code → Bool
  | .region i _ _ => i == k
  | _ => false
noncomputable def regNoT (f : Func) (k : Nat) : Code := (((f.body.map regionsT).getD []).find? (isRegT k)).getD .skip
def tagT : Bool × List (List Nat × List Nat) := (true, [([], []), ([], []), ([], []), ([], []), ([3], [3]), ([], []), ([5], [5]), ([4, 6], [4, 6]), ([1, 2, 7], [1, 2, 7]), ([8], [8]), ([9], [9]), ([0, 10, 10], [0, 10]), ([], []), ([11, 12, 11], [11, 12]), ([13, 13, 0, 1, 2, 3, 4, 5, 6, 7, 8, 9, 10, 11, 12, 13], [13])])
def tagB : List Nat := [0, 0, 0, 0, 8, 0, 32, 120, 254, 510, 1022, 2047, 0, 8191, 16383]
theorem tagTab : rtab .any (opsOf Try.f50 6) = tagT := by kernel_rfl
theorem tagBits : waitsOk tagT.2 tagB = true := by kernel_rfl

set_option maxHeartbeats 8000000 in
set_option maxRecDepth 100000 in
theorem tag_r6 (Q : Exit → Act → World → Prop) (g0 g gr : Nat) (t z : ByteArray) (p e : Nat) (m s : List Nat) (h0 h1 h2 h3 h4 r0 r1 r2 r3 r4 x0 x1 x2 x3 x4 : Nat) (w : World) (u0 u2 u3 u4 u8 u9 u10 u11 u12 u13 u14 u15 u16 u17 u18 u19 u20 u21 u22 u23 u24 u25 u26 u27 u28 u29 u30 u31 u32 u33 u34 u35 : Value) (hQ0 : ∀ c (a a' : Act) w, a.defers = a'.defers → Q (.panic c) a w → Q (.panic c) a' w)
    (hB : Blk w g 90 (wds .u64 [h0, h1, h2, h3, h4])) (hR : Blk w gr 90 (wds .u64 [r0, r1, r2, r3, r4])) (hg0 : g0 ≤ g) (hne : gr ≠ g) (hp : p < t.size) (he : min (p + 16) t.size = e) (ht : t.size ≤ 1000000) (hz : t.extract p e ++ ⟨#[1]⟩ = z)
    (C1 : ∀ W, Calls Try.prog 87 #[.string z] W fun e w' => e = .returned (.agg (wds .u64 m)) ∧ Below W.heap.size W w')
    (C2 : ∀ W, Calls Try.prog 89 #[.agg #[.int .u64 h0, .int .u64 h1, .int .u64 h2, .int .u64 h3, .int .u64 h4], .agg (wds .u64 m)] W fun e w' => e = .returned (.agg (wds .u64 s)) ∧ Below W.heap.size W w')
    (C3 : ∀ W, Calls Try.prog 90 #[.agg (wds .u64 s), .agg #[.int .u64 r0, .int .u64 r1, .int .u64 r2, .int .u64 r3, .int .u64 r4]] W fun e w' => e = .returned (.agg #[.int .u64 x0, .int .u64 x1, .int .u64 x2, .int .u64 x3, .int .u64 x4]) ∧ Below W.heap.size W w')
    (h : ∀ w' v17 v18 v19 v20 v21 v22 v23 v24 v25 v26 v27 v28 v29 v30, Blk w' g 90 (wds .u64 [x0, x1, x2, x3, x4]) → Blk w' gr 90 (wds .u64 [r0, r1, r2, r3, r4]) → Below g0 w w' → Q .normal ⟨#[u0, .string t, u2, u3, u4, .pointer (some ⟨g, 0, none⟩), .pointer (some ⟨gr, 0, none⟩), .int .i64 p, u8, u9, u10, u11, u12, u13, u14, u15, u16, v17, v18, v19, v20, v21, v22, v23, v24, v25, v26, v27, v28, v29, v30, u31, u32, u33, u34, u35], []⟩ w') :
    Code.wp Try.prog (regNoT Try.f50 6) Q ⟨#[u0, .string t, u2, u3, u4, .pointer (some ⟨g, 0, none⟩), .pointer (some ⟨gr, 0, none⟩), .int .i64 p, u8, u9, u10, u11, u12, u13, u14, u15, u16, u17, u18, u19, u20, u21, u22, u23, u24, u25, u26, u27, u28, u29, u30, u31, u32, u33, u34, u35], []⟩ w := by
  conv => arg 2; whnf
  have HL := Aside0.mk (Below.refl w.heap.size w)
  refine start_ (n := 15) (S := fun w' => w'.cell? ⟨g, 0, none⟩ = some (.int .u64 h0) ∧ w'.cell? ⟨g, 1, none⟩ = some (.int .u64 h1) ∧ w'.cell? ⟨g, 2, none⟩ = some (.int .u64 h2) ∧ w'.cell? ⟨g, 3, none⟩ = some (.int .u64 h3) ∧ w'.cell? ⟨g, 4, none⟩ = some (.int .u64 h4) ∧ w'.cell? ⟨gr, 0, none⟩ = some (.int .u64 r0) ∧ w'.cell? ⟨gr, 1, none⟩ = some (.int .u64 r1) ∧ w'.cell? ⟨gr, 2, none⟩ = some (.int .u64 r2) ∧ w'.cell? ⟨gr, 3, none⟩ = some (.int .u64 r3) ∧ w'.cell? ⟨gr, 4, none⟩ = some (.int .u64 r4)) (ds := [14]) #[false, false, false, false, false, false, false, false, false, false, false, false, false, false, false] (by kernel_rfl) rfl rfl ⟨(Blk.five hB).1.1, (Blk.five hB).2.1.1, (Blk.five hB).2.2.1.1, (Blk.five hB).2.2.2.1.1, (Blk.five hB).2.2.2.2.1, (Blk.five hR).1.1, (Blk.five hR).2.1.1, (Blk.five hR).2.2.1.1, (Blk.five hR).2.2.2.1.1, (Blk.five hR).2.2.2.2.1⟩ (fun hHeld => ?_); refine with_tabW tagTab tagBits (fun HT_ HW_ => ?_)
  have HBk := Aside0.mk (hB.drew)
  have HRk := Aside0.mk (hR.drew)
  have HL1 := Aside0.mk (below_drew1 HL.out)
  generalize w.drew = w1 at HBk HRk HL1 hHeld ⊢
  have HLT := Aside0.mk hB.lt
  obtain ⟨q, hq⟩ : ∃ q, p + 16 = q := ⟨_, rfl⟩
  have hwq : wrap64 ((p : Int) + 16) = (q : Int) := by rw [wrap_ok _ (by omega) (by omega)]; omega
  have hmin : (if (t.size : Int) < (q : Int) then (t.size : Int) else (q : Int)) = (e : Int) := by split <;> omega
  have hmin2 : (if t.size < q then (t.size : Int) else (q : Int)) = (e : Int) := by split <;> omega
  have hpe : p ≤ e := by omega
  have het : e ≤ t.size := by omega
  obtain ⟨y, hy⟩ : ∃ y, t.extract p e = y := ⟨_, rfl⟩
  have hys : y.size + 1 ≤ 9223372036854775807 := by rw [← hy, ByteArray.size_extract]; omega
  rw [hy] at hz
  have hys1 : (y.size + 1 ≤ 9223372036854775807) = True := eq_true hys
  have hys2 : (9223372036854775807 < y.size + 1) = False := eq_false (by omega)
  have n1 : (0 ≤ (p : Int)) = True := eq_true (by omega)
  have n2 : ((p : Int) ≤ (e : Int)) = True := eq_true (by omega)
  have n3 : ((e : Int) ≤ (t.size : Int)) = True := eq_true (by omega)
  have n4 : ((e : Int) < (p : Int)) = False := eq_false (by omega)
  have n5 : ((t.size : Int) < (e : Int)) = False := eq_false (by omega)
  have n6 : ((p : Int) < 0) = False := eq_false (by omega)
  have n7 : ((e : Int) < 0) = False := eq_false (by omega)
  clear HL hB hR hq he hp hys
  refine take_ (i := 0) (N := some 17) (v := ?_) (a' := ?_) #[true, false, false, false, false, false, false, false, false, false, false, false, false, false, false] rfl rfl (take_ofW HT_.out HW_.out (by kernel_rfl)) (fun c a w h => hQ0 c (a.put _ _) a w rfl h) (Or.inl ⟨by rfl, ?_⟩) hHeld ?_ ?_
  rotate_left
  · rintro w' ⟨s0, s1, s2, s3, s4, s5, s6, s7, s8, s9⟩
    go_simp
    with_reducible rfl
  rotate_left
  · simp only [Act.put, List.setIfInBounds_toArray, List.set_cons_zero, List.set_cons_succ, i64_w, i32_w]
    rfl
  refine take_ (i := 12) (N := some 29) (v := ?_) (a' := ?_) #[true, false, false, false, false, false, false, false, false, false, false, false, true, false, false] rfl rfl (take_ofW HT_.out HW_.out (by kernel_rfl)) (fun c a w h => hQ0 c (a.put _ _) a w rfl h) (Or.inl ⟨by rfl, ?_⟩) hHeld ?_ ?_
  rotate_left
  · rintro w' ⟨s0, s1, s2, s3, s4, s5, s6, s7, s8, s9⟩
    go_simp
    with_reducible rfl
  rotate_left
  · simp only [Act.put, List.setIfInBounds_toArray, List.set_cons_zero, List.set_cons_succ, i64_w, i32_w]
    rfl
  refine pure_ (i := 1) (N := some 18) (v := ?_) (a' := ?_) #[true, true, false, false, false, false, false, false, false, false, false, false, true, false, false] rfl rfl (any_of HT_.out (by kernel_rfl)) (fun c a w h => hQ0 c (a.put _ _) a w rfl h) (Or.inl ⟨by rfl, ?_⟩) ?_ ?_
  rotate_left
  · intro w'
    go_simp
    with_reducible rfl
  rotate_left
  · simp only [Act.put, List.setIfInBounds_toArray, List.set_cons_zero, List.set_cons_succ, i64_w, i32_w]
    rfl
  refine pure_ (i := 2) (N := some 19) (v := ?_) (a' := ?_) #[true, true, true, false, false, false, false, false, false, false, false, false, true, false, false] rfl rfl (any_of HT_.out (by kernel_rfl)) (fun c a w h => hQ0 c (a.put _ _) a w rfl h) (Or.inl ⟨by rfl, ?_⟩) ?_ ?_
  rotate_left
  · intro w'
    go_simp
    with_reducible rfl
  rotate_left
  · simp only [Act.put, List.setIfInBounds_toArray, List.set_cons_zero, List.set_cons_succ, i64_w, i32_w]
    rfl
  refine pure_ (i := 3) (N := some 20) (v := ?_) (a' := ?_) #[true, true, true, true, false, false, false, false, false, false, false, false, true, false, false] rfl rfl (any_of HT_.out (by kernel_rfl)) (fun c a w h => hQ0 c (a.put _ _) a w rfl h) (Or.inl ⟨by rfl, ?_⟩) ?_ ?_
  rotate_left
  · intro w'
    go_simp
    with_reducible rfl
  rotate_left
  · simp only [Act.put, List.setIfInBounds_toArray, List.set_cons_zero, List.set_cons_succ, i64_w, i32_w]
    rfl
  refine pure_ (i := 4) (N := some 21) (v := ?_) (a' := ?_) #[true, true, true, true, true, false, false, false, false, false, false, false, true, false, false] rfl rfl (any_of HT_.out (by kernel_rfl)) (fun c a w h => hQ0 c (a.put _ _) a w rfl h) (Or.inl ⟨by rfl, ?_⟩) ?_ ?_
  rotate_left
  · intro w'
    go_simp
    with_reducible rfl
  rotate_left
  · simp only [Act.put, List.setIfInBounds_toArray, List.set_cons_zero, List.set_cons_succ, i64_w, i32_w]
    rfl
  refine pure_ (i := 5) (N := some 22) (v := ?_) (a' := ?_) #[true, true, true, true, true, true, false, false, false, false, false, false, true, false, false] rfl rfl (any_of HT_.out (by kernel_rfl)) (fun c a w h => hQ0 c (a.put _ _) a w rfl h) (Or.inl ⟨by rfl, ?_⟩) ?_ ?_
  rotate_left
  · intro w'
    go_simp
    with_reducible rfl
  rotate_left
  · simp only [Act.put, List.setIfInBounds_toArray, List.set_cons_zero, List.set_cons_succ, i64_w, i32_w]
    rfl
  refine pure_ (i := 6) (N := some 23) (v := ?_) (a' := ?_) #[true, true, true, true, true, true, true, false, false, false, false, false, true, false, false] rfl rfl (any_of HT_.out (by kernel_rfl)) (fun c a w h => hQ0 c (a.put _ _) a w rfl h) (Or.inl ⟨by rfl, ?_⟩) ?_ ?_
  rotate_left
  · intro w'
    go_simp
    with_reducible rfl
  rotate_left
  · simp only [Act.put, List.setIfInBounds_toArray, List.set_cons_zero, List.set_cons_succ, i64_w, i32_w]
    rfl
  refine pure_ (i := 7) (N := some 24) (v := ?_) (a' := ?_) #[true, true, true, true, true, true, true, true, false, false, false, false, true, false, false] rfl rfl (any_of HT_.out (by kernel_rfl)) (fun c a w h => hQ0 c (a.put _ _) a w rfl h) (Or.inl ⟨by rfl, ?_⟩) ?_ ?_
  rotate_left
  · intro w'
    go_simp
    with_reducible rfl
  rotate_left
  · simp only [Act.put, List.setIfInBounds_toArray, List.set_cons_zero, List.set_cons_succ, i64_w, i32_w]
    rfl
  refine pure_ (i := 8) (N := some 25) (v := ?_) (a' := ?_) #[true, true, true, true, true, true, true, true, true, false, false, false, true, false, false] rfl rfl (any_of HT_.out (by kernel_rfl)) (fun c a w h => hQ0 c (a.put _ _) a w rfl h) (Or.inl ⟨by rfl, ?_⟩) ?_ ?_
  rotate_left
  · intro w'
    go_simp
    with_reducible rfl
  rotate_left
  · simp only [Act.put, List.setIfInBounds_toArray, List.set_cons_zero, List.set_cons_succ, i64_w, i32_w]
    rfl
  refine pure_ (i := 9) (N := some 26) (v := ?_) (a' := ?_) #[true, true, true, true, true, true, true, true, true, true, false, false, true, false, false] rfl rfl (any_of HT_.out (by kernel_rfl)) (fun c a w h => hQ0 c (a.put _ _) a w rfl h) (Or.inl ⟨by rfl, ?_⟩) ?_ ?_
  rotate_left
  · intro w'
    go_simp
    with_reducible rfl
  rotate_left
  · simp only [Act.put, List.setIfInBounds_toArray, List.set_cons_zero, List.set_cons_succ, i64_w, i32_w]
    rfl
  refine one_ (i := 10) (N := some 27) #[true, true, true, true, true, true, true, true, true, true, true, false, true, false, false] rfl rfl (one_of HT_.out (by kernel_rfl)) (by decide) (fun K hK => ?_)
  refine goes_ Try.func87 (by kernel_rfl) rfl #[.string z] (by rfl) rfl rfl (by (try simp only [List.map_toArray, List.map_cons, List.map_nil]); first | done | rfl) ?_
  with_reducible refine (C1 _).mono ?_
  rintro e10 w10 ⟨rfl, hb⟩
  refine ⟨_, rfl, ?_⟩
  have n0_ := Aside0.mk (HBk.out.below hb)
  have n1_ := Aside0.mk (HRk.out.below hb)
  have n2_ := Aside0.mk (below_step HL1.out hb)
  clear HBk HRk HL1 hb
  have HBk := n0_
  have HRk := n1_
  have HL1 := n2_
  clear n0_ n1_ n2_
  refine hK.out _ _ ⟨(Blk.five HBk.out).1.1, (Blk.five HBk.out).2.1.1, (Blk.five HBk.out).2.2.1.1, (Blk.five HBk.out).2.2.2.1.1, (Blk.five HBk.out).2.2.2.2.1, (Blk.five HRk.out).1.1, (Blk.five HRk.out).2.1.1, (Blk.five HRk.out).2.2.1.1, (Blk.five HRk.out).2.2.2.1.1, (Blk.five HRk.out).2.2.2.2.1⟩ (fun hHeld => ?_)
  clear hK K
  refine norm_ (a' := ?_) ?_ ?_
  rotate_left
  · show Act.put _ (some 27) _ = _
    simp only [Act.put, List.setIfInBounds_toArray, List.set_cons_zero, List.set_cons_succ, i64_w, i32_w]
    rfl
  refine one_ (i := 11) (N := some 28) #[true, true, true, true, true, true, true, true, true, true, true, true, true, false, false] rfl rfl (one_of HT_.out (by kernel_rfl)) (by decide) (fun K hK => ?_)
  refine goes_ Try.func89 (by kernel_rfl) rfl #[.agg #[.int .u64 h0, .int .u64 h1, .int .u64 h2, .int .u64 h3, .int .u64 h4], .agg (wds .u64 m)] (by rfl) rfl rfl (by (try simp only [List.map_toArray, List.map_cons, List.map_nil]); first | done | rfl) ?_
  with_reducible refine (C2 _).mono ?_
  rintro e11 w11 ⟨rfl, hb⟩
  refine ⟨_, rfl, ?_⟩
  have n0_ := Aside0.mk (HBk.out.below hb)
  have n1_ := Aside0.mk (HRk.out.below hb)
  have n2_ := Aside0.mk (below_step HL1.out hb)
  clear HBk HRk HL1 hb
  have HBk := n0_
  have HRk := n1_
  have HL1 := n2_
  clear n0_ n1_ n2_
  refine hK.out _ _ ⟨(Blk.five HBk.out).1.1, (Blk.five HBk.out).2.1.1, (Blk.five HBk.out).2.2.1.1, (Blk.five HBk.out).2.2.2.1.1, (Blk.five HBk.out).2.2.2.2.1, (Blk.five HRk.out).1.1, (Blk.five HRk.out).2.1.1, (Blk.five HRk.out).2.2.1.1, (Blk.five HRk.out).2.2.2.1.1, (Blk.five HRk.out).2.2.2.2.1⟩ (fun hHeld => ?_)
  clear hK K
  refine norm_ (a' := ?_) ?_ ?_
  rotate_left
  · show Act.put _ (some 28) _ = _
    simp only [Act.put, List.setIfInBounds_toArray, List.set_cons_zero, List.set_cons_succ, i64_w, i32_w]
    rfl
  refine one_ (i := 13) (N := some 30) #[true, true, true, true, true, true, true, true, true, true, true, true, true, true, false] rfl rfl (one_of HT_.out (by kernel_rfl)) (by decide) (fun K hK => ?_)
  refine goes_ Try.func90 (by kernel_rfl) rfl #[.agg (wds .u64 s), .agg #[.int .u64 r0, .int .u64 r1, .int .u64 r2, .int .u64 r3, .int .u64 r4]] (by rfl) rfl rfl (by (try simp only [List.map_toArray, List.map_cons, List.map_nil]); first | done | rfl) ?_
  with_reducible refine (C3 _).mono ?_
  rintro e13 w13 ⟨rfl, hb⟩
  refine ⟨_, rfl, ?_⟩
  have n0_ := Aside0.mk (HBk.out.below hb)
  have n1_ := Aside0.mk (HRk.out.below hb)
  have n2_ := Aside0.mk (below_step HL1.out hb)
  clear HBk HRk HL1 hb
  have HBk := n0_
  have HRk := n1_
  have HL1 := n2_
  clear n0_ n1_ n2_
  refine hK.out _ _ ⟨(Blk.five HBk.out).1.1, (Blk.five HBk.out).2.1.1, (Blk.five HBk.out).2.2.1.1, (Blk.five HBk.out).2.2.2.1.1, (Blk.five HBk.out).2.2.2.2.1, (Blk.five HRk.out).1.1, (Blk.five HRk.out).2.1.1, (Blk.five HRk.out).2.2.1.1, (Blk.five HRk.out).2.2.2.1.1, (Blk.five HRk.out).2.2.2.2.1⟩ (fun hHeld => ?_)
  clear hK K
  refine norm_ (a' := ?_) ?_ ?_
  rotate_left
  · show Act.put _ (some 30) _ = _
    simp only [Act.put, List.setIfInBounds_toArray, List.set_cons_zero, List.set_cons_succ, i64_w, i32_w]
    rfl
  clear C1 C2 C3 hwq hmin hmin2 n1 n2 n3 n4 n5 n6 n7 hys1 hys2 hy hz
  obtain ⟨c0, c1, c2, c3, c4⟩ := HBk.out.five
  refine last_ (i := 14) (N := none) #[true, true, true, true, true, true, true, true, true, true, true, true, true, true, true] rfl rfl (one_of HT_.out (by kernel_rfl)) (by decide) (fun K hK => ?_)
  refine skip_ (w1 := ?_) (by rfl) rfl ?_ ?_
  rotate_left
  · go_simp
    rfl
  refine hK.out _ _ ?_
  clear hK K c0 c1 c2 c3 c4
  have HX := Aside0.mk (((((((HBk.out.wset 0 x0).wset 1 x1).wset 2 x2).wset 3 x3).wset 4 x4)).eq (show _ = wds .u64 [x0, x1, x2, x3, x4] from rfl))
  have HY := Aside0.mk (((((HRk.out.other ⟨g, 0, none⟩ hne (.int .u64 x0)).other ⟨g, 1, none⟩ hne (.int .u64 x1)).other ⟨g, 2, none⟩ hne (.int .u64 x2)).other ⟨g, 3, none⟩ hne (.int .u64 x3)).other ⟨g, 4, none⟩ hne (.int .u64 x4))
  have HW := Aside0.mk ((((((HL1.out.mono (Nat.le_trans hg0 (Nat.le_of_lt HLT.out))).setCell (p := ⟨g, 0, none⟩) hg0 (.int .u64 x0)).setCell (p := ⟨g, 1, none⟩) hg0 (.int .u64 x1)).setCell (p := ⟨g, 2, none⟩) hg0 (.int .u64 x2)).setCell (p := ⟨g, 3, none⟩) hg0 (.int .u64 x3)).setCell (p := ⟨g, 4, none⟩) hg0 (.int .u64 x4))
  refine done_ (done_of HT_.out (by kernel_rfl)) ?_
  exact h _ _ _ _ _ _ _ _ _ _ _ _ _ _ _ HX.out HY.out HW.out

end Go.Proofs.Ytihpnededldedaa.Leaf
