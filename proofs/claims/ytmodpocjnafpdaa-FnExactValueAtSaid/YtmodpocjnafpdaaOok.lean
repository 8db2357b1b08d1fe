/-
  The program's OramOK: what it answers, in plain words. Conditions: a stash that memory bears.
-/
import Derived.Test.YtmodpocjnafpdaaOAll
import Derived.Test.YtmodpocjnafpdaaOPth
import Derived.Test.YtmodpocjnafpdaaArr
import Derived.Test.YtmodpocjnafpdaaOraP
import Derived.Test.YtmodpocjnafpdaaPOrax15
namespace Go.Proofs.Ytmodpocjnafpdaa.Leaf
open Go.RowKit Go.Shelf Go.Proofs.YtmodpocjnafpdaaW.PrintWords Go.Proofs.YtmodpocjnafpdaaW.PrintLast Go.Proofs.YtmodpocjnafpdaaW.PrintMore Go.Proofs.Ytmodpocjnafpdaa.POra

/-- A block of numbers that may be. -/
def isBlk (b : S61) : Bool := (decide (0 ≤ b.f0) && decide (b.f0 ≤ 11)) && (inLeaves b.f1 && (decide (0 ≤ b.f2) && decide (b.f2 ≤ 999999)))
/-- The blocks are right, one after the other: each has its leaf, none was met before. -/
def scanI (p : List Int) : List Int → List S61 → Bool
  | _, [] => true
  | seen, b :: bs => isBlk b && (b.f1 == p.getD b.f0.toNat 0 && (!seen.contains b.f0 && scanI p (b.f0 :: seen) bs))
def rowOK (i : Nat) (r : List S61) : Bool := decide (r.length ≤ 2) && r.all (placed (i : Int))
def rowsFrom (bu : List (List S61)) (i : Nat) : Bool := (List.range' i (bu.length - i)).all fun j => rowOK j (bu.getD j [])
def okI (p : List Int) (st : List S61) (bu : List (List S61)) : Bool :=
  decide (p.length = 12) && (p.all inLeaves && (decide (bu.length = 15) && (rowsFrom bu 0 && scanI p [] (st ++ bu.flatten))))

set_option maxRecDepth 100000 in
set_option maxHeartbeats 4000000 in
theorem ok_front (x : Six) (p : List Int) (st : List S61) (bu : List (List S61)) (w : World) (h0 : Orm w x p st bu) (hn : (p.length = 12 ∧ p.all inLeaves = true ∧ bu.length = 15) → False) :
    Calls Try.prog 28 #[.agg #[.slice x.A0 p.length x.c0, .slice x.A1 st.length x.c1, .slice x.A2 bu.length x.c2]] w fun e w' => e = .returned (.bool false) ∧ Below w.heap.size w w' := by
  have h := Aside0.mk h0
  clear h0
  by_cases k0 : p.length = 12
  · have t0 : ((p.length : Int) != 12) = false := by simp; omega
    have t0b : decide ((p.length : Int) = 12) = true := decide_eq_true (by omega)
    have t0c : decide (p.length = 12) = true := decide_eq_true k0
    have K0 := Lib.hid k0
    clear k0
    obtain ⟨q, hq⟩ : ∃ q, p.all inLeaves = q := ⟨_, rfl⟩
    have HL := Aside0.mk (show areAll_isLeaf.f p = some q by unfold areAll_isLeaf.f; rw [hq])
    rw [hq] at hn
    clear hq
    cases q with
    | false =>
      clear hn
      go_enter Try.func28, Try.ntmps28
      go_upto_region 1 with (first
        | ((with_reducible refine gate_dst (N := 1) rfl ?_); refine box_event ?hg (N := 1) ?hd (cs := #[.slice x.A0 p.length x.c0, .slice x.A1 st.length x.c1, .slice x.A2 bu.length x.c2]) (t := 40) ?hr ?_; (case hd => rfl); (case hg => rfl); (case hr => first | (go_simp; done) | (go_simp; rfl)); intro g0 hg0 w1 hbox0 hb; have H1 := Aside0.mk (h.out.below hb); have HB1 := Aside0.mk hb; have BX := Aside0.mk (show Box3 w1 g0 40 x p.length st.length bu.length from hbox0); clear hb h hbox0 hg0))
      obtain ⟨a0, a1, a2⟩ := BX.out.cells
      go_wp2_with (first
        | (go_at_call 60; (with_reducible refine (areAll_isLeaf.calls x.A0 x.c0 p false _ H1.out.h0 H1.out.l0 HL.out).mono ?_); rintro e w2 ⟨rfl, hb⟩; have HB2 := Aside0.mk (HB1.out.trans (hb.mono HB1.out.size)); have BX2 := Aside0.mk (BX.out.below hb); obtain ⟨a0, a1, a2⟩ := BX2.out.cells; clear hb HB1 BX H1))
      go_ret
      exact ⟨rfl, HB2.out⟩
    | true =>
      have t1 : ((bu.length : Int) != 15) = true := by simp; intro e; exact hn ⟨K0.out, rfl, by omega⟩
      have t1b : decide ((bu.length : Int) = 15) = false := decide_eq_false (fun e => hn ⟨K0.out, rfl, by omega⟩)
      have t1c : decide (bu.length = 15) = false := decide_eq_false (fun e => hn ⟨K0.out, rfl, e⟩)
      clear hn
      go_enter Try.func28, Try.ntmps28
      go_upto_region 1 with (first
        | ((with_reducible refine gate_dst (N := 1) rfl ?_); refine box_event ?hg (N := 1) ?hd (cs := #[.slice x.A0 p.length x.c0, .slice x.A1 st.length x.c1, .slice x.A2 bu.length x.c2]) (t := 40) ?hr ?_; (case hd => rfl); (case hg => rfl); (case hr => first | (go_simp; done) | (go_simp; rfl)); intro g0 hg0 w1 hbox0 hb; have H1 := Aside0.mk (h.out.below hb); have HB1 := Aside0.mk hb; have BX := Aside0.mk (show Box3 w1 g0 40 x p.length st.length bu.length from hbox0); clear hb h hbox0 hg0))
      obtain ⟨a0, a1, a2⟩ := BX.out.cells
      go_wp2_with (first
        | (go_at_call 60; (with_reducible refine (areAll_isLeaf.calls x.A0 x.c0 p true _ H1.out.h0 H1.out.l0 HL.out).mono ?_); rintro e w2 ⟨rfl, hb⟩; have HB2 := Aside0.mk (HB1.out.trans (hb.mono HB1.out.size)); have BX2 := Aside0.mk (BX.out.below hb); obtain ⟨a0, a1, a2⟩ := BX2.out.cells; clear hb HB1 BX H1))
      go_ret
      exact ⟨rfl, HB2.out⟩
  · have t0 : ((p.length : Int) != 12) = true := by simp; omega
    have t0b : decide ((p.length : Int) = 12) = false := decide_eq_false (by omega)
    have t0c : decide (p.length = 12) = false := decide_eq_false k0
    clear hn k0
    go_enter Try.func28, Try.ntmps28
    go_upto_region 1 with (first
      | ((with_reducible refine gate_dst (N := 1) rfl ?_); refine box_event ?hg (N := 1) ?hd (cs := #[.slice x.A0 p.length x.c0, .slice x.A1 st.length x.c1, .slice x.A2 bu.length x.c2]) (t := 40) ?hr ?_; (case hd => rfl); (case hg => rfl); (case hr => first | (go_simp; done) | (go_simp; rfl)); intro g0 hg0 w1 hbox0 hb; have H1 := Aside0.mk (h.out.below hb); have HB1 := Aside0.mk hb; have BX := Aside0.mk (show Box3 w1 g0 40 x p.length st.length bu.length from hbox0); clear hb h hbox0 hg0))
    obtain ⟨a0, a1, a2⟩ := BX.out.cells
    go_wp2
    go_ret
    exact ⟨rfl, HB1.out⟩

/-- What holds throughout. -/
structure OkS (w W : World) (g : Nat) (x : Six) (p : List Int) (st : List S61) (bu : List (List S61)) : Prop where
  H : Orm W x p st bu
  X : Box3 W g 40 x p.length st.length bu.length
  bel : Below w.heap.size w W
theorem OkS.below {w W W' : World} {g : Nat} {x : Six} {p : List Int} {st : List S61} {bu : List (List S61)} (h : OkS w W g x p st bu) (hb : Below W.heap.size W W') : OkS w W' g x p st bu :=
  ⟨h.H.below hb, h.X.below hb, h.bel.trans (hb.mono h.bel.size)⟩
theorem rowsFrom_step (bu : List (List S61)) (i : Nat) (h : i < bu.length) : rowsFrom bu i = (rowOK i bu[i] && rowsFrom bu (i + 1)) := by
  unfold rowsFrom
  rw [range_all_from _ i bu.length h]
  rw [getD_in bu i [] h]
theorem rowsFrom_end (bu : List (List S61)) : rowsFrom bu bu.length = true := by unfold rowsFrom; rw [Nat.sub_self]; rfl
theorem Boxed_new (W : World) (i : Nat) : (W.alloc (.cells #[.int .i64 (i : Int)] 3)).cell? ⟨W.heap.size, 0, none⟩ = some (.int .i64 (i : Int)) := by simp [World.cell?_alloc_at]
theorem flat_two {α : Type} (l : List (List α)) (h : ∀ x ∈ l, x.length ≤ 2) : l.flatten.length ≤ 2 * l.length := by
  induction l with
  | nil => simp
  | cons x xs ih =>
    have h1 := h x (by simp)
    have h2 := ih (fun y hy => h y (by simp [hy]))
    rw [List.flatten_cons, List.length_append, List.length_cons]; omega
theorem rows_flat (bu : List (List S61)) (h : rowsFrom bu 0 = true) : bu.flatten.length ≤ 2 * bu.length := by
  refine flat_two bu (fun x hx => ?_)
  obtain ⟨i, hi, rfl⟩ := List.mem_iff_getElem.1 hx
  unfold rowsFrom at h
  rw [List.all_eq_true] at h
  have h1 := h i (by rw [List.mem_range'_1]; omega)
  rw [getD_in bu i [] hi] at h1
  unfold rowOK at h1
  simp only [Bool.and_eq_true, decide_eq_true_eq] at h1
  exact h1.1
/-- The array seen, when these have been met. -/
def seenA (ids : List Int) : Array Value := ((List.range 12).map fun (j : Nat) => Value.bool (ids.contains (j : Int))).toArray
theorem blk_KK (w w' : World) (x : S61) (cs : List Value) (h : k61.K w x cs) : k61.K w' x cs := by
  obtain rfl := k61_open h
  exact k61_mk w' x
theorem seenA_get (ids : List Int) (i : Nat) (h : i < 12) : (seenA ids)[i]? = some (.bool (ids.contains (i : Int))) := by
  unfold seenA
  rw [List.getElem?_toArray, List.getElem?_map, List.getElem?_range h]; rfl
theorem seenA_set (ids : List Int) (i : Nat) : (seenA ids).setIfInBounds i (.bool true) = seenA ((i : Int) :: ids) := by
  apply Array.ext'
  unfold seenA
  rw [Array.toList_setIfInBounds]
  apply List.ext_getElem
  · simp
  · intro j h1 h2
    simp only [List.getElem_set, List.getElem_map, List.getElem_range, List.contains_cons]
    by_cases e : i = j
    · subst e; simp
    · have : ((j : Int) == (i : Int)) = false := by simp; omega
      rw [if_neg e, this, Bool.false_or]
theorem cell_below {W W' : World} {a : Addr} {v : Value} (h : W.cell? a = some v) (hb : Below W.heap.size W W') : W'.cell? a = some v := (hb.cell (World.block_lt_of_cell? W _ h)).trans h
theorem three_below {W W' : World} {a b c : Addr} {u v t : Value} (h : W.cell? a = some u ∧ W.cell? b = some v ∧ W.cell? c = some t) (hb : Below W.heap.size W W') : W'.cell? a = some u ∧ W'.cell? b = some v ∧ W'.cell? c = some t :=
  ⟨cell_below h.1 hb, cell_below h.2.1 hb, cell_below h.2.2 hb⟩
theorem six_below {W W' : World} {a b c d e f : Addr} {u v t x y z : Value} (h : W.cell? a = some u ∧ W.cell? b = some v ∧ W.cell? c = some t ∧ W.cell? d = some x ∧ W.cell? e = some y ∧ W.cell? f = some z) (hb : Below W.heap.size W W') :
    W'.cell? a = some u ∧ W'.cell? b = some v ∧ W'.cell? c = some t ∧ W'.cell? d = some x ∧ W'.cell? e = some y ∧ W'.cell? f = some z :=
  ⟨cell_below h.1 hb, cell_below h.2.1 hb, cell_below h.2.2.1 hb, cell_below h.2.2.2.1 hb, cell_below h.2.2.2.2.1 hb, cell_below h.2.2.2.2.2 hb⟩
theorem isBlk_eq (b : S61) : impl_isBlock.f b.f0 b.f1 b.f2 = some (isBlk b) := by
  have hw : ∀ a h : Int, impl_within.f a 0 h = some (decide (0 ≤ a) && decide (a ≤ h)) := fun a h => by
    unfold impl_within.f
    by_cases g : 0 ≤ a
    · rw [if_pos g, decide_eq_true g]; rfl
    · rw [if_neg g, decide_eq_false g]; rfl
  unfold impl_isBlock.f impl_isId.f impl_isLeaf.f impl_isValue.f isBlk inLeaves
  simp only [hw, Option.bind_some]
  cases decide (0 ≤ b.f0) && decide (b.f0 ≤ 11) <;> cases decide (0 ≤ b.f1) && decide (b.f1 ≤ 7) <;> rfl
theorem blk_three (W : World) (t : TypeId) (u v x : Value) : (W.alloc (.cells #[u, v, x] t)).drew.cell? ⟨W.heap.size, 0, none⟩ = some u ∧ (W.alloc (.cells #[u, v, x] t)).drew.cell? ⟨W.heap.size, 1, none⟩ = some v ∧ (W.alloc (.cells #[u, v, x] t)).drew.cell? ⟨W.heap.size, 2, none⟩ = some x := by
  have h := heap_alloc_new W (.cells #[u, v, x] t)
  refine ⟨?_, ?_, ?_⟩
  · show (W.alloc (.cells #[u, v, x] t)).cell? _ = _
    unfold World.cell?
    rw [h]; rfl
  · show (W.alloc (.cells #[u, v, x] t)).cell? _ = _
    unfold World.cell?
    rw [h]; rfl
  · show (W.alloc (.cells #[u, v, x] t)).cell? _ = _
    unfold World.cell?
    rw [h]; rfl
theorem bel_step2 {A B C : World} (h : Below A.heap.size A B) (hb : Below B.heap.size B C) : Below A.heap.size A C := h.trans (hb.mono h.size)
theorem enters_lit : ∀ args w, (callFunc 62 args).run Try.prog w = .ok (.enter 62 args) w := enters_of Try.func62 (by kernel_rfl) rfl

set_option maxRecDepth 100000 in
set_option maxHeartbeats 8000000 in
theorem ok_main (x : Six) (p : List Int) (st : List S61) (bu : List (List S61)) (w : World) (h0 : Orm w x p st bu) (hs0 : st.length ≤ 1048576) (k0 : p.length = 12) (k1 : p.all inLeaves = true) (k2 : bu.length = 15) :
    Calls Try.prog 28 #[.agg #[.slice x.A0 p.length x.c0, .slice x.A1 st.length x.c1, .slice x.A2 bu.length x.c2]] w fun e w' => e = .returned (.bool (rowsFrom bu 0 && scanI p [] (st ++ bu.flatten))) ∧ Below w.heap.size w w' := by
  obtain ⟨X0, C0, X1, C1, X2, C2⟩ := x
  dsimp only
  have h := Aside0.mk h0
  have HS := Aside0.mk hs0
  have t0 : ((p.length : Int) != 12) = false := by simp; omega
  have t0b : decide ((p.length : Int) = 12) = true := decide_eq_true (by omega)
  have t0c : decide (p.length = 12) = true := decide_eq_true k0
  have t1 : ((bu.length : Int) != 15) = false := by simp; omega
  have t1b : decide ((bu.length : Int) = 15) = true := decide_eq_true (by omega)
  have t1c : decide (bu.length = 15) = true := decide_eq_true k2
  have K0 := Lib.hid k0
  have K2 := Lib.hid k2
  have HL := Aside0.mk (show areAll_isLeaf.f p = some true by unfold areAll_isLeaf.f; rw [k1])
  clear h0 hs0 k0 k2
  obtain ⟨v, hv⟩ : ∃ v, rowsFrom bu 0 = v := ⟨_, rfl⟩
  obtain ⟨r, hr⟩ : ∃ r, (v && scanI p [] (st ++ bu.flatten)) = r := ⟨_, rfl⟩
  rw [hv, hr]
  have HV := Lib.hid hv
  have HR := Lib.hid hr
  clear hv hr
  go_enter Try.func28, Try.ntmps28
  go_upto_region 1 with (first
    | ((with_reducible refine gate_dst (N := 1) rfl ?_); refine box_event ?hg (N := 1) ?hd (cs := #[.slice X0 p.length C0, .slice X1 st.length C1, .slice X2 bu.length C2]) (t := 40) ?hr ?_; (case hd => rfl); (case hg => rfl); (case hr => first | (go_simp; done) | (go_simp; rfl)); intro g0 hg0 w1 hbox0 hb; have S1 := Aside0.mk (OkS.mk (h.out.below hb) (show Box3 w1 g0 40 ⟨X0, C0, X1, C1, X2, C2⟩ p.length st.length bu.length from hbox0) hb); clear hb h hbox0 hg0))
  obtain ⟨a0, a1, a2⟩ := S1.out.X.cells
  dsimp only at a0 a1 a2
  go_wp2_with (first
    | (go_at_call 60; (with_reducible refine (areAll_isLeaf.calls X0 C0 p true _ S1.out.H.h0 S1.out.H.l0 HL.out).mono ?_); rintro e w2 ⟨rfl, hb⟩; have S2 := Aside0.mk (S1.out.below hb); clear a0 a1 a2; obtain ⟨a0, a1, a2⟩ := S2.out.X.cells; dsimp only at a0 a1 a2; clear hb S1))
  clear a0 a1 a2
  go_loopg [3, 4, 27] bu.length (fun gg _ _ s27 wr => ∃ i : Nat, s27 = .int .i64 (i : Int) ∧ i ≤ bu.length ∧ Aside0 (bu.length ≤ gg + i) ∧ Aside0 (OkS w wr g0 ⟨X0, C0, X1, C1, X2, C2⟩ p st bu) ∧ Aside0 (rowsFrom bu i = v))
  case atStart => exact ⟨0, rfl, by omega, ⟨by omega⟩, S2, ⟨HV.out⟩⟩
  case round =>
    obtain ⟨i, rfl, h1, hg, S3, HA⟩ := hrel
    by_cases hlt : i < bu.length
    · have c1 : decide (i < bu.length) = true := decide_eq_true hlt
      have hi15 : i ≤ 14 := by have := K2.out; omega
      obtain ⟨ad, A0, c0, e, hx, hl0, hC⟩ := at_L4 S3.out.H.h2 (i : Int) (by omega) (by omega)
      dsimp only at e
      subst e
      have hst := rowsFrom_step bu i hlt
      rw [HA.out] at hst
      rw [rows_at bu i hlt] at hx hC hl0
      rw [Int.toNat_natCast] at hx
      obtain ⟨row, hrow⟩ : ∃ row, bu[i] = row := ⟨_, rfl⟩
      rw [hrow] at hx hC hl0 hst
      clear hrow
      have HC := Aside0.mk hC
      have HT := Lib.hid hst
      clear hst hC
      have hbx := Boxed_new wr i
      have S4 := Aside0.mk (S3.out.below (below_alloc (Below.refl _ wr) (.cells #[.int .i64 (i : Int)] 3)))
      have HC4 := Aside0.mk (Kd.C_alloc HC.out (.cells #[.int .i64 (i : Int)] 3))
      by_cases hlen : row.length ≤ 2
      · have c2 : decide (2 < (row.length : Int)) = false := decide_eq_false (by omega)
        have c2b : decide (2 < row.length) = false := decide_eq_false (by omega)
        have hcall := areAllK 62 #[.pointer (some ⟨wr.heap.size, 0, none⟩)] (placed (i : Int)) enters_lit A0 c0 row _ HC4.out (placed_pred wr.heap.size (i : Int) (by omega) (by omega) _ hbx)
        obtain ⟨q, hq⟩ : ∃ q, row.all (placed (i : Int)) = q := ⟨_, rfl⟩
        rw [hq] at hcall
        have hro : rowOK i row = q := by unfold rowOK; rw [hq, decide_eq_true hlen, Bool.true_and]
        rw [hro] at HT
        clear hq hro hbx
        cases q with
        | false =>
          go_wp2_with (first
            | (go_at_call 61; (with_reducible refine hcall.mono ?_); rintro e w5 ⟨rfl, hb⟩; have S5 := Aside0.mk (S4.out.below hb); clear hb S4))
          go_ret
          exact ⟨by rw [← HR.out, HT.out]; rfl, S5.out.bel⟩
        | true =>
          go_wp2_with (first
            | (go_at_call 61; (with_reducible refine hcall.mono ?_); rintro e w5 ⟨rfl, hb⟩; have S5 := Aside0.mk (S4.out.below hb); clear hb S4))
          go_roundg (bu.length - (i + 1))
          case measure => have := hg.out; omega
          case rel => exact ⟨i + 1, by first | rfl | (rw [wrap_ok _ (by omega) (by omega)]; rfl), by omega, ⟨by omega⟩, S5, ⟨by have := HT.out; simpa using this.symm⟩⟩
      · have c2 : decide (2 < (row.length : Int)) = true := decide_eq_true (by omega)
        have c2b : decide (2 < row.length) = true := decide_eq_true (by omega)
        have hro : rowOK i row = false := by unfold rowOK; rw [decide_eq_false hlen]; rfl
        rw [hro] at HT
        clear hbx hro
        go_wp2
        go_ret
        exact ⟨by rw [← HR.out, HT.out]; rfl, S4.out.bel⟩
    · obtain rfl : i = bu.length := by omega
      have hv : v = true := by rw [← HA.out, rowsFrom_end]
      subst hv
      have hfl := rows_flat bu (by rw [HV.out])
      have HF := Aside0.mk hfl
      have HK := Aside0.mk (show bu.flatten.length ≤ 1048576 by have := K2.out; omega)
      clear hfl hg HA
      go_upto_region 10 with (fail)
      obtain ⟨W0, hW0⟩ : ∃ W0, W0 = wr := ⟨_, rfl⟩
      subst hW0
      have B4 := Aside0.mk (show Below W0.heap.size W0 (W0.alloc (.cells #[.bool false, .bool false, .bool false, .bool false, .bool false, .bool false, .bool false, .bool false, .bool false, .bool false, .bool false, .bool false] 72)) from below_alloc (Below.refl _ _) _)
      have BS4 := Aside0.mk (show Blk (W0.alloc (.cells #[.bool false, .bool false, .bool false, .bool false, .bool false, .bool false, .bool false, .bool false, .bool false, .bool false, .bool false, .bool false] 72)) W0.heap.size 72 (seenA []) from Blk.new W0 72 #[.bool false, .bool false, .bool false, .bool false, .bool false, .bool false, .bool false, .bool false, .bool false, .bool false, .bool false, .bool false])
      have L4 := Lib.hid (World.size_alloc W0 (.cells #[.bool false, .bool false, .bool false, .bool false, .bool false, .bool false, .bool false, .bool false, .bool false, .bool false, .bool false, .bool false] 72))
      generalize W0.alloc (.cells #[.bool false, .bool false, .bool false, .bool false, .bool false, .bool false, .bool false, .bool false, .bool false, .bool false, .bool false, .bool false] 72) = w4 at B4 BS4 L4 ⊢
      obtain ⟨a0, a1, a2⟩ := (S3.out.below B4.out).X.cells
      dsimp only at a0 a1 a2
      go_wp2_with (first
        | (go_at_call 63; (with_reducible refine (all_c ⟨X0, C0, X1, C1, X2, C2⟩ p st bu _ (S3.out.below B4.out).H HS.out HK.out).mono ?_); rintro e w5 ⟨A5, c5, rfl, hc, hd, hb⟩; generalize st ++ bu.flatten = xs at hc HR ⊢; have B5 := Aside0.mk (B4.out.trans (hb.mono B4.out.size)); have BS5 := Aside0.mk (BS4.out.below hb); have C5 := Aside0.mk hc; have FX := Aside0.mk (Kd.C_foot_ne (g := W0.heap.size) (fun h => blk_KK _ _ _ _ h) hc (fun ad e _ => by have := hd ad e; have := L4.out; omega)); clear hc hd hb a0 a1 a2 BS4 B4))
      obtain ⟨ad0, e0, _⟩ := Kd.at_int S3.out.H.h0 0 (by omega) (by have := K0.out; omega)
      dsimp only at e0
      subst e0
      have HXM := Kd.C_max C5.out
      go_loopg [7, 45] xs.length (fun gg _ s45 W => ∃ (j : Nat) (ids : List Int), s45 = .int .i64 (j : Int) ∧ j ≤ xs.length ∧ Aside0 (xs.length ≤ gg + j) ∧ Aside0 (Below W0.heap.size W0 W) ∧ Aside0 (KeepBut w5 W W0.heap.size none) ∧ Aside0 (Blk W W0.heap.size 72 (seenA ids)) ∧ Aside0 (scanI p ids (xs.drop j) = r))
      case atStart => exact ⟨0, [], rfl, by omega, ⟨by omega⟩, B5, ⟨KeepBut.refl _ _ _⟩, BS5, ⟨by have := HR.out; simpa using this⟩⟩
      case round =>
        obtain ⟨j, ids, rfl, h1, hg, HB, HK2, HS2, HA⟩ := hrel
        by_cases hlt : j < xs.length
        · have c1 : decide (j < xs.length) = true := decide_eq_true hlt
          obtain ⟨ad, e, hx0, hx1, hx2⟩ := at_T61 (FX.out wr HK2.out) (j : Int) (by omega) (by omega)
          subst e
          rw [Int.toNat_natCast] at hx0 hx1 hx2
          rw [rdI_nat, getD_in xs j _ hlt] at hx0 hx1 hx2
          have hA := HA.out
          rw [List.drop_eq_getElem_cons hlt] at hA
          obtain ⟨⟨b0, b1, b2⟩, hb⟩ : ∃ b, xs[j] = b := ⟨_, rfl⟩
          rw [hb] at hx0 hx1 hx2 hA
          clear hb
          dsimp only at hx0 hx1 hx2
          rw [scanI] at hA
          dsimp only at hA
          have HA2 := Lib.hid hA
          clear hA HA
          have P3 := blk_three wr 61 (.int .i64 b0) (.int .i64 b1) (.int .i64 b2)
          have b6 : Below wr.heap.size wr (wr.alloc (.cells #[.int .i64 b0, .int .i64 b1, .int .i64 b2] 61)).drew := below_drew (below_alloc (Below.refl _ _) _)
          have HB6 := Aside0.mk (bel_step2 HB.out b6)
          have HK6 := Aside0.mk (HK2.out.trans (KeepBut.of_below b6 _ none) (.inl rfl))
          have HS6 := Aside0.mk (HS2.out.below b6)
          have HC6 := Aside0.mk P3
          clear P3 b6
          cases hq : isBlk ⟨b0, b1, b2⟩ with
          | false =>
            have hcall : ∀ W, Calls Try.prog 64 #[.agg #[.int .i64 b0, .int .i64 b1, .int .i64 b2]] W fun e w' => e = .returned (.bool false) ∧ Below W.heap.size W w' := fun W => impl_isBlock.calls b0 b1 b2 false W (hq ▸ isBlk_eq ⟨b0, b1, b2⟩)
            rw [hq] at HA2
            go_upto_region 13 with (fail)
            refine start_ (n := 20) (S := (fun W => W.cell? ⟨wr.heap.size, 0, none⟩ = some (.int .i64 b0) ∧ W.cell? ⟨wr.heap.size, 1, none⟩ = some (.int .i64 b1) ∧ W.cell? ⟨wr.heap.size, 2, none⟩ = some (.int .i64 b2))) (ds := []) #[false, false, false, false, false, false, false, false, false, false, false, false, false, false, false, false, false, false, false, false] (by kernel_rfl) rfl rfl HC6.out (fun hHeld => ?_)
            generalize (wr.alloc (.cells #[.int .i64 b0, .int .i64 b1, .int .i64 b2] 61)).drew = w6 at HC6 HB6 HK6 HS6 hHeld ⊢
            refine take_ (i := 0) (N := some 49) (v := ?_) (a' := ?_) #[true, false, false, false, false, false, false, false, false, false, false, false, false, false, false, false, false, false, false, false] rfl rfl (by kernel_rfl) (fun _ _ _ h => h) (Or.inl ⟨by rfl, ?_⟩) hHeld ?_ ?_
            rotate_left
            · rintro w' ⟨s0, s1, s2⟩
              go_simp
              with_reducible rfl
            rotate_left
            · simp only [Act.put, List.setIfInBounds_toArray, List.set_cons_zero, List.set_cons_succ]
              rfl
            refine one_ (i := 1) (N := some 50) #[true, true, false, false, false, false, false, false, false, false, false, false, false, false, false, false, false, false, false, false] rfl rfl (by kernel_rfl) (by decide) (fun K hK => ?_)
            refine goes_ Try.func64 (by kernel_rfl) rfl #[.agg #[.int .i64 b0, .int .i64 b1, .int .i64 b2]] (by rfl) rfl rfl (by (try simp only [List.map_toArray, List.map_cons, List.map_nil]); first | done | rfl) ?_
            refine (hcall _).mono ?_
            rintro e w7 ⟨rfl, hb⟩
            refine ⟨_, rfl, ?_⟩
            have HC7 := Aside0.mk (three_below HC6.out hb)
            have HB7 := Aside0.mk (bel_step2 HB6.out hb)
            have HK7 := Aside0.mk (HK6.out.trans (KeepBut.of_below hb _ none) (.inl rfl))
            have HS7 := Aside0.mk (HS6.out.below hb)
            clear hb HC6 HB6 HK6 HS6
            refine hK.out _ _ HC7.out (fun hHeld => ?_)
            clear hK K
            refine norm_ (a' := ?_) ?_ ?_
            rotate_left
            · show Act.put _ (some 50) _ = _
              simp only [Act.put, List.setIfInBounds_toArray, List.set_cons_zero, List.set_cons_succ]
              rfl
            refine pure_ (i := 2) (N := some 51) (v := ?_) (a' := ?_) #[true, true, true, false, false, false, false, false, false, false, false, false, false, false, false, false, false, false, false, false] rfl rfl (by kernel_rfl) (fun _ _ _ h => h) (Or.inl ⟨by rfl, ?_⟩) ?_ ?_
            rotate_left
            · intro w'
              go_simp
              with_reducible rfl
            rotate_left
            · simp only [Act.put, List.setIfInBounds_toArray, List.set_cons_zero, List.set_cons_succ]
              rfl
            refine pure_ (i := 3) (N := some 52) (v := ?_) (a' := ?_) #[true, true, true, true, false, false, false, false, false, false, false, false, false, false, false, false, false, false, false, false] rfl rfl (by kernel_rfl) (fun _ _ _ h => h) (Or.inl ⟨by rfl, ?_⟩) ?_ ?_
            rotate_left
            · intro w'
              go_simp
              with_reducible rfl
            rotate_left
            · simp only [Act.put, List.setIfInBounds_toArray, List.set_cons_zero, List.set_cons_succ]
              rfl
            refine pure_ (i := 4) (N := some 53) (v := undef) (a' := ?_) #[true, true, true, true, true, false, false, false, false, false, false, false, false, false, false, false, false, false, false, false] rfl rfl (by kernel_rfl) (fun _ _ _ h => h) (Or.inr ⟨by rfl, rfl⟩) ?_ ?_
            rotate_left
            · simp only [Act.put, List.setIfInBounds_toArray, List.set_cons_zero, List.set_cons_succ]
              rfl
            refine pure_ (i := 5) (N := some 54) (v := undef) (a' := ?_) #[true, true, true, true, true, true, false, false, false, false, false, false, false, false, false, false, false, false, false, false] rfl rfl (by kernel_rfl) (fun _ _ _ h => h) (Or.inr ⟨by rfl, rfl⟩) ?_ ?_
            rotate_left
            · simp only [Act.put, List.setIfInBounds_toArray, List.set_cons_zero, List.set_cons_succ]
              rfl
            refine pure_ (i := 6) (N := some 55) (v := undef) (a' := ?_) #[true, true, true, true, true, true, true, false, false, false, false, false, false, false, false, false, false, false, false, false] rfl rfl (by kernel_rfl) (fun _ _ _ h => h) (Or.inr ⟨by rfl, rfl⟩) ?_ ?_
            rotate_left
            · simp only [Act.put, List.setIfInBounds_toArray, List.set_cons_zero, List.set_cons_succ]
              rfl
            refine pure_ (i := 7) (N := some 56) (v := undef) (a' := ?_) #[true, true, true, true, true, true, true, true, false, false, false, false, false, false, false, false, false, false, false, false] rfl rfl (by kernel_rfl) (fun _ _ _ h => h) (Or.inr ⟨by rfl, rfl⟩) ?_ ?_
            rotate_left
            · simp only [Act.put, List.setIfInBounds_toArray, List.set_cons_zero, List.set_cons_succ]
              rfl
            refine pure_ (i := 8) (N := some 57) (v := undef) (a' := ?_) #[true, true, true, true, true, true, true, true, true, false, false, false, false, false, false, false, false, false, false, false] rfl rfl (by kernel_rfl) (fun _ _ _ h => h) (Or.inr ⟨by rfl, rfl⟩) ?_ ?_
            rotate_left
            · simp only [Act.put, List.setIfInBounds_toArray, List.set_cons_zero, List.set_cons_succ]
              rfl
            refine pure_ (i := 9) (N := some 58) (v := undef) (a' := ?_) #[true, true, true, true, true, true, true, true, true, true, false, false, false, false, false, false, false, false, false, false] rfl rfl (by kernel_rfl) (fun _ _ _ h => h) (Or.inr ⟨by rfl, rfl⟩) ?_ ?_
            rotate_left
            · simp only [Act.put, List.setIfInBounds_toArray, List.set_cons_zero, List.set_cons_succ]
              rfl
            refine pure_ (i := 10) (N := some 59) (v := undef) (a' := ?_) #[true, true, true, true, true, true, true, true, true, true, true, false, false, false, false, false, false, false, false, false] rfl rfl (by kernel_rfl) (fun _ _ _ h => h) (Or.inr ⟨by rfl, rfl⟩) ?_ ?_
            rotate_left
            · simp only [Act.put, List.setIfInBounds_toArray, List.set_cons_zero, List.set_cons_succ]
              rfl
            refine pure_ (i := 11) (N := some 60) (v := undef) (a' := ?_) #[true, true, true, true, true, true, true, true, true, true, true, true, false, false, false, false, false, false, false, false] rfl rfl (by kernel_rfl) (fun _ _ _ h => h) (Or.inr ⟨by rfl, rfl⟩) ?_ ?_
            rotate_left
            · simp only [Act.put, List.setIfInBounds_toArray, List.set_cons_zero, List.set_cons_succ]
              rfl
            refine pure_ (i := 12) (N := some 61) (v := undef) (a' := ?_) #[true, true, true, true, true, true, true, true, true, true, true, true, true, false, false, false, false, false, false, false] rfl rfl (by kernel_rfl) (fun _ _ _ h => h) (Or.inr ⟨by rfl, rfl⟩) ?_ ?_
            rotate_left
            · simp only [Act.put, List.setIfInBounds_toArray, List.set_cons_zero, List.set_cons_succ]
              rfl
            refine pure_ (i := 13) (N := some 62) (v := ?_) (a' := ?_) #[true, true, true, true, true, true, true, true, true, true, true, true, true, true, false, false, false, false, false, false] rfl rfl (by kernel_rfl) (fun _ _ _ h => h) (Or.inl ⟨by rfl, ?_⟩) ?_ ?_
            rotate_left
            · intro w'
              go_simp
              with_reducible rfl
            rotate_left
            · simp only [Act.put, List.setIfInBounds_toArray, List.set_cons_zero, List.set_cons_succ]
              rfl
            refine pure_ (i := 14) (N := some 63) (v := ?_) (a' := ?_) #[true, true, true, true, true, true, true, true, true, true, true, true, true, true, true, false, false, false, false, false] rfl rfl (by kernel_rfl) (fun _ _ _ h => h) (Or.inl ⟨by rfl, ?_⟩) ?_ ?_
            rotate_left
            · intro w'
              go_simp
              with_reducible rfl
            rotate_left
            · simp only [Act.put, List.setIfInBounds_toArray, List.set_cons_zero, List.set_cons_succ]
              rfl
            refine pure_ (i := 15) (N := some 64) (v := undef) (a' := ?_) #[true, true, true, true, true, true, true, true, true, true, true, true, true, true, true, true, false, false, false, false] rfl rfl (by kernel_rfl) (fun _ _ _ h => h) (Or.inr ⟨by rfl, rfl⟩) ?_ ?_
            rotate_left
            · simp only [Act.put, List.setIfInBounds_toArray, List.set_cons_zero, List.set_cons_succ]
              rfl
            refine pure_ (i := 16) (N := some 65) (v := undef) (a' := ?_) #[true, true, true, true, true, true, true, true, true, true, true, true, true, true, true, true, true, false, false, false] rfl rfl (by kernel_rfl) (fun _ _ _ h => h) (Or.inr ⟨by rfl, rfl⟩) ?_ ?_
            rotate_left
            · simp only [Act.put, List.setIfInBounds_toArray, List.set_cons_zero, List.set_cons_succ]
              rfl
            refine pure_ (i := 17) (N := some 66) (v := undef) (a' := ?_) #[true, true, true, true, true, true, true, true, true, true, true, true, true, true, true, true, true, true, false, false] rfl rfl (by kernel_rfl) (fun _ _ _ h => h) (Or.inr ⟨by rfl, rfl⟩) ?_ ?_
            rotate_left
            · simp only [Act.put, List.setIfInBounds_toArray, List.set_cons_zero, List.set_cons_succ]
              rfl
            refine pure_ (i := 18) (N := some 67) (v := undef) (a' := ?_) #[true, true, true, true, true, true, true, true, true, true, true, true, true, true, true, true, true, true, true, false] rfl rfl (by kernel_rfl) (fun _ _ _ h => h) (Or.inr ⟨by rfl, rfl⟩) ?_ ?_
            rotate_left
            · simp only [Act.put, List.setIfInBounds_toArray, List.set_cons_zero, List.set_cons_succ]
              rfl
            refine pure_ (i := 19) (N := some 68) (v := ?_) (a' := ?_) #[true, true, true, true, true, true, true, true, true, true, true, true, true, true, true, true, true, true, true, true] rfl rfl (by kernel_rfl) (fun _ _ _ h => h) (Or.inl ⟨by rfl, ?_⟩) ?_ ?_
            rotate_left
            · intro w'
              go_simp
              with_reducible rfl
            rotate_left
            · simp only [Act.put, List.setIfInBounds_toArray, List.set_cons_zero, List.set_cons_succ]
              rfl
            refine done_ (by kernel_rfl) ?_
            go_wp2
            go_ret
            exact ⟨by have := HA2.out; simpa using this, (S3.out.below HB7.out).bel⟩
          | true =>
            have hcall : ∀ W, Calls Try.prog 64 #[.agg #[.int .i64 b0, .int .i64 b1, .int .i64 b2]] W fun e w' => e = .returned (.bool true) ∧ Below W.heap.size W w' := fun W => impl_isBlock.calls b0 b1 b2 true W (hq ▸ isBlk_eq ⟨b0, b1, b2⟩)
            have hq2 := hq
            unfold isBlk at hq2
            simp only [Bool.and_eq_true, decide_eq_true_eq] at hq2
            obtain ⟨⟨g1, g2⟩, _, _⟩ := hq2
            rw [hq, Bool.true_and] at HA2
            obtain ⟨m, rfl⟩ := Int.eq_ofNat_of_zero_le g1
            have g3 : m < 12 := by omega
            clear hq g1 g2
            obtain ⟨ad1, e1, hp⟩ := Kd.at_int (S3.out.below HB6.out).H.h0 (m : Int) (by omega) (by have := K0.out; omega)
            dsimp only at e1
            cases e1
            rw [Int.toNat_natCast, rd_nat] at hp
            rw [Int.toNat_natCast] at HA2
            obtain ⟨pl, hpl⟩ : ∃ pl, p.getD m 0 = pl := ⟨_, rfl⟩
            rw [hpl] at hp HA2
            clear hpl
            have HS6c := (HS6.out.at m _ (seenA_get ids m g3)).1
            have hX := (S3.out.below HB6.out).X.cells.1
            dsimp only at hX
            have HD6 := Aside0.mk (And.intro HC6.out.1 (And.intro HC6.out.2.1 (And.intro HC6.out.2.2 (And.intro hX (And.intro hp HS6c)))))
            obtain ⟨sn, hsn⟩ : ∃ sn, ids.contains (m : Int) = sn := ⟨_, rfl⟩
            rw [hsn] at HD6 HA2
            clear hsn hX hp HS6c HC6
            have p1 : ((0 : Int) ≤ (m : Int)) = True := eq_true (by omega)
            have p2 : ((m : Int) < (p.length : Int)) = True := eq_true (by have := K0.out; omega)
            have p3 : ((m : Int) < 12) = True := eq_true (by omega)
            have p4 : (m < p.length) = True := eq_true (by have := K0.out; omega)
            have p5 : (m < 12) = True := eq_true g3
            by_cases hpl2 : b1 = pl
            · subst hpl2
              rw [beq_self_eq_true, Bool.true_and] at HA2
              cases sn with
              | true =>
                go_upto_region 13 with (fail)
                refine start_ (n := 20) (S := (fun W => W.cell? ⟨wr.heap.size, 0, none⟩ = some (.int .i64 (m : Int)) ∧ W.cell? ⟨wr.heap.size, 1, none⟩ = some (.int .i64 b1) ∧ W.cell? ⟨wr.heap.size, 2, none⟩ = some (.int .i64 b2) ∧ W.cell? ⟨g0, 0, none⟩ = some (.slice (some ad0) p.length C0) ∧ W.cell? (ad0.add m) = some (.int .i64 b1) ∧ W.cell? ⟨W0.heap.size, m, none⟩ = some (.bool true))) (ds := []) #[false, false, false, false, false, false, false, false, false, false, false, false, false, false, false, false, false, false, false, false] (by kernel_rfl) rfl rfl HD6.out (fun hHeld => ?_)
                generalize (wr.alloc (.cells #[.int .i64 (m : Int), .int .i64 b1, .int .i64 b2] 61)).drew = w6 at HD6 HB6 HK6 HS6 hHeld ⊢
                refine take_ (i := 0) (N := some 49) (v := ?_) (a' := ?_) #[true, false, false, false, false, false, false, false, false, false, false, false, false, false, false, false, false, false, false, false] rfl rfl (by kernel_rfl) (fun _ _ _ h => h) (Or.inl ⟨by rfl, ?_⟩) hHeld ?_ ?_
                rotate_left
                · rintro w' ⟨s0, s1, s2, s3, s4, s5⟩
                  go_simp
                  with_reducible rfl
                rotate_left
                · simp only [Act.put, List.setIfInBounds_toArray, List.set_cons_zero, List.set_cons_succ]
                  rfl
                refine one_ (i := 1) (N := some 50) #[true, true, false, false, false, false, false, false, false, false, false, false, false, false, false, false, false, false, false, false] rfl rfl (by kernel_rfl) (by decide) (fun K hK => ?_)
                refine goes_ Try.func64 (by kernel_rfl) rfl #[.agg #[.int .i64 (m : Int), .int .i64 b1, .int .i64 b2]] (by rfl) rfl rfl (by (try simp only [List.map_toArray, List.map_cons, List.map_nil]); first | done | rfl) ?_
                refine (hcall _).mono ?_
                rintro e w7 ⟨rfl, hb⟩
                refine ⟨_, rfl, ?_⟩
                have HD7 := Aside0.mk (six_below HD6.out hb)
                have HB7 := Aside0.mk (bel_step2 HB6.out hb)
                have HK7 := Aside0.mk (HK6.out.trans (KeepBut.of_below hb _ none) (.inl rfl))
                have HS7 := Aside0.mk (HS6.out.below hb)
                clear hb HD6 HB6 HK6 HS6
                refine hK.out _ _ HD7.out (fun hHeld => ?_)
                clear hK K
                refine norm_ (a' := ?_) ?_ ?_
                rotate_left
                · show Act.put _ (some 50) _ = _
                  simp only [Act.put, List.setIfInBounds_toArray, List.set_cons_zero, List.set_cons_succ]
                  rfl
                refine pure_ (i := 2) (N := some 51) (v := ?_) (a' := ?_) #[true, true, true, false, false, false, false, false, false, false, false, false, false, false, false, false, false, false, false, false] rfl rfl (by kernel_rfl) (fun _ _ _ h => h) (Or.inl ⟨by rfl, ?_⟩) ?_ ?_
                rotate_left
                · intro w'
                  go_simp
                  with_reducible rfl
                rotate_left
                · simp only [Act.put, List.setIfInBounds_toArray, List.set_cons_zero, List.set_cons_succ]
                  rfl
                refine pure_ (i := 3) (N := some 52) (v := ?_) (a' := ?_) #[true, true, true, true, false, false, false, false, false, false, false, false, false, false, false, false, false, false, false, false] rfl rfl (by kernel_rfl) (fun _ _ _ h => h) (Or.inl ⟨by rfl, ?_⟩) ?_ ?_
                rotate_left
                · intro w'
                  go_simp
                  with_reducible rfl
                rotate_left
                · simp only [Act.put, List.setIfInBounds_toArray, List.set_cons_zero, List.set_cons_succ]
                  rfl
                refine pure_ (i := 4) (N := some 53) (v := ?_) (a' := ?_) #[true, true, true, true, true, false, false, false, false, false, false, false, false, false, false, false, false, false, false, false] rfl rfl (by kernel_rfl) (fun _ _ _ h => h) (Or.inl ⟨by rfl, ?_⟩) ?_ ?_
                rotate_left
                · intro w'
                  go_simp
                  with_reducible rfl
                rotate_left
                · simp only [Act.put, List.setIfInBounds_toArray, List.set_cons_zero, List.set_cons_succ]
                  rfl
                refine take_ (i := 5) (N := some 54) (v := ?_) (a' := ?_) #[true, true, true, true, true, true, false, false, false, false, false, false, false, false, false, false, false, false, false, false] rfl rfl (by kernel_rfl) (fun _ _ _ h => h) (Or.inl ⟨by rfl, ?_⟩) hHeld ?_ ?_
                rotate_left
                · rintro w' ⟨s0, s1, s2, s3, s4, s5⟩
                  go_simp
                  with_reducible rfl
                rotate_left
                · simp only [Act.put, List.setIfInBounds_toArray, List.set_cons_zero, List.set_cons_succ]
                  rfl
                refine pure_ (i := 6) (N := some 55) (v := ?_) (a' := ?_) #[true, true, true, true, true, true, true, false, false, false, false, false, false, false, false, false, false, false, false, false] rfl rfl (by kernel_rfl) (fun _ _ _ h => h) (Or.inl ⟨by rfl, ?_⟩) ?_ ?_
                rotate_left
                · intro w'
                  go_simp
                  with_reducible rfl
                rotate_left
                · simp only [Act.put, List.setIfInBounds_toArray, List.set_cons_zero, List.set_cons_succ]
                  rfl
                refine take_ (i := 7) (N := some 56) (v := ?_) (a' := ?_) #[true, true, true, true, true, true, true, true, false, false, false, false, false, false, false, false, false, false, false, false] rfl rfl (by kernel_rfl) (fun _ _ _ h => h) (Or.inl ⟨by rfl, ?_⟩) hHeld ?_ ?_
                rotate_left
                · rintro w' ⟨s0, s1, s2, s3, s4, s5⟩
                  go_simp
                  with_reducible rfl
                rotate_left
                · simp only [Act.put, List.setIfInBounds_toArray, List.set_cons_zero, List.set_cons_succ]
                  rfl
                refine pure_ (i := 8) (N := some 57) (v := ?_) (a' := ?_) #[true, true, true, true, true, true, true, true, true, false, false, false, false, false, false, false, false, false, false, false] rfl rfl (by kernel_rfl) (fun _ _ _ h => h) (Or.inl ⟨by rfl, ?_⟩) ?_ ?_
                rotate_left
                · intro w'
                  go_simp
                  with_reducible rfl
                rotate_left
                · simp only [Act.put, List.setIfInBounds_toArray, List.set_cons_zero, List.set_cons_succ]
                  rfl
                refine take_ (i := 9) (N := some 58) (v := ?_) (a' := ?_) #[true, true, true, true, true, true, true, true, true, true, false, false, false, false, false, false, false, false, false, false] rfl rfl (by kernel_rfl) (fun _ _ _ h => h) (Or.inl ⟨by rfl, ?_⟩) hHeld ?_ ?_
                rotate_left
                · rintro w' ⟨s0, s1, s2, s3, s4, s5⟩
                  go_simp
                  with_reducible rfl
                rotate_left
                · simp only [Act.put, List.setIfInBounds_toArray, List.set_cons_zero, List.set_cons_succ]
                  rfl
                refine pure_ (i := 10) (N := some 59) (v := ?_) (a' := ?_) #[true, true, true, true, true, true, true, true, true, true, true, false, false, false, false, false, false, false, false, false] rfl rfl (by kernel_rfl) (fun _ _ _ h => h) (Or.inl ⟨by rfl, ?_⟩) ?_ ?_
                rotate_left
                · intro w'
                  go_simp
                  with_reducible rfl
                rotate_left
                · simp only [Act.put, List.setIfInBounds_toArray, List.set_cons_zero, List.set_cons_succ]
                  rfl
                refine take_ (i := 11) (N := some 60) (v := ?_) (a' := ?_) #[true, true, true, true, true, true, true, true, true, true, true, true, false, false, false, false, false, false, false, false] rfl rfl (by kernel_rfl) (fun _ _ _ h => h) (Or.inl ⟨by rfl, ?_⟩) hHeld ?_ ?_
                rotate_left
                · rintro w' ⟨s0, s1, s2, s3, s4, s5⟩
                  go_simp
                  with_reducible rfl
                rotate_left
                · simp only [Act.put, List.setIfInBounds_toArray, List.set_cons_zero, List.set_cons_succ]
                  rfl
                refine pure_ (i := 12) (N := some 61) (v := ?_) (a' := ?_) #[true, true, true, true, true, true, true, true, true, true, true, true, true, false, false, false, false, false, false, false] rfl rfl (by kernel_rfl) (fun _ _ _ h => h) (Or.inl ⟨by rfl, ?_⟩) ?_ ?_
                rotate_left
                · intro w'
                  go_simp
                  with_reducible rfl
                rotate_left
                · simp only [Act.put, List.setIfInBounds_toArray, List.set_cons_zero, List.set_cons_succ]
                  rfl
                refine pure_ (i := 13) (N := some 62) (v := ?_) (a' := ?_) #[true, true, true, true, true, true, true, true, true, true, true, true, true, true, false, false, false, false, false, false] rfl rfl (by kernel_rfl) (fun _ _ _ h => h) (Or.inl ⟨by rfl, ?_⟩) ?_ ?_
                rotate_left
                · intro w'
                  go_simp
                  with_reducible rfl
                rotate_left
                · simp only [Act.put, List.setIfInBounds_toArray, List.set_cons_zero, List.set_cons_succ]
                  rfl
                refine pure_ (i := 14) (N := some 63) (v := ?_) (a' := ?_) #[true, true, true, true, true, true, true, true, true, true, true, true, true, true, true, false, false, false, false, false] rfl rfl (by kernel_rfl) (fun _ _ _ h => h) (Or.inl ⟨by rfl, ?_⟩) ?_ ?_
                rotate_left
                · intro w'
                  go_simp
                  with_reducible rfl
                rotate_left
                · simp only [Act.put, List.setIfInBounds_toArray, List.set_cons_zero, List.set_cons_succ]
                  rfl
                refine pure_ (i := 15) (N := some 64) (v := ?_) (a' := ?_) #[true, true, true, true, true, true, true, true, true, true, true, true, true, true, true, true, false, false, false, false] rfl rfl (by kernel_rfl) (fun _ _ _ h => h) (Or.inl ⟨by rfl, ?_⟩) ?_ ?_
                rotate_left
                · intro w'
                  go_simp
                  with_reducible rfl
                rotate_left
                · simp only [Act.put, List.setIfInBounds_toArray, List.set_cons_zero, List.set_cons_succ]
                  rfl
                refine take_ (i := 16) (N := some 65) (v := ?_) (a' := ?_) #[true, true, true, true, true, true, true, true, true, true, true, true, true, true, true, true, true, false, false, false] rfl rfl (by kernel_rfl) (fun _ _ _ h => h) (Or.inl ⟨by rfl, ?_⟩) hHeld ?_ ?_
                rotate_left
                · rintro w' ⟨s0, s1, s2, s3, s4, s5⟩
                  go_simp
                  with_reducible rfl
                rotate_left
                · simp only [Act.put, List.setIfInBounds_toArray, List.set_cons_zero, List.set_cons_succ]
                  rfl
                refine pure_ (i := 17) (N := some 66) (v := ?_) (a' := ?_) #[true, true, true, true, true, true, true, true, true, true, true, true, true, true, true, true, true, true, false, false] rfl rfl (by kernel_rfl) (fun _ _ _ h => h) (Or.inl ⟨by rfl, ?_⟩) ?_ ?_
                rotate_left
                · intro w'
                  go_simp
                  with_reducible rfl
                rotate_left
                · simp only [Act.put, List.setIfInBounds_toArray, List.set_cons_zero, List.set_cons_succ]
                  rfl
                refine take_ (i := 18) (N := some 67) (v := ?_) (a' := ?_) #[true, true, true, true, true, true, true, true, true, true, true, true, true, true, true, true, true, true, true, false] rfl rfl (by kernel_rfl) (fun _ _ _ h => h) (Or.inl ⟨by rfl, ?_⟩) hHeld ?_ ?_
                rotate_left
                · rintro w' ⟨s0, s1, s2, s3, s4, s5⟩
                  go_simp
                  with_reducible rfl
                rotate_left
                · simp only [Act.put, List.setIfInBounds_toArray, List.set_cons_zero, List.set_cons_succ]
                  rfl
                refine pure_ (i := 19) (N := some 68) (v := ?_) (a' := ?_) #[true, true, true, true, true, true, true, true, true, true, true, true, true, true, true, true, true, true, true, true] rfl rfl (by kernel_rfl) (fun _ _ _ h => h) (Or.inl ⟨by rfl, ?_⟩) ?_ ?_
                rotate_left
                · intro w'
                  go_simp
                  with_reducible rfl
                rotate_left
                · simp only [Act.put, List.setIfInBounds_toArray, List.set_cons_zero, List.set_cons_succ]
                  rfl
                refine done_ (by kernel_rfl) ?_
                go_wp2
                go_ret
                exact ⟨by have := HA2.out; exact congrArg _ (congrArg _ this), (S3.out.below HB7.out).bel⟩
              | false =>
                rw [Bool.not_false, Bool.true_and] at HA2
                go_upto_region 13 with (fail)
                refine start_ (n := 20) (S := (fun W => W.cell? ⟨wr.heap.size, 0, none⟩ = some (.int .i64 (m : Int)) ∧ W.cell? ⟨wr.heap.size, 1, none⟩ = some (.int .i64 b1) ∧ W.cell? ⟨wr.heap.size, 2, none⟩ = some (.int .i64 b2) ∧ W.cell? ⟨g0, 0, none⟩ = some (.slice (some ad0) p.length C0) ∧ W.cell? (ad0.add m) = some (.int .i64 b1) ∧ W.cell? ⟨W0.heap.size, m, none⟩ = some (.bool false))) (ds := []) #[false, false, false, false, false, false, false, false, false, false, false, false, false, false, false, false, false, false, false, false] (by kernel_rfl) rfl rfl HD6.out (fun hHeld => ?_)
                generalize (wr.alloc (.cells #[.int .i64 (m : Int), .int .i64 b1, .int .i64 b2] 61)).drew = w6 at HD6 HB6 HK6 HS6 hHeld ⊢
                refine take_ (i := 0) (N := some 49) (v := ?_) (a' := ?_) #[true, false, false, false, false, false, false, false, false, false, false, false, false, false, false, false, false, false, false, false] rfl rfl (by kernel_rfl) (fun _ _ _ h => h) (Or.inl ⟨by rfl, ?_⟩) hHeld ?_ ?_
                rotate_left
                · rintro w' ⟨s0, s1, s2, s3, s4, s5⟩
                  go_simp
                  with_reducible rfl
                rotate_left
                · simp only [Act.put, List.setIfInBounds_toArray, List.set_cons_zero, List.set_cons_succ]
                  rfl
                refine one_ (i := 1) (N := some 50) #[true, true, false, false, false, false, false, false, false, false, false, false, false, false, false, false, false, false, false, false] rfl rfl (by kernel_rfl) (by decide) (fun K hK => ?_)
                refine goes_ Try.func64 (by kernel_rfl) rfl #[.agg #[.int .i64 (m : Int), .int .i64 b1, .int .i64 b2]] (by rfl) rfl rfl (by (try simp only [List.map_toArray, List.map_cons, List.map_nil]); first | done | rfl) ?_
                refine (hcall _).mono ?_
                rintro e w7 ⟨rfl, hb⟩
                refine ⟨_, rfl, ?_⟩
                have HD7 := Aside0.mk (six_below HD6.out hb)
                have HB7 := Aside0.mk (bel_step2 HB6.out hb)
                have HK7 := Aside0.mk (HK6.out.trans (KeepBut.of_below hb _ none) (.inl rfl))
                have HS7 := Aside0.mk (HS6.out.below hb)
                clear hb HD6 HB6 HK6 HS6
                refine hK.out _ _ HD7.out (fun hHeld => ?_)
                clear hK K
                refine norm_ (a' := ?_) ?_ ?_
                rotate_left
                · show Act.put _ (some 50) _ = _
                  simp only [Act.put, List.setIfInBounds_toArray, List.set_cons_zero, List.set_cons_succ]
                  rfl
                refine pure_ (i := 2) (N := some 51) (v := ?_) (a' := ?_) #[true, true, true, false, false, false, false, false, false, false, false, false, false, false, false, false, false, false, false, false] rfl rfl (by kernel_rfl) (fun _ _ _ h => h) (Or.inl ⟨by rfl, ?_⟩) ?_ ?_
                rotate_left
                · intro w'
                  go_simp
                  with_reducible rfl
                rotate_left
                · simp only [Act.put, List.setIfInBounds_toArray, List.set_cons_zero, List.set_cons_succ]
                  rfl
                refine pure_ (i := 3) (N := some 52) (v := ?_) (a' := ?_) #[true, true, true, true, false, false, false, false, false, false, false, false, false, false, false, false, false, false, false, false] rfl rfl (by kernel_rfl) (fun _ _ _ h => h) (Or.inl ⟨by rfl, ?_⟩) ?_ ?_
                rotate_left
                · intro w'
                  go_simp
                  with_reducible rfl
                rotate_left
                · simp only [Act.put, List.setIfInBounds_toArray, List.set_cons_zero, List.set_cons_succ]
                  rfl
                refine pure_ (i := 4) (N := some 53) (v := ?_) (a' := ?_) #[true, true, true, true, true, false, false, false, false, false, false, false, false, false, false, false, false, false, false, false] rfl rfl (by kernel_rfl) (fun _ _ _ h => h) (Or.inl ⟨by rfl, ?_⟩) ?_ ?_
                rotate_left
                · intro w'
                  go_simp
                  with_reducible rfl
                rotate_left
                · simp only [Act.put, List.setIfInBounds_toArray, List.set_cons_zero, List.set_cons_succ]
                  rfl
                refine take_ (i := 5) (N := some 54) (v := ?_) (a' := ?_) #[true, true, true, true, true, true, false, false, false, false, false, false, false, false, false, false, false, false, false, false] rfl rfl (by kernel_rfl) (fun _ _ _ h => h) (Or.inl ⟨by rfl, ?_⟩) hHeld ?_ ?_
                rotate_left
                · rintro w' ⟨s0, s1, s2, s3, s4, s5⟩
                  go_simp
                  with_reducible rfl
                rotate_left
                · simp only [Act.put, List.setIfInBounds_toArray, List.set_cons_zero, List.set_cons_succ]
                  rfl
                refine pure_ (i := 6) (N := some 55) (v := ?_) (a' := ?_) #[true, true, true, true, true, true, true, false, false, false, false, false, false, false, false, false, false, false, false, false] rfl rfl (by kernel_rfl) (fun _ _ _ h => h) (Or.inl ⟨by rfl, ?_⟩) ?_ ?_
                rotate_left
                · intro w'
                  go_simp
                  with_reducible rfl
                rotate_left
                · simp only [Act.put, List.setIfInBounds_toArray, List.set_cons_zero, List.set_cons_succ]
                  rfl
                refine take_ (i := 7) (N := some 56) (v := ?_) (a' := ?_) #[true, true, true, true, true, true, true, true, false, false, false, false, false, false, false, false, false, false, false, false] rfl rfl (by kernel_rfl) (fun _ _ _ h => h) (Or.inl ⟨by rfl, ?_⟩) hHeld ?_ ?_
                rotate_left
                · rintro w' ⟨s0, s1, s2, s3, s4, s5⟩
                  go_simp
                  with_reducible rfl
                rotate_left
                · simp only [Act.put, List.setIfInBounds_toArray, List.set_cons_zero, List.set_cons_succ]
                  rfl
                refine pure_ (i := 8) (N := some 57) (v := ?_) (a' := ?_) #[true, true, true, true, true, true, true, true, true, false, false, false, false, false, false, false, false, false, false, false] rfl rfl (by kernel_rfl) (fun _ _ _ h => h) (Or.inl ⟨by rfl, ?_⟩) ?_ ?_
                rotate_left
                · intro w'
                  go_simp
                  with_reducible rfl
                rotate_left
                · simp only [Act.put, List.setIfInBounds_toArray, List.set_cons_zero, List.set_cons_succ]
                  rfl
                refine take_ (i := 9) (N := some 58) (v := ?_) (a' := ?_) #[true, true, true, true, true, true, true, true, true, true, false, false, false, false, false, false, false, false, false, false] rfl rfl (by kernel_rfl) (fun _ _ _ h => h) (Or.inl ⟨by rfl, ?_⟩) hHeld ?_ ?_
                rotate_left
                · rintro w' ⟨s0, s1, s2, s3, s4, s5⟩
                  go_simp
                  with_reducible rfl
                rotate_left
                · simp only [Act.put, List.setIfInBounds_toArray, List.set_cons_zero, List.set_cons_succ]
                  rfl
                refine pure_ (i := 10) (N := some 59) (v := ?_) (a' := ?_) #[true, true, true, true, true, true, true, true, true, true, true, false, false, false, false, false, false, false, false, false] rfl rfl (by kernel_rfl) (fun _ _ _ h => h) (Or.inl ⟨by rfl, ?_⟩) ?_ ?_
                rotate_left
                · intro w'
                  go_simp
                  with_reducible rfl
                rotate_left
                · simp only [Act.put, List.setIfInBounds_toArray, List.set_cons_zero, List.set_cons_succ]
                  rfl
                refine take_ (i := 11) (N := some 60) (v := ?_) (a' := ?_) #[true, true, true, true, true, true, true, true, true, true, true, true, false, false, false, false, false, false, false, false] rfl rfl (by kernel_rfl) (fun _ _ _ h => h) (Or.inl ⟨by rfl, ?_⟩) hHeld ?_ ?_
                rotate_left
                · rintro w' ⟨s0, s1, s2, s3, s4, s5⟩
                  go_simp
                  with_reducible rfl
                rotate_left
                · simp only [Act.put, List.setIfInBounds_toArray, List.set_cons_zero, List.set_cons_succ]
                  rfl
                refine pure_ (i := 12) (N := some 61) (v := ?_) (a' := ?_) #[true, true, true, true, true, true, true, true, true, true, true, true, true, false, false, false, false, false, false, false] rfl rfl (by kernel_rfl) (fun _ _ _ h => h) (Or.inl ⟨by rfl, ?_⟩) ?_ ?_
                rotate_left
                · intro w'
                  go_simp
                  with_reducible rfl
                rotate_left
                · simp only [Act.put, List.setIfInBounds_toArray, List.set_cons_zero, List.set_cons_succ]
                  rfl
                refine pure_ (i := 13) (N := some 62) (v := ?_) (a' := ?_) #[true, true, true, true, true, true, true, true, true, true, true, true, true, true, false, false, false, false, false, false] rfl rfl (by kernel_rfl) (fun _ _ _ h => h) (Or.inl ⟨by rfl, ?_⟩) ?_ ?_
                rotate_left
                · intro w'
                  go_simp
                  with_reducible rfl
                rotate_left
                · simp only [Act.put, List.setIfInBounds_toArray, List.set_cons_zero, List.set_cons_succ]
                  rfl
                refine pure_ (i := 14) (N := some 63) (v := ?_) (a' := ?_) #[true, true, true, true, true, true, true, true, true, true, true, true, true, true, true, false, false, false, false, false] rfl rfl (by kernel_rfl) (fun _ _ _ h => h) (Or.inl ⟨by rfl, ?_⟩) ?_ ?_
                rotate_left
                · intro w'
                  go_simp
                  with_reducible rfl
                rotate_left
                · simp only [Act.put, List.setIfInBounds_toArray, List.set_cons_zero, List.set_cons_succ]
                  rfl
                refine pure_ (i := 15) (N := some 64) (v := ?_) (a' := ?_) #[true, true, true, true, true, true, true, true, true, true, true, true, true, true, true, true, false, false, false, false] rfl rfl (by kernel_rfl) (fun _ _ _ h => h) (Or.inl ⟨by rfl, ?_⟩) ?_ ?_
                rotate_left
                · intro w'
                  go_simp
                  with_reducible rfl
                rotate_left
                · simp only [Act.put, List.setIfInBounds_toArray, List.set_cons_zero, List.set_cons_succ]
                  rfl
                refine take_ (i := 16) (N := some 65) (v := ?_) (a' := ?_) #[true, true, true, true, true, true, true, true, true, true, true, true, true, true, true, true, true, false, false, false] rfl rfl (by kernel_rfl) (fun _ _ _ h => h) (Or.inl ⟨by rfl, ?_⟩) hHeld ?_ ?_
                rotate_left
                · rintro w' ⟨s0, s1, s2, s3, s4, s5⟩
                  go_simp
                  with_reducible rfl
                rotate_left
                · simp only [Act.put, List.setIfInBounds_toArray, List.set_cons_zero, List.set_cons_succ]
                  rfl
                refine pure_ (i := 17) (N := some 66) (v := ?_) (a' := ?_) #[true, true, true, true, true, true, true, true, true, true, true, true, true, true, true, true, true, true, false, false] rfl rfl (by kernel_rfl) (fun _ _ _ h => h) (Or.inl ⟨by rfl, ?_⟩) ?_ ?_
                rotate_left
                · intro w'
                  go_simp
                  with_reducible rfl
                rotate_left
                · simp only [Act.put, List.setIfInBounds_toArray, List.set_cons_zero, List.set_cons_succ]
                  rfl
                refine take_ (i := 18) (N := some 67) (v := ?_) (a' := ?_) #[true, true, true, true, true, true, true, true, true, true, true, true, true, true, true, true, true, true, true, false] rfl rfl (by kernel_rfl) (fun _ _ _ h => h) (Or.inl ⟨by rfl, ?_⟩) hHeld ?_ ?_
                rotate_left
                · rintro w' ⟨s0, s1, s2, s3, s4, s5⟩
                  go_simp
                  with_reducible rfl
                rotate_left
                · simp only [Act.put, List.setIfInBounds_toArray, List.set_cons_zero, List.set_cons_succ]
                  rfl
                refine pure_ (i := 19) (N := some 68) (v := ?_) (a' := ?_) #[true, true, true, true, true, true, true, true, true, true, true, true, true, true, true, true, true, true, true, true] rfl rfl (by kernel_rfl) (fun _ _ _ h => h) (Or.inl ⟨by rfl, ?_⟩) ?_ ?_
                rotate_left
                · intro w'
                  go_simp
                  with_reducible rfl
                rotate_left
                · simp only [Act.put, List.setIfInBounds_toArray, List.set_cons_zero, List.set_cons_succ]
                  rfl
                refine done_ (by kernel_rfl) ?_
                have i0 := HD7.out.1
                obtain ⟨i1, i2⟩ := HS7.out.at m _ (seenA_get ids m g3)
                have HB8 := Aside0.mk (HB7.out.setCell (p := ⟨W0.heap.size, m, none⟩) (Nat.le_refl _) (.bool true))
                have HK8 := Aside0.mk (HK7.out.set_ m (.bool true))
                have HS8 := Aside0.mk (show Blk (w7.setCell ⟨W0.heap.size, m, none⟩ (.bool true)) W0.heap.size 72 (seenA ((m : Int) :: ids)) by rw [← seenA_set]; exact HS7.out.set m (.bool true))
                go_wp2
                go_roundg (xs.length - (j + 1))
                case measure => have := hg.out; omega
                case rel => exact ⟨j + 1, (m : Int) :: ids, by first | rfl | (rw [wrap_ok _ (by omega) (by omega)]; rfl), by omega, ⟨by omega⟩, HB8, HK8, HS8, ⟨HA2.out⟩⟩
            · have q1 : decide (b1 = pl) = false := decide_eq_false hpl2
              have q2 : (b1 == pl) = false := by simpa using hpl2
              have q3 : (b1 != pl) = true := by simpa using hpl2
              rw [q2, Bool.false_and] at HA2
              go_upto_region 13 with (fail)
              refine start_ (n := 20) (S := (fun W => W.cell? ⟨wr.heap.size, 0, none⟩ = some (.int .i64 (m : Int)) ∧ W.cell? ⟨wr.heap.size, 1, none⟩ = some (.int .i64 b1) ∧ W.cell? ⟨wr.heap.size, 2, none⟩ = some (.int .i64 b2) ∧ W.cell? ⟨g0, 0, none⟩ = some (.slice (some ad0) p.length C0) ∧ W.cell? (ad0.add m) = some (.int .i64 pl) ∧ W.cell? ⟨W0.heap.size, m, none⟩ = some (.bool sn))) (ds := []) #[false, false, false, false, false, false, false, false, false, false, false, false, false, false, false, false, false, false, false, false] (by kernel_rfl) rfl rfl HD6.out (fun hHeld => ?_)
              generalize (wr.alloc (.cells #[.int .i64 (m : Int), .int .i64 b1, .int .i64 b2] 61)).drew = w6 at HD6 HB6 HK6 HS6 hHeld ⊢
              refine take_ (i := 0) (N := some 49) (v := ?_) (a' := ?_) #[true, false, false, false, false, false, false, false, false, false, false, false, false, false, false, false, false, false, false, false] rfl rfl (by kernel_rfl) (fun _ _ _ h => h) (Or.inl ⟨by rfl, ?_⟩) hHeld ?_ ?_
              rotate_left
              · rintro w' ⟨s0, s1, s2, s3, s4, s5⟩
                go_simp
                with_reducible rfl
              rotate_left
              · simp only [Act.put, List.setIfInBounds_toArray, List.set_cons_zero, List.set_cons_succ]
                rfl
              refine one_ (i := 1) (N := some 50) #[true, true, false, false, false, false, false, false, false, false, false, false, false, false, false, false, false, false, false, false] rfl rfl (by kernel_rfl) (by decide) (fun K hK => ?_)
              refine goes_ Try.func64 (by kernel_rfl) rfl #[.agg #[.int .i64 (m : Int), .int .i64 b1, .int .i64 b2]] (by rfl) rfl rfl (by (try simp only [List.map_toArray, List.map_cons, List.map_nil]); first | done | rfl) ?_
              refine (hcall _).mono ?_
              rintro e w7 ⟨rfl, hb⟩
              refine ⟨_, rfl, ?_⟩
              have HD7 := Aside0.mk (six_below HD6.out hb)
              have HB7 := Aside0.mk (bel_step2 HB6.out hb)
              have HK7 := Aside0.mk (HK6.out.trans (KeepBut.of_below hb _ none) (.inl rfl))
              have HS7 := Aside0.mk (HS6.out.below hb)
              clear hb HD6 HB6 HK6 HS6
              refine hK.out _ _ HD7.out (fun hHeld => ?_)
              clear hK K
              refine norm_ (a' := ?_) ?_ ?_
              rotate_left
              · show Act.put _ (some 50) _ = _
                simp only [Act.put, List.setIfInBounds_toArray, List.set_cons_zero, List.set_cons_succ]
                rfl
              refine pure_ (i := 2) (N := some 51) (v := ?_) (a' := ?_) #[true, true, true, false, false, false, false, false, false, false, false, false, false, false, false, false, false, false, false, false] rfl rfl (by kernel_rfl) (fun _ _ _ h => h) (Or.inl ⟨by rfl, ?_⟩) ?_ ?_
              rotate_left
              · intro w'
                go_simp
                with_reducible rfl
              rotate_left
              · simp only [Act.put, List.setIfInBounds_toArray, List.set_cons_zero, List.set_cons_succ]
                rfl
              refine pure_ (i := 3) (N := some 52) (v := ?_) (a' := ?_) #[true, true, true, true, false, false, false, false, false, false, false, false, false, false, false, false, false, false, false, false] rfl rfl (by kernel_rfl) (fun _ _ _ h => h) (Or.inl ⟨by rfl, ?_⟩) ?_ ?_
              rotate_left
              · intro w'
                go_simp
                with_reducible rfl
              rotate_left
              · simp only [Act.put, List.setIfInBounds_toArray, List.set_cons_zero, List.set_cons_succ]
                rfl
              refine pure_ (i := 4) (N := some 53) (v := ?_) (a' := ?_) #[true, true, true, true, true, false, false, false, false, false, false, false, false, false, false, false, false, false, false, false] rfl rfl (by kernel_rfl) (fun _ _ _ h => h) (Or.inl ⟨by rfl, ?_⟩) ?_ ?_
              rotate_left
              · intro w'
                go_simp
                with_reducible rfl
              rotate_left
              · simp only [Act.put, List.setIfInBounds_toArray, List.set_cons_zero, List.set_cons_succ]
                rfl
              refine take_ (i := 5) (N := some 54) (v := ?_) (a' := ?_) #[true, true, true, true, true, true, false, false, false, false, false, false, false, false, false, false, false, false, false, false] rfl rfl (by kernel_rfl) (fun _ _ _ h => h) (Or.inl ⟨by rfl, ?_⟩) hHeld ?_ ?_
              rotate_left
              · rintro w' ⟨s0, s1, s2, s3, s4, s5⟩
                go_simp
                with_reducible rfl
              rotate_left
              · simp only [Act.put, List.setIfInBounds_toArray, List.set_cons_zero, List.set_cons_succ]
                rfl
              refine pure_ (i := 6) (N := some 55) (v := ?_) (a' := ?_) #[true, true, true, true, true, true, true, false, false, false, false, false, false, false, false, false, false, false, false, false] rfl rfl (by kernel_rfl) (fun _ _ _ h => h) (Or.inl ⟨by rfl, ?_⟩) ?_ ?_
              rotate_left
              · intro w'
                go_simp
                with_reducible rfl
              rotate_left
              · simp only [Act.put, List.setIfInBounds_toArray, List.set_cons_zero, List.set_cons_succ]
                rfl
              refine take_ (i := 7) (N := some 56) (v := ?_) (a' := ?_) #[true, true, true, true, true, true, true, true, false, false, false, false, false, false, false, false, false, false, false, false] rfl rfl (by kernel_rfl) (fun _ _ _ h => h) (Or.inl ⟨by rfl, ?_⟩) hHeld ?_ ?_
              rotate_left
              · rintro w' ⟨s0, s1, s2, s3, s4, s5⟩
                go_simp
                with_reducible rfl
              rotate_left
              · simp only [Act.put, List.setIfInBounds_toArray, List.set_cons_zero, List.set_cons_succ]
                rfl
              refine pure_ (i := 8) (N := some 57) (v := ?_) (a' := ?_) #[true, true, true, true, true, true, true, true, true, false, false, false, false, false, false, false, false, false, false, false] rfl rfl (by kernel_rfl) (fun _ _ _ h => h) (Or.inl ⟨by rfl, ?_⟩) ?_ ?_
              rotate_left
              · intro w'
                go_simp
                with_reducible rfl
              rotate_left
              · simp only [Act.put, List.setIfInBounds_toArray, List.set_cons_zero, List.set_cons_succ]
                rfl
              refine take_ (i := 9) (N := some 58) (v := ?_) (a' := ?_) #[true, true, true, true, true, true, true, true, true, true, false, false, false, false, false, false, false, false, false, false] rfl rfl (by kernel_rfl) (fun _ _ _ h => h) (Or.inl ⟨by rfl, ?_⟩) hHeld ?_ ?_
              rotate_left
              · rintro w' ⟨s0, s1, s2, s3, s4, s5⟩
                go_simp
                with_reducible rfl
              rotate_left
              · simp only [Act.put, List.setIfInBounds_toArray, List.set_cons_zero, List.set_cons_succ]
                rfl
              refine pure_ (i := 10) (N := some 59) (v := ?_) (a' := ?_) #[true, true, true, true, true, true, true, true, true, true, true, false, false, false, false, false, false, false, false, false] rfl rfl (by kernel_rfl) (fun _ _ _ h => h) (Or.inl ⟨by rfl, ?_⟩) ?_ ?_
              rotate_left
              · intro w'
                go_simp
                with_reducible rfl
              rotate_left
              · simp only [Act.put, List.setIfInBounds_toArray, List.set_cons_zero, List.set_cons_succ]
                rfl
              refine take_ (i := 11) (N := some 60) (v := ?_) (a' := ?_) #[true, true, true, true, true, true, true, true, true, true, true, true, false, false, false, false, false, false, false, false] rfl rfl (by kernel_rfl) (fun _ _ _ h => h) (Or.inl ⟨by rfl, ?_⟩) hHeld ?_ ?_
              rotate_left
              · rintro w' ⟨s0, s1, s2, s3, s4, s5⟩
                go_simp
                with_reducible rfl
              rotate_left
              · simp only [Act.put, List.setIfInBounds_toArray, List.set_cons_zero, List.set_cons_succ]
                rfl
              refine pure_ (i := 12) (N := some 61) (v := ?_) (a' := ?_) #[true, true, true, true, true, true, true, true, true, true, true, true, true, false, false, false, false, false, false, false] rfl rfl (by kernel_rfl) (fun _ _ _ h => h) (Or.inl ⟨by rfl, ?_⟩) ?_ ?_
              rotate_left
              · intro w'
                go_simp
                with_reducible rfl
              rotate_left
              · simp only [Act.put, List.setIfInBounds_toArray, List.set_cons_zero, List.set_cons_succ]
                rfl
              refine pure_ (i := 13) (N := some 62) (v := ?_) (a' := ?_) #[true, true, true, true, true, true, true, true, true, true, true, true, true, true, false, false, false, false, false, false] rfl rfl (by kernel_rfl) (fun _ _ _ h => h) (Or.inl ⟨by rfl, ?_⟩) ?_ ?_
              rotate_left
              · intro w'
                go_simp
                with_reducible rfl
              rotate_left
              · simp only [Act.put, List.setIfInBounds_toArray, List.set_cons_zero, List.set_cons_succ]
                rfl
              refine pure_ (i := 14) (N := some 63) (v := ?_) (a' := ?_) #[true, true, true, true, true, true, true, true, true, true, true, true, true, true, true, false, false, false, false, false] rfl rfl (by kernel_rfl) (fun _ _ _ h => h) (Or.inl ⟨by rfl, ?_⟩) ?_ ?_
              rotate_left
              · intro w'
                go_simp
                with_reducible rfl
              rotate_left
              · simp only [Act.put, List.setIfInBounds_toArray, List.set_cons_zero, List.set_cons_succ]
                rfl
              refine pure_ (i := 15) (N := some 64) (v := undef) (a' := ?_) #[true, true, true, true, true, true, true, true, true, true, true, true, true, true, true, true, false, false, false, false] rfl rfl (by kernel_rfl) (fun _ _ _ h => h) (Or.inr ⟨by rfl, rfl⟩) ?_ ?_
              rotate_left
              · simp only [Act.put, List.setIfInBounds_toArray, List.set_cons_zero, List.set_cons_succ]
                rfl
              refine pure_ (i := 16) (N := some 65) (v := undef) (a' := ?_) #[true, true, true, true, true, true, true, true, true, true, true, true, true, true, true, true, true, false, false, false] rfl rfl (by kernel_rfl) (fun _ _ _ h => h) (Or.inr ⟨by rfl, rfl⟩) ?_ ?_
              rotate_left
              · simp only [Act.put, List.setIfInBounds_toArray, List.set_cons_zero, List.set_cons_succ]
                rfl
              refine pure_ (i := 17) (N := some 66) (v := undef) (a' := ?_) #[true, true, true, true, true, true, true, true, true, true, true, true, true, true, true, true, true, true, false, false] rfl rfl (by kernel_rfl) (fun _ _ _ h => h) (Or.inr ⟨by rfl, rfl⟩) ?_ ?_
              rotate_left
              · simp only [Act.put, List.setIfInBounds_toArray, List.set_cons_zero, List.set_cons_succ]
                rfl
              refine pure_ (i := 18) (N := some 67) (v := undef) (a' := ?_) #[true, true, true, true, true, true, true, true, true, true, true, true, true, true, true, true, true, true, true, false] rfl rfl (by kernel_rfl) (fun _ _ _ h => h) (Or.inr ⟨by rfl, rfl⟩) ?_ ?_
              rotate_left
              · simp only [Act.put, List.setIfInBounds_toArray, List.set_cons_zero, List.set_cons_succ]
                rfl
              refine pure_ (i := 19) (N := some 68) (v := ?_) (a' := ?_) #[true, true, true, true, true, true, true, true, true, true, true, true, true, true, true, true, true, true, true, true] rfl rfl (by kernel_rfl) (fun _ _ _ h => h) (Or.inl ⟨by rfl, ?_⟩) ?_ ?_
              rotate_left
              · intro w'
                go_simp
                with_reducible rfl
              rotate_left
              · simp only [Act.put, List.setIfInBounds_toArray, List.set_cons_zero, List.set_cons_succ]
                rfl
              refine done_ (by kernel_rfl) ?_
              go_wp2
              go_ret
              exact ⟨by have := HA2.out; exact congrArg _ (congrArg _ this), (S3.out.below HB7.out).bel⟩
        · obtain rfl : j = xs.length := by omega
          have hr2 : r = true := by have := HA.out; rw [List.drop_length, scanI] at this; exact this.symm
          subst hr2
          go_wp2
          go_ret
          exact ⟨rfl, (S3.out.below HB.out).bel⟩

end Go.Proofs.Ytmodpocjnafpdaa.Leaf
