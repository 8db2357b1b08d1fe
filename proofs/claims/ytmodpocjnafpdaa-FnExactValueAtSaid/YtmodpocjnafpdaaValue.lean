/-
  The program's ValueAt: what it answers, in plain words. Conditions: a stash that memory bears.
-/
import Derived.Test.YtmodpocjnafpdaaWhere
namespace Go.Proofs.Ytmodpocjnafpdaa.Leaf
open Go.RowKit Go.Shelf Go.Proofs.YtmodpocjnafpdaaW.PrintWords Go.Proofs.YtmodpocjnafpdaaW.PrintLast Go.Proofs.YtmodpocjnafpdaaW.PrintMore Go.Proofs.Ytmodpocjnafpdaa.POra

/-- The value of the first block of a number; 0 of none. -/
def findV (id : Int) : List S61 → Int
  | [] => 0
  | b :: bs => if b.f0 = id then b.f2 else findV id bs
def valueI (p : List Int) (st : List S61) (bu : List (List S61)) (id : Int) : Int × Int :=
  if codeI p st bu id = 0 then (findV id (st ++ bu.flatten), 0) else (0, codeI p st bu id)
theorem codeI_ok {p : List Int} {st : List S61} {bu : List (List S61)} {id : Int} (h : codeI p st bu id = 0) : okI p st bu = true := by
  unfold codeI at h
  cases ho : okI p st bu with
  | true => rfl
  | false => rw [ho, if_neg (by decide)] at h; exact absurd h (by decide)
theorem okI_flat {p : List Int} {st : List S61} {bu : List (List S61)} (h : okI p st bu = true) : bu.flatten.length ≤ 1048576 := by
  unfold okI at h
  simp only [Bool.and_eq_true, decide_eq_true_eq] at h
  have := rows_flat bu h.2.2.2.1
  have := h.2.2.1
  omega

set_option maxRecDepth 100000 in
set_option maxHeartbeats 8000000 in
theorem valueAt_c (x : Six) (p : List Int) (st : List S61) (bu : List (List S61)) (id : Int) (w : World) (h0 : Orm w x p st bu) (hs0 : st.length ≤ 1048576) (hb0 : bu.flatten.length ≤ 1048576) :
    Calls Try.prog 71 #[.agg #[.slice x.A0 p.length x.c0, .slice x.A1 st.length x.c1, .slice x.A2 bu.length x.c2], .int .i64 id] w fun e w' => e = .returned (.int .i64 (findV id (st ++ bu.flatten))) ∧ Below w.heap.size w w' := by
  have h := Aside0.mk h0
  have HA := Aside0.mk (fun W (hW : Orm W x p st bu) => all_c x p st bu W hW hs0 hb0)
  clear h0 hs0 hb0
  generalize st ++ bu.flatten = xs at HA ⊢
  obtain ⟨v, hv⟩ : ∃ v, findV id xs = v := ⟨_, rfl⟩
  rw [hv]
  have HV := Lib.hid hv
  clear hv
  go_enter Try.func71, Try.ntmps71
  go_upto_region 1 with (first
    | ((with_reducible refine gate_dst (N := 2) rfl ?_); refine box_event ?hg (N := 2) ?hd (cs := #[.slice x.A0 p.length x.c0, .slice x.A1 st.length x.c1, .slice x.A2 bu.length x.c2]) (t := 40) ?hr ?_; (case hd => rfl); (case hg => rfl); (case hr => first | (go_simp; done) | (go_simp; rfl)); intro g0 hg0 w1 hbox0 hb; have S1 := Aside0.mk (OkS.mk (h.out.below hb) (show Box3 w1 g0 40 x p.length st.length bu.length from hbox0) hb); clear hb h hbox0 hg0))
  obtain ⟨a0, a1, a2⟩ := S1.out.X.cells
  have hall := HA.out _ S1.out.H
  go_wp2_with (first
    | (go_at_call 63; (with_reducible refine hall.mono ?_); rintro e w2 ⟨A2, c2, rfl, hc, hd, hb⟩; have B2 := Aside0.mk (S1.out.bel.trans (hb.mono S1.out.bel.size)); have C2 := Aside0.mk hc; clear hc hd hb a0 a1 a2 S1))
  have HXM := Kd.C_max C2.out
  go_loopg [6, 10] xs.length (fun gg _ s10 W => ∃ j : Nat, s10 = .int .i64 (j : Int) ∧ j ≤ xs.length ∧ Aside0 (xs.length ≤ gg + j) ∧ Aside0 (Below w2.heap.size w2 W) ∧ Aside0 (findV id (xs.drop j) = v))
  case atStart => exact ⟨0, rfl, by omega, ⟨by omega⟩, ⟨Below.refl _ _⟩, ⟨HV.out⟩⟩
  case round =>
    obtain ⟨j, rfl, h1, hg, HB, HF⟩ := hrel
    by_cases hlt : j < xs.length
    · have c1 : decide (j < xs.length) = true := decide_eq_true hlt
      obtain ⟨ad, e, hx0, hx1, hx2⟩ := at_T61 (Kd.C_below C2.out HB.out) (j : Int) (by omega) (by omega)
      subst e
      rw [Int.toNat_natCast] at hx0 hx1 hx2
      rw [rdI_nat, getD_in xs j _ hlt] at hx0 hx1 hx2
      have hA := HF.out
      rw [List.drop_eq_getElem_cons hlt] at hA
      obtain ⟨⟨b0, b1, b2⟩, hb⟩ : ∃ b, xs[j] = b := ⟨_, rfl⟩
      rw [hb] at hx0 hx1 hx2 hA
      clear hb
      dsimp only at hx0 hx1 hx2
      rw [findV] at hA
      dsimp only at hA
      have b6 : Below wr.heap.size wr (wr.alloc (.cells #[.int .i64 b0, .int .i64 b1, .int .i64 b2] 61)) := below_alloc (Below.refl _ _) _
      have HB6 := Aside0.mk (HB.out.trans (b6.mono HB.out.size))
      clear b6
      by_cases hq : b0 = id
      · rw [if_pos hq] at hA
        subst hq
        have HA2 := Lib.hid hA
        clear hA HF
        go_wp2
        go_ret
        exact ⟨by rw [HA2.out]; rfl, B2.out.trans (HB6.out.mono B2.out.size)⟩
      · have q1 : decide (b0 = id) = false := decide_eq_false hq
        have q2 : (b0 == id) = false := by simpa using hq
        rw [if_neg hq] at hA
        have HA2 := Lib.hid hA
        clear hA HF
        go_wp2
        go_roundg (xs.length - (j + 1))
        case measure => have := hg.out; omega
        case rel => exact ⟨j + 1, by first | rfl | (rw [wrap_ok _ (by omega) (by omega)]; rfl), by omega, ⟨by omega⟩, HB6, ⟨HA2.out⟩⟩
    · obtain rfl : j = xs.length := by omega
      have hA := HF.out
      rw [List.drop_length, findV] at hA
      have HA2 := Lib.hid hA
      clear hA HF
      go_wp2
      go_ret
      exact ⟨by rw [HA2.out]; rfl, B2.out.trans (HB.out.mono B2.out.size)⟩

set_option maxRecDepth 100000 in
set_option maxHeartbeats 4000000 in
theorem value_ok (x : Six) (p : List Int) (st : List S61) (bu : List (List S61)) (id v : Int) (w : World) (h0 : Orm w x p st bu)
    (hI : ∀ W, Orm W x p st bu → Calls Try.prog 65 #[.agg #[.slice x.A0 p.length x.c0, .slice x.A1 st.length x.c1, .slice x.A2 bu.length x.c2], .int .i64 id] W fun e w' => e = .returned (.int .i64 0) ∧ Below W.heap.size W w')
    (hJ : ∀ W, Orm W x p st bu → Calls Try.prog 71 #[.agg #[.slice x.A0 p.length x.c0, .slice x.A1 st.length x.c1, .slice x.A2 bu.length x.c2], .int .i64 id] W fun e w' => e = .returned (.int .i64 v) ∧ Below W.heap.size W w') :
    Calls Try.prog 32 #[.agg #[.slice x.A0 p.length x.c0, .slice x.A1 st.length x.c1, .slice x.A2 bu.length x.c2], .int .i64 id] w fun e w' => e = .returned (.tuple #[.int .i64 v, .int .i64 0]) ∧ Below w.heap.size w w' := by
  have h := Aside0.mk h0
  clear h0
  go_enter Try.func32, Try.ntmps32
  go_upto_region 1 with (first
    | ((with_reducible refine gate_dst (N := 2) rfl ?_); refine box_event ?hg (N := 2) ?hd (cs := #[.slice x.A0 p.length x.c0, .slice x.A1 st.length x.c1, .slice x.A2 bu.length x.c2]) (t := 40) ?hr ?_; (case hd => rfl); (case hg => rfl); (case hr => first | (go_simp; done) | (go_simp; rfl)); intro g0 hg0 w1 hbox0 hb; have S1 := Aside0.mk (OkS.mk (h.out.below hb) (show Box3 w1 g0 40 x p.length st.length bu.length from hbox0) hb); clear hb h hbox0 hg0))
  obtain ⟨a0, a1, a2⟩ := S1.out.X.cells
  have hcall := hI _ S1.out.H
  go_upto_region 2 with (first
    | (go_at_call 65; (with_reducible refine hcall.mono ?_); rintro e w2 ⟨rfl, hb⟩; have S2 := Aside0.mk (S1.out.below hb); clear hb S1 a0 a1 a2))
  obtain ⟨a0, a1, a2⟩ := S2.out.X.cells
  have hcall2 := hJ _ S2.out.H
  go_wp2_with (first
    | (go_at_call 71; (with_reducible refine hcall2.mono ?_); rintro e w3 ⟨rfl, hb⟩; have S3 := Aside0.mk (S2.out.below hb); clear hb S2 a0 a1 a2))
  go_ret2
  exact ⟨rfl, S3.out.bel⟩

set_option maxRecDepth 100000 in
set_option maxHeartbeats 4000000 in
theorem value_code (x : Six) (p : List Int) (st : List S61) (bu : List (List S61)) (id cd : Int) (w : World) (h0 : Orm w x p st bu)
    (hI : ∀ W, Orm W x p st bu → Calls Try.prog 65 #[.agg #[.slice x.A0 p.length x.c0, .slice x.A1 st.length x.c1, .slice x.A2 bu.length x.c2], .int .i64 id] W fun e w' => e = .returned (.int .i64 cd) ∧ Below W.heap.size W w') (hc : cd ≠ 0) :
    Calls Try.prog 32 #[.agg #[.slice x.A0 p.length x.c0, .slice x.A1 st.length x.c1, .slice x.A2 bu.length x.c2], .int .i64 id] w fun e w' => e = .returned (.tuple #[.int .i64 0, .int .i64 cd]) ∧ Below w.heap.size w w' := by
  have h := Aside0.mk h0
  clear h0
  have q1 : decide (cd = 0) = false := decide_eq_false hc
  have q2 : (cd != 0) = true := by simpa using hc
  go_enter Try.func32, Try.ntmps32
  go_upto_region 1 with (first
    | ((with_reducible refine gate_dst (N := 2) rfl ?_); refine box_event ?hg (N := 2) ?hd (cs := #[.slice x.A0 p.length x.c0, .slice x.A1 st.length x.c1, .slice x.A2 bu.length x.c2]) (t := 40) ?hr ?_; (case hd => rfl); (case hg => rfl); (case hr => first | (go_simp; done) | (go_simp; rfl)); intro g0 hg0 w1 hbox0 hb; have S1 := Aside0.mk (OkS.mk (h.out.below hb) (show Box3 w1 g0 40 x p.length st.length bu.length from hbox0) hb); clear hb h hbox0 hg0))
  obtain ⟨a0, a1, a2⟩ := S1.out.X.cells
  have hcall := hI _ S1.out.H
  go_wp2_with (first
    | (go_at_call 65; (with_reducible refine hcall.mono ?_); rintro e w2 ⟨rfl, hb⟩; have S2 := Aside0.mk (S1.out.below hb); clear hb S1 a0 a1 a2))
  go_ret2
  exact ⟨rfl, S2.out.bel⟩

theorem value_c (x : Six) (p : List Int) (st : List S61) (bu : List (List S61)) (id : Int) (w : World) (h : Orm w x p st bu) (hs : st.length ≤ 1048576) :
    Calls Try.prog 32 #[.agg #[.slice x.A0 p.length x.c0, .slice x.A1 st.length x.c1, .slice x.A2 bu.length x.c2], .int .i64 id] w fun e w' => e = .returned (.tuple #[.int .i64 (valueI p st bu id).1, .int .i64 (valueI p st bu id).2]) ∧ Below w.heap.size w w' := by
  have hI : ∀ W, Orm W x p st bu → Calls Try.prog 65 #[.agg #[.slice x.A0 p.length x.c0, .slice x.A1 st.length x.c1, .slice x.A2 bu.length x.c2], .int .i64 id] W fun e w' => e = .returned (.int .i64 (codeI p st bu id)) ∧ Below W.heap.size W w' := fun W hW => idCode_c x p st bu id W hW hs
  unfold valueI
  by_cases hc : codeI p st bu id = 0
  · rw [if_pos hc]
    rw [hc] at hI
    exact value_ok x p st bu id _ w h hI (fun W hW => valueAt_c x p st bu id W hW hs (okI_flat (codeI_ok hc)))
  · rw [if_neg hc]
    exact value_code x p st bu id _ w h hI hc

end Go.Proofs.Ytmodpocjnafpdaa.Leaf
