/-
  The walk of FnExactOramOK. Conditions: none but those of the row.
-/
import Derived.Test.YtmodpocjnafpdaaOok
import Derived.Test.YtmodpocjnafpdaaPOrax14
namespace Go.Proofs.Ytmodpocjnafpdaa.Leaf
open Go.RowKit Go.Proofs.YtmodpocjnafpdaaW.PrintWords Go.Proofs.YtmodpocjnafpdaaW.PrintMore Go.Proofs.Ytmodpocjnafpdaa.POra
theorem ok_c (x : Six) (p : List Int) (st : List S61) (bu : List (List S61)) (w : World) (h : Orm w x p st bu) (hs : st.length ≤ 1048576) :
    Calls Try.prog 28 #[.agg #[.slice x.A0 p.length x.c0, .slice x.A1 st.length x.c1, .slice x.A2 bu.length x.c2]] w fun e w' => e = .returned (.bool (okI p st bu)) ∧ Below w.heap.size w w' := by
  by_cases k : p.length = 12 ∧ p.all inLeaves = true ∧ bu.length = 15
  · obtain ⟨k0, k1, k2⟩ := k
    have := ok_main x p st bu w h hs k0 k1 k2
    unfold okI
    rw [decide_eq_true k0, k1, decide_eq_true k2, Bool.true_and, Bool.true_and, Bool.true_and]
    exact this
  · have hf : okI p st bu = false := by
      unfold okI
      by_cases k0 : p.length = 12
      · rw [decide_eq_true k0, Bool.true_and]
        cases k1 : p.all inLeaves with
        | false => rfl
        | true =>
          have k2 : ¬ bu.length = 15 := fun e => k ⟨k0, k1, e⟩
          rw [decide_eq_false k2]; rfl
      · rw [decide_eq_false k0]; rfl
    rw [hf]
    exact ok_front x p st bu w h k
/-- What holds from the boxing of the argument on. -/
structure One (w W : World) (g0 : Nat) (x : Six) (p : List Int) (st : List S80) (bu : List (List S80)) : Prop where
  b0 : Box3 W g0 34 x p.length st.length bu.length
  hA : OrL W x p st bu
  bel : Below w.heap.size w W
theorem One.below {w W W' : World} {g0 : Nat} {x : Six} {p : List Int} {st : List S80} {bu : List (List S80)} (h : One w W g0 x p st bu) (hb : Below W.heap.size W W') : One w W' g0 x p st bu :=
  ⟨h.b0.below hb, h.hA.below hb, h.bel.trans (hb.mono h.bel.size)⟩
end Go.Proofs.Ytmodpocjnafpdaa.Leaf
