/-
  The program's WhereIs and ValueAt: what they answer, in plain words. Conditions: a stash that memory bears.
-/
import Derived.Test.YtmodpocjnafpdaaOokW
import Derived.Test.YtmodpocjnafpdaaPOrax15
namespace Go.Proofs.Ytmodpocjnafpdaa.Leaf
open Go.RowKit Go.Shelf Go.Proofs.YtmodpocjnafpdaaW.PrintWords Go.Proofs.YtmodpocjnafpdaaW.PrintLast Go.Proofs.YtmodpocjnafpdaaW.PrintMore Go.Proofs.Ytmodpocjnafpdaa.POra
def isIdB (id : Int) : Bool := decide (0 ≤ id) && decide (id ≤ 11)
def codeI (p : List Int) (st : List S61) (bu : List (List S61)) (id : Int) : Int := if okI p st bu = true then (if isIdB id = true then 0 else 4) else 1
theorem isId_eq (id : Int) : impl_isId.f id = some (isIdB id) := by
  unfold impl_isId.f impl_within.f isIdB
  by_cases h : 0 ≤ id
  · rw [if_pos h, decide_eq_true h]; rfl
  · rw [if_neg h, decide_eq_false h]; rfl
set_option maxRecDepth 100000 in
set_option maxHeartbeats 4000000 in
theorem idCode_c (x : Six) (p : List Int) (st : List S61) (bu : List (List S61)) (id : Int) (w : World) (h0 : Orm w x p st bu) (hs0 : st.length ≤ 1048576) :
    Calls Try.prog 65 #[.agg #[.slice x.A0 p.length x.c0, .slice x.A1 st.length x.c1, .slice x.A2 bu.length x.c2], .int .i64 id] w fun e w' => e = .returned (.int .i64 (codeI p st bu id)) ∧ Below w.heap.size w w' := by
  have h := Aside0.mk h0
  have HS := Aside0.mk hs0
  clear h0 hs0
  have hI : ∀ W, Calls Try.prog 82 #[.int .i64 id] W fun e w' => e = .returned (.bool (isIdB id)) ∧ Drawn0 W w' := fun W => impl_isId.calls id _ W (isId_eq id)
  have hO : ∀ W, Orm W x p st bu → Calls Try.prog 28 #[.agg #[.slice x.A0 p.length x.c0, .slice x.A1 st.length x.c1, .slice x.A2 bu.length x.c2]] W fun e w' => e = .returned (.bool (okI p st bu)) ∧ Below W.heap.size W w' := fun W hW => ok_c x p st bu W hW HS.out
  unfold codeI
  generalize okI p st bu = q at hO ⊢
  generalize isIdB id = i at hI ⊢
  go_enter Try.func65, Try.ntmps65
  go_upto_region 1 with (first
    | ((with_reducible refine gate_dst (N := 2) rfl ?_); refine box_event ?hg (N := 2) ?hd (cs := #[.slice x.A0 p.length x.c0, .slice x.A1 st.length x.c1, .slice x.A2 bu.length x.c2]) (t := 40) ?hr ?_; (case hd => rfl); (case hg => rfl); (case hr => first | (go_simp; done) | (go_simp; rfl)); intro g0 hg0 w1 hbox0 hb; have S1 := Aside0.mk (OkS.mk (h.out.below hb) (show Box3 w1 g0 40 x p.length st.length bu.length from hbox0) hb); clear hb h hbox0 hg0))
  obtain ⟨a0, a1, a2⟩ := S1.out.X.cells
  have hO1 := hO _ S1.out.H
  cases q with
  | false =>
    go_wp2_with (first
      | (go_at_call 28; (with_reducible refine hO1.mono ?_); rintro e w2 ⟨rfl, hb⟩; have S2 := Aside0.mk (S1.out.below hb); clear hb S1))
    go_ret
    exact ⟨rfl, S2.out.bel⟩
  | true =>
    cases i with
    | false =>
      go_wp2_with (first
        | (go_at_call 28; (with_reducible refine hO1.mono ?_); rintro e w2 ⟨rfl, hb⟩; have S2 := Aside0.mk (S1.out.below hb); clear hb S1)
        | (go_at_call 82; (with_reducible refine (hI _).mono ?_); rintro e w3 ⟨rfl, hb⟩; have S3 := Aside0.mk (S2.out.below hb.below); clear hb S2))
      go_ret
      exact ⟨rfl, S3.out.bel⟩
    | true =>
      go_wp2_with (first
        | (go_at_call 28; (with_reducible refine hO1.mono ?_); rintro e w2 ⟨rfl, hb⟩; have S2 := Aside0.mk (S1.out.below hb); clear hb S1)
        | (go_at_call 82; (with_reducible refine (hI _).mono ?_); rintro e w3 ⟨rfl, hb⟩; have S3 := Aside0.mk (S2.out.below hb.below); clear hb S2))
      go_ret
      exact ⟨rfl, S3.out.bel⟩
end Go.Proofs.Ytmodpocjnafpdaa.Leaf
