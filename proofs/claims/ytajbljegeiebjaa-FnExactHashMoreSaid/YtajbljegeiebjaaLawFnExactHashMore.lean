-- Written by a program of this session. Lean checks it.
import Derived.Test.YtajbljegeiebjaaRows
import Derived.Test.YtajbljegeiebjaaHashV
import Derived.WalkKit
import Derived.ProofKit
import Derived.OpenShut
import Derived.ShutString
import Derived.ChangeOld
import Derived.Below
import Derived.SizedLaws
import Derived.Carry
import Derived.ChangeArms

namespace Go.Proofs.Ytajbljegeiebjaa.fnExactHashMore
open Go.ChangeShapes Go.WideShapes Go.ChangeAt Go.RowKit
open Go.ChangeMaps (open_string shut_string)
theorem list10 {α : Type} (l : List α) (h : (⟨l⟩ : Array α).size = 10) : ∃ c0 c1 c2 c3 c4 c5 c6 c7 c8 c9, l = [c0, c1, c2, c3, c4, c5, c6, c7, c8, c9] := by
  match l, h with
  | [c0, c1, c2, c3, c4, c5, c6, c7, c8, c9], _ => exact ⟨c0, c1, c2, c3, c4, c5, c6, c7, c8, c9, rfl⟩
theorem trod_array8 {H : Type} {enc : TypeId × Value → H} {P : Program} {w : World} {base : Nat} {spare : Nat → Bool} {held : Bool} {t e : TypeId} {fuel : Nat} {c0 c1 c2 c3 c4 c5 c6 c7 : Value} {x : DataW H × List MemPlace} (ht : P.underlying t = some (.array 8 e)) (hce : P.cellsOf e = 1)
    (h : DataW.trod enc P w base spare held fuel t [c0, c1, c2, c3, c4, c5, c6, c7] = some x) :
    ∃ y0 y1 y2 y3 y4 y5 y6 y7 n, x = (.agg [y0.1, y1.1, y2.1, y3.1, y4.1, y5.1, y6.1, y7.1], y0.2 ++ (y1.2 ++ (y2.2 ++ (y3.2 ++ (y4.2 ++ (y5.2 ++ (y6.2 ++ (y7.2)))))))) ∧ DataW.trod enc P w base spare held n e [c0] = some y0 ∧ DataW.trod enc P w base spare held n e [c1] = some y1 ∧ DataW.trod enc P w base spare held n e [c2] = some y2 ∧ DataW.trod enc P w base spare held n e [c3] = some y3 ∧ DataW.trod enc P w base spare held n e [c4] = some y4 ∧ DataW.trod enc P w base spare held n e [c5] = some y5 ∧ DataW.trod enc P w base spare held n e [c6] = some y6 ∧ DataW.trod enc P w base spare held n e [c7] = some y7 := by
  cases fuel with
  | zero => simp [DataW.trod] at h
  | succ n =>
    unfold DataW.trod at h
    rw [ht] at h
    have r8 : List.range 8 = [0, 1, 2, 3, 4, 5, 6, 7] := rfl
    simp [r8, hce] at h
    obtain ⟨_, h⟩ := h
    cases h0 : DataW.trod enc P w base spare held n e [c0] with
    | none => simp [h0] at h
    | some y0 =>
      cases h1 : DataW.trod enc P w base spare held n e [c1] with
      | none => simp [h0, h1] at h
      | some y1 =>
        cases h2 : DataW.trod enc P w base spare held n e [c2] with
        | none => simp [h0, h1, h2] at h
        | some y2 =>
          cases h3 : DataW.trod enc P w base spare held n e [c3] with
          | none => simp [h0, h1, h2, h3] at h
          | some y3 =>
            cases h4 : DataW.trod enc P w base spare held n e [c4] with
            | none => simp [h0, h1, h2, h3, h4] at h
            | some y4 =>
              cases h5 : DataW.trod enc P w base spare held n e [c5] with
              | none => simp [h0, h1, h2, h3, h4, h5] at h
              | some y5 =>
                cases h6 : DataW.trod enc P w base spare held n e [c6] with
                | none => simp [h0, h1, h2, h3, h4, h5, h6] at h
                | some y6 =>
                  cases h7 : DataW.trod enc P w base spare held n e [c7] with
                  | none => simp [h0, h1, h2, h3, h4, h5, h6, h7] at h
                  | some y7 =>
                    simp [h0, h1, h2, h3, h4, h5, h6, h7] at h
                    exact ⟨y0, y1, y2, y3, y4, y5, y6, y7, n, h.symm, h0, h1, h2, h3, h4, h5, h6, h7⟩
theorem own : ownKnob Try.prog.godebug = none := by kernel_rfl
set_option maxRecDepth 100000 in
theorem lifted (os : Os) (started : os.Started) (H : Type) (enc : TypeId × Value → H) :
    ReturnsInHanded {} Try.checked os 3 .any (Rows.fnExactHashMoreSpec.pre6 enc Try.prog Try.f3 Rows.fnExactHashMoreRow.domain false) (Rows.fnExactHashMoreSpec.post enc Try.prog Try.f3 false true false false) := by
  refine returnsInHanded_of_change_sized (C := Try.checked) own started (by kernel_rfl) Try.func3
    (ChangeSpec.witness6 (enc := enc) (C := Try.checked) false ⟨#[], #[.agg #[.int .i64 0, .int .i64 0, .int .i64 0, .int .i64 0, .int .i64 0, .int .i64 0, .int .i64 0, .int .i64 0, .string ByteArray.empty, .int .i64 0], .string ByteArray.empty], []⟩ 8 (by kernel_rfl) (by kernel_rfl) (by kernel_rfl) (by kernel_rfl)) ?_
  intro W base args ds gs before hval0 hW hcnd hsz0 _
  have hsz : (DataW.weightsEach Try.prog (Try.f3.params.toList ++ Rows.fnExactHashMoreSpec.plain.varTypes Try.prog) (ds ++ gs)).all (· ≤ reachBytes) = true := hsz0
  have hval : ∀ (j : Nat) t v, Try.f3.params[j]? = some t → args[j]? = some v → Value.okWide Try.prog W .any base t v := hval0
  have hW' := hW
  obtain ⟨p, q, hA0, hV, rfl, hfz, hnd⟩ := hW
  have hA : DataW.TrodAll enc Try.prog W 0 (fun _ => true) true Try.f3.params.toList args.toList ds p := hA0
  rw [Try.params3] at hA hval hsz
  obtain ⟨v0, vs0, d0, ds0, p0, q0, hargs0, rfl, rfl, h0, r0⟩ := trodAll_cons hA
  obtain ⟨v1, vs1, d1, ds1, p1, q1, hargs1, rfl, rfl, h1, r1⟩ := trodAll_cons r0
  obtain ⟨rfl, rfl, rfl⟩ := trodAll_nil r1
  obtain rfl : args = #[v0, v1] := by cases args; simp_all
  obtain ⟨rfl, rfl⟩ := trodVars_none hV
  have h0k := h0
  have l0 : ∀ x ∈ p0, x.block < W.heap.size := fun x hx => by simpa using hW'.lt x (by simp [hx])
  have h1k := h1
  have l1 : ∀ x ∈ p1, x.block < W.heap.size := fun x hx => by simpa using hW'.lt x (by simp [hx])
  obtain ⟨xt, rfl, rfl, rfl, yt⟩ := open_string Try.underlying9 (hval 1 9 v1 rfl rfl) h1
  obtain ⟨cs, rfl, hszc⟩ := okWide_struct Try.underlying24 (hval 0 24 v0 rfl rfl)
  rw [show Try.prog.cellsOf 24 = 10 by kernel_rfl] at hszc
  obtain ⟨l⟩ := cs
  obtain ⟨c0, c1, c2, c3, c4, c5, c6, c7, c8, c9, rfl⟩ := list10 l hszc
  obtain ⟨fuel, hf⟩ := h0
  obtain ⟨ys, m, _, hx, _, hlen, hg⟩ := DataW.trod_struct Try.underlying24 hf
  obtain ⟨z0, z1, z2, rfl⟩ : ∃ z0 z1 z2, ys = [z0, z1, z2] := by
    match ys, hlen with
    | [z0, z1, z2], _ => exact ⟨z0, z1, z2, rfl⟩
  have k8 : Try.prog.cellsOf 22 = 8 := by kernel_rfl
  have ks : Try.prog.cellsOf 9 = 1 := by kernel_rfl
  have ki : Try.prog.cellsOf 3 = 1 := by kernel_rfl
  have g0 : DataW.trod enc Try.prog W 0 (fun _ => true) true m 22 [c0, c1, c2, c3, c4, c5, c6, c7] = some z0 := by
    have := hg 0 _ rfl
    simpa [k8, Value.cells] using this
  have g1 : DataW.trod enc Try.prog W 0 (fun _ => true) true m 9 [c8] = some z1 := by
    have := hg 1 _ rfl
    simpa [ks, Value.cells] using this
  have g2 : DataW.trod enc Try.prog W 0 (fun _ => true) true m 3 [c9] = some z2 := by
    have := hg 2 _ rfl
    simpa [ki, Value.cells] using this
  obtain ⟨y0, y1, y2, y3, y4, y5, y6, y7, mm, hx8, a0, a1, a2, a3, a4, a5, a6, a7⟩ := trod_array8 Try.underlying22 ki g0
  obtain ⟨x0, e0, rfl, w0⟩ := DataW.trod_int Try.underlying3 a0
  obtain ⟨x1, e1, rfl, w1⟩ := DataW.trod_int Try.underlying3 a1
  obtain ⟨x2, e2, rfl, w2⟩ := DataW.trod_int Try.underlying3 a2
  obtain ⟨x3, e3, rfl, w3⟩ := DataW.trod_int Try.underlying3 a3
  obtain ⟨x4, e4, rfl, w4⟩ := DataW.trod_int Try.underlying3 a4
  obtain ⟨x5, e5, rfl, w5⟩ := DataW.trod_int Try.underlying3 a5
  obtain ⟨x6, e6, rfl, w6⟩ := DataW.trod_int Try.underlying3 a6
  obtain ⟨x7, e7, rfl, w7⟩ := DataW.trod_int Try.underlying3 a7
  obtain ⟨xn, en, rfl, wn⟩ := DataW.trod_int Try.underlying3 g2
  obtain ⟨xb, eb, rfl, wb⟩ := DataW.trod_string Try.underlying9 g1
  simp only [List.cons.injEq, and_true] at e0 e1 e2 e3 e4 e5 e6 e7 en eb
  subst e0 e1 e2 e3 e4 e5 e6 e7 en eb
  simp only [Prod.mk.injEq] at hx
  obtain ⟨rfl, rfl⟩ := hx
  have hbs : xb.size ≤ 140737488351232 := by
    have := List.all_eq_true.1 hsz _ (DataW.weights_mem_each (j := 0) rfl rfl xb.data.toList.length (by simp [DataW.weights, DataW.weightsEach, Try.underlying24]))
    rw [Array.length_toList] at this
    exact of_decide_eq_true this
  refine (Leaf.FnExactHashMore_walk x0 x1 x2 x3 x4 x5 x6 x7 xn xb xt W (by omega)).mono fun e W' ⟨he, bel⟩ => ?_
  subst he
  exact ⟨_, rfl, _, _, _, [], _, [], hW', trodAll_mk1 (shut_bool Try.underlying4 _), (trodAll_cons_mk (Below.trod (by kernel_rfl) (by kernel_rfl) (of_decide_eq_true (by kernel_rfl)) h0k bel l0) (trodAll_cons_mk (Below.trod (by kernel_rfl) (by kernel_rfl) (of_decide_eq_true (by kernel_rfl)) h1k bel l1) trodAll_mk0)), rfl, bel.frame _, fun h => by cases h⟩
theorem over : Rows.fnExactHashMoreRow.holds Try.pinned (OpenSpec.ofChange Rows.fnExactHashMoreSpec) :=
  OpenClaim.holds_of_wide 3 Try.f3 rfl rfl rfl rfl rfl rfl rfl ⟨rfl, rfl, rfl, rfl, rfl⟩ rfl rfl rfl rfl rfl (by kernel_rfl) Try.func3 (by kernel_rfl)
    (of_decide_eq_true (by kernel_rfl)) (by unfold Func.isWrapper; first | (rw [if_pos (by decide +kernel)]; kernel_rfl) | (rw [if_neg (by decide +kernel)]; exact ⟨rfl, rfl⟩))
    (fun os started H enc _ => lifted os started H enc)
theorem proved : Rows.FnExactHashMoreSaid := over
#print axioms proved
end Go.Proofs.Ytajbljegeiebjaa.fnExactHashMore
namespace Go.Proofs.Ytajbljegeiebjaa
/-- The row, under a short name, for the claim. -/
theorem fnExactHashMore_holds : Rows.FnExactHashMoreSaid := fnExactHashMore.proved
end Go.Proofs.Ytajbljegeiebjaa
