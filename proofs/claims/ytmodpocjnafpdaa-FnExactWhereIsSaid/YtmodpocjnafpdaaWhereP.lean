/-
  The reference's WhereIs answers as the program's. In plain words. Conditions: none.
-/
import Derived.Test.YtmodpocjnafpdaaWhereI
import Derived.Test.YtmodpocjnafpdaaOokE
import Derived.Test.YtmodpocjnafpdaaPOrax15
namespace Go.Proofs.Ytmodpocjnafpdaa.Leaf
open Go.RowKit Go.Proofs.YtmodpocjnafpdaaW.PrintWords Go.Proofs.Ytmodpocjnafpdaa.POra

theorem where_c (x : Six) (p : List Int) (st : List S61) (bu : List (List S61)) (id : Int) (w : World) (h : Orm w x p st bu) (hs : st.length ≤ 1048576) :
    Calls Try.prog 30 #[.agg #[.slice x.A0 p.length x.c0, .slice x.A1 st.length x.c1, .slice x.A2 bu.length x.c2], .int .i64 id] w fun e w' => e = .returned (.tuple #[.int .i64 (whereI p st bu id).1, .int .i64 (whereI p st bu id).2]) ∧ Below w.heap.size w w' := by
  have hI : ∀ W, Orm W x p st bu → Calls Try.prog 65 #[.agg #[.slice x.A0 p.length x.c0, .slice x.A1 st.length x.c1, .slice x.A2 bu.length x.c2], .int .i64 id] W fun e w' => e = .returned (.int .i64 (codeI p st bu id)) ∧ Below W.heap.size W w' := fun W hW => idCode_c x p st bu id W hW hs
  unfold whereI
  by_cases hc : codeI p st bu id = 0
  · rw [if_pos hc]
    cases hq : st.any (hasId id) with
    | true =>
      rw [if_pos rfl]
      exact where_stash x p st bu id _ w h hI hc hq
    | false =>
      rw [if_neg (by decide)]
      by_cases h0 : 0 ≤ rowAt id bu
      · rw [if_pos h0]
        exact where_row x p st bu id _ w h hI hc hq _ rfl h0
      · rw [if_neg h0]
        exact where_none x p st bu id _ w h hI hc hq _ rfl h0
  · rw [if_neg hc]
    exact where_code x p st bu id _ w h hI hc

/-! the reference -/
theorem okS_facts {p : List Int} {st : List S61} {bu : List (List S61)} (h : okS p st bu = true) : st.length ≤ 12 ∧ bu.length = 15 := by
  unfold okS at h
  simp only [Bool.and_eq_true, decide_eq_true_eq] at h
  exact ⟨h.2.2.1, h.2.2.2.1⟩
theorem whereW2_ev (p : List Int) (st : List S61) (bu : List (List S61)) (id : Int) (hb : bu.length = 15) (i : Nat) (hi : i < 15) (hr : (bu.getD i []).length ≤ 1048576) (R : Int × Int)
    (hnext : Ev (fun k => spec_WhereIs.l1 k id ((i + 1 : Nat) : Int) p st bu) R) (d : Nat) :
    ∀ j : Nat, (bu.getD i []).length - j = d → j ≤ (bu.getD i []).length → Ev (fun k => spec_WhereIs.l2 k id (i : Int) (j : Int) p st bu) (if ((bu.getD i []).drop j).any (hasId id) = true then ((i : Int), 0) else R) := by
  induction d with
  | zero =>
    intro j hd hj
    rw [List.drop_of_length_le (by omega)]
    refine Ev.step (f := fun k => spec_WhereIs.l1 k id ((i + 1 : Nat) : Int) p st bu) (fun k => ?_) ?_
    · simp only [spec_WhereIs.l2]
      rw [if_pos (by omega), if_pos (by omega), rdRI_nat, if_neg (by omega), succ_i i (by omega)]
    · rw [List.any_nil, if_neg (by decide)]
      exact hnext
  | succ d ih =>
    intro j hd hj
    have hlt : j < (bu.getD i []).length := by omega
    obtain ⟨row, hrow⟩ : ∃ row, bu.getD i [] = row := ⟨_, rfl⟩
    rw [hrow] at hlt ih hr hd hj ⊢
    rw [List.drop_eq_getElem_cons hlt, List.any_cons]
    obtain ⟨b, hbb⟩ : ∃ b, row[j] = b := ⟨_, rfl⟩
    have hg : row.getD j z61 = b := by rw [getD_in row j _ hlt, hbb]
    rw [hbb]
    refine Ev.step (f := fun k => if b.f0 = id then some ((i : Int), 0) else spec_WhereIs.l2 k id (i : Int) ((j + 1 : Nat) : Int) p st bu) (fun k => ?_) ?_
    · simp only [spec_WhereIs.l2]
      rw [if_pos (by omega), if_pos (by omega), rdRI_nat, hrow, if_pos (by omega), if_pos (by omega), rdI_nat, hg, succ_i j (by omega)]
    · by_cases e : b.f0 = id
      · have e2 : hasId id b = true := by unfold hasId; rw [e]; exact beq_self_eq_true id
        simp only [if_pos e, e2, Bool.true_or, if_true]
        exact Ev.now _
      · have e2 : hasId id b = false := by unfold hasId; simpa using e
        simp only [if_neg e, e2, Bool.false_or]
        exact ih (j + 1) (by omega) (by omega)
def rowsW (id : Int) (i : Nat) (l : List (List S61)) : Int × Int := if 0 ≤ firstR (fun r => r.any (hasId id)) i l then (firstR (fun r => r.any (hasId id)) i l, 0) else (0, 5)
theorem rowsW_cons (id : Int) (i : Nat) (r : List S61) (l : List (List S61)) : rowsW id i (r :: l) = if r.any (hasId id) = true then ((i : Int), 0) else rowsW id (i + 1) l := by
  unfold rowsW
  rw [firstR]
  cases r.any (hasId id) with
  | true => rw [if_pos rfl, if_pos (by omega), if_pos rfl]
  | false => simp only [Bool.false_eq_true, if_false]
theorem whereW1_ev (p : List Int) (st : List S61) (bu : List (List S61)) (id : Int) (hb : bu.length = 15) (hr : ∀ y ∈ bu, y.length ≤ 1048576) (d : Nat) :
    ∀ i : Nat, 15 - i = d → i ≤ 15 → Ev (fun k => spec_WhereIs.l1 k id (i : Int) p st bu) (rowsW id i (bu.drop i)) := by
  induction d with
  | zero =>
    intro i hd hi
    rw [List.drop_of_length_le (by omega)]
    refine Ev.step (f := fun _ => some (0, 5)) (fun k => ?_) (Ev.now _)
    simp only [spec_WhereIs.l1]
    rw [if_neg (by omega)]
  | succ d ih =>
    intro i hd hi
    have hlt : i < bu.length := by omega
    have hg : bu.getD i [] = bu[i] := getD_in bu i [] hlt
    rw [List.drop_eq_getElem_cons hlt, rowsW_cons]
    refine Ev.step (f := fun k => spec_WhereIs.l2 k id (i : Int) 0 p st bu) (fun k => ?_) ?_
    · simp only [spec_WhereIs.l1]
      rw [if_pos (by omega)]
    · have h := whereW2_ev p st bu id hb i (by omega) (by rw [hg]; exact hr _ (List.getElem_mem _)) _ (ih (i + 1) (by omega) (by omega)) (bu.getD i []).length 0 (by omega) (by omega)
      rw [List.drop_zero, hg] at h
      exact h
theorem whereW0_ev (p : List Int) (st : List S61) (bu : List (List S61)) (id : Int) (hs : st.length ≤ 1048576) (hb : bu.length = 15) (hr : ∀ y ∈ bu, y.length ≤ 1048576) (d : Nat) :
    ∀ i : Nat, st.length - i = d → i ≤ st.length → Ev (fun k => spec_WhereIs.l0 k id (i : Int) p st bu) (if (st.drop i).any (hasId id) = true then (-1, 0) else rowsW id 0 bu) := by
  induction d with
  | zero =>
    intro i hd hi
    rw [List.drop_of_length_le (by omega)]
    refine Ev.step (f := fun k => spec_WhereIs.l1 k id 0 p st bu) (fun k => ?_) ?_
    · simp only [spec_WhereIs.l0]
      rw [if_neg (by omega)]
    · rw [List.any_nil, if_neg (by decide)]
      have h := whereW1_ev p st bu id hb hr 15 0 (by omega) (by omega)
      rw [List.drop_zero] at h
      exact h
  | succ d ih =>
    intro i hd hi
    have hlt : i < st.length := by omega
    rw [List.drop_eq_getElem_cons hlt, List.any_cons]
    obtain ⟨b, hbb⟩ : ∃ b, st[i] = b := ⟨_, rfl⟩
    have hg : st.getD i z61 = b := by rw [getD_in st i _ hlt, hbb]
    rw [hbb]
    refine Ev.step (f := fun k => if b.f0 = id then some (-1, 0) else spec_WhereIs.l0 k id ((i + 1 : Nat) : Int) p st bu) (fun k => ?_) ?_
    · simp only [spec_WhereIs.l0]
      rw [if_pos (by omega), if_pos (by omega), rdI_nat, hg, succ_i i (by omega)]
    · by_cases e : b.f0 = id
      · have e2 : hasId id b = true := by unfold hasId; rw [e]; exact beq_self_eq_true id
        simp only [if_pos e, e2, Bool.true_or, if_true]
        exact Ev.now _
      · have e2 : hasId id b = false := by unfold hasId; simpa using e
        simp only [if_neg e, e2, Bool.false_or]
        exact ih (i + 1) (by omega) (by omega)
theorem specWhere_ev (p : List Int) (st : List S61) (bu : List (List S61)) (id : Int) (hs : st.length ≤ 1048576) (hr : ∀ y ∈ bu, y.length ≤ 1048576) : Ev (fun k => spec_WhereIs.f k p st bu id) (whereI p st bu id) := by
  unfold spec_WhereIs.f whereI codeI
  rw [ok_same]
  refine Ev.bind (specOK_ev p st bu) ?_
  cases ho : okS p st bu with
  | false => simp only [Bool.false_eq_true, if_false]; exact Ev.now _
  | true =>
    obtain ⟨_, hb⟩ := okS_facts ho
    simp only [if_true, l01_eq, Option.bind_some]
    unfold isIdB
    cases decide (0 ≤ id) && decide (id ≤ 11) with
    | false => simp only [Bool.false_eq_true, if_false]; exact Ev.now _
    | true =>
      simp only [if_true]
      have h := whereW0_ev p st bu id hs hb hr st.length 0 (by omega) (by omega)
      rw [List.drop_zero] at h
      exact h

end Go.Proofs.Ytmodpocjnafpdaa.Leaf
