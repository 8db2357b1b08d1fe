/-
  The reference's ValueAt answers as the program's. In plain words. Conditions: none.
-/
import Derived.Test.YtmodpocjnafpdaaValue
import Derived.Test.YtmodpocjnafpdaaOokE
import Derived.Test.YtmodpocjnafpdaaPOrax16
namespace Go.Proofs.Ytmodpocjnafpdaa.Leaf
open Go.RowKit Go.Proofs.YtmodpocjnafpdaaW.PrintWords Go.Proofs.Ytmodpocjnafpdaa.POra

theorem valueW2_ev (p : List Int) (st : List S61) (bu : List (List S61)) (id : Int) (i : Nat) (hi : i < bu.length) (hi2 : bu.length ≤ 1048576) (hr : (bu.getD i []).length ≤ 1048576) (ys : List S61)
    (hnext : Ev (fun k => spec_l08Value.l1 k id ((i + 1 : Nat) : Int) p st bu) (findV id ys)) (d : Nat) :
    ∀ j : Nat, (bu.getD i []).length - j = d → j ≤ (bu.getD i []).length → Ev (fun k => spec_l08Value.l2 k id (i : Int) (j : Int) p st bu) (findV id ((bu.getD i []).drop j ++ ys)) := by
  induction d with
  | zero =>
    intro j hd hj
    rw [List.drop_of_length_le (by omega), List.nil_append]
    refine Ev.step (f := fun k => spec_l08Value.l1 k id ((i + 1 : Nat) : Int) p st bu) (fun k => ?_) hnext
    simp only [spec_l08Value.l2]
    rw [if_pos (by omega), if_pos (by omega), rdRI_nat, if_neg (by omega), succ_i i (by omega)]
  | succ d ih =>
    intro j hd hj
    have hlt : j < (bu.getD i []).length := by omega
    obtain ⟨row, hrow⟩ : ∃ row, bu.getD i [] = row := ⟨_, rfl⟩
    rw [hrow] at hlt ih hr hd hj ⊢
    rw [List.drop_eq_getElem_cons hlt, List.cons_append, findV]
    obtain ⟨b, hbb⟩ : ∃ b, row[j] = b := ⟨_, rfl⟩
    have hg : row.getD j z61 = b := by rw [getD_in row j _ hlt, hbb]
    rw [hbb]
    refine Ev.step (f := fun k => if b.f0 = id then some b.f2 else spec_l08Value.l2 k id (i : Int) ((j + 1 : Nat) : Int) p st bu) (fun k => ?_) ?_
    · simp only [spec_l08Value.l2]
      rw [if_pos (by omega), if_pos (by omega), rdRI_nat, hrow, if_pos (by omega), if_pos (by omega), rdI_nat, hg, succ_i j (by omega)]
    · by_cases e : b.f0 = id
      · simp only [if_pos e]
        exact Ev.now _
      · simp only [if_neg e]
        exact ih (j + 1) (by omega) (by omega)
theorem valueW1_ev (p : List Int) (st : List S61) (bu : List (List S61)) (id : Int) (hb : bu.length = 15) (hr : ∀ y ∈ bu, y.length ≤ 1048576) (d : Nat) :
    ∀ i : Nat, bu.length - i = d → i ≤ bu.length → Ev (fun k => spec_l08Value.l1 k id (i : Int) p st bu) (findV id (bu.drop i).flatten) := by
  induction d with
  | zero =>
    intro i hd hi
    rw [List.drop_of_length_le (by omega)]
    refine Ev.step (f := fun _ => some 0) (fun k => ?_) (Ev.now _)
    simp only [spec_l08Value.l1]
    rw [if_neg (by omega)]
  | succ d ih =>
    intro i hd hi
    have hlt : i < bu.length := by omega
    have hg : bu.getD i [] = bu[i] := getD_in bu i [] hlt
    rw [List.drop_eq_getElem_cons hlt, List.flatten_cons]
    refine Ev.step (f := fun k => spec_l08Value.l2 k id (i : Int) 0 p st bu) (fun k => ?_) ?_
    · simp only [spec_l08Value.l1]
      rw [if_pos (by omega)]
    · have h := valueW2_ev p st bu id i hlt (by omega) (by rw [hg]; exact hr _ (List.getElem_mem _)) _ (ih (i + 1) (by omega) (by omega)) (bu.getD i []).length 0 (by omega) (by omega)
      rw [List.drop_zero, hg] at h
      exact h
theorem valueW0_ev (p : List Int) (st : List S61) (bu : List (List S61)) (id : Int) (hs : st.length ≤ 1048576) (hb : bu.length = 15) (hr : ∀ y ∈ bu, y.length ≤ 1048576) (d : Nat) :
    ∀ i : Nat, st.length - i = d → i ≤ st.length → Ev (fun k => spec_l08Value.l0 k id (i : Int) p st bu) (findV id (st.drop i ++ bu.flatten)) := by
  induction d with
  | zero =>
    intro i hd hi
    rw [List.drop_of_length_le (by omega), List.nil_append]
    refine Ev.step (f := fun k => spec_l08Value.l1 k id 0 p st bu) (fun k => ?_) ?_
    · simp only [spec_l08Value.l0]
      rw [if_neg (by omega)]
    · have h := valueW1_ev p st bu id hb hr bu.length 0 (by omega) (by omega)
      rw [List.drop_zero] at h
      exact h
  | succ d ih =>
    intro i hd hi
    have hlt : i < st.length := by omega
    rw [List.drop_eq_getElem_cons hlt, List.cons_append, findV]
    obtain ⟨b, hbb⟩ : ∃ b, st[i] = b := ⟨_, rfl⟩
    have hg : st.getD i z61 = b := by rw [getD_in st i _ hlt, hbb]
    rw [hbb]
    refine Ev.step (f := fun k => if b.f0 = id then some b.f2 else spec_l08Value.l0 k id ((i + 1 : Nat) : Int) p st bu) (fun k => ?_) ?_
    · simp only [spec_l08Value.l0]
      rw [if_pos (by omega), if_pos (by omega), rdI_nat, hg, succ_i i (by omega)]
    · by_cases e : b.f0 = id
      · simp only [if_pos e]
        exact Ev.now _
      · simp only [if_neg e]
        exact ih (i + 1) (by omega) (by omega)
theorem okS_len {p : List Int} {st : List S61} {bu : List (List S61)} (h : okS p st bu = true) : bu.length = 15 := by
  unfold okS at h
  simp only [Bool.and_eq_true, decide_eq_true_eq] at h
  exact h.2.2.2.1
theorem specValue_ev (p : List Int) (st : List S61) (bu : List (List S61)) (id : Int) (hs : st.length ≤ 1048576) (hr : ∀ y ∈ bu, y.length ≤ 1048576) : Ev (fun k => spec_ValueAt.f k p st bu id) (valueI p st bu id) := by
  unfold spec_ValueAt.f valueI codeI
  rw [ok_same]
  refine Ev.bind (specOK_ev p st bu) ?_
  cases ho : okS p st bu with
  | false => simp only [Bool.false_eq_true, if_false]; exact Ev.now _
  | true =>
    have hb := okS_len ho
    simp only [if_true, l01_eq, Option.bind_some]
    unfold isIdB
    cases decide (0 ≤ id) && decide (id ≤ 11) with
    | false => simp only [Bool.false_eq_true, if_false]; exact Ev.now _
    | true =>
      simp only [if_true]
      have h := valueW0_ev p st bu id hs hb hr st.length 0 (by omega) (by omega)
      rw [List.drop_zero] at h
      exact Ev.bind h (Ev.now _)

end Go.Proofs.Ytmodpocjnafpdaa.Leaf
