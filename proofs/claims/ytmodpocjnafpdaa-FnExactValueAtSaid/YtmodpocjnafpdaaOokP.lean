/-
  The reference's OramOK answers as the program's. In plain words. Conditions: none.
-/
import Derived.Test.YtmodpocjnafpdaaOraQ
import Derived.Test.YtmodpocjnafpdaaOok
import Derived.Test.YtmodpocjnafpdaaPOrax14
import Derived.Test.YtmodpocjnafpdaaPOrax13
import Derived.Test.YtmodpocjnafpdaaPOrax9
namespace Go.Proofs.Ytmodpocjnafpdaa.Leaf
open Go.RowKit Go.Proofs.YtmodpocjnafpdaaW.PrintWords Go.Proofs.Ytmodpocjnafpdaa.POra

def idsOf (xs : List S61) : List Int := xs.map (·.f0)
def okB (p seen : List Int) (b : S61) : Bool := (decide (0 ≤ b.f0) && decide (b.f0 ≤ 11)) && ((p.getD b.f0.toNat 0 == b.f1) && ((decide (0 ≤ b.f2) && decide (b.f2 ≤ 999999)) && !seen.contains b.f0))
def scanS (p : List Int) : List Int → List S61 → Bool
  | _, [] => true
  | seen, b :: bs => okB p seen b && scanS p (seen ++ [b.f0]) bs
def rowS (p : List Int) (i : Nat) : List Int → List S61 → Bool
  | _, [] => true
  | seen, b :: bs => okB p seen b && (onP (i : Int) b.f1 && rowS p i (seen ++ [b.f0]) bs)
def rowsS (p : List Int) : List Int → Nat → List (List S61) → Bool
  | _, _, [] => true
  | seen, i, r :: rs => decide (r.length ≤ 2) && (rowS p i seen r && rowsS p (seen ++ idsOf r) (i + 1) rs)

theorem l01_eq (a h : Int) : spec_l01In.f a 0 h = some (decide (0 ≤ a) && decide (a ≤ h)) := by
  unfold spec_l01In.f
  by_cases g : 0 ≤ a
  · rw [if_pos g, decide_eq_true g]; rfl
  · rw [if_neg g, decide_eq_false g]; rfl
theorem l08In_loop (l : List Int) (hl : l.length ≤ 1000) (a : Int) (d : Nat) : ∀ i : Nat, l.length - i = d → i ≤ l.length → Ev (fun k => spec_l08In.l0 k l a (i : Int)) ((l.drop i).contains a) := by
  induction d with
  | zero =>
    intro i hd hi
    rw [List.drop_of_length_le (by omega)]
    refine Ev.step (f := fun _ => some false) (fun k => ?_) (Ev.now false)
    simp only [spec_l08In.l0]
    rw [if_neg (by omega)]
  | succ d ih =>
    intro i hd hi
    have hlt : i < l.length := by omega
    rw [List.drop_eq_getElem_cons hlt, List.contains_cons]
    refine Ev.step (f := fun k => if l[i] = a then some true else spec_l08In.l0 k l a ((i + 1 : Nat) : Int)) (fun k => ?_) ?_
    · simp only [spec_l08In.l0]
      rw [if_pos (by omega), if_pos (by omega), rd_nat, getD_in l i 0 hlt, succ_i i (by omega)]
    · by_cases e : l[i] = a
      · simp only [if_pos e]
        rw [show (a == l[i]) = true by simp [e], Bool.true_or]
        exact Ev.now true
      · simp only [if_neg e]
        rw [show (a == l[i]) = false by simp; exact fun h => e h.symm, Bool.false_or]
        exact ih (i + 1) (by omega) (by omega)
theorem l08In_ev (l : List Int) (hl : l.length ≤ 1000) (a : Int) : Ev (fun k => spec_l08In.f k l a) (l.contains a) := l08In_loop l hl a l.length 0 (by omega) (by omega)
theorem l08Block_ev (p : List Int) (st : List S61) (bu : List (List S61)) (hp : p.length = 12) (seen : List Int) (hs : seen.length ≤ 1000) (b : S61) :
    Ev (fun k => spec_l08Block.f k p st bu b.f0 b.f1 b.f2 seen) (okB p seen b) := by
  unfold spec_l08Block.f okB
  simp only [l01_eq, Option.bind_some]
  by_cases h : 0 ≤ b.f0 ∧ b.f0 ≤ 11
  · obtain ⟨h0, h1⟩ := h
    have h2 : b.f0 < (p.length : Int) := by omega
    have e1 : rd p b.f0 = p.getD b.f0.toNat 0 := rfl
    simp only [decide_eq_true h0, decide_eq_true h1, Bool.and_self, if_true, if_pos h0, if_pos h2, e1, Bool.true_and]
    by_cases h3 : p.getD b.f0.toNat 0 = b.f1
    · simp only [h3, beq_self_eq_true, Bool.true_and]
      cases decide (0 ≤ b.f2) && decide (b.f2 ≤ 999999) with
      | true =>
        simp only [if_true, Bool.true_and]
        exact Ev.bind (l08In_ev seen hs b.f0) (Ev.now _)
      | false => simp only [Bool.false_eq_true, if_false, Bool.false_and]; exact Ev.now false
    · have h3b : (p.getD b.f0.toNat 0 == b.f1) = false := by simpa using h3
      simp only [if_neg h3, h3b, Bool.false_and]
      exact Ev.now false
  · have hd : (decide (0 ≤ b.f0) && decide (b.f0 ≤ 11)) = false := by
      rw [Bool.and_eq_false_iff]
      by_cases h0 : 0 ≤ b.f0
      · right; exact decide_eq_false (fun h1 => h ⟨h0, h1⟩)
      · left; exact decide_eq_false h0
    simp only [hd, Bool.false_eq_true, if_false, Bool.false_and]
    exact Ev.now false

/-! the reference's loops -/
theorem okB_leaf {p seen : List Int} {b : S61} (hp : p.length = 12) (hl : p.all inLeaves = true) (h : okB p seen b = true) : inLeaves b.f1 = true := by
  unfold okB at h
  simp only [Bool.and_eq_true, decide_eq_true_eq, beq_iff_eq] at h
  obtain ⟨⟨h0, h1⟩, h2, _⟩ := h
  rw [← h2, getD_in p b.f0.toNat 0 (by omega)]
  exact List.all_eq_true.1 hl _ (List.getElem_mem _)

theorem ids_cons (b : S61) (bs : List S61) (seen : List Int) : seen ++ idsOf (b :: bs) = (seen ++ [b.f0]) ++ idsOf bs := by simp [idsOf]

theorem l2_ev (p : List Int) (st : List S61) (bu : List (List S61)) (hp : p.length = 12) (hl : p.all inLeaves = true) (hb : bu.length = 15) (i : Nat) (hi : i < 15) (hr : (bu.getD i []).length ≤ 2)
    (hnext : ∀ seen : List Int, seen.length ≤ 100 + 2 * (i + 1) → Ev (fun k => spec_OramOK.l1 k seen ((i + 1 : Nat) : Int) p st bu) (rowsS p seen (i + 1) (bu.drop (i + 1)))) (d : Nat) :
    ∀ (j : Nat) (seen : List Int), (bu.getD i []).length - j = d → j ≤ (bu.getD i []).length → seen.length ≤ 100 + 2 * i + j → Ev (fun k => spec_OramOK.l2 k seen (i : Int) (j : Int) p st bu) (rowS p i seen ((bu.getD i []).drop j) && rowsS p (seen ++ idsOf ((bu.getD i []).drop j)) (i + 1) (bu.drop (i + 1))) := by
  induction d with
  | zero =>
    intro j seen hd hj hs
    rw [List.drop_of_length_le (by omega)]
    refine Ev.step (f := fun k => spec_OramOK.l1 k seen ((i + 1 : Nat) : Int) p st bu) (fun k => ?_) ?_
    · simp only [spec_OramOK.l2]
      rw [if_pos (by omega), if_pos (by omega), rdRI_nat, if_neg (by omega), succ_i i (by omega)]
    · have := hnext seen (by omega)
      simpa [rowS, idsOf] using this
  | succ d ih =>
    intro j seen hd hj hs
    have hlt : j < (bu.getD i []).length := by omega
    obtain ⟨row, hrow⟩ : ∃ row, bu.getD i [] = row := ⟨_, rfl⟩
    rw [hrow] at hlt ih hr ⊢
    rw [hrow] at hd hj
    rw [List.drop_eq_getElem_cons hlt, ids_cons]
    obtain ⟨b, hbb⟩ : ∃ b, row[j] = b := ⟨_, rfl⟩
    have hg : row.getD j z61 = b := by rw [getD_in row j _ hlt, hbb]
    rw [hbb]
    simp only [rowS]
    refine Ev.step (f := fun k => (spec_l08Block.f k p st bu b.f0 b.f1 b.f2 seen).bind fun t => if t = true then (spec_l08On.f k (i : Int) b.f1).bind fun u => if u = true then spec_OramOK.l2 k (seen ++ [b.f0]) (i : Int) ((j + 1 : Nat) : Int) p st bu else some false else some false) (fun k => ?_) ?_
    · simp only [spec_OramOK.l2]
      rw [if_pos (by omega), if_pos (by omega), rdRI_nat, hrow, if_pos (by omega), if_pos (by omega), rdI_nat, hg, succ_i j (by omega), if_pos (show seen.length < 17592186044416 by omega)]
    · refine Ev.bind (l08Block_ev p st bu hp seen (by omega) b) ?_
      cases ho : okB p seen b with
      | false => simp only [Bool.false_eq_true, if_false, Bool.false_and]; exact Ev.now false
      | true =>
        obtain ⟨g2, g3⟩ := inLeaves_iff (okB_leaf hp hl ho)
        have hon : Ev (fun k => spec_l08On.f k (i : Int) b.f1) (onP (i : Int) b.f1) := ⟨20, fun k hk => at_rounds (fun k => spec_l08On.mono (i : Int) b.f1 k) hk (onP_both (i : Int) b.f1 (by omega) (by omega) g2 g3).2⟩
        simp only [if_true, Bool.true_and]
        refine Ev.bind hon ?_
        cases onP (i : Int) b.f1 with
        | false => simp only [Bool.false_eq_true, if_false, Bool.false_and]; exact Ev.now false
        | true =>
          simp only [if_true, Bool.true_and]
          exact ih (j + 1) (seen ++ [b.f0]) (by omega) (by omega) (by simp; omega)

theorem l1_ev (p : List Int) (st : List S61) (bu : List (List S61)) (hp : p.length = 12) (hl : p.all inLeaves = true) (hb : bu.length = 15) (d : Nat) :
    ∀ (i : Nat) (seen : List Int), 15 - i = d → i ≤ 15 → seen.length ≤ 100 + 2 * i → Ev (fun k => spec_OramOK.l1 k seen (i : Int) p st bu) (rowsS p seen i (bu.drop i)) := by
  induction d with
  | zero =>
    intro i seen hd hi hs
    rw [List.drop_of_length_le (by omega)]
    refine Ev.step (f := fun _ => some true) (fun k => ?_) (Ev.now true)
    simp only [spec_OramOK.l1]
    rw [if_neg (by omega)]
  | succ d ih =>
    intro i seen hd hi hs
    have hlt : i < bu.length := by omega
    have hg : bu.getD i [] = bu[i] := getD_in bu i [] hlt
    rw [List.drop_eq_getElem_cons hlt]
    simp only [rowsS]
    refine Ev.step (f := fun k => if (bu[i].length : Int) > 2 then some false else spec_OramOK.l2 k seen (i : Int) 0 p st bu) (fun k => ?_) ?_
    · simp only [spec_OramOK.l1]
      rw [if_pos (by omega), if_pos (by omega), if_pos (by omega), rdRI_nat, hg]
    · by_cases h2 : bu[i].length ≤ 2
      · have h2' : ¬ (bu[i].length : Int) > 2 := by omega
        simp only [if_neg h2', decide_eq_true h2, Bool.true_and]
        have h := l2_ev p st bu hp hl hb i (by omega) (by rw [hg]; exact h2) (fun seen hs => ih (i + 1) seen (by omega) (by omega) hs) (bu.getD i []).length 0 seen (by omega) (by omega) (by omega)
        rw [List.drop_zero, hg] at h
        exact h
      · have h2' : (bu[i].length : Int) > 2 := by omega
        simp only [if_pos h2', decide_eq_false h2, Bool.false_and]
        exact Ev.now false

theorem l0_ev (p : List Int) (st : List S61) (bu : List (List S61)) (hp : p.length = 12) (hl : p.all inLeaves = true) (hb : bu.length = 15) (hst : st.length ≤ 12) (d : Nat) :
    ∀ (i : Nat) (seen : List Int), st.length - i = d → i ≤ st.length → seen.length ≤ i → Ev (fun k => spec_OramOK.l0 k seen (i : Int) p st bu) (scanS p seen (st.drop i) && rowsS p (seen ++ idsOf (st.drop i)) 0 bu) := by
  induction d with
  | zero =>
    intro i seen hd hi hs
    rw [List.drop_of_length_le (by omega)]
    refine Ev.step (f := fun k => spec_OramOK.l1 k seen 0 p st bu) (fun k => ?_) ?_
    · simp only [spec_OramOK.l0]
      rw [if_neg (by omega)]
    · have := l1_ev p st bu hp hl hb 15 0 seen (by omega) (by omega) (by omega)
      simpa [scanS, idsOf] using this
  | succ d ih =>
    intro i seen hd hi hs
    have hlt : i < st.length := by omega
    rw [List.drop_eq_getElem_cons hlt, ids_cons]
    obtain ⟨b, hbb⟩ : ∃ b, st[i] = b := ⟨_, rfl⟩
    have hg : st.getD i z61 = b := by rw [getD_in st i _ hlt, hbb]
    rw [hbb]
    simp only [scanS]
    refine Ev.step (f := fun k => (spec_l08Block.f k p st bu b.f0 b.f1 b.f2 seen).bind fun t => if t = true then spec_OramOK.l0 k (seen ++ [b.f0]) ((i + 1 : Nat) : Int) p st bu else some false) (fun k => ?_) ?_
    · simp only [spec_OramOK.l0]
      rw [if_pos (by omega), if_pos (by omega), rdI_nat, hg, succ_i i (by omega), if_pos (show seen.length < 17592186044416 by omega)]
    · refine Ev.bind (l08Block_ev p st bu hp seen (by omega) b) ?_
      cases okB p seen b with
      | false => simp only [Bool.false_eq_true, if_false, Bool.false_and]; exact Ev.now false
      | true =>
        simp only [if_true, Bool.true_and]
        exact ih (i + 1) (seen ++ [b.f0]) (by omega) (by omega) (by simp; omega)

end Go.Proofs.Ytmodpocjnafpdaa.Leaf
