/-
  FnExactOramOK answers true: OramOK gives what the reference gives. Conditions: none but those of the row.
-/
import Derived.Test.YtmodpocjnafpdaaOokP
import Derived.Test.YtmodpocjnafpdaaOokW
import Derived.Test.YtmodpocjnafpdaaOpenOra
namespace Go.Proofs.Ytmodpocjnafpdaa.Leaf
open Go.RowKit Go.Proofs.YtmodpocjnafpdaaW.PrintWords Go.Proofs.Ytmodpocjnafpdaa.POra
theorem all_getD2 (l : List Int) (v : Int → Bool) : (List.range l.length).all (fun i => v (l.getD i 0)) = l.all v := by
  induction l with
  | nil => rfl
  | cons x xs ih =>
    rw [List.length_cons, List.range_succ_eq_map, List.all_cons, List.all_map, List.all_cons, ← ih]
    rfl
theorem l08Leaves_ev2 (l : List Int) (hl : l.length ≤ 9223372036854775807) : Ev (fun k => spec_l08Leaves.f k l) (l.all inLeaves) := by
  have h := cmp_ev (fun k i => spec_l08Leaves.l0 k l i) l.length (fun _ i => some (inLeaves (l.getD i 0))) (fun i => inLeaves (l.getD i 0)) (fun _ => some true) true (fun k i hi => by
    simp only [spec_l08Leaves.l0]
    rw [if_pos (by omega), if_pos (by omega), rd_nat, l01_eq, succ_i i (by omega)]
    rfl) (fun i _ => Ev.now _) (fun k => by simp only [spec_l08Leaves.l0]; rw [if_neg (by omega)]) (Ev.now true)
  rw [Bool.and_true, all_getD2] at h
  exact h
def okS (p : List Int) (st : List S61) (bu : List (List S61)) : Bool :=
  decide (p.length = 12) && (p.all inLeaves && (decide (st.length ≤ 12) && (decide (bu.length = 15) && (scanS p [] st && rowsS p (idsOf st) 0 bu))))
theorem specOK_ev (p : List Int) (st : List S61) (bu : List (List S61)) : Ev (fun k => spec_OramOK.f k p st bu) (okS p st bu) := by
  have no : Ev (fun k => spec_OramOK.j0 k true p st bu) false := Ev.step (f := fun _ => some false) (fun k => by simp only [spec_OramOK.j0]; rw [if_pos trivial]) (Ev.now false)
  unfold spec_OramOK.f okS
  by_cases h0 : p.length = 12
  · have h0' : (p.length : Int) = 12 := by omega
    simp only [if_pos h0', decide_eq_true h0, Bool.true_and]
    refine Ev.bind (l08Leaves_ev2 p (by omega)) ?_
    cases hl : p.all inLeaves with
    | false => simp only [Bool.false_eq_true, if_false, Bool.false_and]; exact no
    | true =>
      simp only [if_true, Bool.true_and]
      by_cases h1 : st.length ≤ 12
      · have h1' : ¬ (st.length : Int) > 12 := by omega
        simp only [if_neg h1', decide_eq_true h1, Bool.true_and]
        by_cases h2 : bu.length = 15
        · have h2' : ((bu.length : Int) != 15) = false := by simp; omega
          rw [decide_eq_true h2, Bool.true_and, h2']
          refine Ev.step (f := fun k => spec_OramOK.l0 k [] 0 p st bu) (fun k => by simp only [spec_OramOK.j0]; rw [if_neg (by decide)]) ?_
          have := l0_ev p st bu h0 hl h2 h1 st.length 0 [] (by omega) (by omega) (by simp)
          simpa using this
        · have h2' : ((bu.length : Int) != 15) = true := by simp; omega
          rw [decide_eq_false h2, Bool.false_and, h2']
          exact no
      · have h1' : (st.length : Int) > 12 := by omega
        simp only [if_pos h1', decide_eq_false h1, Bool.false_and]
        exact no
  · have h0' : ¬ (p.length : Int) = 12 := by omega
    simp only [if_neg h0', decide_eq_false h0, Bool.false_and]
    exact no
theorem blk_okB {p seen : List Int} (seen' : List Int) (hp : p.length = 12) (hl : p.all inLeaves = true) (hs : ∀ a, seen.contains a = seen'.contains a) (b : S61) :
    (isBlk b && (b.f1 == p.getD b.f0.toNat 0 && !seen'.contains b.f0)) = okB p seen b := by
  cases ho : okB p seen b with
  | true =>
    have hL := okB_leaf hp hl ho
    unfold okB at ho
    simp only [Bool.and_eq_true, decide_eq_true_eq, beq_iff_eq, Bool.not_eq_true'] at ho
    obtain ⟨⟨h0, h1⟩, h2, ⟨h3, h4⟩, h5⟩ := ho
    unfold isBlk
    rw [hL, h2, ← hs, h5]
    simp [h0, h1, h3, h4]
  | false =>
    cases hi : (isBlk b && (b.f1 == p.getD b.f0.toNat 0 && !seen'.contains b.f0)) with
    | false => rfl
    | true =>
      exfalso
      unfold isBlk at hi
      simp only [Bool.and_eq_true, decide_eq_true_eq, beq_iff_eq, Bool.not_eq_true'] at hi
      obtain ⟨⟨⟨h0, h1⟩, _, h3, h4⟩, h2, h5⟩ := hi
      have : okB p seen b = true := by
        unfold okB
        rw [hs, h5, ← h2]
        simp [h0, h1, h3, h4]
      rw [this] at ho
      cases ho
theorem scan_eq (p : List Int) (hp : p.length = 12) (hl : p.all inLeaves = true) : ∀ (xs : List S61) (seen seen' : List Int), (∀ a, seen.contains a = seen'.contains a) → scanI p seen' xs = scanS p seen xs
  | [], _, _, _ => rfl
  | b :: bs, seen, seen', hs => by
    have h := blk_okB seen' hp hl hs b
    have ih := scan_eq p hp hl bs (seen ++ [b.f0]) (b.f0 :: seen') (fun a => by
      rw [List.contains_cons, ← hs a]
      by_cases e : a = b.f0 <;> simp [List.contains_eq_mem, List.mem_append, e])
    rw [scanI, scanS, ← h, ih]
    cases isBlk b <;> cases (b.f1 == p.getD b.f0.toNat 0) <;> cases seen'.contains b.f0 <;> rfl
theorem scan_app (p : List Int) : ∀ (xs ys : List S61) (seen : List Int), scanS p seen (xs ++ ys) = (scanS p seen xs && scanS p (seen ++ idsOf xs) ys)
  | [], ys, seen => by simp [scanS, idsOf]
  | b :: bs, ys, seen => by
    rw [List.cons_append, scanS, scanS, scan_app p bs ys, ids_cons, Bool.and_assoc]
theorem rowS_eq (p : List Int) (i : Nat) : ∀ (r : List S61) (seen : List Int), rowS p i seen r = (scanS p seen r && r.all (fun b => onP (i : Int) b.f1))
  | [], _ => rfl
  | b :: bs, seen => by
    rw [rowS, scanS, rowS_eq p i bs, List.all_cons]
    cases okB p seen b <;> cases onP (i : Int) b.f1 <;> cases scanS p (seen ++ [b.f0]) bs <;> rfl
theorem scan_leaves (p : List Int) (hp : p.length = 12) (hl : p.all inLeaves = true) : ∀ (r : List S61) (seen : List Int), scanS p seen r = true → r.all (fun b => inLeaves b.f1) = true
  | [], _, _ => rfl
  | b :: bs, seen, h => by
    rw [scanS, Bool.and_eq_true] at h
    rw [List.all_cons, okB_leaf hp hl h.1, scan_leaves p hp hl bs _ h.2]; rfl
theorem all_and {α : Type} (l : List α) (f g : α → Bool) : l.all (fun x => f x && g x) = (l.all f && l.all g) := by
  induction l with
  | nil => rfl
  | cons x xs ih =>
    rw [List.all_cons, List.all_cons, List.all_cons, ih]
    cases f x <;> cases g x <;> cases xs.all f <;> rfl
/-- The buckets from one on. -/
def rowsL : Nat → List (List S61) → Bool
  | _, [] => true
  | i, r :: rs => rowOK i r && rowsL (i + 1) rs
theorem rows_eq (p : List Int) (hp : p.length = 12) (hl : p.all inLeaves = true) : ∀ (rs : List (List S61)) (i : Nat) (seen : List Int), (rowsL i rs && scanS p seen rs.flatten) = rowsS p seen i rs
  | [], _, _ => by simp [rowsL, rowsS, scanS]
  | r :: rs, i, seen => by
    rw [rowsL, rowsS, List.flatten_cons, scan_app, ← rows_eq p hp hl rs (i + 1) (seen ++ idsOf r), rowS_eq]
    unfold rowOK
    have hpl : r.all (placed (i : Int)) = (r.all (fun b => inLeaves b.f1) && r.all (fun b => onP (i : Int) b.f1)) := all_and r _ _
    rw [hpl]
    cases hs : scanS p seen r with
    | false =>
      cases decide (r.length ≤ 2) <;> cases (r.all (fun b => inLeaves b.f1) && r.all (fun b => onP (i : Int) b.f1)) <;> cases rowsL (i + 1) rs <;> rfl
    | true =>
      rw [scan_leaves p hp hl r seen hs]
      cases decide (r.length ≤ 2) <;> cases r.all (fun b => onP (i : Int) b.f1) <;> cases rowsL (i + 1) rs <;> rfl
theorem rowsL_from (bu : List (List S61)) (d : Nat) : ∀ i : Nat, bu.length - i = d → i ≤ bu.length → rowsFrom bu i = rowsL i (bu.drop i) := by
  induction d with
  | zero =>
    intro i hd hi
    obtain rfl : i = bu.length := by omega
    rw [rowsFrom_end, List.drop_length]; rfl
  | succ d ih =>
    intro i hd hi
    have hlt : i < bu.length := by omega
    rw [rowsFrom_step bu i hlt, List.drop_eq_getElem_cons hlt, rowsL, ih (i + 1) (by omega) (by omega)]
theorem filter_le (l : List Nat) (f g : Nat → Bool) (h : ∀ x, g x = true → f x = true) : (l.filter g).length ≤ (l.filter f).length := by
  induction l with
  | nil => simp
  | cons x xs ih =>
    rw [List.filter_cons, List.filter_cons]
    cases hg : g x with
    | true => rw [h x hg]; simp; exact ih
    | false =>
      cases f x with
      | true => simp; omega
      | false => simpa using ih
theorem filter_lt (l : List Nat) (f g : Nat → Bool) (h : ∀ x, g x = true → f x = true) (a : Nat) (ha : a ∈ l) (hf : f a = true) (hg : g a = false) : (l.filter g).length < (l.filter f).length := by
  induction l with
  | nil => simp at ha
  | cons x xs ih =>
    rw [List.filter_cons, List.filter_cons]
    rcases List.mem_cons.1 ha with rfl | hm
    · rw [hf, hg]
      have := filter_le xs f g h
      simp; omega
    · have := ih hm
      cases hg2 : g x with
      | true => rw [h x hg2]; simp; exact this
      | false =>
        cases f x with
        | true => simp; omega
        | false => simpa using this
def free (seen : List Int) : Nat := ((List.range 12).filter (fun (j : Nat) => !seen.contains (j : Int))).length
theorem free_step (p seen : List Int) (b : S61) (h : okB p seen b = true) : free (seen ++ [b.f0]) + 1 ≤ free seen := by
  unfold okB at h
  simp only [Bool.and_eq_true, decide_eq_true_eq, beq_iff_eq, Bool.not_eq_true'] at h
  obtain ⟨⟨h0, h1⟩, _, _, h5⟩ := h
  obtain ⟨m, hm⟩ := Int.eq_ofNat_of_zero_le h0
  unfold free
  refine filter_lt _ _ _ (fun x hx => ?_) m (List.mem_range.2 (by omega)) ?_ ?_
  · simp [List.contains_eq_mem] at hx ⊢
    exact hx.1
  · rw [← hm, h5]; rfl
  · rw [← hm]; simp [List.contains_eq_mem]
theorem scan_len (p : List Int) : ∀ (xs : List S61) (seen : List Int), scanS p seen xs = true → xs.length ≤ free seen
  | [], _, _ => Nat.zero_le _
  | b :: bs, seen, h => by
    rw [scanS, Bool.and_eq_true] at h
    have h1 := free_step p seen b h.1
    have h2 := scan_len p bs _ h.2
    rw [List.length_cons]; omega
theorem free_nil : free [] = 12 := by decide
theorem ok_same (p : List Int) (st : List S61) (bu : List (List S61)) : okI p st bu = okS p st bu := by
  unfold okI okS
  by_cases h0 : p.length = 12
  · rw [decide_eq_true h0, Bool.true_and, Bool.true_and]
    cases hl : p.all inLeaves with
    | false => rfl
    | true =>
      rw [Bool.true_and, Bool.true_and, scan_eq p h0 hl (st ++ bu.flatten) [] [] (fun _ => rfl), scan_app, List.nil_append, rowsL_from bu bu.length 0 (by omega) (by omega), List.drop_zero, ← rows_eq p h0 hl bu 0 (idsOf st)]
      cases hs : scanS p [] st with
      | false => cases decide (bu.length = 15) <;> cases rowsL 0 bu <;> cases decide (st.length ≤ 12) <;> rfl
      | true =>
        have := scan_len p st [] hs
        rw [free_nil] at this
        rw [decide_eq_true this]
        cases decide (bu.length = 15) <;> cases rowsL 0 bu <;> rfl
  · rw [decide_eq_false h0]; rfl
end Go.Proofs.Ytmodpocjnafpdaa.Leaf
