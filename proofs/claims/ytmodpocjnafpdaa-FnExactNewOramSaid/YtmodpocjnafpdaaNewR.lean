/-
  FnExactNewOram answers true: NewOram gives what the reference gives. Conditions: none but those of the row.
-/
import Derived.Test.YtmodpocjnafpdaaOpenOra
import Derived.Test.YtmodpocjnafpdaaNewQ
import Derived.Test.YtmodpocjnafpdaaOraL
import Derived.Test.YtmodpocjnafpdaaPOrax11
import Derived.Test.YtmodpocjnafpdaaPOrax12
import Derived.Test.YtmodpocjnafpdaaPOrax9
namespace Go.Proofs.Ytmodpocjnafpdaa.Leaf
open Go.RowKit Go.Proofs.YtmodpocjnafpdaaW.PrintWords Go.Proofs.Ytmodpocjnafpdaa.POra

theorem markInt_loop (d : Nat) : ∀ (k i : Nat) (xs : List Int) (v : Int), i + d = xs.length → d < k → 0 ≤ v → v + d ≤ 4611686018427387904 → xs.length ≤ 4611686018427387904 →
    ∃ ys, laws_markIntS.l0 k xs v (i : Int) = some (v + d, ys) ∧ ys.length = xs.length ∧ (∀ j, j < i → ys.getD j 0 = xs.getD j 0) ∧ (∀ j, i ≤ j → j < xs.length → ys.getD j 0 = v + ((j - i : Nat) : Int)) := by
  induction d with
  | zero =>
    intro k i xs v hi hk _ _ _
    obtain ⟨k, rfl⟩ : ∃ m, k = m + 1 := ⟨k - 1, by omega⟩
    refine ⟨xs, ?_, rfl, fun _ _ => rfl, fun j h1 h2 => by omega⟩
    simp only [laws_markIntS.l0]
    rw [if_neg (by omega)]; simp
  | succ d ih =>
    intro k i xs v hi hk hv hm hl
    obtain ⟨k, rfl⟩ : ∃ m, k = m + 1 := ⟨k - 1, by omega⟩
    obtain ⟨ys, h1, h2, h3, h4⟩ := ih k (i + 1) (xs.set i v) (v + 1) (by simp; omega) (by omega) (by omega) (by omega) (by simpa using hl)
    refine ⟨ys, ?_, by simpa using h2, ?_, ?_⟩
    · simp only [laws_markIntS.l0]
      rw [if_pos (by omega), if_pos (by omega), show wrap64 (v + 1) = v + 1 from by unfold wrap64; omega, show wrap64 ((i : Int) + 1) = ((i + 1 : Nat) : Int) from by unfold wrap64; omega, Int.toNat_natCast, h1]
      congr 2; omega
    · intro j hj
      rw [h3 j (by omega)]
      simp [List.getD_eq_getElem?_getD, show ¬ i = j by omega]
    · intro j hj1 hj2
      by_cases e : i = j
      · subst e
        rw [h3 i (by omega)]
        simp [List.getD_eq_getElem?_getD, hj2]
      · rw [h4 j (by omega) (by simpa using hj2)]; omega

theorem heldInt_loop (d : Nat) : ∀ (k i : Nat) (ys : List Int) (v : Int), i + d = ys.length → d < k → 0 ≤ v → v + d ≤ 4611686018427387904 → ys.length ≤ 4611686018427387904 →
    (∀ j, i ≤ j → j < ys.length → ys.getD j 0 = v + ((j - i : Nat) : Int)) → laws_heldIntS.l0 k ys v (i : Int) = some (v + d) := by
  induction d with
  | zero =>
    intro k i ys v hi hk _ _ _ _
    obtain ⟨k, rfl⟩ : ∃ m, k = m + 1 := ⟨k - 1, by omega⟩
    simp only [laws_heldIntS.l0]
    rw [if_neg (by omega)]; simp
  | succ d ih =>
    intro k i ys v hi hk hv hm hl hy
    obtain ⟨k, rfl⟩ : ∃ m, k = m + 1 := ⟨k - 1, by omega⟩
    simp only [laws_heldIntS.l0]
    have e := hy i (by omega) (by omega)
    have e2 : rd ys (i : Int) = v := by simp only [rd, Int.toNat_natCast]; rw [e]; simp
    rw [if_pos (by omega), if_pos (by omega), if_pos e2, show wrap64 (v + 1) = v + 1 from by unfold wrap64; omega, show wrap64 ((i : Int) + 1) = ((i + 1 : Nat) : Int) from by unfold wrap64; omega, ih k (i + 1) ys (v + 1) (by omega) (by omega) (by omega) (by omega) hl (fun j h1 h2 => by rw [hy j (by omega) h2]; omega)]
    congr 1; omega

/-- What is marked is held: a list of whole numbers. -/
theorem markInt_held (k : Nat) (xs : List Int) (v : Int) (hv : 0 ≤ v) (hm : v + xs.length ≤ 4611686018427387904) (hk : xs.length < k) : ∃ ys, laws_markIntS.f k xs v = some (v + xs.length, ys) ∧ laws_heldIntS.f k ys v = some (v + xs.length) := by
  obtain ⟨ys, h1, h2, _, h4⟩ := markInt_loop xs.length k 0 xs v (by omega) hk hv hm (by omega)
  refine ⟨ys, h1, ?_⟩
  have := heldInt_loop xs.length k 0 ys v (by omega) hk hv hm (by omega) (fun j a b => h4 j a (by omega))
  exact this


theorem l01In_eq (a : Int) : spec_l01In.f a 0 7 = some (inLeaves a) := by
  unfold spec_l01In.f inLeaves
  by_cases h : 0 ≤ a
  · rw [if_pos h, decide_eq_true h]; rfl
  · rw [if_neg h, decide_eq_false h]; rfl
theorem all_getD (l : List Int) (v : Int → Bool) : (List.range l.length).all (fun i => v (l.getD i 0)) = l.all v := by
  induction l with
  | nil => rfl
  | cons x xs ih =>
    rw [List.length_cons, List.range_succ_eq_map, List.all_cons, List.all_map, List.all_cons, ← ih]
    rfl
theorem l08Leaves_ev (l : List Int) (hl : l.length ≤ 9223372036854775807) : Ev (fun k => spec_l08Leaves.f k l) (l.all inLeaves) := by
  have h := cmp_ev (fun k i => spec_l08Leaves.l0 k l i) l.length (fun _ i => some (inLeaves (l.getD i 0))) (fun i => inLeaves (l.getD i 0)) (fun _ => some true) true (fun k i hi => by
    simp only [spec_l08Leaves.l0]
    rw [if_pos (by omega), if_pos (by omega), rd_nat, l01In_eq, succ_i i (by omega)]) (fun i _ => Ev.now _) (fun k => by simp only [spec_l08Leaves.l0]; rw [if_neg (by omega)]) (Ev.now true)
  rw [Bool.and_true, all_getD] at h
  exact h

def codeN (l : List Int) : Int := if (l.length : Int) > 4096 then 2 else if (l.length : Int) = 12 then (if l.all inLeaves = true then 0 else 4) else 8
def posN (l : List Int) : List Int := if codeN l = 0 then l else []
def buN (l : List Int) : List (List S61) := if codeN l = 0 then List.replicate 15 [] else []

theorem specNew_ev (l : List Int) : Ev (fun k => spec_NewOram.f k l) (posN l, [], buN l, codeN l) := by
  unfold spec_NewOram.f posN buN codeN
  by_cases h0 : (l.length : Int) > 4096
  · simp only [if_pos h0]
    exact Ev.now _
  · simp only [if_neg h0]
    by_cases h1 : (l.length : Int) = 12
    · simp only [if_pos h1]
      refine Ev.bind (l08Leaves_ev l (by omega)) ?_
      cases l.all inLeaves with
      | true =>
        simp only [if_true]
        have hn : ([] : List Int).length + l.length < 17592186044416 := by simp; omega
        unfold spec_l08New.f
        simp only [Option.bind_some, if_pos hn, if_pos (show 15 ≤ 11728124029610 by decide), List.nil_append]
        exact Ev.now _
      | false =>
        simp only [Bool.false_eq_true, if_false]
        exact Ev.now _
    · simp only [if_neg h1]
      exact Ev.now _

theorem implNew_eq (l : List Int) : impl_NewOram.f l = some (posN l, [], buN l, codeN l) := by
  unfold impl_NewOram.f impl_leavesOf.f posN buN codeN areAll_isLeaf.f slices_Clone_int_int.f
  by_cases h0 : (l.length : Int) > 4096
  · simp only [if_pos h0]; rfl
  · simp only [if_neg h0]
    by_cases h1 : (l.length : Int) = 12
    · simp only [if_pos h1, Option.bind_some]
      cases l.all inLeaves with
      | true => simp only [if_true, Option.bind_some, if_pos (show l.length < 17592186044416 by omega), if_pos (show 15 ≤ 11728124029610 by decide)]
      | false => rfl
    · simp only [if_neg h1]; rfl
theorem buN_nil (l : List Int) : ∀ x ∈ buN l, x = [] := by
  intro x hx
  unfold buN at hx
  by_cases h : codeN l = 0
  · rw [if_pos h] at hx; exact (List.mem_replicate.1 hx).2
  · rw [if_neg h] at hx; simp at hx
theorem buN_rows (l : List Int) : Rows (buN l) := by
  refine ⟨?_, fun x hx => by rw [buN_nil l x hx]; simp⟩
  unfold buN
  by_cases h : codeN l = 0
  · rw [if_pos h]; simp
  · rw [if_neg h]; simp
theorem posN_len (l : List Int) : (posN l).length ≤ l.length := by
  unfold posN
  by_cases h : codeN l = 0
  · rw [if_pos h]; exact Nat.le_refl _
  · rw [if_neg h]; simp

theorem heldRow_nil (v : Int) : Ev (fun k => laws_heldBlockS.f k ([] : List S61) v) v := by
  refine Ev.step (f := fun _ => some v) (fun k => ?_) (Ev.now v)
  unfold laws_heldBlockS.f
  simp only [laws_heldBlockS.l0]
  rw [if_neg (by simp)]
theorem heldRows_loop (bu : List (List S61)) (he : ∀ x ∈ bu, x = []) (hl : bu.length ≤ 9223372036854775807) (v : Int) (hv : 0 ≤ v) (d : Nat) : ∀ i : Nat, bu.length - i = d → i ≤ bu.length → Ev (fun k => laws_heldBlockSS.l0 k bu v (i : Int)) v := by
  have nv : ¬ v < 0 := by omega
  induction d with
  | zero =>
    intro i hd hi
    refine Ev.step (f := fun _ => some v) (fun k => ?_) (Ev.now v)
    simp only [laws_heldBlockSS.l0]
    rw [if_neg (by omega)]
  | succ d ih =>
    intro i hd hi
    have hlt : i < bu.length := by omega
    refine Ev.step (f := fun k => (laws_heldBlockS.f k [] v).bind fun t => if t < 0 then some (-1) else laws_heldBlockSS.l0 k bu t ((i + 1 : Nat) : Int)) (fun k => ?_) (Ev.bind (heldRow_nil v) ?_)
    · simp only [laws_heldBlockSS.l0]
      rw [if_pos (by omega), if_pos (by omega), rdRI_nat, getD_in bu i [] hlt, he _ (List.getElem_mem hlt), succ_i i (by omega)]
    · simp only [if_neg nv]
      exact ih (i + 1) (by omega) (by omega)
theorem heldOram_ev (p : List Int) (bu : List (List S61)) (he : ∀ x ∈ bu, x = []) (hl : bu.length ≤ 9223372036854775807) (v : Int) (hv : 0 ≤ v) (K : Nat) (h : ∀ k, K ≤ k → laws_heldIntS.f k p 1 = some v) : Ev (fun k => laws_heldOram.f k p [] bu 1) v := by
  have nv : ¬ v < 0 := by omega
  unfold laws_heldOram.f
  refine Ev.bind ⟨K, h⟩ ?_
  simp only [if_neg nv]
  refine Ev.bind (heldRow_nil v) ?_
  simp only [if_neg nv]
  refine Ev.bind (heldRows_loop bu he hl v hv bu.length 0 (by omega) (by omega)) ?_
  simp only [if_neg nv]
  exact Ev.now v

set_option maxHeartbeats 4000000 in
theorem NewOram_long (A : Option Addr) (c : Nat) (l : List Int) (w : World) (hl : 1048576 < l.length) :
    Calls Try.prog 6 #[.slice A l.length c] w fun e w' => e = .returned (.bool true) ∧ Below w.heap.size w w' := by
  have d0 : decide (1048576 < (l.length : Int)) = true := decide_eq_true (by omega)
  go_enter Try.func6, Try.ntmps6
  go_wp2
  go_ret
  exact ⟨rfl, Below.refl _ _⟩

theorem FnExactNewOram_walk (A : Option Addr) (c : Nat) (l : List Int) (w : World) (hC : Kd.C (Kd.int .i64) w A l.length l) (hc : l.length ≤ c) :
    Calls Try.prog 6 #[.slice A l.length c] w fun e w' => e = .returned (.bool true) ∧ Below w.heap.size w w' := by
  by_cases hl : 1048576 < l.length
  · exact NewOram_long A c l w hl
  have hl' : l.length ≤ 1048576 := by omega
  have hpl := posN_len l
  obtain ⟨K1, e1⟩ := toIntS_ev l hl'
  obtain ⟨K2, e2⟩ := specNew_ev l
  have e3 := implNew_eq l
  have h4 := eqOram_ev (posN l) [] (buN l) (posN l) [] (buN l) (by omega) (by simp) (buN_rows l)
  rw [oramE_refl] at h4
  obtain ⟨K4, e4⟩ := h4
  have h5 := eqIntS_ev l l (by omega)
  rw [intsE_refl] at h5
  obtain ⟨K5, e5⟩ := h5
  obtain ⟨l', e6, _⟩ := markInt_held (l.length + 1) l 1 (by decide) (by omega) (by omega)
  obtain ⟨p', e7, e8⟩ := markInt_held ((posN l).length + 1) (posN l) 1 (by decide) (by omega) (by omega)
  obtain ⟨K8, e9⟩ := heldOram_ev p' (buN l) (buN_nil l) (buN_rows l).1 (1 + (posN l).length) (by omega) ((posN l).length + 1) (fun k hk => at_rounds (fun k => laws_heldIntS.mono p' 1 k) hk e8)
  exact NewOram_walk (K1 + K2 + K4 + K5 + K8 + (l.length + 1) + ((posN l).length + 1)) A c l (posN l) (buN l) (codeN l) _ _ l' p' w hC hc hl' (buN_nil l) (e1 _ (by omega)) (e2 _ (by omega)) e3 (e4 _ (by omega)) (e5 _ (by omega))
    (at_rounds (fun k => laws_markIntS.mono l 1 k) (by omega) e6) (by omega) (at_rounds (fun k => laws_markIntS.mono (posN l) 1 k) (by omega) e7) (e9 _ (by omega)) (by omega)

end Go.Proofs.Ytmodpocjnafpdaa.Leaf
