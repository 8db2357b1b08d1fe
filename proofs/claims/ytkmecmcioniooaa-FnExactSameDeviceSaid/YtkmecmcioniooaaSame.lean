/-
  FnExactSameDevice answers true: SameDevice gives what the reference gives. Conditions: none but those of the row.
-/
import Derived.Test.YtkmecmcioniooaaDevP
import Derived.Test.YtkmecmcioniooaaOpenDev
import Derived.Test.YtkmecmcioniooaaPDevx5
import Derived.Test.YtkmecmcioniooaaPDevx4
import Derived.Test.YtkmecmcioniooaaPDevx3
namespace Go.Proofs.Ytkmecmcioniooaa.Leaf
open Go.RowKit Go.Proofs.YtkmecmcioniooaaW.PrintWords Go.Proofs.YtkmecmcioniooaaW.PrintLast Go.Proofs.YtkmecmcioniooaaW.PrintMore Go.Proofs.Ytkmecmcioniooaa.PDev

def alikeI1 (x y : S55) : Bool := x.f0 == y.f0 && x.f1.toList == y.f1.toList
def alikeI (a b : List S55) (i : Nat) : Bool := ((a.zip b).drop i).all fun p => alikeI1 p.1 p.2
def alikeT (a b : List ByteArray) (i : Nat) : Bool := ((a.zip b).drop i).all fun p => p.1.toList == p.2.toList
theorem zip_drop {α : Type} (p : α × α → Bool) (a b : List α) (i : Nat) (h1 : i < a.length) (h2 : i < b.length) : ((a.zip b).drop i).all p = (p (a[i], b[i]) && ((a.zip b).drop (i + 1)).all p) := by
  have h : i < (a.zip b).length := by rw [List.length_zip]; omega
  rw [all_drop _ _ _ h, List.getElem_zip]
def sameOf (s : List ByteArray) (u : List S55) (s' : List ByteArray) (u' : List S55) : Bool := decide (s.length = s'.length) && decide (u.length = u'.length) && alikeT s s' 0 && alikeI u u' 0
theorem Same_l1 (s : List ByteArray) (u : List S55) (s' : List ByteArray) (u' : List S55) (hu : u.length = u'.length) (hm : u.length ≤ 9223372036854775807) (d : Nat) : ∀ i : Nat, u.length - i = d → i ≤ u.length → Ev (fun k => spec_SameDevice.l1 k (i : Int) s u s' u') (alikeI u u' i) := by
  induction d with
  | zero =>
    intro i hd hi
    have e : alikeI u u' i = true := by unfold alikeI; rw [List.drop_of_length_le (by rw [List.length_zip]; omega)]; rfl
    rw [e]
    refine Ev.step (f := fun _ => some true) (fun k => ?_) (Ev.now true)
    simp only [spec_SameDevice.l1]
    rw [if_neg (by omega)]
  | succ d ih =>
    intro i hd hi
    have h1 : i < u.length := by omega
    have h2 : i < u'.length := by omega
    have e : alikeI u u' i = (alikeI1 u[i] u'[i] && alikeI u u' (i + 1)) := zip_drop _ u u' i h1 h2
    rw [e]
    have hstep : ∀ k, spec_SameDevice.l1 (k + 1) (i : Int) s u s' u' = if alikeI1 u[i] u'[i] = true then spec_SameDevice.l1 k ((i + 1 : Nat) : Int) s u s' u' else some false := fun k => by
      simp only [spec_SameDevice.l1]
      rw [if_pos (by omega), if_pos (by omega), if_pos (by omega), rdI_nat _ _ h1, rdI_nat _ _ h2, succ_i i (by omega)]
      unfold alikeI1
      cases u[i].f0 == u'[i].f0 <;> cases u[i].f1.toList == u'[i].f1.toList <;> rfl
    refine Ev.step hstep ?_
    cases alikeI1 u[i] u'[i]
    · exact Ev.now false
    · simp only [if_true, Bool.true_and]
      exact ih (i + 1) (by omega) (by omega)
theorem Same_l0 (s : List ByteArray) (u : List S55) (s' : List ByteArray) (u' : List S55) (hs : s.length = s'.length) (hm0 : s.length ≤ 9223372036854775807) (hu : u.length = u'.length) (hm : u.length ≤ 9223372036854775807) (d : Nat) : ∀ i : Nat, s.length - i = d → i ≤ s.length → Ev (fun k => spec_SameDevice.l0 k (i : Int) s u s' u') (alikeT s s' i && alikeI u u' 0) := by
  induction d with
  | zero =>
    intro i hd hi
    have e : alikeT s s' i = true := by unfold alikeT; rw [List.drop_of_length_le (by rw [List.length_zip]; omega)]; rfl
    rw [e, Bool.true_and]
    refine Ev.step (fun k => ?_) (Same_l1 s u s' u' hu hm u.length 0 (by omega) (by omega))
    simp only [spec_SameDevice.l0]
    rw [if_neg (by omega)]; rfl
  | succ d ih =>
    intro i hd hi
    have h1 : i < s.length := by omega
    have h2 : i < s'.length := by omega
    have e : alikeT s s' i = ((s[i].toList == s'[i].toList) && alikeT s s' (i + 1)) := zip_drop _ s s' i h1 h2
    rw [e]
    have hstep : ∀ k, spec_SameDevice.l0 (k + 1) (i : Int) s u s' u' = if s[i].toList = s'[i].toList then spec_SameDevice.l0 k ((i + 1 : Nat) : Int) s u s' u' else some false := fun k => by
      simp only [spec_SameDevice.l0]
      rw [if_pos (by omega), if_pos (by omega), if_pos (by omega), rdOf_nat _ _ _ h1, rdOf_nat _ _ _ h2, succ_i i (by omega)]
    refine Ev.step hstep ?_
    by_cases hq : s[i].toList = s'[i].toList
    · simp only [if_pos hq, beq_iff_eq.2 hq, Bool.true_and]
      exact ih (i + 1) (by omega) (by omega)
    · simp only [if_neg hq, beq_eq_false_iff_ne.2 hq, Bool.false_and]
      exact Ev.now false
theorem spec_SameDevice_ev (s : List ByteArray) (u : List S55) (s' : List ByteArray) (u' : List S55) (hm0 : s.length ≤ 9223372036854775807) (hm : u.length ≤ 9223372036854775807) : Ev (fun k => spec_SameDevice.f k s u s' u') (sameOf s u s' u') := by
  unfold spec_SameDevice.f sameOf
  by_cases hs : s.length = s'.length
  · have hs' : (s.length : Int) = (s'.length : Int) := by omega
    simp only [if_pos hs', decide_eq_true hs, Bool.true_and]
    by_cases hu : u.length = u'.length
    · have hb : ((u.length : Int) != (u'.length : Int)) = false := by rw [hu]; simp
      rw [hb, decide_eq_true hu, Bool.true_and]
      refine Ev_up ?_
      simp only [spec_SameDevice.j0, Bool.false_eq_true, if_false]
      exact Same_l0 s u s' u' hs hm0 hu hm s.length 0 (by omega) (by omega)
    · have hb : ((u.length : Int) != (u'.length : Int)) = true := by simp; omega
      rw [hb, decide_eq_false hu, Bool.false_and]
      refine Ev_up ?_
      simp only [spec_SameDevice.j0, if_true]
      exact Ev.now false
  · have hs' : ¬ (s.length : Int) = (s'.length : Int) := by omega
    simp only [if_neg hs', decide_eq_false hs, Bool.false_and]
    refine Ev_up ?_
    simp only [spec_SameDevice.j0, if_true]
    exact Ev.now false
theorem EqualT_loop (a b : List ByteArray) (hl : a.length = b.length) (hm : a.length ≤ 9223372036854775807) (d : Nat) : ∀ i : Nat, a.length - i = d → i ≤ a.length → Ev (fun k => slices_Equal_string_string.l0 k a b (a.length : Int) (i : Int)) (alikeT a b i) := by
  induction d with
  | zero =>
    intro i hd hi
    have e : alikeT a b i = true := by unfold alikeT; rw [List.drop_of_length_le (by rw [List.length_zip]; omega)]; rfl
    rw [e]
    refine Ev.step (f := fun _ => some true) (fun k => ?_) (Ev.now true)
    simp only [slices_Equal_string_string.l0]
    rw [if_neg (by omega)]
  | succ d ih =>
    intro i hd hi
    have h1 : i < a.length := by omega
    have h2 : i < b.length := by omega
    have e : alikeT a b i = ((a[i].toList == b[i].toList) && alikeT a b (i + 1)) := zip_drop _ a b i h1 h2
    rw [e]
    have hstep : ∀ k, slices_Equal_string_string.l0 (k + 1) a b (a.length : Int) (i : Int) = if a[i].toList = b[i].toList then slices_Equal_string_string.l0 k a b (a.length : Int) ((i + 1 : Nat) : Int) else some false := fun k => by
      simp only [slices_Equal_string_string.l0]
      rw [if_pos (by omega), if_pos (by omega), if_pos (by omega), if_pos (by omega), rdOf_nat _ _ _ h1, rdOf_nat _ _ _ h2, succ_i i (by omega)]
    refine Ev.step hstep ?_
    by_cases hq : a[i].toList = b[i].toList
    · simp only [if_pos hq, beq_iff_eq.2 hq, Bool.true_and]
      exact ih (i + 1) (by omega) (by omega)
    · simp only [if_neg hq, beq_eq_false_iff_ne.2 hq, Bool.false_and]
      exact Ev.now false
theorem EqualT_ev (a b : List ByteArray) (hm : a.length ≤ 9223372036854775807) : Ev (fun k => slices_Equal_string_string.f k a b) (decide (a.length = b.length) && alikeT a b 0) := by
  unfold slices_Equal_string_string.f
  by_cases hl : a.length = b.length
  · have hl' : (a.length : Int) = (b.length : Int) := by omega
    simp only [if_pos hl', decide_eq_true hl, Bool.true_and]
    exact EqualT_loop a b hl hm a.length 0 (by omega) (by omega)
  · have hl' : ¬ (a.length : Int) = (b.length : Int) := by omega
    simp only [if_neg hl', decide_eq_false hl, Bool.false_and]
    exact Ev.now false
theorem EqualI_loop (a b : List S55) (hl : a.length = b.length) (hm : a.length ≤ 9223372036854775807) (d : Nat) : ∀ i : Nat, a.length - i = d → i ≤ a.length → Ev (fun k => impl_Io_40.l0 k a b (a.length : Int) (i : Int)) (alikeI a b i) := by
  induction d with
  | zero =>
    intro i hd hi
    have e : alikeI a b i = true := by unfold alikeI; rw [List.drop_of_length_le (by rw [List.length_zip]; omega)]; rfl
    rw [e]
    refine Ev.step (f := fun _ => some true) (fun k => ?_) (Ev.now true)
    simp only [impl_Io_40.l0]
    rw [if_neg (by omega)]
  | succ d ih =>
    intro i hd hi
    have h1 : i < a.length := by omega
    have h2 : i < b.length := by omega
    have e : alikeI a b i = (alikeI1 a[i] b[i] && alikeI a b (i + 1)) := zip_drop _ a b i h1 h2
    rw [e]
    have hstep : ∀ k, impl_Io_40.l0 (k + 1) a b (a.length : Int) (i : Int) = if alikeI1 a[i] b[i] = true then impl_Io_40.l0 k a b (a.length : Int) ((i + 1 : Nat) : Int) else some false := fun k => by
      simp only [impl_Io_40.l0]
      rw [if_pos (by omega), if_pos (by omega), if_pos (by omega), if_pos (by omega), rdI_nat _ _ h1, rdI_nat _ _ h2, succ_i i (by omega)]
      unfold alikeI1
      cases a[i].f0 == b[i].f0 <;> cases a[i].f1.toList == b[i].f1.toList <;> rfl
    refine Ev.step hstep ?_
    cases alikeI1 a[i] b[i]
    · exact Ev.now false
    · simp only [if_true, Bool.true_and]
      exact ih (i + 1) (by omega) (by omega)
theorem EqualI_ev (a b : List S55) (hm : a.length ≤ 9223372036854775807) : Ev (fun k => impl_Io_40.f k a b) (decide (a.length = b.length) && alikeI a b 0) := by
  unfold impl_Io_40.f
  by_cases hl : a.length = b.length
  · have hl' : (a.length : Int) = (b.length : Int) := by omega
    simp only [if_pos hl', decide_eq_true hl, Bool.true_and]
    exact EqualI_loop a b hl hm a.length 0 (by omega) (by omega)
  · have hl' : ¬ (a.length : Int) = (b.length : Int) := by omega
    simp only [if_neg hl', decide_eq_false hl, Bool.false_and]
    exact Ev.now false
theorem impl_SameDevice_ev (s : List ByteArray) (u : List S55) (s' : List ByteArray) (u' : List S55) (hm0 : s.length ≤ 9223372036854775807) (hm : u.length ≤ 9223372036854775807) : Ev (fun k => impl_SameDevice.f k s u s' u') (sameOf s u s' u') := by
  unfold impl_SameDevice.f sameOf
  refine Ev.bind (EqualT_ev s s' hm0) ?_
  have e : (decide (s.length = s'.length) && decide (u.length = u'.length) && alikeT s s' 0 && alikeI u u' 0) = ((decide (s.length = s'.length) && alikeT s s' 0) && (decide (u.length = u'.length) && alikeI u u' 0)) := by
    cases decide (s.length = s'.length) <;> cases decide (u.length = u'.length) <;> cases alikeT s s' 0 <;> cases alikeI u u' 0 <;> rfl
  rw [e]
  cases decide (s.length = s'.length) && alikeT s s' 0
  · exact Ev.now false
  · simp only [if_true, Bool.true_and]
    exact Ev.bind (EqualI_ev u u' hm) (Ev.now _)
theorem FnExactSameDevice_ev (s : List ByteArray) (u : List S74) (s' : List ByteArray) (u' : List S74) (h : DevIn s u) (h' : DevIn s' u') : Ev (fun k => laws_FnExactSameDevice.f k s u s' u') true := by
  obtain ⟨r, e, g⟩ := szDevice_ev s u h 1048576 (by decide) (by decide)
  unfold laws_FnExactSameDevice.f
  refine Ev.bind e ?_
  rcases g with g | ⟨g, hs, hu⟩
  · simp only [if_pos g]
    exact Ev.now true
  have n1 : ¬ r < 0 := by omega
  simp only [if_neg n1]
  obtain ⟨r2, e2, g2⟩ := szDevice_ev s' u' h' r g.1 g.2
  refine Ev.bind e2 ?_
  rcases g2 with g2 | ⟨g2, hs', hu'⟩
  · simp only [if_pos g2]
    exact Ev.now true
  have n2 : ¬ r2 < 0 := by omega
  simp only [if_neg n2]
  have ht := toDevice_ev s u hs hu
  have ht' := toDevice_ev s' u' hs' hu'
  have hl : (u.map toIo).length ≤ 1048576 := by rw [List.length_map]; exact hu
  have hl' : (u'.map toIo).length ≤ 1048576 := by rw [List.length_map]; exact hu'
  refine Ev.bind ht (Ev.bind ht' (Ev.bind (spec_SameDevice_ev s (u.map toIo) s' (u'.map toIo) (by omega) (by omega)) (Ev.bind ht (Ev.bind ht' (Ev.bind (impl_SameDevice_ev s (u.map toIo) s' (u'.map toIo) (by omega) (by omega)) ?_)))))
  simp only [bne_self_eq_false, Bool.false_eq_true, if_false]
  refine Ev.bind ht (Ev.bind (eqDevice_ev s (u.map toIo) (by omega) (by omega)) ?_)
  simp only [if_true]
  refine Ev.bind ht' (Ev.bind (eqDevice_ev s' (u'.map toIo) (by omega) (by omega)) ?_)
  simp only [if_true]
  exact Ev.now true
theorem FnExactSameDevice_walk (A0 : Option Addr) (c0 : Nat) (s : List ByteArray) (A1 : Option Addr) (c1 : Nat) (u : List S74) (B0 : Option Addr) (d0 : Nat) (s' : List ByteArray) (B1 : Option Addr) (d1 : Nat) (u' : List S74) (w : World)
    (hk : Kd.C Kd.string w A0 s.length s ∧ s.length ≤ c0 ∧ Kd.C k74 w A1 u.length u ∧ u.length ≤ c1) (h : DevIn s u) (hk' : Kd.C Kd.string w B0 s'.length s' ∧ s'.length ≤ d0 ∧ Kd.C k74 w B1 u'.length u' ∧ u'.length ≤ d1) (h' : DevIn s' u') :
    Calls Try.prog 4 #[.agg #[.slice A0 s.length c0, .slice A1 u.length c1], .agg #[.slice B0 s'.length d0, .slice B1 u'.length d1]] w fun e w' => e = .returned (.bool true) ∧ Below w.heap.size w w' := by
  obtain ⟨k, hf⟩ := (FnExactSameDevice_ev s u s' u' h h').rounds
  exact laws_FnExactSameDevice.calls k A0 c0 s A1 c1 u B0 d0 s' B1 d1 u' true w hk.1 hk.2.1 hk.2.2.1 hk.2.2.2 hk'.1 hk'.2.1 hk'.2.2.1 hk'.2.2.2 hf

end Go.Proofs.Ytkmecmcioniooaa.Leaf
