/-
  What the law's helpers answer at devices: sizes, copies, alike, right. In plain words. Conditions: lengths and sizes are whole numbers of 64 bits.
-/
import Derived.Test.YtkmecmcioniooaaPlain
import Derived.Test.YtkmecmcioniooaaPDevx1
import Derived.Test.YtkmecmcioniooaaPDevx2
import Derived.Test.YtkmecmcioniooaaPDevx3
namespace Go.Proofs.Ytkmecmcioniooaa.Leaf
open Go.RowKit Go.Proofs.YtkmecmcioniooaaW.PrintWords Go.Proofs.YtkmecmcioniooaaW.PrintLast Go.Proofs.YtkmecmcioniooaaW.PrintMore Go.Proofs.Ytkmecmcioniooaa.PDev

theorem Ev_up {α : Type} {g : Nat → Option α} {r : α} (h : Ev (fun k => g (k + 1)) r) : Ev g r := by
  obtain ⟨K, h⟩ := h
  refine ⟨K + 1, fun n hn => ?_⟩
  obtain ⟨m, rfl⟩ : ∃ m, n = m + 1 := ⟨n - 1, by omega⟩
  exact h m (by omega)
theorem succ_i (i : Nat) (h : i < 9223372036854775807) : wrap64 ((i : Int) + 1) = ((i + 1 : Nat) : Int) := by rw [wrap_ok _ (by omega) (by omega)]; rfl
theorem rdOf_nat {α : Type} (d : α) (l : List α) (i : Nat) (h : i < l.length) : rdOf d l (i : Int) = l[i] := by
  unfold rdOf; rw [Int.toNat_natCast, List.getD_eq_getElem?_getD, List.getElem?_eq_getElem h]; rfl
theorem rdL_nat (l : List S74) (i : Nat) (h : i < l.length) : rd_T74 l (i : Int) = l[i] := by
  unfold rd_T74; rw [Int.toNat_natCast, List.getD_eq_getElem?_getD, List.getElem?_eq_getElem h]; rfl
theorem rdI_nat (l : List S55) (i : Nat) (h : i < l.length) : rd_T55 l (i : Int) = l[i] := by
  unfold rd_T55; rw [Int.toNat_natCast, List.getD_eq_getElem?_getD, List.getElem?_eq_getElem h]; rfl
/-! alike -/
theorem eqStringS_loop (a : List ByteArray) (ha : a.length ≤ 9223372036854775807) (d : Nat) : ∀ i : Nat, a.length - i = d → i ≤ a.length → Ev (fun k => laws_eqStringS.l0 k a a (i : Int)) true := by
  induction d with
  | zero =>
    intro i hd hi
    refine Ev.step (f := fun _ => some true) (fun k => ?_) (Ev.now true)
    simp only [laws_eqStringS.l0]
    rw [if_neg (by omega)]
  | succ d ih =>
    intro i hd hi
    refine Ev.step (f := fun k => laws_eqStringS.l0 k a a ((i + 1 : Nat) : Int)) (fun k => ?_) (ih (i + 1) (by omega) (by omega))
    simp only [laws_eqStringS.l0]
    rw [if_pos (by omega), if_pos (by omega), if_pos (by omega), if_pos trivial, succ_i i (by omega)]
theorem eqStringS_ev (a : List ByteArray) (ha : a.length ≤ 9223372036854775807) : Ev (fun k => laws_eqStringS.f k a a) true := by
  refine Ev.congr (fun k => ?_) (eqStringS_loop a ha a.length 0 (by omega) (by omega))
  unfold laws_eqStringS.f
  rw [if_pos rfl]; rfl
theorem eqIoS_loop (a : List S55) (ha : a.length ≤ 9223372036854775807) (d : Nat) : ∀ i : Nat, a.length - i = d → i ≤ a.length → Ev (fun k => laws_eqIoS.l0 k a a (i : Int)) true := by
  induction d with
  | zero =>
    intro i hd hi
    refine Ev.step (f := fun _ => some true) (fun k => ?_) (Ev.now true)
    simp only [laws_eqIoS.l0]
    rw [if_neg (by omega)]
  | succ d ih =>
    intro i hd hi
    refine Ev.step (f := fun k => laws_eqIoS.l0 k a a ((i + 1 : Nat) : Int)) (fun k => ?_) (ih (i + 1) (by omega) (by omega))
    simp only [laws_eqIoS.l0]
    rw [if_pos (by omega), if_pos (by omega), if_pos (by omega), succ_i i (by omega)]
    simp [laws_eqIo.f]
theorem eqIoS_ev (a : List S55) (ha : a.length ≤ 9223372036854775807) : Ev (fun k => laws_eqIoS.f k a a) true := by
  refine Ev.congr (fun k => ?_) (eqIoS_loop a ha a.length 0 (by omega) (by omega))
  unfold laws_eqIoS.f
  rw [if_pos rfl]; rfl
theorem eqDevice_ev (s : List ByteArray) (u : List S55) (hs : s.length ≤ 9223372036854775807) (hu : u.length ≤ 9223372036854775807) : Ev (fun k => laws_eqDevice.f k s u s u) true := by
  unfold laws_eqDevice.f
  exact Ev.bind (eqStringS_ev s hs) (by simp only [if_true]; exact Ev.bind (eqIoS_ev u hu) (by simp only [if_true]; exact Ev.now true))
/-! sizes -/
theorem szStringS_loop (l : List ByteArray) (hl : l.length ≤ 9223372036854775807) (hs : ∀ s ∈ l, s.size ≤ 9223372036854775807) (d : Nat) : ∀ (i : Nat) (x : Int), l.length - i = d → i ≤ l.length → 0 ≤ x → x ≤ 1048576 →
    ∃ r, Ev (fun k => laws_szStringS.l0 k l x (i : Int)) r ∧ (r < 0 ∨ 0 ≤ r ∧ r ≤ x) := by
  induction d with
  | zero =>
    intro i x hd hi h0 h1
    refine ⟨x, Ev.step (f := fun _ => some x) (fun k => ?_) (Ev.now x), .inr ⟨h0, Int.le_refl _⟩⟩
    simp only [laws_szStringS.l0]
    rw [if_neg (by omega)]
  | succ d ih =>
    intro i x hd hi h0 h1
    have hlt : i < l.length := by omega
    have hz := hs l[i] (List.getElem_mem hlt)
    have hw : wrap64 (x - (l[i].size : Int)) = x - (l[i].size : Int) := wrap_ok _ (by omega) (by omega)
    by_cases hn : x - (l[i].size : Int) < 0
    · refine ⟨-1, Ev.step (f := fun _ => some (-1)) (fun k => ?_) (Ev.now (-1)), .inl (by decide)⟩
      simp only [laws_szStringS.l0]
      rw [if_pos (by omega), if_pos (by omega), rdOf_nat _ _ _ hlt, hw, if_pos hn]
    · obtain ⟨r, hr, hr2⟩ := ih (i + 1) (x - (l[i].size : Int)) (by omega) (by omega) (by omega) (by omega)
      refine ⟨r, Ev.step (fun k => ?_) hr, by omega⟩
      simp only [laws_szStringS.l0]
      rw [if_pos (by omega), if_pos (by omega), rdOf_nat _ _ _ hlt, hw, if_neg hn, succ_i i (by omega)]
theorem szStringS_ev (l : List ByteArray) (hl : l.length ≤ 9223372036854775807) (hs : ∀ s ∈ l, s.size ≤ 9223372036854775807) (x : Int) (h0 : 0 ≤ x) (h1 : x ≤ 1048576) :
    ∃ r, Ev (fun k => laws_szStringS.f k l x) r ∧ (r < 0 ∨ (0 ≤ r ∧ r ≤ 1048576) ∧ l.length ≤ 1048576) := by
  have hw : wrap64 (x - (l.length : Int)) = x - (l.length : Int) := wrap_ok _ (by omega) (by omega)
  unfold laws_szStringS.f
  rw [hw]
  by_cases hn : x - (l.length : Int) < 0
  · simp only [if_pos hn]
    exact ⟨-1, Ev.now (-1), .inl (by decide)⟩
  · simp only [if_neg hn]
    obtain ⟨r, hr, hr2⟩ := szStringS_loop l hl hs l.length 0 (x - (l.length : Int)) (by omega) (by omega) (by omega) (by omega)
    exact ⟨r, hr, by omega⟩
theorem szIoS_loop (l : List S74) (hl : l.length ≤ 9223372036854775807) (hs : ∀ s ∈ l, s.f1.size ≤ 9223372036854775807) (d : Nat) : ∀ (i : Nat) (x : Int), l.length - i = d → i ≤ l.length → 0 ≤ x → x ≤ 1048576 →
    ∃ r, Ev (fun k => laws_szIoS.l0 k l x (i : Int)) r ∧ (r < 0 ∨ 0 ≤ r ∧ r ≤ x) := by
  induction d with
  | zero =>
    intro i x hd hi h0 h1
    refine ⟨x, Ev.step (f := fun _ => some x) (fun k => ?_) (Ev.now x), .inr ⟨h0, Int.le_refl _⟩⟩
    simp only [laws_szIoS.l0]
    rw [if_neg (by omega)]
  | succ d ih =>
    intro i x hd hi h0 h1
    have hlt : i < l.length := by omega
    have hz := hs l[i] (List.getElem_mem hlt)
    have hw : wrap64 (x - (l[i].f1.size : Int)) = x - (l[i].f1.size : Int) := wrap_ok _ (by omega) (by omega)
    by_cases hn : x - (l[i].f1.size : Int) < 0
    · refine ⟨-1, Ev.step (f := fun _ => some (-1)) (fun k => ?_) (Ev.now (-1)), .inl (by decide)⟩
      simp only [laws_szIoS.l0]
      rw [if_pos (by omega), if_pos (by omega), rdL_nat _ _ hlt]
      unfold laws_szIo.f
      rw [hw, if_pos hn]; rfl
    · obtain ⟨r, hr, hr2⟩ := ih (i + 1) (x - (l[i].f1.size : Int)) (by omega) (by omega) (by omega) (by omega)
      refine ⟨r, Ev.step (fun k => ?_) hr, by omega⟩
      simp only [laws_szIoS.l0]
      rw [if_pos (by omega), if_pos (by omega), rdL_nat _ _ hlt]
      unfold laws_szIo.f
      rw [hw, if_neg hn, Option.bind_some, if_neg hn, succ_i i (by omega)]
theorem szIoS_ev (l : List S74) (hl : l.length ≤ 9223372036854775807) (hs : ∀ s ∈ l, s.f1.size ≤ 9223372036854775807) (x : Int) (h0 : 0 ≤ x) (h1 : x ≤ 1048576) :
    ∃ r, Ev (fun k => laws_szIoS.f k l x) r ∧ (r < 0 ∨ (0 ≤ r ∧ r ≤ 1048576) ∧ l.length ≤ 1048576) := by
  have hw : wrap64 (x - (l.length : Int)) = x - (l.length : Int) := wrap_ok _ (by omega) (by omega)
  unfold laws_szIoS.f
  rw [hw]
  by_cases hn : x - (l.length : Int) < 0
  · simp only [if_pos hn]
    exact ⟨-1, Ev.now (-1), .inl (by decide)⟩
  · simp only [if_neg hn]
    obtain ⟨r, hr, hr2⟩ := szIoS_loop l hl hs l.length 0 (x - (l.length : Int)) (by omega) (by omega) (by omega) (by omega)
    exact ⟨r, hr, by omega⟩
/-- The bounds of a device that comes in. -/
def DevIn (s : List ByteArray) (u : List S74) : Prop := s.length ≤ 9223372036854775807 ∧ (∀ x ∈ s, x.size ≤ 9223372036854775807) ∧ u.length ≤ 9223372036854775807 ∧ ∀ x ∈ u, x.f1.size ≤ 9223372036854775807
theorem szDevice_ev (s : List ByteArray) (u : List S74) (h : DevIn s u) (x : Int) (h0 : 0 ≤ x) (h1 : x ≤ 1048576) :
    ∃ r, Ev (fun k => laws_szDevice.f k s u x) r ∧ (r < 0 ∨ (0 ≤ r ∧ r ≤ 1048576) ∧ s.length ≤ 1048576 ∧ u.length ≤ 1048576) := by
  obtain ⟨ha, hb, hc, hd⟩ := h
  obtain ⟨r1, e1, g1⟩ := szStringS_ev s ha hb x h0 h1
  unfold laws_szDevice.f
  rcases g1 with g1 | ⟨g1, g2⟩
  · exact ⟨-1, Ev.bind e1 (by simp only [if_pos g1]; exact Ev.now (-1)), .inl (by decide)⟩
  · obtain ⟨r2, e2, g3⟩ := szIoS_ev u hc hd r1 g1.1 g1.2
    have n1 : ¬ r1 < 0 := by omega
    rcases g3 with g3 | ⟨g3, g4⟩
    · exact ⟨-1, Ev.bind e1 (by simp only [if_neg n1]; exact Ev.bind e2 (by simp only [if_pos g3]; exact Ev.now (-1))), .inl (by decide)⟩
    · have n2 : ¬ r2 < 0 := by omega
      exact ⟨r2, Ev.bind e1 (by simp only [if_neg n1]; exact Ev.bind e2 (by simp only [if_neg n2]; exact Ev.now r2)), .inr ⟨g3, g2, g4⟩⟩
/-! copies -/
theorem set_front {α : Type} (l : List α) (i : Nat) (h : i < l.length) (m : Nat) (d : α) : (l.take i ++ List.replicate (m + 1) d).set i l[i] = l.take (i + 1) ++ List.replicate m d := by
  have hl : (l.take i).length = i := by rw [List.length_take]; omega
  rw [List.set_append_right _ _ (by omega), hl, Nat.sub_self, List.replicate_succ, List.set_cons_zero, List.take_succ_eq_append_getElem h, List.append_assoc]; rfl
theorem toStringS_loop (l : List ByteArray) (hl : l.length ≤ 1048576) (d : Nat) : ∀ i : Nat, l.length - i = d → i ≤ l.length → Ev (fun k => laws_toStringS.l0 k l (l.take i ++ List.replicate d (⟨#[]⟩ : ByteArray)) (i : Int)) l := by
  induction d with
  | zero =>
    intro i hd hi
    refine Ev.step (f := fun _ => some l) (fun k => ?_) (Ev.now l)
    simp only [laws_toStringS.l0]
    rw [if_neg (by omega), List.replicate_zero, List.append_nil, List.take_of_length_le (by omega)]
  | succ d ih =>
    intro i hd hi
    have hlt : i < l.length := by omega
    refine Ev.step (fun k => ?_) (ih (i + 1) (by omega) (by omega))
    simp only [laws_toStringS.l0]
    rw [if_pos (by omega), if_pos (by omega), if_pos (by rw [List.length_append, List.length_take, List.length_replicate]; omega), succ_i i (by omega), rdOf_nat _ _ _ hlt, Int.toNat_natCast, set_front l i hlt d _]
theorem toStringS_ev (l : List ByteArray) (hl : l.length ≤ 1048576) : Ev (fun k => laws_toStringS.f k l) l := by
  refine Ev.congr (fun k => ?_) (toStringS_loop l hl l.length 0 (by omega) (by omega))
  unfold laws_toStringS.f
  rw [if_pos (by omega), if_pos (by omega), Int.toNat_natCast, List.take_zero, List.nil_append]; rfl
def toIo (x : S74) : S55 := ⟨x.f0, x.f1⟩
theorem toIoS_loop (l : List S74) (hl : l.length ≤ 1048576) (d : Nat) : ∀ i : Nat, l.length - i = d → i ≤ l.length → Ev (fun k => laws_toIoS.l0 k l ((l.map toIo).take i ++ List.replicate d z55) (i : Int)) (l.map toIo) := by
  induction d with
  | zero =>
    intro i hd hi
    refine Ev.step (f := fun _ => some (l.map toIo)) (fun k => ?_) (Ev.now _)
    simp only [laws_toIoS.l0]
    rw [if_neg (by omega), List.replicate_zero, List.append_nil, List.take_of_length_le (by rw [List.length_map]; omega)]
  | succ d ih =>
    intro i hd hi
    have hlt : i < l.length := by omega
    have hlt2 : i < (l.map toIo).length := by rw [List.length_map]; exact hlt
    refine Ev.step (fun k => ?_) (ih (i + 1) (by omega) (by omega))
    simp only [laws_toIoS.l0]
    rw [if_pos (by omega), if_pos (by omega), rdL_nat _ _ hlt]
    unfold laws_toIo.f
    rw [Option.bind_some, if_pos (by rw [List.length_append, List.length_take, List.length_replicate, List.length_map]; omega), succ_i i (by omega), Int.toNat_natCast]
    have e : (⟨(l[i].f0, l[i].f1).1, (l[i].f0, l[i].f1).2⟩ : S55) = (l.map toIo)[i] := by rw [List.getElem_map]; rfl
    rw [e, set_front (l.map toIo) i hlt2 d _]
theorem toIoS_ev (l : List S74) (hl : l.length ≤ 1048576) : Ev (fun k => laws_toIoS.f k l) (l.map toIo) := by
  refine Ev.congr (fun k => ?_) (toIoS_loop l hl l.length 0 (by omega) (by omega))
  unfold laws_toIoS.f
  rw [if_pos (by omega), if_pos (by omega), Int.toNat_natCast, List.take_zero, List.nil_append]; rfl
theorem toDevice_ev (s : List ByteArray) (u : List S74) (hs : s.length ≤ 1048576) (hu : u.length ≤ 1048576) : Ev (fun k => laws_toDevice.f k s u) (s, u.map toIo) := by
  unfold laws_toDevice.f
  exact Ev.bind (toStringS_ev s hs) (Ev.bind (toIoS_ev u hu) (Ev.now _))
/-! right -/
def okDev (s : List ByteArray) (u : List S55) : Bool := decide (s.length = 40) && (s.all fun t => decide ((t.size : Int) ≤ 700)) && decide (u.length ≤ 60) && u.all isIo
theorem impl_DeviceOK_eq (s : List ByteArray) (u : List S55) : impl_DeviceOK.f s u = some (okDev s u) := by
  unfold impl_DeviceOK.f areAll_isContent.f areAll_isIo.f okDev
  by_cases h0 : s.length = 40
  · rw [if_pos (by omega), decide_eq_true h0]
    cases s.all fun t => decide ((t.size : Int) ≤ 700)
    · rfl
    · by_cases h1 : u.length ≤ 60
      · simp only [Option.bind_some, if_true]
        rw [if_pos (by omega), decide_eq_true h1]; rfl
      · simp only [Option.bind_some, if_true]
        rw [if_neg (by omega), decide_eq_false h1]; rfl
  · rw [if_neg (by omega), decide_eq_false h0]; rfl
theorem all_drop {α : Type} (p : α → Bool) (l : List α) (i : Nat) (h : i < l.length) : (l.drop i).all p = (p l[i] && (l.drop (i + 1)).all p) := by
  rw [List.drop_eq_getElem_cons h]; rfl
theorem spec_l05In_eq (a : Int) : spec_l05In.f a = some (inSector a) := by
  unfold spec_l05In.f spec_l01In.f inSector
  by_cases h : 0 ≤ a
  · rw [if_pos h, decide_eq_true h]; rfl
  · rw [if_neg h, decide_eq_false h]; rfl
theorem DeviceOK_loop1 (s : List ByteArray) (u : List S55) (hu : u.length ≤ 60) (d : Nat) : ∀ i : Nat, u.length - i = d → i ≤ u.length → Ev (fun k => spec_DeviceOK.l1 k (i : Int) s u) ((u.drop i).all isIo) := by
  induction d with
  | zero =>
    intro i hd hi
    rw [List.drop_of_length_le (by omega)]
    refine Ev.step (f := fun _ => some true) (fun k => ?_) (Ev.now true)
    simp only [spec_DeviceOK.l1]
    rw [if_neg (by omega)]
  | succ d ih =>
    intro i hd hi
    have hlt : i < u.length := by omega
    rw [all_drop _ _ _ hlt]
    have hstep : ∀ k, spec_DeviceOK.l1 (k + 1) (i : Int) s u = if inSector u[i].f0 = true then (if (u[i].f1.size : Int) > 700 then some false else spec_DeviceOK.l1 k ((i + 1 : Nat) : Int) s u) else some false := fun k => by
      simp only [spec_DeviceOK.l1]
      rw [if_pos (by omega), if_pos (by omega), rdI_nat _ _ hlt, spec_l05In_eq, Option.bind_some, succ_i i (by omega)]
    refine Ev.step hstep ?_
    unfold isIo
    cases hq : inSector u[i].f0
    · exact Ev.now false
    · simp only [if_true, Bool.true_and]
      by_cases hz : u[i].f1.size ≤ 700
      · have hz2 : ¬ (u[i].f1.size : Int) > 700 := by omega
        simp only [if_neg hz2, decide_eq_true hz, Bool.true_and]
        exact ih (i + 1) (by omega) (by omega)
      · have hz2 : (u[i].f1.size : Int) > 700 := by omega
        simp only [if_pos hz2, decide_eq_false hz, Bool.false_and]
        exact Ev.now false
theorem DeviceOK_loop0 (s : List ByteArray) (u : List S55) (hs : s.length = 40) (hu : u.length ≤ 60) (d : Nat) : ∀ i : Nat, s.length - i = d → i ≤ s.length → Ev (fun k => spec_DeviceOK.l0 k (i : Int) s u) (((s.drop i).all fun t => decide ((t.size : Int) ≤ 700)) && u.all isIo) := by
  induction d with
  | zero =>
    intro i hd hi
    rw [List.drop_of_length_le (by omega)]
    have h1 := DeviceOK_loop1 s u hu u.length 0 (by omega) (by omega)
    refine Ev.step (fun k => ?_) h1
    simp only [spec_DeviceOK.l0]
    rw [if_neg (by omega)]; rfl
  | succ d ih =>
    intro i hd hi
    have hlt : i < s.length := by omega
    rw [all_drop _ _ _ hlt]
    have hstep : ∀ k, spec_DeviceOK.l0 (k + 1) (i : Int) s u = if (s[i].size : Int) > 700 then some false else spec_DeviceOK.l0 k ((i + 1 : Nat) : Int) s u := fun k => by
      simp only [spec_DeviceOK.l0]
      rw [if_pos (by omega), if_pos (by omega), rdOf_nat _ _ _ hlt, succ_i i (by omega)]
    refine Ev.step hstep ?_
    by_cases hz : (s[i].size : Int) ≤ 700
    · have hz2 : ¬ (s[i].size : Int) > 700 := by omega
      simp only [if_neg hz2, decide_eq_true hz, Bool.true_and]
      exact ih (i + 1) (by omega) (by omega)
    · have hz2 : (s[i].size : Int) > 700 := by omega
      simp only [if_pos hz2, decide_eq_false hz, Bool.false_and]
      exact Ev.now false
theorem spec_DeviceOK_ev (s : List ByteArray) (u : List S55) : Ev (fun k => spec_DeviceOK.f k s u) (okDev s u) := by
  unfold spec_DeviceOK.f okDev
  by_cases h0 : s.length = 40
  · have h0' : (s.length : Int) = 40 := by omega
    simp only [if_pos h0', decide_eq_true h0, Bool.true_and]
    by_cases h1 : u.length ≤ 60
    · have h1' : ¬ (u.length : Int) > 60 := by omega
      rw [decide_eq_true h1, decide_eq_false h1', Bool.and_true]
      refine Ev.step (fun k => ?_) (DeviceOK_loop0 s u h0 h1 s.length 0 (by omega) (by omega))
      simp only [spec_DeviceOK.j0]
      rw [if_neg (by decide)]; rfl
    · have h1' : (u.length : Int) > 60 := by omega
      rw [decide_eq_false h1, decide_eq_true h1', Bool.and_false, Bool.false_and]
      refine Ev.step (f := fun _ => some false) (fun k => ?_) (Ev.now false)
      simp only [spec_DeviceOK.j0]
      rw [if_pos trivial]
  · have h0' : ¬ (s.length : Int) = 40 := by omega
    simp only [if_neg h0', decide_eq_false h0, Bool.false_and]
    refine Ev.step (f := fun _ => some false) (fun k => ?_) (Ev.now false)
    simp only [spec_DeviceOK.j0]
    rw [if_pos trivial]

end Go.Proofs.Ytkmecmcioniooaa.Leaf
