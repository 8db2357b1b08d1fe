/-
  What a crash leaves of a device, the program's way and the reference's. In plain words. Conditions: a device that is right.
-/
import Derived.Test.YtkmecmcioniooaaDevP
import Derived.Test.YtkmecmcioniooaaCloneS
import Derived.Test.YtkmecmcioniooaaPDevx10
import Derived.Test.YtkmecmcioniooaaPDevx12
import Derived.Test.YtkmecmcioniooaaPDevx9
namespace Go.Proofs.Ytkmecmcioniooaa.Leaf
open Go.RowKit Go.Proofs.YtkmecmcioniooaaW.PrintWords Go.Proofs.YtkmecmcioniooaaW.PrintLast Go.Proofs.YtkmecmcioniooaaW.PrintMore Go.Proofs.Ytkmecmcioniooaa.PDev
def fateAt (fs : List Int) (i : Nat) : Int := if 0 < fs.length then fs.getD (i % fs.length) 0 else 0
def tornB (x old : ByteArray) : ByteArray := x.extract 0 (x.size / 2) ++ old.extract (min (x.size / 2) old.size) old.size
def stepC (f : Int) (x : S55) (s : List ByteArray) : List ByteArray :=
  if f = 1 then s.set x.f0.toNat x.f1 else if f = 2 then s.set x.f0.toNat (tornB x.f1 (rdOf ByteArray.empty s x.f0)) else s
def crashL (fs : List Int) : Nat → List S55 → List ByteArray → List ByteArray
  | _, [], s => s
  | i, x :: u, s => crashL fs (i + 1) u (stepC (fateAt fs i) x s)
/-- Forty texts of at most 700 bytes. -/
def Secs (s : List ByteArray) : Prop := s.length = 40 ∧ ∀ t ∈ s, t.size ≤ 700
theorem isIo_iff {x : S55} (h : isIo x = true) : 0 ≤ x.f0 ∧ x.f0 ≤ 39 ∧ x.f1.size ≤ 700 := by
  unfold isIo inSector at h
  simp only [Bool.and_eq_true, decide_eq_true_eq] at h
  exact ⟨h.1.1, h.1.2, h.2⟩
theorem Secs.old {s : List ByteArray} (h : Secs s) (x : Int) (h0 : 0 ≤ x) (h1 : x ≤ 39) : (rdOf ByteArray.empty s x).size ≤ 700 := by
  have hx : x.toNat < s.length := by have := h.1; omega
  unfold rdOf
  rw [List.getD_eq_getElem?_getD, List.getElem?_eq_getElem hx]
  exact h.2 _ (List.getElem_mem hx)
theorem tornB_size (x old : ByteArray) (hx : x.size ≤ 700) (ho : old.size ≤ 700) : (tornB x old).size ≤ 700 := by
  unfold tornB
  rw [ByteArray.size_append, ByteArray.size_extract, ByteArray.size_extract]; omega
theorem Secs.set {s : List ByteArray} (h : Secs s) (i : Nat) (t : ByteArray) (ht : t.size ≤ 700) : Secs (s.set i t) := by
  refine ⟨by rw [List.length_set]; exact h.1, fun y hy => ?_⟩
  rcases List.mem_or_eq_of_mem_set hy with hy | rfl
  · exact h.2 y hy
  · exact ht
theorem Secs.step {s : List ByteArray} (h : Secs s) (f : Int) {x : S55} (hx : isIo x = true) : Secs (stepC f x s) := by
  obtain ⟨h0, h1, h2⟩ := isIo_iff hx
  unfold stepC
  split
  · exact h.set _ _ h2
  · split
    · exact h.set _ _ (tornB_size _ _ h2 (h.old x.f0 h0 h1))
    · exact h
theorem half_nat (x : ByteArray) (hx : x.size ≤ 700) : wrap64 ((x.size : Int) / 2) = ((x.size / 2 : Nat) : Int) := by rw [wrap_ok _ (by omega) (by omega)]; omega
theorem mn_nat (a b : Nat) : mn (a : Int) (b : Int) = ((min a b : Nat) : Int) := by unfold mn; split <;> omega
theorem implJ (k : Nat) (fs : List Int) (f : Int) (u : List S55) (n i : Int) (s : List ByteArray) (x : S55) (hs : Secs s) (hx : isIo x = true) :
    impl_Device_crash.j1 (k + 1) fs f u n i s x.f0 x.f1 = impl_Device_crash.l0 k fs u n (wrap64 (i + 1)) (stepC f x s) := by
  obtain ⟨h0, h1, h2⟩ := isIo_iff hx
  have hl := hs.1
  have ho := hs.old x.f0 h0 h1
  simp only [impl_Device_crash.j1]
  unfold stepC
  by_cases c1 : f = 1
  · rw [if_pos c1, if_pos c1, if_pos h0, if_pos (by omega)]
  rw [if_neg c1, if_neg c1]
  by_cases c2 : f = 2
  · rw [if_pos c2, if_pos c2, if_pos h0, if_pos (by omega), half_nat _ h2, mn_nat, if_pos (by omega), if_pos (by omega), if_pos (by omega), if_pos (by omega), Int.toNat_natCast, Int.toNat_natCast, if_pos (by rw [ByteArray.size_extract, ByteArray.size_extract]; omega)]
    rfl
  · rw [if_neg c2, if_neg c2]
theorem tmod_nat (i n : Nat) : Int.tmod (i : Int) (n : Int) = ((i % n : Nat) : Int) := by rw [Int.tmod_eq_emod_of_nonneg (by omega)]; rfl
theorem rd_nat (fs : List Int) (i : Nat) : rd fs (i : Int) = fs.getD i 0 := by unfold rd; rw [Int.toNat_natCast]
theorem implC_loop (fs : List Int) (u : List S55) (hu : u.length ≤ 60) (hall : ∀ x ∈ u, isIo x = true) (d : Nat) : ∀ (i : Nat) (s : List ByteArray), u.length - i = d → i ≤ u.length → Secs s →
    Ev (fun k => impl_Device_crash.l0 k fs u (u.length : Int) (i : Int) s) (crashL fs i (u.drop i) s, ([] : List S55)) := by
  induction d with
  | zero =>
    intro i s hd hi hs
    rw [List.drop_of_length_le (by omega)]
    refine Ev.step (f := fun _ => some (s, ([] : List S55))) (fun k => ?_) (Ev.now _)
    simp only [impl_Device_crash.l0]
    rw [if_neg (by omega)]
  | succ d ih =>
    intro i s hd hi hs
    have hlt : i < u.length := by omega
    have hx := hall u[i] (List.getElem_mem hlt)
    rw [List.drop_eq_getElem_cons hlt]
    refine Ev.step (f := fun k => impl_Device_crash.j1 k fs (fateAt fs i) u (u.length : Int) (i : Int) s u[i].f0 u[i].f1) (fun k => ?_) (Ev.step (f := fun k => impl_Device_crash.l0 k fs u (u.length : Int) ((i + 1 : Nat) : Int) (stepC (fateAt fs i) u[i] s)) (fun k => ?_) (ih (i + 1) _ (by omega) (by omega) (hs.step _ hx)))
    · simp only [impl_Device_crash.l0]
      rw [if_pos (by omega), if_pos (by omega), if_pos (by omega), rdI_nat _ _ hlt]
      unfold fateAt
      by_cases hf : 0 < fs.length
      · rw [if_pos (by omega), if_neg (by omega), tmod_nat, if_pos (by omega), if_pos (by have := Nat.mod_lt i hf; omega), rd_nat, if_pos hf]
      · rw [if_neg (by omega), if_neg hf]
    · rw [implJ k fs _ u _ _ s u[i] hs hx, succ_i i (by omega)]
theorem specJ (k : Nat) (fs : List Int) (f : Int) (s0 : List ByteArray) (u : List S55) (i : Nat) (s : List ByteArray) (e : List S55) (hi : i < u.length) (hs : Secs s) (hx : isIo u[i] = true) :
    spec_l05Crash.j1 (k + 1) fs (i : Int) f s0 u s e = spec_l05Crash.l0 k fs (wrap64 ((i : Int) + 1)) s0 u (stepC f u[i] s) e := by
  obtain ⟨h0, h1, h2⟩ := isIo_iff hx
  have hl := hs.1
  have ho := hs.old u[i].f0 h0 h1
  simp only [spec_l05Crash.j1]
  unfold stepC
  rw [if_pos (by omega), if_pos (by omega), rdI_nat _ _ hi, if_pos h0, if_pos (by omega)]
  by_cases c1 : f = 1
  · rw [if_pos c1, if_pos c1]
  rw [if_neg c1, if_neg c1]
  by_cases c2 : f = 2
  · rw [if_pos c2, if_pos c2, half_nat _ h2, mn_nat, if_pos (by omega), if_pos (by omega), if_pos (by omega), if_pos (by omega), Int.toNat_natCast, Int.toNat_natCast, if_pos (by rw [ByteArray.size_extract, ByteArray.size_extract]; omega)]
    rfl
  · rw [if_neg c2, if_neg c2]
theorem specC_loop (fs : List Int) (s0 : List ByteArray) (u : List S55) (hu : u.length ≤ 60) (hall : ∀ x ∈ u, isIo x = true) (d : Nat) : ∀ (i : Nat) (s : List ByteArray), u.length - i = d → i ≤ u.length → Secs s →
    Ev (fun k => spec_l05Crash.l0 k fs (i : Int) s0 u s ([] : List S55)) (crashL fs i (u.drop i) s, ([] : List S55)) := by
  induction d with
  | zero =>
    intro i s hd hi hs
    rw [List.drop_of_length_le (by omega)]
    refine Ev.step (f := fun _ => some (s, ([] : List S55))) (fun k => ?_) (Ev.now _)
    simp only [spec_l05Crash.l0]
    rw [if_neg (by omega)]
  | succ d ih =>
    intro i s hd hi hs
    have hlt : i < u.length := by omega
    have hx := hall u[i] (List.getElem_mem hlt)
    rw [List.drop_eq_getElem_cons hlt]
    refine Ev.step (f := fun k => spec_l05Crash.j1 k fs (i : Int) (fateAt fs i) s0 u s ([] : List S55)) (fun k => ?_) (Ev.step (f := fun k => spec_l05Crash.l0 k fs ((i + 1 : Nat) : Int) s0 u (stepC (fateAt fs i) u[i] s) ([] : List S55)) (fun k => ?_) (ih (i + 1) _ (by omega) (by omega) (hs.step _ hx)))
    · simp only [spec_l05Crash.l0]
      rw [if_pos (by omega)]
      unfold fateAt
      by_cases hf : 0 < fs.length
      · rw [if_pos (by omega), if_neg (by omega), tmod_nat, if_pos (by omega), if_pos (by have := Nat.mod_lt i hf; omega), rd_nat, if_pos hf]
      · rw [if_neg (by omega), if_neg hf]
    · rw [specJ k fs _ s0 u i s _ hlt hs hx, succ_i i (by omega)]
/-- The device that is right, in parts. -/
theorem okDev_iff {s : List ByteArray} {u : List S55} (h : okDev s u = true) : Secs s ∧ u.length ≤ 60 ∧ ∀ x ∈ u, isIo x = true := by
  unfold okDev at h
  simp only [Bool.and_eq_true, decide_eq_true_eq, List.all_eq_true] at h
  exact ⟨⟨h.1.1.1, fun t ht => by have := h.1.1.2 t ht; omega⟩, h.1.2, h.2⟩
theorem implC_ev (fs : List Int) {s : List ByteArray} {u : List S55} (h : okDev s u = true) : Ev (fun k => impl_Device_crash.f k s u fs) (crashL fs 0 u s, ([] : List S55)) := by
  obtain ⟨h1, h2, h3⟩ := okDev_iff h
  have hl := h1.1
  have hc : slices_Clone_string_string.f s = some s := if_pos (by omega)
  unfold impl_Device_crash.f
  simp only [hc, Option.bind_some]
  exact implC_loop fs u h2 h3 u.length 0 s (by omega) (by omega) h1
theorem specC_ev (fs : List Int) {s : List ByteArray} {u : List S55} (h : okDev s u = true) : Ev (fun k => spec_l05Crash.f k s u fs) (crashL fs 0 u s, ([] : List S55)) := by
  obtain ⟨h1, h2, h3⟩ := okDev_iff h
  have hl := h1.1
  have hc : ([] : List ByteArray).length + s.length < 8796093022208 := by rw [List.length_nil]; omega
  unfold spec_l05Crash.f
  simp only [Option.bind_some, if_pos hc, List.nil_append]
  exact specC_loop fs s u h2 h3 u.length 0 s (by omega) (by omega) h1
theorem crashL_secs (fs : List Int) (u : List S55) : ∀ (i : Nat) (s : List ByteArray), Secs s → (∀ x ∈ u, isIo x = true) → Secs (crashL fs i u s) := by
  induction u with
  | nil => intro i s h _; exact h
  | cons x u ih => intro i s h hx; exact ih (i + 1) _ (h.step _ (hx x (List.mem_cons_self ..))) (fun y hy => hx y (List.mem_cons_of_mem _ hy))
end Go.Proofs.Ytkmecmcioniooaa.Leaf
