/-
  FnExactReadAt answers true: ReadAt gives what the reference gives. Conditions: none but those of the row.
-/
import Derived.Test.YtkmecmcioniooaaDevP
import Derived.Test.YtkmecmcioniooaaOpenDev
import Derived.Test.YtkmecmcioniooaaReadL
import Derived.Test.YtkmecmcioniooaaPDevx4
import Derived.Test.YtkmecmcioniooaaPDevx3
namespace Go.Proofs.Ytkmecmcioniooaa.Leaf
open Go.RowKit Go.Proofs.YtkmecmcioniooaaW.PrintWords Go.Proofs.YtkmecmcioniooaaW.PrintLast Go.Proofs.YtkmecmcioniooaaW.PrintMore Go.Proofs.Ytkmecmcioniooaa.PDev

theorem find_rev_take (u : List S55) (p : S55 → Bool) (i : Nat) (h : i < u.length) : (u.take (i + 1)).reverse.find? p = if p u[i] = true then some u[i] else (u.take i).reverse.find? p := by
  rw [List.take_succ_eq_append_getElem h, List.reverse_append, List.reverse_singleton, List.singleton_append, List.find?_cons]
  cases p u[i] <;> rfl

theorem l05Read_loop (s : List ByteArray) (u : List S55) (a : Int) (ha0 : 0 ≤ a) (ha1 : a < (s.length : Int)) (hu : u.length ≤ 60) : ∀ n : Nat, n ≤ u.length → Ev (fun k => spec_l05Read.l0 k a ((n : Int) - 1) s u) (match (u.take n).reverse.find? (fun x => x.f0 == a) with | some x => x.f1 | none => rdOf ByteArray.empty s a) := by
  intro n
  induction n with
  | zero =>
    intro _
    refine Ev.step (f := fun _ => some (rdOf ByteArray.empty s a)) (fun k => ?_) (Ev.now _)
    simp only [spec_l05Read.l0]
    rw [if_neg (by omega), if_pos ha0, if_pos ha1]
  | succ n ih =>
    intro hn
    have hlt : n < u.length := by omega
    have ih' := ih (by omega)
    rw [find_rev_take u _ n hlt]
    have hz : ((n + 1 : Nat) : Int) - 1 = (n : Int) := by omega
    have hstep : ∀ k, spec_l05Read.l0 (k + 1) a (((n + 1 : Nat) : Int) - 1) s u = if u[n].f0 = a then some u[n].f1 else spec_l05Read.l0 k a ((n : Int) - 1) s u := fun k => by
      simp only [spec_l05Read.l0]
      rw [hz, if_pos (by omega), if_pos (by omega), if_pos (by omega), rdI_nat _ _ hlt, wrap_ok _ (by omega) (by omega)]
    refine Ev.step hstep ?_
    by_cases hq : u[n].f0 = a
    · simp only [if_pos hq, beq_iff_eq]
      exact Ev.now _
    · simp only [if_neg hq, beq_iff_eq]
      exact ih'

theorem l05Read_ev (s : List ByteArray) (u : List S55) (a : Int) (ha0 : 0 ≤ a) (ha1 : a < (s.length : Int)) (hu : u.length ≤ 60) : Ev (fun k => spec_l05Read.f k s u a) (readOf s u a) := by
  have h := l05Read_loop s u a ha0 ha1 hu u.length (Nat.le_refl _)
  rw [List.take_length] at h
  unfold spec_l05Read.f
  rw [wrap_ok _ (by omega) (by omega)]
  exact h

def readA (s : List ByteArray) (u : List S55) (a : Int) : ByteArray × Int :=
  if okDev s u = true then (if inSector a = true then (readOf s u a, 0) else (⟨#[]⟩, 4)) else (⟨#[]⟩, 1)

theorem impl_isSector_eq (a : Int) : impl_isSector.f a = some (inSector a) := by
  unfold impl_isSector.f impl_within.f inSector
  by_cases h : 0 ≤ a
  · rw [if_pos h, decide_eq_true h]; rfl
  · rw [if_neg h, decide_eq_false h]; rfl

theorem impl_ReadAt_eq (s : List ByteArray) (u : List S55) (a : Int) : impl_ReadAt.f s u a = some (readA s u a) := by
  unfold impl_ReadAt.f readA
  rw [impl_DeviceOK_eq, Option.bind_some]
  by_cases h : okDev s u = true
  · rw [if_pos h, if_pos h, impl_isSector_eq, Option.bind_some]
    by_cases h1 : inSector a = true
    · rw [if_pos h1, if_pos h1]
    · rw [if_neg h1, if_neg h1]
  · rw [if_neg h, if_neg h]

theorem spec_ReadAt_ev (s : List ByteArray) (u : List S55) (a : Int) : Ev (fun k => spec_ReadAt.f k s u a) (readA s u a) := by
  unfold spec_ReadAt.f readA
  refine Ev.bind (spec_DeviceOK_ev s u) ?_
  by_cases h : okDev s u = true
  · simp only [if_pos h, spec_l05In_eq, Option.bind_some]
    by_cases h1 : inSector a = true
    · simp only [if_pos h1]
      have hd := device_len s u (by rw [impl_DeviceOK_eq, h])
      have ha := sector_in a (by rw [impl_isSector_eq, h1])
      exact Ev.bind (l05Read_ev s u a ha.1 (by omega) hd.2) (Ev.now _)
    · simp only [if_neg h1]
      exact Ev.now _
  · simp only [if_neg h]
    exact Ev.now _

theorem ReadAt_j0 (s0 : List ByteArray) (u0 : List S74) (hs : s0.length ≤ 1048576) (hu : u0.length ≤ 1048576) :
    Ev (fun k => laws_FnExactReadAt.j0 k false s0 u0 s0 (u0.map toIo)) true := by
  refine Ev_up ?_
  simp only [laws_FnExactReadAt.j0, Bool.false_eq_true, if_false]
  refine Ev.bind (toDevice_ev s0 u0 hs hu) (Ev.bind (eqDevice_ev s0 (u0.map toIo) (by omega) (by rw [List.length_map]; omega)) ?_)
  simp only [if_true]
  exact Ev.now true

theorem FnExactReadAt_ev (s : List ByteArray) (u : List S74) (a : Int) (h : DevIn s u) : Ev (fun k => laws_FnExactReadAt.f k s u a) true := by
  obtain ⟨r, e, g⟩ := szDevice_ev s u h 1048576 (by decide) (by decide)
  unfold laws_FnExactReadAt.f
  refine Ev.bind e ?_
  rcases g with g | ⟨g, hs, hu⟩
  · simp only [if_pos g]
    exact Ev.now true
  · have n1 : ¬ r < 0 := by omega
    simp only [if_neg n1]
    have ht := toDevice_ev s u hs hu
    refine Ev.bind ht (Ev.bind (spec_ReadAt_ev s (u.map toIo) a) (Ev.bind ht ?_))
    simp only [impl_ReadAt_eq, Option.bind_some, bne_self_eq_false, if_true]
    exact ReadAt_j0 s u hs hu
theorem FnExactReadAt_walk (A0 : Option Addr) (c0 : Nat) (s : List ByteArray) (A1 : Option Addr) (c1 : Nat) (u : List S74) (a : Int) (w : World)
    (hk : Kd.C Kd.string w A0 s.length s ∧ s.length ≤ c0 ∧ Kd.C k74 w A1 u.length u ∧ u.length ≤ c1) (h : DevIn s u) :
    Calls Try.prog 6 #[.agg #[.slice A0 s.length c0, .slice A1 u.length c1], .int .i64 a] w fun e w' => e = .returned (.bool true) ∧ Below w.heap.size w w' := by
  obtain ⟨k, hf⟩ := (FnExactReadAt_ev s u a h).rounds
  exact laws_FnExactReadAt.calls k A0 c0 s A1 c1 u a true w hk.1 hk.2.1 hk.2.2.1 hk.2.2.2 hf

end Go.Proofs.Ytkmecmcioniooaa.Leaf
