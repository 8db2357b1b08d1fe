/-
  The program's ReadAt as the printed texts want it. Conditions: none.
-/
import Derived.Test.YtkmecmcioniooaaRead
namespace Go.Proofs.Ytkmecmcioniooaa.PDev
open Go.RowKit Go.Proofs.YtkmecmcioniooaaW.PrintWords Go.Proofs.Ytkmecmcioniooaa.Leaf

def impl_ReadAt.f (s : List ByteArray) (u : List S55) (a : Int) : Option (ByteArray × Int) :=
  (impl_DeviceOK.f s u).bind fun t => if t = true then ((impl_isSector.f a).bind fun q => if q = true then some (readOf s u a, 0) else some (⟨#[]⟩, 4)) else some (⟨#[]⟩, 1)

theorem sector_in (a : Int) (h : impl_isSector.f a = some true) : 0 ≤ a ∧ a ≤ 39 := by
  unfold impl_isSector.f impl_within.f at h
  by_cases h0 : 0 ≤ a
  · rw [if_pos h0] at h
    simp at h
    exact ⟨h0, h⟩
  · rw [if_neg h0] at h
    simp at h

theorem device_len (s : List ByteArray) (u : List S55) (h : impl_DeviceOK.f s u = some true) : s.length = 40 ∧ u.length ≤ 60 := by
  unfold impl_DeviceOK.f at h
  by_cases h0 : (s.length : Int) = 40
  · rw [if_pos h0] at h
    obtain ⟨t, _, h⟩ := Option.bind_eq_some_iff.1 h
    cases t with
    | false => simp at h
    | true =>
      rw [if_pos rfl] at h
      by_cases h1 : (u.length : Int) ≤ 60
      · exact ⟨by omega, by omega⟩
      · rw [if_neg h1] at h; simp at h
  · rw [if_neg h0] at h; simp at h

theorem impl_ReadAt.calls (A0_0 : Option Addr) (c0_0 : Nat) (l0_0 : List ByteArray) (A0_1 : Option Addr) (c0_1 : Nat) (l0_1 : List S55) (a1 : Int) (r1 : ByteArray) (r2 : Int) (w : World) (hr0_0 : Kd.C Kd.string w A0_0 l0_0.length l0_0) (hc0_0 : l0_0.length ≤ c0_0) (hr0_1 : Kd.C k55 w A0_1 l0_1.length l0_1) (hc0_1 : l0_1.length ≤ c0_1) (h : impl_ReadAt.f l0_0 l0_1 a1 = some (r1, r2)) :
    Calls Try.prog 21 #[.agg #[.slice A0_0 l0_0.length c0_0, .slice A0_1 l0_1.length c0_1], .int .i64 a1] w fun e w' => e = .returned (.tuple #[.string r1, .int .i64 r2]) ∧ Below w.heap.size w w' := by
  unfold impl_ReadAt.f at h
  obtain ⟨t, hd, h⟩ := Option.bind_eq_some_iff.1 h
  cases t with
  | false =>
    rw [if_neg (by decide)] at h
    simp only [Option.some.injEq, Prod.mk.injEq] at h
    obtain ⟨rfl, rfl⟩ := h
    exact readAt_bad A0_0 c0_0 l0_0 A0_1 c0_1 l0_1 a1 w hr0_0 hc0_0 hr0_1 hc0_1 hd
  | true =>
    rw [if_pos rfl] at h
    obtain ⟨q, hi, h⟩ := Option.bind_eq_some_iff.1 h
    cases q with
    | false =>
      rw [if_neg (by decide)] at h
      simp only [Option.some.injEq, Prod.mk.injEq] at h
      obtain ⟨rfl, rfl⟩ := h
      exact readAt_out A0_0 c0_0 l0_0 A0_1 c0_1 l0_1 a1 w hr0_0 hc0_0 hr0_1 hc0_1 hd hi
    | true =>
      rw [if_pos rfl] at h
      simp only [Option.some.injEq, Prod.mk.injEq] at h
      obtain ⟨rfl, rfl⟩ := h
      obtain ⟨g1, g2⟩ := device_len l0_0 l0_1 hd
      obtain ⟨g3, g4⟩ := sector_in a1 hi
      exact readAt_calls A0_0 c0_0 l0_0 A0_1 c0_1 l0_1 a1 w hr0_0 hc0_0 hr0_1 hc0_1 (by omega) hd hi g3 (by omega)

end Go.Proofs.Ytkmecmcioniooaa.PDev
