/-
  A device that comes in as an argument, opened: its rows and what they hold. Conditions: none.
-/
import Derived.Test.YtkmecmcioniooaaPDevx0
import Derived.SliceStrings
import Derived.Deep.SlicePairs
import Derived.ChangeArms
import Derived.OpenShut
import Derived.WideLaws
namespace Go.Proofs.Ytkmecmcioniooaa.Leaf
open Go.ChangeShapes Go.WideShapes Go.RowKit Go.Proofs.YtkmecmcioniooaaW.PrintWords Go.Proofs.Ytkmecmcioniooaa.PDev

instance : Inhabited S74 := ⟨z74⟩
theorem open_strs {H : Type} {enc : TypeId × Value → H} {w : World} {c : Value} {fuel : Nat} {x : DataW H × List MemPlace} (h : DataW.trod enc Try.prog w 0 (fun _ => true) true fuel 22 [c] = some x) :
    ∃ (A : Option Addr) (cap : Nat) (l : List ByteArray), c = .slice A l.length cap ∧ Kd.C Kd.string w A l.length l ∧ l.length ≤ cap ∧ l.length ≤ 9223372036854775807 ∧ ∀ s ∈ l, s.size ≤ 9223372036854775807 := by
  rcases open_strings Try.underlying22 Try.underlying9 (by kernel_rfl) h with ⟨hcs, _⟩ | ⟨a, len, cap, ss, hcs, _, hl, hm, hz, _, hcell, hsz⟩
  · simp only [List.cons.injEq, and_true] at hcs
    subst hcs
    exact ⟨none, 0, [], rfl, Kd.C_of_reads (enc := Value.string) (d := ByteArray.empty) (h1 := fun _ => rfl) ⟨rfl, Nat.zero_le _, fun h => absurd h (by simp)⟩, Nat.zero_le _, Nat.zero_le _, fun s hs => (by simp at hs)⟩
  · simp only [List.cons.injEq, and_true] at hcs
    subst hcs
    simp only [if_true] at hz
    have hlen : (ss.take len).length = len := by rw [List.length_take]; omega
    refine ⟨some a, cap, ss.take len, by rw [hlen], ?_, by rw [hlen]; exact hl, by rw [hlen]; exact Nat.le_trans hl hm, fun s hs => hsz s (List.mem_of_mem_take hs)⟩
    refine Kd.C_of_reads (enc := Value.string) (d := ByteArray.empty) (h1 := fun _ => rfl) ⟨rfl, ?_, fun _ => ⟨a, rfl, fun j hj => ?_⟩⟩
    · rw [hlen]; exact Nat.le_trans hl hm
    · rw [hlen] at hj
      rw [hcell j (by omega)]
      congr 1
      simp only [List.getD_eq_getElem?_getD, List.getElem?_take, if_pos hj]
theorem open_ios {H : Type} {enc : TypeId × Value → H} {w : World} {c : Value} {fuel : Nat} {x : DataW H × List MemPlace} (h : DataW.trod enc Try.prog w 0 (fun _ => true) true fuel 30 [c] = some x) :
    ∃ (A : Option Addr) (cap : Nat) (l : List S74), c = .slice A l.length cap ∧ Kd.C k74 w A l.length l ∧ l.length ≤ cap ∧ l.length ≤ 9223372036854775807 ∧ ∀ s ∈ l, s.f1.size ≤ 9223372036854775807 := by
  have ki : Try.prog.cellsOf 3 = 1 := by kernel_rfl
  have ks : Try.prog.cellsOf 9 = 1 := by kernel_rfl
  rcases Go.Deep.open_slice_pairs Try.underlying30 Try.underlying74 (by kernel_rfl) rfl rfl ki ks h with ⟨hcs, _⟩ | ⟨a, len, cap, m, n, V0, V1, D0, D1, P0, P1, hcs, _, hl, hm, hmm, _, hx⟩
  · simp only [List.cons.injEq, and_true] at hcs
    subst hcs
    exact ⟨none, 0, [], rfl, ⟨rfl, Nat.zero_le _, fun h => absurd h (by simp)⟩, Nat.zero_le _, Nat.zero_le _, fun s hs => (by simp at hs)⟩
  · simp only [List.cons.injEq, and_true] at hcs
    subst hcs
    simp only [if_true] at hmm

    have each : ∀ i, i < len → ∃ q : S74, w.cell? (a.add (i * 2)) = some (.int .i64 q.f0) ∧ w.cell? (a.add (i * 2 + 1)) = some (.string q.f1) ∧ q.f1.size ≤ 9223372036854775807 := by
      intro i hi
      obtain ⟨h0, h1, h2, h3⟩ := hx i (by rw [hmm]; omega)
      obtain ⟨q0, e0, _, _⟩ := DataW.trod_int Try.underlying3 h2
      obtain ⟨q1, e1, _, hs⟩ := DataW.trod_string Try.underlying9 h3
      simp only [List.cons.injEq, and_true] at e0 e1
      exact ⟨⟨q0, q1⟩, by rw [h0, e0], by rw [h1, e1], hs⟩
    obtain ⟨q, hq⟩ := Go.Deep.choose_lt each
    have hlen : ((List.range len).map q).length = len := by simp
    refine ⟨some a, cap, (List.range len).map q, by rw [hlen], ?_, by rw [hlen]; exact hl, by rw [hlen]; exact Nat.le_trans hl hm, fun s hs => ?_⟩
    · refine ⟨rfl, by rw [hlen]; exact Nat.le_trans hl hm, fun _ => ⟨a, rfl, fun j p hj => ⟨[.int .i64 p.f0, .string p.f1], rfl, k74_mk w p, fun i u hi => ?_⟩⟩⟩
      have hjl : j < len := by have := (List.getElem?_eq_some_iff.1 hj).1; omega
      simp only [List.getElem?_map, List.getElem?_range hjl, Option.map_some, Option.some.injEq] at hj
      subst hj
      obtain ⟨g0, g1, _⟩ := hq j hjl
      match i, hi with
      | 0, hi =>
        simp only [List.getElem?_cons_zero, Option.some.injEq] at hi
        subst hi
        exact g0
      | 1, hi =>
        simp only [List.getElem?_cons_succ, List.getElem?_cons_zero, Option.some.injEq] at hi
        subst hi
        exact g1
    · obtain ⟨j, hj, rfl⟩ := List.mem_map.1 hs
      exact (hq j (List.mem_range.1 hj)).2.2
theorem open_dev {H : Type} {enc : TypeId × Value → H} {w : World} {r : Reach} {b0 : Nat} {v : Value} {d : DataW H} {p : List MemPlace} (hv : Value.okWide Try.prog w r b0 32 v) (h : DataW.Trod enc Try.prog w 0 (fun _ => true) true 32 v d p) :
    ∃ (A0 : Option Addr) (c0 : Nat) (l0 : List ByteArray) (A1 : Option Addr) (c1 : Nat) (l1 : List S74), v = .agg #[.slice A0 l0.length c0, .slice A1 l1.length c1] ∧
      (Kd.C Kd.string w A0 l0.length l0 ∧ l0.length ≤ c0 ∧ Kd.C k74 w A1 l1.length l1 ∧ l1.length ≤ c1) ∧
      (l0.length ≤ 9223372036854775807 ∧ (∀ s ∈ l0, s.size ≤ 9223372036854775807) ∧ l1.length ≤ 9223372036854775807 ∧ ∀ s ∈ l1, s.f1.size ≤ 9223372036854775807) := by
  obtain ⟨cs, rfl, hszc⟩ := okWide_struct Try.underlying32 hv
  rw [show Try.prog.cellsOf 32 = 2 by kernel_rfl] at hszc
  obtain ⟨l⟩ := cs
  obtain ⟨c0, c1, rfl⟩ : ∃ c0 c1, l = [c0, c1] := by
    match l, hszc with
    | [c0, c1], _ => exact ⟨c0, c1, rfl⟩
  obtain ⟨fuel, hf⟩ := h
  obtain ⟨ys, m, _, hx, _, hlen, hg⟩ := DataW.trod_struct Try.underlying32 hf
  obtain ⟨z0, z1, rfl⟩ : ∃ z0 z1, ys = [z0, z1] := by
    match ys, hlen with
    | [z0, z1], _ => exact ⟨z0, z1, rfl⟩
  have k0 : Try.prog.cellsOf 22 = 1 := by kernel_rfl
  have k1 : Try.prog.cellsOf 30 = 1 := by kernel_rfl
  have g0 : DataW.trod enc Try.prog w 0 (fun _ => true) true m 22 [c0] = some z0 := by
    have := hg 0 _ rfl
    simpa [k0, Value.cells] using this
  have g1 : DataW.trod enc Try.prog w 0 (fun _ => true) true m 30 [c1] = some z1 := by
    have := hg 1 _ rfl
    simpa [k1, Value.cells] using this
  obtain ⟨A0, p0, l0, rfl, a0, b0, e0, f0⟩ := open_strs g0
  obtain ⟨A1, p1, l1, rfl, a1, b1, e1, f1⟩ := open_ios g1
  exact ⟨A0, p0, l0, A1, p1, l1, rfl, ⟨a0, b0, a1, b1⟩, e0, f0, e1, f1⟩

end Go.Proofs.Ytkmecmcioniooaa.Leaf
