/-
  An Oram that comes in as an argument, opened: its rows and what they hold. Conditions: none.
-/
import Derived.Test.YtmodpocjnafpdaaOraW
import Derived.Test.YtmodpocjnafpdaaOraQ
import Derived.Deep.Slices
import Derived.ChangeArms
import Derived.OpenShut
import Derived.WideLaws
namespace Go.Proofs.Ytmodpocjnafpdaa.Leaf
open Go.ChangeShapes Go.WideShapes Go.RowKit Go.Proofs.YtmodpocjnafpdaaW.PrintWords Go.Proofs.Ytmodpocjnafpdaa.POra

instance : Inhabited S80 := ⟨z80⟩
theorem open_row {H : Type} {enc : TypeId × Value → H} {w : World} {α : Type} [Inhabited α] (d : Kd α) {t e : TypeId} (ht : Try.prog.underlying t = some (.slice e)) (hz : Try.prog.cellsOf e = d.sz) (pe : α → Prop)
    (hel : ∀ (n : Nat) (cs : List Value) (y : DataW H × List MemPlace), cs.length = d.sz → DataW.trod enc Try.prog w 0 (fun _ => true) true n e cs = some y → ∃ x : α, d.K w x cs ∧ pe x)
    {c : Value} {fuel : Nat} {x : DataW H × List MemPlace} (h : DataW.trod enc Try.prog w 0 (fun _ => true) true fuel t [c] = some x) :
    ∃ (A : Option Addr) (cap : Nat) (l : List α), c = .slice A l.length cap ∧ Kd.C d w A l.length l ∧ l.length ≤ cap ∧ l.length ≤ 9223372036854775807 ∧ ∀ s ∈ l, pe s := by
  rcases Go.Deep.open_slice ht h with ⟨hcs, _⟩ | ⟨a, len, cap, m, n, D, Pl, hcs, _, hl, hm, hmm, _, hx⟩
  · simp only [List.cons.injEq, and_true] at hcs
    subst hcs
    exact ⟨none, 0, [], rfl, ⟨rfl, Nat.zero_le _, fun h => absurd h (by simp)⟩, Nat.zero_le _, Nat.zero_le _, fun s hs => (by simp at hs)⟩
  · simp only [List.cons.injEq, and_true] at hcs
    subst hcs
    simp only [if_true] at hmm
    have each : ∀ i, i < len → ∃ q : α, (∃ cs, cs.length = d.sz ∧ d.K w q cs ∧ ∀ j u, cs[j]? = some u → w.cell? (a.add (i * d.sz + j)) = some u) ∧ pe q := by
      intro i hi
      obtain ⟨cs, h1, h2⟩ := hx i (by rw [hmm]; omega)
      rw [hz] at h1
      obtain ⟨_, hlen, hcell⟩ := World.cells?_some h1
      obtain ⟨q, hK, hp⟩ := hel n cs _ hlen h2
      refine ⟨q, ⟨cs, hlen, hK, fun j u hj => ?_⟩, hp⟩
      have hjl : j < cs.length := (List.getElem?_eq_some_iff.1 hj).1
      have := hcell j (by omega)
      rw [Go.Deep.add_add] at this
      rw [this, hj]
    obtain ⟨q, hq⟩ := Go.Deep.choose_lt each
    have hlen : ((List.range len).map q).length = len := by simp
    refine ⟨some a, cap, (List.range len).map q, by rw [hlen], ?_, by rw [hlen]; exact hl, by rw [hlen]; exact Nat.le_trans hl hm, fun s hs => ?_⟩
    · refine ⟨rfl, by rw [hlen]; exact Nat.le_trans hl hm, fun _ => ⟨a, rfl, fun j p hj => ?_⟩⟩
      have hjl : j < len := by have := (List.getElem?_eq_some_iff.1 hj).1; omega
      simp only [List.getElem?_map, List.getElem?_range hjl, Option.map_some, Option.some.injEq] at hj
      subst hj
      exact (hq j hjl).1
    · obtain ⟨j, hj, rfl⟩ := List.mem_map.1 hs
      exact (hq j (List.mem_range.1 hj)).2

theorem open_ints {H : Type} {enc : TypeId × Value → H} {w : World} {c : Value} {fuel : Nat} {x : DataW H × List MemPlace} (h : DataW.trod enc Try.prog w 0 (fun _ => true) true fuel 25 [c] = some x) :
    ∃ (A : Option Addr) (cap : Nat) (l : List Int), c = .slice A l.length cap ∧ Kd.C (Kd.int .i64) w A l.length l ∧ l.length ≤ cap ∧ l.length ≤ 9223372036854775807 := by
  obtain ⟨A, cap, l, h0, h1, h2, h3, _⟩ := open_row (Kd.int .i64) Try.underlying25 (by kernel_rfl) (fun _ => True) (fun n cs y hl hy => by
    match cs, hl with
    | [v], _ =>
      obtain ⟨q, e, _, _⟩ := DataW.trod_int Try.underlying3 hy
      exact ⟨q, e, trivial⟩) h
  exact ⟨A, cap, l, h0, h1, h2, h3⟩
theorem open_blks {H : Type} {enc : TypeId × Value → H} {w : World} {c : Value} {fuel : Nat} {x : DataW H × List MemPlace} (h : DataW.trod enc Try.prog w 0 (fun _ => true) true fuel 31 [c] = some x) :
    ∃ (A : Option Addr) (cap : Nat) (l : List S80), c = .slice A l.length cap ∧ Kd.C k80 w A l.length l ∧ l.length ≤ cap ∧ l.length ≤ 9223372036854775807 := by
  have ki : Try.prog.cellsOf 3 = 1 := by kernel_rfl
  obtain ⟨A, cap, l, h0, h1, h2, h3, _⟩ := open_row k80 Try.underlying31 (by kernel_rfl) (fun _ => True) (fun n cs y hl hy => by
    obtain ⟨ys, m, _, hx, _, hlen, hg⟩ := DataW.trod_struct Try.underlying80 hy
    match ys, hlen, cs, hl with
    | [y0, y1, y2], _, [v0, v1, v2], _ =>
      have g0 := hg 0 _ rfl
      have g1 := hg 1 _ rfl
      have g2 := hg 2 _ rfl
      simp [ki] at g0 g1 g2
      obtain ⟨q0, e0, _, _⟩ := DataW.trod_int Try.underlying3 g0
      obtain ⟨q1, e1, _, _⟩ := DataW.trod_int Try.underlying3 g1
      obtain ⟨q2, e2, _, _⟩ := DataW.trod_int Try.underlying3 g2
      simp only [List.cons.injEq, and_true] at e0 e1 e2
      subst e0; subst e1; subst e2
      exact ⟨⟨q0, q1, q2⟩, k80_mk w ⟨q0, q1, q2⟩, trivial⟩) h
  exact ⟨A, cap, l, h0, h1, h2, h3⟩
theorem open_rows {H : Type} {enc : TypeId × Value → H} {w : World} {c : Value} {fuel : Nat} {x : DataW H × List MemPlace} (h : DataW.trod enc Try.prog w 0 (fun _ => true) true fuel 32 [c] = some x) :
    ∃ (A : Option Addr) (cap : Nat) (l : List (List S80)), c = .slice A l.length cap ∧ Kd.C (Kd.slice 80 k80) w A l.length l ∧ l.length ≤ cap ∧ Rows l := by
  obtain ⟨A, cap, l, h0, h1, h2, h3, h4⟩ := open_row (Kd.slice 80 k80) Try.underlying32 (by kernel_rfl) (fun z => z.length ≤ 9223372036854775807) (fun n cs y hl hy => by
    match cs, hl with
    | [v], _ =>
      obtain ⟨A, cap, l, rfl, g1, g2, g3⟩ := open_blks hy
      exact ⟨l, ⟨A, cap, rfl, g2, g1⟩, g3⟩) h
  exact ⟨A, cap, l, h0, h1, h2, h3, h4⟩
theorem open_oram {H : Type} {enc : TypeId × Value → H} {w : World} {r : Reach} {b0 : Nat} {v : Value} {d : DataW H} {p : List MemPlace} (hv : Value.okWide Try.prog w r b0 34 v) (h : DataW.Trod enc Try.prog w 0 (fun _ => true) true 34 v d p) :
    ∃ (x : Six) (p : List Int) (st : List S80) (bu : List (List S80)), v = .agg #[.slice x.A0 p.length x.c0, .slice x.A1 st.length x.c1, .slice x.A2 bu.length x.c2] ∧ OrL w x p st bu ∧ OrIn p st bu := by
  obtain ⟨cs, rfl, hszc⟩ := okWide_struct Try.underlying34 hv
  rw [show Try.prog.cellsOf 34 = 3 by kernel_rfl] at hszc
  obtain ⟨l⟩ := cs
  obtain ⟨c0, c1, c2, rfl⟩ : ∃ c0 c1 c2, l = [c0, c1, c2] := by
    match l, hszc with
    | [c0, c1, c2], _ => exact ⟨c0, c1, c2, rfl⟩
  obtain ⟨fuel, hf⟩ := h
  obtain ⟨ys, m, _, hx, _, hlen, hg⟩ := DataW.trod_struct Try.underlying34 hf
  obtain ⟨z0, z1, z2, rfl⟩ : ∃ z0 z1 z2, ys = [z0, z1, z2] := by
    match ys, hlen with
    | [z0, z1, z2], _ => exact ⟨z0, z1, z2, rfl⟩
  have k0 : Try.prog.cellsOf 25 = 1 := by kernel_rfl
  have k1 : Try.prog.cellsOf 31 = 1 := by kernel_rfl
  have k2 : Try.prog.cellsOf 32 = 1 := by kernel_rfl
  have g0 : DataW.trod enc Try.prog w 0 (fun _ => true) true m 25 [c0] = some z0 := by
    have := hg 0 _ rfl
    simpa [k0, Value.cells] using this
  have g1 : DataW.trod enc Try.prog w 0 (fun _ => true) true m 31 [c1] = some z1 := by
    have := hg 1 _ rfl
    simpa [k1, Value.cells] using this
  have g2 : DataW.trod enc Try.prog w 0 (fun _ => true) true m 32 [c2] = some z2 := by
    have := hg 2 _ rfl
    simpa [k2, Value.cells] using this
  obtain ⟨A0, p0, l0, rfl, a0, b0, e0⟩ := open_ints g0
  obtain ⟨A1, p1, l1, rfl, a1, b1, e1⟩ := open_blks g1
  obtain ⟨A2, p2, l2, rfl, a2, b2, e2⟩ := open_rows g2
  exact ⟨⟨A0, p0, A1, p1, A2, p2⟩, l0, l1, l2, rfl, ⟨a0, b0, a1, b1, a2, b2⟩, e0, e1, e2⟩

end Go.Proofs.Ytmodpocjnafpdaa.Leaf
