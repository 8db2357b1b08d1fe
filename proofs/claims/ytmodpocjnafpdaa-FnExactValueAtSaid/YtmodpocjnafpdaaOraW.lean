/-
  The Oram's helpers of the laws, with contracts that tell of reading alone. Conditions: none.
-/
import Derived.Test.YtmodpocjnafpdaaPOrax2
import Derived.Test.YtmodpocjnafpdaaPOrax4
import Derived.Test.YtmodpocjnafpdaaPOrax7
namespace Go.Proofs.Ytmodpocjnafpdaa.Leaf
open Go.RowKit Go.Proofs.YtmodpocjnafpdaaW.PrintWords Go.Proofs.YtmodpocjnafpdaaW.PrintMore Go.Proofs.Ytmodpocjnafpdaa.POra

/-- Where the three lists of an Oram lie. -/
structure Six where
  A0 : Option Addr
  c0 : Nat
  A1 : Option Addr
  c1 : Nat
  A2 : Option Addr
  c2 : Nat

/-- The program's Oram. -/
structure Orm (w : World) (x : Six) (p : List Int) (st : List S61) (bu : List (List S61)) : Prop where
  h0 : Kd.C (Kd.int .i64) w x.A0 p.length p
  l0 : p.length ≤ x.c0
  h1 : Kd.C k61 w x.A1 st.length st
  l1 : st.length ≤ x.c1
  h2 : Kd.C (Kd.slice 61 k61) w x.A2 bu.length bu
  l2 : bu.length ≤ x.c2
/-- The laws' Oram. -/
structure OrL (w : World) (x : Six) (p : List Int) (st : List S80) (bu : List (List S80)) : Prop where
  h0 : Kd.C (Kd.int .i64) w x.A0 p.length p
  l0 : p.length ≤ x.c0
  h1 : Kd.C k80 w x.A1 st.length st
  l1 : st.length ≤ x.c1
  h2 : Kd.C (Kd.slice 80 k80) w x.A2 bu.length bu
  l2 : bu.length ≤ x.c2
theorem Orm.below {w w' : World} {x : Six} {p : List Int} {st : List S61} {bu : List (List S61)} (h : Orm w x p st bu) (hb : Below w.heap.size w w') : Orm w' x p st bu := ⟨Kd.C_below h.h0 hb, h.l0, Kd.C_below h.h1 hb, h.l1, Kd.C_below h.h2 hb, h.l2⟩
theorem OrL.below {w w' : World} {x : Six} {p : List Int} {st : List S80} {bu : List (List S80)} (h : OrL w x p st bu) (hb : Below w.heap.size w w') : OrL w' x p st bu := ⟨Kd.C_below h.h0 hb, h.l0, Kd.C_below h.h1 hb, h.l1, Kd.C_below h.h2 hb, h.l2⟩

/-- Block g holds three slices. -/
def Box3 (w : World) (g : Nat) (t : TypeId) (x : Six) (m n o : Nat) : Prop := w.heap[g]? = some (.cells #[.slice x.A0 m x.c0, .slice x.A1 n x.c1, .slice x.A2 o x.c2] t (0, 0))
theorem Box3.below {w w' : World} {g : Nat} {t : TypeId} {x : Six} {m n o : Nat} (h : Box3 w g t x m n o) (hb : Below w.heap.size w w') : Box3 w' g t x m n o := (hb.block g (Array.getElem?_eq_some_iff.1 h).1).trans h
theorem Box3.new (w : World) (t : TypeId) (x : Six) (m n o : Nat) : Box3 (w.alloc (.cells #[.slice x.A0 m x.c0, .slice x.A1 n x.c1, .slice x.A2 o x.c2] t)) w.heap.size t x m n o := heap_alloc_new w _
theorem Box3.cells {w : World} {g : Nat} {t : TypeId} {x : Six} {m n o : Nat} (h : Box3 w g t x m n o) : w.cell? ⟨g, 0, none⟩ = some (.slice x.A0 m x.c0) ∧ w.cell? ⟨g, 1, none⟩ = some (.slice x.A1 n x.c1) ∧ w.cell? ⟨g, 2, none⟩ = some (.slice x.A2 o x.c2) := by
  unfold Box3 at h
  simp [World.cell?, h]

theorem szOram_c (k : Nat) (x : Six) (p : List Int) (st : List S80) (bu : List (List S80)) (a r : Int) (w : World) (h : OrL w x p st bu) (hf : laws_szOram.f k p st bu a = some r) :
    Calls Try.prog 17 #[.agg #[.slice x.A0 p.length x.c0, .slice x.A1 st.length x.c1, .slice x.A2 bu.length x.c2], .int .i64 a] w fun e w' => e = .returned (.int .i64 r) ∧ Below w.heap.size w w' :=
  laws_szOram.calls k x.A0 x.c0 p x.A1 x.c1 st x.A2 x.c2 bu a r w h.h0 h.l0 h.h1 h.l1 h.h2 h.l2 hf

theorem toOram_c (k : Nat) (x : Six) (p : List Int) (st : List S80) (bu : List (List S80)) (p' : List Int) (st' : List S61) (bu' : List (List S61)) (w : World) (h : OrL w x p st bu) (hf : laws_toOram.f k p st bu = some (p', st', bu')) :
    Calls Try.prog 19 #[.agg #[.slice x.A0 p.length x.c0, .slice x.A1 st.length x.c1, .slice x.A2 bu.length x.c2]] w fun e w' => ∃ y : Six, e = .returned (.agg #[.slice y.A0 p'.length y.c0, .slice y.A1 st'.length y.c1, .slice y.A2 bu'.length y.c2]) ∧ Orm w' y p' st' bu' ∧ Below w.heap.size w w' := by
  refine (laws_toOram.calls k x.A0 x.c0 p x.A1 x.c1 st x.A2 x.c2 bu p' st' bu' w h.h0 h.l0 h.h1 h.l1 h.h2 h.l2 hf).mono ?_
  rintro e w' ⟨v0, v1, v2, rfl, h0, h1, h2, hb⟩
  obtain ⟨A0, c0, rfl, l0, g0⟩ := Kd.R_reads h0
  obtain ⟨A1, c1, rfl, l1, g1⟩ := Kd.R_reads h1
  obtain ⟨A2, c2, rfl, l2, g2⟩ := Kd.S_reads h2
  exact ⟨⟨A0, c0, A1, c1, A2, c2⟩, rfl, ⟨g0, l0, g1, l1, g2, l2⟩, hb⟩

theorem eqOram_c (k : Nat) (x y : Six) (p : List Int) (st : List S61) (bu : List (List S61)) (q : List Int) (su : List S61) (cu : List (List S61)) (r : Bool) (w : World) (h : Orm w x p st bu) (g : Orm w y q su cu) (hf : laws_eqOram.f k p st bu q su cu = some r) :
    Calls Try.prog 21 #[.agg #[.slice x.A0 p.length x.c0, .slice x.A1 st.length x.c1, .slice x.A2 bu.length x.c2], .agg #[.slice y.A0 q.length y.c0, .slice y.A1 su.length y.c1, .slice y.A2 cu.length y.c2]] w fun e w' => e = .returned (.bool r) ∧ Below w.heap.size w w' :=
  laws_eqOram.calls k x.A0 x.c0 p x.A1 x.c1 st x.A2 x.c2 bu y.A0 y.c0 q y.A1 y.c1 su y.A2 y.c2 cu r w h.h0 h.l0 h.h1 h.l1 h.h2 h.l2 g.h0 g.l0 g.h1 g.l1 g.h2 g.l2 hf

end Go.Proofs.Ytmodpocjnafpdaa.Leaf
