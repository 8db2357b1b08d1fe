/-
  Words that my leaves share: what a predicate that is handed on as a function value must do, and small facts on lists. Conditions: none.
-/
import Derived.Test.YtmodpocjnafpdaaProg
import Derived.Test.YtmodpocjnafpdaaWMore
import Derived.Test.YtmodpocjnafpdaaWLast
import Derived.Shelf.Abstract
import Derived.WalkKit
import Derived.WalkLawsBesides
import Derived.KernelRfl
import Derived.RowKit3
import Derived.Deep.LoopGhost
import Derived.Deep.QuietTactic
import Derived.BigQuiet
import Derived.Lib.ConvBytes
import Derived.Lib.Hide
namespace Go.Proofs.Ytmodpocjnafpdaa.Leaf
open Go.RowKit Go.Shelf Go.Proofs.YtmodpocjnafpdaaW.PrintWords Go.Proofs.YtmodpocjnafpdaaW.PrintLast Go.Proofs.YtmodpocjnafpdaaW.PrintMore
/-- A function value that answers p of each x, and turns nothing that lay there. -/
def PredB {α : Type} (g : Nat) (lb : Array Value) (enc : α → Value) (p : α → Bool) (w : World) : Prop :=
  ∀ (W : World) (x : α), Below w.heap.size w W → Calls Try.prog g (#[enc x] ++ lb) W fun e w' => e = .returned (.bool (p x)) ∧ Below W.heap.size W w'
/-- The end of a search: a place, or a number below 0. -/
def FoundAt {α : Type} (l : List α) (p : α → Bool) (w : World) (e : Ending) (w' : World) : Prop :=
  ∃ r : Int, e = .returned (.int .i64 r) ∧ decide (0 ≤ r) = l.any p ∧ Below w.heap.size w w'
theorem any_take_succ {α : Type} (l : List α) (p : α → Bool) (i : Nat) (h : i < l.length) : (l.take (i + 1)).any p = ((l.take i).any p || p l[i]) := by
  rw [List.take_succ_eq_append_getElem h, List.any_append]; simp
theorem any_of_hit {α : Type} (l : List α) (p : α → Bool) (i : Nat) (h : i < l.length) (hp : p l[i] = true) : l.any p = true :=
  List.any_eq_true.2 ⟨l[i], List.getElem_mem _, hp⟩
theorem all_not_any {α : Type} (l : List α) (p : α → Bool) : (!l.any fun x => !p x) = l.all p := by
  induction l with
  | nil => rfl
  | cons a l ih => simp only [List.any_cons, List.all_cons, ← ih]; cases p a <;> simp
theorem rd_get (l : List Int) (i : Int) (h0 : 0 ≤ i) (h1 : i < (l.length : Int)) : rd l i = l[i.toNat]'(by omega) := by
  unfold rd
  rw [List.getD_eq_getElem?_getD, List.getElem?_eq_getElem (by omega)]; rfl
/-- Block g holds the numbers xs from its beginning on, and they may be written. -/
def Row (w : World) (g : Nat) (k : IntKind) (xs : List Int) : Prop :=
  g < w.heap.size ∧ ∀ j, j < xs.length → w.cell? ⟨g, j, none⟩ = some (.int k (xs.getD j 0)) ∧ w.frozen? ⟨g, j, none⟩ = false
theorem Row.at {w : World} {g : Nat} {k : IntKind} {xs : List Int} (h : Row w g k xs) (i : Int) (h0 : 0 ≤ i) (h1 : i < (xs.length : Int)) :
    w.cell? ⟨g, i.toNat, none⟩ = some (.int k (rd xs i)) ∧ w.frozen? ⟨g, i.toNat, none⟩ = false := h.2 i.toNat (by omega)
theorem Row.move {w w1 : World} {g : Nat} {k : IntKind} {xs : List Int} (h : Row w g k xs) (hs : w.heap.size ≤ w1.heap.size) (hb : w1.heap[g]? = w.heap[g]?) : Row w1 g k xs := by
  refine ⟨Nat.lt_of_lt_of_le h.1 hs, fun j hj => ?_⟩
  have := h.2 j hj
  exact ⟨by simpa [World.cell?, hb] using this.1, by simpa [World.frozen?, hb] using this.2⟩
theorem Row.below {w w1 : World} {g : Nat} {k : IntKind} {xs : List Int} (h : Row w g k xs) (hb : Below w.heap.size w w1) : Row w1 g k xs := h.move hb.size (hb.block g h.1)
theorem Row.alloc {w : World} {g : Nat} {k : IntKind} {xs : List Int} (h : Row w g k xs) (o : Obj) : Row (w.alloc o) g k xs := h.below (below_alloc (Below.refl _ _) o)
theorem Row.drew {w : World} {g : Nat} {k : IntKind} {xs : List Int} (h : Row w g k xs) : Row w.drew g k xs := h
theorem Row.drewN {w : World} {g : Nat} {k : IntKind} {xs : List Int} (h : Row w g k xs) (n : Nat) : Row (w.drewN n) g k xs := h
theorem size_setCell (w : World) (p : Addr) (v : Value) : (w.setCell p v).heap.size = w.heap.size := by simp [World.setCell]
theorem Row.other {w : World} {g : Nat} {k : IntKind} {xs : List Int} (h : Row w g k xs) (p : Addr) (hp : g ≠ p.block) (v : Value) : Row (w.setCell p v) g k xs :=
  h.move (by rw [size_setCell]; exact Nat.le_refl _) (Below.heap_setCell w p v g hp)
theorem Row.set {w : World} {g : Nat} {k : IntKind} {xs : List Int} (h : Row w g k xs) (i : Int) (h0 : 0 ≤ i) (h1 : i < (xs.length : Int)) (v : Int) :
    Row (w.setCell ⟨g, i.toNat, none⟩ (.int k v)) g k (xs.set i.toNat v) := by
  have hlt := h.1
  obtain ⟨o, ho⟩ : ∃ o, w.heap[g]? = some o := ⟨_, Array.getElem?_eq_getElem hlt⟩
  refine ⟨by rw [size_setCell]; exact hlt, fun j hj => ?_⟩
  rw [List.length_set] at hj
  have hc := h.2 j hj
  have hci := h.2 i.toNat (by omega)
  cases o with
  | cells cs t fr =>
    have hb : (w.setCell ⟨g, i.toNat, none⟩ (.int k v)).heap[g]? = some (.cells (cs.setIfInBounds i.toNat (.int k v)) t fr) := by
      rw [setCell_eq_setRow w g i.toNat cs t fr _ ho]; exact setRow_heap w g cs _ t fr ho
    have e1 : cs[j]? = some (.int k (xs.getD j 0)) := by simpa [World.cell?, ho] using hc.1
    have e2 := hc.2
    simp only [World.frozen?, ho] at e2
    refine ⟨?_, by simp only [World.frozen?, hb]; exact e2⟩
    simp only [World.cell?, hb]
    have hjs : j < cs.size := (Array.getElem?_eq_some_iff.1 e1).1
    by_cases hij : i.toNat = j
    · subst hij
      simp [hjs, hj]
    · rw [Array.getElem?_setIfInBounds_ne hij, e1]
      simp [List.getD_eq_getElem?_getD, List.getElem?_set_ne hij]
  | _ => simp [World.cell?, ho] at hci
theorem Row.grown {w w1 : World} {g : Nat} {k : IntKind} {xs : List Int} {row : Option Nat} (h : Row w g k xs) (hg : w.grownBy w1 row) (hne : some g ≠ row) : Row w1 g k xs := h.move hg.size (hg.block g h.1 hne)
theorem Row.C {w : World} {g : Nat} {k : IntKind} {xs : List Int} (h : Row w g k xs) (hm : xs.length ≤ 9223372036854775807) : Kd.C (Kd.int k) w (some ⟨g, 0, none⟩) xs.length xs := by
  refine Kd.C_of_reads (enc := Value.int k) (d := (0 : Int)) (h1 := fun _ => rfl) ⟨rfl, hm, fun _ => ⟨_, rfl, fun j hj => ?_⟩⟩
  rw [add_plain]; exact (h.2 j hj).1
theorem Row.bytes (W : World) (e : TypeId) (s : ByteArray) : Row (Lib.bytesWorld W e s) W.heap.size .u8 (bytesOf s) := by
  refine ⟨by rw [Lib.bytesWorld_size]; omega, fun j hj => ?_⟩
  rw [bytesOf_length] at hj
  refine ⟨?_, ?_⟩
  · rw [Lib.bytesWorld_cell W e s j hj]
    congr 2
    simp [bytesOf, List.getD_eq_getElem?_getD, hj]
  · simp only [World.frozen?, Lib.bytesWorld_at_new]
    have : j < (Lib.bytesCells W e s).size := by simp [Lib.bytesCells, Array.size_append]; show j < s.size + _; omega
    simp; omega
theorem ret_bool {a b : Bool} (h : a = b) : Ending.returned (.bool a) = .returned (.bool b) := by rw [h]
set_option maxHeartbeats 1000000 in
theorem within_calls (a b c : Int) (w : World) : Calls Try.prog 35 #[.int .i64 a, .int .i64 b, .int .i64 c] w fun e w' => e = .returned (.bool (decide (b ≤ a) && decide (a ≤ c))) ∧ w = w' := by
  obtain ⟨r, hr⟩ : ∃ r, (decide (b ≤ a) && decide (a ≤ c)) = r := ⟨_, rfl⟩
  rw [hr]
  have HR := Lib.hid hr
  clear hr
  go_enter Try.func35, Try.ntmps35
  go_wp2
  all_goals
    go_ret
    refine ⟨ret_bool ?_, rfl⟩
    rw [← HR.out, Bool.eq_iff_iff]
    simp <;> omega
end Go.Proofs.Ytmodpocjnafpdaa.Leaf
