/-
  areAll, handed the device's test of a write, and the test of a fate: whether all pass. Conditions: none.
-/
import Derived.Test.YtkmecmcioniooaaAllD
import Derived.Test.YtkmecmcioniooaaAllI
namespace Go.Proofs.Ytkmecmcioniooaa.Leaf
open Go.RowKit Go.Shelf Go.Proofs.YtkmecmcioniooaaW.PrintWords Go.Proofs.YtkmecmcioniooaaW.PrintLast Go.Proofs.YtkmecmcioniooaaW.PrintMore Go.Proofs.Ytkmecmcioniooaa.PDev

theorem cat_fact (s t : ByteArray) (j1 j2 : Int) (h : (s.extract 0 j1.toNat).size + (t.extract j2.toNat t.size).size ≤ 9223372036854775807) (g : j1 ≤ (s.size : Int)) : (9223372036854775807 < j1.toNat + (t.size - j2.toNat)) = False := by
  rw [ByteArray.size_extract, ByteArray.size_extract] at h
  exact eq_false (by omega)
theorem cat_fact2 (s t : ByteArray) (j1 j2 : Int) (h : (s.extract 0 j1.toNat).size + (t.extract j2.toNat t.size).size ≤ 9223372036854775807) (g : j1 ≤ (s.size : Int)) : (j1.toNat + (t.size - j2.toNat) ≤ 9223372036854775807) = True := by
  rw [ByteArray.size_extract, ByteArray.size_extract] at h
  exact eq_true (by omega)
def inFates (a : Int) : Bool := decide (0 ≤ a) && decide (a ≤ 2)
theorem isFate_pred (w : World) : PredB 67 #[] (Value.int .i64) inFates w := by
  intro W x _
  have C := fun W => within_calls x 0 2 W
  obtain ⟨r, hr⟩ : ∃ r, inFates x = r := ⟨_, rfl⟩
  have C' : ∀ W, Calls Try.prog 64 #[.int .i64 x, .int .i64 0, .int .i64 2] W fun e w' => e = .returned (.bool r) ∧ W = w' := fun W => hr ▸ C W
  rw [hr]
  clear C hr
  show Calls Try.prog 67 #[.int .i64 x] W _
  go_enter Try.func67, Try.ntmps67
  go_wp2_with (go_at_call 64; with_reducible refine (C' _).mono ?_; rintro e w1 ⟨rfl, rfl⟩)
  go_ret
  exact ⟨rfl, Below.refl _ _⟩
def areAll_isFate.f (l0 : List Int) : Option Bool := some (l0.all inFates)
theorem areAll_isFate.calls (A0 : Option Addr) (c0 : Nat) (l0 : List Int) (r : Bool) (w : World) (hr0 : Kd.C (Kd.int .i64) w A0 l0.length l0) (_hc0 : l0.length ≤ c0) (h : areAll_isFate.f l0 = some r) :
    Calls Try.prog 66 #[.slice A0 l0.length c0, .func (.func 67) #[] #[]] w fun e w' => e = .returned (.bool r) ∧ Below w.heap.size w w' := by
  obtain rfl := Option.some.inj h
  exact areAllI 67 #[] inFates (enters_of Try.func67 (by kernel_rfl) rfl) A0 c0 l0 w hr0 (isFate_pred w)

def inSector (a : Int) : Bool := decide (0 ≤ a) && decide (a ≤ 39)
def isIo (x : S55) : Bool := inSector x.f0 && decide (x.f1.size ≤ 700)
theorem isSector_calls (a : Int) (w : World) : Calls Try.prog 46 #[.int .i64 a] w fun e w' => e = .returned (.bool (inSector a)) ∧ w = w' := by
  have C := fun W => within_calls a 0 39 W
  obtain ⟨r, hr⟩ : ∃ r, inSector a = r := ⟨_, rfl⟩
  have C' : ∀ W, Calls Try.prog 64 #[.int .i64 a, .int .i64 0, .int .i64 39] W fun e w' => e = .returned (.bool r) ∧ W = w' := fun W => hr ▸ C W
  rw [hr]
  clear C hr
  go_enter Try.func46, Try.ntmps46
  go_wp2_with (go_at_call 64; with_reducible refine (C' _).mono ?_; rintro e w1 ⟨rfl, rfl⟩)
  go_ret
  exact ⟨rfl, rfl⟩
theorem isContent_calls (t : ByteArray) (w : World) : Calls Try.prog 43 #[.string t] w fun e w' => e = .returned (.bool (decide (t.size ≤ 700))) ∧ w = w' := by
  obtain ⟨r, hr⟩ : ∃ r, decide (t.size ≤ 700) = r := ⟨_, rfl⟩
  have hr2 : decide ((t.size : Int) ≤ 700) = r := by rw [← hr]; rw [decide_eq_decide]; omega
  rw [hr]
  go_enter Try.func43, Try.ntmps43
  go_wp2
  go_ret
  exact ⟨ret_bool (by first | exact hr | exact hr2 | rfl), rfl⟩
set_option maxHeartbeats 2000000 in
theorem isIo_pred (w : World) : PredB 45 #[] encIo isIo w := by
  intro W x _
  have C1 := fun W => isSector_calls x.f0 W
  have C2 := fun W => isContent_calls x.f1 W
  obtain ⟨r1, hr1⟩ : ∃ r, inSector x.f0 = r := ⟨_, rfl⟩
  obtain ⟨r2, hr2⟩ : ∃ r, decide (x.f1.size ≤ 700) = r := ⟨_, rfl⟩
  have hx : isIo x = (r1 && r2) := by unfold isIo; rw [hr1, hr2]
  rw [hx]
  simp only [hr1] at C1
  simp only [hr2] at C2
  clear hr1 hr2 hx
  show Calls Try.prog 45 #[.agg #[.int .i64 x.f0, .string x.f1]] W _
  cases r1 with
  | false =>
    go_enter Try.func45, Try.ntmps45
    go_wp2_with (first | (go_at_call 46; with_reducible refine (C1 _).mono ?_; rintro e w1 ⟨rfl, rfl⟩) | (go_at_call 43; with_reducible refine (C2 _).mono ?_; rintro e w1 ⟨rfl, rfl⟩))
    go_ret
    exact ⟨rfl, below_alloc (Below.refl _ W) _⟩
  | true =>
    go_enter Try.func45, Try.ntmps45
    go_wp2_with (first | (go_at_call 46; with_reducible refine (C1 _).mono ?_; rintro e w1 ⟨rfl, rfl⟩) | (go_at_call 43; with_reducible refine (C2 _).mono ?_; rintro e w1 ⟨rfl, rfl⟩))
    go_ret
    exact ⟨rfl, below_alloc (Below.refl _ W) _⟩
def areAll_isIo.f (l0 : List S55) : Option Bool := some (l0.all isIo)
theorem areAll_isIo.calls (A0 : Option Addr) (c0 : Nat) (l0 : List S55) (r : Bool) (w : World) (hr0 : Kd.C k55 w A0 l0.length l0) (_hc0 : l0.length ≤ c0) (h : areAll_isIo.f l0 = some r) :
    Calls Try.prog 44 #[.slice A0 l0.length c0, .func (.func 45) #[] #[]] w fun e w' => e = .returned (.bool r) ∧ Below w.heap.size w w' := by
  obtain rfl := Option.some.inj h
  exact areAllD 45 #[] isIo (enters_of Try.func45 (by kernel_rfl) rfl) A0 c0 l0 w hr0 (isIo_pred w)

end Go.Proofs.Ytkmecmcioniooaa.Leaf
