/-
  NameOK answers whether a text is a name; hexOf answers the two digits of each byte. Conditions: none.
-/
import Derived.Test.YtahebengjoffeaaAllB
namespace Go.Proofs.Ytahebengjoffeaa.Leaf
open Go.RowKit Go.Shelf Go.Proofs.YtahebengjoffeaaW.PrintWords Go.Proofs.YtahebengjoffeaaW.PrintLast Go.Proofs.YtahebengjoffeaaW.PrintMore

def letterB (c : Int) : Bool := (decide (97 ≤ c) && decide (c ≤ 122)) || (decide (65 ≤ c) && decide (c ≤ 90)) || c == 95
def digitB (c : Int) : Bool := decide (48 ≤ c) && decide (c ≤ 57)

set_option maxHeartbeats 1000000 in
theorem isLetter_calls (c : Int) (w : World) : Calls Try.prog 48 #[.int .u8 c] w fun e w' => e = .returned (.bool (letterB c)) ∧ w = w' := by
  obtain ⟨b, hb⟩ : ∃ b, letterB c = b := ⟨_, rfl⟩
  rw [hb]
  have HB := Lib.hid hb
  clear hb
  go_enter Try.func48, Try.ntmps48
  go_wp2
  all_goals
    go_ret
    refine ⟨ret_bool ?_, rfl⟩
    rw [← HB.out, Bool.eq_iff_iff]
    simp [letterB] <;> omega

set_option maxHeartbeats 1000000 in
theorem isDigit_calls (c : Int) (w : World) : Calls Try.prog 51 #[.int .u8 c] w fun e w' => e = .returned (.bool (digitB c)) ∧ w = w' := by
  obtain ⟨b, hb⟩ : ∃ b, digitB c = b := ⟨_, rfl⟩
  rw [hb]
  have HB := Lib.hid hb
  clear hb
  go_enter Try.func51, Try.ntmps51
  go_wp2
  all_goals
    go_ret
    refine ⟨ret_bool ?_, rfl⟩
    rw [← HB.out, Bool.eq_iff_iff]
    simp [digitB] <;> omega

theorem nameB (w : World) : PredB 50 #[] (Value.int .u8) (fun c : Int => letterB c || digitB c) w := by
  intro W c _
  have h1 := isLetter_calls c
  have h2 := isDigit_calls c
  cases hl : letterB c with
  | true =>
    rw [hl] at h1
    go_enter Try.func50, Try.ntmps50
    go_wp2_with (go_at_call 48; refine (h1 _).mono ?_; rintro e w' ⟨rfl, rfl⟩)
    go_ret
    exact ⟨ret_bool (by rw [hl]; rfl), Below.refl _ _⟩
  | false =>
    rw [hl] at h1
    go_enter Try.func50, Try.ntmps50
    go_wp2_with (first | (go_at_call 48; refine (h1 _).mono ?_; rintro e w' ⟨rfl, rfl⟩) | (go_at_call 51; refine (h2 _).mono ?_; rintro e w' ⟨rfl, rfl⟩))
    go_ret
    exact ⟨ret_bool (by rw [hl]; rfl), Below.refl _ _⟩

def impl_NameOK.f (a0 : ByteArray) : Option Bool := some (decide (1 ≤ a0.size) && decide (a0.size ≤ 40) && letterB (bt a0 0) && (bytesOf a0).all fun c => letterB c || digitB c)

theorem below_bytes {w w' : World} (e : TypeId) (s : ByteArray) (h : Below (Lib.bytesWorld w e s).heap.size (Lib.bytesWorld w e s) w') : Below w.heap.size w w' :=
  (bytes_below (Below.refl _ w) (Nat.le_refl _) e s).trans (h.mono (by rw [Lib.bytesWorld_size]; omega))

set_option maxHeartbeats 2000000 in
theorem impl_NameOK.calls (a0 : ByteArray) (r : Bool) (w : World) (h : impl_NameOK.f a0 = some r) :
    Calls Try.prog 25 #[.string a0] w fun e w' => e = .returned (.bool r) ∧ Below w.heap.size w w' := by
  have HR := Lib.hid (Option.some.inj h)
  clear h
  have kb := fun W => print_bytes (P := Try.prog) 9 51 5 Try.underlying9 Try.underlying51 Try.underlying5 a0 W
  have hW := within_calls (a0.size : Int) 1 40
  by_cases h1 : 1 ≤ a0.size
  · by_cases h2 : a0.size ≤ 40
    · rw [show (decide ((1 : Int) ≤ (a0.size : Int)) && decide ((a0.size : Int) ≤ 40)) = true by simp; omega] at hW
      have hb : ∀ h : 0 < a0.size, ((a0[0]'h).toNat : Int) = bt a0 0 := bt_at a0 0
      have hl := isLetter_calls (bt a0 0)
      cases hL : letterB (bt a0 0) with
      | true =>
        rw [hL] at hl HR
        have hC := (Row.bytes w 5 a0).C (by rw [bytesOf_length]; omega)
        have hall := areAllB 50 #[] (fun c : Int => letterB c || digitB c) (enters_of Try.func50 (by kernel_rfl) rfl) (some ⟨w.heap.size, 0, none⟩) (grownCap w a0.size 0 5) (bytesOf a0) _ hC (nameB _)
        rw [bytesOf_length] at hall
        generalize ((bytesOf a0).all fun c => letterB c || digitB c) = v at hall HR
        go_enter Try.func25, Try.ntmps25
        go_wp2_with (first | (go_at_call 47; refine (hW _).mono ?_; rintro e w' ⟨rfl, rfl⟩) | (go_at_call 48; refine (hl _).mono ?_; rintro e w' ⟨rfl, rfl⟩) | (go_at_call 49; refine hall.mono ?_; rintro e w' ⟨rfl, hbel⟩))
        go_ret
        exact ⟨by rw [← HR.out]; simp [h1, h2], below_bytes _ _ hbel⟩
      | false =>
        rw [hL] at hl HR
        go_enter Try.func25, Try.ntmps25
        go_wp2_with (first | (go_at_call 47; refine (hW _).mono ?_; rintro e w' ⟨rfl, rfl⟩) | (go_at_call 48; refine (hl _).mono ?_; rintro e w' ⟨rfl, rfl⟩))
        go_ret
        exact ⟨by rw [← HR.out]; simp, Below.refl _ _⟩
    · rw [show (decide ((1 : Int) ≤ (a0.size : Int)) && decide ((a0.size : Int) ≤ 40)) = false by simp; omega] at hW
      go_enter Try.func25, Try.ntmps25
      go_wp2_with (first | (go_at_call 47; refine (hW _).mono ?_; rintro e w' ⟨rfl, rfl⟩))
      go_ret
      exact ⟨by rw [← HR.out]; simp [h2], Below.refl _ _⟩
  · rw [show (decide ((1 : Int) ≤ (a0.size : Int)) && decide ((a0.size : Int) ≤ 40)) = false by simp; omega] at hW
    go_enter Try.func25, Try.ntmps25
    go_wp2_with (first | (go_at_call 47; refine (hW _).mono ?_; rintro e w' ⟨rfl, rfl⟩))
    go_ret
    exact ⟨by rw [← HR.out]; simp [h1], Below.refl _ _⟩

end Go.Proofs.Ytahebengjoffeaa.Leaf
