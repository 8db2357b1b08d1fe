/-
  slices.EqualFunc, handed slices.Equal at blocks: whether all rows are alike. Conditions: none.
-/
import Derived.Test.YtmodpocjnafpdaaBase
import Derived.Test.YtmodpocjnafpdaaPlain
import Derived.Test.YtmodpocjnafpdaaPOrax5
namespace Go.Proofs.Ytmodpocjnafpdaa.Leaf
open Go.RowKit Go.Shelf Go.Proofs.YtmodpocjnafpdaaW.PrintWords Go.Proofs.YtmodpocjnafpdaaW.PrintLast Go.Proofs.YtmodpocjnafpdaaW.PrintMore Go.Proofs.Ytmodpocjnafpdaa.POra

def equalFunc_Block.l (k : Nat) : List (List S61) → List (List S61) → Option Bool
  | x :: xs, y :: ys => (impl_Block_47.f k x y).bind fun t => if t = true then equalFunc_Block.l k xs ys else some false
  | _, _ => some true
def equalFunc_Block.f (k : Nat) (l0 l1 : List (List S61)) : Option Bool := if l0.length = l1.length then equalFunc_Block.l k l0 l1 else some false
theorem equalFunc_Block.mono_l (k : Nat) : ∀ l0 l1, LeO (equalFunc_Block.l k l0 l1) (equalFunc_Block.l (k + 1) l0 l1)
  | [], _ => by intro r h; simpa [equalFunc_Block.l] using h
  | _ :: _, [] => by intro r h; simpa [equalFunc_Block.l] using h
  | x :: xs, y :: ys => by
    simp only [equalFunc_Block.l]
    refine LeO.bind (impl_Block_47.mono x y k) (fun t => ?_)
    exact LeO.ite (equalFunc_Block.mono_l k xs ys) (LeO.refl _)
theorem equalFunc_Block.mono (l0 l1 : List (List S61)) (k : Nat) : LeO (equalFunc_Block.f k l0 l1) (equalFunc_Block.f (k + 1) l0 l1) := by
  unfold equalFunc_Block.f
  exact LeO.ite (equalFunc_Block.mono_l k l0 l1) (LeO.refl _)

set_option maxHeartbeats 4000000 in
theorem equalFunc_Block.calls (k : Nat) (A0 : Option Addr) (c0 : Nat) (l0 : List (List S61)) (A1 : Option Addr) (c1 : Nat) (l1 : List (List S61)) (r : Bool) (w : World) (hr0 : Kd.C (Kd.slice 61 k61) w A0 l0.length l0) (_hc0 : l0.length ≤ c0) (hr1 : Kd.C (Kd.slice 61 k61) w A1 l1.length l1) (_hc1 : l1.length ≤ c1) (h : equalFunc_Block.f k l0 l1 = some r) :
    Calls Try.prog 48 #[.slice A0 l0.length c0, .slice A1 l1.length c1, .func (.func 47) #[] #[]] w fun e w' => e = .returned (.bool r) ∧ Below w.heap.size w w' := by
  unfold equalFunc_Block.f at h
  have hmax := Kd.C_max hr0
  have HR0 := Aside0.mk hr0
  have HR1 := Aside0.mk hr1
  clear hr0 hr1
  have eg : ∀ args w, (callFunc 47 args).run Try.prog w = .ok (.enter 47 args) w := enters_of Try.func47 (by kernel_rfl) rfl
  by_cases hl : l0.length = l1.length
  · rw [if_pos hl] at h
    have HA := Lib.hid h
    have HL := Lib.hid hl
    have n1 : ((l0.length : Int) != (l1.length : Int)) = false := by rw [hl]; simp
    have n2 : (l0.length != l1.length) = false := by rw [hl]; simp
    have n3 : ((l0.length : Int) == (l1.length : Int)) = true := by rw [hl]; simp
    clear h hl
    go_enter Try.func48, Try.ntmps48
    go_wp2
    go_loopg [17] l0.length (fun gg s17 wr => ∃ i : Nat, s17 = .int .i64 (i : Int) ∧ i ≤ l0.length ∧ Aside0 (l0.length ≤ gg + i) ∧ Aside0 (equalFunc_Block.l k (l0.drop i) (l1.drop i) = some r) ∧ Aside0 (Below w.heap.size w wr))
    case atStart => exact ⟨0, rfl, by omega, ⟨by omega⟩, ⟨HA.out⟩, ⟨Below.refl _ _⟩⟩
    case round =>
      clear HA
      obtain ⟨i, rfl, hi, HG, HA, HB⟩ := hrel
      by_cases c1 : i < l0.length
      · have d1 : decide ((i : Int) < (l0.length : Int)) = true := decide_eq_true (by omega)
        have d1b : decide (i < l0.length) = true := decide_eq_true c1
        have c2 : i < l1.length := by rw [← HL.out]; exact c1
        obtain ⟨ad0, B0, b0, e0, hx0, hb0, hk0⟩ := at_L4 (Kd.C_below HR0.out HB.out) (i : Int) (by omega) (by omega)
        obtain ⟨ad1, B1, b1, e1, hx1, hb1, hk1⟩ := at_L4 (Kd.C_below HR1.out HB.out) (i : Int) (by omega) (by omega)
        subst e0 e1
        have hA := HA.out
        rw [List.drop_eq_getElem_cons c1, List.drop_eq_getElem_cons c2, equalFunc_Block.l] at hA
        have q0 : rd_L4 l0 (i : Int) = l0[i] := by unfold rd_L4; rw [Int.toNat_natCast, List.getD_eq_getElem?_getD, List.getElem?_eq_getElem c1]; rfl
        have q1 : rd_L4 l1 (i : Int) = l1[i] := by unfold rd_L4; rw [Int.toNat_natCast, List.getD_eq_getElem?_getD, List.getElem?_eq_getElem c2]; rfl
        rw [q0] at hx0 hb0 hk0
        rw [q1] at hx1 hb1 hk1
        obtain ⟨t, ht, hA⟩ := Option.bind_eq_some_iff.1 hA
        have CT := fun W (hb : Below wr.heap.size wr W) => impl_Block_47.calls k B0 b0 _ B1 b1 _ t W (Kd.C_below hk0 hb) hb0 (Kd.C_below hk1 hb) hb1 ht
        have p0 : (0 ≤ (i : Int)) = True := eq_true (by omega)
        have p1 : ((i : Int) < (l0.length : Int)) = True := eq_true (by omega)
        have p2 : ((i : Int) < (l1.length : Int)) = True := eq_true (by omega)
        have p1b : (i < l0.length) = True := eq_true c1
        have p2b : (i < l1.length) = True := eq_true c2
        have EW := Lib.hid (show wrap64 ((i : Int) + 1) = ((i + 1 : Nat) : Int) by rw [wrap_ok _ (by omega) (by omega)]; rfl)
        have HA2 := Lib.hid hA
        have HG1 := Aside0.mk (show l0.length - (i + 1) < gk by have := HG.out; omega)
        have HG2 := Aside0.mk (show l0.length ≤ l0.length - (i + 1) + (i + 1) by omega)
        rw [Int.toNat_natCast] at hx0 hx1
        clear hA HA ht hb0 hb1 hk0 hk1 q0 q1 HG
        generalize l0[i] = x0 at hx0 CT
        generalize l1[i] = x1 at hx1 CT
        cases t with
        | true =>
          go_wp2_with (go_at_fn 47; refine (CT _ (Below.refl _ _)).mono ?_; rintro e w' ⟨rfl, ⟨hd⟩⟩; obtain ⟨nd, rfl⟩ := hd)
          go_roundg (l0.length - (i + 1))
          case measure => exact HG1.out
          case rel => exact ⟨i + 1, by first | rfl | rw [EW.out], by omega, HG2, ⟨by simpa using HA2.out⟩, ⟨by apply pw_below_drewN; exact HB.out⟩⟩
        | false =>
          go_wp2_with (go_at_fn 47; refine (CT _ (Below.refl _ _)).mono ?_; rintro e w' ⟨rfl, ⟨hd⟩⟩; obtain ⟨nd, rfl⟩ := hd)
          go_ret
          exact ⟨ret_bool (by have := HA2.out; simpa using this), by apply pw_below_drewN; exact HB.out⟩
      · have d1 : decide ((i : Int) < (l0.length : Int)) = false := decide_eq_false (by omega)
        have d1b : decide (i < l0.length) = false := decide_eq_false c1
        have hA := HA.out
        rw [List.drop_of_length_le (by omega)] at hA
        have HR := Lib.hid (show true = r from by simpa [equalFunc_Block.l] using hA)
        clear hA HA
        go_wp2
        go_ret
        exact ⟨ret_bool HR.out, HB.out⟩
  · rw [if_neg hl] at h
    have n1 : ((l0.length : Int) != (l1.length : Int)) = true := by simp; omega
    have n2 : (l0.length != l1.length) = true := by simp; omega
    have n3 : ((l0.length : Int) == (l1.length : Int)) = false := by simp; omega
    have HR := Lib.hid (Option.some.inj h)
    clear h
    go_enter Try.func48, Try.ntmps48
    go_wp2
    go_ret
    exact ⟨ret_bool HR.out, Below.refl _ _⟩

end Go.Proofs.Ytmodpocjnafpdaa.Leaf
