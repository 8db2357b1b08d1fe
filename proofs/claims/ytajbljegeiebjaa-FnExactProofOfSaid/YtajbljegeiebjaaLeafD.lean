/-
  The program's digest and the reference's digest of a text answer one and the same text. Conditions: at most a million bytes.
-/
import Derived.Test.YtajbljegeiebjaaSha5
import Derived.Test.YtajbljegeiebjaaHash
namespace Go.Proofs.Ytajbljegeiebjaa.Leaf
open Go.RowKit Go.Shelf Go.Proofs.YtajbljegeiebjaaW.PrintWords Go.Proofs.YtajbljegeiebjaaW.PrintLast Go.Proofs.YtajbljegeiebjaaW.PrintMore Go.Proofs.Ytajbljegeiebjaa.PSha

def hash0N : List Nat := [1779033703, 3144134277, 1013904242, 2773480762, 1359893119, 2600822924, 528734635, 1541459225]
theorem hash0N_ok : WN 8 hash0N := ⟨rfl, fun j => by
  unfold hash0N
  exact list8_lt _ _ _ _ _ _ _ _ _ (by decide) (by decide) (by decide) (by decide) (by decide) (by decide) (by decide) (by decide) (by decide) j⟩
/-- A text's digest. -/
def shaOf (t : ByteArray) : ByteArray :=
  let m := moreS (((⟨#[]⟩ : ByteArray) ++ t).size / 64) hash0N ((⟨#[]⟩ : ByteArray) ++ t)
  strOfNums (outN (sumS m.1 m.2 (0 + (t.size : Int))) 8)
theorem shaOf_size (t : ByteArray) : (shaOf t).size = 32 := by
  unfold shaOf
  rw [strOfNums_size, outN_length]
theorem left_size (t : ByteArray) (h : List Nat) : (((moreS (((⟨#[]⟩ : ByteArray) ++ t).size / 64) h ((⟨#[]⟩ : ByteArray) ++ t)).2.size : Nat) : Int) = (0 + (t.size : Int)) % 64 := by
  rw [moreS_size, ByteArray.size_append]
  show (((0 + t.size) - 64 * ((0 + t.size) / 64) : Nat) : Int) = _
  omega

def impl_digest.f (a0 : ByteArray) : Option ByteArray := if a0.size ≤ 1000000 then some (shaOf a0) else none
def spec_l01Of.f (a0 : ByteArray) : Option ByteArray := if a0.size ≤ 1000000 then some (shaOf a0) else none

set_option maxHeartbeats 4000000 in
theorem impl_digest.calls (a0 : ByteArray) (r : ByteArray) (w : World) (h : impl_digest.f a0 = some r) :
    Calls Try.prog 46 #[.string a0] w fun e w' => e = .returned (.string r) ∧ Below w.heap.size w w' := by
  unfold impl_digest.f at h
  by_cases hs : a0.size ≤ 1000000
  · rw [if_pos hs] at h
    have HR := Lib.hid (Option.some.inj h)
    clear h
    obtain ⟨h1, b1, n1, C1, C2⟩ : ∃ h1 b1 n1, (∀ W, Calls Try.prog 43 #[.agg (hcs hash0 ⟨#[]⟩ 0), .string a0] W fun e w' => e = .returned (.agg (hcw h1 b1 n1)) ∧ Below W.heap.size W w') ∧
        ∀ W, Calls Try.prog 48 #[.agg (hcw h1 b1 n1)] W fun e w' => e = .returned (.string (shaOf a0)) ∧ Below W.heap.size W w' :=
      ⟨_, _, _, fun W => more_calls hash0N ⟨#[]⟩ a0 0 hash0N_ok (by decide) hs (by omega) (by omega) W, fun W => sum_calls _ _ _ (moreS_ok _ _ _ hash0N_ok) (left_size a0 hash0N) (by omega) (by omega) W⟩
    replace C1 := Lib.hid C1; replace C2 := Lib.hid C2
    have C0 := Lib.hid (fun W => impl_NewHash_calls W)
    rw [HR.out] at C2
    go_enter Try.func46, Try.ntmps46
    go_wp2_with (first
      | (go_at_call 75; refine (C0.out _).mono ?_; rintro e w1 ⟨rfl, hb1⟩; replace hb1 := Aside0.mk hb1)
      | (go_at_call 43; refine (C1.out _).mono ?_; rintro e w2 ⟨rfl, hb2⟩; replace hb2 := Aside0.mk hb2)
      | (go_at_call 48; refine (C2.out _).mono ?_; rintro e w3 ⟨rfl, hb3⟩; replace hb3 := Aside0.mk hb3))
    go_ret
    have l1 := hb1.out
    have l2 := l1.trans (hb2.out.mono l1.size)
    exact ⟨rfl, l2.trans (hb3.out.mono l2.size)⟩
  · rw [if_neg hs] at h; cases h

set_option maxHeartbeats 4000000 in
theorem spec_l01Of.calls (a0 : ByteArray) (r : ByteArray) (w : World) (h : spec_l01Of.f a0 = some r) :
    Calls Try.prog 45 #[.string a0] w fun e w' => e = .returned (.string r) ∧ Below w.heap.size w w' := by
  unfold spec_l01Of.f at h
  by_cases hs : a0.size ≤ 1000000
  · rw [if_pos hs] at h
    have HR := Lib.hid (Option.some.inj h)
    clear h
    obtain ⟨h1, b1, n1, C1, C2⟩ : ∃ h1 b1 n1, (∀ W, Calls Try.prog 39 #[.agg (hcs hash0 ⟨#[]⟩ 0), .string a0] W fun e w' => e = .returned (.agg (hcw h1 b1 n1)) ∧ Below W.heap.size W w') ∧
        ∀ W, Calls Try.prog 47 #[.agg (hcw h1 b1 n1)] W fun e w' => e = .returned (.string (shaOf a0)) ∧ Below W.heap.size W w' :=
      ⟨_, _, _, fun W => l01More_calls hash0N ⟨#[]⟩ a0 0 hash0N_ok (by decide) hs (by omega) (by omega) W, fun W => l01Sum_calls _ _ _ (moreS_ok _ _ _ hash0N_ok) (by have := left_size a0 hash0N; omega) (by omega) (by omega) W⟩
    replace C1 := Lib.hid C1; replace C2 := Lib.hid C2
    have C0 := Lib.hid (fun W => spec_NewHash_calls W)
    rw [HR.out] at C2
    go_enter Try.func45, Try.ntmps45
    go_wp2_with (first
      | (go_at_call 74; refine (C0.out _).mono ?_; rintro e w1 ⟨rfl, hb1⟩; replace hb1 := Aside0.mk hb1)
      | (go_at_call 39; refine (C1.out _).mono ?_; rintro e w2 ⟨rfl, hb2⟩; replace hb2 := Aside0.mk hb2)
      | (go_at_call 47; refine (C2.out _).mono ?_; rintro e w3 ⟨rfl, hb3⟩; replace hb3 := Aside0.mk hb3))
    go_ret
    have l1 := hb1.out
    have l2 := l1.trans (hb2.out.mono l1.size)
    exact ⟨rfl, l2.trans (hb3.out.mono l2.size)⟩
  · rw [if_neg hs] at h; cases h

end Go.Proofs.Ytajbljegeiebjaa.Leaf
