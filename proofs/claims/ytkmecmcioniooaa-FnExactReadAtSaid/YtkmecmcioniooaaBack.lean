/-
  slices.Backward at the device's writes: the iterator hands the writes from the last to the first. Conditions: none.
-/
import Derived.RangeFuncNested
import Derived.RangeFuncBound
import Derived.RangeFuncCalls
import Derived.RangeFuncLeaves
import Derived.RangeFuncBox
import Derived.Shelf.Abstract
import Derived.Shelf.RegionOpen
import Derived.WalkKit
import Derived.OwnWalkIn
import Derived.TacticsInMore
import Derived.LoopNIn
import Derived.LoopIn
import Derived.Test.YtkmecmcioniooaaBase
import Derived.Test.YtkmecmcioniooaaPDevx0
import Derived.Test.YtkmecmcioniooaaPlain
namespace Go.Proofs.Ytkmecmcioniooaa.Leaf
open Go.RowKit Go.Shelf Go.Proofs.YtkmecmcioniooaaW.PrintWords Go.Proofs.Ytkmecmcioniooaa.PDev
attribute [local go_sem] Oper.semAt_some

/-- What has come when k rounds are over. -/
def uptoK {α : Type} (f : Nat → α) (k : Nat) : List α := (List.range k).map f
theorem uptoK_succ {α : Type} (f : Nat → α) (k : Nat) : uptoK f (k + 1) = uptoK f k ++ [f k] := by simp [uptoK, List.range_succ]
theorem uptoK_length {α : Type} (f : Nat → α) (k : Nat) : (uptoK f k).length = k := by simp [uptoK]
/-- The k-th write from behind, with its place. -/
def backAt (u : List S55) (k : Nat) : Nat × S55 := (u.length - 1 - k, u.getD (u.length - 1 - k) z55)
def encBack (x : Nat × S55) : Array Value := #[.int .i64 (x.1 : Int), .agg #[.int .i64 x.2.f0, .string x.2.f1]]

set_option maxRecDepth 100000 in
set_option maxHeartbeats 2000000 in
theorem back1_in (F : Fence) (n : Nat) (hf : F.fn 65) (hro : F.round = none) (hn : 1 ≤ n) (l Bs n₀ cap : Nat) (A : Option Addr) (u : List S55) (hu : u.length ≤ 9223372036854775807) (J Jx : List (Nat × S55) → World → Prop)
    (hY : ∀ pre x W, J pre W → pre.length < u.length → YieldAt F (n - 1) Try.prog l (encBack x) W fun e W' =>
      (e = .returned (.bool true) ∧ J (pre ++ [x]) W' ∧ Below n₀ W W') ∨ (e = .returned (.bool false) ∧ Jx (pre ++ [x]) W'))
    (W : World) (hb : Bs < n₀) (hBs : W.cell? ⟨Bs, 0, none⟩ = some (.slice A u.length cap))
    (hc : ∀ i, i < u.length → ∃ ad, A = some ad ∧ (ad.add (i * 2)).block < n₀ ∧ W.cell? (ad.add (i * 2)) = some (.int .i64 (u.getD i z55).f0) ∧ W.cell? ⟨(ad.add (i * 2)).block, (ad.add (i * 2)).off + 1, none⟩ = some (.string (u.getD i z55).f1)) (h0 : J [] W) :
    CallsIn F n Try.prog 65 #[.func (.yield l) #[] #[], .pointer (some ⟨Bs, 0, none⟩)] W fun e W' => (∃ v, e = .returned v) ∧
      ((∃ ys, ys = uptoK (backAt u) u.length ∧ J ys W') ∨ (∃ pre, (∃ k, k ≤ u.length ∧ pre = uptoK (backAt u) k) ∧ Jx pre W')) := by
  refine callsIn_of_wp Try.func65 rfl hf ?_ hro
  simp only [Try.ntmps65, List.size_toArray, List.length_cons, List.length_nil, Nat.reduceAdd, Nat.reduceSub, Array.replicate_succ, Array.replicate_zero, List.push_toArray, List.append_toArray, List.nil_append, List.cons_append]
  have E0 := Lib.hid (show wrap64 ((u.length : Int) - 1) = (u.length : Int) - 1 from wrap_ok _ (by omega) (by omega))
  gi_wp2
  gi_loopw [3] (fun i wr => ∃ k : Nat, k ≤ u.length ∧ i = .int .i64 ((u.length : Int) - 1 - (k : Int)) ∧ J (uptoK (backAt u) k) wr ∧ Below n₀ W wr)
    (fun i _ => (intOf i + 1).toNat)
  case atStart => exact ⟨0, Nat.zero_le _, by first | (rw [E0.out]; simp) | simp, h0, Below.refl _ _⟩
  case round =>
    obtain ⟨k, hk, rfl, hJs, hnx⟩ := hrel
    by_cases hlt : k < u.length
    · obtain ⟨m, hm⟩ : ∃ m, u.length - 1 - k = m := ⟨_, rfl⟩
      have hz : (u.length : Int) - 1 - (k : Int) = (m : Int) := by omega
      obtain ⟨ad, rfl, hblk, hx0, hx1⟩ := hc m (by omega)
      have hB1 := (hnx.cell (p := ⟨Bs, 0, none⟩) hb).trans hBs
      have hy0 := (hnx.cell (p := ad.add (m * 2)) hblk).trans hx0
      have hy1 := (hnx.cell (p := ⟨(ad.add (m * 2)).block, (ad.add (m * 2)).off + 1, none⟩) hblk).trans hx1
      obtain ⟨fn, tmps, assign, body, hy, hR⟩ := hY _ (backAt u k) wr hJs (by rw [uptoK_length]; exact hlt)
      have eb : encBack (backAt u k) = #[.int .i64 (m : Int), .agg #[.int .i64 (u.getD m z55).f0, .string (u.getD m z55).f1]] := by unfold encBack backAt; rw [hm]
      rw [eb] at hy
      clear eb hx0 hx1
      generalize u.getD m z55 = y at hy hy0 hy1
      have d1 : decide ((0 : Int) ≤ (m : Int)) = true := decide_eq_true (by omega)
      have p1 : ((m : Int) < (u.length : Int)) = True := eq_true (by omega)
      have p1b : (m < u.length) = True := eq_true (by omega)
      have EN := Lib.hid (show wrap64 ((m : Int) - 1) = (u.length : Int) - 1 - ((k + 1 : Nat) : Int) by rw [wrap_ok _ (by omega) (by omega)]; omega)
      rw [hz]
      gi_wp2
      refine hR.mono ?_
      rintro e W3 (⟨rfl, hJ3, hk3⟩ | ⟨rfl, hJx3⟩)
      · gi_wp2
        go_roundw
        case rel => exact ⟨k + 1, by omega, by first | rw [EN.out] | (simp; omega), by rw [uptoK_succ]; exact hJ3, hnx.trans hk3⟩
        case measure => first | (simp [intOf]; done) | (have := EN.out; simp [intOf]; omega)
      · gi_wp2
        refine bodyPost_ret (results_none rfl _ _ _) rfl ?_
        exact ⟨⟨_, rfl⟩, .inr ⟨_, ⟨k + 1, by omega, (uptoK_succ _ _).symm⟩, hJx3⟩⟩
    · obtain rfl : k = u.length := by omega
      have d1 : decide ((0 : Int) ≤ (u.length : Int) - 1 - (u.length : Int)) = false := decide_eq_false (by omega)
      gi_wp2
      go_end0
      exact ⟨⟨_, rfl⟩, .inl ⟨_, rfl, hJs⟩⟩

end Go.Proofs.Ytkmecmcioniooaa.Leaf
