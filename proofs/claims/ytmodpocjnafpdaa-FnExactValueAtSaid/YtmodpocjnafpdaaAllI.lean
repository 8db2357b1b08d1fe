/-
  areAll at int, handed a function value, answers whether its predicate holds of all elements; so do the library's two searches below it. Conditions: the predicate is answered by a call that turns nothing.
-/
import Derived.Test.YtmodpocjnafpdaaBase
namespace Go.Proofs.Ytmodpocjnafpdaa.Leaf
open Go.RowKit Go.Shelf Go.Proofs.YtmodpocjnafpdaaW.PrintWords Go.Proofs.YtmodpocjnafpdaaW.PrintLast Go.Proofs.YtmodpocjnafpdaaW.PrintMore

set_option maxHeartbeats 2000000 in
theorem indexFuncI (g : Nat) (lb : Array Value) (p : Int → Bool) (eg : ∀ args w, (callFunc g args).run Try.prog w = .ok (.enter g args) w) (A : Option Addr) (c : Nat) (l : List Int) (w : World)
    (hr : Kd.C (Kd.int .i64) w A l.length l) (hp : PredB g lb (Value.int .i64) p w) :
    Calls Try.prog 86 #[.slice A l.length c, .func (.func g) #[] lb] w (FoundAt l p w) := by
  have HR := Aside0.mk hr
  have HP := Aside0.mk hp
  have HM := Kd.C_max hr
  clear hr hp
  go_enter Try.func86, Try.ntmps86
  go_wp2
  go_loopg [5, 8] l.length (fun gg _ s8 wr => ∃ i : Int, s8 = .int .i64 i ∧ 0 ≤ i ∧ i ≤ (l.length : Int) ∧ (l.length : Int) - i ≤ (gg : Int) ∧ Aside0 (Below w.heap.size w wr) ∧ Aside0 ((l.take i.toNat).any p = false))
  case atStart => exact ⟨0, rfl, by omega, by omega, by omega, ⟨Below.refl _ _⟩, ⟨by simp⟩⟩
  case round =>
    obtain ⟨i, rfl, h0, h1, hg, HB, HA⟩ := hrel
    by_cases hlt : i < (l.length : Int)
    · have c1 : decide (i < (l.length : Int)) = true := decide_eq_true hlt
      obtain ⟨ad, e, hx⟩ := Kd.at_int (Kd.C_below HR.out HB.out) i h0 hlt
      subst e
      have hcall := HP.out wr (rd l i) HB.out
      have HY := Aside0.mk (rd_get l i h0 hlt)
      generalize (rd l i) = y at hx hcall HY
      cases hq : p y with
      | true =>
        rw [hq] at hcall
        go_wp2_with (go_at_fn g; refine hcall.mono ?_; rintro e w' ⟨rfl, hb'⟩)
        go_ret
        refine ⟨i, rfl, ?_, HB.out.trans (hb'.mono HB.out.size)⟩
        rw [any_of_hit l p i.toNat (by omega) (by rw [← HY.out]; exact hq)]
        exact decide_eq_true h0
      | false =>
        rw [hq] at hcall
        go_wp2_with (go_at_fn g; refine hcall.mono ?_; rintro e w' ⟨rfl, hb'⟩)
        go_roundg (l.length - (i.toNat + 1))
        case measure => omega
        case rel =>
          refine ⟨i + 1, by go_num, by omega, by omega, by omega, ⟨HB.out.trans (hb'.mono HB.out.size)⟩, ⟨?_⟩⟩
          rw [show (i + 1).toNat = i.toNat + 1 by omega, any_take_succ l p i.toNat (by omega), HA.out, ← HY.out, hq]; rfl
    · have c1 : decide (i < (l.length : Int)) = false := decide_eq_false hlt
      go_wp2
      go_ret
      refine ⟨-1, rfl, ?_, HB.out⟩
      have h2 := HA.out
      rw [List.take_of_length_le (by omega)] at h2
      rw [h2]; rfl

set_option maxHeartbeats 2000000 in
theorem containsFuncI (g : Nat) (lb : Array Value) (p : Int → Bool) (eg : ∀ args w, (callFunc g args).run Try.prog w = .ok (.enter g args) w) (A : Option Addr) (c : Nat) (l : List Int) (w : World)
    (hr : Kd.C (Kd.int .i64) w A l.length l) (hp : PredB g lb (Value.int .i64) p w) :
    Calls Try.prog 77 #[.slice A l.length c, .func (.func g) #[] lb] w fun e w' => e = .returned (.bool (l.any p)) ∧ Below w.heap.size w w' := by
  have hc := indexFuncI g lb p eg A c l w hr hp
  clear hr hp
  go_enter Try.func77, Try.ntmps77
  go_wp2_with (go_at_call 86; refine hc.mono ?_; rintro e w' ⟨r, rfl, hd, hb⟩)
  go_ret
  exact ⟨rfl, hb⟩

set_option maxHeartbeats 2000000 in
/-- The literal inside: the other way round. -/
theorem notI (g : Nat) (lb : Array Value) (p : Int → Bool) (eg : ∀ args w, (callFunc g args).run Try.prog w = .ok (.enter g args) w) (w : World) (hp : PredB g lb (Value.int .i64) p w) :
    PredB 78 #[.pointer (some ⟨w.heap.size, 0, none⟩)] (Value.int .i64) (fun x => !p x) (w.alloc (.cells #[.func (.func g) #[] lb] 30)) := by
  intro W x hb
  have hW : Below w.heap.size w W := (below_alloc (Below.refl _ w) _).trans (hb.mono (by simp))
  have hc : W.cell? ⟨w.heap.size, 0, none⟩ = some (.func (.func g) #[] lb) := by
    rw [hb.cell (p := ⟨w.heap.size, 0, none⟩) (by simp)]; simp [World.cell?_alloc_at]
  have hcall := hp W x hW
  clear hb hW hp
  go_enter Try.func78, Try.ntmps78
  go_wp2_with (go_at_fn g; refine hcall.mono ?_; rintro e w' ⟨rfl, hb'⟩)
  go_ret
  exact ⟨rfl, hb'⟩

set_option maxHeartbeats 2000000 in
theorem areAllI (g : Nat) (lb : Array Value) (p : Int → Bool) (eg : ∀ args w, (callFunc g args).run Try.prog w = .ok (.enter g args) w) (A : Option Addr) (c : Nat) (l : List Int) (w : World)
    (hr : Kd.C (Kd.int .i64) w A l.length l) (hp : PredB g lb (Value.int .i64) p w) :
    Calls Try.prog 60 #[.slice A l.length c, .func (.func g) #[] lb] w fun e w' => e = .returned (.bool (l.all p)) ∧ Below w.heap.size w w' := by
  have hc := containsFuncI 78 #[.pointer (some ⟨w.heap.size, 0, none⟩)] (fun x => !p x) (enters_of Try.func78 (by kernel_rfl) rfl) A c l (w.alloc (.cells #[.func (.func g) #[] lb] 30)) (Kd.C_alloc hr _) (notI g lb p eg w hp)
  clear hr hp
  go_enter Try.func60, Try.ntmps60
  go_wp2_with (go_at_call 77; refine hc.mono ?_; rintro e w' ⟨rfl, hb⟩)
  go_ret
  exact ⟨by rw [all_not_any]; rfl, (below_alloc (Below.refl _ w) _).trans (hb.mono (by simp))⟩

end Go.Proofs.Ytmodpocjnafpdaa.Leaf
