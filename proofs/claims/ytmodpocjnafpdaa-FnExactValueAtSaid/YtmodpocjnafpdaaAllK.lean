/-
  areAll at loop.example/g00548/impl.Block, handed a function value, answers whether its predicate holds of all elements; so do the library's two searches below it. Conditions: the predicate is answered by a call that turns nothing.
-/
import Derived.Test.YtmodpocjnafpdaaBase
import Derived.Test.YtmodpocjnafpdaaPOrax0
namespace Go.Proofs.Ytmodpocjnafpdaa.Leaf
open Go.RowKit Go.Shelf Go.Proofs.YtmodpocjnafpdaaW.PrintWords Go.Proofs.YtmodpocjnafpdaaW.PrintLast Go.Proofs.YtmodpocjnafpdaaW.PrintMore Go.Proofs.Ytmodpocjnafpdaa.POra

/-- A block, as a value. -/
def encBlk (x : S61) : Value := .agg #[.int .i64 x.f0, .int .i64 x.f1, .int .i64 x.f2]
theorem rdBlk_get (l : List S61) (i : Int) (h0 : 0 ≤ i) (h1 : i < (l.length : Int)) : rd_T61 l i = l[i.toNat]'(by omega) := by
  unfold rd_T61
  rw [List.getD_eq_getElem?_getD, List.getElem?_eq_getElem (by omega)]; rfl

set_option maxHeartbeats 2000000 in
theorem indexFuncK (g : Nat) (lb : Array Value) (p : S61 → Bool) (eg : ∀ args w, (callFunc g args).run Try.prog w = .ok (.enter g args) w) (A : Option Addr) (c : Nat) (l : List S61) (w : World)
    (hr : Kd.C k61 w A l.length l) (hp : PredB g lb encBlk p w) :
    Calls Try.prog 84 #[.slice A l.length c, .func (.func g) #[] lb] w (FoundAt l p w) := by
  have HR := Aside0.mk hr
  have HP := Aside0.mk hp
  have HM := Kd.C_max hr
  clear hr hp
  go_enter Try.func84, Try.ntmps84
  go_wp2
  go_loopg [5, 8] l.length (fun gg _ s8 wr => ∃ i : Int, s8 = .int .i64 i ∧ 0 ≤ i ∧ i ≤ (l.length : Int) ∧ (l.length : Int) - i ≤ (gg : Int) ∧ Aside0 (Below w.heap.size w wr) ∧ Aside0 ((l.take i.toNat).any p = false))
  case atStart => exact ⟨0, rfl, by omega, by omega, by omega, ⟨Below.refl _ _⟩, ⟨by simp⟩⟩
  case round =>
    obtain ⟨i, rfl, h0, h1, hg, HB, HA⟩ := hrel
    by_cases hlt : i < (l.length : Int)
    · have c1 : decide (i < (l.length : Int)) = true := decide_eq_true hlt
      obtain ⟨ad, e, hx, hx1, hx2⟩ := at_T61 (Kd.C_below HR.out HB.out) i h0 hlt
      subst e
      have hcall := HP.out wr (rd_T61 l i) HB.out
      have HY := Aside0.mk (rdBlk_get l i h0 hlt)
      generalize (rd_T61 l i) = y at hx hx1 hx2 hcall HY
      cases hq : p y with
      | true =>
        rw [hq] at hcall
        go_wp2_with (go_at_fn g; refine hcall.mono ?_; rintro e w' ⟨rfl, hb'⟩)
        go_ret
        refine ⟨i, rfl, ?_, HB.out.trans (hb'.mono HB.out.size)⟩
        rw [any_of_hit l p i.toNat (by omega) (by rw [← HY.out]; exact hq)]
        exact decide_eq_true h0
      | false =>
        rw [hq] at hcall
        go_wp2_with (go_at_fn g; refine hcall.mono ?_; rintro e w' ⟨rfl, hb'⟩)
        go_roundg (l.length - (i.toNat + 1))
        case measure => omega
        case rel =>
          refine ⟨i + 1, by go_num, by omega, by omega, by omega, ⟨HB.out.trans (hb'.mono HB.out.size)⟩, ⟨?_⟩⟩
          rw [show (i + 1).toNat = i.toNat + 1 by omega, any_take_succ l p i.toNat (by omega), HA.out, ← HY.out, hq]; rfl
    · have c1 : decide (i < (l.length : Int)) = false := decide_eq_false hlt
      go_wp2
      go_ret
      refine ⟨-1, rfl, ?_, HB.out⟩
      have h2 := HA.out
      rw [List.take_of_length_le (by omega)] at h2
      rw [h2]; rfl

set_option maxHeartbeats 2000000 in
theorem containsFuncK (g : Nat) (lb : Array Value) (p : S61 → Bool) (eg : ∀ args w, (callFunc g args).run Try.prog w = .ok (.enter g args) w) (A : Option Addr) (c : Nat) (l : List S61) (w : World)
    (hr : Kd.C k61 w A l.length l) (hp : PredB g lb encBlk p w) :
    Calls Try.prog 67 #[.slice A l.length c, .func (.func g) #[] lb] w fun e w' => e = .returned (.bool (l.any p)) ∧ Below w.heap.size w w' := by
  have hc := indexFuncK g lb p eg A c l w hr hp
  clear hr hp
  go_enter Try.func67, Try.ntmps67
  go_wp2_with (go_at_call 84; refine hc.mono ?_; rintro e w' ⟨r, rfl, hd, hb⟩)
  go_ret
  exact ⟨rfl, hb⟩

set_option maxHeartbeats 2000000 in
/-- The literal inside: the other way round. -/
theorem notK (g : Nat) (lb : Array Value) (p : S61 → Bool) (eg : ∀ args w, (callFunc g args).run Try.prog w = .ok (.enter g args) w) (w : World) (hp : PredB g lb encBlk p w) :
    PredB 79 #[.pointer (some ⟨w.heap.size, 0, none⟩)] encBlk (fun x => !p x) (w.alloc (.cells #[.func (.func g) #[] lb] 71)) := by
  intro W x hb
  have hW : Below w.heap.size w W := (below_alloc (Below.refl _ w) _).trans (hb.mono (by simp))
  have hc : W.cell? ⟨w.heap.size, 0, none⟩ = some (.func (.func g) #[] lb) := by
    rw [hb.cell (p := ⟨w.heap.size, 0, none⟩) (by simp)]; simp [World.cell?_alloc_at]
  have hcall := fun o => hp (W.alloc o) x (below_alloc hW o)
  have hlt : w.heap.size < W.heap.size := by have := hb.size; simp at this; omega
  have hc2 : ∀ o, (W.alloc o).cell? ⟨w.heap.size, 0, none⟩ = some (.func (.func g) #[] lb) := fun o => by
    rw [(below_alloc (Below.refl _ W) o).cell (p := ⟨w.heap.size, 0, none⟩) hlt]; exact hc
  clear hb hW hp
  show Calls Try.prog 79 #[.agg #[.int .i64 x.f0, .int .i64 x.f1, .int .i64 x.f2], .pointer (some ⟨w.heap.size, 0, none⟩)] W _
  replace hcall : ∀ o, Calls Try.prog g (#[.agg #[.int .i64 x.f0, .int .i64 x.f1, .int .i64 x.f2]] ++ lb) (W.alloc o) fun e w' => e = .returned (.bool (p x)) ∧ Below (W.alloc o).heap.size (W.alloc o) w' := hcall
  go_enter Try.func79, Try.ntmps79
  go_wp2_with (go_at_fn g; refine (hcall _).mono ?_; rintro e w' ⟨rfl, hb'⟩)
  go_ret
  exact ⟨rfl, (below_alloc (Below.refl _ W) _).trans (hb'.mono (by simp))⟩

set_option maxHeartbeats 2000000 in
theorem areAllK (g : Nat) (lb : Array Value) (p : S61 → Bool) (eg : ∀ args w, (callFunc g args).run Try.prog w = .ok (.enter g args) w) (A : Option Addr) (c : Nat) (l : List S61) (w : World)
    (hr : Kd.C k61 w A l.length l) (hp : PredB g lb encBlk p w) :
    Calls Try.prog 61 #[.slice A l.length c, .func (.func g) #[] lb] w fun e w' => e = .returned (.bool (l.all p)) ∧ Below w.heap.size w w' := by
  have hc := containsFuncK 79 #[.pointer (some ⟨w.heap.size, 0, none⟩)] (fun x => !p x) (enters_of Try.func79 (by kernel_rfl) rfl) A c l (w.alloc (.cells #[.func (.func g) #[] lb] 71)) (Kd.C_alloc hr _) (notK g lb p eg w hp)
  clear hr hp
  go_enter Try.func61, Try.ntmps61
  go_wp2_with (go_at_call 67; refine hc.mono ?_; rintro e w' ⟨rfl, hb⟩)
  go_ret
  exact ⟨by rw [all_not_any]; rfl, (below_alloc (Below.refl _ w) _).trans (hb.mono (by simp))⟩

end Go.Proofs.Ytmodpocjnafpdaa.Leaf
