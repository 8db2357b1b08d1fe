/-
  FnExactDeviceOK answers true: DeviceOK gives what the reference gives. Conditions: none but those of the row.
-/
import Derived.Test.YtkmecmcioniooaaDevP
import Derived.Test.YtkmecmcioniooaaOpenDev
import Derived.Test.YtkmecmcioniooaaPDevx7
namespace Go.Proofs.Ytkmecmcioniooaa.Leaf
open Go.RowKit Go.Proofs.YtkmecmcioniooaaW.PrintWords Go.Proofs.YtkmecmcioniooaaW.PrintLast Go.Proofs.YtkmecmcioniooaaW.PrintMore Go.Proofs.Ytkmecmcioniooaa.PDev

theorem FnExactDeviceOK_ev (s : List ByteArray) (u : List S74) (h : DevIn s u) : Ev (fun k => laws_FnExactDeviceOK.f k s u) true := by
  obtain ⟨r, e, g⟩ := szDevice_ev s u h 1048576 (by decide) (by decide)
  unfold laws_FnExactDeviceOK.f
  refine Ev.bind e ?_
  rcases g with g | ⟨g, hs, hu⟩
  · simp only [if_pos g]
    exact Ev.now true
  · have n1 : ¬ r < 0 := by omega
    simp only [if_neg n1]
    have ht := toDevice_ev s u hs hu
    refine Ev.bind ht (Ev.bind (spec_DeviceOK_ev s (u.map toIo)) (Ev.bind ht ?_))
    simp only [impl_DeviceOK_eq, Option.bind_some, bne_self_eq_false, Bool.false_eq_true, if_false]
    refine Ev.bind ht (Ev.bind (eqDevice_ev s (u.map toIo) (by omega) (by rw [List.length_map]; omega)) ?_)
    simp only [if_true]
    exact Ev.now true
theorem FnExactDeviceOK_walk (A0 : Option Addr) (c0 : Nat) (s : List ByteArray) (A1 : Option Addr) (c1 : Nat) (u : List S74) (w : World)
    (hk : Kd.C Kd.string w A0 s.length s ∧ s.length ≤ c0 ∧ Kd.C k74 w A1 u.length u ∧ u.length ≤ c1) (h : DevIn s u) :
    Calls Try.prog 5 #[.agg #[.slice A0 s.length c0, .slice A1 u.length c1]] w fun e w' => e = .returned (.bool true) ∧ Below w.heap.size w w' := by
  obtain ⟨k, hf⟩ := (FnExactDeviceOK_ev s u h).rounds
  exact laws_FnExactDeviceOK.calls k A0 c0 s A1 c1 u true w hk.1 hk.2.1 hk.2.2.1 hk.2.2.2 hf

end Go.Proofs.Ytkmecmcioniooaa.Leaf
