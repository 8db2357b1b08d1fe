/-
  FnExactSyncAll answers true: SyncAll gives what the reference gives. Conditions: none but those of the row.
-/
import Derived.Test.YtkmecmcioniooaaDevM
import Derived.Test.YtkmecmcioniooaaDevC
import Derived.Test.YtkmecmcioniooaaOpenDev
import Derived.Test.YtkmecmcioniooaaPDevx11
import Derived.Test.YtkmecmcioniooaaPDevx10
import Derived.Test.YtkmecmcioniooaaPDevx9
namespace Go.Proofs.Ytkmecmcioniooaa.Leaf
open Go.RowKit Go.Proofs.YtkmecmcioniooaaW.PrintWords Go.Proofs.YtkmecmcioniooaaW.PrintLast Go.Proofs.YtkmecmcioniooaaW.PrintMore Go.Proofs.Ytkmecmcioniooaa.PDev

def syncOf (s : List ByteArray) (u : List S55) : List ByteArray × List S55 × Int := if okDev s u = true then (crashL [1] 0 u s, [], 0) else ([], [], 1)
theorem spec_SyncAll_ev (s : List ByteArray) (u : List S55) : Ev (fun k => spec_SyncAll.f k s u) (syncOf s u) := by
  unfold spec_SyncAll.f syncOf
  refine Ev.bind (spec_DeviceOK_ev s u) ?_
  by_cases h : okDev s u = true
  · simp only [if_pos h]
    exact Ev.bind (specS_ev h) (Ev.now _)
  · simp only [if_neg h]
    exact Ev.now _
theorem impl_SyncAll_ev (s : List ByteArray) (u : List S55) : Ev (fun k => impl_SyncAll.f k s u) (syncOf s u) := by
  unfold impl_SyncAll.f syncOf
  simp only [impl_DeviceOK_eq, Option.bind_some]
  by_cases h : okDev s u = true
  · simp only [if_pos h]
    unfold impl_Device_sync.f
    exact Ev.bind (Ev.bind (implC_ev [1] h) (Ev.now _)) (Ev.now _)
  · simp only [if_neg h]
    exact Ev.now _
theorem syncOf_len (s : List ByteArray) (u : List S55) : (syncOf s u).1.length ≤ 1048576 ∧ (syncOf s u).2.1.length ≤ 1048576 := by
  unfold syncOf
  by_cases h : okDev s u = true
  · rw [if_pos h]
    obtain ⟨h1, h2, h3⟩ := okDev_iff h
    have := (crashL_secs [1] u 0 s h1 h3).1
    exact ⟨by show (crashL [1] 0 u s).length ≤ _; omega, by show ([] : List S55).length ≤ _; simp⟩
  · rw [if_neg h]; exact ⟨by simp, by simp⟩
theorem Sync_j2 (m x : Int) (s : List ByteArray) (u : List S55) (h0 : 0 ≤ m) (hh : Ev (fun k => laws_heldDevice.f k s u 1) m) : Ev (fun k => laws_FnExactSyncAll.j2 k m (x != x) s u) true := by
  have n1 : ¬ m < 0 := by omega
  refine Ev.step (f := fun k => (laws_heldDevice.f k s u 1).bind fun t402 => (if t402 < 0 then (some false) else (if t402 = m then (some true) else (some false)))) (fun k => ?_) ?_
  · simp only [laws_FnExactSyncAll.j2]
    rw [if_neg (by simp)]
  · exact Ev.bind hh (by simp only [if_neg n1, if_true]; exact Ev.now true)
theorem Sync_j1 (s0 : List ByteArray) (u0 : List S74) (hs : s0.length ≤ 1048576) (hu : u0.length ≤ 1048576) (y : List ByteArray × List S55 × Int) (hy : y = syncOf s0 (u0.map toIo)) :
    Ev (fun k => laws_FnExactSyncAll.j1 k y.2.2 (y.2.2 != y.2.2) s0 u0 y.1 y.2.1 y.1 y.2.1) true := by
  have hlen := syncOf_len s0 (u0.map toIo)
  rw [← hy] at hlen
  obtain ⟨m, s', u', h0, hm, hh⟩ := markD_held y.1 y.2.1 (by omega) (by omega)
  have n1 : ¬ m < 0 := by omega
  have hi := impl_SyncAll_ev s0 (u0.map toIo)
  rw [← hy] at hi
  refine Ev_up ?_
  simp only [laws_FnExactSyncAll.j1, bne_self_eq_false, Bool.false_eq_true, if_false]
  refine Ev.bind hm ?_
  refine Ev.bind hh ?_
  simp only [if_neg n1, if_true]
  refine Ev.bind (toDevice_ev s0 u0 hs hu) (Ev.bind hi (Ev.bind (eqDevice_ev y.1 y.2.1 (by omega) (by omega)) ?_))
  simp only [if_true]
  have := Sync_j2 m y.2.2 s' u' h0 hh
  simpa only [bne_self_eq_false] using this
theorem Sync_j0 (s0 : List ByteArray) (u0 : List S74) (hs : s0.length ≤ 1048576) (hu : u0.length ≤ 1048576) (y : List ByteArray × List S55 × Int) (hy : y = syncOf s0 (u0.map toIo)) :
    Ev (fun k => laws_FnExactSyncAll.j0 k y.2.2 y.2.2 (y.2.2 != y.2.2) s0 u0 y.1 y.2.1 s0 (u0.map toIo) y.1 y.2.1) true := by
  have hlen := syncOf_len s0 (u0.map toIo)
  rw [← hy] at hlen
  have hul : (u0.map toIo).length ≤ 1048576 := by rw [List.length_map]; exact hu
  obtain ⟨m, s', u', h0, hm, _⟩ := markD_held s0 (u0.map toIo) (by omega) (by omega)
  have n1 : ¬ m < 0 := by omega
  refine Ev_up ?_
  simp only [laws_FnExactSyncAll.j0, bne_self_eq_false, Bool.false_eq_true, if_false]
  refine Ev.bind (toDevice_ev s0 u0 hs hu) ?_
  refine Ev.bind (eqDevice_ev s0 (u0.map toIo) (by omega) (by omega)) ?_
  simp only [if_true]
  refine Ev.bind hm ?_
  simp only [if_neg n1]
  refine Ev.bind (eqDevice_ev y.1 y.2.1 (by omega) (by omega)) ?_
  simp only [if_true]
  have := Sync_j1 s0 u0 hs hu y hy
  simpa only [bne_self_eq_false] using this
theorem FnExactSyncAll_ev (s : List ByteArray) (u : List S74) (h : DevIn s u) : Ev (fun k => laws_FnExactSyncAll.f k s u) true := by
  obtain ⟨r, e, g⟩ := szDevice_ev s u h 1048576 (by decide) (by decide)
  unfold laws_FnExactSyncAll.f
  refine Ev.bind e ?_
  rcases g with g | ⟨g, hs, hu⟩
  · simp only [if_pos g]
    exact Ev.now true
  · have n1 : ¬ r < 0 := by omega
    simp only [if_neg n1]
    have ht := toDevice_ev s u hs hu
    have hlen := syncOf_len s (u.map toIo)
    refine Ev.bind ht (Ev.bind (spec_SyncAll_ev s (u.map toIo)) (Ev.bind ht (Ev.bind (impl_SyncAll_ev s (u.map toIo)) (Ev.bind (eqDevice_ev _ _ (by omega) (by omega)) ?_))))
    simp only [if_true]
    exact Sync_j0 s u hs hu _ rfl
theorem FnExactSyncAll_walk (A0 : Option Addr) (c0 : Nat) (s : List ByteArray) (A1 : Option Addr) (c1 : Nat) (u : List S74) (w : World)
    (hk : Kd.C Kd.string w A0 s.length s ∧ s.length ≤ c0 ∧ Kd.C k74 w A1 u.length u ∧ u.length ≤ c1) (h : DevIn s u) :
    Calls Try.prog 7 #[.agg #[.slice A0 s.length c0, .slice A1 u.length c1]] w fun e w' => e = .returned (.bool true) ∧ Below w.heap.size w w' := by
  obtain ⟨k, hf⟩ := (FnExactSyncAll_ev s u h).rounds
  exact laws_FnExactSyncAll.calls k A0 c0 s A1 c1 u true w hk.1 hk.2.1 hk.2.2.1 hk.2.2.2 hf

end Go.Proofs.Ytkmecmcioniooaa.Leaf
