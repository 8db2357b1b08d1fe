/-
  FnExactCrashWith answers true: CrashWith gives what the reference gives. Conditions: none but those of the row.
-/
import Derived.Test.YtkmecmcioniooaaDevM
import Derived.Test.YtkmecmcioniooaaDevC
import Derived.Test.YtkmecmcioniooaaOpenDev
import Derived.ChangeSlices
import Derived.Test.YtkmecmcioniooaaPDevx14
import Derived.Test.YtkmecmcioniooaaPDevx13
import Derived.Test.YtkmecmcioniooaaPDevx12
namespace Go.Proofs.Ytkmecmcioniooaa.Leaf
open Go.RowKit Go.Proofs.YtkmecmcioniooaaW.PrintWords Go.Proofs.YtkmecmcioniooaaW.PrintLast Go.Proofs.YtkmecmcioniooaaW.PrintMore Go.Proofs.Ytkmecmcioniooaa.PDev

/-! the fates: copied, alike, marked -/
theorem toIntS_loop (l : List Int) (hl : l.length ≤ 1048576) (d : Nat) : ∀ i : Nat, l.length - i = d → i ≤ l.length → Ev (fun k => laws_toIntS.l0 k l (l.take i ++ List.replicate d 0) (i : Int)) l := by
  induction d with
  | zero =>
    intro i hd hi
    refine Ev.step (f := fun _ => some l) (fun k => ?_) (Ev.now l)
    simp only [laws_toIntS.l0]
    rw [if_neg (by omega), List.replicate_zero, List.append_nil, List.take_of_length_le (by omega)]
  | succ d ih =>
    intro i hd hi
    have hlt : i < l.length := by omega
    have hr : rd l (i : Int) = l[i] := by rw [rd_nat, List.getD_eq_getElem?_getD, List.getElem?_eq_getElem hlt]; rfl
    refine Ev.step (fun k => ?_) (ih (i + 1) (by omega) (by omega))
    simp only [laws_toIntS.l0]
    rw [if_pos (by omega), if_pos (by omega), if_pos (by rw [List.length_append, List.length_take, List.length_replicate]; omega), succ_i i (by omega), hr, Int.toNat_natCast, set_front l i hlt d _]
theorem toIntS_ev (l : List Int) (hl : l.length ≤ 1048576) : Ev (fun k => laws_toIntS.f k l) l := by
  refine Ev.congr (fun k => ?_) (toIntS_loop l hl l.length 0 (by omega) (by omega))
  unfold laws_toIntS.f
  rw [if_pos (by omega), if_pos (by omega), Int.toNat_natCast, List.take_zero, List.nil_append]; rfl
theorem eqIntS_loop (a : List Int) (ha : a.length ≤ 1048576) (d : Nat) : ∀ i : Nat, a.length - i = d → i ≤ a.length → Ev (fun k => laws_eqIntS.l0 k a a (i : Int)) true := by
  induction d with
  | zero =>
    intro i hd hi
    refine Ev.step (f := fun _ => some true) (fun k => ?_) (Ev.now true)
    simp only [laws_eqIntS.l0]
    rw [if_neg (by omega)]
  | succ d ih =>
    intro i hd hi
    refine Ev.step (f := fun k => laws_eqIntS.l0 k a a ((i + 1 : Nat) : Int)) (fun k => ?_) (ih (i + 1) (by omega) (by omega))
    simp only [laws_eqIntS.l0]
    rw [if_pos (by omega), if_pos (by omega), if_pos (by omega), if_pos trivial, succ_i i (by omega)]
theorem eqIntS_ev (a : List Int) (ha : a.length ≤ 1048576) : Ev (fun k => laws_eqIntS.f k a a) true := by
  refine Ev.congr (fun k => ?_) (eqIntS_loop a ha a.length 0 (by omega) (by omega))
  unfold laws_eqIntS.f
  rw [if_pos rfl]; rfl
theorem markIntS_loop (d : Nat) : ∀ (xs : List Int) (i : Nat) (v : Int), xs.length - i = d → i ≤ xs.length → 0 ≤ v → v + d ≤ 4611686018427387904 → xs.length ≤ 1048576 → ∃ ys, Ev (fun k => laws_markIntS.l0 k xs v (i : Int)) (v + d, ys) := by
  induction d with
  | zero =>
    intro xs i v hd hi h0 hv hl
    refine ⟨xs, Ev.step (f := fun _ => some (v + (0 : Nat), xs)) (fun k => ?_) (Ev.now _)⟩
    simp only [laws_markIntS.l0]
    rw [if_neg (by omega)]; simp
  | succ d ih =>
    intro xs i v hd hi h0 hv hl
    obtain ⟨ys, hy⟩ := ih (xs.set i v) (i + 1) (v + 1) (by rw [List.length_set]; omega) (by rw [List.length_set]; omega) (by omega) (by omega) (by rw [List.length_set]; omega)
    refine ⟨ys, Ev.step (f := fun k => laws_markIntS.l0 k (xs.set i v) (v + 1) ((i + 1 : Nat) : Int)) (fun k => ?_) ?_⟩
    · simp only [laws_markIntS.l0]
      rw [if_pos (by omega), if_pos (by omega), Int.toNat_natCast, succ_i i (by omega), wrap_ok (v + 1) (by omega) (by omega)]
    · rw [show v + ((d + 1 : Nat) : Int) = v + 1 + (d : Int) by omega]; exact hy
theorem markIntS_ev (xs : List Int) (v : Int) (h0 : 0 ≤ v) (hv : v ≤ 100000000) (hl : xs.length ≤ 1048576) : ∃ m ys, 0 ≤ m ∧ Ev (fun k => laws_markIntS.f k xs v) (m, ys) := by
  obtain ⟨ys, hy⟩ := markIntS_loop xs.length xs 0 v (by omega) (by omega) h0 (by omega) hl
  exact ⟨_, ys, by omega, hy⟩
/-! the fates: right -/
theorem Fates_loop (fs : List Int) (hl : fs.length ≤ 4096) (d : Nat) : ∀ i : Nat, fs.length - i = d → i ≤ fs.length → Ev (fun k => spec_l05Fates.l0 k fs (i : Int)) ((fs.drop i).all inFates) := by
  induction d with
  | zero =>
    intro i hd hi
    rw [List.drop_of_length_le (by omega)]
    refine Ev.step (f := fun _ => some true) (fun k => ?_) (Ev.now true)
    simp only [spec_l05Fates.l0]
    rw [if_neg (by omega)]
  | succ d ih =>
    intro i hd hi
    have hlt : i < fs.length := by omega
    have hr : rd fs (i : Int) = fs[i] := by rw [rd_nat, List.getD_eq_getElem?_getD, List.getElem?_eq_getElem hlt]; rfl
    have hin : spec_l01In.f fs[i] 0 2 = some (inFates fs[i]) := by
      unfold spec_l01In.f inFates
      by_cases h : 0 ≤ fs[i]
      · rw [if_pos h, decide_eq_true h]; rfl
      · rw [if_neg h, decide_eq_false h]; rfl
    rw [all_drop _ _ _ hlt]
    have hstep : ∀ k, spec_l05Fates.l0 (k + 1) fs (i : Int) = if inFates fs[i] = true then spec_l05Fates.l0 k fs ((i + 1 : Nat) : Int) else some false := fun k => by
      simp only [spec_l05Fates.l0]
      rw [if_pos (by omega), if_pos (by omega), hr, hin, Option.bind_some, succ_i i (by omega)]
    refine Ev.step hstep ?_
    cases hq : inFates fs[i]
    · exact Ev.now false
    · simp only [if_true, Bool.true_and]
      exact ih (i + 1) (by omega) (by omega)
theorem Fates_ev (fs : List Int) (hl : fs.length ≤ 4096) : Ev (fun k => spec_l05Fates.f k fs) (fs.all inFates) := Fates_loop fs hl fs.length 0 (by omega) (by omega)
def crashOf (s : List ByteArray) (u : List S55) (fs : List Int) : List ByteArray × List S55 × Int :=
  if (fs.length : Int) > 4096 then ([], [], 2) else if okDev s u = true then (if fs.all inFates = true then (crashL fs 0 u s, [], 0) else ([], [], 4)) else ([], [], 1)
theorem spec_CrashWith_ev (s : List ByteArray) (u : List S55) (fs : List Int) : Ev (fun k => spec_CrashWith.f k s u fs) (crashOf s u fs) := by
  unfold spec_CrashWith.f crashOf
  by_cases hl : (fs.length : Int) > 4096
  · simp only [if_pos hl]
    exact Ev.now _
  simp only [if_neg hl]
  refine Ev.bind (spec_DeviceOK_ev s u) ?_
  by_cases h : okDev s u = true
  · simp only [if_pos h]
    refine Ev.bind (Fates_ev fs (by omega)) ?_
    by_cases hf : fs.all inFates = true
    · simp only [if_pos hf]
      exact Ev.bind (specC_ev fs h) (Ev.now _)
    · simp only [if_neg hf]
      exact Ev.now _
  · simp only [if_neg h]
    exact Ev.now _
theorem impl_CrashWith_ev (s : List ByteArray) (u : List S55) (fs : List Int) : Ev (fun k => impl_CrashWith.f k s u fs) (crashOf s u fs) := by
  unfold impl_CrashWith.f crashOf
  by_cases hl : (fs.length : Int) > 4096
  · simp only [if_pos hl]
    exact Ev.now _
  simp only [if_neg hl]
  simp only [impl_DeviceOK_eq, Option.bind_some]
  by_cases h : okDev s u = true
  · simp only [if_pos h]
    simp only [impl_areFates.f, areAll_isFate.f, Option.bind_some]
    by_cases hf : fs.all inFates = true
    · simp only [if_pos hf]
      exact Ev.bind (implC_ev fs h) (Ev.now _)
    · simp only [if_neg hf]
      exact Ev.now _
  · simp only [if_neg h]
    exact Ev.now _
theorem crashOf_len (s : List ByteArray) (u : List S55) (fs : List Int) : (crashOf s u fs).1.length ≤ 1048576 ∧ (crashOf s u fs).2.1.length ≤ 1048576 := by
  unfold crashOf
  split
  · exact ⟨by simp, by simp⟩
  split
  · rename_i h
    split
    · obtain ⟨h1, h2, h3⟩ := okDev_iff h
      have := (crashL_secs fs u 0 s h1 h3).1
      exact ⟨by show (crashL fs 0 u s).length ≤ _; omega, by show ([] : List S55).length ≤ _; simp⟩
    · exact ⟨by simp, by simp⟩
  · exact ⟨by simp, by simp⟩
theorem Crash_j2 (m : Int) (s : List ByteArray) (u : List S55) (h0 : 0 ≤ m) (hh : Ev (fun k => laws_heldDevice.f k s u 1) m) : Ev (fun k => laws_FnExactCrashWith.j2 k m false s u) true := by
  have n1 : ¬ m < 0 := by omega
  refine Ev_up ?_
  simp only [laws_FnExactCrashWith.j2, Bool.false_eq_true, if_false]
  refine Ev.bind hh ?_
  simp only [if_neg n1, if_true]
  exact Ev.now true
theorem Crash_j1 (s0 : List ByteArray) (u0 : List S74) (fs : List Int) (hs : s0.length ≤ 1048576) (hu : u0.length ≤ 1048576) (hf : fs.length ≤ 1048576) (y : List ByteArray × List S55 × Int) (hy : y = crashOf s0 (u0.map toIo) fs) :
    Ev (fun k => laws_FnExactCrashWith.j1 k fs y.2.2 false s0 u0 y.1 y.2.1 y.1 y.2.1) true := by
  have hlen := crashOf_len s0 (u0.map toIo) fs
  rw [← hy] at hlen
  obtain ⟨m, s', u', h0, hm, hh⟩ := markD_held y.1 y.2.1 (by omega) (by omega)
  have n1 : ¬ m < 0 := by omega
  have hi := impl_CrashWith_ev s0 (u0.map toIo) fs
  rw [← hy] at hi
  refine Ev_up ?_
  simp only [laws_FnExactCrashWith.j1, Bool.false_eq_true, if_false]
  refine Ev.bind hm ?_
  refine Ev.bind hh ?_
  simp only [if_neg n1, if_true]
  refine Ev.bind (toDevice_ev s0 u0 hs hu) (Ev.bind (toIntS_ev fs hf) (Ev.bind hi (Ev.bind (eqDevice_ev y.1 y.2.1 (by omega) (by omega)) ?_)))
  simp only [if_true, bne_self_eq_false]
  exact Crash_j2 m s' u' h0 hh
theorem Crash_j0 (s0 : List ByteArray) (u0 : List S74) (fs : List Int) (hs : s0.length ≤ 1048576) (hu : u0.length ≤ 1048576) (hf : fs.length ≤ 1048576) (y : List ByteArray × List S55 × Int) (hy : y = crashOf s0 (u0.map toIo) fs) :
    Ev (fun k => laws_FnExactCrashWith.j0 k fs y.2.2 fs y.2.2 false s0 u0 y.1 y.2.1 s0 (u0.map toIo) y.1 y.2.1) true := by
  have hlen := crashOf_len s0 (u0.map toIo) fs
  rw [← hy] at hlen
  have hul : (u0.map toIo).length ≤ 1048576 := by rw [List.length_map]; exact hu
  obtain ⟨m, s', u', h0, hmax, hm, _⟩ := markD_held2 s0 (u0.map toIo) (by omega) (by omega)
  obtain ⟨m2, fs', h2, hm2⟩ := markIntS_ev fs m h0 hmax hf
  have n1 : ¬ m2 < 0 := by omega
  refine Ev_up ?_
  simp only [laws_FnExactCrashWith.j0, Bool.false_eq_true, if_false]
  refine Ev.bind (toDevice_ev s0 u0 hs hu) ?_
  refine Ev.bind (eqDevice_ev s0 (u0.map toIo) (by omega) (by omega)) ?_
  simp only [if_true]
  refine Ev.bind (toIntS_ev fs hf) ?_
  refine Ev.bind (eqIntS_ev fs hf) ?_
  simp only [if_true]
  refine Ev.bind hm ?_
  refine Ev.bind hm2 ?_
  simp only [if_neg n1]
  refine Ev.bind (eqDevice_ev y.1 y.2.1 (by omega) (by omega)) ?_
  simp only [if_true, bne_self_eq_false]
  exact Crash_j1 s0 u0 fs hs hu hf y hy
theorem FnExactCrashWith_ev (s : List ByteArray) (u : List S74) (fs : List Int) (h : DevIn s u) : Ev (fun k => laws_FnExactCrashWith.f k s u fs) true := by
  unfold laws_FnExactCrashWith.f
  by_cases hl : (fs.length : Int) > 1048576
  · simp only [if_pos hl]
    exact Ev.now true
  simp only [if_neg hl]
  have hf : fs.length ≤ 1048576 := by omega
  obtain ⟨r, e, g⟩ := szDevice_ev s u h 1048576 (by decide) (by decide)
  refine Ev.bind e ?_
  rcases g with g | ⟨g, hs, hu⟩
  · simp only [if_pos g]
    exact Ev.now true
  · have n1 : ¬ r < 0 := by omega
    simp only [if_neg n1]
    have ht := toDevice_ev s u hs hu
    have hi := toIntS_ev fs hf
    have hlen := crashOf_len s (u.map toIo) fs
    refine Ev.bind ht (Ev.bind hi (Ev.bind (spec_CrashWith_ev s (u.map toIo) fs) (Ev.bind ht (Ev.bind hi (Ev.bind (impl_CrashWith_ev s (u.map toIo) fs) (Ev.bind (eqDevice_ev _ _ (by omega) (by omega)) ?_))))))
    simp only [if_true, bne_self_eq_false]
    exact Crash_j0 s u fs hs hu hf _ rfl
theorem FnExactCrashWith_walk (A0 : Option Addr) (c0 : Nat) (s : List ByteArray) (A1 : Option Addr) (c1 : Nat) (u : List S74) (A2 : Option Addr) (c2 : Nat) (fs : List Int) (w : World)
    (hk : Kd.C Kd.string w A0 s.length s ∧ s.length ≤ c0 ∧ Kd.C k74 w A1 u.length u ∧ u.length ≤ c1) (h : DevIn s u) (hf : Kd.C (Kd.int .i64) w A2 fs.length fs) (hc : fs.length ≤ c2) :
    Calls Try.prog 8 #[.agg #[.slice A0 s.length c0, .slice A1 u.length c1], .slice A2 fs.length c2] w fun e w' => e = .returned (.bool true) ∧ Below w.heap.size w w' := by
  obtain ⟨k, hr⟩ := (FnExactCrashWith_ev s u fs h).rounds
  exact laws_FnExactCrashWith.calls k A0 c0 s A1 c1 u A2 c2 fs true w hk.1 hk.2.1 hk.2.2.1 hk.2.2.2 hf hc hr

open Go.ChangeShapes Go.WideShapes in
theorem open_fs {H : Type} {enc : TypeId × Value → H} {w : World} {a : Option Addr} {len cap fuel : Nat} {x : DataW H × List MemPlace} (h : DataW.trod enc Try.prog w 0 (fun _ => true) true fuel 43 [.slice a len cap] = some x) :
    ∃ l : List Int, len = l.length ∧ Kd.C (Kd.int .i64) w a l.length l ∧ l.length ≤ cap := by
  rcases open_ints Try.underlying43 Try.underlying3 (by kernel_rfl) h with ⟨hcs, _⟩ | ⟨b, len', cap', ss, hcs, _, hl, hm, hz, _, hcell, _⟩
  · simp only [List.cons.injEq, and_true, Value.slice.injEq] at hcs
    obtain ⟨rfl, rfl, rfl⟩ := hcs
    exact ⟨[], rfl, Kd.C_of_reads (enc := Value.int .i64) (d := (0 : Int)) (h1 := fun _ => rfl) ⟨rfl, Nat.zero_le _, fun h => absurd h (by simp)⟩, Nat.zero_le _⟩
  · simp only [List.cons.injEq, and_true, Value.slice.injEq] at hcs
    obtain ⟨rfl, rfl, rfl⟩ := hcs
    simp only [if_true] at hz
    have hlen : (ss.take len).length = len := by rw [List.length_take]; omega
    refine ⟨ss.take len, hlen.symm, ?_, by rw [hlen]; exact hl⟩
    refine Kd.C_of_reads (enc := Value.int .i64) (d := (0 : Int)) (h1 := fun _ => rfl) ⟨rfl, ?_, fun _ => ⟨b, rfl, fun j hj => ?_⟩⟩
    · rw [hlen]; exact Nat.le_trans hl hm
    · rw [hlen] at hj
      rw [hcell j (by omega)]
      congr 1
      simp only [List.getD_eq_getElem?_getD, List.getElem?_take, if_pos hj]

end Go.Proofs.Ytkmecmcioniooaa.Leaf
