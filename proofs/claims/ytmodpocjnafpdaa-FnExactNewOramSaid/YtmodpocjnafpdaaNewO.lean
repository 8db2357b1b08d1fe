/-
  NewOram's helpers of the law: marks on an Oram without blocks, and what marks leave as it was. Conditions: none.
-/
import Derived.Test.YtmodpocjnafpdaaOraW
import Derived.Test.YtmodpocjnafpdaaArr
import Derived.Test.YtmodpocjnafpdaaPOrax9
import Derived.Test.YtmodpocjnafpdaaPOrax12
import Derived.Test.YtmodpocjnafpdaaPOrax11
import Derived.Test.YtmodpocjnafpdaaPOrax4
namespace Go.Proofs.Ytmodpocjnafpdaa.Leaf
open Go.RowKit Go.Proofs.YtmodpocjnafpdaaW.PrintWords Go.Proofs.YtmodpocjnafpdaaW.PrintMore Go.Proofs.Ytmodpocjnafpdaa.POra

/-- An Oram of one's own, without blocks in the stash: its rows lie behind base, and at lo or behind. -/
structure GO (base lo : Nat) (W : World) (y : Six) (n m : Nat) (p : List Int) (bu : List (List S61)) : Prop where
  r0 : Kd.R (Kd.int .i64) 3 W base (fun k => lo ≤ k) (.slice y.A0 n y.c0) p
  r1 : Kd.R k61 61 W base (fun k => lo ≤ k) (.slice y.A1 0 y.c1) []
  s : Kd.S (Kd.slice 61 k61) 37 W base (fun k => lo ≤ k) (.slice y.A2 m y.c2) bu
theorem GO.kept {base lo : Nat} {W W' : World} {y : Six} {n m : Nat} {p : List Int} {bu : List (List S61)} {S : Nat → Prop} (h : GO base lo W y n m p bu) (hk : Kept W W' S) (hS : ∀ k, lo ≤ k → ¬ S k) : GO base lo W' y n m p bu :=
  ⟨Kd.R_kept h.r0 hk hS, Kd.R_kept h.r1 hk hS, Kd.S_kept h.s hk hS⟩
theorem GO.below {base lo : Nat} {W W' : World} {y : Six} {n m : Nat} {p : List Int} {bu : List (List S61)} (h : GO base lo W y n m p bu) (hb : Below W.heap.size W W') : GO base lo W' y n m p bu :=
  h.kept (Kept.of_below hb (fun _ => False)) (fun _ _ h => h)
theorem GO.lower {base base' lo : Nat} {W : World} {y : Six} {n m : Nat} {p : List Int} {bu : List (List S61)} (h : GO base lo W y n m p bu) (hb : base' ≤ base) : GO base' lo W y n m p bu :=
  ⟨Kd.R_lower h.r0 hb, Kd.R_lower h.r1 hb, Kd.S_lower h.s hb⟩
theorem GO.m {base lo : Nat} {W : World} {y : Six} {n m : Nat} {p : List Int} {bu : List (List S61)} (h : GO base lo W y n m p bu) : m = bu.length := (Kd.S_reads' h.s).1
theorem GO.n {base lo : Nat} {W : World} {y : Six} {n m : Nat} {p : List Int} {bu : List (List S61)} (h : GO base lo W y n m p bu) : n = p.length := (Kd.R_reads' h.r0).1
theorem GO.orm {base lo : Nat} {W : World} {y : Six} {n m : Nat} {p : List Int} {bu : List (List S61)} (h : GO base lo W y n m p bu) : Orm W y p [] bu := by
  obtain ⟨e0, l0, g0⟩ := Kd.R_reads' h.r0
  obtain ⟨_, l1, g1⟩ := Kd.R_reads' h.r1
  obtain ⟨e2, l2, g2⟩ := Kd.S_reads' h.s
  exact ⟨g0, by omega, g1, l1, g2, by omega⟩

theorem eqOram_n (k : Nat) (x y : Six) (n0 n2 m0 m2 : Nat) (p : List Int) (bu : List (List S61)) (q : List Int) (cu : List (List S61)) (r : Bool) (w : World) (h : Orm w x p [] bu) (g : Orm w y q [] cu) (a0 : n0 = p.length) (a2 : n2 = bu.length) (b0 : m0 = q.length) (b2 : m2 = cu.length) (hf : laws_eqOram.f k p [] bu q [] cu = some r) :
    Calls Try.prog 21 #[.agg #[.slice x.A0 n0 x.c0, .slice x.A1 0 x.c1, .slice x.A2 n2 x.c2], .agg #[.slice y.A0 m0 y.c0, .slice y.A1 0 y.c1, .slice y.A2 m2 y.c2]] w fun e w' => e = .returned (.bool r) ∧ Below w.heap.size w w' := by
  subst a0; subst a2; subst b0; subst b2
  exact eqOram_c k x y p [] bu q [] cu r w h g hf
theorem heldOram_n (k : Nat) (x : Six) (n0 n2 : Nat) (p : List Int) (bu : List (List S61)) (a r : Int) (w : World) (h : Orm w x p [] bu) (a0 : n0 = p.length) (a2 : n2 = bu.length) (hf : laws_heldOram.f k p [] bu a = some r) :
    Calls Try.prog 26 #[.agg #[.slice x.A0 n0 x.c0, .slice x.A1 0 x.c1, .slice x.A2 n2 x.c2], .int .i64 a] w fun e w' => e = .returned (.int .i64 r) ∧ Below w.heap.size w w' := by
  subst a0; subst a2
  exact laws_heldOram.calls k x.A0 x.c0 p x.A1 x.c1 [] x.A2 x.c2 bu a r w h.h0 h.l0 h.h1 h.l1 h.h2 h.l2 hf
theorem specNew_c (k : Nat) (A : Option Addr) (c : Nat) (l p : List Int) (bu : List (List S61)) (r : Int) (w : World) (h : Kd.C (Kd.int .i64) w A l.length l) (hc : l.length ≤ c) (hf : spec_NewOram.f k l = some (p, [], bu, r)) :
    Calls Try.prog 22 #[.slice A l.length c] w fun e w' => ∃ y : Six, e = .returned (.tuple #[.agg #[.slice y.A0 p.length y.c0, .slice y.A1 0 y.c1, .slice y.A2 bu.length y.c2], .int .i64 r]) ∧ Orm w' y p [] bu ∧ Below w.heap.size w w' := by
  refine (spec_NewOram.calls k A c l p [] bu r w h hc hf).mono ?_
  rintro e w' ⟨v0, v1, v2, rfl, h0, h1, h2, hb⟩
  obtain ⟨A0, c0, rfl, l0, g0⟩ := Kd.R_reads h0
  obtain ⟨A1, c1, rfl, l1, g1⟩ := Kd.R_reads h1
  obtain ⟨A2, c2, rfl, l2, g2⟩ := Kd.S_reads h2
  exact ⟨⟨A0, c0, A1, c1, A2, c2⟩, rfl, ⟨g0, l0, g1, l1, g2, l2⟩, hb⟩
theorem implNew_c (A : Option Addr) (c : Nat) (l p : List Int) (bu : List (List S61)) (r : Int) (w : World) (h : Kd.C (Kd.int .i64) w A l.length l) (hc : l.length ≤ c) (hf : impl_NewOram.f l = some (p, [], bu, r)) :
    Calls Try.prog 24 #[.slice A l.length c] w fun e w' => ∃ y : Six, e = .returned (.tuple #[.agg #[.slice y.A0 p.length y.c0, .slice y.A1 0 y.c1, .slice y.A2 bu.length y.c2], .int .i64 r]) ∧ GO w.heap.size w.heap.size w' y p.length bu.length p bu ∧ Below w.heap.size w w' := by
  refine (impl_NewOram.calls A c l p [] bu r w h hc hf).mono ?_
  rintro e w' ⟨v0, v1, v2, rfl, h0, h1, h2, hb⟩
  obtain ⟨A0, c0, rfl⟩ := Kd.R_slice h0
  obtain ⟨A1, c1, rfl⟩ := Kd.R_slice h1
  obtain ⟨A2, c2, rfl⟩ := Kd.S_slice h2
  exact ⟨⟨A0, c0, A1, c1, A2, c2⟩, rfl, ⟨Kd.R_mono (Kd.R_bound h0) (fun _ hk => hk.2.1), Kd.R_mono (Kd.R_bound h1) (fun _ hk => hk.2.1), Kd.S_mono (Kd.S_bound h2) (fun _ hk => hk.2.1)⟩, hb⟩
theorem toIntS_c (k : Nat) (A : Option Addr) (c : Nat) (l p : List Int) (w : World) (h : Kd.C (Kd.int .i64) w A l.length l) (hc : l.length ≤ c) (hf : laws_toIntS.f k l = some p) :
    Calls Try.prog 23 #[.slice A l.length c] w fun e w' => ∃ (B : Option Addr) (d : Nat), e = .returned (.slice B p.length d) ∧ Kd.R (Kd.int .i64) 3 w' w.heap.size (fun k => w.heap.size ≤ k ∧ k < w'.heap.size) (.slice B p.length d) p ∧ Below w.heap.size w w' := by
  refine (laws_toIntS.calls k A c l p w h hc hf).mono ?_
  rintro e w' ⟨v0, rfl, h0, hb⟩
  obtain ⟨A0, c0, rfl⟩ := Kd.R_slice h0
  exact ⟨A0, c0, rfl, Kd.R_mono (Kd.R_bound h0) (fun _ hk => ⟨hk.2.1, hk.2.2.1⟩), hb⟩

set_option maxHeartbeats 4000000 in
/-- A row without blocks: nothing is marked. -/
theorem markBlk_nil (A : Option Addr) (c : Nat) (a : Int) (w : World) : Calls Try.prog 55 #[.slice A 0 c, .int .i64 a] w fun e w' => e = .returned (.int .i64 a) ∧ Below w.heap.size w w' := by
  go_enter Try.func55, Try.ntmps55
  go_wp2
  refine wp_loop_rounds 1 ?_
  repeat any_goals (rw [rounds_succ]; go_wp2)
  go_ret
  exact ⟨rfl, Below.refl _ _⟩

set_option maxHeartbeats 4000000 in
theorem markRows_nil (A : Option Addr) (c : Nat) (bu : List (List S61)) (he : ∀ x ∈ bu, x = []) (a : Int) (w : World) (h : Kd.C (Kd.slice 61 k61) w A bu.length bu) : Calls Try.prog 56 #[.slice A bu.length c, .int .i64 a] w fun e w' => e = .returned (.int .i64 a) ∧ Below w.heap.size w w' := by
  have HR := Aside0.mk h
  have HE := Aside0.mk he
  have HM := Kd.C_max h
  clear h he
  go_enter Try.func56, Try.ntmps56
  go_wp2
  go_loopg [1, 5] bu.length (fun gg s1 s5 wr => ∃ i : Int, s1 = .int .i64 a ∧ s5 = .int .i64 i ∧ 0 ≤ i ∧ i ≤ (bu.length : Int) ∧ (bu.length : Int) - i ≤ (gg : Int) ∧ Aside0 (Below w.heap.size w wr))
  case atStart => exact ⟨0, rfl, rfl, by omega, by omega, by omega, ⟨Below.refl _ _⟩⟩
  case round =>
    obtain ⟨i, rfl, rfl, h0, h1, hg, HB⟩ := hrel
    by_cases hlt : i < (bu.length : Int)
    · have c1 : decide (i < (bu.length : Int)) = true := decide_eq_true hlt
      obtain ⟨ad, A0, c0, e, hx, _, _⟩ := at_L4 (Kd.C_below HR.out HB.out) i h0 hlt
      subst e
      have hz : rd_L4 bu i = [] := by
        refine HE.out _ ?_
        unfold rd_L4
        rw [List.getD_eq_getElem?_getD, List.getElem?_eq_getElem (by omega)]
        exact List.getElem_mem _
      rw [hz] at hx
      have hx2 : wr.cell? (ad.add i.toNat) = some (.slice A0 0 c0) := hx
      clear hx hz
      have p1 := eq_true h0
      have p2 := eq_true hlt
      go_wp2_with (go_at_call 55; refine (markBlk_nil _ _ _ _).mono ?_; rintro e w3 ⟨rfl, hb⟩; have HB3 := Aside0.mk (HB.out.trans (hb.mono HB.out.size)); clear hb HB)
      go_roundg (bu.length - (i.toNat + 1))
      case measure => omega
      case rel => exact ⟨i + 1, rfl, by go_num, by omega, by omega, by omega, HB3⟩
    · have c1 : decide (i < (bu.length : Int)) = false := decide_eq_false hlt
      go_wp2
      go_ret
      exact ⟨rfl, HB.out⟩

end Go.Proofs.Ytmodpocjnafpdaa.Leaf
