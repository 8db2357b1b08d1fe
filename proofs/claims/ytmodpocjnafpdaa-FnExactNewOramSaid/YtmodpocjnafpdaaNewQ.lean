/-
  The walk of FnExactNewOram. Conditions: none but those of the row.
-/
import Derived.Test.YtmodpocjnafpdaaNewP
namespace Go.Proofs.Ytmodpocjnafpdaa.Leaf
open Go.RowKit Go.Proofs.YtmodpocjnafpdaaW.PrintWords Go.Proofs.YtmodpocjnafpdaaW.PrintMore Go.Proofs.Ytmodpocjnafpdaa.POra

/-- What holds from the reference's answer on: it lies ahead of W3. -/
structure Ref (w W3 : World) (A : Option Addr) (c : Nat) (l : List Int) (g : Nat) (x : Six) (p : List Int) (bu : List (List S61)) : Prop where
  hC : Kd.C (Kd.int .i64) W3 A l.length l
  hc : l.length ≤ c
  hO : Orm W3 x p [] bu
  hX : Box3 W3 g 40 x p.length 0 bu.length
  bel : Below w.heap.size w W3
theorem Ref.below {w W3 W : World} {A : Option Addr} {c : Nat} {l : List Int} {g : Nat} {x : Six} {p : List Int} {bu : List (List S61)} (h : Ref w W3 A c l g x p bu) (hb : Below W3.heap.size W3 W) : Ref w W A c l g x p bu :=
  ⟨Kd.C_below h.hC hb, h.hc, h.hO.below hb, h.hX.below hb, h.bel.trans (hb.mono h.bel.size)⟩
theorem bel_step {A B C : World} (h : Below A.heap.size A B) (hb : Below B.heap.size B C) : Below A.heap.size A C := h.trans (hb.mono h.size)

/-- What holds of the program's answer: it lies at lo or behind, its box at g. -/
structure St (W3 : World) (lo g : Nat) (W : World) (y : Six) (n m : Nat) (p : List Int) (bu : List (List S61)) : Prop where
  G : GO W3.heap.size lo W y n m p bu
  B : Below W3.heap.size W3 W
  Y : Box3 W g 40 y n 0 m
  hlo : lo ≤ W.heap.size
  hg : lo ≤ g
theorem St.below {W3 W W' : World} {lo g : Nat} {y : Six} {n m : Nat} {p : List Int} {bu : List (List S61)} (h : St W3 lo g W y n m p bu) (hb : Below W.heap.size W W') : St W3 lo g W' y n m p bu :=
  ⟨h.G.below hb, bel_step h.B hb, h.Y.below hb, Nat.le_trans h.hlo hb.size, h.hg⟩
theorem St.marked {W3 W W' : World} {lo g : Nat} {y : Six} {n m : Nat} {p : List Int} {bu : List (List S61)} (h : St W3 lo g W y n m p bu) (hB : Below W3.heap.size W3 W') (hk : Kept W W' (fun k => W3.heap.size ≤ k ∧ k < lo)) : St W3 lo g W' y n m p bu :=
  ⟨h.G.kept hk (fun k h1 h2 => by omega), hB, blk_kept h.Y hk (fun h2 => by have := h.hg; omega), Nat.le_trans h.hlo hk.1, h.hg⟩
theorem St.marked2 {W3 W W' : World} {lo g : Nat} {y : Six} {n m : Nat} {p p' : List Int} {bu : List (List S61)} (h : St W3 lo g W y n m p bu) (hB : Below W3.heap.size W3 W') (hG : GO W3.heap.size lo W' y n m p' bu) (hk : Kept W W' (fun k => some k = (Value.slice y.A0 n y.c0).ownBlock ∧ lo ≤ k)) (hp : ∀ k, (Value.slice y.A0 n y.c0).ownBlock = some k → k < g) : St W3 lo g W' y n m p' bu :=
  ⟨hG, hB, blk_kept h.Y hk (fun h2 => by have := hp g h2.1.symm; omega), Nat.le_trans h.hlo hk.1, h.hg⟩

set_option maxRecDepth 100000 in
set_option maxHeartbeats 4000000 in
theorem NewOram_walk (k : Nat) (A : Option Addr) (c : Nat) (l p : List Int) (bu : List (List S61)) (r r1 m : Int) (l' p' : List Int) (w : World) (hC0 : Kd.C (Kd.int .i64) w A l.length l) (hc : l.length ≤ c) (hl : l.length ≤ 1048576)
    (hbu : ∀ x ∈ bu, x = []) (e1 : laws_toIntS.f k l = some l) (e2 : spec_NewOram.f k l = some (p, [], bu, r)) (e3 : impl_NewOram.f l = some (p, [], bu, r))
    (e4 : laws_eqOram.f k p [] bu p [] bu = some true) (e5 : laws_eqIntS.f k l l = some true) (e6 : laws_markIntS.f k l 1 = some (r1, l')) (n1 : 0 ≤ r1)
    (e7 : laws_markIntS.f k p 1 = some (m, p')) (e8 : laws_heldOram.f k p' [] bu 1 = some m) (n2 : 0 ≤ m) :
    Calls Try.prog 6 #[.slice A l.length c] w fun e w' => e = .returned (.bool true) ∧ Below w.heap.size w w' := by
  have HC := Aside0.mk hC0
  have Hc := Aside0.mk hc
  have HU := Aside0.mk hbu
  have E1 := Aside0.mk e1
  have E2 := Aside0.mk e2
  have E3 := Aside0.mk e3
  have E4 := Aside0.mk e4
  have E5 := Aside0.mk e5
  have E6 := Aside0.mk e6
  have E7 := Aside0.mk e7
  have E8 := Aside0.mk e8
  clear hC0 hc hbu e1 e2 e3 e4 e5 e6 e7 e8
  have d0 : decide (1048576 < (l.length : Int)) = false := decide_eq_false (by omega)
  go_enter Try.func6, Try.ntmps6
  go_upto_region 4 with (first
    | (go_at_call 23; (with_reducible refine (toIntS_c k A c l l _ HC.out Hc.out E1.out).mono ?_); rintro e w1 ⟨B1, d1, rfl, hr, hb⟩; have R1 := Aside0.mk hr; have L1 := Aside0.mk hb; clear hr hb)
    | (go_at_call 22; (with_reducible refine (specNew_c k B1 d1 l p bu r _ (Kd.R_reads' R1.out).2.2 (Kd.R_reads' R1.out).2.1 E2.out).mono ?_); rintro e w2 ⟨x, rfl, ho, hb⟩; have O2 := Aside0.mk ho; have L2 := Aside0.mk (bel_step L1.out hb); clear ho hb R1 L1))
  have bl : Below w2.heap.size w2 (w2.alloc (.cells #[.slice x.A0 p.length x.c0, .slice x.A1 0 x.c1, .slice x.A2 bu.length x.c2] 40)) := below_alloc (Below.refl _ _) _
  have F3 := Aside0.mk (Ref.mk (w := w) (Kd.C_below HC.out (bel_step L2.out bl)) Hc.out (O2.out.below bl) (Box3.new w2 40 x p.length 0 bu.length) (bel_step L2.out bl))
  clear bl L2 O2 HC Hc
  generalize w2.alloc (.cells #[.slice x.A0 p.length x.c0, .slice x.A1 0 x.c1, .slice x.A2 bu.length x.c2] 40) = W3 at F3 ⊢
  generalize w2.heap.size = g3 at F3 ⊢
  go_upto_region 5 with (first
    | (go_at_call 23; (with_reducible refine (toIntS_c k A c l l _ F3.out.hC F3.out.hc E1.out).mono ?_); rintro e w4 ⟨B5, d5, rfl, hr, hb⟩; have R4 := Aside0.mk hr; have L4 := Aside0.mk hb; clear hr hb))
  go_upto_region 6 with (first
    | (go_at_call 24; (with_reducible refine (implNew_c B5 d5 l p bu r _ (Kd.R_reads' R4.out).2.2 (Kd.R_reads' R4.out).2.1 E3.out).mono ?_); rintro e w5 ⟨y, rfl, ho, hb⟩; have G5 := Aside0.mk (ho.lower L4.out.size); have L5 := Aside0.mk hb; clear ho hb))
  have bl : Below w5.heap.size w5 (w5.alloc (.cells #[.slice y.A0 p.length y.c0, .slice y.A1 0 y.c1, .slice y.A2 bu.length y.c2] 40)) := below_alloc (Below.refl _ _) _
  have HP := Aside0.mk (Kd.R_lt G5.out.r0)
  have S6 := Aside0.mk (St.mk (G5.out.below bl) (bel_step (bel_step L4.out L5.out) bl) (Box3.new w5 40 y p.length 0 bu.length) (Nat.le_trans L5.out.size bl.size) L5.out.size)
  have R6 := Aside0.mk (Kd.R_below R4.out (bel_step L5.out bl))
  clear bl G5 R4 L4 L5
  generalize w5.alloc (.cells #[.slice y.A0 p.length y.c0, .slice y.A1 0 y.c1, .slice y.A2 bu.length y.c2] 40) = w6 at S6 R6 ⊢
  generalize w5.heap.size = g6 at S6 HP ⊢
  generalize w4.heap.size = lo at S6 R6
  have rr : decide (r = r) = true := decide_eq_true rfl
  have rr2 : (r != r) = false := bne_self_eq_false r
  obtain ⟨a0, a1, a2⟩ := S6.out.Y.cells
  obtain ⟨b0, b1, b2⟩ := (F3.out.below S6.out.B).hX.cells
  go_upto_region 8 with (first
    | (go_at_call 21; (with_reducible refine (eqOram_n k y x _ _ _ _ p bu p bu true _ S6.out.G.orm (F3.out.below S6.out.B).hO rfl rfl rfl rfl E4.out).mono ?_); rintro e w7 ⟨rfl, hb⟩; have S7 := Aside0.mk (S6.out.below hb); have R7 := Aside0.mk (Kd.R_below R6.out hb); clear hb S6 R6 a0 a1 a2 b0 b1 b2))
  go_upto_region 10 with (first
    | (go_at_call 23; (with_reducible refine (toIntS_c k A c l l _ (F3.out.below S7.out.B).hC F3.out.hc E1.out).mono ?_); rintro e w8 ⟨B8, d8, rfl, hr, hb⟩; have Q8 := Aside0.mk hr; have S8 := Aside0.mk (S7.out.below hb); have R8 := Aside0.mk (Kd.R_below R7.out hb); clear hr hb S7 R7)
    | (go_at_call 14; (with_reducible refine (laws_eqIntS.calls k B5 d5 l B8 d8 l true _ (Kd.R_reads' R8.out).2.2 (Kd.R_reads' R8.out).2.1 (Kd.R_reads' Q8.out).2.2 (Kd.R_reads' Q8.out).2.1 E5.out).mono ?_); rintro e w9 ⟨rfl, hd⟩; have S9 := Aside0.mk (S8.out.below hd.below); have R9 := Aside0.mk (Kd.R_below R8.out hd.below); clear hd S8 R8 Q8))
  go_upto_region 12 with (first
    | (go_at_call 15; (with_reducible refine (laws_markIntS.calls k _ _ l 1 r1 l' W3 _ S9.out.B R9.out E6.out).mono ?_); rintro e w10 ⟨rfl, _, hb, hk⟩; have S10 := Aside0.mk (S9.out.marked hb hk); clear hb hk S9 R9))
  have d1 : decide (r1 < 0) = false := decide_eq_false (by omega)
  obtain ⟨a0, a1, a2⟩ := S10.out.Y.cells
  obtain ⟨b0, b1, b2⟩ := (F3.out.below S10.out.B).hX.cells
  go_upto_region 14 with (first
    | (go_at_call 21; (with_reducible refine (eqOram_n k y x _ _ _ _ p bu p bu true _ S10.out.G.orm (F3.out.below S10.out.B).hO rfl rfl rfl rfl E4.out).mono ?_); rintro e w11 ⟨rfl, hb⟩; have S11 := Aside0.mk (S10.out.below hb); clear hb S10 a0 a1 a2 b0 b1 b2))
  obtain ⟨a0, a1, a2⟩ := S11.out.Y.cells
  go_upto_region 16 with (first
    | (go_at_call 25; (with_reducible refine (markOram_c k y _ _ p p' bu 1 m lo W3 _ S11.out.B S11.out.G S11.out.hlo HU.out E7.out).mono ?_); rintro e w12 ⟨rfl, hb, hG, hk⟩; have S12 := Aside0.mk (S11.out.marked2 hb hG hk HP.out); clear hb hG hk S11 a0 a1 a2))
  obtain ⟨a0, a1, a2⟩ := S12.out.Y.cells
  have d2 : decide (m < 0) = false := decide_eq_false (by omega)
  have d3 : decide (m = m) = true := decide_eq_true rfl
  have d4 : (m != m) = false := bne_self_eq_false m
  go_upto_region 22 with (first
    | (go_at_call 26; (with_reducible refine (heldOram_n k y _ _ p' bu 1 m _ S12.out.G.orm S12.out.G.n S12.out.G.m E8.out).mono ?_); rintro e w13 ⟨rfl, hb⟩; have S13 := Aside0.mk (S12.out.below hb); clear hb S12 a0 a1 a2))
  go_upto_region 23 with (first
    | (go_at_call 23; (with_reducible refine (toIntS_c k A c l l _ (F3.out.below S13.out.B).hC F3.out.hc E1.out).mono ?_); rintro e w14 ⟨B9, d9, rfl, hr, hb⟩; have Q9 := Aside0.mk hr; have S14 := Aside0.mk (S13.out.below hb); clear hr hb S13)
    | (go_at_call 24; (with_reducible refine (implNew_c B9 d9 l p bu r _ (Kd.R_reads' Q9.out).2.2 (Kd.R_reads' Q9.out).2.1 E3.out).mono ?_); rintro e w15 ⟨z, rfl, ho, hb⟩; have Z15 := Aside0.mk ho.orm; have S15 := Aside0.mk (S14.out.below hb); clear ho hb S14 Q9))
  have bl : Below w15.heap.size w15 (w15.alloc (.cells #[.slice z.A0 p.length z.c0, .slice z.A1 0 z.c1, .slice z.A2 bu.length z.c2] 40)) := below_alloc (Below.refl _ _) _
  have S16 := Aside0.mk (S15.out.below bl)
  have Z16 := Aside0.mk (Z15.out.below bl)
  have Y16 := Aside0.mk (Box3.new w15 40 z p.length 0 bu.length)
  clear bl S15 Z15
  generalize w15.alloc (.cells #[.slice z.A0 p.length z.c0, .slice z.A1 0 z.c1, .slice z.A2 bu.length z.c2] 40) = w16 at S16 Z16 Y16 ⊢
  generalize w15.heap.size = g16 at Y16 ⊢
  obtain ⟨a0, a1, a2⟩ := Y16.out.cells
  obtain ⟨b0, b1, b2⟩ := (F3.out.below S16.out.B).hX.cells
  go_upto_region 25 with (first
    | (go_at_call 21; (with_reducible refine (eqOram_n k z x _ _ _ _ p bu p bu true _ Z16.out (F3.out.below S16.out.B).hO rfl rfl rfl rfl E4.out).mono ?_); rintro e w17 ⟨rfl, hb⟩; have S17 := Aside0.mk (S16.out.below hb); clear hb S16 a0 a1 a2 b0 b1 b2))
  obtain ⟨a0, a1, a2⟩ := S17.out.Y.cells
  go_upto_region 27 with (first
    | (go_at_call 26; (with_reducible refine (heldOram_n k y _ _ p' bu 1 m _ S17.out.G.orm S17.out.G.n S17.out.G.m E8.out).mono ?_); rintro e w18 ⟨rfl, hb⟩; have S18 := Aside0.mk (S17.out.below hb); clear hb S17 a0 a1 a2))
  go_wp2
  go_ret
  exact ⟨rfl, (F3.out.below S18.out.B).bel⟩

end Go.Proofs.Ytmodpocjnafpdaa.Leaf
