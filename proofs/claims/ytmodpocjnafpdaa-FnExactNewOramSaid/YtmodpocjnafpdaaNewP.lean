/-
  laws.markOram at an Oram without blocks: its leaves are marked, all else is as it was. Conditions: none.
-/
import Derived.Test.YtmodpocjnafpdaaNewO
namespace Go.Proofs.Ytmodpocjnafpdaa.Leaf
open Go.RowKit Go.Proofs.YtmodpocjnafpdaaW.PrintWords Go.Proofs.YtmodpocjnafpdaaW.PrintMore Go.Proofs.Ytmodpocjnafpdaa.POra

/-- The leaves are marked: the rest lies apart. -/
theorem GO.marked {base lo : Nat} {W W' : World} {y : Six} {n m : Nat} {p p' : List Int} {bu : List (List S61)} (h : GO base lo W y n m p bu) (hlo : lo ≤ W.heap.size) (hk : Kept W W' (fun k => some k = (Value.slice y.A0 n y.c0).ownBlock ∧ lo ≤ k))
    (hr : Kd.R (Kd.int .i64) 3 W' base (fun k => (some k = (Value.slice y.A0 n y.c0).ownBlock ∧ lo ≤ k) ∨ W.heap.size ≤ k) (.slice y.A0 n y.c0) p') : GO base lo W' y n m p' bu := by
  refine ⟨?_, ?_, ?_⟩
  · exact Kd.R_mono hr (fun k hk => hk.elim (fun h => h.2) (fun h => Nat.le_trans hlo h))
  · exact Kd.R_mono (Kd.R_kept (Kd.R_apart' h.r1 (Kd.R_typed h.r0) (by decide)) hk (fun k hk he => hk.2 he.1)) (fun _ hk => hk.1)
  · exact Kd.S_mono (Kd.S_kept (Kd.S_apart' h.s (Kd.R_typed h.r0) (by decide)) hk (fun k hk he => hk.2 he.1)) (fun _ hk => hk.1)

set_option maxRecDepth 100000 in
set_option maxHeartbeats 4000000 in
theorem markOram_c (k : Nat) (y : Six) (n m : Nat) (p p' : List Int) (bu : List (List S61)) (a r : Int) (lo : Nat) (w0 w : World) (hB0 : Below w0.heap.size w0 w) (h0 : GO w0.heap.size lo w y n m p bu) (hlo : lo ≤ w.heap.size) (he0 : ∀ x ∈ bu, x = []) (hf0 : laws_markIntS.f k p a = some (r, p')) :
    Calls Try.prog 25 #[.agg #[.slice y.A0 n y.c0, .slice y.A1 0 y.c1, .slice y.A2 m y.c2], .int .i64 a] w fun e w' => e = .returned (.int .i64 r) ∧ Below w0.heap.size w0 w' ∧ GO w0.heap.size lo w' y n m p' bu ∧ Kept w w' (fun k => some k = (Value.slice y.A0 n y.c0).ownBlock ∧ lo ≤ k) := by
  have hB := Aside0.mk hB0
  have h := Aside0.mk h0
  have he := Aside0.mk he0
  have hf := Aside0.mk hf0
  have HL := Aside0.mk (Kd.R_lt h0.r0)
  obtain rfl : m = bu.length := h0.m
  clear hB0 h0 he0 hf0
  go_enter Try.func25, Try.ntmps25
  go_upto_region 1 with (first
    | ((with_reducible refine gate_dst (N := 2) rfl ?_); refine box_event ?hg (N := 2) ?hd (cs := #[.slice y.A0 n y.c0, .slice y.A1 0 y.c1, .slice y.A2 bu.length y.c2]) (t := 40) ?hr ?_; (case hd => rfl); (case hg => rfl); (case hr => first | (go_simp; done) | (go_simp; rfl)); intro g0 hg0 w1 hbox0 hb; have H1 := Aside0.mk (h.out.below hb); have HB1 := Aside0.mk (hB.out.trans (hb.mono hB.out.size)); have HK1 := Aside0.mk (Kept.of_below hb (fun k => some k = (Value.slice y.A0 n y.c0).ownBlock ∧ lo ≤ k)); have BX := Aside0.mk (show Box3 w1 g0 40 y n 0 bu.length from hbox0); have GE := Aside0.mk (show w.heap.size ≤ g0 by omega); clear hb h hB hbox0 hg0))
  have HT := Aside0.mk (Kd.R_tight2 rfl H1.out.r0)
  obtain ⟨a0, a1, a2⟩ := BX.out.cells
  go_upto_region 2 with (first
    | (go_at_call 15; (with_reducible refine (laws_markIntS.calls k _ _ p a r p' w0 _ HB1.out HT.out hf.out).mono ?_); rintro e w2 ⟨rfl, hr, hb, hk⟩; have H2 := Aside0.mk (H1.out.marked (Nat.le_trans hlo HK1.out.1) hk hr); have HK2 := Aside0.mk (HK1.out.then_ hk (fun _ h => .inl h)); have HB2 := Aside0.mk hb; have BX2 := Aside0.mk (show Box3 w2 g0 40 y n 0 bu.length from blk_kept BX.out hk (fun hs => by have := HL.out g0 hs.1.symm; have := GE.out; omega)); clear hr hb hk a0 a1 a2 BX H1 HB1 HT HK1))
  obtain ⟨a0, a1, a2⟩ := BX2.out.cells
  go_upto_region 3 with (first
    | (go_at_call 55; (with_reducible refine (markBlk_nil _ _ _ _).mono ?_); rintro e w3 ⟨rfl, hb⟩; have H3 := Aside0.mk (H2.out.below hb); have HK3 := Aside0.mk (HK2.out.below hb); have HB3 := Aside0.mk (HB2.out.trans (hb.mono HB2.out.size)); have BX3 := Aside0.mk (BX2.out.below hb); clear hb a0 a1 a2 BX2 H2 HB2 HK2))
  obtain ⟨a0, a1, a2⟩ := BX3.out.cells
  go_upto_region 4 with (first
    | (go_at_call 56; (with_reducible refine (markRows_nil _ _ bu he.out _ _ H3.out.orm.h2).mono ?_); rintro e w4 ⟨rfl, hb⟩; have H4 := Aside0.mk (H3.out.below hb); have HK4 := Aside0.mk (HK3.out.below hb); have HB4 := Aside0.mk (HB3.out.trans (hb.mono HB3.out.size)); clear hb a0 a1 a2 BX3 H3 HB3 HK3))
  go_wp2
  go_ret
  exact ⟨rfl, HB4.out, H4.out, HK4.out⟩

end Go.Proofs.Ytmodpocjnafpdaa.Leaf
