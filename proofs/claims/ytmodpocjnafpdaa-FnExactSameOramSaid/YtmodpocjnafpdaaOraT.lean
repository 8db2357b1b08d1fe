/-
  FnExactSameOram answers true: SameOram gives what the reference gives. Conditions: none but those of the row.
-/
import Derived.Test.YtmodpocjnafpdaaOpenOra
import Derived.Test.YtmodpocjnafpdaaOraS
namespace Go.Proofs.Ytmodpocjnafpdaa.Leaf
open Go.RowKit Go.Proofs.YtmodpocjnafpdaaW.PrintWords Go.Proofs.Ytmodpocjnafpdaa.POra

theorem FnExactSameOram_walk (x : Six) (p : List Int) (st : List S80) (bu : List (List S80)) (y : Six) (q : List Int) (su : List S80) (cu : List (List S80)) (w : World)
    (hA : OrL w x p st bu) (hB : OrL w y q su cu) (iA : OrIn p st bu) (iB : OrIn q su cu) :
    Calls Try.prog 5 #[.agg #[.slice x.A0 p.length x.c0, .slice x.A1 st.length x.c1, .slice x.A2 bu.length x.c2], .agg #[.slice y.A0 q.length y.c0, .slice y.A1 su.length y.c1, .slice y.A2 cu.length y.c2]] w fun e w' => e = .returned (.bool true) ∧ Below w.heap.size w w' := by
  obtain ⟨x1, ⟨K1, e1⟩, h1⟩ := szOram_ev p st bu iA 1048576 (by decide) (by decide)
  rcases h1 with h1 | ⟨g0, g1, g2, g3, g4, g5⟩
  · exact SameOram_walk1 K1 x y p st bu q su cu x1 w hA hB (e1 _ (Nat.le_refl _)) h1
  obtain ⟨x2, ⟨K2, e2⟩, h2⟩ := szOram_ev q su cu iB x1 g0 g1
  rcases h2 with h2 | ⟨m0, m1, m2, m3, m4, m5⟩
  · exact SameOram_walk2 (K1 + K2) x y p st bu q su cu x1 x2 w hA hB (e1 _ (by omega)) g0 (e2 _ (by omega)) h2
  obtain ⟨K3, e3⟩ := toOram_ev p st bu g2 g3 g4 g5
  obtain ⟨K4, e4⟩ := toOram_ev q su cu m2 m3 m4 m5
  have rA : Rows (bu.map (List.map toBlk)) := ⟨by rw [List.length_map]; omega, fun z hz => by
    obtain ⟨v, hv, rfl⟩ := List.mem_map.1 hz
    have := g5 v hv
    rw [List.length_map]; omega⟩
  have rB : Rows (cu.map (List.map toBlk)) := ⟨by rw [List.length_map]; omega, fun z hz => by
    obtain ⟨v, hv, rfl⟩ := List.mem_map.1 hz
    have := m5 v hv
    rw [List.length_map]; omega⟩
  have sA : (st.map toBlk).length ≤ 9223372036854775807 := by rw [List.length_map]; omega
  have sB : (su.map toBlk).length ≤ 9223372036854775807 := by rw [List.length_map]; omega
  obtain ⟨K5, e5⟩ := specSame_ev p (st.map toBlk) (bu.map (List.map toBlk)) q (su.map toBlk) (cu.map (List.map toBlk)) (by omega) sA rA
  obtain ⟨K6, e6⟩ := implSame_ev p (st.map toBlk) (bu.map (List.map toBlk)) q (su.map toBlk) (cu.map (List.map toBlk)) (by omega) sA rA
  have h7 := eqOram_ev p (st.map toBlk) (bu.map (List.map toBlk)) p (st.map toBlk) (bu.map (List.map toBlk)) (by omega) sA rA
  have h8 := eqOram_ev q (su.map toBlk) (cu.map (List.map toBlk)) q (su.map toBlk) (cu.map (List.map toBlk)) (by omega) sB rB
  rw [oramE_refl] at h7 h8
  obtain ⟨K7, e7⟩ := h7
  obtain ⟨K8, e8⟩ := h8
  exact SameOram_walk (K1 + K2 + K3 + K4 + K5 + K6 + K7 + K8) x y p st bu q su cu x1 x2 _ _ _ _ _ _ _ w hA hB (e1 _ (by omega)) g0 (e2 _ (by omega)) m0 (e3 _ (by omega)) (e4 _ (by omega)) (e5 _ (by omega)) (e6 _ (by omega)) (e7 _ (by omega)) (e8 _ (by omega))

end Go.Proofs.Ytmodpocjnafpdaa.Leaf
