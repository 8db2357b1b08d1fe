/- FnExactCheckProof's walk. Conditions: sizes. -/
import Derived.Test.YtajbljegeiebjaaCheck
namespace Go.Proofs.Ytajbljegeiebjaa.Leaf
open Go.RowKit Go.Shelf Go.Proofs.YtajbljegeiebjaaW.PrintWords Go.Proofs.YtajbljegeiebjaaW.PrintLast Go.Proofs.YtajbljegeiebjaaW.PrintMore Go.Proofs.Ytajbljegeiebjaa.PFnExactCheckProof
theorem FnExactCheckProof_walk (a0 : ByteArray) (a1 : Int) (a2 : ByteArray) (A3 : Option Addr) (c3 : Nat) (l3 : List ByteArray) (w : World) (hr3 : Kd.C Kd.string w A3 l3.length l3) (hc3 : l3.length ≤ c3) (hs : ∀ s ∈ l3, s.size ≤ 9223372036854775807) (hl : l3.length ≤ 140737488351232) :
    Calls Try.prog 11 #[.string a0, .int .i64 a1, .string a2, .slice A3 l3.length c3] w fun e w' => e = .returned (.bool true) ∧ Below w.heap.size w w' := by
  obtain ⟨k, h⟩ := FnExactCheckProof_pure a0 a1 a2 l3 hs hl
  exact laws_FnExactCheckProof.calls k a0 a1 a2 A3 c3 l3 true w hr3 hc3 h
end Go.Proofs.Ytajbljegeiebjaa.Leaf
