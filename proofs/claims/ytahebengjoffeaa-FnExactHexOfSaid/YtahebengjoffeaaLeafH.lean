/-
  hexOf answers the two digits of each byte of a text. Conditions: none.
-/
import Derived.Test.YtahebengjoffeaaBase
import Derived.Deep.RegionLaw
import Derived.OwnWalk
import Derived.Deep.AppendLies
namespace Go.Proofs.Ytahebengjoffeaa.Leaf
open Go.RowKit Go.Shelf Go.Proofs.YtahebengjoffeaaW.PrintWords Go.Proofs.YtahebengjoffeaaW.PrintLast Go.Proofs.YtahebengjoffeaaW.PrintMore

def hexText : ByteArray := ⟨#[48, 49, 50, 51, 52, 53, 54, 55, 56, 57, 97, 98, 99, 100, 101, 102]⟩
/-- The digits of the first m bytes. -/
def hexPart (s : ByteArray) (m : Nat) : List Int := (List.range m).flatMap fun (j : Nat) => [bt hexText (bt s (j : Int) / 16), bt hexText (Go.bits .and .u8 (bt s (j : Int)) 15)]
theorem hexPart_succ (s : ByteArray) (m : Nat) : hexPart s (m + 1) = hexPart s m ++ [bt hexText (bt s (m : Int) / 16), bt hexText (Go.bits .and .u8 (bt s (m : Int)) 15)] := by
  unfold hexPart; rw [List.range_succ, List.flatMap_append]; simp
theorem hexPart_length (s : ByteArray) (m : Nat) : (hexPart s m).length = 2 * m := by
  induction m with
  | zero => rfl
  | succ m ih => rw [hexPart_succ, List.length_append, ih]; simp; omega

theorem news_two (W : World) (x y : Value) (t : TypeId) : ∀ (j : Nat) (u : Value), [x, y][j]? = some u → ((W.alloc (.cells #[x, y] t)).drew).cell? ((⟨W.heap.size, 0, none⟩ : Addr).add j) = some u := by
  intro j u h
  rw [add_plain]
  show (W.alloc (.cells #[x, y] t)).cell? _ = _
  rw [World.cell?_alloc_at _ _ _ _ rfl]
  match j, h with
  | 0, h => simpa using h
  | 1, h => simpa using h
theorem one_two (x y : Value) (hx : x.oneCell' = true) (hy : y.oneCell' = true) : ∀ u ∈ [x, y], u.oneCell' = true := by
  intro u hu
  simp at hu
  rcases hu with rfl | rfl <;> assumption
theorem and15 (y : Int) (h0 : 0 ≤ y) (h1 : y ≤ 255) : 0 ≤ Go.bits .and .u8 y 15 ∧ Go.bits .and .u8 y 15 < 16 := by
  have := bits_mask .u8 8 (by decide) (fun n h0 h1 => wraps_u8 n h0 h1) 4 (by decide) y h0 (by omega)
  rw [show ((2 : Int) ^ 4 - 1) = 15 from rfl] at this
  rw [this]; omega

def impl_hexOf.f (a0 : ByteArray) : Option ByteArray := if a0.size ≤ 1048576 then some (strOfNums (hexPart a0 a0.size)) else none

theorem info5 : (Try.prog.info? 5).map (fun i => (i.zero, i.size, i.bytes)) = some (some (.int .u8 0), 1, 1) := by kernel_rfl

set_option maxHeartbeats 2000000 in
theorem impl_hexOf.calls (a0 : ByteArray) (r : ByteArray) (w : World) (h : impl_hexOf.f a0 = some r) :
    Calls Try.prog 53 #[.string a0] w fun e w' => e = .returned (.string r) ∧ Below w.heap.size w w' := by
  unfold impl_hexOf.f at h
  by_cases hs : a0.size ≤ 1048576
  · rw [if_pos hs] at h
    have HR := Lib.hid (Option.some.inj h)
    clear h
    obtain ⟨i0, hi, hz0, hz1, hz2⟩ := info_parts info5
    have HI := Aside0.mk hi; have HZ0 := Aside0.mk hz0; have HZ1 := Aside0.mk hz1; have HZ2 := Aside0.mk hz2
    clear hi hz0 hz1 hz2
    have kb := fun W => print_bytes (P := Try.prog) 9 51 5 Try.underlying9 Try.underlying51 Try.underlying5 a0 W
    go_enter Try.func53, Try.ntmps53
    go_wp2
    clear kb
    go_loopg [3, 5, 9] a0.size (fun gg s3 _ s9 wr => ∃ i : Int, s9 = .int .i64 i ∧ 0 ≤ i ∧ i ≤ (a0.size : Int) ∧ (a0.size : Int) - i ≤ (gg : Int) ∧ Aside0 (Row wr w.heap.size .u8 (bytesOf a0)) ∧ Aside0 (wr.ownsRow (w.heap.size + 1) 5 1 s3 (hexPart a0 i.toNat).length (nums .u8 (hexPart a0 i.toNat))) ∧ Aside0 (Below w.heap.size w wr))
    case atStart => exact ⟨0, rfl, by omega, by omega, by omega, ⟨Row.bytes w _ a0⟩, ⟨own_nil _ _ _ _⟩, ⟨bytes_below (Below.refl _ _) (Nat.le_refl _) _ _⟩⟩
    case round =>
      obtain ⟨i, rfl, h0, h1, hg, HX, HO, HB⟩ := hrel
      by_cases hlt : i < (a0.size : Int)
      · have c1 : decide (i < (a0.size : Int)) = true := decide_eq_true hlt
        obtain ⟨hx, hf⟩ := HX.out.at i h0 (by rw [bytesOf_length]; exact hlt)
        rw [rd_bytesOf] at hx
        have hr := bt_range a0 i
        obtain ⟨r0, r1⟩ := hr
        have HY := Lib.hid (show hexPart a0 (i + 1).toNat = hexPart a0 i.toNat ++ [bt hexText (bt a0 i / 16), bt hexText (Go.bits .and .u8 (bt a0 i) 15)] by
          rw [show (i + 1).toNat = i.toNat + 1 by omega, hexPart_succ, show ((i.toNat : Nat) : Int) = i by omega])
        generalize bt a0 i = y at hx HY r0 r1
        have p1 : (0 ≤ y / 16) = True := eq_true (by omega)
        have p2 : (y / 16 < 16) = True := eq_true (by omega)
        have hm := and15 y r0 r1
        have p3 : (0 ≤ Go.bits .and .u8 y 15) = True := eq_true hm.1
        have p4 : (Go.bits .and .u8 y 15 < 16) = True := eq_true hm.2
        clear hm
        have t1 := bt_at hexText (y / 16)
        have t2 := bt_at hexText (Go.bits .and .u8 y 15)
        unfold hexText at t1 t2
        have HN1 := Aside0.mk (show w.heap.size + 1 ≤ wr.heap.size by have := HX.out.1; omega)
        have H63 := Aside0.mk (show (hexPart a0 i.toNat).length + 2 ≤ maxLen by rw [hexPart_length]; unfold maxLen; omega)
        have H47 := Aside0.mk (show ((hexPart a0 i.toNat).length + 2) * 1 ≤ 140737488355328 by rw [hexPart_length]; omega)
        go_wp2
        go_region_law (refine step_append_lies _ rfl _ _ 51 rfl (w.heap.size + 1) 5 i0 (.int .u8 0) 1 1 Try.underlying51 HI.out HZ0.out HZ1.out HZ2.out rfl (by decide) _ _ _ rfl (HO.out.alloc _).drew ⟨wr.heap.size, 0, none⟩ 2 2 [.int .u8 (bt ⟨#[48, 49, 50, 51, 52, 53, 54, 55, 56, 57, 97, 98, 99, 100, 101, 102]⟩ (y / 16)), .int .u8 (bt ⟨#[48, 49, 50, 51, 52, 53, 54, 55, 56, 57, 97, 98, 99, 100, 101, 102]⟩ (Go.bits .and .u8 y 15))] rfl rfl (news_two wr _ _ _) (one_two _ _ rfl rfl) (by decide) H63.out H47.out (by have := HN1.out; simp; omega) _ rfl ?_; intro g cap w1 hown' hgrow hat hlt')
        all_goals
          have B1 := Aside0.mk ((below_alloc HB.out (.cells #[.int .u8 (bt ⟨#[48, 49, 50, 51, 52, 53, 54, 55, 56, 57, 97, 98, 99, 100, 101, 102]⟩ (y / 16)), .int .u8 (bt ⟨#[48, 49, 50, 51, 52, 53, 54, 55, 56, 57, 97, 98, 99, 100, 101, 102]⟩ (Go.bits .and .u8 y 15))] 5)).drew.grown hgrow (by have := HB.out.size; simp; omega) (fun k e => by have := own_base HO.out k e; omega))
          have X1 := Aside0.mk (((HX.out.alloc (.cells #[.int .u8 (bt ⟨#[48, 49, 50, 51, 52, 53, 54, 55, 56, 57, 97, 98, 99, 100, 101, 102]⟩ (y / 16)), .int .u8 (bt ⟨#[48, 49, 50, 51, 52, 53, 54, 55, 56, 57, 97, 98, 99, 100, 101, 102]⟩ (Go.bits .and .u8 y 15))] 5)).drew).grown hgrow (fun e => by have := own_base HO.out _ e.symm; omega))
          have O1 := Aside0.mk hown'
          clear hown' hgrow hat hlt' hx hf HX HO HB t1 t2
          go_wp2
          go_roundg (a0.size - (i.toNat + 1))
          case measure => omega
          case rel => exact ⟨i + 1, by go_num, by omega, by omega, by omega, X1, ⟨by rw [HY.out, List.length_append, nums_append]; exact O1.out⟩, B1⟩
      · have c1 : decide (i < (a0.size : Int)) = false := decide_eq_false hlt
        have hcv := own_string (P := Try.prog) (src := 51) (dst := 9) Try.underlying51 Try.underlying5 Try.underlying9 HO.out
        go_wp2
        go_ret
        exact ⟨by rw [← HR.out]; rw [show i.toNat = a0.size by omega]; rfl, HB.out⟩
  · rw [if_neg hs] at h; cases h

end Go.Proofs.Ytahebengjoffeaa.Leaf
