/-
  impl.intsText answers the four bytes of each number; areAll, handed isWord, answers whether all are words. Conditions: at most 4096 numbers.
-/
import Derived.Test.YtihpnededldedaaBld
import Derived.Test.YtihpnededldedaaLeafL
import Derived.Test.YtihpnededldedaaAllI
import Derived.Test.YtihpnededldedaaPlain
namespace Go.Proofs.Ytihpnededldedaa.Leaf
open Go.RowKit Go.Shelf Go.Proofs.YtihpnededldedaaW.PrintWords Go.Proofs.YtihpnededldedaaW.PrintLast Go.Proofs.YtihpnededldedaaW.PrintMore

theorem strOfNums_cat (a b : List Int) : strOfNums (a ++ b) = strOfNums a ++ strOfNums b := by
  apply ByteArray.ext
  simp [strOfNums, ByteArray.data_append]
def littleAll (l : List Int) (n : Nat) : List Int := (List.range n).flatMap fun i : Nat => littleNums (rd l (i : Int)) 4
theorem littleAll_succ (l : List Int) (n : Nat) : littleAll l (n + 1) = littleAll l n ++ littleNums (rd l (n : Int)) 4 := by simp [littleAll, List.range_succ]
theorem littleAll_length (l : List Int) (n : Nat) : (littleAll l n).length = 4 * n := by
  induction n with
  | zero => rfl
  | succ n ih => rw [littleAll_succ, List.length_append, ih, littleNums_length]; omega
def impl_intsText.f (l0 : List Int) : Option ByteArray := if l0.length ≤ 4096 then some (strOfNums (littleAll l0 l0.length)) else none

theorem strCells_append (a b : ByteArray) : Lib.strCells (a ++ b) = Lib.strCells a ++ Lib.strCells b := by simp [Lib.strCells, ByteArray.data_append]
theorem builder_below {T e B b : Nat} {p : Value} {bs : List Value} {w w' : World} (h : Lib.BuilderAtF T e B b p bs w) (hb : Below w.heap.size w w') : Lib.BuilderAtF T e B b p bs w' := by
  have hlt := h.lt
  obtain ⟨hB, v, hv, hown, hne⟩ := h
  exact ⟨hB, v, (hb.block b hlt).trans hv, hown.kept (row := none) ⟨hb.os, hb.tape, hb.output, hb.size, fun k hk _ => hb.block k hk⟩ (by cases hv : v.ownBlock <;> simp), hne⟩
theorem isBuilder_of {T e B b : Nat} {bs : List Value} {w : World} (h : Lib.BuilderAtF T e B b (.pointer (some ⟨b, 0, none⟩)) bs w) : Lib.IsBuilderF T e B b bs w := Or.inr h
theorem isBuilder_below {T e B b : Nat} {bs : List Value} {w w' : World} (h : Lib.IsBuilderF T e B b bs w) (hb : Below w.heap.size w w') : Lib.IsBuilderF T e B b bs w' :=
  h.elim (fun x => .inl (builder_below x hb)) (fun x => .inr (builder_below x hb))

set_option maxHeartbeats 4000000 in
set_option maxRecDepth 100000 in
theorem impl_intsText.calls (A0 : Option Addr) (c0 : Nat) (l0 : List Int) (r : ByteArray) (w : World) (hr0 : Kd.C (Kd.int .i64) w A0 l0.length l0) (_hc0 : l0.length ≤ c0) (h : impl_intsText.f l0 = some r) :
    Calls Try.prog 67 #[.slice A0 l0.length c0] w fun e w' => e = .returned (.string r) ∧ Below w.heap.size w w' := by
  unfold impl_intsText.f at h
  by_cases hl : l0.length ≤ 4096
  · rw [if_pos hl] at h
    have HR := Lib.hid (Option.some.inj h)
    have HL := Aside0.mk hl
    have HR0 := Aside0.mk hr0
    clear h hl hr0
    have HU := Aside0.mk (Lib.IsBuilderF.of (e := 5) (Lib.fresh_isBuilder 100 5 w))
    have HB := Aside0.mk (below_alloc (Below.refl w.heap.size w) (.cells #[.pointer none, .slice none 0 0] 100))
    go_enter Try.func67, Try.ntmps67
    go_wp2
    go_loopg [8] l0.length (fun kq v8 w' => ∃ i : Nat, v8 = .int .i64 (i : Int) ∧ Aside0 (i + kq = l0.length) ∧ Aside0 (Lib.IsBuilderF 100 5 w.heap.size w.heap.size (Lib.strCells (strOfNums (littleAll l0 i))) w') ∧ Aside0 (Below w.heap.size w w'))
    case atStart => exact ⟨0, rfl, ⟨by omega⟩, HU, HB⟩
    case round =>
      clear HU HB
      obtain ⟨i, rfl, HK, HU, HB⟩ := hrel
      by_cases c1 : i < l0.length
      · have d1 : decide ((i : Int) < (l0.length : Int)) = true := decide_eq_true (by omega)
        have d1b : decide (i < l0.length) = true := decide_eq_true c1
        have p1 : 0 ≤ (i : Int) := by omega
        have q1 : (i : Int) < (l0.length : Int) := by omega
        obtain ⟨ad, e1, hx⟩ := Kd.at_int HR0.out (i : Int) p1 q1
        cases e1
        replace hx := (HB.out.cell (World.block_lt_of_cell? w _ hx)).trans hx
        rw [Int.toNat_natCast] at hx
        have AL := Lib.hid (show impl_little.f (rd l0 (i : Int)) 4 = some (strOfNums (littleNums (rd l0 (i : Int)) 4)) from if_pos ⟨by decide, by decide⟩)
        have NX := Lib.hid (show Lib.strCells (strOfNums (littleAll l0 i)) ++ Lib.strCells (strOfNums (littleNums (rd l0 (i : Int)) 4)) = Lib.strCells (strOfNums (littleAll l0 (i + 1))) by rw [littleAll_succ, ← strCells_append, strOfNums_cat])
        have NW := Lib.hid (show wrap64 ((i : Int) + 1) = ((i + 1 : Nat) : Int) by rw [wrap_ok ((i : Int) + 1) (by omega) (by have := HL.out; omega)]; omega)
        have LM := Aside0.mk (show (Lib.strCells (strOfNums (littleAll l0 i))).length + (strOfNums (littleNums (rd l0 (i : Int)) 4)).size ≤ 140737488355328 by rw [Lib.strCells_length, strOfNums_size, strOfNums_size, littleAll_length, littleNums_length]; have := HL.out; omega)
        obtain ⟨k1, hk1⟩ : ∃ k1, gk = k1 + 1 := ⟨gk - 1, by have := HK.out; omega⟩
        have HK1 := Aside0.mk (show i + 1 + k1 = l0.length by have := HK.out; omega)
        have HG := Aside0.mk (show k1 < gk by omega)
        clear hk1 HK c1
        generalize strOfNums (littleNums (rd l0 (i : Int)) 4) = z at AL NX LM
        generalize rd l0 (i : Int) = y at AL hx
        replace p1 := eq_true p1
        replace q1 := eq_true q1
        go_wp2_with (first
          | (go_at_call 78; with_reducible refine (impl_little.calls y 4 z _ AL.out).mono ?_; rintro e w8 ⟨rfl, hb⟩; have n0_ := Aside0.mk (isBuilder_below HU.out hb); have n1_ := Aside0.mk (below_step HB.out hb); clear HU HB; have HU := n0_; have HB := n1_; clear n0_ n1_ hb)
          | (go_at_call 103; with_reducible refine (Try.Builder_WriteString_f w.heap.size w.heap.size _ z _ HU.out LM.out (below_size HB.out)).mono ?_; rintro e w9 ⟨rfl, hu, hb⟩; rw [NX.out] at hu; have n0_ := Aside0.mk (show Lib.IsBuilderF 100 5 w.heap.size w.heap.size (Lib.strCells (strOfNums (littleAll l0 (i + 1)))) w9 from isBuilder_of hu); have n1_ := Aside0.mk (HB.out.trans hb); clear HU HB; have HU := n0_; have HB := n1_; clear n0_ n1_ hb hu))
        go_roundg k1
        case measure => exact HG.out
        case rel => exact ⟨i + 1, by rw [NW.out], HK1, HU, HB⟩
      · have d1 : decide ((i : Int) < (l0.length : Int)) = false := decide_eq_false (by omega)
        have d1b : decide (i < l0.length) = false := decide_eq_false c1
        have hi : i = l0.length := by have := HK.out; omega
        have HS := Lib.hid (show (⟨(strOfNums (littleAll l0 i)).data.toList.toArray⟩ : ByteArray) = r by rw [← HR.out, hi])
        have HU2 := Aside0.mk (show Lib.IsBuilderF 100 5 w.heap.size w.heap.size (Lib.byteCells (strOfNums (littleAll l0 i)).data.toList) wr from HU.out)
        clear HK c1 hi HU
        go_wp2_with (go_at_call 104; with_reducible refine (Try.Builder_String_any_f w.heap.size w.heap.size (strOfNums (littleAll l0 i)).data.toList _ HU2.out (below_size HB.out)).mono ?_; rintro e w9 ⟨rfl, hu, hb⟩; rw [HS.out]; have n1_ := Aside0.mk (HB.out.trans hb); clear HU2 HB; have HB := n1_; clear n1_ hb hu)
        go_ret
        exact ⟨rfl, HB.out⟩
  · rw [if_neg hl] at h; cases h

theorem within_callsI (a b c : Int) (w : World) : Calls Try.prog 73 #[.int .i64 a, .int .i64 b, .int .i64 c] w fun e w' => e = .returned (.bool (decide (b ≤ a) && decide (a ≤ c))) ∧ w = w' := by
  obtain ⟨r, hr⟩ : ∃ r, (decide (b ≤ a) && decide (a ≤ c)) = r := ⟨_, rfl⟩
  rw [hr]
  have HR := Lib.hid hr
  clear hr
  go_enter Try.func73, Try.ntmps73
  go_wp2
  all_goals
    go_ret
    refine ⟨ret_bool ?_, rfl⟩
    rw [← HR.out, Bool.eq_iff_iff]
    simp <;> omega
def inWord (a : Int) : Bool := decide (0 ≤ a) && decide (a ≤ 4294967295)
theorem isWord_predI (w : World) : PredB 42 #[] (Value.int .i64) inWord w := by
  intro W x _
  have C := fun W => within_callsI x 0 4294967295 W
  obtain ⟨r, hr⟩ : ∃ r, inWord x = r := ⟨_, rfl⟩
  have C' : ∀ W, Calls Try.prog 73 #[.int .i64 x, .int .i64 0, .int .i64 4294967295] W fun e w' => e = .returned (.bool r) ∧ W = w' := fun W => hr ▸ C W
  rw [hr]
  clear C hr
  show Calls Try.prog 42 #[.int .i64 x] W _
  go_enter Try.func42, Try.ntmps42
  go_wp2_with (go_at_call 73; with_reducible refine (C' _).mono ?_; rintro e w1 ⟨rfl, rfl⟩)
  go_ret
  exact ⟨rfl, Below.refl _ _⟩
def areAll_isWord.f (l0 : List Int) : Option Bool := some (l0.all inWord)
theorem areAll_isWord.calls (A0 : Option Addr) (c0 : Nat) (l0 : List Int) (r : Bool) (w : World) (hr0 : Kd.C (Kd.int .i64) w A0 l0.length l0) (_hc0 : l0.length ≤ c0) (h : areAll_isWord.f l0 = some r) :
    Calls Try.prog 41 #[.slice A0 l0.length c0, .func (.func 42) #[] #[]] w fun e w' => e = .returned (.bool r) ∧ Below w.heap.size w w' := by
  obtain rfl := Option.some.inj h
  exact areAllI 42 #[] inWord (enters_of Try.func42 (by kernel_rfl) rfl) A0 c0 l0 w hr0 (isWord_predI w)

end Go.Proofs.Ytihpnededldedaa.Leaf
