/-
  The program's WhereIs and ValueAt: what they answer, in plain words. Conditions: a stash that memory bears.
-/
import Derived.Test.YtmodpocjnafpdaaOokW
import Derived.Test.YtmodpocjnafpdaaPOrax15
namespace Go.Proofs.Ytmodpocjnafpdaa.Leaf
open Go.RowKit Go.Shelf Go.Proofs.YtmodpocjnafpdaaW.PrintWords Go.Proofs.YtmodpocjnafpdaaW.PrintLast Go.Proofs.YtmodpocjnafpdaaW.PrintMore Go.Proofs.Ytmodpocjnafpdaa.POra

def isIdB (id : Int) : Bool := decide (0 ≤ id) && decide (id ≤ 11)
def codeI (p : List Int) (st : List S61) (bu : List (List S61)) (id : Int) : Int := if okI p st bu = true then (if isIdB id = true then 0 else 4) else 1
def hasId (id : Int) (b : S61) : Bool := b.f0 == id
theorem isId_eq (id : Int) : impl_isId.f id = some (isIdB id) := by
  unfold impl_isId.f impl_within.f isIdB
  by_cases h : 0 ≤ id
  · rw [if_pos h, decide_eq_true h]; rfl
  · rw [if_neg h, decide_eq_false h]; rfl

set_option maxRecDepth 100000 in
set_option maxHeartbeats 4000000 in
theorem idCode_c (x : Six) (p : List Int) (st : List S61) (bu : List (List S61)) (id : Int) (w : World) (h0 : Orm w x p st bu) (hs0 : st.length ≤ 1048576) :
    Calls Try.prog 65 #[.agg #[.slice x.A0 p.length x.c0, .slice x.A1 st.length x.c1, .slice x.A2 bu.length x.c2], .int .i64 id] w fun e w' => e = .returned (.int .i64 (codeI p st bu id)) ∧ Below w.heap.size w w' := by
  have h := Aside0.mk h0
  have HS := Aside0.mk hs0
  clear h0 hs0
  have hI : ∀ W, Calls Try.prog 82 #[.int .i64 id] W fun e w' => e = .returned (.bool (isIdB id)) ∧ Drawn0 W w' := fun W => impl_isId.calls id _ W (isId_eq id)
  have hO : ∀ W, Orm W x p st bu → Calls Try.prog 28 #[.agg #[.slice x.A0 p.length x.c0, .slice x.A1 st.length x.c1, .slice x.A2 bu.length x.c2]] W fun e w' => e = .returned (.bool (okI p st bu)) ∧ Below W.heap.size W w' := fun W hW => ok_c x p st bu W hW HS.out
  unfold codeI
  generalize okI p st bu = q at hO ⊢
  generalize isIdB id = i at hI ⊢
  go_enter Try.func65, Try.ntmps65
  go_upto_region 1 with (first
    | ((with_reducible refine gate_dst (N := 2) rfl ?_); refine box_event ?hg (N := 2) ?hd (cs := #[.slice x.A0 p.length x.c0, .slice x.A1 st.length x.c1, .slice x.A2 bu.length x.c2]) (t := 40) ?hr ?_; (case hd => rfl); (case hg => rfl); (case hr => first | (go_simp; done) | (go_simp; rfl)); intro g0 hg0 w1 hbox0 hb; have S1 := Aside0.mk (OkS.mk (h.out.below hb) (show Box3 w1 g0 40 x p.length st.length bu.length from hbox0) hb); clear hb h hbox0 hg0))
  obtain ⟨a0, a1, a2⟩ := S1.out.X.cells
  have hO1 := hO _ S1.out.H
  cases q with
  | false =>
    go_wp2_with (first
      | (go_at_call 28; (with_reducible refine hO1.mono ?_); rintro e w2 ⟨rfl, hb⟩; have S2 := Aside0.mk (S1.out.below hb); clear hb S1))
    go_ret
    exact ⟨rfl, S2.out.bel⟩
  | true =>
    cases i with
    | false =>
      go_wp2_with (first
        | (go_at_call 28; (with_reducible refine hO1.mono ?_); rintro e w2 ⟨rfl, hb⟩; have S2 := Aside0.mk (S1.out.below hb); clear hb S1)
        | (go_at_call 82; (with_reducible refine (hI _).mono ?_); rintro e w3 ⟨rfl, hb⟩; have S3 := Aside0.mk (S2.out.below hb.below); clear hb S2))
      go_ret
      exact ⟨rfl, S3.out.bel⟩
    | true =>
      go_wp2_with (first
        | (go_at_call 28; (with_reducible refine hO1.mono ?_); rintro e w2 ⟨rfl, hb⟩; have S2 := Aside0.mk (S1.out.below hb); clear hb S1)
        | (go_at_call 82; (with_reducible refine (hI _).mono ?_); rintro e w3 ⟨rfl, hb⟩; have S3 := Aside0.mk (S2.out.below hb.below); clear hb S2))
      go_ret
      exact ⟨rfl, S3.out.bel⟩

set_option maxHeartbeats 4000000 in
theorem isIt_pred (g : Nat) (id : Int) (w : World) (hc : w.cell? ⟨g, 0, none⟩ = some (.int .i64 id)) : PredB 66 #[.pointer (some ⟨g, 0, none⟩)] encBlk (hasId id) w := by
  intro W x hb
  have hlt : g < w.heap.size := World.block_lt_of_cell? w _ hc
  have hW : W.cell? ⟨g, 0, none⟩ = some (.int .i64 id) := (hb.cell (p := ⟨g, 0, none⟩) hlt).trans hc
  have hltW : g < W.heap.size := World.block_lt_of_cell? W _ hW
  clear hb hc hlt
  obtain ⟨x0, x1, x2⟩ := x
  show Calls Try.prog 66 #[.agg #[.int .i64 x0, .int .i64 x1, .int .i64 x2], .pointer (some ⟨g, 0, none⟩)] W _
  have hW2 : ∀ o, (W.alloc o).cell? ⟨g, 0, none⟩ = some (.int .i64 id) := fun o => ((below_alloc (Below.refl _ W) o).cell (p := ⟨g, 0, none⟩) hltW).trans hW
  have hB2 : ∀ o, Below W.heap.size W (W.alloc o) := fun o => below_alloc (Below.refl _ W) o
  unfold hasId
  dsimp only
  go_enter Try.func66, Try.ntmps66
  go_wp2
  go_ret
  exact ⟨by first | rfl | simp, hB2 _⟩
theorem enters_is : ∀ args w, (callFunc 66 args).run Try.prog w = .ok (.enter 66 args) w := enters_of Try.func66 (by kernel_rfl) rfl
theorem enters_row : ∀ args w, (callFunc 69 args).run Try.prog w = .ok (.enter 69 args) w := enters_of Try.func69 (by kernel_rfl) rfl

set_option maxHeartbeats 4000000 in
theorem rowHas (gt g : Nat) (id : Int) (A : Option Addr) (c : Nat) (row : List S61) (W : World) (hC : Kd.C k61 W A row.length row) (hg : W.cell? ⟨g, 0, none⟩ = some (.int .i64 id)) (ht : W.cell? ⟨gt, 0, none⟩ = some (.func (.func 66) #[] #[.pointer (some ⟨g, 0, none⟩)])) :
    Calls Try.prog 69 #[.slice A row.length c, .pointer (some ⟨gt, 0, none⟩)] W fun e w' => e = .returned (.bool (row.any (hasId id))) ∧ Below W.heap.size W w' := by
  have hcall := containsFuncK 66 #[.pointer (some ⟨g, 0, none⟩)] (hasId id) enters_is A c row W hC (isIt_pred g id W hg)
  clear hC hg
  go_enter Try.func69, Try.ntmps69
  go_wp2_with (go_at_call 67; (with_reducible refine hcall.mono ?_); rintro e w2 ⟨rfl, hb⟩; have HB2 := Aside0.mk hb; clear hb)
  go_ret
  exact ⟨rfl, HB2.out⟩

/-- The first row from one on that a predicate holds of, or -1. -/
def firstR (q : List S61 → Bool) : Nat → List (List S61) → Int
  | _, [] => -1
  | i, r :: rs => if q r = true then (i : Int) else firstR q (i + 1) rs

set_option maxHeartbeats 4000000 in
theorem indexRows (g : Nat) (lb : Array Value) (q : List S61 → Bool) (eg : ∀ args w, (callFunc g args).run Try.prog w = .ok (.enter g args) w) (A : Option Addr) (c : Nat) (l : List (List S61)) (w : World)
    (hr : Kd.C (Kd.slice 61 k61) w A l.length l) (hp : ∀ (W : World) (A : Option Addr) (c : Nat) (row : List S61), Below w.heap.size w W → Kd.C k61 W A row.length row → Calls Try.prog g (#[.slice A row.length c] ++ lb) W fun e w' => e = .returned (.bool (q row)) ∧ Below W.heap.size W w') :
    Calls Try.prog 68 #[.slice A l.length c, .func (.func g) #[] lb] w fun e w' => e = .returned (.int .i64 (firstR q 0 l)) ∧ Below w.heap.size w w' := by
  have HR := Aside0.mk hr
  have HP := Aside0.mk hp
  have HM := Kd.C_max hr
  obtain ⟨v, hv⟩ : ∃ v, firstR q 0 l = v := ⟨_, rfl⟩
  rw [hv]
  have HV := Lib.hid hv
  clear hr hp hv
  go_enter Try.func68, Try.ntmps68
  go_wp2
  go_loopg [5, 8] l.length (fun gg _ s8 wr => ∃ i : Nat, s8 = .int .i64 (i : Int) ∧ i ≤ l.length ∧ Aside0 (l.length ≤ gg + i) ∧ Aside0 (Below w.heap.size w wr) ∧ Aside0 (firstR q i (l.drop i) = v))
  case atStart => exact ⟨0, rfl, by omega, ⟨by omega⟩, ⟨Below.refl _ _⟩, ⟨HV.out⟩⟩
  case round =>
    obtain ⟨i, rfl, h1, hg, HB, HA⟩ := hrel
    by_cases hlt : i < l.length
    · have c1 : decide (i < l.length) = true := decide_eq_true hlt
      obtain ⟨ad, A0, c0, e, hx, _, hC⟩ := at_L4 (Kd.C_below HR.out HB.out) (i : Int) (by omega) (by omega)
      subst e
      rw [rows_at l i hlt] at hx hC
      rw [Int.toNat_natCast] at hx
      have hA := HA.out
      rw [List.drop_eq_getElem_cons hlt] at hA
      obtain ⟨row, hrow⟩ : ∃ row, l[i] = row := ⟨_, rfl⟩
      rw [hrow] at hx hC hA
      rw [firstR] at hA
      have hcall := HP.out wr A0 c0 row HB.out hC
      clear hC hrow HA
      cases hq : q row with
      | true =>
        rw [hq] at hcall hA
        rw [if_pos rfl] at hA
        have HA2 := Lib.hid hA
        clear hA
        go_wp2_with (go_at_fn g; refine hcall.mono ?_; rintro e w' ⟨rfl, hb'⟩)
        go_ret
        exact ⟨by rw [HA2.out]; rfl, HB.out.trans (hb'.mono HB.out.size)⟩
      | false =>
        rw [hq] at hcall hA
        rw [if_neg (by decide)] at hA
        have HA2 := Lib.hid hA
        clear hA
        go_wp2_with (go_at_fn g; refine hcall.mono ?_; rintro e w' ⟨rfl, hb'⟩)
        go_roundg (l.length - (i + 1))
        case measure => have := hg.out; omega
        case rel => exact ⟨i + 1, by first | rfl | (rw [wrap_ok _ (by omega) (by omega)]; rfl), by omega, ⟨by omega⟩, ⟨HB.out.trans (hb'.mono HB.out.size)⟩, ⟨HA2.out⟩⟩
    · obtain rfl : i = l.length := by omega
      have hA := HA.out
      rw [List.drop_length, firstR] at hA
      have HA2 := Lib.hid hA
      clear hA HA
      go_wp2
      go_ret
      exact ⟨by rw [HA2.out]; rfl, HB.out⟩

end Go.Proofs.Ytmodpocjnafpdaa.Leaf
