/-
  The program's ReadAt answers: not a device: "" and 1; not a sector: "" and 4; else the newest write there, or the sector's text. Conditions: none.
-/
import Derived.Test.YtkmecmcioniooaaBack
import Derived.Test.YtkmecmcioniooaaPDevx1
namespace Go.Proofs.Ytkmecmcioniooaa.Leaf
open Go.RowKit Go.Shelf Go.Proofs.YtkmecmcioniooaaW.PrintWords Go.Proofs.Ytkmecmcioniooaa.PDev
attribute [local go_sem] Oper.semAt_some

set_option maxHeartbeats 1000000 in
theorem backward_in (F : Fence) (n : Nat) (hf : F.fn 48) (hro : F.round = none) (a : Option Addr) (len cap : Nat) (w : World) :
    CallsIn F n Try.prog 48 #[.slice a len cap] w fun e w' => e = .returned (.func (.func 65) #[] #[.pointer (some ⟨w.heap.size, 0, none⟩)]) ∧ w' = w.alloc (.cells #[.slice a len cap] 23) := by
  refine callsIn_of_wp Try.func48 rfl hf ?_ hro
  simp only [Try.ntmps48, List.size_toArray, List.length_cons, List.length_nil, Nat.reduceAdd, Nat.reduceSub, Array.replicate_succ, Array.replicate_zero, List.push_toArray, List.append_toArray, List.nil_append, List.cons_append]
  gi_wp2
  go_ret
  exact ⟨rfl, rfl⟩

theorem T55_below {w : World} {A : Option Addr} {u : List S55} (h : Kd.C k55 w A u.length u) (i : Nat) (hi : i < u.length) : ∃ ad, A = some ad ∧ (ad.add (i * 2)).block < w.heap.size ∧ w.cell? (ad.add (i * 2)) = some (.int .i64 (u.getD i z55).f0) ∧ w.cell? ⟨(ad.add (i * 2)).block, (ad.add (i * 2)).off + 1, none⟩ = some (.string (u.getD i z55).f1) := by
  obtain ⟨ad, e, h0, h1⟩ := at_T55 h (i : Int) (by omega) (by omega)
  rw [Int.toNat_natCast] at h0 h1
  refine ⟨ad, e, ?_, h0, h1⟩
  obtain ⟨o, ho, _⟩ := cells_of_cell h0
  exact (Array.getElem?_eq_some_iff.1 ho).1

theorem back_stops (F : Fence) (n : Nat) (hf : F.fn 65) (hro : F.round = none) (hn : 1 ≤ n) (Bs cap : Nat) (A : Option Addr) (u : List S55) (hu : u.length ≤ 9223372036854775807) (w : World) (hBs : w.cell? ⟨Bs, 0, none⟩ = some (.slice A u.length cap)) (hC : Kd.C k55 w A u.length u) :
    SeqStopsK F n Try.prog 65 #[.pointer (some ⟨Bs, 0, none⟩)] encBack (Below w.heap.size) (fun ys => ys = uptoK (backAt u) u.length)
      (fun pre => ∃ k, k ≤ u.length ∧ pre = uptoK (backAt u) k) u.length w := fun l J Jx W hW _ _ hY h0 => by
  have hlt : Bs < w.heap.size := by
    obtain ⟨o, ho, _⟩ := cells_of_cell hBs
    exact (Array.getElem?_eq_some_iff.1 ho).1
  refine back1_in F n hf hro hn l Bs w.heap.size cap A u hu J Jx hY W hlt ((hW.cell (p := ⟨Bs, 0, none⟩) hlt).trans hBs) ?_ h0
  intro i hi
  obtain ⟨ad, e, hb, h1, h2⟩ := T55_below hC i hi
  exact ⟨ad, e, hb, (hW.cell (p := ad.add (i * 2)) hb).trans h1, (hW.cell (p := ⟨(ad.add (i * 2)).block, (ad.add (i * 2)).off + 1, none⟩) hb).trans h2⟩

/-- The newest write there, or the sector's text. -/
def readOf (s : List ByteArray) (u : List S55) (a : Int) : ByteArray :=
  match u.reverse.find? (fun x => x.f0 == a) with
  | some x => x.f1
  | none => rdOf ByteArray.empty s a

theorem upto_snd (u : List S55) (k : Nat) (hk : k ≤ u.length) : (uptoK (backAt u) k).map (·.2) = u.reverse.take k := by
  apply List.ext_getElem
  · simp [uptoK]; omega
  · intro i h1 h2
    have hi : i < u.length := by simp [uptoK] at h1; omega
    have hi2 : u.length - 1 - i < u.length := by omega
    simp [uptoK, backAt, List.getElem_reverse, hi2]

theorem find_hit {α : Type} (p : α → Bool) (l ini : List α) (x : α) (k : Nat) (h : l.take k = ini ++ [x]) (h0 : ∀ y ∈ ini, p y = false) (hx : p x = true) : l.find? p = some x := by
  rw [← List.take_append_drop k l, h, List.append_assoc, List.find?_append]
  have : ini.find? p = none := by rw [List.find?_eq_none]; intro y hy; rw [h0 y hy]; decide
  rw [this]; simp [hx]

theorem read_hit (s : List ByteArray) (u : List S55) (a : Int) (k : Nat) (hk : k ≤ u.length) (ini : List (Nat × S55)) (x : Nat × S55) (h : uptoK (backAt u) k = ini ++ [x]) (h0 : ∀ y ∈ ini, y.2.f0 ≠ a) (hx : x.2.f0 = a) : readOf s u a = x.2.f1 := by
  have h1 := upto_snd u k hk
  rw [h, List.map_append, List.map_singleton] at h1
  have h2 := find_hit (fun y : S55 => y.f0 == a) u.reverse (ini.map (·.2)) x.2 k h1.symm (by
    intro y hy
    obtain ⟨z, hz, rfl⟩ := List.mem_map.1 hy
    simpa using h0 z hz) (by simpa using hx)
  unfold readOf; rw [h2]

theorem read_miss (s : List ByteArray) (u : List S55) (a : Int) (h0 : ∀ y ∈ uptoK (backAt u) u.length, y.2.f0 ≠ a) : readOf s u a = rdOf ByteArray.empty s a := by
  have h1 := upto_snd u u.length (Nat.le_refl _)
  have : u.reverse.find? (fun y : S55 => y.f0 == a) = none := by
    rw [List.find?_eq_none]
    intro y hy
    rw [show u.reverse = u.reverse.take u.length by rw [List.take_of_length_le (by simp)], ← h1] at hy
    obtain ⟨z, hz, rfl⟩ := List.mem_map.1 hy
    simpa using h0 z hz
  unfold readOf; rw [this]

/-- The four boxes of ReadAt. -/
structure Four (A0 : Option Addr) (c0 : Nat) (s : List ByteArray) (A1 : Option Addr) (c1 : Nat) (u : List S55) (a : Int) (w W : World) : Prop where
  d : W.heap[w.heap.size]? = some (.cells #[.slice A0 s.length c0, .slice A1 u.length c1] 25 (0, 0))
  at_ : Boxed W (w.heap.size + 1) 3 (.int .i64 a)
  b4 : Boxed W (w.heap.size + 1 + 1) 9 (.string ⟨#[]⟩)
  b5 : Boxed W (w.heap.size + 1 + 1 + 1) 3 (.int .i64 0)
  hs : Kd.C Kd.string W A0 s.length s
  hu : Kd.C k55 W A1 u.length u
  hB : Below w.heap.size w W

theorem Four.below {A0 : Option Addr} {c0 : Nat} {s : List ByteArray} {A1 : Option Addr} {c1 : Nat} {u : List S55} {a : Int} {w W W' : World} (h : Four A0 c0 s A1 c1 u a w W) (hb : Below W.heap.size W W') : Four A0 c0 s A1 c1 u a w W' where
  d := (hb.block _ (Array.getElem?_eq_some_iff.1 h.d).1).trans h.d
  at_ := (hb.block _ h.at_.lt).trans h.at_
  b4 := (hb.block _ h.b4.lt).trans h.b4
  b5 := (hb.block _ h.b5.lt).trans h.b5
  hs := Kd.C_below h.hs hb
  hu := Kd.C_below h.hu hb
  hB := h.hB.trans (hb.mono h.hB.size)

theorem Four.c0 {A0 : Option Addr} {c0 : Nat} {s : List ByteArray} {A1 : Option Addr} {c1 : Nat} {u : List S55} {a : Int} {w W : World} (h : Four A0 c0 s A1 c1 u a w W) : W.cell? ⟨w.heap.size, 0, none⟩ = some (.slice A0 s.length c0) := by simp [World.cell?, h.d]
theorem Four.c1 {A0 : Option Addr} {c0 : Nat} {s : List ByteArray} {A1 : Option Addr} {c1 : Nat} {u : List S55} {a : Int} {w W : World} (h : Four A0 c0 s A1 c1 u a w W) : W.cell? ⟨w.heap.size, 1, none⟩ = some (.slice A1 u.length c1) := by simp [World.cell?, h.d]

theorem four_new (A0 : Option Addr) (c0 : Nat) (s : List ByteArray) (A1 : Option Addr) (c1 : Nat) (u : List S55) (a : Int) (w : World) (hs : Kd.C Kd.string w A0 s.length s) (hu : Kd.C k55 w A1 u.length u) :
    Four A0 c0 s A1 c1 u a w ((((w.alloc (.cells #[.slice A0 s.length c0, .slice A1 u.length c1] 25)).alloc (.cells #[.int .i64 a] 3)).alloc (.cells #[.string ⟨#[]⟩] 9)).alloc (.cells #[.int .i64 0] 3)) := by
  have b0 : Below w.heap.size w ((((w.alloc (.cells #[.slice A0 s.length c0, .slice A1 u.length c1] 25)).alloc (.cells #[.int .i64 a] 3)).alloc (.cells #[.string ⟨#[]⟩] 9)).alloc (.cells #[.int .i64 0] 3)) := below_alloc (below_alloc (below_alloc (below_alloc (Below.refl _ _) _) _) _) _
  have e1 : (w.alloc (.cells #[.slice A0 s.length c0, .slice A1 u.length c1] 25)).heap.size = w.heap.size + 1 := World.size_alloc _ _
  have e2 : ((w.alloc (.cells #[.slice A0 s.length c0, .slice A1 u.length c1] 25)).alloc (.cells #[.int .i64 a] 3)).heap.size = w.heap.size + 1 + 1 := by rw [World.size_alloc, e1]
  have e3 : (((w.alloc (.cells #[.slice A0 s.length c0, .slice A1 u.length c1] 25)).alloc (.cells #[.int .i64 a] 3)).alloc (.cells #[.string ⟨#[]⟩] 9)).heap.size = w.heap.size + 1 + 1 + 1 := by rw [World.size_alloc, e2]
  have q1 := Boxed.new (w.alloc (.cells #[.slice A0 s.length c0, .slice A1 u.length c1] 25)) 3 (.int .i64 a)
  have q2 := Boxed.new ((w.alloc (.cells #[.slice A0 s.length c0, .slice A1 u.length c1] 25)).alloc (.cells #[.int .i64 a] 3)) 9 (.string ⟨#[]⟩)
  have q3 := Boxed.new (((w.alloc (.cells #[.slice A0 s.length c0, .slice A1 u.length c1] 25)).alloc (.cells #[.int .i64 a] 3)).alloc (.cells #[.string ⟨#[]⟩] 9)) 3 (.int .i64 0)
  rw [e1] at q1
  rw [e2] at q2
  rw [e3] at q3
  have q0 : (w.alloc (.cells #[.slice A0 s.length c0, .slice A1 u.length c1] 25)).heap[w.heap.size]? = some (.cells #[.slice A0 s.length c0, .slice A1 u.length c1] 25) := World.alloc_heap_new w _
  have bb : Below (w.alloc (.cells #[.slice A0 s.length c0, .slice A1 u.length c1] 25)).heap.size (w.alloc (.cells #[.slice A0 s.length c0, .slice A1 u.length c1] 25)) ((((w.alloc (.cells #[.slice A0 s.length c0, .slice A1 u.length c1] 25)).alloc (.cells #[.int .i64 a] 3)).alloc (.cells #[.string ⟨#[]⟩] 9)).alloc (.cells #[.int .i64 0] 3)) := below_alloc (below_alloc (below_alloc (Below.refl _ _) _) _) _
  exact ⟨(bb.block _ (by rw [e1]; exact Nat.lt_succ_self _)).trans q0, (q1.alloc _).alloc _, q2.alloc _, q3, Kd.C_below hs b0, Kd.C_below hu b0, b0⟩

theorem cells_own {β : Type} (B : Nat) (t : TypeId) (cs : β → Array Value) : Own (fun s W => W.heap[B]? = some (.cells (cs s) t (0, 0))) := fun _ _ _ _ hs hg hrow =>
  (hg.block B (Array.getElem?_eq_some_iff.1 hs).1 (fun e' => by obtain ⟨o, ho, hc⟩ := hrow B e'.symm; rw [hs] at ho; cases ho; cases hc)).trans hs

def RdI (a : Int) (W3 : World) (pre : List (Nat × S55)) (W : World) : Prop := (∀ y ∈ pre, y.2.f0 ≠ a) ∧ Below W3.heap.size W3 W
def RdX (a : Int) (w : World) (c : Code) (pre : List (Nat × S55)) (W : World) : Prop := (c = .ret ∧ ∃ ini x, pre = ini ++ [x] ∧ (∀ y ∈ ini, y.2.f0 ≠ a) ∧ x.2.f0 = a ∧ Boxed W (w.heap.size + 1 + 1) 9 (.string x.2.f1) ∧ Boxed W (w.heap.size + 1 + 1 + 1) 3 (.int .i64 0)) ∧ Below w.heap.size w W
theorem RdI_own (a : Int) (W3 : World) : OwnFrom W3.heap.size (RdI a W3) := OwnFrom.and (ownFrom_pure _ _) (ownFrom_below (Nat.le_refl _) (Nat.le_refl _))
theorem RdX_own (a : Int) (w W3 : World) (h : w.heap.size ≤ W3.heap.size) (c : Code) : OwnFrom W3.heap.size (RdX a w c) :=
  OwnFrom.and (Own.from (fun s' A' B' row hs hg hr => by obtain ⟨e0, ini, x, e1, e2, e3, e4, e5⟩ := hs; exact ⟨e0, ini, x, e1, e2, e3, boxed_own _ _ (fun (_ : Unit) => Value.string x.2.f1) () A' B' row e4 hg hr, boxed_own _ _ (fun (_ : Unit) => Value.int .i64 0) () A' B' row e5 hg hr⟩) _) (ownFrom_below (Nat.le_refl _) h)

set_option maxRecDepth 100000 in
set_option maxHeartbeats 4000000 in
theorem readAt_calls (A0 : Option Addr) (c0 : Nat) (s : List ByteArray) (A1 : Option Addr) (c1 : Nat) (u : List S55) (a : Int) (w : World)
    (hs : Kd.C Kd.string w A0 s.length s) (hcs : s.length ≤ c0) (hu : Kd.C k55 w A1 u.length u) (hcu : u.length ≤ c1) (hM : u.length ≤ 9223372036854775807) (hd : impl_DeviceOK.f s u = some true) (hi : impl_isSector.f a = some true) (ha0 : 0 ≤ a) (ha1 : a < (s.length : Int)) :
    Calls Try.prog 21 #[.agg #[.slice A0 s.length c0, .slice A1 u.length c1], .int .i64 a] w fun e w' => e = .returned (.tuple #[.string (readOf s u a), .int .i64 0]) ∧ Below w.heap.size w w' := by
  have h4 := Aside0.mk (four_new A0 c0 s A1 c1 u a w hs hu)
  refine (callsIn_wide (n := 6)).1 ?_
  refine callsIn_of_wp_marks Try.func21 rfl trivial ?_ rfl
  simp only [Try.ntmps21, List.size_toArray, List.length_cons, List.length_nil, Nat.reduceAdd, Nat.reduceSub, Array.replicate_succ, Array.replicate_zero, List.push_toArray, List.append_toArray, List.nil_append, List.cons_append]
  gi_wp2
  refine ⟨trivial, ?_⟩
  generalize ((((w.alloc (.cells #[.slice A0 s.length c0, .slice A1 u.length c1] 25)).alloc (.cells #[.int .i64 a] 3)).alloc (.cells #[.string ⟨#[]⟩] 9)).alloc (.cells #[.int .i64 0] 3)) = W0 at h4 ⊢
  refine (callsIn_wide.2 (impl_DeviceOK.calls A0 c0 s A1 c1 u true W0 h4.out.hs hcs h4.out.hu hcu hd)).mono ?_
  rintro e W1 ⟨rfl, hb⟩
  have h41 := Aside0.mk (h4.out.below hb)
  clear h4 hb W0
  have cA := h41.out.at_.cell
  have cD := h41.out.c1
  gi_wp2
  refine ⟨trivial, ?_⟩
  refine (callsIn_wide.2 (impl_isSector.calls a true W1 hi)).mono ?_
  rintro e W2 ⟨rfl, hb⟩
  have h42 := Aside0.mk (h41.out.below hb.below)
  clear h41 hb cA cD W1
  have cD := h42.out.c1
  gi_wp2_with (refine ⟨trivial, ?_⟩; gi_at_call 48; refine (backward_in Fence.wide 5 trivial rfl _ _ _ _).mono ?_; rintro e w' ⟨rfl, rfl⟩)
  have h43 := Aside0.mk (h42.out.below ((Below.refl _ W2).alloc (Nat.le_refl _) (.cells #[.slice A1 u.length c1] 23)))
  have cB := (Boxed.new W2 23 (.slice A1 u.length c1)).cell
  have hBlt : W2.heap.size < (W2.alloc (.cells #[.slice A1 u.length c1] 23)).heap.size := by rw [World.size_alloc]; exact Nat.lt_succ_self _
  clear h42 cD
  generalize W2.alloc (.cells #[.slice A1 u.length c1] 23) = W3 at h43 cB hBlt ⊢
  generalize W2.heap.size = B at cB hBlt ⊢
  clear W2
  have hB4 : w.heap.size + 1 + 1 < W3.heap.size := h43.out.b4.lt
  have hB5 : w.heap.size + 1 + 1 + 1 < W3.heap.size := h43.out.b5.lt
  refine wpIn_rangeFunc_ownH rfl (by decide) (gf := 65) (lb := #[.pointer (some ⟨B, 0, none⟩)]) rfl trivial (enters_of Try.func65 (by kernel_rfl) rfl)
    (back_stops Fence.wide (6 - 1) trivial rfl (by decide) B c1 A1 u hM W3 cB h43.out.hu) belowK_t (belowK_b (Nat.le_refl _)) (Below.refl _ _) (fun _ => rfl)
    (RdI a W3) (RdX a w) (RdI_own a W3) (RdX_own a w W3 (by omega)) ⟨by simp, Below.refl _ _⟩
    (fun x a' W => ∃ Bx, W3.heap.size ≤ Bx ∧ W.heap[Bx]? = some (.cells #[.int .i64 x.2.f0, .string x.2.f1] 55 (0, 0)) ∧ a' = { tmps := #[.agg #[.slice A0 s.length c0, .slice A1 u.length c1], .int .i64 a, .pointer (some ⟨w.heap.size, 0, none⟩), .pointer (some ⟨w.heap.size + 1, 0, none⟩), .pointer (some ⟨w.heap.size + 1 + 1, 0, none⟩), .pointer (some ⟨w.heap.size + 1 + 1 + 1, 0, none⟩), undef, .pointer (some ⟨Bx, 0, none⟩), .bool false, .agg #[.slice A0 s.length c0, .slice A1 u.length c1], .bool true, .bool false, .bool false, .int .i64 a, .bool true, .bool false, .pointer (some ⟨w.heap.size, 1, none⟩), .slice A1 u.length c1, .func (.func 65) #[] #[.pointer (some ⟨B, 0, none⟩)], .int .i64 (x.1 : Int), .agg #[.int .i64 x.2.f0, .string x.2.f1], undef, undef, undef, undef, undef, undef, undef, undef, undef, undef, undef], defers := [] })
    (fun x a' _ X Y row hs hg hr => by obtain ⟨Bx, h1, h2, h3⟩ := hs; exact ⟨Bx, h1, cells_own Bx _ (fun (_ : Unit) => #[.int .i64 x.2.f0, .string x.2.f1]) () X Y row h2 hg (fun r e => (hr r e).2), h3⟩)
    ?assign ?body ?done ?stop
  case assign =>
    rintro l pre ⟨xi, x0, x1⟩ W K ⟨hp, hB⟩ hK
    have hsz := hB.size
    unfold encBack
    gi_wp2
    exact hK _ _ ((KeepsOthers.alloc _ _).from _) ((Below.refl _ W).alloc hsz _) ⟨hp, hB.alloc hsz _⟩ ⟨W.heap.size, hsz, World.alloc_heap_new W _, rfl⟩
  case body =>
    rintro l pre ⟨xi, x0, x1⟩ a' W hl hrec ⟨hp, hB⟩ ⟨Bx, hBx, hX, rfl⟩ hlt
    have h44 := Aside0.mk (h43.out.below hB)
    have cx0 : W.cell? ⟨Bx, 0, none⟩ = some (.int .i64 x0) := by simp [World.cell?, hX]
    have cx1 : W.cell? ⟨Bx, 1, none⟩ = some (.string x1) := by simp [World.cell?, hX]
    have cA := h44.out.at_.cell
    have c4 := h44.out.b4.cell
    have f4 := h44.out.b4.frozen
    have c5 := h44.out.b5.cell
    have f5 := h44.out.b5.frozen
    gi_wp2
    · have hx : x0 = a := by first | assumption | simp_all
      exact ⟨((KeepsOthers.setCell _ _ _).trans (KeepsOthers.setCell _ _ _)).from _, ⟨rfl, pre, _, rfl, hp, hx, (h44.out.b4.set _).other (by omega) _, (h44.out.b5.other (by omega) _).set _⟩,
        (h44.out.hB.setCell (p := ⟨w.heap.size + 1 + 1, 0, none⟩) (by simp; omega) _).setCell (p := ⟨w.heap.size + 1 + 1 + 1, 0, none⟩) (by simp; omega) _⟩
    · have hx : x0 ≠ a := by first | assumption | simp_all
      refine ⟨KeepsFrom.refl _ _, Below.refl _ _, fun y hy => ?_, hB⟩
      rcases List.mem_append.1 hy with h | h
      · exact hp y h
      · obtain rfl := List.mem_singleton.1 h; exact hx
  case done =>
    rintro D ys W hD rfl ⟨hp, hB⟩ hK
    have h44 := Aside0.mk (h43.out.below hB)
    have cD := h44.out.c0
    have cA := h44.out.at_.cell
    have c4 := h44.out.b4.cell
    have f4 := h44.out.b4.frozen
    have c5 := h44.out.b5.cell
    have f5 := h44.out.b5.frozen
    obtain ⟨ad, e, hx⟩ := Kd.at_string h44.out.hs a ha0 ha1
    subst e
    gi_wp2
    have hm := read_miss s u a hp
    have hK' := ((KeepsOthers.setCell W ⟨w.heap.size + 1 + 1, 0, none⟩ (.string (rdOf ByteArray.empty s a))).trans (KeepsOthers.setCell _ ⟨w.heap.size + 1 + 1 + 1, 0, none⟩ (.int .i64 0))).same D _ hK rfl
    refine ⟨by simp, .inl ⟨_, _, rfl, run_takeDeferred hK', ?_⟩⟩
    have q4 := cell_kept ((h44.out.b4.set (.string (rdOf ByteArray.empty s a))).other (show w.heap.size + 1 + 1 ≠ w.heap.size + 1 + 1 + 1 by omega) (.int .i64 0)).cell (grownBy_putObj' _ D (.deferred none)) (fun r e => by cases e; exact ⟨_, hK', rfl⟩)
    have q5 := cell_kept ((h44.out.b5.other (show w.heap.size + 1 + 1 + 1 ≠ w.heap.size + 1 + 1 by omega) (.string (rdOf ByteArray.empty s a))).set (.int .i64 0)).cell (grownBy_putObj' _ D (.deferred none)) (fun r e => by cases e; exact ⟨_, hK', rfl⟩)
    refine ⟨.tuple #[.string (rdOf ByteArray.empty s a), .int .i64 0], ?_, by rw [hm], ((h44.out.hB.setCell (p := ⟨w.heap.size + 1 + 1, 0, none⟩) (by simp; omega) _).setCell (p := ⟨w.heap.size + 1 + 1 + 1, 0, none⟩) (by simp; omega) _).trans (belowK_b (w := w) (Nat.le_refl _) _ D _ _ (by omega) hK' rfl rfl)⟩
    simp [results, Try.f21, go_sem, q4, q5]
  case stop =>
    rintro D c pre W hD ⟨k, hk, rfl⟩ ⟨⟨rfl, ini, x, e1, e2, e3, b4, b5⟩, hB⟩ hK
    gi_wp2
    have hm := read_hit s u a k hk ini x e1 e2 e3
    refine ⟨by simp, .inl ⟨_, _, rfl, run_takeDeferred hK, ?_⟩⟩
    have q4 := cell_kept b4.cell (grownBy_putObj' _ D (.deferred none)) (fun r e => by cases e; exact ⟨_, hK, rfl⟩)
    have q5 := cell_kept b5.cell (grownBy_putObj' _ D (.deferred none)) (fun r e => by cases e; exact ⟨_, hK, rfl⟩)
    refine ⟨.tuple #[.string x.2.f1, .int .i64 0], ?_, by rw [hm], hB.trans (belowK_b (w := w) (Nat.le_refl _) W D _ _ (by omega) hK rfl rfl)⟩
    simp [results, Try.f21, go_sem, q4, q5]

set_option maxRecDepth 100000 in
set_option maxHeartbeats 4000000 in
theorem readAt_bad (A0 : Option Addr) (c0 : Nat) (s : List ByteArray) (A1 : Option Addr) (c1 : Nat) (u : List S55) (a : Int) (w : World)
    (hs : Kd.C Kd.string w A0 s.length s) (hcs : s.length ≤ c0) (hu : Kd.C k55 w A1 u.length u) (hcu : u.length ≤ c1) (hd : impl_DeviceOK.f s u = some false) :
    Calls Try.prog 21 #[.agg #[.slice A0 s.length c0, .slice A1 u.length c1], .int .i64 a] w fun e w' => e = .returned (.tuple #[.string ⟨#[]⟩, .int .i64 1]) ∧ Below w.heap.size w w' := by
  have h4 := Aside0.mk (four_new A0 c0 s A1 c1 u a w hs hu)
  refine (callsIn_wide (n := 6)).1 ?_
  refine callsIn_of_wp_marks Try.func21 rfl trivial ?_ rfl
  simp only [Try.ntmps21, List.size_toArray, List.length_cons, List.length_nil, Nat.reduceAdd, Nat.reduceSub, Array.replicate_succ, Array.replicate_zero, List.push_toArray, List.append_toArray, List.nil_append, List.cons_append]
  gi_wp2
  refine ⟨trivial, ?_⟩
  generalize ((((w.alloc (.cells #[.slice A0 s.length c0, .slice A1 u.length c1] 25)).alloc (.cells #[.int .i64 a] 3)).alloc (.cells #[.string ⟨#[]⟩] 9)).alloc (.cells #[.int .i64 0] 3)) = W0 at h4 ⊢
  refine (callsIn_wide.2 (impl_DeviceOK.calls A0 c0 s A1 c1 u false W0 h4.out.hs hcs h4.out.hu hcu hd)).mono ?_
  rintro e W1 ⟨rfl, hb⟩
  have h41 := Aside0.mk (h4.out.below hb)
  clear h4 hb W0
  have b4 := h41.out.b4
  have b5 := h41.out.b5
  have hB := h41.out.hB
  have c4 := b4.cell
  have f4 := b4.frozen
  have c5 := b5.cell
  have f5 := b5.frozen
  gi_wp2
  have q4 := ((b4.set (.string ⟨#[]⟩)).other (show w.heap.size + 1 + 1 ≠ w.heap.size + 1 + 1 + 1 by omega) (.int .i64 1)).cell
  have q5 := ((b5.other (show w.heap.size + 1 + 1 + 1 ≠ w.heap.size + 1 + 1 by omega) (.string ⟨#[]⟩)).set (.int .i64 1)).cell
  refine ⟨.tuple #[.string ⟨#[]⟩, .int .i64 1], by simp [results, Try.f21, go_sem, q4, q5], rfl, (hB.setCell (p := ⟨w.heap.size + 1 + 1, 0, none⟩) (by simp; omega) _).setCell (p := ⟨w.heap.size + 1 + 1 + 1, 0, none⟩) (by simp; omega) _⟩

set_option maxRecDepth 100000 in
set_option maxHeartbeats 4000000 in
theorem readAt_out (A0 : Option Addr) (c0 : Nat) (s : List ByteArray) (A1 : Option Addr) (c1 : Nat) (u : List S55) (a : Int) (w : World)
    (hs : Kd.C Kd.string w A0 s.length s) (hcs : s.length ≤ c0) (hu : Kd.C k55 w A1 u.length u) (hcu : u.length ≤ c1) (hd : impl_DeviceOK.f s u = some true) (hi : impl_isSector.f a = some false) :
    Calls Try.prog 21 #[.agg #[.slice A0 s.length c0, .slice A1 u.length c1], .int .i64 a] w fun e w' => e = .returned (.tuple #[.string ⟨#[]⟩, .int .i64 4]) ∧ Below w.heap.size w w' := by
  have h4 := Aside0.mk (four_new A0 c0 s A1 c1 u a w hs hu)
  refine (callsIn_wide (n := 6)).1 ?_
  refine callsIn_of_wp_marks Try.func21 rfl trivial ?_ rfl
  simp only [Try.ntmps21, List.size_toArray, List.length_cons, List.length_nil, Nat.reduceAdd, Nat.reduceSub, Array.replicate_succ, Array.replicate_zero, List.push_toArray, List.append_toArray, List.nil_append, List.cons_append]
  gi_wp2
  refine ⟨trivial, ?_⟩
  generalize ((((w.alloc (.cells #[.slice A0 s.length c0, .slice A1 u.length c1] 25)).alloc (.cells #[.int .i64 a] 3)).alloc (.cells #[.string ⟨#[]⟩] 9)).alloc (.cells #[.int .i64 0] 3)) = W0 at h4 ⊢
  refine (callsIn_wide.2 (impl_DeviceOK.calls A0 c0 s A1 c1 u true W0 h4.out.hs hcs h4.out.hu hcu hd)).mono ?_
  rintro e W1 ⟨rfl, hb⟩
  have h41 := Aside0.mk (h4.out.below hb)
  clear h4 hb W0
  have cA := h41.out.at_.cell
  gi_wp2
  refine ⟨trivial, ?_⟩
  refine (callsIn_wide.2 (impl_isSector.calls a false W1 hi)).mono ?_
  rintro e W2 ⟨rfl, hb⟩
  have h42 := Aside0.mk (h41.out.below hb.below)
  clear h41 hb cA W1
  have b4 := h42.out.b4
  have b5 := h42.out.b5
  have hB := h42.out.hB
  have c4 := b4.cell
  have f4 := b4.frozen
  have c5 := b5.cell
  have f5 := b5.frozen
  gi_wp2
  have q4 := ((b4.set (.string ⟨#[]⟩)).other (show w.heap.size + 1 + 1 ≠ w.heap.size + 1 + 1 + 1 by omega) (.int .i64 4)).cell
  have q5 := ((b5.other (show w.heap.size + 1 + 1 + 1 ≠ w.heap.size + 1 + 1 by omega) (.string ⟨#[]⟩)).set (.int .i64 4)).cell
  refine ⟨.tuple #[.string ⟨#[]⟩, .int .i64 4], by simp [results, Try.f21, go_sem, q4, q5], rfl, (hB.setCell (p := ⟨w.heap.size + 1 + 1, 0, none⟩) (by simp; omega) _).setCell (p := ⟨w.heap.size + 1 + 1 + 1, 0, none⟩) (by simp; omega) _⟩

end Go.Proofs.Ytkmecmcioniooaa.Leaf
