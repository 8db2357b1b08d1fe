/- A row of bytes that a call owns; what append makes of it. Conditions: sizes. -/
import Derived.Test.YtajbljegeiebjaaArr
import Derived.OwnWalk
import Derived.Deep.AppendLies
import Derived.Laws.OwnMore
namespace Go.Proofs.Ytajbljegeiebjaa.Leaf
open Go.RowKit Go.Shelf Go.Proofs.YtajbljegeiebjaaW.PrintWords Go.Proofs.YtajbljegeiebjaaW.PrintLast Go.Proofs.YtajbljegeiebjaaW.PrintMore

/-- The slice v holds the bytes xs in a row of the call's own. -/
def OB (w : World) (B : Nat) (v : Value) (xs : List Int) : Prop := w.ownsRow B 5 1 v xs.length (nums .u8 xs)
theorem OB.nil (w : World) (B : Nat) : OB w B (.slice none 0 0) [] := own_nil w B _ _
theorem OB.alloc {w : World} {B : Nat} {v : Value} {xs : List Int} (h : OB w B v xs) (o : Obj) : OB (w.alloc o) B v xs := World.ownsRow.alloc h o
theorem OB.drew {w : World} {B : Nat} {v : Value} {xs : List Int} (h : OB w B v xs) : OB w.drew B v xs := World.ownsRow.drew h
theorem OB.lit (w : World) (B : Nat) (xs : List Int) (hB : B ≤ w.heap.size) (hm : xs.length ≤ 1000000) : OB (w.alloc (.cells (ints .u8 xs) 5)) B (.slice (some ⟨w.heap.size, 0, none⟩) xs.length xs.length) xs := by
  have h := World.ownsRow_lit (e := 5) (size := 1) w (ints .u8 xs) xs.length hB (by unfold maxLen; omega) (by rw [ints_size, Nat.mul_one])
  have e : (ints .u8 xs).toList = nums .u8 xs := by simp [ints]
  rw [e] at h
  exact h
theorem OB.below {w w' : World} {B : Nat} {v : Value} {xs : List Int} (h : OB w B v xs) (hb : Below w.heap.size w w') : OB w' B v xs :=
  World.ownsRow.kept h (row := none) ⟨hb.os, hb.tape, hb.output, hb.size, fun k hk _ => hb.block k hk⟩ (by
    cases hv : v.ownBlock with
    | none => exact .inl rfl
    | some k => exact .inr (by simp))
theorem OB.string {w : World} {B : Nat} {v : Value} {xs : List Int} (h : OB w B v xs) : (convert 81 9 v).run Try.prog w = .ok (.string (strOfNums xs)) w :=
  own_string Try.underlying81 Try.underlying5 Try.underlying9 h
theorem OB.slice {w : World} {B : Nat} {v : Value} {xs : List Int} (h : OB w B v xs) (hx : 0 < xs.length) : ∃ g cap, v = .slice (some ⟨g, 0, none⟩) xs.length cap := by
  rcases h.2 with ⟨_, h'⟩ | ⟨g, cap, cur, rfl, _⟩
  · omega
  · exact ⟨g, cap, rfl⟩

theorem wpList_append_bytes {ops : Array Oper} {rest : List Oper} {o : Oper} {a : Act} {w : World} {Q : Exit → Act → World → Prop} (hgd : o.guard = none) (s x : Operand)
    (ho : o.op = .call { callee := .builtin .append, args := #[s, x], argTypes := #[81, 81] }) (w0 : World) (B : Nat) (v : Value) (xs : List Int) (hs : a.eval s = v) (hown : OB w B v xs) (hL : Below B w0 w) (hB : B ≤ w.heap.size)
    (gn : Nat) (ys : List Int) (hx : a.eval x = .slice (some ⟨gn, 0, none⟩) ys.length ys.length) (hn : w.heap[gn]? = some (.cells (ints .u8 ys) 5)) (hy : 0 < ys.length) (hlen : xs.length + ys.length ≤ 1000000)
    (h : ∀ v' w', OB w' B v' (xs ++ ys) → Below B w0 w' → wpList Try.prog ops Q rest (a.put o.dst v') w') : wpList Try.prog ops Q (o :: rest) a w := by
  have hinfo : (Try.prog.info? 5).map (fun i => (i.zero, i.size, i.bytes)) = some (some (.int .u8 0), 1, 1) := by kernel_rfl
  obtain ⟨i0, hi, hz0, hz1, hz2⟩ := info_parts hinfo
  have e : (ints .u8 ys).toList = nums .u8 ys := by simp [ints]
  refine wpList_append_lies w hgd s x 81 ho B 5 i0 (.int .u8 0) 1 1 Try.underlying81 hi hz0 hz1 hz2 rfl (by decide) v xs.length (nums .u8 xs) hs hown ⟨gn, 0, none⟩ ys.length ys.length (nums .u8 ys) hx (by simp [nums]) ?_ ?_ hy (by unfold maxLen; omega) (by omega) hB _ rfl ?_
  · have := World.news_of_block hn
    rw [e] at this
    exact this
  · intro u hu
    simp only [nums, List.mem_map] at hu
    obtain ⟨y, _, rfl⟩ := hu
    rfl
  · intro g cap w' h2 h3 _ _
    have hb := hL.grown h3 hB (fun k e => own_base hown k e)
    refine h _ w' ?_ hb
    unfold OB
    rw [List.length_append, nums_append]
    exact h2

end Go.Proofs.Ytajbljegeiebjaa.Leaf
