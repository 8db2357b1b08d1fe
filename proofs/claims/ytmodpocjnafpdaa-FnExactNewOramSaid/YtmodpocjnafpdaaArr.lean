import Derived.Test.YtmodpocjnafpdaaBase
import Derived.Test.YtmodpocjnafpdaaBits
import Derived.Handy
import Derived.Laws.CopyOwn
import Derived.Deep.WholeRow
/-! Blocks that hold an array or a struct; arrays of numbers as cells; words turned. -/
namespace Go.Proofs.Ytmodpocjnafpdaa.Leaf
open Go.RowKit Go.Proofs.YtmodpocjnafpdaaW.PrintWords Go.Proofs.YtmodpocjnafpdaaW.PrintMore

/-- Block g holds these cells, none of them frozen. -/
def Blk (w : World) (g : Nat) (t : TypeId) (cs : Array Value) : Prop := w.heap[g]? = some (.cells cs t)

theorem Blk.lt {w : World} {g : Nat} {t : TypeId} {cs : Array Value} (h : Blk w g t cs) : g < w.heap.size := blk_lt h
theorem Blk.at {w : World} {g : Nat} {t : TypeId} {cs : Array Value} (h : Blk w g t cs) (i : Nat) (v : Value) (hc : cs[i]? = some v) : w.cell? ⟨g, i, none⟩ = some v ∧ w.frozen? ⟨g, i, none⟩ = false := by
  unfold Blk at h
  refine ⟨by simp [World.cell?, h, hc], ?_⟩
  simp [World.frozen?, h]
theorem Blk.move {w w1 : World} {g : Nat} {t : TypeId} {cs : Array Value} (h : Blk w g t cs) (hb : w1.heap[g]? = w.heap[g]?) : Blk w1 g t cs := hb.trans h
theorem Blk.below {w w1 : World} {g : Nat} {t : TypeId} {cs : Array Value} (h : Blk w g t cs) (hb : Below w.heap.size w w1) : Blk w1 g t cs := h.move (hb.block g h.lt)
theorem Blk.alloc {w : World} {g : Nat} {t : TypeId} {cs : Array Value} (h : Blk w g t cs) (o : Obj) : Blk (w.alloc o) g t cs := h.below (below_alloc (Below.refl _ _) o)
theorem Blk.new (w : World) (t : TypeId) (cs : Array Value) : Blk (w.alloc (.cells cs t)) w.heap.size t cs := heap_alloc_new w _
theorem Blk.set {w : World} {g : Nat} {t : TypeId} {cs : Array Value} (h : Blk w g t cs) (i : Nat) (v : Value) : Blk (w.setCell ⟨g, i, none⟩ v) g t (cs.setIfInBounds i v) := by
  unfold Blk at h ⊢
  rw [setCell_eq_setRow w g i cs t (0, 0) v h]
  exact setRow_heap w g cs _ t (0, 0) h
theorem Blk.other {w : World} {g : Nat} {t : TypeId} {cs : Array Value} (h : Blk w g t cs) (p : Addr) (hp : g ≠ p.block) (v : Value) : Blk (w.setCell p v) g t cs := h.move (Below.heap_setCell w p v g hp)
theorem Blk.row {w : World} {g : Nat} {t : TypeId} {old : Array Value} (h : Blk w g t old) (cs : Array Value) : Blk (w.setRow g cs) g t cs := setRow_heap w g old cs t (0, 0) h
theorem Blk.rowOther {w : World} {g : Nat} {t : TypeId} {cs : Array Value} (h : Blk w g t cs) (k : Nat) (hk : g ≠ k) (ds : Array Value) : Blk (w.setRow k ds) g t cs := h.move (setRow_other w k g ds hk)

/-- Numbers as cells. -/
def ints (k : IntKind) (xs : List Int) : Array Value := (nums k xs).toArray
theorem ints_size (k : IntKind) (xs : List Int) : (ints k xs).size = xs.length := by simp [ints, nums]
theorem ints_get (k : IntKind) (xs : List Int) (i : Nat) (h : i < xs.length) : (ints k xs)[i]? = some (.int k (rd xs (i : Int))) := by
  simp [ints, nums, rd, List.getD_eq_getElem?_getD, h]
theorem ints_set (k : IntKind) (xs : List Int) (i : Nat) (v : Int) : (ints k xs).setIfInBounds i (.int k v) = ints k (xs.set i v) := by
  apply Array.ext'
  simp [ints, nums]
theorem ints_one (k : IntKind) (xs : List Int) : (ints k xs).all (·.oneCell') = true := by
  rw [Array.all_eq_true_iff_forall_mem]
  intro v hv
  simp only [ints, nums, List.mem_toArray, List.mem_map] at hv
  obtain ⟨x, _, rfl⟩ := hv
  rfl

/-- A word turned to the left. -/
def rotl (x n : Nat) : Nat := (x * 2 ^ n ||| x / 2 ^ (32 - n)) % 2 ^ 32
theorem rotl_lt (x n : Nat) : rotl x n < 2 ^ 32 := Nat.mod_lt _ (by decide)

theorem rotl_i64 (x n : Nat) (hx : x < 2 ^ 32) (hn : n ≤ 30) : Go.bits .and .i64 (Go.bits .or .i64 ((x * 2 ^ n : Nat) : Int) ((x / 2 ^ (32 - n) : Nat) : Int)) 4294967295 = ((rotl x n : Nat) : Int) := by
  have h1 : x * 2 ^ n < 2 ^ 63 := by
    have : 2 ^ n ≤ 2 ^ 30 := Nat.pow_le_pow_right (by decide) hn
    calc x * 2 ^ n ≤ x * 2 ^ 30 := Nat.mul_le_mul_left _ this
      _ < 2 ^ 63 := by omega
  have h2 : x / 2 ^ (32 - n) < 2 ^ 63 := Nat.lt_of_le_of_lt (Nat.div_le_self _ _) (by omega)
  rw [or_i64' _ _ h1 h2]
  have h3 := and_i64 (x * 2 ^ n ||| x / 2 ^ (32 - n)) 4294967295 (Nat.or_lt_two_pow h1 h2) (by decide)
  refine h3.trans ?_
  rw [show (4294967295 : Nat) = 2 ^ 32 - 1 from rfl, Nat.and_two_pow_sub_one_eq_mod]
  rfl

theorem rotl_u32 (x n : Nat) (hx : x < 2 ^ 32) : Go.bits .or .u32 (((x * 2 ^ n) % 2 ^ 32 : Nat) : Int) ((x / 2 ^ (32 - n) : Nat) : Int) = ((rotl x n : Nat) : Int) := by
  have h2 : x / 2 ^ (32 - n) < 2 ^ 32 := Nat.lt_of_le_of_lt (Nat.div_le_self _ _) hx
  rw [or_u32 _ _ (Nat.mod_lt _ (by decide)) h2]
  unfold rotl
  rw [Nat.or_mod_two_pow, Nat.mod_eq_of_lt h2]

theorem mask_i64 (x : Nat) (hx : x < 2 ^ 63) : Go.bits .and .i64 (x : Int) 4294967295 = ((x % 2 ^ 32 : Nat) : Int) := by
  refine (and_i64 x 4294967295 hx (by decide)).trans ?_
  rw [show (4294967295 : Nat) = 2 ^ 32 - 1 from rfl, Nat.and_two_pow_sub_one_eq_mod]

theorem shl_nat (k : IntKind) (x n : Nat) (hn : n ≤ k.bits) : shl k (x : Int) (n : Int) = k.wrap ((x * 2 ^ n : Nat) : Int) := by
  unfold shl
  rw [Int.toNat_natCast, Nat.min_eq_left hn]; push_cast; rfl
theorem shr_nat (k : IntKind) (x n : Nat) (hn : n ≤ k.bits) : shr k (x : Int) (n : Int) = ((x / 2 ^ n : Nat) : Int) := by
  unfold shr
  rw [Int.toNat_natCast, Nat.min_eq_left hn]; push_cast; rfl

/-- The end of a call whose result is an array or a struct that lies in block g. -/
theorem ret_row {P : Program} {fn : Func} {R : Ending → World → Prop} {a : Act} {w : World} {p : Tmp} {ty : TypeId} (h : fn.results = #[.cell p ty]) (g : Nat) (t : TypeId) (cs : Array Value) (d : TypeDesc)
    (hp : a.tmps.getD p undef = .pointer (some ⟨g, 0, none⟩)) (hg : Blk w g t cs)
    (hu : P.underlying ty = some d) (hd : (match d with | .struct _ | .array _ _ => true | _ => false) = true) (hi : (P.info? ty).map (·.size) = some cs.size)
    (hf : a.defers = []) (hR : R (.returned (.agg cs)) w) : bodyPost P fn R .ret a w := by
  refine bodyPost_ret (v := .agg cs) ?_ hf hR
  have hp' : a.tmps[p]?.getD undef = .pointer (some ⟨g, 0, none⟩) := by simpa using hp
  simp [results, h, hp', asAddr, run_loadVar_row w g t ty cs (0, 0) d hg hu hd hi]
theorem ret_row2 {P : Program} {fn : Func} {R : Ending → World → Prop} {a : Act} {w : World} {p u : Tmp} {ty : TypeId} (h : fn.results = #[.cell p ty, .tmp u]) (g : Nat) (t : TypeId) (cs : Array Value) (d : TypeDesc) (v : Value)
    (hp : a.tmps.getD p undef = .pointer (some ⟨g, 0, none⟩)) (hg : Blk w g t cs)
    (hu : P.underlying ty = some d) (hd : (match d with | .struct _ | .array _ _ => true | _ => false) = true) (hi : (P.info? ty).map (·.size) = some cs.size)
    (hf : a.defers = []) (hv : a.tmps.getD u undef = v) (hR : R (.returned (.tuple #[.agg cs, v])) w) : bodyPost P fn R .ret a w := by
  refine bodyPost_ret (v := .tuple #[.agg cs, v]) ?_ hf hR
  rw [← hv]
  exact results_ct h a.tmps w g t cs (0, 0) d hp hg hu hd hi

theorem Blk.drewN {w : World} {g : Nat} {t : TypeId} {cs : Array Value} (h : Blk w g t cs) (n : Nat) : Blk (w.drewN n) g t cs := h
theorem Blk.drew {w : World} {g : Nat} {t : TypeId} {cs : Array Value} (h : Blk w g t cs) : Blk w.drew g t cs := h
@[simp] theorem size_drewN' (w : World) (n : Nat) : (w.drewN n).heap.size = w.heap.size := rfl
theorem Blk.eq {w : World} {g : Nat} {t : TypeId} {cs ds : Array Value} (h : Blk w g t cs) (e : cs = ds) : Blk w g t ds := e ▸ h

theorem Below_drewN {B : Nat} {a w : World} (h : Below B a w) (n : Nat) : Below B a (w.drewN n) := h.trans ⟨rfl, rfl, rfl, Nat.le_refl _, fun _ _ => rfl⟩
/-- Words (natural numbers) as cells. -/
def wds (k : IntKind) (v : List Nat) : Array Value := (v.map fun (n : Nat) => Value.int k (n : Int)).toArray
theorem wds_size (k : IntKind) (v : List Nat) : (wds k v).size = v.length := by simp [wds]
theorem wds_get (k : IntKind) (v : List Nat) (i : Nat) (h : i < v.length) : (wds k v)[i]? = some (.int k ((v.getD i 0 : Nat) : Int)) := by
  simp [wds, List.getD_eq_getElem?_getD, h]
theorem wds_set (k : IntKind) (v : List Nat) (i : Nat) (n : Nat) : (wds k v).setIfInBounds i (.int k (n : Int)) = wds k (v.set i n) := by
  apply Array.ext'
  simp [wds]
theorem wds_one (k : IntKind) (v : List Nat) : (wds k v).all (·.oneCell') = true := by
  rw [Array.all_eq_true_iff_forall_mem]
  intro u hu
  simp only [wds, List.mem_toArray, List.mem_map] at hu
  obtain ⟨x, _, rfl⟩ := hu
  rfl
theorem Blk.wat {w : World} {g : Nat} {t : TypeId} {k : IntKind} {v : List Nat} (h : Blk w g t (wds k v)) (i : Nat) (hi : i < v.length) : w.cell? ⟨g, i, none⟩ = some (.int k ((v.getD i 0 : Nat) : Int)) ∧ w.frozen? ⟨g, i, none⟩ = false :=
  h.at i _ (wds_get k v i hi)
theorem Blk.wset {w : World} {g : Nat} {t : TypeId} {k : IntKind} {v : List Nat} (h : Blk w g t (wds k v)) (i : Nat) (n : Nat) : Blk (w.setCell ⟨g, i, none⟩ (.int k (n : Int))) g t (wds k (v.set i n)) :=
  (h.set i _).eq (wds_set k v i n)

theorem setRow_drewN (w : World) (n g : Nat) (cs : Array Value) : (w.drewN n).setRow g cs = (w.setRow g cs).drewN n := rfl
theorem setCell_drewN (w : World) (n : Nat) (p : Addr) (v : Value) : (w.drewN n).setCell p v = (w.setCell p v).drewN n := rfl
/-- Stores into the block that was laid last. -/
theorem alloc_setCell (w : World) (t : TypeId) (c : Array Value) (i : Nat) (v : Value) : (w.alloc (.cells c t)).setCell ⟨w.heap.size, i, none⟩ v = w.alloc (.cells (c.setIfInBounds i v) t) := by
  rw [setCell_eq_setRow (w.alloc (.cells c t)) w.heap.size i c t (0, 0) v (heap_alloc_new w _), World.setRow_alloc_new]

theorem Blk.cells4 {w : World} {g : Nat} {t : TypeId} {k : IntKind} {v : List Nat} (h : Blk w g t (wds k v)) {a b c d va vb vc vd : Nat} (h4 : Hid ((a < v.length ∧ v.getD a 0 = va) ∧ (b < v.length ∧ v.getD b 0 = vb) ∧ (c < v.length ∧ v.getD c 0 = vc) ∧ (d < v.length ∧ v.getD d 0 = vd))) :
    w.cell? ⟨g, a, none⟩ = some (.int k va) ∧ w.cell? ⟨g, b, none⟩ = some (.int k vb) ∧ w.cell? ⟨g, c, none⟩ = some (.int k vc) ∧ w.cell? ⟨g, d, none⟩ = some (.int k vd) := by
  obtain ⟨⟨l1, h1⟩, ⟨l2, h2⟩, ⟨l3, h3⟩, l4, h4⟩ := h4.out
  exact ⟨by rw [← h1]; exact (h.wat a l1).1, by rw [← h2]; exact (h.wat b l2).1, by rw [← h3]; exact (h.wat c l3).1, by rw [← h4]; exact (h.wat d l4).1⟩

theorem Blk.new' (w : World) (t : TypeId) (cs : Array Value) (g : Nat) (hg : g = w.heap.size) : Blk (w.alloc (.cells cs t)) g t cs := hg ▸ Blk.new w t cs
/-- What holds of the world at hand is all that is kept of it. -/
theorem with_world {Q : Exit → Act → World → Prop} {e : Exit} {a : Act} {W : World} (S : World → Prop) (hS : S W) (h : ∀ W', S W' → Q e a W') : Q e a W := h W hS

/-- A whole block read, and written: in the spelling that the walk leaves. -/
theorem Blk.load {P : Program} {w : World} {g : Nat} {t : TypeId} {cs : Array Value} (h : Blk w g t cs) (n : Nat) (hn : cs.size = n) : (loadCellsFrom ⟨g, 0, none⟩ 0 n #[]).run P w = .ok cs w := by
  subst hn
  have := run_loadCells_list (P := P) w ⟨g, 0, none⟩ cs.toList (fun j v hv => by
    rw [add_plain, cell_of_row w g j cs t (0, 0) h]
    simpa using hv)
  simpa [loadCells] using this
theorem Blk.store {P : Program} {w : World} {g : Nat} {t : TypeId} {old : Array Value} (h : Blk w g t old) (cs : Array Value) (hs : old.size = cs.size) (h1 : cs.all (·.oneCell') = true) : (storeCells ⟨g, 0, none⟩ cs.toList).run P w = .ok () (w.setRow g cs) :=
  run_storeCells_from (P := P) g t cs.toList 0 old w h (by simp; omega) (fun v hv => (Array.all_eq_true_iff_forall_mem.1 h1) v (by simpa using hv))


end Go.Proofs.Ytmodpocjnafpdaa.Leaf
