/-
  impl.tree of sixteen texts answers the digests of all five levels. Conditions: no text is longer than 65536 bytes.
-/
import Derived.Test.YtajbljegeiebjaaPFnExactCheckProofx2
import Derived.Test.YtajbljegeiebjaaWApart
namespace Go.Proofs.Ytajbljegeiebjaa.Leaf
open Go.RowKit Go.Shelf Go.Proofs.YtajbljegeiebjaaW.PrintWords Go.Proofs.YtajbljegeiebjaaW.PrintLast Go.Proofs.YtajbljegeiebjaaW.PrintMore Go.Proofs.Ytajbljegeiebjaa.PFnExactCheckProof

set_option linter.unusedSimpArgs false
set_option linter.unusedVariables false
def leafN (i : Nat) (t : ByteArray) : ByteArray := shaOf (strOfNums [0, (i : Int) % 256] ++ t)
def joinN (a b : ByteArray) : ByteArray := shaOf (((⟨#[1]⟩ : ByteArray) ++ a) ++ b)
def leavesL (l : List ByteArray) (n : Nat) : List ByteArray := (List.range n).map fun i => leafN i (rdOf ByteArray.empty l (i : Int))
def nextL (L : List ByteArray) (n : Nat) : List ByteArray := (List.range n).map fun q : Nat => joinN (rdOf ByteArray.empty L (2 * (q : Int))) (rdOf ByteArray.empty L (2 * (q : Int) + 1))
def lvl (l : List ByteArray) : Nat → List ByteArray
  | 0 => leavesL l 16
  | n + 1 => nextL (lvl l n) ((lvl l n).length / 2)
def treeL (l : List ByteArray) (n : Nat) : List (List ByteArray) := (List.range (n + 1)).map (lvl l)
theorem joinN_size (a b : ByteArray) : (joinN a b).size = 32 := shaOf_size _
theorem leafN_size (i : Nat) (t : ByteArray) : (leafN i t).size = 32 := shaOf_size _
theorem leavesL_succ (l : List ByteArray) (n : Nat) : leavesL l n ++ [leafN n (rdOf ByteArray.empty l (n : Int))] = leavesL l (n + 1) := by simp [leavesL, List.range_succ]
theorem nextL_succ (l : List ByteArray) (n : Nat) : nextL l n ++ [joinN (rdOf ByteArray.empty l (2 * (n : Int))) (rdOf ByteArray.empty l (2 * (n : Int) + 1))] = nextL l (n + 1) := by simp [nextL, List.range_succ]
theorem treeL_succ (l : List ByteArray) (n : Nat) : treeL l n ++ [lvl l (n + 1)] = treeL l (n + 1) := by simp [treeL, List.range_succ]
theorem leavesL_length (l : List ByteArray) (n : Nat) : (leavesL l n).length = n := by simp [leavesL]
theorem nextL_length (l : List ByteArray) (n : Nat) : (nextL l n).length = n := by simp [nextL]
theorem treeL_length (l : List ByteArray) (n : Nat) : (treeL l n).length = n + 1 := by simp [treeL]
theorem lvl_length (l : List ByteArray) (n : Nat) : (lvl l n).length = 16 / 2 ^ n := by
  induction n with
  | zero => simp [lvl, leavesL_length]
  | succ n ih => rw [lvl, nextL_length, ih, Nat.div_div_eq_div_mul, Nat.pow_succ]
theorem lvl_half (l : List ByteArray) (n : Nat) (h : n < 4) : ∃ m, (lvl l n).length = 2 * m ∧ 1 ≤ m ∧ m ≤ 8 ∧ lvl l (n + 1) = nextL (lvl l n) m := by
  have e := lvl_length l n
  refine ⟨(lvl l n).length / 2, ?_, ?_, ?_, rfl⟩ <;> rw [e] <;> rcases (show n = 0 ∨ n = 1 ∨ n = 2 ∨ n = 3 by omega) with rfl | rfl | rfl | rfl <;> decide
theorem lvl_last (l : List ByteArray) : (lvl l 4).length = 1 := lvl_length l 4
theorem lvl_sizes (l : List ByteArray) (n : Nat) : ∀ x ∈ lvl l n, x.size = 32 := by
  intro x hx
  cases n with
  | zero =>
    simp only [lvl, leavesL, List.mem_map] at hx
    obtain ⟨i, _, rfl⟩ := hx
    exact leafN_size _ _
  | succ n =>
    simp only [lvl, nextL, List.mem_map] at hx
    obtain ⟨i, _, rfl⟩ := hx
    exact joinN_size _ _
theorem rd_mem (L : List ByteArray) (i : Int) (h0 : 0 ≤ i) (h1 : i < (L.length : Int)) : rdOf ByteArray.empty L i ∈ L := by
  rw [rdOf_get ByteArray.empty L i h0 h1]; exact List.getElem_mem _
theorem leaf_some (i : Nat) (t : ByteArray) (h : t.size ≤ 65536) : impl_leafDigest.f (i : Int) t = some (leafN i t) := by
  unfold impl_leafDigest.f impl_digest.f
  have hs : (strOfNums [0, (i : Int) % 256]).size = 2 := by rw [strOfNums_size]; rfl
  simp only [Option.bind_some]
  rw [if_pos (by omega), if_pos (by rw [ByteArray.size_append]; omega)]
  rfl
theorem join_some (a b : ByteArray) (ha : a.size = 32) (hb : b.size = 32) : impl_join.f a b = some (joinN a b) := by
  unfold impl_join.f impl_digest.f
  have hs : ((⟨#[1]⟩ : ByteArray) ++ a).size = 1 + a.size := by rw [ByteArray.size_append]; rfl
  rw [if_pos (by omega), if_pos (by omega), if_pos (by rw [ByteArray.size_append]; omega)]
  rfl
theorem infoS : (Try.prog.info? 9).map (fun i => (i.zero, i.size, i.bytes)) = some (some (.string ⟨#[]⟩), 1, 16) := by kernel_rfl
theorem infoR : (Try.prog.info? 41).map (fun i => (i.zero, i.size, i.bytes)) = some (some (.slice none 0 0), 1, 24) := by kernel_rfl
def treeT : Bool × List (List Nat × List Nat) := (true, [([], []), ([], []), ([], []), ([1, 2], [1, 2]), ([3], [3]), ([], []), ([], []), ([6], [6]), ([5, 7], [5, 7]), ([8], [8]), ([4, 9], [4, 9]), ([10], [10]), ([0, 11, 10], [0, 11]), ([12, 12, 0, 1, 2, 3, 4, 5, 6, 7, 8, 9, 10, 11, 12], [0, 12])])
def treeB : List Nat := [0, 0, 0, 6, 14, 0, 0, 64, 224, 480, 1022, 2046, 4095, 8191]
theorem treeTab : rtab .any (opsOf Try.f64 13) = treeT := by kernel_rfl
theorem treeBits : waitsOk treeT.2 treeB = true := by kernel_rfl
theorem reps_one {α : Type} {P : α → List Value → Prop} (x : α) (c : List Value) (hc : c.length = 1) (h : P x c) : Reps P 1 [x] c := by
  refine ⟨by simp [hc], fun j p hj => ?_⟩
  cases j with
  | zero =>
    simp at hj
    subst hj
    simpa [List.take_of_length_le (show c.length ≤ 1 by omega)] using h
  | succ j => simp at hj

set_option maxHeartbeats 8000000 in
set_option maxRecDepth 100000 in
theorem tree_calls (A0 : Option Addr) (c0 : Nat) (l0 : List ByteArray) (w : World) (hr0 : Kd.C Kd.string w A0 l0.length l0) (hl : l0.length = 16) (hs : ∀ t ∈ l0, t.size ≤ 65536) :
    Calls Try.prog 64 #[.slice A0 l0.length c0] w fun e w' => ∃ v0_ : Value, e = .returned (v0_) ∧ Kd.S (Kd.slice 9 Kd.string) 41 w' w.heap.size (fun _ => True) v0_ (treeL l0 4) ∧ Below w.heap.size w w' := by
  have HR0 := Aside0.mk hr0
  have HL := Aside0.mk hl
  have HS := Lib.hid hs
  clear hr0 hl hs
  have HB := Aside0.mk (Below.refl w.heap.size w)
  have HO0 := Aside0.mk (Kd.R_nil Kd.string 9 w w.heap.size (fun _ => True))
  go_enter Try.func64, Try.ntmps64
  go_wp2
  go_loopg [3, 11] 16 (fun kq v3 v11 w' => ∃ i : Nat, v11 = .int .i64 (i : Int) ∧ Aside0 (i + kq = 16) ∧ Aside0 (Kd.R Kd.string 9 w' w.heap.size (fun _ => True) v3 (leavesL l0 i)) ∧ Aside0 (Below w.heap.size w w'))
  case atStart => exact ⟨0, rfl, ⟨rfl⟩, ⟨by (with_reducible repeat (first | apply Kd.R_alloc | apply Kd.R_drewN | apply Kd.R_drew)); exact HO0.out⟩, ⟨by repeat (first | (with_reducible first | exact HB.out | apply below_alloc | apply pw_below_drewN | apply below_drew1) | exact HB.out)⟩⟩
  case round =>
    clear HO0 HB
    obtain ⟨i, rfl, HK, HO, HB⟩ := hrel
    by_cases c1 : i < 16
    · have d1 : decide ((i : Int) < (l0.length : Int)) = true := decide_eq_true (by have := HL.out; omega)
      have p1 : 0 ≤ (i : Int) := by omega
      have q1 : (i : Int) < (l0.length : Int) := by have := HL.out; omega
      obtain ⟨ad, e1, hx⟩ := Kd.at_string HR0.out (i : Int) p1 q1
      cases e1
      replace hx := (HB.out.cell (World.block_lt_of_cell? w _ hx)).trans hx
      rw [Int.toNat_natCast] at hx
      have AL := Lib.hid (leaf_some i (rdOf ByteArray.empty l0 (i : Int)) (HS.out _ (rd_mem l0 (i : Int) p1 q1)))
      have NX := Lib.hid (leavesL_succ l0 i)
      have NW := Lib.hid (show wrap64 ((i : Int) + 1) = ((i + 1 : Nat) : Int) by rw [wrap_ok ((i : Int) + 1) (by omega) (by omega)]; omega)
      have LM := Aside0.mk (show ((leavesL l0 i).length + 1) * 16 ≤ 140737488355328 by rw [leavesL_length]; omega)
      obtain ⟨k1, hk1⟩ : ∃ k1, gk = k1 + 1 := ⟨gk - 1, by have := HK.out; omega⟩
      have HK1 := Aside0.mk (show i + 1 + k1 = 16 by have := HK.out; omega)
      have HG := Aside0.mk (show k1 < gk by omega)
      clear hk1 HK c1
      generalize leafN i (rdOf ByteArray.empty l0 (i : Int)) = z at AL NX
      replace p1 := eq_true p1
      replace q1 := eq_true q1
      go_wp2_with (first | ((with_reducible refine gate_callee (f := 52) rfl ?_); refine goesL_ (some 19) rfl rfl Try.func52 (by kernel_rfl) rfl #[.int .i64 (i : Int), .string (rdOf ByteArray.empty l0 (i : Int))] rfl (by (try simp only [List.map_toArray, List.map_cons, List.map_nil]); first | done | rfl) ?_; (with_reducible refine (impl_leafDigest.calls (i : Int) (rdOf ByteArray.empty l0 (i : Int)) z _ AL.out).mono ?_); rintro e w8 ⟨rfl, hb⟩; refine ⟨_, rfl, ?_⟩; have n0_ := Aside0.mk (Kd.R_below (by (with_reducible repeat (first | apply Kd.R_alloc | apply Kd.R_drewN | apply Kd.R_drew)); exact HO.out) hb); have n1_ := Aside0.mk (below_step (by repeat (first | (with_reducible first | exact HB.out | apply below_alloc | apply pw_below_drewN | apply below_drew1) | exact HB.out)) hb); clear HO; clear HB; have HO := n0_; have HB := n1_; clear n0_ n1_; clear hb) | ((with_reducible refine gate_builtin (b := .append) (xs := #[.tmp 16, .tmp 20]) rfl ?_); at_builtin; refine Kd.R_append Kd.string (w0 := w) w.heap.size rfl (.tmp 16) (.tmp 20) 41 9 (.string ⟨#[]⟩) 16 rfl Try.underlying41 infoS rfl (by decide) (by omega) u3 (leavesL l0 i) z [.string z] (fun _ => True) (fun _ => False) rfl rfl ?aP (fun _ hk => hk.elim) ?aF ?aO ?aB ?aS ?aL ?_; (case aP => exact rfl); (case aB => exact (by repeat (first | (with_reducible first | exact HB.out | apply below_alloc | apply pw_below_drewN | apply below_drew1) | exact HB.out))); (case aF => exact (fun _ _ => trivial)); (case aO => exact (by (with_reducible repeat (first | apply Kd.R_alloc | apply Kd.R_drewN | apply Kd.R_drew)); exact HO.out)); (case aS => exact (below_size (by repeat (first | (with_reducible first | exact HB.out | apply below_alloc | apply pw_below_drewN | apply below_drew1) | exact HB.out)))); (case aL => exact LM.out); intro v120 w9 ho hb hg hat; rw [NX.out] at ho; have n0_ := Aside0.mk (hb); have n1_ := Aside0.mk (ho); clear HB; clear HO; have HB := n0_; have HO := n1_; clear n0_ n1_; clear ho hb hg hat))
      go_roundg k1
      case measure => exact HG.out
      case rel => exact ⟨i + 1, by rw [NW.out], HK1, ⟨by (with_reducible repeat (first | apply Kd.R_alloc | apply Kd.R_drewN | apply Kd.R_drew)); exact HO.out⟩, ⟨by repeat (first | (with_reducible first | exact HB.out | apply below_alloc | apply pw_below_drewN | apply below_drew1) | exact HB.out)⟩⟩
    · have d1 : decide ((i : Int) < (l0.length : Int)) = false := decide_eq_false (by have := HL.out; omega)
      have d1b : decide (i < l0.length) = false := decide_eq_false (by have := HL.out; omega)
      have h16 : i = 16 := by have := HK.out; omega
      have HOL : Aside0 (Kd.R Kd.string 9 wr w.heap.size (fun _ => True) u3 (lvl l0 0)) := ⟨by have := HO.out; rw [h16] at this; exact this⟩
      clear HO HK c1 h16
      obtain ⟨A3, c3, e3, _, _⟩ := Kd.R_reads HOL.out
      subst e3
      have RL := Lib.hid (fun (W : World) (h : Kd.R Kd.string 9 W w.heap.size (fun _ => True) (.slice A3 (lvl l0 0).length c3) (lvl l0 0)) => fun j x (hj : [lvl l0 0][j]? = some x) => show (Kd.slice 9 Kd.string).M W w.heap.size (fun _ => j = 0) x (([.slice A3 (lvl l0 0).length c3].drop (j * 1)).take 1) from by
        cases j with
        | zero =>
          simp at hj
          subst hj
          exact ⟨_, rfl, Kd.R_mono h (fun _ _ => rfl)⟩
        | succ j => simp at hj)
      go_wp2_with (first | ((with_reducible refine gate_dst (N := 24) rfl ?_); refine Kd.S_lits (Kd.slice 9 Kd.string) _ 41 ?hg (N := 24) ?hd (xs := [lvl l0 0]) (inner := [.slice A3 (lvl l0 0).length c3]) (ok := fun _ => True) (fun j _ => j = 0) ?hr rfl ?hp (fun i j _ h1 h2 => h1.trans h2.symm) (fun _ _ _ => trivial) trivial (by repeat (first | (with_reducible first | exact HB.out | apply below_alloc | apply pw_below_drewN | apply below_drew1) | exact HB.out)) (below_size (by repeat (first | (with_reducible first | exact HB.out | apply below_alloc | apply pw_below_drewN | apply below_drew1) | exact HB.out))) (by simp) ?_; (case hd => rfl); (case hg => rfl); (case hr => first | (go_simp; done) | (go_simp; rfl)); (case hp => exact RL.out _ (by (with_reducible repeat (first | apply Kd.R_alloc | apply Kd.R_drewN | apply Kd.R_drew)); exact HOL.out)); intro v115 w2 ho3 hb hg_ hnew_; have n0_ := Aside0.mk (Kd.R_grown (by (with_reducible repeat (first | apply Kd.R_alloc | apply Kd.R_drewN | apply Kd.R_drew)); exact HOL.out) hg_ (fun _ _ => by simp)); have n1_ := Aside0.mk hb; have n2_ := Aside0.mk ho3; clear HB; clear HOL; have HOL := n0_; have HB := n1_; have HT := n2_; clear n0_ n1_ n2_; clear hg_ hnew_ hb ho3))
      go_loopg [3, 6] 4 (fun kq v3 v6 w' => ∃ n : Nat, Aside0 (n + kq = 4) ∧ Aside0 (Kd.R Kd.string 9 w' w.heap.size (fun _ => True) v3 (lvl l0 n)) ∧ Aside0 (Kd.S (Kd.slice 9 Kd.string) 41 w' w.heap.size (fun _ => True) v6 (treeL l0 n)) ∧ Aside0 (Below w.heap.size w w'))
      case atStart => exact ⟨0, ⟨rfl⟩, ⟨by (with_reducible repeat (first | apply Kd.R_alloc | apply Kd.R_drewN | apply Kd.R_drew)); exact HOL.out⟩, ⟨by (with_reducible repeat (first | apply Kd.S_alloc | apply Kd.S_drewN | apply Kd.S_drew)); exact HT.out⟩, ⟨by repeat (first | (with_reducible first | exact HB.out | apply below_alloc | apply pw_below_drewN | apply below_drew1) | exact HB.out)⟩⟩
      case round =>
        clear HOL HT HB d1 d1b RL
        obtain ⟨n, HK, HOL, HT, HB⟩ := hrel
        obtain ⟨W1, hW1⟩ : ∃ W1, W1 = wr := ⟨_, rfl⟩
        subst hW1
        obtain ⟨A, c, e3, hlc, hC⟩ := Kd.R_reads HOL.out
        subst e3
        clear hlc
        have HC := Lib.hid hC
        clear hC
        by_cases c2 : n < 4
        · obtain ⟨m, hm, hm1, hm8, hnx⟩ := lvl_half l0 n c2
          have HSZ := Lib.hid (lvl_sizes l0 n)
          have TX := Lib.hid (treeL_succ l0 n)
          rw [hnx] at TX
          generalize lvl l0 n = L at hm hnx HSZ HOL HC TX ⊢
          have d2 : decide (1 < (L.length : Int)) = true := decide_eq_true (by omega)
          have d3 : decide (1 < L.length) = true := decide_eq_true (by omega)
          have NXL := Lib.hid hnx
          have HM := Aside0.mk hm
          have HM8 := Aside0.mk hm8
          obtain ⟨k1, hk1⟩ : ∃ k1, gk = k1 + 1 := ⟨gk - 1, by have := HK.out; omega⟩
          have HK1 := Aside0.mk (show n + 1 + k1 = 4 by have := HK.out; omega)
          have HG := Aside0.mk (show k1 < gk by omega)
          have LT := Aside0.mk (show ((treeL l0 n).length + 1) * 24 ≤ 140737488355328 by rw [treeL_length]; omega)
          clear hk1 HK c2 hm hm1 hm8 hnx
          have HI := Aside0.mk (Below.refl W1.heap.size W1)
          have HO := Aside0.mk (Kd.R_nil Kd.string 9 W1 W1.heap.size (fun _ => True))
          go_wp2
          go_loopg [7, 8] m (fun kq v7 v8 w' => ∃ (j : Nat) (x : Int), v8 = .int .i64 x ∧ Aside0 (x = 2 * (j : Int)) ∧ Aside0 (j + kq = m) ∧ Aside0 (Kd.R Kd.string 9 w' W1.heap.size (fun _ => True) v7 (nextL L j)) ∧ Aside0 (Below W1.heap.size W1 w'))
          case atStart => exact ⟨0, 0, rfl, ⟨rfl⟩, ⟨by omega⟩, ⟨by (with_reducible repeat (first | apply Kd.R_alloc | apply Kd.R_drewN | apply Kd.R_drew)); exact HO.out⟩, ⟨by repeat (first | (with_reducible first | exact HI.out | apply below_alloc | apply pw_below_drewN | apply below_drew1) | exact HI.out)⟩⟩
          case round =>
            clear HO HI d2 d3
            obtain ⟨j, x, rfl, hxj, HK2, HO, HI⟩ := hrel
            by_cases c3 : j < m
            · have d2 : decide (x < (L.length : Int)) = true := decide_eq_true (by have := HM.out; have := hxj.out; omega)
              have hwr : wrap64 (x + 1) = x + 1 := wrap_ok (x + 1) (by have := hxj.out; omega) (by have := HM8.out; have := hxj.out; omega)
              have NW := Aside0.mk (show wrap64 (x + 2) = 2 * ((j + 1 : Nat) : Int) by rw [wrap_ok (x + 2) (by have := hxj.out; omega) (by have := HM8.out; have := hxj.out; omega)]; have := hxj.out; omega)
              obtain ⟨ji, hji⟩ : ∃ ji : Int, x + 1 = ji := ⟨_, rfl⟩
              have p1 : 0 ≤ x := by have := hxj.out; omega
              have q1 : x < (L.length : Int) := by have := HM.out; have := hxj.out; omega
              have p2 : 0 ≤ ji := by omega
              have q2 : ji < (L.length : Int) := by have := HM.out; have := hxj.out; omega
              have AJ := Lib.hid (join_some (rdOf ByteArray.empty L x) (rdOf ByteArray.empty L ji) (HSZ.out _ (rd_mem L x p1 q1)) (HSZ.out _ (rd_mem L ji p2 q2)))
              have NX := Lib.hid (nextL_succ L j)
              rw [← hxj.out, hji] at NX
              have hjiw : IntKind.i64.wrap (x + 1) = ji := by rw [i64_w, hwr, hji]
              have hjiv : wrap64 (x + 1) = ji := by rw [hwr, hji]
              obtain ⟨ad, e1, hw1⟩ := Kd.at_string HC.out x p1 q1
              obtain ⟨ad2, e2, hw2⟩ := Kd.at_string HC.out ji p2 q2
              cases e1
              obtain rfl : ad = ad2 := by injection e2
              have LM := Aside0.mk (show ((nextL L j).length + 1) * 16 ≤ 140737488355328 by rw [nextL_length]; have := HM8.out; omega)
              obtain ⟨k2, hk2⟩ : ∃ k2, gk = k2 + 1 := ⟨gk - 1, by have := HK2.out; omega⟩
              have HK3 := Aside0.mk (show j + 1 + k2 = m by have := HK2.out; omega)
              have HG2 := Aside0.mk (show k2 < gk by omega)
              clear hk2 HK2 c3 hwr hji e2
              generalize rdOf ByteArray.empty L x = x1 at AJ NX hw1
              generalize rdOf ByteArray.empty L ji = x2 at AJ NX hw2
              replace p1 := eq_true p1
              replace q1 := eq_true q1
              replace p2 := eq_true p2
              replace q2 := eq_true q2
              try go_wp2
              have n0_ := Aside0.mk (Kd.R_drew HO.out)
              have n1_ := Aside0.mk (below_drew1 HI.out)
              clear HO HI
              have HO := n0_
              have HI := n1_
              clear n0_ n1_
              have hx1 := ((HI.out.cell (World.block_lt_of_cell? W1 _ hw1)).trans hw1)
              have hx2 := ((HI.out.cell (World.block_lt_of_cell? W1 _ hw2)).trans hw2)
              refine start_ (n := 14) (S := fun w' => w'.cell? (ad.add (x).toNat) = some (.string x1) ∧ w'.cell? (ad.add (ji).toNat) = some (.string x2)) (ds := []) #[false, false, false, false, false, false, false, false, false, false, false, false, false, false] (by kernel_rfl) rfl rfl ⟨((HI.out.cell (World.block_lt_of_cell? W1 _ hw1)).trans hw1), ((HI.out.cell (World.block_lt_of_cell? W1 _ hw2)).trans hw2)⟩ (fun hHeld => ?_); refine with_tabW treeTab treeBits (fun HT_ HW_ => ?_)
              generalize wr.drew = w11 at HO HI hx1 hx2 hHeld ⊢
              refine pure_ (i := 0) (N := some 34) (v := ?_) (a' := ?_) #[true, false, false, false, false, false, false, false, false, false, false, false, false, false] rfl rfl (any_of HT_.out (by kernel_rfl)) (fun _ _ _ h => h) (Or.inl ⟨by rfl, ?_⟩) ?_ ?_
              rotate_left
              · intro w'
                go_simp
                with_reducible rfl
              rotate_left
              · simp only [Act.put, List.setIfInBounds_toArray, List.set_cons_zero, List.set_cons_succ, i64_w, i32_w]
                rfl
              refine pure_ (i := 1) (N := some 35) (v := ?_) (a' := ?_) #[true, true, false, false, false, false, false, false, false, false, false, false, false, false] rfl rfl (any_of HT_.out (by kernel_rfl)) (fun _ _ _ h => h) (Or.inl ⟨by rfl, ?_⟩) ?_ ?_
              rotate_left
              · intro w'
                go_simp
                with_reducible rfl
              rotate_left
              · simp only [Act.put, List.setIfInBounds_toArray, List.set_cons_zero, List.set_cons_succ, i64_w, i32_w]
                rfl
              refine pure_ (i := 2) (N := some 36) (v := ?_) (a' := ?_) #[true, true, true, false, false, false, false, false, false, false, false, false, false, false] rfl rfl (any_of HT_.out (by kernel_rfl)) (fun _ _ _ h => h) (Or.inl ⟨by rfl, ?_⟩) ?_ ?_
              rotate_left
              · intro w'
                go_simp
                with_reducible rfl
              rotate_left
              · simp only [Act.put, List.setIfInBounds_toArray, List.set_cons_zero, List.set_cons_succ, i64_w, i32_w]
                rfl
              refine pure_ (i := 3) (N := some 37) (v := ?_) (a' := ?_) #[true, true, true, true, false, false, false, false, false, false, false, false, false, false] rfl rfl (any_of HT_.out (by kernel_rfl)) (fun _ _ _ h => h) (Or.inl ⟨by rfl, ?_⟩) ?_ ?_
              rotate_left
              · intro w'
                go_simp
                with_reducible rfl
              rotate_left
              · simp only [Act.put, List.setIfInBounds_toArray, List.set_cons_zero, List.set_cons_succ, i64_w, i32_w]
                rfl
              refine pure_ (i := 5) (N := some 39) (v := ?_) (a' := ?_) #[true, true, true, true, false, true, false, false, false, false, false, false, false, false] rfl rfl (any_of HT_.out (by kernel_rfl)) (fun _ _ _ h => h) (Or.inl ⟨by rfl, ?_⟩) ?_ ?_
              rotate_left
              · intro w'
                go_simp
                with_reducible rfl
              rotate_left
              · simp only [Act.put, List.setIfInBounds_toArray, List.set_cons_zero, List.set_cons_succ, i64_w, i32_w]
                rfl
              refine pure_ (i := 6) (N := some 40) (v := ?_) (a' := ?_) #[true, true, true, true, false, true, true, false, false, false, false, false, false, false] rfl rfl (any_of HT_.out (by kernel_rfl)) (fun _ _ _ h => h) (Or.inl ⟨by rfl, ?_⟩) ?_ ?_
              rotate_left
              · intro w'
                go_simp
                with_reducible rfl
              rotate_left
              · simp only [Act.put, List.setIfInBounds_toArray, List.set_cons_zero, List.set_cons_succ, i64_w, i32_w]
                rfl
              refine pure_ (i := 7) (N := some 41) (v := ?_) (a' := ?_) #[true, true, true, true, false, true, true, true, false, false, false, false, false, false] rfl rfl (any_of HT_.out (by kernel_rfl)) (fun _ _ _ h => h) (Or.inl ⟨by rfl, ?_⟩) ?_ ?_
              rotate_left
              · intro w'
                go_simp
                with_reducible rfl
              rotate_left
              · simp only [Act.put, List.setIfInBounds_toArray, List.set_cons_zero, List.set_cons_succ, i64_w, i32_w]
                rfl
              refine pure_ (i := 8) (N := some 42) (v := ?_) (a' := ?_) #[true, true, true, true, false, true, true, true, true, false, false, false, false, false] rfl rfl (any_of HT_.out (by kernel_rfl)) (fun _ _ _ h => h) (Or.inl ⟨by rfl, ?_⟩) ?_ ?_
              rotate_left
              · intro w'
                go_simp
                with_reducible rfl
              rotate_left
              · simp only [Act.put, List.setIfInBounds_toArray, List.set_cons_zero, List.set_cons_succ, i64_w, i32_w]
                rfl
              refine take_ (i := 4) (N := some 38) (v := ?_) (a' := ?_) #[true, true, true, true, true, true, true, true, true, false, false, false, false, false] rfl rfl (take_ofW HT_.out HW_.out (by kernel_rfl)) (fun _ _ _ h => h) (Or.inl ⟨by rfl, ?_⟩) hHeld ?_ ?_
              rotate_left
              · rintro w' ⟨s0, s1⟩
                go_simp
                with_reducible rfl
              rotate_left
              · simp only [Act.put, List.setIfInBounds_toArray, List.set_cons_zero, List.set_cons_succ, i64_w, i32_w]
                rfl
              refine take_ (i := 9) (N := some 43) (v := ?_) (a' := ?_) #[true, true, true, true, true, true, true, true, true, true, false, false, false, false] rfl rfl (take_ofW HT_.out HW_.out (by kernel_rfl)) (fun _ _ _ h => h) (Or.inl ⟨by rfl, ?_⟩) hHeld ?_ ?_
              rotate_left
              · rintro w' ⟨s0, s1⟩
                go_simp
                with_reducible rfl
              rotate_left
              · simp only [Act.put, List.setIfInBounds_toArray, List.set_cons_zero, List.set_cons_succ, i64_w, i32_w]
                rfl
              refine one_ (i := 10) (N := some 44) #[true, true, true, true, true, true, true, true, true, true, true, false, false, false] rfl rfl (one_of HT_.out (by kernel_rfl)) (by decide) (fun K hK => ?_)
              refine goes_ Try.func55 (by kernel_rfl) rfl #[.string x1, .string x2] (by rfl) rfl rfl (by (try simp only [List.map_toArray, List.map_cons, List.map_nil]); first | done | rfl) ?_
              with_reducible refine (impl_join.calls x1 x2 (joinN x1 x2) _ AJ.out).mono ?_
              rintro e w12 ⟨rfl, hb⟩
              refine ⟨_, rfl, ?_⟩
              have n0_ := Aside0.mk (Kd.R_below (by (with_reducible repeat (first | apply Kd.R_alloc | apply Kd.R_drewN | apply Kd.R_drew)); exact HO.out) hb)
              have n1_ := Aside0.mk (below_step (by repeat (first | (with_reducible first | exact HI.out | apply below_alloc | apply pw_below_drewN | apply below_drew1) | exact HI.out)) hb)
              clear HO
              clear HI
              have HO := n0_
              have HI := n1_
              clear n0_ n1_ hb
              refine hK.out _ _ ⟨((HI.out.cell (World.block_lt_of_cell? W1 _ hw1)).trans hw1), ((HI.out.cell (World.block_lt_of_cell? W1 _ hw2)).trans hw2)⟩ (fun hHeld => ?_)
              clear hK K
              refine norm_ (a' := ?_) ?_ ?_
              rotate_left
              · show Act.put _ (some 44) _ = _
                simp only [Act.put, List.setIfInBounds_toArray, List.set_cons_zero, List.set_cons_succ, i64_w, i32_w]
                rfl
              refine one_ (i := 11) (N := some 45) #[true, true, true, true, true, true, true, true, true, true, true, true, false, false] rfl rfl (one_of HT_.out (by kernel_rfl)) (by decide) (fun K hK => ?_)
              refine value_ (w1 := ?_) (v := ?_) (by rfl) rfl ?_ ?_
              rotate_left 2
              · go_simp
                constructor
                · rfl
                · rfl
              refine hK.out _ _ ⟨(World.cell?_alloc_lt _ _ _ (World.block_lt_of_cell? _ _ (((HI.out.cell (World.block_lt_of_cell? W1 _ hw1)).trans hw1)))).trans (((HI.out.cell (World.block_lt_of_cell? W1 _ hw1)).trans hw1)), (World.cell?_alloc_lt _ _ _ (World.block_lt_of_cell? _ _ (((HI.out.cell (World.block_lt_of_cell? W1 _ hw2)).trans hw2)))).trans (((HI.out.cell (World.block_lt_of_cell? W1 _ hw2)).trans hw2))⟩ (fun hHeld => ?_)
              clear hK K
              refine norm_ (a' := ?_) ?_ ?_
              rotate_left
              · show Act.put _ (some 45) _ = _
                simp only [Act.put, List.setIfInBounds_toArray, List.set_cons_zero, List.set_cons_succ, i64_w, i32_w]
                rfl
              refine one_ (i := 12) (N := some 46) #[true, true, true, true, true, true, true, true, true, true, true, true, true, false] rfl rfl (one_of HT_.out (by kernel_rfl)) (by decide) (fun K hK => ?_)
              refine Kd.R_append_step Kd.string (w0 := W1) W1.heap.size (by rfl) (.tmp 34) (.tmp 45) 41 9 (.string ⟨#[]⟩) 16 rfl Try.underlying41 infoS rfl (by decide) (by omega) u7 (nextL L j) (joinN x1 x2) [.string (joinN x1 x2)] (fun _ => True) (fun _ => False) rfl rfl ?aP (fun _ hk => hk.elim) ?aF ?aO ?aB ?aS ?aL ?_
              (case aP => exact rfl)
              (case aB => exact (by repeat (first | (with_reducible first | exact HI.out | apply below_alloc | apply pw_below_drewN | apply below_drew1) | exact HI.out)))
              (case aF => exact (fun _ _ => trivial))
              (case aO => exact (by (with_reducible repeat (first | apply Kd.R_alloc | apply Kd.R_drewN | apply Kd.R_drew)); exact HO.out))
              (case aS => exact (below_size (by repeat (first | (with_reducible first | exact HI.out | apply below_alloc | apply pw_below_drewN | apply below_drew1) | exact HI.out))))
              (case aL => exact LM.out)
              intro v130 w13 ho hb hg hat
              rw [NX.out] at ho
              have n0_ := Aside0.mk hb
              have n1_ := Aside0.mk ho
              clear HI HO
              have HI := n0_
              have HO := n1_
              clear n0_ n1_ ho hb hg hat
              refine hK.out _ _ ⟨((HI.out.cell (World.block_lt_of_cell? W1 _ hw1)).trans hw1), ((HI.out.cell (World.block_lt_of_cell? W1 _ hw2)).trans hw2)⟩ (fun hHeld => ?_)
              clear hK K
              refine norm_ (a' := ?_) ?_ ?_
              rotate_left
              · show Act.put _ (some 46) _ = _
                simp only [Act.put, List.setIfInBounds_toArray, List.set_cons_zero, List.set_cons_succ, i64_w, i32_w]
                rfl
              refine pure_ (i := 13) (N := some 7) (v := ?_) (a' := ?_) #[true, true, true, true, true, true, true, true, true, true, true, true, true, true] rfl rfl (any_of HT_.out (by kernel_rfl)) (fun _ _ _ h => h) (Or.inl ⟨by rfl, ?_⟩) ?_ ?_
              rotate_left
              · intro w'
                go_simp
                with_reducible rfl
              rotate_left
              · simp only [Act.put, List.setIfInBounds_toArray, List.set_cons_zero, List.set_cons_succ, i64_w, i32_w]
                rfl
              refine done_ (done_of HT_.out (by kernel_rfl)) ?_
              try go_wp2
              go_roundg k2
              case measure => exact HG2.out
              case rel => exact ⟨j + 1, wrap64 (x + 2), rfl, NW, HK3, ⟨by (with_reducible repeat (first | apply Kd.R_alloc | apply Kd.R_drewN | apply Kd.R_drew)); exact HO.out⟩, ⟨by repeat (first | (with_reducible first | exact HI.out | apply below_alloc | apply pw_below_drewN | apply below_drew1) | exact HI.out)⟩⟩
            · have d2 : decide (x < (L.length : Int)) = false := decide_eq_false (by have := HM.out; have := hxj.out; have := HK2.out; omega)
              obtain rfl : j = m := by have := HK2.out; omega
              clear HK2 hxj c3
              obtain ⟨A7, c7, e7, _, _⟩ := Kd.R_reads HO.out
              subst e7
              have HTn := Aside0.mk (show Kd.S (Kd.slice 9 Kd.string) 41 wr w.heap.size (fun k => True ∧ ¬ (W1.heap.size ≤ k)) u6 (treeL l0 n) from Kd.S_mono (Kd.S_old HT.out HI.out) (fun k hk => ⟨trivial, fun h => by have := hk.2; omega⟩))
              have HNn := Aside0.mk (Kd.R_lower (Kd.R_mono (ok' := fun k => W1.heap.size ≤ k) (Kd.R_bound HO.out) (fun k hk => hk.2.1)) (below_size HB.out))
              have HNk := Lib.hid (show ∀ k, W1.heap.size ≤ k → True ∧ some k ≠ u6.ownBlock from fun k hk => ⟨trivial, fun e => by have := Kd.S_lt HT.out k e.symm; omega⟩)
              have HBn := Aside0.mk (below_step HB.out HI.out)
              have TY : ∀ q, q ∈ 9 :: Kd.string.E → q ≠ 41 := by intro q hq; simp [Kd.string, Kd.scalar] at hq; omega
              have HNN := Lib.hid (fun (w1 : World) (hg : wr.grownBy w1 u6.ownBlock) => Kd.R_over (Kd.R_mono (ok' := fun _ => True) HNn.out (fun _ _ => trivial)) (Kd.S_R HTn.out) TY hg)
              clear HT HO HB HI HOL TY
              go_wp2_with (first | ((with_reducible refine gate_builtin (b := .append) (xs := #[.tmp 47, .tmp 49]) rfl ?_); at_builtin; refine Kd.S_append (Kd.slice 9 Kd.string) (w0 := w) w.heap.size rfl (.tmp 47) (.tmp 49) 68 41 (.slice none 0 0) 24 rfl Try.underlying68 infoR rfl (by decide) (by omega) u6 (treeL l0 n) (nextL L j) [.slice A7 (nextL L j).length c7] (fun _ => True) (fun k => W1.heap.size ≤ k) rfl rfl ?aP HNk.out ?aF ?aO ?aB ?aS ?aL ?_; (case aP => exact ⟨_, rfl, HNn.out⟩); (case aB => exact HBn.out); (case aF => exact (fun _ _ => trivial)); (case aO => exact HTn.out); (case aS => exact (below_size HBn.out)); (case aL => exact LT.out); intro v120 w9 ho hb hg hat; rw [TX.out] at ho; have n0_ := Aside0.mk (hb); have n1_ := Aside0.mk (ho); have n2_ := Aside0.mk (HNN.out _ hg); clear HBn HTn HNn HNk HNN; have HB := n0_; have HT := n1_; have HOL := n2_; clear n0_ n1_ n2_; clear ho hb hg hat))
              go_roundg k1
              case measure => exact HG.out
              case rel => exact ⟨n + 1, HK1, ⟨by rw [NXL.out]; exact (by (with_reducible repeat (first | apply Kd.R_alloc | apply Kd.R_drewN | apply Kd.R_drew)); exact HOL.out)⟩, ⟨by (with_reducible repeat (first | apply Kd.S_alloc | apply Kd.S_drewN | apply Kd.S_drew)); exact HT.out⟩, ⟨by repeat (first | (with_reducible first | exact HB.out | apply below_alloc | apply pw_below_drewN | apply below_drew1) | exact HB.out)⟩⟩
        · obtain rfl : n = 4 := by have := HK.out; omega
          have d2 : decide (1 < ((lvl l0 4).length : Int)) = false := decide_eq_false (by have := lvl_last l0; omega)
          have d3 : decide (1 < (lvl l0 4).length) = false := decide_eq_false (by have := lvl_last l0; omega)
          go_wp2
          go_ret
          exact ⟨_, rfl, (by (with_reducible repeat (first | apply Kd.S_alloc | apply Kd.S_drewN | apply Kd.S_drew)); exact HT.out), (by repeat (first | (with_reducible first | exact HB.out | apply below_alloc | apply pw_below_drewN | apply below_drew1) | exact HB.out))⟩

def impl_tree.f (l0 : List ByteArray) : Option (List (List ByteArray)) := if l0.length = 16 then (if (l0.all fun t => decide (t.size ≤ 65536)) = true then some (treeL l0 4) else none) else none
theorem impl_tree.calls (A0 : Option Addr) (c0 : Nat) (l0 : List ByteArray) (r : List (List ByteArray)) (w : World) (hr0 : Kd.C Kd.string w A0 l0.length l0) (_hc0 : l0.length ≤ c0) (h : impl_tree.f l0 = some r) :
    Calls Try.prog 64 #[.slice A0 l0.length c0] w fun e w' => ∃ v0_ : Value, e = .returned (v0_) ∧ Kd.S (Kd.slice 9 Kd.string) 41 w' w.heap.size (fun _ => True) v0_ r ∧ Below w.heap.size w w' := by
  unfold impl_tree.f at h
  by_cases c1 : l0.length = 16
  · rw [if_pos c1] at h
    by_cases c2 : (l0.all fun t => decide (t.size ≤ 65536)) = true
    · rw [if_pos c2] at h
      obtain rfl := Option.some.inj h
      exact tree_calls A0 c0 l0 w hr0 c1 (fun t ht => of_decide_eq_true (List.all_eq_true.1 c2 t ht))
    · rw [if_neg c2] at h; cases h
  · rw [if_neg c1] at h; cases h

end Go.Proofs.Ytajbljegeiebjaa.Leaf
