/-
  What the law's helpers answer at Orams: sizes, copies, alike. In plain words. Conditions: lengths are whole numbers of 64 bits.
-/
import Derived.Test.YtmodpocjnafpdaaPlain
import Derived.Test.YtmodpocjnafpdaaOraE
import Derived.Test.YtmodpocjnafpdaaPOrax7
import Derived.Test.YtmodpocjnafpdaaPOrax2
import Derived.Test.YtmodpocjnafpdaaPOrax4
import Derived.Test.YtmodpocjnafpdaaPOrax0
import Derived.Test.YtmodpocjnafpdaaPOrax6
namespace Go.Proofs.Ytmodpocjnafpdaa.Leaf
open Go.RowKit Go.Proofs.YtmodpocjnafpdaaW.PrintWords Go.Proofs.YtmodpocjnafpdaaW.PrintLast Go.Proofs.YtmodpocjnafpdaaW.PrintMore Go.Proofs.Ytmodpocjnafpdaa.POra
theorem succ_i (i : Nat) (h : i < 9223372036854775807) : wrap64 ((i : Int) + 1) = ((i + 1 : Nat) : Int) := by rw [wrap_ok _ (by omega) (by omega)]; rfl
theorem rd_nat (l : List Int) (i : Nat) : rd l (i : Int) = l.getD i 0 := by unfold rd; rw [Int.toNat_natCast]
theorem rdL_nat (l : List S80) (i : Nat) : rd_T80 l (i : Int) = l.getD i z80 := by unfold rd_T80; rw [Int.toNat_natCast]
theorem rdI_nat (l : List S61) (i : Nat) : rd_T61 l (i : Int) = l.getD i z61 := by unfold rd_T61; rw [Int.toNat_natCast]
theorem rdRL_nat (l : List (List S80)) (i : Nat) : rd_L2 l (i : Int) = l.getD i [] := by unfold rd_L2; rw [Int.toNat_natCast]
theorem rdRI_nat (l : List (List S61)) (i : Nat) : rd_L4 l (i : Int) = l.getD i [] := by unfold rd_L4; rw [Int.toNat_natCast]
theorem getD_in {α : Type} (l : List α) (i : Nat) (d : α) (h : i < l.length) : l.getD i d = l[i] := by rw [List.getD_eq_getElem?_getD, List.getElem?_eq_getElem h]; rfl
theorem range_all_from (v : Nat → Bool) (i n : Nat) (h : i < n) : (List.range' i (n - i)).all v = (v i && (List.range' (i + 1) (n - (i + 1))).all v) := by
  obtain ⟨m, hm⟩ : ∃ m, n - i = m + 1 := ⟨n - i - 1, by omega⟩
  rw [hm, List.range'_succ, show n - (i + 1) = m by omega]; rfl
theorem cmp_loop (L : Nat → Int → Option Bool) (n : Nat) (c : Nat → Nat → Option Bool) (v : Nat → Bool) (D : Nat → Option Bool) (fin : Bool)
    (hs : ∀ k i, i < n → L (k + 1) (i : Int) = (c k i).bind fun t => if t = true then L k ((i + 1 : Nat) : Int) else some false)
    (hc : ∀ i, i < n → Ev (fun k => c k i) (v i)) (he : ∀ k, L (k + 1) (n : Int) = D k) (hD : Ev D fin) (d : Nat) :
    ∀ i : Nat, n - i = d → i ≤ n → Ev (fun k => L k (i : Int)) ((List.range' i (n - i)).all v && fin) := by
  induction d with
  | zero =>
    intro i hd hi
    obtain rfl : i = n := by omega
    rw [Nat.sub_self]
    exact Ev.step he (by simpa using hD)
  | succ d ih =>
    intro i hd hi
    have hlt : i < n := by omega
    rw [range_all_from v i n hlt]
    refine Ev.step (fun k => hs k i hlt) (Ev.bind (hc i hlt) ?_)
    cases hv : v i with
    | true => simp only [if_true, Bool.true_and]; exact ih (i + 1) (by omega) (by omega)
    | false => simp only [Bool.false_eq_true, if_false, Bool.false_and]; exact Ev.now false
theorem cmp_ev (L : Nat → Int → Option Bool) (n : Nat) (c : Nat → Nat → Option Bool) (v : Nat → Bool) (D : Nat → Option Bool) (fin : Bool)
    (hs : ∀ k i, i < n → L (k + 1) (i : Int) = (c k i).bind fun t => if t = true then L k ((i + 1 : Nat) : Int) else some false)
    (hc : ∀ i, i < n → Ev (fun k => c k i) (v i)) (he : ∀ k, L (k + 1) (n : Int) = D k) (hD : Ev D fin) : Ev (fun k => L k 0) ((List.range n).all v && fin) := by
  have h := cmp_loop L n c v D fin hs hc he hD n 0 (by omega) (by omega)
  rw [List.range_eq_range']
  exact h
/-- Alike, one by one. -/
def blkEq (a b : S61) : Bool := a.f0 == b.f0 && (a.f1 == b.f1 && a.f2 == b.f2)
def rowEq {α : Type} (e : α → α → Bool) (z : α) (a b : List α) : Bool := decide (a.length = b.length) && (List.range a.length).all (fun i => e (a.getD i z) (b.getD i z))
theorem blkEq_refl (a : S61) : blkEq a a = true := by simp [blkEq]
theorem rowEq_refl {α : Type} (e : α → α → Bool) (z : α) (he : ∀ a, e a a = true) (a : List α) : rowEq e z a a = true := by
  unfold rowEq; rw [decide_eq_true rfl, Bool.true_and, List.all_eq_true]; intro i _; exact he _
def intsE (a b : List Int) : Bool := rowEq (fun x y : Int => x == y) 0 a b
def blksE (a b : List S61) : Bool := rowEq blkEq z61 a b
def rowsE (a b : List (List S61)) : Bool := rowEq blksE [] a b
theorem intsE_refl (a : List Int) : intsE a a = true := rowEq_refl _ _ (fun _ => beq_self_eq_true _) a
theorem blksE_refl (a : List S61) : blksE a a = true := rowEq_refl _ _ blkEq_refl a
theorem rowsE_refl (a : List (List S61)) : rowsE a a = true := rowEq_refl _ _ blksE_refl a
theorem rowEq_ev {α : Type} (e : α → α → Bool) (z : α) (a b : List α) (g L : Nat → Option Bool) (hg : ∀ k, g k = if (a.length : Int) = (b.length : Int) then L k else some false)
    (hL : a.length = b.length → Ev L ((List.range a.length).all (fun i => e (a.getD i z) (b.getD i z)))) : Ev g (rowEq e z a b) := by
  refine Ev.congr hg ?_
  unfold rowEq
  by_cases h : a.length = b.length
  · have h' : (a.length : Int) = (b.length : Int) := by omega
    simp only [if_pos h', decide_eq_true h, Bool.true_and]
    exact hL h
  · have h' : ¬ (a.length : Int) = (b.length : Int) := by omega
    simp only [if_neg h', decide_eq_false h, Bool.false_and]
    exact Ev.now false
theorem eqIntS_ev (a b : List Int) (ha : a.length ≤ 9223372036854775807) : Ev (fun k => laws_eqIntS.f k a b) (intsE a b) := by
  refine rowEq_ev _ _ a b _ (fun k => laws_eqIntS.l0 k a b 0) (fun k => rfl) (fun hl => ?_)
  have h := cmp_ev (fun k i => laws_eqIntS.l0 k a b i) a.length (fun _ i => some (a.getD i 0 == b.getD i 0)) (fun i => a.getD i 0 == b.getD i 0) (fun _ => some true) true (fun k i hi => by
    simp only [laws_eqIntS.l0]
    rw [if_pos (by omega), if_pos (by omega), if_pos (by omega), rd_nat, rd_nat, succ_i i (by omega), Option.bind_some]
    simp only [beq_iff_eq]) (fun i _ => Ev.now _) (fun k => by simp only [laws_eqIntS.l0]; rw [if_neg (by omega)]) (Ev.now true)
  rwa [Bool.and_true] at h
theorem eqBlock_eq (a b : S61) : laws_eqBlock.f a.f0 a.f1 a.f2 b.f0 b.f1 b.f2 = some (blkEq a b) := by
  unfold laws_eqBlock.f blkEq
  by_cases h0 : a.f0 = b.f0 <;> by_cases h1 : a.f1 = b.f1 <;> by_cases h2 : a.f2 = b.f2 <;> simp [h0, h1, h2]
theorem eqBlockS_ev (a b : List S61) (ha : a.length ≤ 9223372036854775807) : Ev (fun k => laws_eqBlockS.f k a b) (blksE a b) := by
  refine rowEq_ev _ _ a b _ (fun k => laws_eqBlockS.l0 k a b 0) (fun k => rfl) (fun hl => ?_)
  have h := cmp_ev (fun k i => laws_eqBlockS.l0 k a b i) a.length (fun _ i => some (blkEq (a.getD i z61) (b.getD i z61))) (fun i => blkEq (a.getD i z61) (b.getD i z61)) (fun _ => some true) true (fun k i hi => by
    simp only [laws_eqBlockS.l0]
    rw [if_pos (by omega), if_pos (by omega), if_pos (by omega), rdI_nat, rdI_nat, eqBlock_eq, succ_i i (by omega)]) (fun i _ => Ev.now _) (fun k => by simp only [laws_eqBlockS.l0]; rw [if_neg (by omega)]) (Ev.now true)
  rwa [Bool.and_true] at h
/-- Each row's length is a whole number of 64 bits. -/
def Rows {α : Type} (l : List (List α)) : Prop := l.length ≤ 9223372036854775807 ∧ ∀ x ∈ l, x.length ≤ 9223372036854775807
theorem Rows.at {α : Type} {l : List (List α)} (h : Rows l) (i : Nat) : (l.getD i []).length ≤ 9223372036854775807 := by
  by_cases hi : i < l.length
  · rw [getD_in l i [] hi]; exact h.2 _ (List.getElem_mem hi)
  · rw [List.getD_eq_getElem?_getD, List.getElem?_eq_none (by omega)]; simp
theorem eqBlockSS_ev (a b : List (List S61)) (ha : Rows a) : Ev (fun k => laws_eqBlockSS.f k a b) (rowsE a b) := by
  have hm := ha.1
  refine rowEq_ev _ _ a b _ (fun k => laws_eqBlockSS.l0 k a b 0) (fun k => rfl) (fun hl => ?_)
  have h := cmp_ev (fun k i => laws_eqBlockSS.l0 k a b i) a.length (fun k i => laws_eqBlockS.f k (a.getD i []) (b.getD i [])) (fun i => blksE (a.getD i []) (b.getD i [])) (fun _ => some true) true (fun k i hi => by
    simp only [laws_eqBlockSS.l0]
    rw [if_pos (by omega), if_pos (by omega), if_pos (by omega), rdRI_nat, rdRI_nat, succ_i i (by omega)]) (fun i _ => eqBlockS_ev _ _ (ha.at i)) (fun k => by simp only [laws_eqBlockSS.l0]; rw [if_neg (by omega)]) (Ev.now true)
  rwa [Bool.and_true] at h
def oramE (p : List Int) (st : List S61) (bu : List (List S61)) (q : List Int) (su : List S61) (cu : List (List S61)) : Bool := intsE p q && (blksE st su && rowsE bu cu)
theorem eqOram_ev (p : List Int) (st : List S61) (bu : List (List S61)) (q : List Int) (su : List S61) (cu : List (List S61)) (hp : p.length ≤ 9223372036854775807) (hs : st.length ≤ 9223372036854775807) (hb : Rows bu) :
    Ev (fun k => laws_eqOram.f k p st bu q su cu) (oramE p st bu q su cu) := by
  unfold laws_eqOram.f oramE
  refine Ev.bind (eqIntS_ev p q hp) ?_
  cases intsE p q with
  | false => simp only [Bool.false_eq_true, if_false, Bool.false_and]; exact Ev.now false
  | true =>
    simp only [if_true, Bool.true_and]
    refine Ev.bind (eqBlockS_ev st su hs) ?_
    cases blksE st su with
    | false => simp only [Bool.false_eq_true, if_false, Bool.false_and]; exact Ev.now false
    | true =>
      simp only [if_true, Bool.true_and]
      refine Ev.bind (eqBlockSS_ev bu cu hb) ?_
      cases rowsE bu cu <;> exact Ev.now _
theorem oramE_refl (p : List Int) (st : List S61) (bu : List (List S61)) : oramE p st bu p st bu = true := by
  unfold oramE; rw [intsE_refl, blksE_refl, rowsE_refl]; rfl
end Go.Proofs.Ytmodpocjnafpdaa.Leaf
