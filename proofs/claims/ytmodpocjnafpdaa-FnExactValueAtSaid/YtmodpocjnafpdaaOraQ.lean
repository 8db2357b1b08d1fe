/-
  The reference's SameOram, the copies and the sizes of Orams. In plain words. Conditions: lengths are whole numbers of 64 bits.
-/
import Derived.Test.YtmodpocjnafpdaaOraP
import Derived.Test.YtmodpocjnafpdaaPOrax0
import Derived.Test.YtmodpocjnafpdaaPOrax2
import Derived.Test.YtmodpocjnafpdaaPOrax4
namespace Go.Proofs.Ytmodpocjnafpdaa.Leaf
open Go.RowKit Go.Proofs.YtmodpocjnafpdaaW.PrintWords Go.Proofs.YtmodpocjnafpdaaW.PrintLast Go.Proofs.YtmodpocjnafpdaaW.PrintMore Go.Proofs.Ytmodpocjnafpdaa.POra
theorem set_front {α : Type} (l : List α) (i : Nat) (h : i < l.length) (m : Nat) (d : α) : (l.take i ++ List.replicate (m + 1) d).set i l[i] = l.take (i + 1) ++ List.replicate m d := by
  rw [List.set_append_right (h := by rw [List.length_take]; omega), List.length_take, Nat.min_eq_left (by omega), Nat.sub_self, List.replicate_succ, List.set_cons_zero, List.take_succ_eq_append_getElem h, List.append_assoc]
  rfl
theorem build_loop {β : Type} (z : β) (L : Nat → List β → Int → Option (List β)) (r : List β) (g : Nat → Nat → Option β)
    (hs : ∀ k i acc, i < r.length → acc.length = r.length → L (k + 1) acc (i : Int) = (g k i).bind fun t => L k (acc.set i t) ((i + 1 : Nat) : Int))
    (hg : ∀ i (h : i < r.length), Ev (fun k => g k i) r[i]) (he : ∀ k acc, L (k + 1) acc (r.length : Int) = some acc) (d : Nat) :
    ∀ i : Nat, r.length - i = d → i ≤ r.length → Ev (fun k => L k (r.take i ++ List.replicate d z) (i : Int)) r := by
  induction d with
  | zero =>
    intro i hd hi
    obtain rfl : i = r.length := by omega
    rw [List.replicate_zero, List.append_nil, List.take_length]
    exact Ev.step (f := fun _ => some r) (fun k => he k r) (Ev.now r)
  | succ d ih =>
    intro i hd hi
    have hlt : i < r.length := by omega
    refine Ev.step (fun k => hs k i _ hlt (by rw [List.length_append, List.length_take, List.length_replicate]; omega)) (Ev.bind (hg i hlt) ?_)
    rw [set_front r i hlt d z]
    exact ih (i + 1) (by omega) (by omega)
theorem build_ev {β : Type} (z : β) (L : Nat → List β → Int → Option (List β)) (r : List β) (g : Nat → Nat → Option β)
    (hs : ∀ k i acc, i < r.length → acc.length = r.length → L (k + 1) acc (i : Int) = (g k i).bind fun t => L k (acc.set i t) ((i + 1 : Nat) : Int))
    (hg : ∀ i (h : i < r.length), Ev (fun k => g k i) r[i]) (he : ∀ k acc, L (k + 1) acc (r.length : Int) = some acc) : Ev (fun k => L k (List.replicate r.length z) 0) r := by
  have h := build_loop z L r g hs hg he r.length 0 (by omega) (by omega)
  rwa [List.take_zero, List.nil_append] at h
theorem toIntS_ev (l : List Int) (hl : l.length ≤ 1048576) : Ev (fun k => laws_toIntS.f k l) l := by
  refine Ev.congr (fun k => ?_) (build_ev 0 (fun k acc i => laws_toIntS.l0 k l acc i) l (fun _ i => some (l.getD i 0)) (fun k i acc hi ha => by
    simp only [laws_toIntS.l0]
    rw [if_pos (by omega), if_pos (by omega), if_pos (by omega), rd_nat, succ_i i (by omega), Int.toNat_natCast, Option.bind_some]) (fun i h => by rw [getD_in l i 0 h]; exact Ev.now _) (fun k acc => by simp only [laws_toIntS.l0]; rw [if_neg (by omega)]))
  unfold laws_toIntS.f
  rw [if_pos (by omega), if_pos (by omega), Int.toNat_natCast]
def toBlk (x : S80) : S61 := ⟨x.f0, x.f1, x.f2⟩
theorem toBlockS_ev (l : List S80) (hl : l.length ≤ 1048576) : Ev (fun k => laws_toBlockS.f k l) (l.map toBlk) := by
  have hn : (l.map toBlk).length = l.length := List.length_map _
  have h := build_ev z61 (fun k acc i => laws_toBlockS.l0 k l acc i) (l.map toBlk) (fun _ i => some (toBlk (l.getD i z80))) (fun k i acc hi ha => by
    simp only [laws_toBlockS.l0]
    rw [if_pos (by omega), if_pos (by omega), rdL_nat]
    unfold laws_toBlock.f
    rw [Option.bind_some, if_pos (by omega), succ_i i (by omega), Int.toNat_natCast, Option.bind_some]
    rfl) (fun i h => by rw [List.getElem_map, getD_in l i _ (by omega)]; exact Ev.now _) (fun k acc => by simp only [laws_toBlockS.l0]; rw [if_neg (by omega)])
  rw [hn] at h
  refine Ev.congr (fun k => ?_) h
  unfold laws_toBlockS.f
  rw [if_pos (by omega), if_pos (by omega), Int.toNat_natCast]
theorem toBlockSS_ev (l : List (List S80)) (hl : l.length ≤ 1048576) (hr : ∀ x ∈ l, x.length ≤ 1048576) : Ev (fun k => laws_toBlockSS.f k l) (l.map (List.map toBlk)) := by
  have hn : (l.map (List.map toBlk)).length = l.length := List.length_map _
  have h := build_ev ([] : List S61) (fun k acc i => laws_toBlockSS.l0 k l acc i) (l.map (List.map toBlk)) (fun k i => laws_toBlockS.f k (l.getD i [])) (fun k i acc hi ha => by
    simp only [laws_toBlockSS.l0]
    rw [if_pos (by omega), if_pos (by omega), rdRL_nat]
    refine congrArg _ (funext fun t => ?_)
    rw [if_pos (by omega), succ_i i (by omega), Int.toNat_natCast]) (fun i h => by
      rw [List.getElem_map, getD_in l i _ (by omega)]
      exact toBlockS_ev _ (hr _ (List.getElem_mem _))) (fun k acc => by simp only [laws_toBlockSS.l0]; rw [if_neg (by omega)])
  rw [hn] at h
  refine Ev.congr (fun k => ?_) h
  unfold laws_toBlockSS.f
  rw [if_pos (by omega), if_pos (by omega), Int.toNat_natCast]
theorem toOram_ev (p : List Int) (st : List S80) (bu : List (List S80)) (hp : p.length ≤ 1048576) (hs : st.length ≤ 1048576) (hb : bu.length ≤ 1048576) (hr : ∀ x ∈ bu, x.length ≤ 1048576) :
    Ev (fun k => laws_toOram.f k p st bu) (p, st.map toBlk, bu.map (List.map toBlk)) := by
  unfold laws_toOram.f
  exact Ev.bind (toIntS_ev p hp) (Ev.bind (toBlockS_ev st hs) (Ev.bind (toBlockSS_ev bu hb hr) (Ev.now _)))
/-- An Oram that comes in. -/
def OrIn (p : List Int) (st : List S80) (bu : List (List S80)) : Prop := p.length ≤ 9223372036854775807 ∧ st.length ≤ 9223372036854775807 ∧ Rows bu
theorem szInt_eq (n : Nat) (x : Int) (hn : n ≤ 9223372036854775807) (h0 : 0 ≤ x) (h1 : x ≤ 1048576) : ∃ r, (if (wrap64 (x - (n : Int))) < 0 then some (-1) else some (wrap64 (x - (n : Int)))) = some r ∧ (r < 0 ∨ (0 ≤ r ∧ r ≤ x ∧ n ≤ 1048576)) := by
  have hw : wrap64 (x - (n : Int)) = x - (n : Int) := wrap_ok _ (by omega) (by omega)
  rw [hw]
  by_cases h : x - (n : Int) < 0
  · rw [if_pos h]; exact ⟨-1, rfl, .inl (by decide)⟩
  · rw [if_neg h]; exact ⟨_, rfl, .inr ⟨by omega, by omega, by omega⟩⟩
theorem szBlockSS_loop (l : List (List S80)) (hl : Rows l) (d : Nat) : ∀ (i : Nat) (x : Int), l.length - i = d → i ≤ l.length → 0 ≤ x → x ≤ 1048576 →
    ∃ r, Ev (fun k => laws_szBlockSS.l0 k l x (i : Int)) r ∧ (r < 0 ∨ (0 ≤ r ∧ r ≤ x ∧ ∀ y ∈ l.drop i, y.length ≤ 1048576)) := by
  have hm := hl.1
  induction d with
  | zero =>
    intro i x hd hi h0 h1
    refine ⟨x, Ev.step (f := fun _ => some x) (fun k => ?_) (Ev.now x), .inr ⟨h0, Int.le_refl _, ?_⟩⟩
    · simp only [laws_szBlockSS.l0]
      rw [if_neg (by omega)]
    · rw [List.drop_of_length_le (by omega)]; simp
  | succ d ih =>
    intro i x hd hi h0 h1
    have hlt : i < l.length := by omega
    obtain ⟨t, ht, h⟩ := szInt_eq l[i].length x (hl.2 _ (List.getElem_mem hlt)) h0 h1
    have hf : laws_szBlockS.f (rd_L2 l (i : Int)) x = some t := by rw [rdRL_nat, getD_in l i [] hlt]; unfold laws_szBlockS.f; exact ht
    rcases h with h | ⟨h2, h3, h4⟩
    · refine ⟨-1, Ev.step (f := fun _ => some (-1)) (fun k => ?_) (Ev.now (-1)), .inl (by decide)⟩
      simp only [laws_szBlockSS.l0]
      rw [if_pos (by omega), if_pos (by omega), hf, Option.bind_some, if_pos h]
    · obtain ⟨r, hr, hr2⟩ := ih (i + 1) t (by omega) (by omega) h2 (by omega)
      refine ⟨r, Ev.step (fun k => ?_) hr, ?_⟩
      · simp only [laws_szBlockSS.l0]
        rw [if_pos (by omega), if_pos (by omega), hf, Option.bind_some, if_neg (by omega), succ_i i (by omega)]
      · rcases hr2 with g | ⟨g1, g2, g3⟩
        · exact .inl g
        · refine .inr ⟨g1, by omega, ?_⟩
          rw [List.drop_eq_getElem_cons hlt]
          intro y hy
          rcases List.mem_cons.1 hy with rfl | hy
          · exact h4
          · exact g3 y hy
theorem szOram_ev (p : List Int) (st : List S80) (bu : List (List S80)) (hin : OrIn p st bu) (x : Int) (h0 : 0 ≤ x) (h1 : x ≤ 1048576) :
    ∃ r, Ev (fun k => laws_szOram.f k p st bu x) r ∧ (r < 0 ∨ (0 ≤ r ∧ r ≤ x ∧ p.length ≤ 1048576 ∧ st.length ≤ 1048576 ∧ bu.length ≤ 1048576 ∧ ∀ y ∈ bu, y.length ≤ 1048576)) := by
  obtain ⟨hp, hs, hb⟩ := hin
  obtain ⟨t0, e0, h⟩ := szInt_eq p.length x hp h0 h1
  have f0 : laws_szIntS.f p x = some t0 := by unfold laws_szIntS.f; exact e0
  unfold laws_szOram.f
  simp only [f0, Option.bind_some]
  rcases h with h | ⟨g0, g1, g2⟩
  · simp only [if_pos h]; exact ⟨-1, Ev.now _, .inl (by decide)⟩
  have nt : ¬ t0 < 0 := by omega
  simp only [if_neg nt]
  obtain ⟨t1, e1, h⟩ := szInt_eq st.length t0 hs g0 (by omega)
  have f1 : laws_szBlockS.f st t0 = some t1 := by unfold laws_szBlockS.f; exact e1
  simp only [f1, Option.bind_some]
  rcases h with h | ⟨k0, k1, k2⟩
  · simp only [if_pos h]; exact ⟨-1, Ev.now _, .inl (by decide)⟩
  have nt1 : ¬ t1 < 0 := by omega
  simp only [if_neg nt1]
  have hB : ∃ t2, Ev (fun k => laws_szBlockSS.f k bu t1) t2 ∧ (t2 < 0 ∨ (0 ≤ t2 ∧ t2 ≤ t1 ∧ bu.length ≤ 1048576 ∧ ∀ y ∈ bu, y.length ≤ 1048576)) := by
    have hm := hb.1
    have hw : wrap64 (t1 - (bu.length : Int)) = t1 - (bu.length : Int) := wrap_ok _ (by omega) (by omega)
    unfold laws_szBlockSS.f
    rw [hw]
    by_cases hn : t1 - (bu.length : Int) < 0
    · simp only [if_pos hn]; exact ⟨-1, Ev.now _, .inl (by decide)⟩
    · simp only [if_neg hn]
      obtain ⟨r, hr, hr2⟩ := szBlockSS_loop bu hb bu.length 0 (t1 - (bu.length : Int)) (by omega) (by omega) (by omega) (by omega)
      refine ⟨r, hr, ?_⟩
      rcases hr2 with g | ⟨m0, m1, m2⟩
      · exact .inl g
      · exact .inr ⟨m0, by omega, by omega, by simpa using m2⟩
  obtain ⟨t2, e2, h⟩ := hB
  rcases h with h | ⟨m0, m1, m2, m3⟩
  · exact ⟨-1, Ev.bind e2 (by simp only [if_pos h]; exact Ev.now _), .inl (by decide)⟩
  · have nt2 : ¬ t2 < 0 := by omega
    exact ⟨t2, Ev.bind e2 (by simp only [if_neg nt2]; exact Ev.now _), .inr ⟨m0, by omega, g2, k2, m2, m3⟩⟩
end Go.Proofs.Ytmodpocjnafpdaa.Leaf
