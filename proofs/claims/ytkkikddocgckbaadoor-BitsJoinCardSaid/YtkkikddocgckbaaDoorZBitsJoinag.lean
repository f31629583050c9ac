/- BitsHold over places that are read as data; the library's table as the program lays it. -/
import Derived.LaidLaws
import Derived.Lib.LaidTab
import Derived.OpenShut
import Derived.Test.YtkkikddocgckbaaDoorRows
import Derived.Test.YtkkikddocgckbaaDoorZBitsJoinaa
import Derived.Test.YtkkikddocgckbaaDoorZBitsJoinab
import Derived.Test.YtkkikddocgckbaaDoorZBitsJoinaf
section
/- What two sets of bits have both, or one of both, plainly. -/
namespace Go.Proofs.YtkkikddocgckbaaDoor.BPure
open Go.RowKit Go.Proofs.YtkkikddocgckbaaDoor.PBit Go.Proofs.YtkkikddocgckbaaDoor.Given Go.Proofs.YtkkikddocgckbaaDoor.BitsMath Go.Proofs.YtkkikddocgckbaaDoorW.PrintWords Go.Proofs.YtkkikddocgckbaaDoorW.PrintLast Go.Proofs.YtkkikddocgckbaaDoorW.PrintMore
set_option linter.unusedVariables false
set_option linter.unusedSimpArgs false
def tabN {α : Type} (n : Nat) (g : Nat → α) : List α := (List.range n).map g
theorem tabN_len {α : Type} (n : Nat) (g : Nat → α) : (tabN n g).length = n := by simp [tabN]
theorem tabN_get {α : Type} (n : Nat) (g : Nat → α) (d : α) (i : Nat) : (tabN n g).getD i d = if i < n then g i else d := by
  unfold tabN
  rw [List.getD_eq_getElem?_getD, List.getElem?_map]
  by_cases h : i < n
  · rw [List.getElem?_range h, if_pos h]; rfl
  · rw [if_neg h, List.getElem?_eq_none (by simp; omega)]; rfl
theorem tabN_set {α : Type} (n : Nat) (g g' : Nat → α) (j : Nat) (h : ∀ i, i ≠ j → g i = g' i) : (tabN n g).set j (g' j) = tabN n g' := by
  unfold tabN
  apply List.ext_getElem?
  intro i
  rw [List.getElem?_set, List.getElem?_map, List.getElem?_map]
  by_cases hj : j = i
  · subst hj
    rw [if_pos rfl]
    by_cases hn : j < n
    · rw [if_pos (by simpa using hn), List.getElem?_range hn]; rfl
    · rw [if_neg (by simpa using hn), List.getElem?_eq_none (by simp; omega)]; rfl
  · rw [if_neg hj]
    by_cases hn : i < n
    · rw [List.getElem?_range hn]; simp [h i (fun e => hj e.symm)]
    · rw [List.getElem?_eq_none (by simp; omega)]; rfl
theorem tabN_congr {α : Type} {n : Nat} {g g' : Nat → α} (h : ∀ i, i < n → g i = g' i) : tabN n g = tabN n g' := by
  unfold tabN
  exact List.map_congr_left fun i hi => h i (List.mem_range.1 hi)
theorem self_tabN {α : Type} (x : List α) (d : α) : tabN x.length (fun i => x.getD i d) = x := by
  unfold tabN
  apply List.ext_getElem?
  intro i
  rw [List.getElem?_map]
  by_cases h : i < x.length
  · rw [List.getElem?_range h, List.getElem?_eq_getElem h]; simp [List.getD_eq_getElem?_getD, List.getElem?_eq_getElem h]
  · rw [List.getElem?_eq_none (by simp; omega), List.getElem?_eq_none (by omega)]; rfl
def andL (x y : List Bool) : List Bool := tabN (min x.length y.length) (fun i => x.getD i false && y.getD i false)
def orL (x y : List Bool) : List Bool := tabN (max x.length y.length) (fun i => x.getD i false || y.getD i false)
theorem andL_comm (x y : List Bool) : andL y x = andL x y := by
  unfold andL; rw [Nat.min_comm]; exact tabN_congr fun i _ => Bool.and_comm _ _
theorem orL_comm (x y : List Bool) : orL y x = orL x y := by
  unfold orL; rw [Nat.max_comm]; exact tabN_congr fun i _ => Bool.or_comm _ _
theorem getD_out {x : List Bool} {i : Nat} (h : x.length ≤ i) : x.getD i false = false := by
  rw [List.getD_eq_getElem?_getD, List.getElem?_eq_none h]; rfl
theorem cnt_succ (n : Nat) (p : Nat → Bool) : (tabN (n + 1) p).count true = (tabN n p).count true + (if p n = true then 1 else 0) := by
  unfold tabN
  rw [List.range_succ, List.map_append, List.count_append]
  cases h : p n <;> simp [h]
theorem cnt_more (m : Nat) (p : Nat → Bool) (h : ∀ i, m ≤ i → p i = false) : ∀ d, (tabN (m + d) p).count true = (tabN m p).count true
  | 0 => rfl
  | d + 1 => by rw [show m + (d + 1) = (m + d) + 1 by omega, cnt_succ, cnt_more m p h d, h (m + d) (by omega)]; simp
theorem cnt_both (a b : Nat → Bool) : ∀ n, (tabN n (fun i => a i && b i)).count true + (tabN n (fun i => a i || b i)).count true = (tabN n a).count true + (tabN n b).count true
  | 0 => rfl
  | n + 1 => by
    have := cnt_both a b n
    simp only [cnt_succ]
    cases a n <;> cases b n <;> simp <;> omega
theorem count_both (x y : List Bool) : (andL x y).count true + (orL x y).count true = x.count true + y.count true := by
  have e := cnt_both (fun i => x.getD i false) (fun i => y.getD i false) (max x.length y.length)
  have e1 := cnt_more (min x.length y.length) (fun i => x.getD i false && y.getD i false) (fun i hi => by
    rcases Nat.lt_or_ge i x.length with h | h
    · simp only [getD_out (x := y) (i := i) (by omega), Bool.and_false]
    · simp only [getD_out h, Bool.false_and]) (max x.length y.length - min x.length y.length)
  have e2 := cnt_more x.length (fun i => x.getD i false) (fun i hi => getD_out hi) (max x.length y.length - x.length)
  have e3 := cnt_more y.length (fun i => y.getD i false) (fun i hi => getD_out hi) (max x.length y.length - y.length)
  rw [show min x.length y.length + (max x.length y.length - min x.length y.length) = max x.length y.length by omega] at e1
  rw [show x.length + (max x.length y.length - x.length) = max x.length y.length by omega, self_tabN] at e2
  rw [show y.length + (max x.length y.length - y.length) = max x.length y.length by omega, self_tabN] at e3
  unfold andL orL
  rw [← e1, e, e2, e3]
theorem bit_tab {N : Nat} {g : Nat → Nat} (i : Nat) : bit (tabN N g) i = if i / 64 < N then (g (i / 64)).testBit (i % 64) else false := by
  unfold bit
  rw [tabN_get]
  split
  · rfl
  · simp
theorem tab_lim {N : Nat} {g : Nat → Nat} (h : ∀ i, g i < 18446744073709551616) : ∀ n ∈ tabN N g, n < 18446744073709551616 := by
  intro n hn
  obtain ⟨i, _, rfl⟩ := List.mem_map.1 hn
  exact h i
theorem holds_and {W V : List Nat} {x y : List Bool} (h : Holds W x) (h' : Holds V y) : Holds (tabN ((min x.length y.length + 63) / 64) (fun i => W.getD i 0 &&& V.getD i 0)) (andL x y) := by
  refine ⟨tab_lim fun i => Nat.lt_of_le_of_lt Nat.and_le_left (getD_lt h.lim i), by rw [tabN_len]; unfold andL; rw [tabN_len], fun i => ?_⟩
  have a := h.at_ i
  have b := h'.at_ i
  unfold bit at a b
  unfold andL
  rw [bit_tab, tabN_get, Nat.testBit_and, a, b]
  by_cases h1 : i < min x.length y.length
  · rw [if_pos h1, if_pos (by omega)]
  · rw [if_neg h1]
    have : (x.getD i false && y.getD i false) = false := by
      rcases Nat.lt_or_ge i x.length with h | h
      · rw [getD_out (x := y) (i := i) (by omega), Bool.and_false]
      · rw [getD_out h, Bool.false_and]
    rw [this]
    split <;> rfl
theorem holds_or {W V : List Nat} {x y : List Bool} (h : Holds W x) (h' : Holds V y) : Holds (tabN ((max x.length y.length + 63) / 64) (fun i => W.getD i 0 ||| V.getD i 0)) (orL x y) := by
  refine ⟨tab_lim fun i => Nat.or_lt_two_pow (n := 64) (getD_lt h.lim i) (getD_lt h'.lim i), by rw [tabN_len]; unfold orL; rw [tabN_len], fun i => ?_⟩
  have a := h.at_ i
  have b := h'.at_ i
  unfold bit at a b
  unfold orL
  rw [bit_tab, tabN_get, Nat.testBit_or, a, b]
  by_cases h1 : i < max x.length y.length
  · rw [if_pos h1, if_pos (by omega)]
  · rw [if_neg h1, getD_out (x := x) (i := i) (by omega), getD_out (x := y) (i := i) (by omega)]
    split <;> rfl
theorem and_loop {W V : List Nat} {x y : List Bool} {R1 R2 R : Int} {l1 l2 : List Int} (h : Rep R1 l1 x W) (h' : Rep R2 l2 y V) (N : Nat) (hN : N = (min x.length y.length + 63) / 64) : ∀ (m j : Nat), j + m = N → ∀ k, m + 1 ≤ k →
    bits_Set_And.l0 k (N : Int) (j : Int) R1 l1 R2 l2 R (up (tabN N (fun i => if i < j then W.getD i 0 &&& V.getD i 0 else 0))) = some (R, up (tabN N (fun i => W.getD i 0 &&& V.getD i 0))) := by
  have e1 := h.holds.len
  have e2 := h'.holds.len
  have e3 := h.lim
  have e4 := h'.lim
  intro m
  induction m with
  | zero =>
    intro j hj k hk
    obtain ⟨k, rfl⟩ : ∃ k', k = k' + 1 := ⟨k - 1, by omega⟩
    rw [bits_Set_And.l0, if_neg (by omega)]
    congr 2
    congr 1
    exact tabN_congr fun i hi => if_pos (by omega)
  | succ m ih =>
    intro j hj k hk
    obtain ⟨k, rfl⟩ : ∃ k', k = k' + 1 := ⟨k - 1, by omega⟩
    have a1 : l1.length = W.length := by rw [h.words, up_len]
    have a2 : l2.length = V.length := by rw [h'.words, up_len]
    rw [bits_Set_And.l0, if_pos (by omega), if_pos (by omega), if_pos (by omega), if_pos (by omega), if_pos (by rw [up_len, tabN_len]; omega), w64 _ (by omega) (by omega)]
    rw [h.words, h'.words, rd_up, rd_up, and_u64_nat _ _ (getD_lt h.holds.lim j) (getD_lt h'.holds.lim j), Int.toNat_natCast, up_set]
    have := tabN_set N (fun i => if i < j then W.getD i 0 &&& V.getD i 0 else 0) (fun i => if i < j + 1 then W.getD i 0 &&& V.getD i 0 else 0) j (fun i hi => by
      by_cases hij : i < j
      · rw [if_pos hij, if_pos (by omega)]
      · rw [if_neg hij, if_neg (by omega)])
    simp only [Nat.lt_succ_self, if_true] at this
    rw [this]
    have ih' := ih (j + 1) (by omega) k (by omega)
    rw [h.words, h'.words] at ih'
    exact ih'
theorem and_is {R1 R2 : Int} {l1 l2 : List Int} {x y : List Bool} {W V : List Nat} (h : Rep R1 l1 x W) (h' : Rep R2 l2 y V) (k : Nat) (hk : 1026 ≤ k) : ∃ R l Z, bits_Set_And.f k R1 l1 R2 l2 = some (R, l) ∧ Rep R l (andL x y) Z := by
  have e3 := h.lim
  have e4 := h'.lim
  obtain ⟨n, hn, e0, e1, _, h2⟩ := new_is (mn R1 R2)
  have en : n = min x.length y.length := by
    have : mn R1 R2 = ((min x.length y.length : Nat) : Int) := by rw [h.room, h'.room]; unfold mn; split <;> omega
    rw [this, (rooms _ (by omega)).1] at e0
    omega
  unfold bits_Set_And.f
  rw [e1, Option.bind_some]
  simp only [up_len, List.length_replicate]
  have hl := and_loop (R := (n : Int)) h h' ((n + 63) / 64) (by rw [en]) ((n + 63) / 64) 0 (by omega) k (by omega)
  have hz : tabN ((n + 63) / 64) (fun i => if i < 0 then W.getD i 0 &&& V.getD i 0 else 0) = List.replicate ((n + 63) / 64) 0 := by
    unfold tabN
    simp [List.map_const']
  rw [hz] at hl
  refine ⟨_, _, _, hl, ?_, ?_, rfl, ?_⟩
  · unfold andL; rw [tabN_len, en]
  · unfold andL; rw [tabN_len]; omega
  · rw [en]; exact holds_and h.holds h'.holds
theorem or_loop {W V : List Nat} {x y : List Bool} {R1 R2 R : Int} {l2 : List Int} (hW : Holds W x) (h' : Rep R2 l2 y V) (hx : x.length ≤ 65536) (N : Nat) (hN : N = (max x.length y.length + 63) / 64) : ∀ (m j : Nat), j + m = V.length → ∀ k, m + 1 ≤ k →
    bits_Set_Or.l0 k l2 (V.length : Int) (j : Int) R (up (tabN N (fun i => W.getD i 0 ||| (if i < j then V.getD i 0 else 0)))) = some (R, up (tabN N (fun i => W.getD i 0 ||| V.getD i 0))) := by
  have e1 := hW.len
  have e2 := h'.holds.len
  have e4 := h'.lim
  intro m
  induction m with
  | zero =>
    intro j hj k hk
    obtain ⟨k, rfl⟩ : ∃ k', k = k' + 1 := ⟨k - 1, by omega⟩
    rw [bits_Set_Or.l0, if_neg (by omega)]
    congr 2
    congr 1
    refine tabN_congr fun i hi => ?_
    by_cases hij : i < j
    · rw [if_pos hij]
    · rw [if_neg hij]
      have : V.getD i 0 = 0 := by rw [List.getD_eq_getElem?_getD, List.getElem?_eq_none (by omega)]; rfl
      rw [this]
  | succ m ih =>
    intro j hj k hk
    obtain ⟨k, rfl⟩ : ∃ k', k = k' + 1 := ⟨k - 1, by omega⟩
    have a2 : l2.length = V.length := by rw [h'.words, up_len]
    rw [bits_Set_Or.l0, if_pos (by omega), if_pos (by omega), if_pos (by omega), if_pos (by rw [up_len, tabN_len]; omega), w64 _ (by omega) (by omega)]
    have hlim : ∀ i, W.getD i 0 ||| (if i < j then V.getD i 0 else 0) < 18446744073709551616 := fun i => Nat.or_lt_two_pow (n := 64) (getD_lt hW.lim i) (by
      split
      · exact getD_lt h'.holds.lim i
      · decide)
    rw [h'.words, rd_up, rd_up, tabN_get, if_pos (by omega), or_u64_nat _ _ (hlim j) (getD_lt h'.holds.lim j), Int.toNat_natCast, up_set, if_neg (Nat.lt_irrefl j), Nat.or_zero]
    have := tabN_set N (fun i => W.getD i 0 ||| (if i < j then V.getD i 0 else 0)) (fun i => W.getD i 0 ||| (if i < j + 1 then V.getD i 0 else 0)) j (fun i hi => by
      by_cases hij : i < j
      · rw [if_pos hij, if_pos (by omega)]
      · rw [if_neg hij, if_neg (by omega)])
    simp only [Nat.lt_succ_self, if_true] at this
    rw [this]
    have ih' := ih (j + 1) (by omega) k (by omega)
    rw [h'.words] at ih'
    exact ih'
theorem or_is {R1 R2 : Int} {l1 l2 : List Int} {x y : List Bool} {W V : List Nat} (h : Rep R1 l1 x W) (h' : Rep R2 l2 y V) (k : Nat) (hk : 1026 ≤ k) : ∃ R l Z, bits_Set_Or.f k R1 l1 R2 l2 = some (R, l) ∧ Rep R l (orL x y) Z := by
  have e3 := h.lim
  have e4 := h'.lim
  have e1 := h.holds.len
  have e2 := h'.holds.len
  have em : mx R1 R2 = ((max x.length y.length : Nat) : Int) := by rw [h.room, h'.room]; unfold mx; split <;> omega
  have hr := rooms (max x.length y.length) (by omega)
  unfold bits_Set_Or.f bits_Set_copied.f
  rw [em, hr.1, hr.2, Option.bind_some]
  simp only [h'.words, up_len]
  have ec : copyW ((max x.length y.length + 63) / 64) l1 = up (tabN ((max x.length y.length + 63) / 64) (fun i => W.getD i 0 ||| (if i < 0 then V.getD i 0 else 0))) := by
    have hz : ∀ i, W.getD i 0 ||| (if i < 0 then V.getD i 0 else 0) = W.getD i 0 := fun i => by rw [if_neg (Nat.not_lt_zero i), Nat.or_zero]
    simp only [hz]
    rw [h.words]
    unfold copyW up tabN
    apply List.ext_getElem?
    intro i
    rw [List.getElem?_map, List.getElem?_map]
    by_cases hi : i < (max x.length y.length + 63) / 64
    · rw [List.getElem?_range hi]
      by_cases hw : i < W.length
      · rw [List.getElem?_append_left (by simp; omega), List.getElem?_take, if_pos hi, List.getElem?_map, List.getElem?_eq_getElem hw]
        simp [List.getD_eq_getElem?_getD, List.getElem?_eq_getElem hw]
      · rw [List.getElem?_append_right (by simp; omega), List.getElem?_replicate, if_pos (by simp; omega)]
        simp [List.getD_eq_getElem?_getD, List.getElem?_eq_none (by omega : W.length ≤ i)]
    · rw [List.getElem?_eq_none (by simp; omega), List.getElem?_eq_none (by simp; omega)]; rfl
  rw [ec]
  have hl := or_loop (R1 := R1) (R := ((max x.length y.length : Nat) : Int)) h.holds h' e3 _ rfl V.length 0 (by omega) k (by omega)
  rw [h'.words] at hl
  refine ⟨_, _, _, hl, ?_, ?_, rfl, holds_or h.holds h'.holds⟩
  · unfold orL; rw [tabN_len]
  · unfold orL; rw [tabN_len]; omega
theorem drop_iff {α : Type} {W V : List α} {j : Nat} (h1 : j < W.length) (h2 : j < V.length) : (W.drop j = V.drop j) ↔ (W[j] = V[j] ∧ W.drop (j + 1) = V.drop (j + 1)) := by
  rw [List.drop_eq_getElem_cons h1, List.drop_eq_getElem_cons h2, List.cons.injEq]
theorem same_loop {W V : List Nat} (R2 : Int) (hl : W.length = V.length) (hw : W.length ≤ 1024) : ∀ (m j : Nat), j + m = W.length → ∀ k, m + 1 ≤ k →
    bits_Set_Same.l0 k (up W) (W.length : Int) (j : Int) R2 (up V) = some (decide (W.drop j = V.drop j)) := by
  intro m
  induction m with
  | zero =>
    intro j hj k hk
    obtain ⟨k, rfl⟩ : ∃ k', k = k' + 1 := ⟨k - 1, by omega⟩
    rw [bits_Set_Same.l0, if_neg (by omega), List.drop_eq_nil_of_le (by omega), List.drop_eq_nil_of_le (by omega)]
    simp
  | succ m ih =>
    intro j hj k hk
    obtain ⟨k, rfl⟩ : ∃ k', k = k' + 1 := ⟨k - 1, by omega⟩
    have h1 : j < W.length := by omega
    have h2 : j < V.length := by omega
    rw [bits_Set_Same.l0, if_pos (by omega), if_pos (by omega), if_pos (by rw [up_len]; omega), if_pos (by rw [up_len]; omega), rd_up, rd_up, w64 _ (by omega) (by omega)]
    have hd := drop_iff h1 h2
    rw [List.getD_eq_getElem?_getD, List.getElem?_eq_getElem h1, List.getD_eq_getElem?_getD, List.getElem?_eq_getElem h2]
    simp only [Option.getD_some]
    by_cases he : W[j] = V[j]
    · rw [if_pos (by rw [he])]
      have := ih (j + 1) (by omega) k (by omega)
      rw [show (j : Int) + 1 = ((j + 1 : Nat) : Int) by omega, this]
      exact congrArg some (decide_eq_decide.2 ⟨fun h => hd.2 ⟨he, h⟩, fun h => (hd.1 h).2⟩)
    · rw [if_neg (by omega)]
      exact congrArg some (decide_eq_false (fun e => he (hd.1 e).1)).symm
theorem same_is {R1 R2 : Int} {l1 l2 : List Int} {x y : List Bool} {W V : List Nat} (h : Rep R1 l1 x W) (h' : Rep R2 l2 y V) (k : Nat) (hk : 1026 ≤ k) : bits_Set_Same.f k R1 l1 R2 l2 = some (decide (x = y)) := by
  have e1 := h.holds.len
  have e2 := h'.holds.len
  have e3 := h.lim
  unfold bits_Set_Same.f
  by_cases hR : R1 = R2
  · have hxy : x.length = y.length := by have := h.room; have := h'.room; omega
    rw [if_pos hR, h.words, h'.words, up_len]
    have := same_loop (W := W) (V := V) R2 (by omega) (by omega) W.length 0 (by omega) k (by omega)
    refine this.trans ?_
    simp only [List.drop_zero]
    congr 1
    by_cases hx : x = y
    · subst hx
      simp [h.holds.uniq h'.holds]
    · have : W ≠ V := by
        intro e
        subst e
        apply hx
        rw [← self_tabN x false, ← self_tabN y false, hxy]
        exact tabN_congr fun i _ => (h.holds.at_ i).symm.trans (h'.holds.at_ i)
      simp [hx, this]
  · rw [if_neg hR]
    have : x ≠ y := by
      intro e
      subst e
      exact hR (h.room.trans h'.room.symm)
    simp [this]
theorem rsame_loop {x y : List Bool} (hl : x.length = y.length) (hw : x.length ≤ 65536) : ∀ (m j : Nat), j + m = x.length → ∀ k, m + 1 ≤ k →
    ladderbackref06_Same.l0 k x y (j : Int) = some (decide (x.drop j = y.drop j)) := by
  intro m
  induction m with
  | zero =>
    intro j hj k hk
    obtain ⟨k, rfl⟩ : ∃ k', k = k' + 1 := ⟨k - 1, by omega⟩
    rw [ladderbackref06_Same.l0, if_neg (by omega), List.drop_eq_nil_of_le (by omega), List.drop_eq_nil_of_le (by omega)]
    simp
  | succ m ih =>
    intro j hj k hk
    obtain ⟨k, rfl⟩ : ∃ k', k = k' + 1 := ⟨k - 1, by omega⟩
    have h1 : j < x.length := by omega
    have h2 : j < y.length := by omega
    rw [ladderbackref06_Same.l0, if_pos (by omega), if_pos (by omega), if_pos (by omega), rdOf_at, rdOf_at, w64 _ (by omega) (by omega)]
    have hd := drop_iff h1 h2
    rw [List.getD_eq_getElem?_getD, List.getElem?_eq_getElem h1, List.getD_eq_getElem?_getD, List.getElem?_eq_getElem h2]
    simp only [Option.getD_some]
    by_cases he : x[j] = y[j]
    · rw [if_neg (by rw [he]; simp)]
      have := ih (j + 1) (by omega) k (by omega)
      rw [show (j : Int) + 1 = ((j + 1 : Nat) : Int) by omega, this]
      exact congrArg some (decide_eq_decide.2 ⟨fun h => hd.2 ⟨he, h⟩, fun h => (hd.1 h).2⟩)
    · rw [if_pos (by simpa using he)]
      exact congrArg some (decide_eq_false (fun e => he (hd.1 e).1)).symm
theorem rsame_is (x y : List Bool) (hx : x.length ≤ 65536) (k : Nat) (hk : 65538 ≤ k) : ladderbackref06_Same.f k x y = some (decide (x = y)) := by
  unfold ladderbackref06_Same.f
  by_cases hl : x.length = y.length
  · rw [if_pos (by omega)]
    have := rsame_loop hl hx x.length 0 (by omega) k (by omega)
    simpa using this
  · rw [if_neg (by omega)]
    have : x ≠ y := fun e => hl (by rw [e])
    simp [this]
theorem rand_loop (x y : List Bool) (hx : x.length ≤ 65536) : ∀ (m j : Nat), j + m = min x.length y.length → ∀ k, m + 1 ≤ k →
    ladderbackref06_And.l0 k x y (tabN j (fun i => x.getD i false && y.getD i false)) (j : Int) = some (andL x y) := by
  intro m
  induction m with
  | zero =>
    intro j hj k hk
    obtain ⟨k, rfl⟩ : ∃ k', k = k' + 1 := ⟨k - 1, by omega⟩
    rw [ladderbackref06_And.l0]
    have e : tabN j (fun i => x.getD i false && y.getD i false) = andL x y := by unfold andL; rw [← hj]; rfl
    rw [e]
    by_cases h1 : (j : Int) < (x.length : Int)
    · rw [if_pos h1, if_neg (by omega)]
    · rw [if_neg h1]
  | succ m ih =>
    intro j hj k hk
    obtain ⟨k, rfl⟩ : ∃ k', k = k' + 1 := ⟨k - 1, by omega⟩
    rw [ladderbackref06_And.l0, if_pos (by omega), if_pos (by omega), if_pos (by omega), rdOf_at, rdOf_at, w64 _ (by omega) (by omega), tabN_len]
    have ih' := ih (j + 1) (by omega) k (by omega)
    have e : tabN (j + 1) (fun i => x.getD i false && y.getD i false) = tabN j (fun i => x.getD i false && y.getD i false) ++ [x.getD j false && y.getD j false] := by
      unfold tabN; rw [List.range_succ, List.map_append]; rfl
    rw [e] at ih'
    by_cases hb : x.getD j false = true
    · rw [if_pos hb, if_pos (by omega)]
      rw [hb, Bool.true_and] at ih'
      exact ih'
    · have hb' : x.getD j false = false := by simpa using hb
      rw [if_neg hb, if_pos (by omega)]
      rw [hb', Bool.false_and] at ih'
      exact ih'
theorem rand_is (x y : List Bool) (hx : x.length ≤ 65536) (k : Nat) (hk : 65538 ≤ k) : ladderbackref06_And.f k x y = some (andL x y) := by
  unfold ladderbackref06_And.f
  exact rand_loop x y hx (min x.length y.length) 0 (by omega) k (by omega)
theorem rhas_at (x : List Bool) (j : Nat) : ladderbackref06_Has.f x (j : Int) = some (x.getD j false) := by
  unfold ladderbackref06_Has.f
  rw [if_pos (by omega)]
  by_cases h : (j : Int) < (x.length : Int)
  · rw [if_pos h, if_pos (by omega), rdOf_at]
  · rw [if_neg h, getD_out (by omega)]
theorem ror_loop (x y : List Bool) (hx : x.length ≤ 65536) (hy : y.length ≤ 65536) : ∀ (m j : Nat), j + m = max x.length y.length → ∀ k, 2 * m + 2 ≤ k →
    ladderbackref06_Or.l0 k x y (tabN j (fun i => x.getD i false || y.getD i false)) (j : Int) = some (orL x y) := by
  intro m
  induction m with
  | zero =>
    intro j hj k hk
    obtain ⟨k, rfl⟩ : ∃ k', k = k' + 2 := ⟨k - 2, by omega⟩
    have e : tabN j (fun i => x.getD i false || y.getD i false) = orL x y := by unfold orL; rw [← hj]; rfl
    rw [ladderbackref06_Or.l0, e, if_neg (by omega), ladderbackref06_Or.j1, if_neg (by simp; omega)]
  | succ m ih =>
    intro j hj k hk
    obtain ⟨k, rfl⟩ : ∃ k', k = k' + 2 := ⟨k - 2, by omega⟩
    have ih' := ih (j + 1) (by omega) k (by omega)
    have e : tabN (j + 1) (fun i => x.getD i false || y.getD i false) = tabN j (fun i => x.getD i false || y.getD i false) ++ [x.getD j false || y.getD j false] := by
      unfold tabN; rw [List.range_succ, List.map_append]; rfl
    rw [e] at ih'
    have key : ladderbackref06_Or.j1 (k + 1) x y (tabN j (fun i => x.getD i false || y.getD i false)) (j : Int) true = some (orL x y) := by
      rw [ladderbackref06_Or.j1, if_pos rfl, rhas_at, Option.bind_some, tabN_len, w64 _ (by omega) (by omega)]
      by_cases hb : x.getD j false = true
      · rw [if_pos hb, if_pos (by omega)]
        rw [hb, Bool.true_or] at ih'
        exact ih'
      · have hb' : x.getD j false = false := by simpa using hb
        rw [if_neg hb, rhas_at, Option.bind_some, if_pos (by omega)]
        rw [hb', Bool.false_or] at ih'
        exact ih'
    rw [ladderbackref06_Or.l0]
    by_cases h1 : (j : Int) < (x.length : Int)
    · rw [if_pos h1]; exact key
    · rw [if_neg h1, show decide ((j : Int) < (y.length : Int)) = true from decide_eq_true (by omega)]; exact key
theorem ror_is (x y : List Bool) (hx : x.length ≤ 65536) (hy : y.length ≤ 65536) (k : Nat) (hk : 131080 ≤ k) : ladderbackref06_Or.f k x y = some (orL x y) := by
  unfold ladderbackref06_Or.f
  exact ror_loop x y hx hy (max x.length y.length) 0 (by omega) k (by omega)
end Go.Proofs.YtkkikddocgckbaaDoor.BPure
end

section
/- A region that draws its order: each operation by itself, whatever order comes up; no conditions. -/
namespace Go.Proofs.YtkkikddocgckbaaDoor.Reg
open Go Go.RowKit Go.Proofs.YtkkikddocgckbaaDoorW.PrintWords Go.Proofs.YtkkikddocgckbaaDoorW.PrintLast
/-- What stands while a region's operations come up in whatever order. D: the slots that they fill; S: what each one's value is. -/
structure RegI (D : List (Option Tmp)) (S : Nat → World → Value → Prop) (a0 : Act) (w0 : World) (b : Nat → Bool) (a : Act) (w : World) : Prop where
  below : Below w0.heap.size w0 w
  defers : a.defers = a0.defers
  size : a.tmps.size = a0.tmps.size
  elder : ∀ t, some t ∉ D → a.tmps[t]? = a0.tmps[t]?
  vals : ∀ (i : Nat) (t : Tmp), D[i]? = some (some t) → b i = true → ∃ v, a.tmps[t]? = some v ∧ S i w v
/-- Operation i, all that it waits for having come up. -/
def RStep (P : Program) (ops : Array Oper) (Q : Exit → Act → World → Prop) (B : List Nat) (D : List (Option Tmp)) (S : Nat → World → Value → Prop) (a0 : Act) (w0 : World) (i : Nat) : Prop :=
  ∀ a w, Below w0.heap.size w0 w → a.tmps.size = a0.tmps.size → (∀ t, some t ∉ D → a.tmps[t]? = a0.tmps[t]?) →
    (∀ (j : Nat) (t : Tmp), (B.getD i 0).testBit j = true → D[j]? = some (some t) → ∃ v, a.tmps[t]? = some v ∧ S j w v) →
    ∃ oi, ops[i]? = some oi ∧ ∀ K : Act → World → Prop, Shut (∀ v w', Below w.heap.size w w' → S i w' v → K (a.put oi.dst v) w') →
      if Region.wanted oi (yielded ops a.tmps) = true then Oper.wp P oi a w K Q else K (a.put oi.dst undef) w
theorem distinct {D : List (Option Tmp)} (h : (D.filterMap id).Nodup) : ∀ {i j : Nat} {t : Tmp}, D[i]? = some (some t) → D[j]? = some (some t) → i = j := by
  induction D with
  | nil => intro i j t hi; simp at hi
  | cons d D ih =>
    intro i j t hi hj
    have mem : ∀ {k : Nat}, D[k]? = some (some t) → t ∈ D.filterMap id := fun {k} hk => List.mem_filterMap.2 ⟨some t, List.mem_of_getElem? hk, rfl⟩
    cases d with
    | none =>
      have h' : (D.filterMap id).Nodup := by simpa using h
      cases i with
      | zero => simp at hi
      | succ i =>
        cases j with
        | zero => simp at hj
        | succ j => exact congrArg (· + 1) (ih h' (by simpa using hi) (by simpa using hj))
    | some u =>
      have h' : u ∉ D.filterMap id ∧ (D.filterMap id).Nodup := by simpa using h
      cases i with
      | zero =>
        cases j with
        | zero => rfl
        | succ j =>
          have hu : u = t := by simpa using hi
          subst hu
          exact absurd (mem (by simpa using hj)) h'.1
      | succ i =>
        cases j with
        | zero =>
          have hu : u = t := by simpa using hj
          subst hu
          exact absurd (mem (by simpa using hi)) h'.1
        | succ j => exact congrArg (· + 1) (ih h'.2 (by simpa using hi) (by simpa using hj))
theorem region_any {P : Program} {ops : Array Oper} {Q : Exit → Act → World → Prop} {id : Nat} {a0 : Act} {w0 : World} (D : List (Option Tmp)) (B : List Nat) (T : Bool × List (List Nat × List Nat)) (S : Nat → World → Value → Prop)
    (hm : P.follows .mixedOrders = true) (hT : rtab .any ops = T) (hB : waitsOk T.2 B = true) (hk : baseOk T.2 (List.range ops.size) = true) (hD : ops.toList.map (·.dst) = D) (hd : (D.filterMap _root_.id).Nodup)
    (hsz : (D.filterMap _root_.id).all (fun t => Nat.blt t a0.tmps.size) = true)
    (hmono : ∀ i w1 w2 v, Below w1.heap.size w1 w2 → S i w1 v → S i w2 v) (O : List Nat) (hO : List.range ops.size = O) (hstep : ∀ i ∈ O, RStep P ops Q B D S a0 w0 i)
    (hend : ∀ a w, RegI D S a0 w0 (fun _ => true) a w → Q .normal a w) : (Code.region id ops true).wp P Q a0 w0 := by
  subst hO
  refine wp_region_last (S := fun _ => True) (ds := []) hm ?_
  have hl : T.2.length = ops.size := by rw [← hT]; exact rtab_length
  refine inv_ (T := T) (B := B) (List.range ops.size) (RegI D S a0 w0) hT hB hk ?_ ?_ ?_ ?_
  · rw [hl]
    simp only [Bool.and_eq_true, beq_iff_eq, List.length_range, and_true]
    apply List.ext_getElem?
    intro j
    by_cases hj : j < ops.size
    · simp [lof, hj]
    · simp [lof, hj]
  · exact ⟨⟨rfl, rfl, rfl, Nat.le_refl _, fun _ _ => rfl⟩, rfl, rfl, fun _ _ => rfl, fun _ _ _ h => by cases h⟩
  · intro i hi b a w hI hb hon hoff
    have hi' : i < ops.size := List.mem_range.1 hi
    obtain ⟨oi, hoi, hK⟩ := hstep i hi a w hI.below hI.size hI.elder (fun j t hj ht => by
      refine hI.vals j t ht (hon j ?_)
      rw [hj, Bool.and_true, List.contains_iff_mem, List.mem_range]
      have := (List.getElem?_eq_some_iff.1 ht).1
      rw [← hD] at this
      simpa using this)
    refine ⟨oi, hoi, fun K hS => hK K (fun v w' hbw hs => hS.out _ _ ?_)⟩
    have hDi : D[i]? = some oi.dst := by rw [← hD, List.getElem?_map, Array.getElem?_toList, hoi]; rfl
    have hbel : Below w0.heap.size w0 w' := hI.below.trans (hbw.mono hI.below.size)
    refine ⟨hbel, by cases oi.dst <;> simp [Act.put, hI.defers], by cases oi.dst <;> simp [Act.put, hI.size], fun t ht => ?_, fun j t hj hbj => ?_⟩
    · cases hdst : oi.dst with
      | none => simpa [Act.put] using hI.elder t ht
      | some u =>
        have hne : u ≠ t := by
          rintro rfl
          exact ht (List.mem_of_getElem? (by rw [hDi, hdst]))
        simp [Act.put, Array.getElem?_setIfInBounds_ne hne]
        exact hI.elder t ht
    · by_cases hji : j = i
      · subst hji
        rw [hDi] at hj
        injection hj with hj
        refine ⟨v, ?_, hs⟩
        rw [hj]
        have : t < a.tmps.size := by
          rw [hI.size]
          have h1 := List.all_eq_true.1 hsz t (List.mem_filterMap.2 ⟨some t, List.mem_of_getElem? (by rw [hDi, hj]), rfl⟩)
          simpa using h1
        simp [Act.put, this]
      · rw [up_ne hji] at hbj
        obtain ⟨x, hx, hsx⟩ := hI.vals j t hj hbj
        refine ⟨x, ?_, hmono _ _ _ _ hbw hsx⟩
        cases hdst : oi.dst with
        | none => simpa [Act.put] using hx
        | some u =>
          have hne : u ≠ t := by
            rintro rfl
            exact hji (distinct hd hj (by rw [hDi, hdst]))
          simp [Act.put, Array.getElem?_setIfInBounds_ne hne]
          exact hx
  · intro b a w hb hI
    exact hend a w ⟨hI.below, hI.defers, hI.size, hI.elder, fun i t hi _ => hI.vals i t hi (hb i (by
      rw [List.contains_iff_mem, List.mem_range]
      have := (List.getElem?_eq_some_iff.1 hi).1
      rw [← hD] at this
      simpa using this))⟩
theorem rs_nil {P : Program} {ops : Array Oper} {Q : Exit → Act → World → Prop} {B : List Nat} {D : List (Option Tmp)} {S : Nat → World → Value → Prop} {a0 : Act} {w0 : World} : ∀ i ∈ ([] : List Nat), RStep P ops Q B D S a0 w0 i := fun _ h => by cases h
theorem rs_cons {P : Program} {ops : Array Oper} {Q : Exit → Act → World → Prop} {B : List Nat} {D : List (Option Tmp)} {S : Nat → World → Value → Prop} {a0 : Act} {w0 : World} {i : Nat} {rs : List Nat} (h : RStep P ops Q B D S a0 w0 i) (hs : ∀ j ∈ rs, RStep P ops Q B D S a0 w0 j) : ∀ j ∈ i :: rs, RStep P ops Q B D S a0 w0 j := fun j hj => by
  rcases List.mem_cons.1 hj with rfl | hj
  · exact h
  · exact hs j hj
/-- Is each of a list of specifications kept as the world grows? -/
def MonoS (s : World → Value → Prop) : Prop := ∀ w1 w2 v, Below w1.heap.size w1 w2 → s w1 v → s w2 v
theorem monoS_eq (x : Value) : MonoS (fun _ v => v = x) := fun _ _ _ _ h => h
theorem monoS_nil : ∀ s ∈ ([] : List (World → Value → Prop)), MonoS s := fun _ h => by cases h
theorem monoS_cons {s : World → Value → Prop} {l : List (World → Value → Prop)} (h : MonoS s) (hs : ∀ t ∈ l, MonoS t) : ∀ t ∈ s :: l, MonoS t := fun t ht => by
  rcases List.mem_cons.1 ht with rfl | ht
  · exact h
  · exact hs t ht
theorem mono_getD {l : List (World → Value → Prop)} (h : ∀ s ∈ l, MonoS s) : ∀ i w1 w2 v, Below w1.heap.size w1 w2 → l.getD i (fun _ _ => False) w1 v → l.getD i (fun _ _ => False) w2 v := by
  intro i w1 w2 v hb hs
  rw [List.getD_eq_getElem?_getD] at hs ⊢
  cases hi : l[i]? with
  | none => rw [hi] at hs; exact hs.elim
  | some s => rw [hi] at hs; exact h s (List.mem_of_getElem? hi) w1 w2 v hb hs
/-- A value is a slice that holds these. -/
def Rs {α : Type} (d : Kd α) (w : World) (v : Value) (xs : List α) : Prop := ∃ A c, v = .slice A xs.length c ∧ xs.length ≤ c ∧ d.C w A xs.length xs
theorem monoS_rs {α : Type} (d : Kd α) (xs : List α) : MonoS (fun w v => Rs d w v xs) := fun _ _ _ hb ⟨A, c, e, hl, hC⟩ => ⟨A, c, e, hl, Kd.C_below hC hb⟩
/-- The function's end, the frame not written out: one result, out of slot t. -/
theorem ret_slot {P : Program} {fn : Func} {R : Ending → World → Prop} {a : Act} {w : World} {t : Tmp} {v : Value} (hr : fn.results = #[.tmp t]) (hd : a.defers = []) (ht : a.tmps[t]? = some v) (h : R (.returned v) w) : bodyPost P fn R .ret a w := by
  refine bodyPost_ret (v := v) ?_ hd h
  have := results_tmp hr a.tmps P w
  rw [this]
  simp [ht]
end Go.Proofs.YtkkikddocgckbaaDoor.Reg
end

section
/- A region that draws the order of its first m operations and does the others, which wait for all before them, one after another: the others may store. No conditions. -/
namespace Go.Proofs.YtkkikddocgckbaaDoor.Reg
open Go Go.RowKit Go.Proofs.YtkkikddocgckbaaDoorW.PrintWords Go.Proofs.YtkkikddocgckbaaDoorW.PrintLast
/-- The frame behind operation i. -/
theorem regI_put {D : List (Option Tmp)} {S : Nat → World → Value → Prop} {a0 : Act} {w0 : World} {b : Nat → Bool} {a : Act} {w : World} {i : Nat} {d : Option Tmp} {v : Value} {w' : World} (hI : RegI D S a0 w0 b a w) (hDi : D[i]? = some d) (hd : (D.filterMap _root_.id).Nodup)
    (hsz : (D.filterMap _root_.id).all (fun t => Nat.blt t a0.tmps.size) = true) (hmono : ∀ i w1 w2 v, Below w1.heap.size w1 w2 → S i w1 v → S i w2 v) (hbw : Below w.heap.size w w') (hs : S i w' v) : RegI D S a0 w0 (up b i) (a.put d v) w' := by
  have hbel : Below w0.heap.size w0 w' := hI.below.trans (hbw.mono hI.below.size)
  refine ⟨hbel, by cases d <;> simp [Act.put, hI.defers], by cases d <;> simp [Act.put, hI.size], fun t ht => ?_, fun j t hj hbj => ?_⟩
  · cases hdst : d with
    | none => simpa [Act.put] using hI.elder t ht
    | some u =>
      have hne : u ≠ t := by
        rintro rfl
        exact ht (List.mem_of_getElem? (by rw [hDi, hdst]))
      simp [Act.put, Array.getElem?_setIfInBounds_ne hne]
      exact hI.elder t ht
  · by_cases hji : j = i
    · subst hji
      rw [hDi] at hj
      injection hj with hj
      refine ⟨v, ?_, hs⟩
      rw [hj]
      have : t < a.tmps.size := by
        rw [hI.size]
        have h1 := List.all_eq_true.1 hsz t (List.mem_filterMap.2 ⟨some t, List.mem_of_getElem? (by rw [hDi, hj]), rfl⟩)
        simpa using h1
      simp [Act.put, this]
    · rw [up_ne hji] at hbj
      obtain ⟨x, hx, hsx⟩ := hI.vals j t hj hbj
      refine ⟨x, ?_, hmono _ _ _ _ hbw hsx⟩
      cases hdst : d with
      | none => simpa [Act.put] using hx
      | some u =>
        have hne : u ≠ t := by
          rintro rfl
          exact hji (distinct hd hj (by rw [hDi, hdst]))
        simp [Act.put, Array.getElem?_setIfInBounds_ne hne]
        exact hx
/-- Operation i, with a relation E of the frame that it keeps. -/
def RStepE (P : Program) (ops : Array Oper) (Q : Exit → Act → World → Prop) (B : List Nat) (D : List (Option Tmp)) (S : Nat → World → Value → Prop) (E : Act → World → Prop) (a0 : Act) (w0 : World) (i : Nat) : Prop :=
  ∀ a w, Below w0.heap.size w0 w → a.tmps.size = a0.tmps.size → (∀ t, some t ∉ D → a.tmps[t]? = a0.tmps[t]?) → E a w →
    (∀ (j : Nat) (t : Tmp), (B.getD i 0).testBit j = true → D[j]? = some (some t) → ∃ v, a.tmps[t]? = some v ∧ S j w v) →
    ∃ oi, ops[i]? = some oi ∧ ∀ K : Act → World → Prop, Shut (∀ v w', Below w.heap.size w w' → S i w' v → E (a.put oi.dst v) w' → K (a.put oi.dst v) w') →
      if Region.wanted oi (yielded ops a.tmps) = true then Oper.wp P oi a w K Q else K (a.put oi.dst undef) w
theorem RStepE.of_r {P : Program} {ops : Array Oper} {Q : Exit → Act → World → Prop} {B : List Nat} {D : List (Option Tmp)} {S : Nat → World → Value → Prop} {E : Act → World → Prop} {a0 : Act} {w0 : World} {i : Nat}
    (hE : ∀ oi, ops[i]? = some oi → ∀ a w v w', E a w → w.heap.size ≤ w'.heap.size → E (a.put oi.dst v) w') (h : RStep P ops Q B D S a0 w0 i) : RStepE P ops Q B D S E a0 w0 i := by
  intro a w hb hs hel he hon
  obtain ⟨oi, hoi, hK⟩ := h a w hb hs hel hon
  exact ⟨oi, hoi, fun K hS => hK K (fun v w' hbw hs' => hS.out v w' hbw hs' (hE oi hoi a w v w' he hbw.size))⟩
theorem re_nil {P : Program} {ops : Array Oper} {Q : Exit → Act → World → Prop} {B : List Nat} {D : List (Option Tmp)} {S : Nat → World → Value → Prop} {E : Act → World → Prop} {a0 : Act} {w0 : World} : ∀ i ∈ ([] : List Nat), RStepE P ops Q B D S E a0 w0 i := fun _ h => by cases h
theorem re_cons {P : Program} {ops : Array Oper} {Q : Exit → Act → World → Prop} {B : List Nat} {D : List (Option Tmp)} {S : Nat → World → Value → Prop} {E : Act → World → Prop} {a0 : Act} {w0 : World} {i : Nat} {rs : List Nat} (h : RStepE P ops Q B D S E a0 w0 i) (hs : ∀ j ∈ rs, RStepE P ops Q B D S E a0 w0 j) : ∀ j ∈ i :: rs, RStepE P ops Q B D S E a0 w0 j := fun j hj => by
  rcases List.mem_cons.1 hj with rfl | hj
  · exact h
  · exact hs j hj
/-- Two slots' pointers are to blocks that are there, and not to the same. -/
def Two (t1 t2 : Tmp) (a : Act) (w : World) : Prop := (∀ g, a.tmps[t1]? = some (.pointer (some ⟨g, 0, none⟩)) → g < w.heap.size) ∧ (∀ g, a.tmps[t2]? = some (.pointer (some ⟨g, 0, none⟩)) → g < w.heap.size) ∧ ∀ g, a.tmps[t1]? = some (.pointer (some ⟨g, 0, none⟩)) → a.tmps[t2]? ≠ some (.pointer (some ⟨g, 0, none⟩))
theorem put_ne {a : Act} {d : Option Tmp} {t : Tmp} {v : Value} (h : d ≠ some t) : (a.put d v).tmps[t]? = a.tmps[t]? := by
  cases d with
  | none => rfl
  | some u =>
    have hne : u ≠ t := fun e => h (by rw [e])
    simp [Act.put, Array.getElem?_setIfInBounds_ne hne]
theorem put_same {a : Act} {t : Tmp} {v x : Value} (h : (a.put (some t) v).tmps[t]? = some x) : x = v := by
  simp only [Act.put, Array.getElem?_setIfInBounds_self] at h
  split at h
  · exact (Option.some.inj h).symm
  · cases h
theorem two_put {t1 t2 : Tmp} {d : Option Tmp} {a : Act} {w w' : World} {v : Value} (h : Two t1 t2 a w) (h1 : d ≠ some t1) (h2 : d ≠ some t2) (hs : w.heap.size ≤ w'.heap.size) : Two t1 t2 (a.put d v) w' := by
  unfold Two
  rw [put_ne h1, put_ne h2]
  exact ⟨fun g hg => Nat.lt_of_lt_of_le (h.1 g hg) hs, fun g hg => Nat.lt_of_lt_of_le (h.2.1 g hg) hs, h.2.2⟩
theorem two_new1 {t1 t2 : Tmp} {a : Act} {w w' : World} (h : Two t1 t2 a w) (hne : t1 ≠ t2) (hs : w.heap.size < w'.heap.size) : Two t1 t2 (a.put (some t1) (.pointer (some ⟨w.heap.size, 0, none⟩))) w' := by
  unfold Two
  rw [put_ne (t := t2) (fun e => hne (Option.some.inj e))]
  refine ⟨fun g hg => ?_, fun g hg => Nat.lt_trans (h.2.1 g hg) hs, fun g hg hg2 => ?_⟩
  · have := put_same hg
    injection this with this; injection this with this; injection this with this
    rw [this]; exact hs
  · have := put_same hg
    injection this with this; injection this with this; injection this with this
    have h3 := h.2.1 g hg2
    omega
theorem two_new2 {t1 t2 : Tmp} {a : Act} {w w' : World} (h : Two t1 t2 a w) (hne : t1 ≠ t2) (hs : w.heap.size < w'.heap.size) : Two t1 t2 (a.put (some t2) (.pointer (some ⟨w.heap.size, 0, none⟩))) w' := by
  unfold Two
  rw [put_ne (t := t1) (fun e => hne (Option.some.inj e).symm)]
  refine ⟨fun g hg => Nat.lt_trans (h.1 g hg) hs, fun g hg => ?_, fun g hg hg2 => ?_⟩
  · have := put_same hg
    injection this with this; injection this with this; injection this with this
    rw [this]; exact hs
  · have := put_same hg2
    injection this with this; injection this with this; injection this with this
    have h3 := h.1 g hg
    omega
/-- Operation i of the tail, all ahead of it done. -/
def TStep (P : Program) (ops : Array Oper) (Q : Exit → Act → World → Prop) (J : Nat → Act → World → Prop) (i : Nat) : Prop :=
  ∀ a w, J i a w → ∃ oi, ops[i]? = some oi ∧ ∀ K : Act → World → Prop, Shut (∀ a' w', J (i + 1) a' w' → K a' w') → if Region.wanted oi (yielded ops a.tmps) = true then Oper.wp P oi a w K Q else K (a.put oi.dst undef) w
theorem region_tail {P : Program} {ops : Array Oper} {Q : Exit → Act → World → Prop} {id : Nat} {a0 : Act} {w0 : World} (m : Nat) (E : Act → World → Prop) (J : Act → Nat → Act → World → Prop) (D : List (Option Tmp)) (B : List Nat) (T : Bool × List (List Nat × List Nat)) (S : Nat → World → Value → Prop)
    (hm : P.follows .mixedOrders = true) (hT : rtab .any ops = T) (hB : waitsOk T.2 B = true) (hk : baseOk T.2 (List.range ops.size) = true) (hD : ops.toList.map (·.dst) = D) (hd : (D.filterMap _root_.id).Nodup)
    (hsz : (D.filterMap _root_.id).all (fun t => Nat.blt t a0.tmps.size) = true)
    (hmono : ∀ i w1 w2 v, Below w1.heap.size w1 w2 → S i w1 v → S i w2 v) (hmz : m < ops.size) (hlast : ∀ i, m ≤ i → i < ops.size → ∀ j, j < i → (B.getD i 0).testBit j = true) (O : List Nat) (hO : List.range m = O) (hE0 : ∀ w, w.heap = w0.heap → E a0 w) (hstep : ∀ i ∈ O, RStepE P ops Q B D S E a0 w0 i)
    (hJ : ∀ a w, RegI D S a0 w0 (fun j => decide (j < m)) a w → E a w → J a0 m a w) (htail : ∀ i, m ≤ i → i < ops.size → TStep P ops Q (J a0) i)
    (hend : ∀ a w, J a0 ops.size a w → Q .normal a w) : (Code.region id ops true).wp P Q a0 w0 := by
  subst hO
  refine wp_region_last (S := fun _ => True) (ds := []) hm ?_
  have hl : T.2.length = ops.size := by rw [← hT]; exact rtab_length
  refine inv_ (T := T) (B := B) (List.range ops.size) (fun b a w => ((∀ j, m ≤ j → j < ops.size → b j = false) ∧ RegI D S a0 w0 b a w ∧ E a w) ∨ ∃ j, m < j ∧ j ≤ ops.size ∧ (∀ i, m ≤ i → i < ops.size → (b i = true ↔ i < j)) ∧ J a0 j a w) hT hB hk ?_ ?_ ?_ ?_
  · rw [hl]
    simp only [Bool.and_eq_true, beq_iff_eq, List.length_range, and_true]
    apply List.ext_getElem?
    intro j
    by_cases hj : j < ops.size
    · simp [lof, hj]
    · simp [lof, hj]
  · exact .inl ⟨fun _ _ _ => rfl, ⟨⟨rfl, rfl, rfl, Nat.le_refl _, fun _ _ => rfl⟩, rfl, rfl, fun _ _ => rfl, fun _ _ _ h => by cases h⟩, hE0 _ rfl⟩
  · intro i hi b a w hI hb hon hoff
    have hi' : i < ops.size := List.mem_range.1 hi
    have con : ∀ j, j < ops.size → (List.range ops.size).contains j = true := fun j hj => by rw [List.contains_iff_mem, List.mem_range]; exact hj
    rcases Nat.lt_or_ge i m with him | him
    · have hmo : b m = false := hoff m (by rw [con m hmz, hlast m (Nat.le_refl _) hmz i him]; rfl)
      rcases hI with ⟨hI0, hI, hE⟩ | ⟨j, hj1, hj2, hj3, _⟩
      · obtain ⟨oi, hoi, hK⟩ := hstep i (List.mem_range.2 him) a w hI.below hI.size hI.elder hE (fun j t hj ht => by
          refine hI.vals j t ht (hon j ?_)
          rw [hj, Bool.and_true]
          refine con j ?_
          have := (List.getElem?_eq_some_iff.1 ht).1
          rw [← hD] at this
          simpa using this)
        refine ⟨oi, hoi, fun K hS => hK K (fun v w' hbw hs he' => hS.out _ _ (.inl ⟨fun j h1 h2 => ?_, ?_, he'⟩))⟩
        · rw [up_ne (show j ≠ i by omega)]; exact hI0 j h1 h2
        · exact regI_put hI (by rw [← hD, List.getElem?_map, Array.getElem?_toList, hoi]; rfl) hd hsz hmono hbw hs
      · have := (hj3 m (Nat.le_refl _) hmz).2 hj1
        rw [this] at hmo; cases hmo
    · have hall : ∀ j, j < i → b j = true := fun j hj => hon j (by rw [con j (by omega), hlast i him hi' j hj]; rfl)
      have hJi : J a0 i a w := by
        rcases hI with ⟨hI0, hI, hE⟩ | ⟨j, hj1, hj2, hj3, hJj⟩
        · rcases Nat.lt_or_ge m i with h | h
          · have := hI0 m (Nat.le_refl _) hmz
            rw [hall m h] at this; cases this
          · obtain rfl : m = i := by omega
            exact hJ a w ⟨hI.below, hI.defers, hI.size, hI.elder, fun k t hk hb' => hI.vals k t hk (hall k (by simpa using hb'))⟩ hE
        · have h1 : ¬ i < j := fun h => by have := (hj3 i him hi').2 h; rw [this] at hb; cases hb
          have h2 := (hj3 (i - 1) (by omega) (by omega)).1 (hall (i - 1) (by omega))
          obtain rfl : i = j := by omega
          exact hJj
      obtain ⟨oi, hoi, hK⟩ := htail i him hi' a w hJi
      refine ⟨oi, hoi, fun K hS => hK K (fun a' w' h' => hS.out _ _ (.inr ⟨i + 1, by omega, by omega, fun k h1 h2 => ?_, h'⟩))⟩
      by_cases hki : k = i
      · subst hki; simp [up]
      · rw [up_ne hki]
        refine ⟨fun hbk => ?_, fun hk' => hall k (by omega)⟩
        apply Nat.lt_succ_of_lt
        apply Nat.lt_of_not_le
        intro hik
        have hw := hoff k (by rw [con k h2, hlast k h1 h2 i (by omega)]; rfl)
        rw [hw] at hbk; cases hbk
  · intro b a w hb hI
    have hall : ∀ j, j < ops.size → b j = true := fun j hj => hb j (by rw [List.contains_iff_mem, List.mem_range]; exact hj)
    rcases hI with ⟨hI0, _⟩ | ⟨j, hj1, hj2, hj3, hJj⟩
    · have := hI0 m (Nat.le_refl _) hmz
      rw [hall m hmz] at this; cases this
    · have := (hj3 (ops.size - 1) (by omega) (by omega)).1 (hall _ (by omega))
      obtain rfl : j = ops.size := by omega
      exact hend a w hJj
theorem tail_bits {B : List Nat} {m n : Nat} (h : (List.range n).all (fun i => Nat.blt i m || (List.range i).all (fun j => (B.getD i 0).testBit j)) = true) : ∀ i, m ≤ i → i < n → ∀ j, j < i → (B.getD i 0).testBit j = true := by
  intro i h1 h2 j hj
  have a := List.all_eq_true.1 h i (List.mem_range.2 h2)
  rw [Bool.or_eq_true] at a
  rcases a with a | a
  · have : i < m := by simpa using a
    omega
  · exact List.all_eq_true.1 a j (List.mem_range.2 hj)
end Go.Proofs.YtkkikddocgckbaaDoor.Reg
end

section
/- The walk of BitsHold: for any room and places its call returns true; the library's table as the program lays it. -/
namespace Go.Proofs.YtkkikddocgckbaaDoor.BPure
open Go Go.RowKit Go.Proofs.YtkkikddocgckbaaDoor.PBit Go.Proofs.YtkkikddocgckbaaDoor.Given Go.Proofs.YtkkikddocgckbaaDoor.BitsMath Go.Proofs.YtkkikddocgckbaaDoorW.PrintWords Go.Proofs.YtkkikddocgckbaaDoorW.PrintLast Go.Proofs.YtkkikddocgckbaaDoorW.PrintMore
set_option linter.unusedVariables false
set_option linter.unusedSimpArgs false
/-- A set's value: its room, and words that lie there. -/
def RSet (R : Int) (l : List Int) (w : World) (v : Value) : Prop := ∃ A c, v = .agg #[.int .i64 R, .slice A l.length c] ∧ l.length ≤ c ∧ Kd.C (Kd.int .u64) w A l.length l
theorem rset_mono (R : Int) (l : List Int) : Reg.MonoS (RSet R l) := fun _ _ _ hb ⟨A, c, e, hl, hC⟩ => ⟨A, c, e, hl, Kd.C_below hC hb⟩
theorem rset_of {R : Int} {l : List Int} {w : World} {e : TypeId} {base : Nat} {ok : Nat → Prop} {v : Value} (h : Kd.R (Kd.int .u64) e w base ok v l) : RSet R l w (.agg #[.int .i64 R, v]) := by
  obtain ⟨A, c, rfl, h1, h2⟩ := Kd.R_reads h
  exact ⟨A, c, rfl, h1, h2⟩
theorem like_c {R : Int} {l : List Int} {x : List Bool} {W : List Nat} (h : Rep R l x W) (A : Option Addr) (c : Nat) (A' : Option Addr) (c' : Nat) (w : World) (hC : Kd.C (Kd.int .u64) w A l.length l) (hc : l.length ≤ c) (hC' : Kd.C Kd.bool w A' x.length x) (hc' : x.length ≤ c') (hL : LaidTz w) :
    Calls Tryd.prog 8 #[.agg #[.int .i64 R, .slice A l.length c], .slice A' x.length c'] w fun e w' => e = .returned (.bool true) ∧ Below w.heap.size w w' :=
  ladderbacklaw06_like.calls 70000 R A c l A' c' x true w hC hc hC' hc' (like_is h 70000 (Nat.le_refl _)) hL
theorem awake_c (w : World) (hL : LaidTz w) : Calls Tryd.prog 5 #[] w fun e w' => e = .returned (.bool true) ∧ Below w.heap.size w w' :=
  ladderbacklaw06_awake.calls 70000 true w (awake_is 70000 (Nat.le_refl _)) hL
theorem eval_tmp {a : Act} {t : Nat} {v : Value} (h : a.tmps[t]? = some v) : a.eval (.tmp t) = v := by simp [Act.eval, h]
theorem drewN_of {w w' : World} (h : Drawn0 w w') : Below w.heap.size w w' := by obtain ⟨m, rfl⟩ := h; exact pw_below_drewN (Below.refl _ _) m
end Go.Proofs.YtkkikddocgckbaaDoor.BPure
end

section
/- The walk of BitsJoin: for any rooms and places its call returns true; the library's table as the program lays it. -/
namespace Go.Proofs.YtkkikddocgckbaaDoor.BPure
open Go Go.RowKit Go.Proofs.YtkkikddocgckbaaDoor.PBit Go.Proofs.YtkkikddocgckbaaDoor.Given Go.Proofs.YtkkikddocgckbaaDoor.BitsMath Go.Proofs.YtkkikddocgckbaaDoorW.PrintWords Go.Proofs.YtkkikddocgckbaaDoorW.PrintLast Go.Proofs.YtkkikddocgckbaaDoorW.PrintMore
set_option linter.unusedVariables false
set_option linter.unusedSimpArgs false
theorem of_all (a : Int) (L : List Int) (hL : L.length ≤ 60) :
    ∃ R l x W, Rep R l x W ∧ ∀ (A1 : Option Addr) (c1 : Nat) (w : World), Kd.C (Kd.int .i64) w A1 L.length L → L.length ≤ c1 → Calls Tryd.prog 6 #[.int .i64 a, .slice A1 L.length c1] w fun e w' => ∃ A c A' c', e = .returned (.tuple #[.agg #[.int .i64 R, .slice A l.length c], .slice A' x.length c']) ∧ Kd.C (Kd.int .u64) w' A l.length l ∧ l.length ≤ c ∧ Kd.C Kd.bool w' A' x.length x ∧ x.length ≤ c' ∧ Below w.heap.size w w' := by
  obtain ⟨R, l, x, W, e, h, hR⟩ := of_is a L hL 61 (Nat.le_refl _)
  refine ⟨R, l, x, W, h, fun A1 c1 w hr hc => (ladderbacklaw06_of.calls 61 a A1 c1 L R l x w hr hc e).mono ?_⟩
  rintro e w' ⟨v1, v2, rfl, h1, h2, hb⟩
  obtain ⟨A, c, rfl, h3, h4⟩ := Kd.R_reads h1
  obtain ⟨A', c', rfl, h5, h6⟩ := Kd.R_reads h2
  exact ⟨A, c, A', c', rfl, h4, h3, h6, h5, hb⟩
theorem C_setRow {w : World} {A : Option Addr} {n : Nat} {xs : List Int} {g : Nat} {row new : Array Value} {T : TypeId} (h : Kd.C (Kd.int .u64) w A n xs) (hg : w.heap[g]? = some (.cells row T (0, 0))) (hrow : ∀ (i : Nat) (z : Int), row[i]? ≠ some (.int .u64 z)) : Kd.C (Kd.int .u64) (w.setRow g new) A n xs := by
  refine ⟨h.1, h.2.1, fun hn => ?_⟩
  obtain ⟨ad, e, hc⟩ := h.2.2 hn
  refine ⟨ad, e, fun j p hj => ?_⟩
  obtain ⟨c, hl, hK, hcell⟩ := hc j p hj
  refine ⟨c, hl, hK, fun i u hu => ?_⟩
  have hx := hcell i u hu
  have hK' : c = [Value.int .u64 p] := hK
  have hu' : u = .int .u64 p := by
    subst hK'
    cases i with
    | zero => simpa using hu.symm
    | succ i => simp at hu
  subst hu'
  generalize ad.add (j * (Kd.int .u64).sz + i) = b at hx ⊢
  by_cases hb : b.block = g
  · rw [← hb] at hg
    unfold World.cell? at hx
    rw [hg] at hx
    have hx2 : row[b.off]? = some (.int .u64 p) := by
      by_cases hs : b.spot.isSome = true
      · simp [hs] at hx
      · simpa [hs] using hx
    exact absurd hx2 (hrow _ _)
  · unfold World.cell? at hx ⊢
    rw [setRow_other _ _ _ _ hb]
    exact hx
theorem zero_row (i : Nat) (z : Int) : (#[Value.int .i64 0, .slice none 0 0] : Array Value)[i]? ≠ some (.int .u64 z) := by
  match i with
  | 0 => simp
  | 1 => simp
  | i + 2 => simp
def RPtr (b : Nat) (w : World) (v : Value) : Prop := ∃ g, v = .pointer (some ⟨g, 0, none⟩) ∧ b ≤ g ∧ w.heap[g]? = some (.cells #[.int .i64 0, .slice none 0 0] 26 (0, 0))
theorem rptr_mono (b : Nat) : Reg.MonoS (RPtr b) := fun _ _ _ hb ⟨g, e, hl, hr⟩ => ⟨g, e, hl, (hb.block g (Array.getElem?_eq_some_iff.1 hr).1).trans hr⟩
/-- Behind the two joins: their boxes, filled one after the other. -/
structure JB (a0 : Act) (w5 : World) (D : List (Option Tmp)) (RA : Int) (LA : List Int) (RO : Int) (LO : List Int) (k : Nat) (a : Act) (w : World) (g11 g12 : Nat) (Aa : Option Addr) (ca : Nat) (Ao : Option Addr) (co : Nat) : Prop where
  below : Below w5.heap.size w5 w
  defers : a.defers = a0.defers
  size : a.tmps.size = a0.tmps.size
  elder : ∀ t, some t ∉ D → a.tmps[t]? = a0.tmps[t]?
  e11 : a.tmps[11]? = some (.pointer (some ⟨g11, 0, none⟩))
  e12 : a.tmps[12]? = some (.pointer (some ⟨g12, 0, none⟩))
  e48 : a.tmps[48]? = some (.agg #[.int .i64 RA, .slice Aa LA.length ca])
  e51 : a.tmps[51]? = some (.agg #[.int .i64 RO, .slice Ao LO.length co])
  ne : g11 ≠ g12
  l11 : w5.heap.size ≤ g11
  l12 : w5.heap.size ≤ g12
  la : LA.length ≤ ca
  lo : LO.length ≤ co
  hca : Kd.C (Kd.int .u64) w Aa LA.length LA
  hco : Kd.C (Kd.int .u64) w Ao LO.length LO
  r11 : w.heap[g11]? = some (.cells (if 9 ≤ k then #[.int .i64 RA, .slice Aa LA.length ca] else #[.int .i64 0, .slice none 0 0]) 26 (0, 0))
  r12 : w.heap[g12]? = some (.cells (if 10 ≤ k then #[.int .i64 RO, .slice Ao LO.length co] else #[.int .i64 0, .slice none 0 0]) 26 (0, 0))
def JJ (a0 : Act) (w5 : World) (D : List (Option Tmp)) (RA : Int) (LA : List Int) (RO : Int) (LO : List Int) (k : Nat) (a : Act) (w : World) : Prop := ∃ g11 g12 Aa ca Ao co, JB a0 w5 D RA LA RO LO k a w g11 g12 Aa ca Ao co
theorem JJ.mk {a0 : Act} {w5 : World} {D : List (Option Tmp)} {RA : Int} {LA : List Int} {RO : Int} {LO : List Int} {k : Nat} {a : Act} {w : World} {g11 g12 : Nat} {Aa : Option Addr} {ca : Nat} {Ao : Option Addr} {co : Nat} (h : JB a0 w5 D RA LA RO LO k a w g11 g12 Aa ca Ao co) : JJ a0 w5 D RA LA RO LO k a w := ⟨_, _, _, _, _, _, h⟩
theorem JB.store1 {a0 : Act} {w5 : World} {D : List (Option Tmp)} {RA : Int} {LA : List Int} {RO : Int} {LO : List Int} {a : Act} {w : World} {g11 g12 : Nat} {Aa : Option Addr} {ca : Nat} {Ao : Option Addr} {co : Nat} (h : JB a0 w5 D RA LA RO LO 8 a w g11 g12 Aa ca Ao co) :
    JB a0 w5 D RA LA RO LO 9 (a.put none undef) (w.setRow g11 #[.int .i64 RA, .slice Aa LA.length ca]) g11 g12 Aa ca Ao co :=
  have hz : w.heap[g11]? = some (.cells #[.int .i64 0, .slice none 0 0] 26 (0, 0)) := h.r11
  ⟨below_setRow h.below h.l11 _, h.defers, h.size, h.elder, h.e11, h.e12, h.e48, h.e51, h.ne, h.l11, h.l12, h.la, h.lo, C_setRow h.hca hz zero_row, C_setRow h.hco hz zero_row, setRow_heap _ _ _ _ _ _ hz, (setRow_other _ _ _ _ (fun e => h.ne e.symm)).trans h.r12⟩
theorem JB.store2 {a0 : Act} {w5 : World} {D : List (Option Tmp)} {RA : Int} {LA : List Int} {RO : Int} {LO : List Int} {a : Act} {w : World} {g11 g12 : Nat} {Aa : Option Addr} {ca : Nat} {Ao : Option Addr} {co : Nat} (h : JB a0 w5 D RA LA RO LO 9 a w g11 g12 Aa ca Ao co) :
    JB a0 w5 D RA LA RO LO 10 (a.put none undef) (w.setRow g12 #[.int .i64 RO, .slice Ao LO.length co]) g11 g12 Aa ca Ao co :=
  have hz : w.heap[g12]? = some (.cells #[.int .i64 0, .slice none 0 0] 26 (0, 0)) := h.r12
  ⟨below_setRow h.below h.l12 _, h.defers, h.size, h.elder, h.e11, h.e12, h.e48, h.e51, h.ne, h.l11, h.l12, h.la, h.lo, C_setRow h.hca hz zero_row, C_setRow h.hco hz zero_row, (setRow_other _ _ _ _ h.ne).trans h.r11, setRow_heap _ _ _ _ _ _ hz⟩
theorem and_c {R1 R2 : Int} {l1 l2 : List Int} {x y : List Bool} {W V : List Nat} (h : Rep R1 l1 x W) (h' : Rep R2 l2 y V) : ∃ R l Z, Rep R l (andL x y) Z ∧ ∀ (A : Option Addr) (c : Nat) (A2 : Option Addr) (c2 : Nat) (w : World), Kd.C (Kd.int .u64) w A l1.length l1 → l1.length ≤ c → Kd.C (Kd.int .u64) w A2 l2.length l2 → l2.length ≤ c2 →
    Calls Tryd.prog 14 #[.agg #[.int .i64 R1, .slice A l1.length c], .agg #[.int .i64 R2, .slice A2 l2.length c2]] w fun e w' => ∃ v, e = .returned (.agg #[.int .i64 R, v]) ∧ Kd.R (Kd.int .u64) 45 w' w.heap.size (fun _ => True) v l ∧ Below w.heap.size w w' := by
  obtain ⟨R, l, Z, e, hz⟩ := and_is h h' 1026 (Nat.le_refl _)
  exact ⟨R, l, Z, hz, fun A c A2 c2 w h1 h2 h3 h4 => bits_Set_And.calls 1026 R1 A c l1 R2 A2 c2 l2 R l w h1 h2 h3 h4 e⟩
theorem or_c {R1 R2 : Int} {l1 l2 : List Int} {x y : List Bool} {W V : List Nat} (h : Rep R1 l1 x W) (h' : Rep R2 l2 y V) : ∃ R l Z, Rep R l (orL x y) Z ∧ ∀ (A : Option Addr) (c : Nat) (A2 : Option Addr) (c2 : Nat) (w : World), Kd.C (Kd.int .u64) w A l1.length l1 → l1.length ≤ c → Kd.C (Kd.int .u64) w A2 l2.length l2 → l2.length ≤ c2 →
    Calls Tryd.prog 15 #[.agg #[.int .i64 R1, .slice A l1.length c], .agg #[.int .i64 R2, .slice A2 l2.length c2]] w fun e w' => ∃ v, e = .returned (.agg #[.int .i64 R, v]) ∧ Kd.R (Kd.int .u64) 45 w' w.heap.size (fun _ => True) v l ∧ Below w.heap.size w w' := by
  obtain ⟨R, l, Z, e, hz⟩ := or_is h h' 1026 (Nat.le_refl _)
  exact ⟨R, l, Z, hz, fun A c A2 c2 w h1 h2 h3 h4 => bits_Set_Or.calls 1026 R1 A c l1 R2 A2 c2 l2 R l w h1 h2 h3 h4 e⟩
theorem same_c {R1 R2 : Int} {l1 l2 : List Int} {x y : List Bool} {W V : List Nat} (h : Rep R1 l1 x W) (h' : Rep R2 l2 y V) (b : Bool) (hb : b = decide (x = y)) (A : Option Addr) (c : Nat) (A2 : Option Addr) (c2 : Nat) (w : World) (h1 : Kd.C (Kd.int .u64) w A l1.length l1) (h2 : l1.length ≤ c) (h3 : Kd.C (Kd.int .u64) w A2 l2.length l2) (h4 : l2.length ≤ c2) :
    Calls Tryd.prog 18 #[.agg #[.int .i64 R1, .slice A l1.length c], .agg #[.int .i64 R2, .slice A2 l2.length c2]] w fun e w' => e = .returned (.bool b) ∧ Below w.heap.size w w' :=
  bits_Set_Same.calls 1026 R1 A c l1 R2 A2 c2 l2 b w h1 h2 h3 h4 (hb ▸ same_is h h' 1026 (Nat.le_refl _))
theorem rsame_c (x y : List Bool) (hx : x.length ≤ 65536) (b : Bool) (hb : b = decide (x = y)) (A : Option Addr) (c : Nat) (A2 : Option Addr) (c2 : Nat) (w : World) (h1 : Kd.C Kd.bool w A x.length x) (h2 : x.length ≤ c) (h3 : Kd.C Kd.bool w A2 y.length y) (h4 : y.length ≤ c2) :
    Calls Tryd.prog 19 #[.slice A x.length c, .slice A2 y.length c2] w fun e w' => e = .returned (.bool b) ∧ Below w.heap.size w w' :=
  (ladderbackref06_Same.calls 65538 A c x A2 c2 y b w h1 h2 h3 h4 (hb ▸ rsame_is x y hx 65538 (Nat.le_refl _))).mono fun e w' ⟨a, b⟩ => ⟨a, drewN_of b⟩
theorem rand_c (x y : List Bool) (hx : x.length ≤ 65536) (A : Option Addr) (c : Nat) (A2 : Option Addr) (c2 : Nat) (w : World) (h1 : Kd.C Kd.bool w A x.length x) (h2 : x.length ≤ c) (h3 : Kd.C Kd.bool w A2 y.length y) (h4 : y.length ≤ c2) :
    Calls Tryd.prog 16 #[.slice A x.length c, .slice A2 y.length c2] w fun e w' => ∃ v, e = .returned v ∧ Kd.R Kd.bool 4 w' w.heap.size (fun _ => True) v (andL x y) ∧ Below w.heap.size w w' :=
  ladderbackref06_And.calls 65538 A c x A2 c2 y (andL x y) w h1 h2 h3 h4 (rand_is x y hx 65538 (Nat.le_refl _))
theorem ror_c (x y : List Bool) (hx : x.length ≤ 65536) (hy : y.length ≤ 65536) (A : Option Addr) (c : Nat) (A2 : Option Addr) (c2 : Nat) (w : World) (h1 : Kd.C Kd.bool w A x.length x) (h2 : x.length ≤ c) (h3 : Kd.C Kd.bool w A2 y.length y) (h4 : y.length ≤ c2) :
    Calls Tryd.prog 17 #[.slice A x.length c, .slice A2 y.length c2] w fun e w' => ∃ v, e = .returned v ∧ Kd.R Kd.bool 4 w' w.heap.size (fun _ => True) v (orL x y) ∧ Below w.heap.size w w' :=
  ladderbackref06_Or.calls 131080 A c x A2 c2 y (orL x y) w h1 h2 h3 h4 (ror_is x y hx hy 131080 (Nat.le_refl _))
theorem count_c {R : Int} {l : List Int} {x : List Bool} {W : List Nat} (h : Rep R l x W) (A : Option Addr) (c : Nat) (w : World) (h1 : Kd.C (Kd.int .u64) w A l.length l) (h2 : l.length ≤ c) :
    Calls Tryd.prog 13 #[.agg #[.int .i64 R, .slice A l.length c]] w fun e w' => e = .returned (.int .i64 ((x.count true : Nat) : Int)) ∧ Below w.heap.size w w' :=
  bits_Set_Count.calls 1026 R A c l _ w h1 h2 (count_is h 1026 (Nat.le_refl _))
set_option maxHeartbeats 4000000 in
set_option maxRecDepth 100000 in
theorem bitsJoin_w (r0 r1 : Int) (A1 : Option Addr) (c1 : Nat) (L : List Int) (A2 : Option Addr) (c2 : Nat) (M : List Int) (w : World) (hr : Kd.C (Kd.int .i64) w A1 L.length L) (hc : L.length ≤ c1) (hr2 : Kd.C (Kd.int .i64) w A2 M.length M) (hc2 : M.length ≤ c2) (hL : LaidTz w) :
    Calls Tryd.prog 4 #[.agg #[.int .i64 r0, .int .i64 r1], .slice A1 L.length c1, .slice A2 M.length c2] w fun e w' => e = .returned (.bool true) ∧ Below w.heap.size w w' := by
  have hi : (Tryd.prog.info? 26).map (·.size) = some 2 := by kernel_rfl
  have HL := Aside0.mk hL
  have HC := Aside0.mk hr
  have HM := Aside0.mk hr2
  have HB0 := Aside0.mk ((Below.refl w.heap.size w).alloc (Nat.le_refl _) (.cells #[.int .i64 r0, .int .i64 r1] 37))
  clear hL hr hr2
  by_cases h0 : r0 > 500
  · have d0 : decide ((500 : Int) < r0) = true := decide_eq_true h0
    go_enter Tryd.func4, Tryd.ntmps4
    go_wp2_with fail
    refine (awake_c _ (HL.out.below HB0.out)).mono ?_
    rintro e w1 ⟨rfl, hb⟩
    go_wp2
    go_ret
    exact ⟨rfl, HB0.out.trans (hb.mono HB0.out.size)⟩
  by_cases h1 : r1 > 500
  · have d0 : decide ((500 : Int) < r0) = false := decide_eq_false h0
    have d1 : decide ((500 : Int) < r1) = true := decide_eq_true h1
    go_enter Tryd.func4, Tryd.ntmps4
    go_wp2_with fail
    refine (awake_c _ (HL.out.below HB0.out)).mono ?_
    rintro e w1 ⟨rfl, hb⟩
    go_wp2
    go_ret
    exact ⟨rfl, HB0.out.trans (hb.mono HB0.out.size)⟩
  by_cases h2 : (L.length : Int) > 60
  · have d0 : decide ((500 : Int) < r0) = false := decide_eq_false h0
    have d1 : decide ((500 : Int) < r1) = false := decide_eq_false h1
    have d2 : decide ((60 : Int) < (L.length : Int)) = true := decide_eq_true h2
    go_enter Tryd.func4, Tryd.ntmps4
    go_wp2_with fail
    refine (awake_c _ (HL.out.below HB0.out)).mono ?_
    rintro e w1 ⟨rfl, hb⟩
    go_wp2
    go_ret
    exact ⟨rfl, HB0.out.trans (hb.mono HB0.out.size)⟩
  by_cases h3 : (M.length : Int) > 60
  · have d0 : decide ((500 : Int) < r0) = false := decide_eq_false h0
    have d1 : decide ((500 : Int) < r1) = false := decide_eq_false h1
    have d2 : decide ((60 : Int) < (L.length : Int)) = false := decide_eq_false h2
    have d3 : decide ((60 : Int) < (M.length : Int)) = true := decide_eq_true h3
    go_enter Tryd.func4, Tryd.ntmps4
    go_wp2_with fail
    refine (awake_c _ (HL.out.below HB0.out)).mono ?_
    rintro e w1 ⟨rfl, hb⟩
    go_wp2
    go_ret
    exact ⟨rfl, HB0.out.trans (hb.mono HB0.out.size)⟩
  have d0 : decide ((500 : Int) < r0) = false := decide_eq_false h0
  have d1 : decide ((500 : Int) < r1) = false := decide_eq_false h1
  have d2 : decide ((60 : Int) < (L.length : Int)) = false := decide_eq_false h2
  have d3 : decide ((60 : Int) < (M.length : Int)) = false := decide_eq_false h3
  obtain ⟨R, l, x, W, h, P0⟩ := of_all r0 L (by omega)
  obtain ⟨S, m, y, V, h', P1⟩ := of_all r1 M (by omega)
  obtain ⟨RA, LA, WA, ha, PA⟩ := and_c h h'
  obtain ⟨RO, LO, WO, ho, PO⟩ := or_c h h'
  obtain ⟨RB, LB, WB, ha2, PB⟩ := and_c h' h
  obtain ⟨RQ, LQ, WQ, ho2, PQ⟩ := or_c h' h
  obtain ⟨b, hb⟩ : ∃ b, b = decide (x = y) := ⟨_, rfl⟩
  obtain ⟨nA, hnA⟩ : ∃ n : Int, n = (((andL x y).count true : Nat) : Int) := ⟨_, rfl⟩
  obtain ⟨nO, hnO⟩ : ∃ n : Int, n = (((orL x y).count true : Nat) : Int) := ⟨_, rfl⟩
  obtain ⟨nS, hnS⟩ : ∃ n : Int, n = ((x.count true : Nat) : Int) := ⟨_, rfl⟩
  obtain ⟨nT, hnT⟩ : ∃ n : Int, n = ((y.count true : Nat) : Int) := ⟨_, rfl⟩
  have hsum : nS + nT = nA + nO := by have := count_both x y; omega
  have Q1 := count_c ha
  have Q2 := count_c ho
  have Q3 := count_c h
  have Q4 := count_c h'
  rw [← hnA] at Q1
  rw [← hnO] at Q2
  rw [← hnS] at Q3
  rw [← hnT] at Q4
  have Q5 := like_c ha
  have Q6 := like_c ho
  have Q7 := like_c h
  have Q8 := same_c h h' b hb
  have Q9 := rsame_c x y h.lim b hb
  have QA := same_c ha ha2 true (by rw [andL_comm x y]; simp)
  have QO := same_c ho ho2 true (by rw [orL_comm x y]; simp)
  have QX := rand_c x y h.lim
  have QY := ror_c x y h.lim h'.lim
  replace P0 := Aside0.mk P0
  replace P1 := Aside0.mk P1
  replace PA := Aside0.mk PA
  replace PO := Aside0.mk PO
  replace PB := Aside0.mk PB
  replace PQ := Aside0.mk PQ
  replace Q1 := Aside0.mk Q1
  replace Q2 := Aside0.mk Q2
  replace Q3 := Aside0.mk Q3
  replace Q4 := Aside0.mk Q4
  replace Q5 := Aside0.mk Q5
  replace Q6 := Aside0.mk Q6
  replace Q7 := Aside0.mk Q7
  replace Q8 := Aside0.mk Q8
  replace Q9 := Aside0.mk Q9
  replace QA := Aside0.mk QA
  replace QO := Aside0.mk QO
  replace QX := Aside0.mk QX
  replace QY := Aside0.mk QY
  have HS := Aside0.mk hsum
  clear h h' ha ho ha2 ho2 hb hnA hnO hnS hnT hsum h0 h1 h2 h3
  go_enter Tryd.func4, Tryd.ntmps4
  go_wp2_with fail
  refine (P0.out A1 c1 _ (Kd.C_below HC.out HB0.out) hc).mono ?_
  rintro e w1 ⟨A, c, A', c', rfl, hC1, hk1, hC2, hk2, hb1⟩
  have hB1 := HB0.out.trans (hb1.mono HB0.out.size)
  have hlt0 : w.heap.size < w1.heap.size := by have := hb1.size; simp at this; omega
  have hrow : w1.heap[w.heap.size]? = some (.cells #[.int .i64 r0, .int .i64 r1] 37 (0, 0)) := (hb1.block _ (by simp)).trans (heap_alloc_new _ _)
  have HC1 := Aside0.mk hC1
  have HC2 := Aside0.mk hC2
  have HB1 := Aside0.mk (hB1.alloc hB1.size (.cells #[.int .i64 R, .slice A l.length c] 26))
  have hcell : (w1.alloc (.cells #[.int .i64 R, .slice A l.length c] 26)).cell? ⟨w.heap.size, 1, none⟩ = some (.int .i64 r1) := by
    have : (w1.alloc (.cells #[.int .i64 R, .slice A l.length c] 26)).heap[w.heap.size]? = some (.cells #[.int .i64 r0, .int .i64 r1] 37 (0, 0)) := (heap_alloc_old _ _ hlt0).trans hrow
    simp [World.cell?, this]
  clear hC1 hC2 hB1 hb1 hrow hlt0
  go_wp2_with fail
  clear hcell
  refine (P1.out A2 c2 _ (Kd.C_below HM.out HB1.out) hc2).mono ?_
  rintro e w2 ⟨E, f, E', f', rfl, hC3, hk3, hC4, hk4, hb2⟩
  have hlt1 : w1.heap.size < w2.heap.size := by have := hb2.size; simp at this; omega
  obtain ⟨w5, hw5⟩ : ∃ w5, w5 = w2.alloc (.cells #[.int .i64 S, .slice E m.length f] 26) := ⟨_, rfl⟩
  have hg7 : w5.heap[w1.heap.size]? = some (.cells #[.int .i64 R, .slice A l.length c] 26 (0, 0)) := by
    rw [hw5, heap_alloc_old _ _ hlt1, hb2.block _ (by simp)]; exact heap_alloc_new _ _
  have hg9 : w5.heap[w2.heap.size]? = some (.cells #[.int .i64 S, .slice E m.length f] 26 (0, 0)) := by rw [hw5]; exact heap_alloc_new _ _
  have hb12 : Below w1.heap.size w1 w5 := by rw [hw5]; exact ((((Below.refl _ w1).alloc (Nat.le_refl _) (.cells #[.int .i64 R, .slice A l.length c] 26)).trans (hb2.mono (by simp))).alloc (Nat.le_of_lt hlt1) _)
  have hb25 : Below w2.heap.size w2 w5 := by rw [hw5]; exact (Below.refl _ w2).alloc (Nat.le_refl _) _
  have HG7 := Aside0.mk hg7
  have HG9 := Aside0.mk hg9
  have HD1 := Aside0.mk (Kd.C_below HC1.out hb12)
  have HD2 := Aside0.mk (Kd.C_below HC2.out hb12)
  have HD3 := Aside0.mk (Kd.C_below hC3 hb25)
  have HD4 := Aside0.mk (Kd.C_below hC4 hb25)
  have HB6 := Aside0.mk (by
    have hx := HB1.out.trans (hb2.mono HB1.out.size)
    have := hx.alloc hx.size (.cells #[.int .i64 S, .slice E m.length f] 26)
    rw [← hw5] at this
    exact this)
  clear hlt1 hg7 hg9 hb12 hb25 hb2 hC3 hC4 HC1 HC2 HB1
  go_wp2_with fail
  rw [← hw5]
  clear hw5
  generalize w1.heap.size = g7 at HG7 ⊢
  generalize w2.heap.size = g9 at HG9 ⊢
  refine Reg.region_tail 8 (Reg.Two 11 12) (fun a0_ => JJ a0_ w5 [some 46, some 47, some 48, some 49, some 50, some 51, some 11, some 12, none, none] RA LA RO LO) [some 46, some 47, some 48, some 49, some 50, some 51, some 11, some 12, none, none] [0, 0, 3, 0, 0, 31, 0, 0, 255, 511] (true, [([], []), ([], []), ([0, 1], [0, 1]), ([], []), ([], []), ([3, 4, 2], [3, 4]), ([], []), ([], []), ([6, 2, 5, 0, 1, 2, 6, 7], [2, 6]), ([7, 5, 8, 0, 1, 2, 3, 4, 5, 6, 7, 8], [5, 7])]) (fun i => ([(fun _ v_ => v_ = (.agg #[.int .i64 R, .slice A l.length c])), (fun _ v_ => v_ = (.agg #[.int .i64 S, .slice E m.length f])), (RSet RA LA), (fun _ v_ => v_ = (.agg #[.int .i64 R, .slice A l.length c])), (fun _ v_ => v_ = (.agg #[.int .i64 S, .slice E m.length f])), (RSet RO LO), (RPtr w5.heap.size), (RPtr w5.heap.size), (fun _ _ => False), (fun _ _ => False)] : List (World → Value → Prop)).getD i (fun _ _ => False))
      (by kernel_rfl) (by kernel_rfl) (by kernel_rfl) (by kernel_rfl) (by kernel_rfl) (by decide) (by rfl) (Reg.mono_getD ?_) (by decide) (Reg.tail_bits (by kernel_rfl)) [0, 1, 2, 3, 4, 5, 6, 7] (by kernel_rfl) ?_ ?_ ?_ ?_ ?_
  · exact Reg.monoS_cons (Reg.monoS_eq _) (Reg.monoS_cons (Reg.monoS_eq _) (Reg.monoS_cons (rset_mono _ _) (Reg.monoS_cons (Reg.monoS_eq _) (Reg.monoS_cons (Reg.monoS_eq _) (Reg.monoS_cons (rset_mono _ _) (Reg.monoS_cons (rptr_mono _) (Reg.monoS_cons (rptr_mono _) (Reg.monoS_cons (fun _ _ _ _ h => h) (Reg.monoS_cons (fun _ _ _ _ h => h) Reg.monoS_nil)))))))))
  · intro w hw; exact ⟨fun g hg => absurd (Option.some.inj (show some undef = some (.pointer (some ⟨g, 0, none⟩)) from hg)) (by simp [undef]), fun g hg => absurd (Option.some.inj (show some undef = some (.pointer (some ⟨g, 0, none⟩)) from hg)) (by simp [undef]), fun g hg => absurd (Option.some.inj (show some undef = some (.pointer (some ⟨g, 0, none⟩)) from hg)) (by simp [undef])⟩
  · skip
    refine Reg.re_cons (Reg.RStepE.of_r (fun oi hoi a w v w' he hs => by cases hoi; exact Reg.two_put he (by decide) (by decide) hs) ?_) ?_
    · intro a w hb hs hel hon
      have e7 : a.tmps[7]? = some (.pointer (some ⟨g7, 0, none⟩)) := (hel 7 (by decide)).trans rfl
      refine ⟨_, rfl, fun K hK => ?_⟩
      rw [if_pos (by rfl)]
      exact wp_load_row 26 (.tmp 7) rfl g7 (eval_tmp e7) 26 _ (0, 0) _ ((hb.block _ (blk_lt HG7.out)).trans HG7.out) Tryd.underlying26 rfl (by rw [hi]; rfl) (hK.out _ _ (Below.refl _ _) rfl)
    refine Reg.re_cons (Reg.RStepE.of_r (fun oi hoi a w v w' he hs => by cases hoi; exact Reg.two_put he (by decide) (by decide) hs) ?_) ?_
    · intro a w hb hs hel hon
      have e9 : a.tmps[9]? = some (.pointer (some ⟨g9, 0, none⟩)) := (hel 9 (by decide)).trans rfl
      refine ⟨_, rfl, fun K hK => ?_⟩
      rw [if_pos (by rfl)]
      exact wp_load_row 26 (.tmp 9) rfl g9 (eval_tmp e9) 26 _ (0, 0) _ ((hb.block _ (blk_lt HG9.out)).trans HG9.out) Tryd.underlying26 rfl (by rw [hi]; rfl) (hK.out _ _ (Below.refl _ _) rfl)
    refine Reg.re_cons (Reg.RStepE.of_r (fun oi hoi a w v w' he hs => by cases hoi; exact Reg.two_put he (by decide) (by decide) hs) ?_) ?_
    · intro a w hb hs hel hon
      obtain ⟨_, e46, rfl⟩ := hon 0 46 (by kernel_rfl) rfl
      obtain ⟨_, e47, rfl⟩ := hon 1 47 (by kernel_rfl) rfl
      refine ⟨_, rfl, fun K hK => ?_⟩
      refine goes_ Tryd.func14 (by kernel_rfl) rfl #[.agg #[.int .i64 R, .slice A l.length c], .agg #[.int .i64 S, .slice E m.length f]] (by rfl) rfl rfl (by first | (simp only [List.map_toArray, List.map_cons, List.map_nil, Act.eval, Array.getD_eq_getD_getElem?, Option.getD_some, e46, e47]; done) | (simp only [List.map_toArray, List.map_cons, List.map_nil, Act.eval, Array.getD_eq_getD_getElem?, Option.getD_some, e46, e47]; rfl) | rfl) ?_
      refine (PA.out A c E f w (Kd.C_below HD1.out hb) hk1 (Kd.C_below HD3.out hb) hk3).mono ?_
      rintro e w2 ⟨v, rfl, ho, hb2⟩
      exact ⟨_, rfl, hK.out _ _ hb2 (rset_of ho)⟩
    refine Reg.re_cons (Reg.RStepE.of_r (fun oi hoi a w v w' he hs => by cases hoi; exact Reg.two_put he (by decide) (by decide) hs) ?_) ?_
    · intro a w hb hs hel hon
      have e7 : a.tmps[7]? = some (.pointer (some ⟨g7, 0, none⟩)) := (hel 7 (by decide)).trans rfl
      refine ⟨_, rfl, fun K hK => ?_⟩
      rw [if_pos (by rfl)]
      exact wp_load_row 26 (.tmp 7) rfl g7 (eval_tmp e7) 26 _ (0, 0) _ ((hb.block _ (blk_lt HG7.out)).trans HG7.out) Tryd.underlying26 rfl (by rw [hi]; rfl) (hK.out _ _ (Below.refl _ _) rfl)
    refine Reg.re_cons (Reg.RStepE.of_r (fun oi hoi a w v w' he hs => by cases hoi; exact Reg.two_put he (by decide) (by decide) hs) ?_) ?_
    · intro a w hb hs hel hon
      have e9 : a.tmps[9]? = some (.pointer (some ⟨g9, 0, none⟩)) := (hel 9 (by decide)).trans rfl
      refine ⟨_, rfl, fun K hK => ?_⟩
      rw [if_pos (by rfl)]
      exact wp_load_row 26 (.tmp 9) rfl g9 (eval_tmp e9) 26 _ (0, 0) _ ((hb.block _ (blk_lt HG9.out)).trans HG9.out) Tryd.underlying26 rfl (by rw [hi]; rfl) (hK.out _ _ (Below.refl _ _) rfl)
    refine Reg.re_cons (Reg.RStepE.of_r (fun oi hoi a w v w' he hs => by cases hoi; exact Reg.two_put he (by decide) (by decide) hs) ?_) ?_
    · intro a w hb hs hel hon
      obtain ⟨_, e49, rfl⟩ := hon 3 49 (by kernel_rfl) rfl
      obtain ⟨_, e50, rfl⟩ := hon 4 50 (by kernel_rfl) rfl
      refine ⟨_, rfl, fun K hK => ?_⟩
      refine goes_ Tryd.func15 (by kernel_rfl) rfl #[.agg #[.int .i64 R, .slice A l.length c], .agg #[.int .i64 S, .slice E m.length f]] (by rfl) rfl rfl (by first | (simp only [List.map_toArray, List.map_cons, List.map_nil, Act.eval, Array.getD_eq_getD_getElem?, Option.getD_some, e49, e50]; done) | (simp only [List.map_toArray, List.map_cons, List.map_nil, Act.eval, Array.getD_eq_getD_getElem?, Option.getD_some, e49, e50]; rfl) | rfl) ?_
      refine (PO.out A c E f w (Kd.C_below HD1.out hb) hk1 (Kd.C_below HD3.out hb) hk3).mono ?_
      rintro e w2 ⟨v, rfl, ho, hb2⟩
      exact ⟨_, rfl, hK.out _ _ hb2 (rset_of ho)⟩
    refine Reg.re_cons ?_ ?_
    · intro a w hb hs hel hE hon
      refine ⟨_, rfl, fun K hK => ?_⟩
      refine value_ (w1 := w.alloc (.cells #[.int .i64 0, .slice none 0 0] 26)) (v := .pointer (some ⟨w.heap.size, 0, none⟩)) (by rfl) rfl ?_ (hK.out _ _ ((Below.refl _ _).alloc (Nat.le_refl _) _) ⟨_, rfl, hb.size, heap_alloc_new _ _⟩ (Reg.two_new1 hE (by decide) (by simp)))
      · go_simp
        (try go_simp)
        try rfl
    refine Reg.re_cons ?_ ?_
    · intro a w hb hs hel hE hon
      refine ⟨_, rfl, fun K hK => ?_⟩
      refine value_ (w1 := w.alloc (.cells #[.int .i64 0, .slice none 0 0] 26)) (v := .pointer (some ⟨w.heap.size, 0, none⟩)) (by rfl) rfl ?_ (hK.out _ _ ((Below.refl _ _).alloc (Nat.le_refl _) _) ⟨_, rfl, hb.size, heap_alloc_new _ _⟩ (Reg.two_new2 hE (by decide) (by simp)))
      · go_simp
        (try go_simp)
        try rfl
    exact Reg.re_nil
  · intro a w hI hE
    obtain ⟨_, e11, g11, rfl, hl11, hr11⟩ := hI.vals 6 11 rfl (by decide)
    obtain ⟨_, e12, g12, rfl, hl12, hr12⟩ := hI.vals 7 12 rfl (by decide)
    obtain ⟨_, e48, A_2, c_2, rfl, hl_2, hC_2⟩ := hI.vals 2 48 rfl (by decide)
    obtain ⟨_, e51, A_5, c_5, rfl, hl_5, hC_5⟩ := hI.vals 5 51 rfl (by decide)
    exact JJ.mk (g11 := g11) (g12 := g12) ⟨hI.below, hI.defers, hI.size, hI.elder, e11, e12, e48, e51, fun e => hE.2.2 g11 e11 (e ▸ e12), hl11, hl12, hl_2, hl_5, hC_2, hC_5, hr11, hr12⟩
  · intro i h1 h2
    have h3 : i = 8 ∨ i = 9 := by have : i < 10 := h2; omega
    rcases h3 with rfl | rfl
    · intro a w hJ
      obtain ⟨g11, g12, Aa, ca, Ao, co, h⟩ := hJ
      refine ⟨_, rfl, fun K hK => ?_⟩
      rw [if_pos (by rfl)]
      exact wp_store_row 26 (.tmp 11) (.tmp 48) rfl g11 _ (eval_tmp h.e11) (eval_tmp h.e48) 26 _ h.r11 (by rw [hi]; rfl) rfl (by kernel_rfl) (hK.out _ _ (JJ.mk h.store1))
    · intro a w hJ
      obtain ⟨g11, g12, Aa, ca, Ao, co, h⟩ := hJ
      refine ⟨_, rfl, fun K hK => ?_⟩
      rw [if_pos (by rfl)]
      exact wp_store_row 26 (.tmp 12) (.tmp 51) rfl g12 _ (eval_tmp h.e12) (eval_tmp h.e51) 26 _ h.r12 (by rw [hi]; rfl) rfl (by kernel_rfl) (hK.out _ _ (JJ.mk h.store2))
  · intro a w hI
    obtain ⟨g11, g12, Aa, ca, Ao, co, h⟩ := hI
    rename_i K_ hK_
    refine hK_ a w ?_
    have hS5 : a.tmps.size = 108 := h.size
    have E7 := h.elder 7 (by decide)
    have E8 := h.elder 8 (by decide)
    have E9 := h.elder 9 (by decide)
    have E10 := h.elder 10 (by decide)
    have hD5 : a.defers = [] := h.defers
    have HB7 := Aside0.mk (HB6.out.trans (h.below.mono HB6.out.size))
    have HH7 := Aside0.mk ((h.below.block _ (blk_lt HG7.out)).trans HG7.out)
    have HH9 := Aside0.mk ((h.below.block _ (blk_lt HG9.out)).trans HG9.out)
    have HH11 := Aside0.mk h.r11
    have HH12 := Aside0.mk h.r12
    have HE1 := Aside0.mk (Kd.C_below HD1.out h.below)
    have HE2 := Aside0.mk (Kd.C_below HD2.out h.below)
    have HE3 := Aside0.mk (Kd.C_below HD3.out h.below)
    have HE4 := Aside0.mk (Kd.C_below HD4.out h.below)
    have HE5 := Aside0.mk h.hca
    have HE6 := Aside0.mk h.hco
    have hka := h.la
    have hko := h.lo
    have E11 := h.e11
    have E12 := h.e12
    clear h HG7 HG9 HD1 HD2 HD3 HD4
    go_wp2_with fail
    refine Reg.region_any [some 52, some 53, some 54, some 55, some 56, some 57, some 58, some 59, some 60, some 61, some 62, some 63, some 64, some 65, some 66, some 67, some 68, some 69, some 70, some 71, some 72, some 73, some 74, some 75, some 76, some 77, some 78, some 79, some 80, some 81, some 82, some 83, some 84, some 85, some 86, some 87, some 88, some 89, some 90, some 91, some 92, some 93, some 94, some 95, some 96, some 97, some 98, some 99, some 100, some 101, some 102, some 103, some 104, some 105, some 106, some 107, some 6] [0, 0, 0, 6, 15, 31, 63, 63, 63, 447, 1023, 2047, 4095, 8191, 8191, 32767, 8191, 8191, 262143, 524287, 1048575, 2097151, 4194303, 4194303, 4194303, 29360127, 67108863, 134217727, 268435455, 536870911, 536870911, 536870911, 3758096383, 8589934591, 17179869183, 34359738367, 68719476735, 137438953471, 68719476735, 549755813887, 1099511627775, 68719476735, 3298534883327, 68719476735, 16492674416639, 34084860461055, 70368744177663, 140737488355327, 281474976710655, 562949953421311, 562949953421311, 2251799813685247, 4503599627370495, 9007199254740991, 18014398509481983, 36028797018963967, 72057594037927935] (true, [([], []), ([], []), ([], []), ([1, 2], [1, 2]), ([0, 3, 3], [0, 3]), ([4, 4], [4]), ([5], [5]), ([5], [5]), ([5], [5]), ([7, 8, 5, 5], [5, 7, 8]), ([6, 9, 9, 5], [5, 6, 9]), ([5, 10], [5, 10]), ([11, 10], [11]), ([12], [12]), ([12], [12]), ([13, 14, 12, 12], [12, 13, 14]), ([12], [12]), ([12], [12]), ([16, 17, 15, 12], [12, 16, 17]), ([15, 18, 12], [12, 15, 18]), ([12, 19], [12, 19]), ([20, 18], [20]), ([21], [21]), ([21], [21]), ([21], [21]), ([23, 24, 21, 21], [21, 23, 24]), ([22, 25, 25, 21], [21, 22, 25]), ([21, 26], [21, 26]), ([27, 26], [27]), ([28], [28]), ([28], [28]), ([28], [28]), ([30, 31, 28, 28], [28, 30, 31]), ([29, 32, 32, 28], [28, 29, 32]), ([28, 33], [28, 33]), ([34, 33], [34]), ([35], [35]), ([36, 35, 35], [35, 36]), ([35], [35]), ([38, 37, 35], [35, 38]), ([37, 39, 35], [35, 37, 39]), ([35], [35]), ([41, 39, 35], [35, 41]), ([35], [35]), ([43, 42, 35], [35, 43]), ([42, 44, 35], [35, 42, 44]), ([40, 45, 35], [35, 40, 45]), ([35, 46], [35, 46]), ([47, 44], [47]), ([48], [48]), ([48], [48]), ([49, 50, 48, 48], [48, 49, 50]), ([48, 51], [48, 51]), ([52, 51], [52]), ([53, 53], [53]), ([53, 54], [53, 54]), ([55, 54, 0, 1, 2, 3, 4, 5, 6, 7, 8, 9, 10, 11, 12, 13, 14, 15, 16, 17, 18, 19, 20, 21, 22, 23, 24, 25, 26, 27, 28, 29, 30, 31, 32, 33, 34, 35, 36, 37, 38, 39, 40, 41, 42, 43, 44, 45, 46, 47, 48, 49, 50, 51, 52, 53, 54, 55], [55])]) (fun i => ([(fun _ v_ => v_ = (.agg #[.int .i64 RA, .slice Aa LA.length ca])), (fun _ v_ => v_ = (.slice A' x.length c')), (fun _ v_ => v_ = (.slice E' y.length f')), (fun w_ v_ => Reg.Rs Kd.bool w_ v_ (andL x y)), (fun _ v_ => v_ = (.bool true)), (fun _ v_ => v_ = (.bool true)), (fun _ v_ => v_ = (.agg #[.int .i64 RO, .slice Ao LO.length co])), (fun _ v_ => v_ = (.slice A' x.length c')), (fun _ v_ => v_ = (.slice E' y.length f')), (fun w_ v_ => Reg.Rs Kd.bool w_ v_ (orL x y)), (fun _ v_ => v_ = (.bool true)), (fun _ v_ => v_ = (.bool true)), (fun _ v_ => v_ = (.bool true)), (fun _ v_ => v_ = (.agg #[.int .i64 R, .slice A l.length c])), (fun _ v_ => v_ = (.agg #[.int .i64 S, .slice E m.length f])), (fun _ v_ => v_ = (.bool b)), (fun _ v_ => v_ = (.slice A' x.length c')), (fun _ v_ => v_ = (.slice E' y.length f')), (fun _ v_ => v_ = (.bool b)), (fun _ v_ => v_ = (.bool true)), (fun _ v_ => v_ = (.bool true)), (fun _ v_ => v_ = (.bool true)), (fun _ v_ => v_ = (.agg #[.int .i64 RA, .slice Aa LA.length ca])), (fun _ v_ => v_ = (.agg #[.int .i64 S, .slice E m.length f])), (fun _ v_ => v_ = (.agg #[.int .i64 R, .slice A l.length c])), (RSet RB LB), (fun _ v_ => v_ = (.bool true)), (fun _ v_ => v_ = (.bool true)), (fun _ v_ => v_ = (.bool true)), (fun _ v_ => v_ = (.agg #[.int .i64 RO, .slice Ao LO.length co])), (fun _ v_ => v_ = (.agg #[.int .i64 S, .slice E m.length f])), (fun _ v_ => v_ = (.agg #[.int .i64 R, .slice A l.length c])), (RSet RQ LQ), (fun _ v_ => v_ = (.bool true)), (fun _ v_ => v_ = (.bool true)), (fun _ v_ => v_ = (.bool true)), (fun _ v_ => v_ = (.agg #[.int .i64 RA, .slice Aa LA.length ca])), (fun _ v_ => v_ = (.int .i64 nA)), (fun _ v_ => v_ = (.agg #[.int .i64 RO, .slice Ao LO.length co])), (fun _ v_ => v_ = (.int .i64 nO)), (fun _ v_ => v_ = (.int .i64 (wrap64 (nA + nO)))), (fun _ v_ => v_ = (.agg #[.int .i64 R, .slice A l.length c])), (fun _ v_ => v_ = (.int .i64 nS)), (fun _ v_ => v_ = (.agg #[.int .i64 S, .slice E m.length f])), (fun _ v_ => v_ = (.int .i64 nT)), (fun _ v_ => v_ = (.int .i64 (wrap64 (nA + nO)))), (fun _ v_ => v_ = (.bool true)), (fun _ v_ => v_ = (.bool true)), (fun _ v_ => v_ = (.bool true)), (fun _ v_ => v_ = (.agg #[.int .i64 R, .slice A l.length c])), (fun _ v_ => v_ = (.slice A' x.length c')), (fun _ v_ => v_ = (.bool true)), (fun _ v_ => v_ = (.bool true)), (fun _ v_ => v_ = (.bool true)), (fun _ v_ => v_ = (.bool true)), (fun _ v_ => v_ = (.bool true)), (fun _ v_ => v_ = (.bool true))] : List (World → Value → Prop)).getD i (fun _ _ => False))
        (by kernel_rfl) (by kernel_rfl) (by kernel_rfl) (by kernel_rfl) (by kernel_rfl) (by decide) (by rw [hS5]; rfl) (Reg.mono_getD ?_) [0, 1, 2, 3, 4, 5, 6, 7, 8, 9, 10, 11, 12, 13, 14, 15, 16, 17, 18, 19, 20, 21, 22, 23, 24, 25, 26, 27, 28, 29, 30, 31, 32, 33, 34, 35, 36, 37, 38, 39, 40, 41, 42, 43, 44, 45, 46, 47, 48, 49, 50, 51, 52, 53, 54, 55, 56] (by kernel_rfl) ?_ ?_
    · exact Reg.monoS_cons (Reg.monoS_eq _) (Reg.monoS_cons (Reg.monoS_eq _) (Reg.monoS_cons (Reg.monoS_eq _) (Reg.monoS_cons (Reg.monoS_rs _ _) (Reg.monoS_cons (Reg.monoS_eq _) (Reg.monoS_cons (Reg.monoS_eq _) (Reg.monoS_cons (Reg.monoS_eq _) (Reg.monoS_cons (Reg.monoS_eq _) (Reg.monoS_cons (Reg.monoS_eq _) (Reg.monoS_cons (Reg.monoS_rs _ _) (Reg.monoS_cons (Reg.monoS_eq _) (Reg.monoS_cons (Reg.monoS_eq _) (Reg.monoS_cons (Reg.monoS_eq _) (Reg.monoS_cons (Reg.monoS_eq _) (Reg.monoS_cons (Reg.monoS_eq _) (Reg.monoS_cons (Reg.monoS_eq _) (Reg.monoS_cons (Reg.monoS_eq _) (Reg.monoS_cons (Reg.monoS_eq _) (Reg.monoS_cons (Reg.monoS_eq _) (Reg.monoS_cons (Reg.monoS_eq _) (Reg.monoS_cons (Reg.monoS_eq _) (Reg.monoS_cons (Reg.monoS_eq _) (Reg.monoS_cons (Reg.monoS_eq _) (Reg.monoS_cons (Reg.monoS_eq _) (Reg.monoS_cons (Reg.monoS_eq _) (Reg.monoS_cons (rset_mono _ _) (Reg.monoS_cons (Reg.monoS_eq _) (Reg.monoS_cons (Reg.monoS_eq _) (Reg.monoS_cons (Reg.monoS_eq _) (Reg.monoS_cons (Reg.monoS_eq _) (Reg.monoS_cons (Reg.monoS_eq _) (Reg.monoS_cons (Reg.monoS_eq _) (Reg.monoS_cons (rset_mono _ _) (Reg.monoS_cons (Reg.monoS_eq _) (Reg.monoS_cons (Reg.monoS_eq _) (Reg.monoS_cons (Reg.monoS_eq _) (Reg.monoS_cons (Reg.monoS_eq _) (Reg.monoS_cons (Reg.monoS_eq _) (Reg.monoS_cons (Reg.monoS_eq _) (Reg.monoS_cons (Reg.monoS_eq _) (Reg.monoS_cons (Reg.monoS_eq _) (Reg.monoS_cons (Reg.monoS_eq _) (Reg.monoS_cons (Reg.monoS_eq _) (Reg.monoS_cons (Reg.monoS_eq _) (Reg.monoS_cons (Reg.monoS_eq _) (Reg.monoS_cons (Reg.monoS_eq _) (Reg.monoS_cons (Reg.monoS_eq _) (Reg.monoS_cons (Reg.monoS_eq _) (Reg.monoS_cons (Reg.monoS_eq _) (Reg.monoS_cons (Reg.monoS_eq _) (Reg.monoS_cons (Reg.monoS_eq _) (Reg.monoS_cons (Reg.monoS_eq _) (Reg.monoS_cons (Reg.monoS_eq _) (Reg.monoS_cons (Reg.monoS_eq _) (Reg.monoS_cons (Reg.monoS_eq _) (Reg.monoS_cons (Reg.monoS_eq _) (Reg.monoS_cons (Reg.monoS_eq _) Reg.monoS_nil))))))))))))))))))))))))))))))))))))))))))))))))))))))))
    · skip
      refine Reg.rs_cons ?_ ?_
      · intro a w hb hs hel hon
        have e11 : a.tmps[11]? = some (.pointer (some ⟨g11, 0, none⟩)) := (hel 11 (by decide)).trans E11
        refine ⟨_, rfl, fun K hK => ?_⟩
        rw [if_pos (by rfl)]
        exact wp_load_row 26 (.tmp 11) rfl g11 (eval_tmp e11) 26 _ (0, 0) _ ((hb.block _ (blk_lt HH11.out)).trans HH11.out) Tryd.underlying26 rfl (by rw [hi]; rfl) (hK.out _ _ (Below.refl _ _) rfl)
      refine Reg.rs_cons ?_ ?_
      · intro a w hb hs hel hon
        have e8 : a.tmps[8]? = some (.slice A' x.length c') := (hel 8 (by decide)).trans E8
        obtain ⟨_, g8⟩ := Array.getElem?_eq_some_iff.1 e8
        refine ⟨_, rfl, fun K hK => ?_⟩
        refine value_ (w1 := w) (v := .slice A' x.length c') (by rfl) rfl ?_ (hK.out _ _ (Below.refl _ _) (rfl))
        · go_simp
          (try simp only [i64_w, g8])
          (try go_simp)
          try rfl
      refine Reg.rs_cons ?_ ?_
      · intro a w hb hs hel hon
        have e10 : a.tmps[10]? = some (.slice E' y.length f') := (hel 10 (by decide)).trans E10
        obtain ⟨_, g10⟩ := Array.getElem?_eq_some_iff.1 e10
        refine ⟨_, rfl, fun K hK => ?_⟩
        refine value_ (w1 := w) (v := .slice E' y.length f') (by rfl) rfl ?_ (hK.out _ _ (Below.refl _ _) (rfl))
        · go_simp
          (try simp only [i64_w, g10])
          (try go_simp)
          try rfl
      refine Reg.rs_cons ?_ ?_
      · intro a w hb hs hel hon
        obtain ⟨_, e53, rfl⟩ := hon 1 53 (by kernel_rfl) rfl
        obtain ⟨_, e54, rfl⟩ := hon 2 54 (by kernel_rfl) rfl
        refine ⟨_, rfl, fun K hK => ?_⟩
        refine goes_ Tryd.func16 (by kernel_rfl) rfl #[.slice A' x.length c', .slice E' y.length f'] (by rfl) rfl rfl (by first | (simp only [List.map_toArray, List.map_cons, List.map_nil, Act.eval, Array.getD_eq_getD_getElem?, Option.getD_some, e53, e54]; done) | (simp only [List.map_toArray, List.map_cons, List.map_nil, Act.eval, Array.getD_eq_getD_getElem?, Option.getD_some, e53, e54]; rfl) | rfl) ?_
        refine (QX.out A' c' E' f' w (Kd.C_below HE2.out hb) hk2 (Kd.C_below HE4.out hb) hk4).mono ?_
        rintro e w2 ⟨v, rfl, ho, hb2⟩
        exact ⟨_, rfl, hK.out _ _ hb2 (Kd.R_reads ho)⟩
      refine Reg.rs_cons ?_ ?_
      · intro a w hb hs hel hon
        obtain ⟨_, e52, rfl⟩ := hon 0 52 (by kernel_rfl) rfl
        obtain ⟨x55, e55, ⟨A_3, c_3, rfl, hl_3, hC_3⟩⟩ := hon 3 55 (by kernel_rfl) rfl
        refine ⟨_, rfl, fun K hK => ?_⟩
        refine goes_ Tryd.func8 (by kernel_rfl) rfl #[.agg #[.int .i64 RA, .slice Aa LA.length ca], .slice A_3 (andL x y).length c_3] (by rfl) rfl rfl (by first | (simp only [List.map_toArray, List.map_cons, List.map_nil, Act.eval, Array.getD_eq_getD_getElem?, Option.getD_some, e52, e55]; done) | (simp only [List.map_toArray, List.map_cons, List.map_nil, Act.eval, Array.getD_eq_getD_getElem?, Option.getD_some, e52, e55]; rfl) | rfl) ?_
        refine (Q5.out Aa ca A_3 c_3 w (Kd.C_below HE5.out hb) hka hC_3 hl_3 (HL.out.below (HB7.out.trans (hb.mono HB7.out.size)))).mono ?_
        rintro e w2 ⟨rfl, hb2⟩
        exact ⟨_, rfl, hK.out _ _ hb2 rfl⟩
      refine Reg.rs_cons ?_ ?_
      · intro a w hb hs hel hon
        obtain ⟨_, e56, rfl⟩ := hon 4 56 (by kernel_rfl) rfl
        obtain ⟨_, g56⟩ := Array.getElem?_eq_some_iff.1 e56
        refine ⟨_, rfl, fun K hK => ?_⟩
        refine value_ (w1 := w) (v := .bool true) (by rfl) rfl ?_ (hK.out _ _ (Below.refl _ _) (rfl))
        · go_simp
          (try simp only [i64_w, g56])
          (try go_simp)
          try rfl
      refine Reg.rs_cons ?_ ?_
      · intro a w hb hs hel hon
        have e12 : a.tmps[12]? = some (.pointer (some ⟨g12, 0, none⟩)) := (hel 12 (by decide)).trans E12
        obtain ⟨_, e57, rfl⟩ := hon 5 57 (by kernel_rfl) rfl
        refine ⟨_, rfl, fun K hK => ?_⟩
        rw [if_pos (wanted_on rfl rfl rfl e57)]
        exact wp_load_row 26 (.tmp 12) rfl g12 (eval_tmp e12) 26 _ (0, 0) _ ((hb.block _ (blk_lt HH12.out)).trans HH12.out) Tryd.underlying26 rfl (by rw [hi]; rfl) (hK.out _ _ (Below.refl _ _) rfl)
      refine Reg.rs_cons ?_ ?_
      · intro a w hb hs hel hon
        have e8 : a.tmps[8]? = some (.slice A' x.length c') := (hel 8 (by decide)).trans E8
        obtain ⟨_, e57, rfl⟩ := hon 5 57 (by kernel_rfl) rfl
        obtain ⟨_, g8⟩ := Array.getElem?_eq_some_iff.1 e8
        obtain ⟨_, g57⟩ := Array.getElem?_eq_some_iff.1 e57
        refine ⟨_, rfl, fun K hK => ?_⟩
        refine value_ (w1 := w) (v := .slice A' x.length c') (wanted_on rfl rfl rfl e57) rfl ?_ (hK.out _ _ (Below.refl _ _) (rfl))
        · go_simp
          (try simp only [i64_w, g8, g57])
          (try go_simp)
          try rfl
      refine Reg.rs_cons ?_ ?_
      · intro a w hb hs hel hon
        have e10 : a.tmps[10]? = some (.slice E' y.length f') := (hel 10 (by decide)).trans E10
        obtain ⟨_, e57, rfl⟩ := hon 5 57 (by kernel_rfl) rfl
        obtain ⟨_, g10⟩ := Array.getElem?_eq_some_iff.1 e10
        obtain ⟨_, g57⟩ := Array.getElem?_eq_some_iff.1 e57
        refine ⟨_, rfl, fun K hK => ?_⟩
        refine value_ (w1 := w) (v := .slice E' y.length f') (wanted_on rfl rfl rfl e57) rfl ?_ (hK.out _ _ (Below.refl _ _) (rfl))
        · go_simp
          (try simp only [i64_w, g10, g57])
          (try go_simp)
          try rfl
      refine Reg.rs_cons ?_ ?_
      · intro a w hb hs hel hon
        obtain ⟨_, e59, rfl⟩ := hon 7 59 (by kernel_rfl) rfl
        obtain ⟨_, e60, rfl⟩ := hon 8 60 (by kernel_rfl) rfl
        obtain ⟨_, e57, rfl⟩ := hon 5 57 (by kernel_rfl) rfl
        refine ⟨_, rfl, fun K hK => ?_⟩
        refine goes_ Tryd.func17 (by kernel_rfl) rfl #[.slice A' x.length c', .slice E' y.length f'] (wanted_on rfl rfl rfl e57) rfl rfl (by first | (simp only [List.map_toArray, List.map_cons, List.map_nil, Act.eval, Array.getD_eq_getD_getElem?, Option.getD_some, e59, e60, e57]; done) | (simp only [List.map_toArray, List.map_cons, List.map_nil, Act.eval, Array.getD_eq_getD_getElem?, Option.getD_some, e59, e60, e57]; rfl) | rfl) ?_
        refine (QY.out A' c' E' f' w (Kd.C_below HE2.out hb) hk2 (Kd.C_below HE4.out hb) hk4).mono ?_
        rintro e w2 ⟨v, rfl, ho, hb2⟩
        exact ⟨_, rfl, hK.out _ _ hb2 (Kd.R_reads ho)⟩
      refine Reg.rs_cons ?_ ?_
      · intro a w hb hs hel hon
        obtain ⟨_, e58, rfl⟩ := hon 6 58 (by kernel_rfl) rfl
        obtain ⟨x61, e61, ⟨A_9, c_9, rfl, hl_9, hC_9⟩⟩ := hon 9 61 (by kernel_rfl) rfl
        obtain ⟨_, e57, rfl⟩ := hon 5 57 (by kernel_rfl) rfl
        refine ⟨_, rfl, fun K hK => ?_⟩
        refine goes_ Tryd.func8 (by kernel_rfl) rfl #[.agg #[.int .i64 RO, .slice Ao LO.length co], .slice A_9 (orL x y).length c_9] (wanted_on rfl rfl rfl e57) rfl rfl (by first | (simp only [List.map_toArray, List.map_cons, List.map_nil, Act.eval, Array.getD_eq_getD_getElem?, Option.getD_some, e58, e61, e57]; done) | (simp only [List.map_toArray, List.map_cons, List.map_nil, Act.eval, Array.getD_eq_getD_getElem?, Option.getD_some, e58, e61, e57]; rfl) | rfl) ?_
        refine (Q6.out Ao co A_9 c_9 w (Kd.C_below HE6.out hb) hko hC_9 hl_9 (HL.out.below (HB7.out.trans (hb.mono HB7.out.size)))).mono ?_
        rintro e w2 ⟨rfl, hb2⟩
        exact ⟨_, rfl, hK.out _ _ hb2 rfl⟩
      refine Reg.rs_cons ?_ ?_
      · intro a w hb hs hel hon
        obtain ⟨_, e57, rfl⟩ := hon 5 57 (by kernel_rfl) rfl
        obtain ⟨_, e62, rfl⟩ := hon 10 62 (by kernel_rfl) rfl
        obtain ⟨_, g57⟩ := Array.getElem?_eq_some_iff.1 e57
        obtain ⟨_, g62⟩ := Array.getElem?_eq_some_iff.1 e62
        refine ⟨_, rfl, fun K hK => ?_⟩
        refine value_ (w1 := w) (v := .bool true) (by rfl) rfl ?_ (hK.out _ _ (Below.refl _ _) (rfl))
        · go_simp
          (try simp only [i64_w, g57, g62])
          (try go_simp)
          try rfl
      refine Reg.rs_cons ?_ ?_
      · intro a w hb hs hel hon
        obtain ⟨_, e63, rfl⟩ := hon 11 63 (by kernel_rfl) rfl
        obtain ⟨_, g63⟩ := Array.getElem?_eq_some_iff.1 e63
        refine ⟨_, rfl, fun K hK => ?_⟩
        refine value_ (w1 := w) (v := .bool true) (by rfl) rfl ?_ (hK.out _ _ (Below.refl _ _) (rfl))
        · go_simp
          (try simp only [i64_w, g63])
          (try go_simp)
          try rfl
      refine Reg.rs_cons ?_ ?_
      · intro a w hb hs hel hon
        have e7 : a.tmps[7]? = some (.pointer (some ⟨g7, 0, none⟩)) := (hel 7 (by decide)).trans E7
        obtain ⟨_, e64, rfl⟩ := hon 12 64 (by kernel_rfl) rfl
        refine ⟨_, rfl, fun K hK => ?_⟩
        rw [if_pos (wanted_on rfl rfl rfl e64)]
        exact wp_load_row 26 (.tmp 7) rfl g7 (eval_tmp e7) 26 _ (0, 0) _ ((hb.block _ (blk_lt HH7.out)).trans HH7.out) Tryd.underlying26 rfl (by rw [hi]; rfl) (hK.out _ _ (Below.refl _ _) rfl)
      refine Reg.rs_cons ?_ ?_
      · intro a w hb hs hel hon
        have e9 : a.tmps[9]? = some (.pointer (some ⟨g9, 0, none⟩)) := (hel 9 (by decide)).trans E9
        obtain ⟨_, e64, rfl⟩ := hon 12 64 (by kernel_rfl) rfl
        refine ⟨_, rfl, fun K hK => ?_⟩
        rw [if_pos (wanted_on rfl rfl rfl e64)]
        exact wp_load_row 26 (.tmp 9) rfl g9 (eval_tmp e9) 26 _ (0, 0) _ ((hb.block _ (blk_lt HH9.out)).trans HH9.out) Tryd.underlying26 rfl (by rw [hi]; rfl) (hK.out _ _ (Below.refl _ _) rfl)
      refine Reg.rs_cons ?_ ?_
      · intro a w hb hs hel hon
        obtain ⟨_, e65, rfl⟩ := hon 13 65 (by kernel_rfl) rfl
        obtain ⟨_, e66, rfl⟩ := hon 14 66 (by kernel_rfl) rfl
        obtain ⟨_, e64, rfl⟩ := hon 12 64 (by kernel_rfl) rfl
        refine ⟨_, rfl, fun K hK => ?_⟩
        refine goes_ Tryd.func18 (by kernel_rfl) rfl #[.agg #[.int .i64 R, .slice A l.length c], .agg #[.int .i64 S, .slice E m.length f]] (wanted_on rfl rfl rfl e64) rfl rfl (by first | (simp only [List.map_toArray, List.map_cons, List.map_nil, Act.eval, Array.getD_eq_getD_getElem?, Option.getD_some, e65, e66, e64]; done) | (simp only [List.map_toArray, List.map_cons, List.map_nil, Act.eval, Array.getD_eq_getD_getElem?, Option.getD_some, e65, e66, e64]; rfl) | rfl) ?_
        refine (Q8.out A c E f w (Kd.C_below HE1.out hb) hk1 (Kd.C_below HE3.out hb) hk3).mono ?_
        rintro e w2 ⟨rfl, hb2⟩
        exact ⟨_, rfl, hK.out _ _ hb2 rfl⟩
      refine Reg.rs_cons ?_ ?_
      · intro a w hb hs hel hon
        have e8 : a.tmps[8]? = some (.slice A' x.length c') := (hel 8 (by decide)).trans E8
        obtain ⟨_, e64, rfl⟩ := hon 12 64 (by kernel_rfl) rfl
        obtain ⟨_, g8⟩ := Array.getElem?_eq_some_iff.1 e8
        obtain ⟨_, g64⟩ := Array.getElem?_eq_some_iff.1 e64
        refine ⟨_, rfl, fun K hK => ?_⟩
        refine value_ (w1 := w) (v := .slice A' x.length c') (wanted_on rfl rfl rfl e64) rfl ?_ (hK.out _ _ (Below.refl _ _) (rfl))
        · go_simp
          (try simp only [i64_w, g8, g64])
          (try go_simp)
          try rfl
      refine Reg.rs_cons ?_ ?_
      · intro a w hb hs hel hon
        have e10 : a.tmps[10]? = some (.slice E' y.length f') := (hel 10 (by decide)).trans E10
        obtain ⟨_, e64, rfl⟩ := hon 12 64 (by kernel_rfl) rfl
        obtain ⟨_, g10⟩ := Array.getElem?_eq_some_iff.1 e10
        obtain ⟨_, g64⟩ := Array.getElem?_eq_some_iff.1 e64
        refine ⟨_, rfl, fun K hK => ?_⟩
        refine value_ (w1 := w) (v := .slice E' y.length f') (wanted_on rfl rfl rfl e64) rfl ?_ (hK.out _ _ (Below.refl _ _) (rfl))
        · go_simp
          (try simp only [i64_w, g10, g64])
          (try go_simp)
          try rfl
      refine Reg.rs_cons ?_ ?_
      · intro a w hb hs hel hon
        obtain ⟨_, e68, rfl⟩ := hon 16 68 (by kernel_rfl) rfl
        obtain ⟨_, e69, rfl⟩ := hon 17 69 (by kernel_rfl) rfl
        obtain ⟨_, e64, rfl⟩ := hon 12 64 (by kernel_rfl) rfl
        refine ⟨_, rfl, fun K hK => ?_⟩
        refine goes_ Tryd.func19 (by kernel_rfl) rfl #[.slice A' x.length c', .slice E' y.length f'] (wanted_on rfl rfl rfl e64) rfl rfl (by first | (simp only [List.map_toArray, List.map_cons, List.map_nil, Act.eval, Array.getD_eq_getD_getElem?, Option.getD_some, e68, e69, e64]; done) | (simp only [List.map_toArray, List.map_cons, List.map_nil, Act.eval, Array.getD_eq_getD_getElem?, Option.getD_some, e68, e69, e64]; rfl) | rfl) ?_
        refine (Q9.out A' c' E' f' w (Kd.C_below HE2.out hb) hk2 (Kd.C_below HE4.out hb) hk4).mono ?_
        rintro e w2 ⟨rfl, hb2⟩
        exact ⟨_, rfl, hK.out _ _ hb2 rfl⟩
      refine Reg.rs_cons ?_ ?_
      · intro a w hb hs hel hon
        obtain ⟨_, e67, rfl⟩ := hon 15 67 (by kernel_rfl) rfl
        obtain ⟨_, e70, rfl⟩ := hon 18 70 (by kernel_rfl) rfl
        obtain ⟨_, e64, rfl⟩ := hon 12 64 (by kernel_rfl) rfl
        obtain ⟨_, g67⟩ := Array.getElem?_eq_some_iff.1 e67
        obtain ⟨_, g70⟩ := Array.getElem?_eq_some_iff.1 e70
        obtain ⟨_, g64⟩ := Array.getElem?_eq_some_iff.1 e64
        refine ⟨_, rfl, fun K hK => ?_⟩
        refine value_ (w1 := w) (v := .bool true) (wanted_on rfl rfl rfl e64) rfl ?_ (hK.out _ _ (Below.refl _ _) (rfl))
        · go_simp
          (try simp only [i64_w, g67, g70, g64])
          (try go_simp)
          try rfl
      refine Reg.rs_cons ?_ ?_
      · intro a w hb hs hel hon
        obtain ⟨_, e64, rfl⟩ := hon 12 64 (by kernel_rfl) rfl
        obtain ⟨_, e71, rfl⟩ := hon 19 71 (by kernel_rfl) rfl
        obtain ⟨_, g64⟩ := Array.getElem?_eq_some_iff.1 e64
        obtain ⟨_, g71⟩ := Array.getElem?_eq_some_iff.1 e71
        refine ⟨_, rfl, fun K hK => ?_⟩
        refine value_ (w1 := w) (v := .bool true) (by rfl) rfl ?_ (hK.out _ _ (Below.refl _ _) (rfl))
        · go_simp
          (try simp only [i64_w, g64, g71])
          (try go_simp)
          try rfl
      refine Reg.rs_cons ?_ ?_
      · intro a w hb hs hel hon
        obtain ⟨_, e72, rfl⟩ := hon 20 72 (by kernel_rfl) rfl
        obtain ⟨_, g72⟩ := Array.getElem?_eq_some_iff.1 e72
        refine ⟨_, rfl, fun K hK => ?_⟩
        refine value_ (w1 := w) (v := .bool true) (by rfl) rfl ?_ (hK.out _ _ (Below.refl _ _) (rfl))
        · go_simp
          (try simp only [i64_w, g72])
          (try go_simp)
          try rfl
      refine Reg.rs_cons ?_ ?_
      · intro a w hb hs hel hon
        have e11 : a.tmps[11]? = some (.pointer (some ⟨g11, 0, none⟩)) := (hel 11 (by decide)).trans E11
        obtain ⟨_, e73, rfl⟩ := hon 21 73 (by kernel_rfl) rfl
        refine ⟨_, rfl, fun K hK => ?_⟩
        rw [if_pos (wanted_on rfl rfl rfl e73)]
        exact wp_load_row 26 (.tmp 11) rfl g11 (eval_tmp e11) 26 _ (0, 0) _ ((hb.block _ (blk_lt HH11.out)).trans HH11.out) Tryd.underlying26 rfl (by rw [hi]; rfl) (hK.out _ _ (Below.refl _ _) rfl)
      refine Reg.rs_cons ?_ ?_
      · intro a w hb hs hel hon
        have e9 : a.tmps[9]? = some (.pointer (some ⟨g9, 0, none⟩)) := (hel 9 (by decide)).trans E9
        obtain ⟨_, e73, rfl⟩ := hon 21 73 (by kernel_rfl) rfl
        refine ⟨_, rfl, fun K hK => ?_⟩
        rw [if_pos (wanted_on rfl rfl rfl e73)]
        exact wp_load_row 26 (.tmp 9) rfl g9 (eval_tmp e9) 26 _ (0, 0) _ ((hb.block _ (blk_lt HH9.out)).trans HH9.out) Tryd.underlying26 rfl (by rw [hi]; rfl) (hK.out _ _ (Below.refl _ _) rfl)
      refine Reg.rs_cons ?_ ?_
      · intro a w hb hs hel hon
        have e7 : a.tmps[7]? = some (.pointer (some ⟨g7, 0, none⟩)) := (hel 7 (by decide)).trans E7
        obtain ⟨_, e73, rfl⟩ := hon 21 73 (by kernel_rfl) rfl
        refine ⟨_, rfl, fun K hK => ?_⟩
        rw [if_pos (wanted_on rfl rfl rfl e73)]
        exact wp_load_row 26 (.tmp 7) rfl g7 (eval_tmp e7) 26 _ (0, 0) _ ((hb.block _ (blk_lt HH7.out)).trans HH7.out) Tryd.underlying26 rfl (by rw [hi]; rfl) (hK.out _ _ (Below.refl _ _) rfl)
      refine Reg.rs_cons ?_ ?_
      · intro a w hb hs hel hon
        obtain ⟨_, e75, rfl⟩ := hon 23 75 (by kernel_rfl) rfl
        obtain ⟨_, e76, rfl⟩ := hon 24 76 (by kernel_rfl) rfl
        obtain ⟨_, e73, rfl⟩ := hon 21 73 (by kernel_rfl) rfl
        refine ⟨_, rfl, fun K hK => ?_⟩
        refine goes_ Tryd.func14 (by kernel_rfl) rfl #[.agg #[.int .i64 S, .slice E m.length f], .agg #[.int .i64 R, .slice A l.length c]] (wanted_on rfl rfl rfl e73) rfl rfl (by first | (simp only [List.map_toArray, List.map_cons, List.map_nil, Act.eval, Array.getD_eq_getD_getElem?, Option.getD_some, e75, e76, e73]; done) | (simp only [List.map_toArray, List.map_cons, List.map_nil, Act.eval, Array.getD_eq_getD_getElem?, Option.getD_some, e75, e76, e73]; rfl) | rfl) ?_
        refine (PB.out E f A c w (Kd.C_below HE3.out hb) hk3 (Kd.C_below HE1.out hb) hk1).mono ?_
        rintro e w2 ⟨v, rfl, ho, hb2⟩
        exact ⟨_, rfl, hK.out _ _ hb2 (rset_of ho)⟩
      refine Reg.rs_cons ?_ ?_
      · intro a w hb hs hel hon
        obtain ⟨_, e74, rfl⟩ := hon 22 74 (by kernel_rfl) rfl
        obtain ⟨x77, e77, ⟨A_25, c_25, rfl, hl_25, hC_25⟩⟩ := hon 25 77 (by kernel_rfl) rfl
        obtain ⟨_, e73, rfl⟩ := hon 21 73 (by kernel_rfl) rfl
        refine ⟨_, rfl, fun K hK => ?_⟩
        refine goes_ Tryd.func18 (by kernel_rfl) rfl #[.agg #[.int .i64 RA, .slice Aa LA.length ca], .agg #[.int .i64 RB, .slice A_25 LB.length c_25]] (wanted_on rfl rfl rfl e73) rfl rfl (by first | (simp only [List.map_toArray, List.map_cons, List.map_nil, Act.eval, Array.getD_eq_getD_getElem?, Option.getD_some, e74, e77, e73]; done) | (simp only [List.map_toArray, List.map_cons, List.map_nil, Act.eval, Array.getD_eq_getD_getElem?, Option.getD_some, e74, e77, e73]; rfl) | rfl) ?_
        refine (QA.out Aa ca A_25 c_25 w (Kd.C_below HE5.out hb) hka hC_25 hl_25).mono ?_
        rintro e w2 ⟨rfl, hb2⟩
        exact ⟨_, rfl, hK.out _ _ hb2 rfl⟩
      refine Reg.rs_cons ?_ ?_
      · intro a w hb hs hel hon
        obtain ⟨_, e73, rfl⟩ := hon 21 73 (by kernel_rfl) rfl
        obtain ⟨_, e78, rfl⟩ := hon 26 78 (by kernel_rfl) rfl
        obtain ⟨_, g73⟩ := Array.getElem?_eq_some_iff.1 e73
        obtain ⟨_, g78⟩ := Array.getElem?_eq_some_iff.1 e78
        refine ⟨_, rfl, fun K hK => ?_⟩
        refine value_ (w1 := w) (v := .bool true) (by rfl) rfl ?_ (hK.out _ _ (Below.refl _ _) (rfl))
        · go_simp
          (try simp only [i64_w, g73, g78])
          (try go_simp)
          try rfl
      refine Reg.rs_cons ?_ ?_
      · intro a w hb hs hel hon
        obtain ⟨_, e79, rfl⟩ := hon 27 79 (by kernel_rfl) rfl
        obtain ⟨_, g79⟩ := Array.getElem?_eq_some_iff.1 e79
        refine ⟨_, rfl, fun K hK => ?_⟩
        refine value_ (w1 := w) (v := .bool true) (by rfl) rfl ?_ (hK.out _ _ (Below.refl _ _) (rfl))
        · go_simp
          (try simp only [i64_w, g79])
          (try go_simp)
          try rfl
      refine Reg.rs_cons ?_ ?_
      · intro a w hb hs hel hon
        have e12 : a.tmps[12]? = some (.pointer (some ⟨g12, 0, none⟩)) := (hel 12 (by decide)).trans E12
        obtain ⟨_, e80, rfl⟩ := hon 28 80 (by kernel_rfl) rfl
        refine ⟨_, rfl, fun K hK => ?_⟩
        rw [if_pos (wanted_on rfl rfl rfl e80)]
        exact wp_load_row 26 (.tmp 12) rfl g12 (eval_tmp e12) 26 _ (0, 0) _ ((hb.block _ (blk_lt HH12.out)).trans HH12.out) Tryd.underlying26 rfl (by rw [hi]; rfl) (hK.out _ _ (Below.refl _ _) rfl)
      refine Reg.rs_cons ?_ ?_
      · intro a w hb hs hel hon
        have e9 : a.tmps[9]? = some (.pointer (some ⟨g9, 0, none⟩)) := (hel 9 (by decide)).trans E9
        obtain ⟨_, e80, rfl⟩ := hon 28 80 (by kernel_rfl) rfl
        refine ⟨_, rfl, fun K hK => ?_⟩
        rw [if_pos (wanted_on rfl rfl rfl e80)]
        exact wp_load_row 26 (.tmp 9) rfl g9 (eval_tmp e9) 26 _ (0, 0) _ ((hb.block _ (blk_lt HH9.out)).trans HH9.out) Tryd.underlying26 rfl (by rw [hi]; rfl) (hK.out _ _ (Below.refl _ _) rfl)
      refine Reg.rs_cons ?_ ?_
      · intro a w hb hs hel hon
        have e7 : a.tmps[7]? = some (.pointer (some ⟨g7, 0, none⟩)) := (hel 7 (by decide)).trans E7
        obtain ⟨_, e80, rfl⟩ := hon 28 80 (by kernel_rfl) rfl
        refine ⟨_, rfl, fun K hK => ?_⟩
        rw [if_pos (wanted_on rfl rfl rfl e80)]
        exact wp_load_row 26 (.tmp 7) rfl g7 (eval_tmp e7) 26 _ (0, 0) _ ((hb.block _ (blk_lt HH7.out)).trans HH7.out) Tryd.underlying26 rfl (by rw [hi]; rfl) (hK.out _ _ (Below.refl _ _) rfl)
      refine Reg.rs_cons ?_ ?_
      · intro a w hb hs hel hon
        obtain ⟨_, e82, rfl⟩ := hon 30 82 (by kernel_rfl) rfl
        obtain ⟨_, e83, rfl⟩ := hon 31 83 (by kernel_rfl) rfl
        obtain ⟨_, e80, rfl⟩ := hon 28 80 (by kernel_rfl) rfl
        refine ⟨_, rfl, fun K hK => ?_⟩
        refine goes_ Tryd.func15 (by kernel_rfl) rfl #[.agg #[.int .i64 S, .slice E m.length f], .agg #[.int .i64 R, .slice A l.length c]] (wanted_on rfl rfl rfl e80) rfl rfl (by first | (simp only [List.map_toArray, List.map_cons, List.map_nil, Act.eval, Array.getD_eq_getD_getElem?, Option.getD_some, e82, e83, e80]; done) | (simp only [List.map_toArray, List.map_cons, List.map_nil, Act.eval, Array.getD_eq_getD_getElem?, Option.getD_some, e82, e83, e80]; rfl) | rfl) ?_
        refine (PQ.out E f A c w (Kd.C_below HE3.out hb) hk3 (Kd.C_below HE1.out hb) hk1).mono ?_
        rintro e w2 ⟨v, rfl, ho, hb2⟩
        exact ⟨_, rfl, hK.out _ _ hb2 (rset_of ho)⟩
      refine Reg.rs_cons ?_ ?_
      · intro a w hb hs hel hon
        obtain ⟨_, e81, rfl⟩ := hon 29 81 (by kernel_rfl) rfl
        obtain ⟨x84, e84, ⟨A_32, c_32, rfl, hl_32, hC_32⟩⟩ := hon 32 84 (by kernel_rfl) rfl
        obtain ⟨_, e80, rfl⟩ := hon 28 80 (by kernel_rfl) rfl
        refine ⟨_, rfl, fun K hK => ?_⟩
        refine goes_ Tryd.func18 (by kernel_rfl) rfl #[.agg #[.int .i64 RO, .slice Ao LO.length co], .agg #[.int .i64 RQ, .slice A_32 LQ.length c_32]] (wanted_on rfl rfl rfl e80) rfl rfl (by first | (simp only [List.map_toArray, List.map_cons, List.map_nil, Act.eval, Array.getD_eq_getD_getElem?, Option.getD_some, e81, e84, e80]; done) | (simp only [List.map_toArray, List.map_cons, List.map_nil, Act.eval, Array.getD_eq_getD_getElem?, Option.getD_some, e81, e84, e80]; rfl) | rfl) ?_
        refine (QO.out Ao co A_32 c_32 w (Kd.C_below HE6.out hb) hko hC_32 hl_32).mono ?_
        rintro e w2 ⟨rfl, hb2⟩
        exact ⟨_, rfl, hK.out _ _ hb2 rfl⟩
      refine Reg.rs_cons ?_ ?_
      · intro a w hb hs hel hon
        obtain ⟨_, e80, rfl⟩ := hon 28 80 (by kernel_rfl) rfl
        obtain ⟨_, e85, rfl⟩ := hon 33 85 (by kernel_rfl) rfl
        obtain ⟨_, g80⟩ := Array.getElem?_eq_some_iff.1 e80
        obtain ⟨_, g85⟩ := Array.getElem?_eq_some_iff.1 e85
        refine ⟨_, rfl, fun K hK => ?_⟩
        refine value_ (w1 := w) (v := .bool true) (by rfl) rfl ?_ (hK.out _ _ (Below.refl _ _) (rfl))
        · go_simp
          (try simp only [i64_w, g80, g85])
          (try go_simp)
          try rfl
      refine Reg.rs_cons ?_ ?_
      · intro a w hb hs hel hon
        obtain ⟨_, e86, rfl⟩ := hon 34 86 (by kernel_rfl) rfl
        obtain ⟨_, g86⟩ := Array.getElem?_eq_some_iff.1 e86
        refine ⟨_, rfl, fun K hK => ?_⟩
        refine value_ (w1 := w) (v := .bool true) (by rfl) rfl ?_ (hK.out _ _ (Below.refl _ _) (rfl))
        · go_simp
          (try simp only [i64_w, g86])
          (try go_simp)
          try rfl
      refine Reg.rs_cons ?_ ?_
      · intro a w hb hs hel hon
        have e11 : a.tmps[11]? = some (.pointer (some ⟨g11, 0, none⟩)) := (hel 11 (by decide)).trans E11
        obtain ⟨_, e87, rfl⟩ := hon 35 87 (by kernel_rfl) rfl
        refine ⟨_, rfl, fun K hK => ?_⟩
        rw [if_pos (wanted_on rfl rfl rfl e87)]
        exact wp_load_row 26 (.tmp 11) rfl g11 (eval_tmp e11) 26 _ (0, 0) _ ((hb.block _ (blk_lt HH11.out)).trans HH11.out) Tryd.underlying26 rfl (by rw [hi]; rfl) (hK.out _ _ (Below.refl _ _) rfl)
      refine Reg.rs_cons ?_ ?_
      · intro a w hb hs hel hon
        obtain ⟨_, e88, rfl⟩ := hon 36 88 (by kernel_rfl) rfl
        obtain ⟨_, e87, rfl⟩ := hon 35 87 (by kernel_rfl) rfl
        refine ⟨_, rfl, fun K hK => ?_⟩
        refine goes_ Tryd.func13 (by kernel_rfl) rfl #[.agg #[.int .i64 RA, .slice Aa LA.length ca]] (wanted_on rfl rfl rfl e87) rfl rfl (by first | (simp only [List.map_toArray, List.map_cons, List.map_nil, Act.eval, Array.getD_eq_getD_getElem?, Option.getD_some, e88, e87]; done) | (simp only [List.map_toArray, List.map_cons, List.map_nil, Act.eval, Array.getD_eq_getD_getElem?, Option.getD_some, e88, e87]; rfl) | rfl) ?_
        refine (Q1.out Aa ca w (Kd.C_below HE5.out hb) hka).mono ?_
        rintro e w2 ⟨rfl, hb2⟩
        exact ⟨_, rfl, hK.out _ _ hb2 rfl⟩
      refine Reg.rs_cons ?_ ?_
      · intro a w hb hs hel hon
        have e12 : a.tmps[12]? = some (.pointer (some ⟨g12, 0, none⟩)) := (hel 12 (by decide)).trans E12
        obtain ⟨_, e87, rfl⟩ := hon 35 87 (by kernel_rfl) rfl
        refine ⟨_, rfl, fun K hK => ?_⟩
        rw [if_pos (wanted_on rfl rfl rfl e87)]
        exact wp_load_row 26 (.tmp 12) rfl g12 (eval_tmp e12) 26 _ (0, 0) _ ((hb.block _ (blk_lt HH12.out)).trans HH12.out) Tryd.underlying26 rfl (by rw [hi]; rfl) (hK.out _ _ (Below.refl _ _) rfl)
      refine Reg.rs_cons ?_ ?_
      · intro a w hb hs hel hon
        obtain ⟨_, e90, rfl⟩ := hon 38 90 (by kernel_rfl) rfl
        obtain ⟨_, e87, rfl⟩ := hon 35 87 (by kernel_rfl) rfl
        refine ⟨_, rfl, fun K hK => ?_⟩
        refine goes_ Tryd.func13 (by kernel_rfl) rfl #[.agg #[.int .i64 RO, .slice Ao LO.length co]] (wanted_on rfl rfl rfl e87) rfl rfl (by first | (simp only [List.map_toArray, List.map_cons, List.map_nil, Act.eval, Array.getD_eq_getD_getElem?, Option.getD_some, e90, e87]; done) | (simp only [List.map_toArray, List.map_cons, List.map_nil, Act.eval, Array.getD_eq_getD_getElem?, Option.getD_some, e90, e87]; rfl) | rfl) ?_
        refine (Q2.out Ao co w (Kd.C_below HE6.out hb) hko).mono ?_
        rintro e w2 ⟨rfl, hb2⟩
        exact ⟨_, rfl, hK.out _ _ hb2 rfl⟩
      refine Reg.rs_cons ?_ ?_
      · intro a w hb hs hel hon
        obtain ⟨_, e89, rfl⟩ := hon 37 89 (by kernel_rfl) rfl
        obtain ⟨_, e91, rfl⟩ := hon 39 91 (by kernel_rfl) rfl
        obtain ⟨_, e87, rfl⟩ := hon 35 87 (by kernel_rfl) rfl
        obtain ⟨_, g89⟩ := Array.getElem?_eq_some_iff.1 e89
        obtain ⟨_, g91⟩ := Array.getElem?_eq_some_iff.1 e91
        obtain ⟨_, g87⟩ := Array.getElem?_eq_some_iff.1 e87
        refine ⟨_, rfl, fun K hK => ?_⟩
        refine value_ (w1 := w) (v := .int .i64 (wrap64 (nA + nO))) (wanted_on rfl rfl rfl e87) rfl ?_ (hK.out _ _ (Below.refl _ _) (rfl))
        · go_simp
          (try simp only [i64_w, g89, g91, g87])
          (try go_simp)
          try rfl
      refine Reg.rs_cons ?_ ?_
      · intro a w hb hs hel hon
        have e7 : a.tmps[7]? = some (.pointer (some ⟨g7, 0, none⟩)) := (hel 7 (by decide)).trans E7
        obtain ⟨_, e87, rfl⟩ := hon 35 87 (by kernel_rfl) rfl
        refine ⟨_, rfl, fun K hK => ?_⟩
        rw [if_pos (wanted_on rfl rfl rfl e87)]
        exact wp_load_row 26 (.tmp 7) rfl g7 (eval_tmp e7) 26 _ (0, 0) _ ((hb.block _ (blk_lt HH7.out)).trans HH7.out) Tryd.underlying26 rfl (by rw [hi]; rfl) (hK.out _ _ (Below.refl _ _) rfl)
      refine Reg.rs_cons ?_ ?_
      · intro a w hb hs hel hon
        obtain ⟨_, e93, rfl⟩ := hon 41 93 (by kernel_rfl) rfl
        obtain ⟨_, e87, rfl⟩ := hon 35 87 (by kernel_rfl) rfl
        refine ⟨_, rfl, fun K hK => ?_⟩
        refine goes_ Tryd.func13 (by kernel_rfl) rfl #[.agg #[.int .i64 R, .slice A l.length c]] (wanted_on rfl rfl rfl e87) rfl rfl (by first | (simp only [List.map_toArray, List.map_cons, List.map_nil, Act.eval, Array.getD_eq_getD_getElem?, Option.getD_some, e93, e87]; done) | (simp only [List.map_toArray, List.map_cons, List.map_nil, Act.eval, Array.getD_eq_getD_getElem?, Option.getD_some, e93, e87]; rfl) | rfl) ?_
        refine (Q3.out A c w (Kd.C_below HE1.out hb) hk1).mono ?_
        rintro e w2 ⟨rfl, hb2⟩
        exact ⟨_, rfl, hK.out _ _ hb2 rfl⟩
      refine Reg.rs_cons ?_ ?_
      · intro a w hb hs hel hon
        have e9 : a.tmps[9]? = some (.pointer (some ⟨g9, 0, none⟩)) := (hel 9 (by decide)).trans E9
        obtain ⟨_, e87, rfl⟩ := hon 35 87 (by kernel_rfl) rfl
        refine ⟨_, rfl, fun K hK => ?_⟩
        rw [if_pos (wanted_on rfl rfl rfl e87)]
        exact wp_load_row 26 (.tmp 9) rfl g9 (eval_tmp e9) 26 _ (0, 0) _ ((hb.block _ (blk_lt HH9.out)).trans HH9.out) Tryd.underlying26 rfl (by rw [hi]; rfl) (hK.out _ _ (Below.refl _ _) rfl)
      refine Reg.rs_cons ?_ ?_
      · intro a w hb hs hel hon
        obtain ⟨_, e95, rfl⟩ := hon 43 95 (by kernel_rfl) rfl
        obtain ⟨_, e87, rfl⟩ := hon 35 87 (by kernel_rfl) rfl
        refine ⟨_, rfl, fun K hK => ?_⟩
        refine goes_ Tryd.func13 (by kernel_rfl) rfl #[.agg #[.int .i64 S, .slice E m.length f]] (wanted_on rfl rfl rfl e87) rfl rfl (by first | (simp only [List.map_toArray, List.map_cons, List.map_nil, Act.eval, Array.getD_eq_getD_getElem?, Option.getD_some, e95, e87]; done) | (simp only [List.map_toArray, List.map_cons, List.map_nil, Act.eval, Array.getD_eq_getD_getElem?, Option.getD_some, e95, e87]; rfl) | rfl) ?_
        refine (Q4.out E f w (Kd.C_below HE3.out hb) hk3).mono ?_
        rintro e w2 ⟨rfl, hb2⟩
        exact ⟨_, rfl, hK.out _ _ hb2 rfl⟩
      refine Reg.rs_cons ?_ ?_
      · intro a w hb hs hel hon
        obtain ⟨_, e94, rfl⟩ := hon 42 94 (by kernel_rfl) rfl
        obtain ⟨_, e96, rfl⟩ := hon 44 96 (by kernel_rfl) rfl
        obtain ⟨_, e87, rfl⟩ := hon 35 87 (by kernel_rfl) rfl
        obtain ⟨_, g94⟩ := Array.getElem?_eq_some_iff.1 e94
        obtain ⟨_, g96⟩ := Array.getElem?_eq_some_iff.1 e96
        obtain ⟨_, g87⟩ := Array.getElem?_eq_some_iff.1 e87
        refine ⟨_, rfl, fun K hK => ?_⟩
        refine value_ (w1 := w) (v := .int .i64 (wrap64 (nA + nO))) (wanted_on rfl rfl rfl e87) rfl ?_ (hK.out _ _ (Below.refl _ _) (rfl))
        · rw [← HS.out]
          go_simp
          (try simp only [i64_w, g94, g96])
          (try go_simp)
          try rfl
      refine Reg.rs_cons ?_ ?_
      · intro a w hb hs hel hon
        obtain ⟨_, e92, rfl⟩ := hon 40 92 (by kernel_rfl) rfl
        obtain ⟨_, e97, rfl⟩ := hon 45 97 (by kernel_rfl) rfl
        obtain ⟨_, e87, rfl⟩ := hon 35 87 (by kernel_rfl) rfl
        obtain ⟨_, g92⟩ := Array.getElem?_eq_some_iff.1 e92
        obtain ⟨_, g97⟩ := Array.getElem?_eq_some_iff.1 e97
        obtain ⟨_, g87⟩ := Array.getElem?_eq_some_iff.1 e87
        refine ⟨_, rfl, fun K hK => ?_⟩
        refine value_ (w1 := w) (v := .bool true) (wanted_on rfl rfl rfl e87) rfl ?_ (hK.out _ _ (Below.refl _ _) (rfl))
        · go_simp
          (try simp only [i64_w, g92, g97, g87])
          (try go_simp)
          try rfl
      refine Reg.rs_cons ?_ ?_
      · intro a w hb hs hel hon
        obtain ⟨_, e87, rfl⟩ := hon 35 87 (by kernel_rfl) rfl
        obtain ⟨_, e98, rfl⟩ := hon 46 98 (by kernel_rfl) rfl
        obtain ⟨_, g87⟩ := Array.getElem?_eq_some_iff.1 e87
        obtain ⟨_, g98⟩ := Array.getElem?_eq_some_iff.1 e98
        refine ⟨_, rfl, fun K hK => ?_⟩
        refine value_ (w1 := w) (v := .bool true) (by rfl) rfl ?_ (hK.out _ _ (Below.refl _ _) (rfl))
        · go_simp
          (try simp only [i64_w, g87, g98])
          (try go_simp)
          try rfl
      refine Reg.rs_cons ?_ ?_
      · intro a w hb hs hel hon
        obtain ⟨_, e99, rfl⟩ := hon 47 99 (by kernel_rfl) rfl
        obtain ⟨_, g99⟩ := Array.getElem?_eq_some_iff.1 e99
        refine ⟨_, rfl, fun K hK => ?_⟩
        refine value_ (w1 := w) (v := .bool true) (by rfl) rfl ?_ (hK.out _ _ (Below.refl _ _) (rfl))
        · go_simp
          (try simp only [i64_w, g99])
          (try go_simp)
          try rfl
      refine Reg.rs_cons ?_ ?_
      · intro a w hb hs hel hon
        have e7 : a.tmps[7]? = some (.pointer (some ⟨g7, 0, none⟩)) := (hel 7 (by decide)).trans E7
        obtain ⟨_, e100, rfl⟩ := hon 48 100 (by kernel_rfl) rfl
        refine ⟨_, rfl, fun K hK => ?_⟩
        rw [if_pos (wanted_on rfl rfl rfl e100)]
        exact wp_load_row 26 (.tmp 7) rfl g7 (eval_tmp e7) 26 _ (0, 0) _ ((hb.block _ (blk_lt HH7.out)).trans HH7.out) Tryd.underlying26 rfl (by rw [hi]; rfl) (hK.out _ _ (Below.refl _ _) rfl)
      refine Reg.rs_cons ?_ ?_
      · intro a w hb hs hel hon
        have e8 : a.tmps[8]? = some (.slice A' x.length c') := (hel 8 (by decide)).trans E8
        obtain ⟨_, e100, rfl⟩ := hon 48 100 (by kernel_rfl) rfl
        obtain ⟨_, g8⟩ := Array.getElem?_eq_some_iff.1 e8
        obtain ⟨_, g100⟩ := Array.getElem?_eq_some_iff.1 e100
        refine ⟨_, rfl, fun K hK => ?_⟩
        refine value_ (w1 := w) (v := .slice A' x.length c') (wanted_on rfl rfl rfl e100) rfl ?_ (hK.out _ _ (Below.refl _ _) (rfl))
        · go_simp
          (try simp only [i64_w, g8, g100])
          (try go_simp)
          try rfl
      refine Reg.rs_cons ?_ ?_
      · intro a w hb hs hel hon
        obtain ⟨_, e101, rfl⟩ := hon 49 101 (by kernel_rfl) rfl
        obtain ⟨_, e102, rfl⟩ := hon 50 102 (by kernel_rfl) rfl
        obtain ⟨_, e100, rfl⟩ := hon 48 100 (by kernel_rfl) rfl
        refine ⟨_, rfl, fun K hK => ?_⟩
        refine goes_ Tryd.func8 (by kernel_rfl) rfl #[.agg #[.int .i64 R, .slice A l.length c], .slice A' x.length c'] (wanted_on rfl rfl rfl e100) rfl rfl (by first | (simp only [List.map_toArray, List.map_cons, List.map_nil, Act.eval, Array.getD_eq_getD_getElem?, Option.getD_some, e101, e102, e100]; done) | (simp only [List.map_toArray, List.map_cons, List.map_nil, Act.eval, Array.getD_eq_getD_getElem?, Option.getD_some, e101, e102, e100]; rfl) | rfl) ?_
        refine (Q7.out A c A' c' w (Kd.C_below HE1.out hb) hk1 (Kd.C_below HE2.out hb) hk2 (HL.out.below (HB7.out.trans (hb.mono HB7.out.size)))).mono ?_
        rintro e w2 ⟨rfl, hb2⟩
        exact ⟨_, rfl, hK.out _ _ hb2 rfl⟩
      refine Reg.rs_cons ?_ ?_
      · intro a w hb hs hel hon
        obtain ⟨_, e100, rfl⟩ := hon 48 100 (by kernel_rfl) rfl
        obtain ⟨_, e103, rfl⟩ := hon 51 103 (by kernel_rfl) rfl
        obtain ⟨_, g100⟩ := Array.getElem?_eq_some_iff.1 e100
        obtain ⟨_, g103⟩ := Array.getElem?_eq_some_iff.1 e103
        refine ⟨_, rfl, fun K hK => ?_⟩
        refine value_ (w1 := w) (v := .bool true) (by rfl) rfl ?_ (hK.out _ _ (Below.refl _ _) (rfl))
        · go_simp
          (try simp only [i64_w, g100, g103])
          (try go_simp)
          try rfl
      refine Reg.rs_cons ?_ ?_
      · intro a w hb hs hel hon
        obtain ⟨_, e104, rfl⟩ := hon 52 104 (by kernel_rfl) rfl
        obtain ⟨_, g104⟩ := Array.getElem?_eq_some_iff.1 e104
        refine ⟨_, rfl, fun K hK => ?_⟩
        refine value_ (w1 := w) (v := .bool true) (by rfl) rfl ?_ (hK.out _ _ (Below.refl _ _) (rfl))
        · go_simp
          (try simp only [i64_w, g104])
          (try go_simp)
          try rfl
      refine Reg.rs_cons ?_ ?_
      · intro a w hb hs hel hon
        obtain ⟨_, e105, rfl⟩ := hon 53 105 (by kernel_rfl) rfl
        refine ⟨_, rfl, fun K hK => ?_⟩
        refine goes_ Tryd.func5 (by kernel_rfl) rfl #[] (wanted_on rfl rfl rfl e105) rfl rfl (by first | (simp only [List.map_toArray, List.map_cons, List.map_nil, Act.eval, Array.getD_eq_getD_getElem?, Option.getD_some, e105]; done) | (simp only [List.map_toArray, List.map_cons, List.map_nil, Act.eval, Array.getD_eq_getD_getElem?, Option.getD_some, e105]; rfl) | rfl) ?_
        refine (awake_c w (HL.out.below (HB7.out.trans (hb.mono HB7.out.size)))).mono ?_
        rintro e w2 ⟨rfl, hb2⟩
        exact ⟨_, rfl, hK.out _ _ hb2 rfl⟩
      refine Reg.rs_cons ?_ ?_
      · intro a w hb hs hel hon
        obtain ⟨_, e105, rfl⟩ := hon 53 105 (by kernel_rfl) rfl
        obtain ⟨_, e106, rfl⟩ := hon 54 106 (by kernel_rfl) rfl
        obtain ⟨_, g105⟩ := Array.getElem?_eq_some_iff.1 e105
        obtain ⟨_, g106⟩ := Array.getElem?_eq_some_iff.1 e106
        refine ⟨_, rfl, fun K hK => ?_⟩
        refine value_ (w1 := w) (v := .bool true) (by rfl) rfl ?_ (hK.out _ _ (Below.refl _ _) (rfl))
        · go_simp
          (try simp only [i64_w, g105, g106])
          (try go_simp)
          try rfl
      refine Reg.rs_cons ?_ ?_
      · intro a w hb hs hel hon
        obtain ⟨_, e107, rfl⟩ := hon 55 107 (by kernel_rfl) rfl
        obtain ⟨_, g107⟩ := Array.getElem?_eq_some_iff.1 e107
        refine ⟨_, rfl, fun K hK => ?_⟩
        refine value_ (w1 := w) (v := .bool true) (by rfl) rfl ?_ (hK.out _ _ (Below.refl _ _) (rfl))
        · go_simp
          (try simp only [i64_w, g107])
          (try go_simp)
          try rfl
      exact Reg.rs_nil
    · intro a w hI
      rename_i K6_ hK6_
      refine hK6_ a w ?_
      go_wp2
      obtain ⟨v4, e4, rfl⟩ := hI.vals 56 6 rfl rfl
      exact Reg.ret_slot (R := fun e w' => e = .returned (.bool true) ∧ Below _ _ w') (by kernel_rfl) (hI.defers.trans hD5) e4 ⟨rfl, HB7.out.trans (hI.below.mono HB7.out.size)⟩
end Go.Proofs.YtkkikddocgckbaaDoor.BPure
end

section
/- What a package's variable that is laid as plain data has in its cells; numbers, truths, texts, structs and arrays alone. -/
namespace Go.Proofs.YtkkikddocgckbaaDoor.Flat
open Go Go.Lib Go.RowKit
mutual
/-- The cells that a datum of numbers, bools, texts, structs and arrays says. -/
def flatW {H : Type} : DataW H → Option (List Value)
  | .lit (.int k n) => some [.int k n]
  | .lit (.bool b) => some [.bool b]
  | .lit (.string s) => some [.string ⟨s.toArray⟩]
  | .agg ps => flatWs ps
  | _ => none
def flatWs {H : Type} : List (DataW H) → Option (List Value)
  | [] => some []
  | d :: r => (flatW d).bind fun a => (flatWs r).map (a ++ ·)
end
/-- Do a type's parts lie one behind the other, without a gap? -/
def tiles (P : Program) : Nat → TypeId → Bool
  | 0, _ => false
  | n + 1, t => match P.underlying t with
    | some .bool | some (.int _) | some .string => true
    | some (.struct fs) => fs.toList.foldl (fun o f => o.bind fun k => if f.offset = k ∧ tiles P n f.type = true then some (k + P.cellsOf f.type) else none) (some 0) == some (P.cellsOf t)
    | some (.array m e) => tiles P n e && P.cellsOf t == m * P.cellsOf e
    | _ => false
theorem foldl_none {α β : Type} (f : Option β → α → Option β) (h : ∀ a, f none a = none) : ∀ l : List α, l.foldl f none = none
  | [] => rfl
  | a :: l => by rw [List.foldl_cons, h, foldl_none f h l]
theorem flat_cells {H : Type} {enc : TypeId × Value → H} {P : Program} {w : World} {base : Nat} {sp : Nat → Bool} {held : Bool} :
    ∀ (n fuel : Nat) (t : TypeId) (cs : List Value) (d : DataW H) (ps : List MemPlace) (vs : List Value), tiles P n t = true → DataW.trod enc P w base sp held fuel t cs = some (d, ps) → flatW d = some vs → cs = vs := by
  intro n
  induction n with
  | zero => intro fuel t cs d ps vs ht; simp [tiles] at ht
  | succ n ih =>
    intro fuel t cs d ps vs ht h hf
    cases fuel with
    | zero => simp [DataW.trod] at h
    | succ fuel =>
      cases hu : P.underlying t with
      | none => simp [tiles, hu] at ht
      | some u =>
        cases u with
        | bool =>
          unfold DataW.trod at h; rw [hu] at h
          split at h <;> simp_all
          obtain ⟨rfl, _⟩ := h
          simp [flatW] at hf; exact hf
        | int k =>
          unfold DataW.trod at h; rw [hu] at h
          split at h <;> simp_all
          obtain ⟨⟨rfl, _⟩, rfl, _⟩ := h
          simp [flatW] at hf; exact hf
        | string =>
          unfold DataW.trod at h; rw [hu] at h
          split at h <;> simp_all
          obtain ⟨_, rfl, _⟩ := h
          simp [flatW] at hf; exact hf
        | struct fs =>
          simp only [tiles, hu, beq_iff_eq] at ht
          unfold DataW.trod at h; rw [hu] at h
          simp only at h
          split at h
          · rename_i hl
            obtain ⟨xs, hm, hx⟩ := Option.map_eq_some_iff.1 h
            simp only [Prod.mk.injEq] at hx
            obtain ⟨rfl, _⟩ := hx
            have key : ∀ (fs : List Field) (k : Nat) (xs : List (DataW H × List MemPlace)) (vs : List Value), k ≤ cs.length → fs.mapM (fun f => DataW.trod enc P w base sp held fuel f.type ((cs.drop f.offset).take (P.cellsOf f.type))) = some xs →
                fs.foldl (fun o f => o.bind fun k => if f.offset = k ∧ tiles P n f.type = true then some (k + P.cellsOf f.type) else none) (some k) = some cs.length → flatWs (xs.map (·.1)) = some vs → cs.drop k = vs := by
              intro fs
              induction fs with
              | nil =>
                intro k xs vs hk hm ht hf
                simp at hm; subst hm
                simp [flatWs] at hf; subst hf
                simp at ht; simp; omega
              | cons f fs ihf =>
                intro k xs vs hk hm ht hf
                simp only [List.mapM_cons, Option.bind_eq_bind, Option.bind_eq_some_iff, Option.pure_def, Option.some.injEq] at hm
                obtain ⟨b, hb, r, hr, rfl⟩ := hm
                simp only [List.foldl_cons, Option.bind_some] at ht
                split at ht
                · rename_i hc
                  obtain ⟨hc1, hc2⟩ := hc
                  simp only [List.map_cons, flatWs, Option.bind_eq_some_iff, Option.map_eq_some_iff] at hf
                  obtain ⟨a, ha, s, hs, rfl⟩ := hf
                  have e1 := ih _ _ _ b.1 b.2 a hc2 (by rw [hb]) ha
                  rw [hc1] at e1
                  have hle : k + P.cellsOf f.type ≤ cs.length := by
                    have mono : ∀ (l : List Field) (k m : Nat), l.foldl (fun o f => o.bind fun k => if f.offset = k ∧ tiles P n f.type = true then some (k + P.cellsOf f.type) else none) (some k) = some m → k ≤ m := by
                      intro l
                      induction l with
                      | nil => intro k m h; simp at h; omega
                      | cons g l ihl =>
                        intro k m h
                        simp only [List.foldl_cons, Option.bind_some] at h
                        split at h
                        · have := ihl _ _ h; omega
                        · rw [foldl_none _ (fun _ => rfl)] at h; cases h
                    exact mono _ _ _ ht
                  have e2 := ihf _ _ _ hle hr ht hs
                  rw [← e1, ← e2, ← List.drop_drop, List.take_append_drop]
                · rw [foldl_none _ (fun _ => rfl)] at ht; cases ht
            have := key fs.toList 0 xs vs (Nat.zero_le _) hm (by rw [ht, hl]) (by simpa [flatW] using hf)
            simpa using this
          · cases h
        | array m e =>
          simp only [tiles, hu, Bool.and_eq_true, beq_iff_eq] at ht
          obtain ⟨ht1, ht2⟩ := ht
          unfold DataW.trod at h; rw [hu] at h
          simp only at h
          split at h
          · rename_i hl
            obtain ⟨xs, hm, hx⟩ := Option.map_eq_some_iff.1 h
            simp only [Prod.mk.injEq] at hx
            obtain ⟨rfl, _⟩ := hx
            have key : ∀ (j k : Nat) (xs : List (DataW H × List MemPlace)) (vs : List Value), k + j = m → (List.range' k j).mapM (fun i => DataW.trod enc P w base sp held fuel e ((cs.drop (i * P.cellsOf e)).take (P.cellsOf e))) = some xs → flatWs (xs.map (·.1)) = some vs → cs.drop (k * P.cellsOf e) = vs := by
              intro j
              induction j with
              | zero =>
                intro k xs vs hk hm hf
                simp at hm; subst hm
                simp [flatWs] at hf; subst hf
                have hkm : k = m := by omega
                subst hkm
                rw [← ht2, ← hl]; simp
              | succ j ihj =>
                intro k xs vs hk hm hf
                simp only [List.range'_succ, List.mapM_cons, Option.bind_eq_bind, Option.bind_eq_some_iff, Option.pure_def, Option.some.injEq] at hm
                obtain ⟨b, hb, r, hr, rfl⟩ := hm
                simp only [List.map_cons, flatWs, Option.bind_eq_some_iff, Option.map_eq_some_iff] at hf
                obtain ⟨a, ha, s, hs, rfl⟩ := hf
                have e1 := ih _ _ _ b.1 b.2 a ht1 (by rw [hb]) ha
                have e2 := ihj (k + 1) _ _ (by omega) hr hs
                rw [← e1, ← e2, Nat.add_mul, Nat.one_mul, ← List.drop_drop, List.take_append_drop]
            have := key m 0 xs vs (by omega) (by rw [← List.range_eq_range']; exact hm) (by simpa [flatW] using hf)
            simpa using this
          · cases h
        | _ => simp [tiles, hu] at ht
/-- The variable holds these cells. -/
def VarIs (P : Program) (w : World) (name : String) (vs : List Value) : Prop := w.var? P name = some vs.toArray
theorem varIs_of_laid {P : Program} {W : World} {name : String} {D : DataW Unit} {vs : List Value} {g : Nat} {t : TypeId} (n : Nat)
    (hg : P.globalNamed name = some g) (hty : (P.globals[g]?).map (·.type) = some t) (ht : tiles P n t = true) (hf : flatW D = some vs) :
    ∀ {l : List (String × DataW Unit)} {ps : List MemPlace}, (name, D) ∈ l → DataW.LaidVars P W l ps → VarIs P W name vs := by
  intro l
  induction l with
  | nil => intro ps h; cases h
  | cons x l ih =>
    intro ps hm h
    obtain ⟨nm, E⟩ := x
    obtain ⟨g', t', cs, fuel, p, q, hg', ht', hvar, hd, hr, _⟩ := h
    rcases List.mem_cons.1 hm with h | h
    · injection h with h1 h2
      subst h1 h2
      obtain rfl := Option.some.inj (hg.symm.trans hg')
      obtain rfl := Option.some.inj (hty.symm.trans ht')
      unfold VarIs
      rw [hvar, ← flat_cells n _ _ _ _ _ _ ht hd hf]
    · exact ih h hr
theorem varIs {P : Program} {W : World} {name : String} {D : DataW Unit} {vs : List Value} {g : Nat} {t : TypeId} {l : List (String × DataW Unit)} (n : Nat)
    (h : laidMetH P l W) (hp : (l.filter fun x => x.2.handleName?.isSome) = []) (hm : (name, D) ∈ l)
    (hg : P.globalNamed name = some g) (hty : (P.globals[g]?).map (·.type) = some t) (ht : tiles P n t = true) (hf : flatW D = some vs) : VarIs P W name vs := by
  unfold laidMetH at h
  rw [hp] at h
  obtain ⟨ps, h, _⟩ := h
  exact varIs_of_laid n hg hty ht hf hm h
theorem VarIs.cell {P : Program} {W : World} {name : String} {vs : List Value} {g : Nat} (h : VarIs P W name vs) (hg : P.globalNamed name = some g) (i : Nat) : W.cell? ⟨g, i, none⟩ = vs[i]? := by
  rw [World.var?_cell hg h i]; simp
end Go.Proofs.YtkkikddocgckbaaDoor.Flat
end

section
/- BitsHold over places that are read as data; the library's table as the program lays it. -/
namespace Go.Proofs.YtkkikddocgckbaaDoor
open Go Go.RowKit Go.Proofs.YtkkikddocgckbaaDoorW.PrintWords Go.Proofs.YtkkikddocgckbaaDoor.Given
set_option linter.unusedVariables false
def tzV : List Value := Lib.deBruijn64tab.map (fun (n : Nat) => .int .u8 (n : Int))
set_option maxRecDepth 100000 in
theorem laidTz_of {l : List (String × DataW Unit)} {w : World} (h : laidMetH Tryd.prog l w) (hp : (l.filter fun x => x.2.handleName?.isSome) = []) (hm : ("math/bits.deBruijn64tab", Rows.laid_math_bits_deBruijn64tab) ∈ l) : LaidTz w := by
  have hv := Flat.varIs (name := "math/bits.deBruijn64tab") (D := Rows.laid_math_bits_deBruijn64tab) (vs := tzV) (g := 0) (t := 49) 6 h hp hm (by kernel_rfl) (by kernel_rfl) (by kernel_rfl) (by rfl)
  intro j hj
  have hl : j < Lib.deBruijn64tab.length := hj
  rw [hv.cell (by kernel_rfl), tzV, List.getElem?_map, List.getD_eq_getElem?_getD, List.getElem?_eq_getElem hl]
  rfl
theorem rd_ints : Bridge.Rdga Tryd.prog 22 (Kd.slice 3 (Kd.int .i64)) (fun l => ∀ a ∈ l, (Lit.int .i64 a).wf = true) := Bridge.Rdg.slicea Tryd.underlying22 (by kernel_rfl) (Bridge.Rdg.int Tryd.underlying3 (by kernel_rfl))
end Go.Proofs.YtkkikddocgckbaaDoor
end
