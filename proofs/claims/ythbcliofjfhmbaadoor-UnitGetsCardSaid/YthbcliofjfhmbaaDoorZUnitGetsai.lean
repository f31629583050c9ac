/- The law UnitGets holds for every input: the walk over its code shows that the call returns true and that what was read stays as it was; the row follows. The package-level tables that the code reads are tied to the program's text by the given tie. -/
import Derived.Deep.QuietTactic
import Derived.BigQuiet
import Derived.IntWalk
import Derived.Test.YthbcliofjfhmbaaDoorProg
import Derived.Below
import Derived.Deep.Draws
import Derived.Deep.AppendLies
import Derived.Maps.AppendAt
import Derived.OwnWalk
import Derived.Laws.BytesArg
import Derived.Laws.MakeOwn
import Derived.Laws.OwnMore
import Derived.Deep.OwnRows
import Derived.Tactics
import Derived.Lib.ConvBytes
import Derived.Laws.Slices
import Derived.WalkKit
import Derived.KernelRfl
import Derived.RowKit3
import Derived.Deep.LoopGhost
import Derived.WideLaws
import Derived.Deep.DeepCutAuto
import Derived.Deep.CutBlock
import Derived.Deep.RegionHeld3
import Derived.Laws.Rows
import Derived.Lib.AppendStr
import Derived.ArgAppend
import Derived.Laws.IdiomCopy
import Derived.OrdersHeld
import Derived.Laws.BitsLemmas
import Derived.RowKit
import Derived.Test.YthbcliofjfhmbaaDoorRows
import Derived.Test.YthbcliofjfhmbaaDoorCards
import Derived.Test.YthbcliofjfhmbaaDoorTie
import Derived.ProofKit
import Derived.OpenShut
import Derived.ShutString
import Derived.ChangeOld
import Derived.SizedLaws
import Derived.Deep.DeepHandedRow
import Derived.Lib.LaidTab
import Derived.LaidMore
import Derived.Test.YthbcliofjfhmbaaDoorZUnitGetsaa
import Derived.Test.YthbcliofjfhmbaaDoorZUnitGetsab
import Derived.Test.YthbcliofjfhmbaaDoorZUnitGetsac
import Derived.Test.YthbcliofjfhmbaaDoorZUnitGetsaf
import Derived.Test.YthbcliofjfhmbaaDoorZUnitGetsah
section
/- The document's reader of octets: what it tells of the next bytes; any reader that is not past its end. -/
namespace Go.Proofs.YthbcliofjfhmbaaDoor.Given
set_option linter.unusedVariables false
set_option linter.unusedSimpArgs false
open Go.RowKit Go.Proofs.YthbcliofjfhmbaaDoorW.PrintWords Go.Proofs.YthbcliofjfhmbaaDoorW.PrintLast Go.Proofs.YthbcliofjfhmbaaDoorW.PrintMore
attribute [local go_sem] max2_int min2_int
/-- The cells of a document's reader of f0, that is at f1: what is left lies behind. -/
def CsF (w0 : World) (cs : Array Value) (f0 : List Int) (f1 : Int) (f2 : Bool) : Prop := ∃ a c, cs = #[.slice a (f0.drop f1.toNat).length c, .int .i64 f1, .bool f2] ∧ Kd.C (Kd.int .u8) w0 a (f0.drop f1.toNat).length (f0.drop f1.toNat) ∧ (f0.drop f1.toNat).length ≤ c ∧ 0 ≤ f1 ∧ f1 ≤ f0.length
/-- A state of this type at block g of W. -/
def IsS75 (w0 W : World) (g : Nat) (f0 : List Int) (f1 : Int) (f2 : Bool) : Prop := ∃ cs, W.heap[g]? = some (.cells cs 75 (0, 0)) ∧ w0.heap.size ≤ g ∧ CsF w0 cs f0 f1 f2
theorem IsS75.grown {w0 W : World} {g : Nat} {f0 : List Int} {f1 : Int} {f2 : Bool} {W1 : World} {row : Option Nat} (h : IsS75 w0 W g f0 f1 f2) (hw : W.grownBy W1 row) (hne : some g ≠ row) : IsS75 w0 W1 g f0 f1 f2 := by
  obtain ⟨cs, hb, hg, hx⟩ := h
  exact ⟨cs, blk_grown hb hw hne, hg, hx⟩
theorem IsS75.kept {w0 W : World} {g : Nat} {f0 : List Int} {f1 : Int} {f2 : Bool} {W1 : World} {S : Nat → Prop} (h : IsS75 w0 W g f0 f1 f2) (hk : Kept W W1 S) (hne : ¬ S g) : IsS75 w0 W1 g f0 f1 f2 := by
  obtain ⟨cs, hb, hg, hx⟩ := h
  exact ⟨cs, blk_kept hb hk hne, hg, hx⟩
theorem IsS75.below {w0 W : World} {g : Nat} {f0 : List Int} {f1 : Int} {f2 : Bool} {W1 : World} (h : IsS75 w0 W g f0 f1 f2) (hw : Below W.heap.size W W1) : IsS75 w0 W1 g f0 f1 f2 := h.grown (grown_of_below hw none) (by simp)
theorem IsS75.alloc {w0 W : World} {g : Nat} {f0 : List Int} {f1 : Int} {f2 : Bool} (h : IsS75 w0 W g f0 f1 f2) (o : Obj) : IsS75 w0 (W.alloc o) g f0 f1 f2 := h.below (below_alloc (Below.refl _ _) o)
theorem IsS75.drewN {w0 W : World} {g : Nat} {f0 : List Int} {f1 : Int} {f2 : Bool} (h : IsS75 w0 W g f0 f1 f2) (m : Nat) : IsS75 w0 (W.drewN m) g f0 f1 f2 := h
theorem IsS75.drew {w0 W : World} {g : Nat} {f0 : List Int} {f1 : Int} {f2 : Bool} (h : IsS75 w0 W g f0 f1 f2) : IsS75 w0 W.drew g f0 f1 f2 := h
theorem IsS75.at_ {w0 W : World} {g : Nat} {f0 : List Int} {f1 : Int} {f2 : Bool} {w' : World} {m : Nat} (hq : W.drewN m = w') (h : IsS75 w0 W g f0 f1 f2) : IsS75 w0 w' g f0 f1 f2 := by subst hq; exact IsS75.drewN h m
theorem IsS75.apart {w0 W : World} {g : Nat} {f0 : List Int} {f1 : Int} {f2 : Bool} {α : Type} {d : Kd α} {e : Nat} {base : Nat} {ok : Nat → Prop} {v : Value} {xs : List α} (h : IsS75 w0 W g f0 f1 f2) (ho : d.R e W base ok v xs) (ht : ∀ q, q ∈ e :: d.E → q ≠ 75) : d.R e W base (fun k => ok k ∧ k ≠ g) v xs := by
  obtain ⟨cs, hb, hg, hx⟩ := h
  exact Kd.R_types ho hb ht
theorem IsS75.own_ne {w0 W : World} {g : Nat} {f0 : List Int} {f1 : Int} {f2 : Bool} {α : Type} {d : Kd α} {e : Nat} {base : Nat} {ok : Nat → Prop} {v : Value} {xs : List α} (h : IsS75 w0 W g f0 f1 f2) (ho : d.R e W base ok v xs) (ht : e ≠ 75) : some g ≠ v.ownBlock := by
  obtain ⟨cs, hb, hg, hx⟩ := h
  exact Kd.R_ne ho hb ht
theorem IsS75.lt {w0 W : World} {g : Nat} {f0 : List Int} {f1 : Int} {f2 : Bool} (h : IsS75 w0 W g f0 f1 f2) : g < W.heap.size := by
  obtain ⟨cs, hb, hg, hx⟩ := h
  exact blk_lt hb
theorem IsS75.ge {w0 W : World} {g : Nat} {f0 : List Int} {f1 : Int} {f2 : Bool} (h : IsS75 w0 W g f0 f1 f2) : w0.heap.size ≤ g := by
  obtain ⟨cs, hb, hg, hx⟩ := h
  exact hg
theorem IsS75.far {w0 W : World} {g : Nat} {f0 : List Int} {f1 : Int} {f2 : Bool} {p : Addr} (h : IsS75 w0 W g f0 f1 f2) (hne : g ≠ p.block) (u : Value) : IsS75 w0 (W.setCell p u) g f0 f1 f2 := by
  obtain ⟨cs, hb, hg, hx⟩ := h
  exact ⟨cs, blk_far hb hne u, hg, hx⟩
set_option maxHeartbeats 1000000 in
theorem rtake_ok (g : Nat) (w0 w : World) (b : List Int) (at_ : Int) (n : Int) (hI : IsS75 w0 w g b at_ false) (hB : Below w0.heap.size w0 w) (h0 : 0 ≤ n) (h1 : n ≤ b.length - at_) (hbl : b.length ≤ 1000000000) :
    Calls Tryd.prog 57 #[.pointer (some ⟨g, 0, none⟩), .int .i64 n] w fun e w' =>
      (∃ A c, e = .returned (.slice A n.toNat c) ∧ Kd.C (Kd.int .u8) w0 A n.toNat (cutR b at_ n) ∧ n.toNat ≤ c ∧ IsS75 w0 w' g b (at_ + n) false) ∧ Below w0.heap.size w0 w' ∧ KeepBut w w' g none := by
  obtain ⟨_, hb, hg, a, c, rfl, hr, hc, ha0, ha1⟩ := hI
  obtain ⟨L, hL⟩ : ∃ L, L = b.drop at_.toNat := ⟨_, rfl⟩
  have hLl : (L.length : Int) = b.length - at_ := by rw [hL]; simp; omega
  have hcut : cutR b at_ n = L.take n.toNat := by unfold cutR; rw [hL]
  have hnx : b.drop (at_ + n).toNat = L.drop n.toNat := by rw [hL, List.drop_drop]; congr 1; omega
  rw [← hL] at hb hr hc
  rw [hcut]
  have hD := Kd.C_drop (k := Kd.int .u8) (m := n.toNat) (c := c) hr (by omega) hc
  have hT := Kd.C_take (k := Kd.int .u8) (m := n.toNat) hr (by omega)
  rw [show (L.take n.toNat).length = n.toNat by simp; omega] at hT
  rw [show n.toNat * (Kd.int .u8).sz = n.toNat from Nat.mul_one _] at hD
  have HN := Aside0.mk (show ∀ (W1 : World) (A' : Option Addr) (c' : Nat), W1.heap[g]? = some (.cells #[.slice A' (L.length - n.toNat) c', .int .i64 (at_ + n), .bool false] 75 (0, 0)) → (if c = n.toNat then a else a.map (·.add n.toNat)) = A' → c' = c - n.toNat → IsS75 w0 W1 g b (at_ + n) false by
    intro W1 A' c' hb1 hA hc'
    rw [hA] at hD
    refine ⟨_, hb1, hg, A', c', ?_, ?_, ?_, by omega, by omega⟩
    · rw [hnx, List.length_drop]
    · rw [hnx]; exact hD
    · rw [hnx, List.length_drop]; omega)
  have HT := Aside0.mk hT
  have hab : at_ + n ≤ 1000000000 := by omega
  have hwb : 0 ≤ at_ + n := by omega
  have hcm : n.toNat ≤ c := by omega
  clear hL hnx hD hT hcut
  have hK := KeepBut.refl w g none
  have hLb : L.length ≤ 9223372036854775807 := hr.2.1
  have c0 : w.cell? ⟨g, 0, none⟩ = some (.slice a L.length c) := (blk_cell hb 0).trans rfl
  have c1 : w.cell? ⟨g, 1, none⟩ = some (.int .i64 at_) := (blk_cell hb 1).trans rfl
  have c2 : w.cell? ⟨g, 2, none⟩ = some (.bool false) := (blk_cell hb 2).trans rfl
  have f0 := blk_frozen hb 0
  have f1 := blk_frozen hb 1
  have f2 := blk_frozen hb 2
  have d0 : decide (n < 0) = false := decide_eq_false (by omega)
  have d1 : decide ((L.length : Int) < n) = false := decide_eq_false (by omega)
  go_enter Tryd.func57, Tryd.ntmps57
  go_wp2_with fail
  all_goals go_ret
  · rename_i h
    refine ⟨⟨a, n.toNat, rfl, HT.out, by omega, HN.out _ a 0 (blk_put (blk_put hb 0 _ rfl) 1 _ rfl) (if_pos h) (by omega)⟩, below_set (below_set hB hg) hg, KeepBut.set_ (KeepBut.set_ hK 0 _) 1 _⟩
  · rename_i h
    refine ⟨⟨a, c, rfl, HT.out, by omega, HN.out _ (a.map (·.add n.toNat)) (c - n.toNat) (blk_put (blk_put hb 0 _ rfl) 1 _ rfl) (if_neg h) rfl⟩, below_set (below_set hB hg) hg, KeepBut.set_ (KeepBut.set_ hK 0 _) 1 _⟩
set_option maxHeartbeats 1000000 in
theorem rtake_bad (g : Nat) (w0 w : World) (b : List Int) (at_ : Int) (bad : Bool) (n : Int) (hI : IsS75 w0 w g b at_ bad) (hB : Below w0.heap.size w0 w) (h : ¬ okR b at_ bad n) :
    Calls Tryd.prog 57 #[.pointer (some ⟨g, 0, none⟩), .int .i64 n] w fun e w' =>
      (e = .returned (.slice none 0 0) ∧ IsS75 w0 w' g b at_ true) ∧ Below w0.heap.size w0 w' ∧ KeepBut w w' g none := by
  unfold okR at h
  obtain ⟨_, hb, hg, a, c, rfl, hr, hc, ha0, ha1⟩ := hI
  have HX := Aside0.mk (show ∀ W1 : World, W1.heap[g]? = some (.cells #[.slice a (b.drop at_.toNat).length c, .int .i64 at_, .bool true] 75 (0, 0)) → IsS75 w0 W1 g b at_ true from fun W1 hb1 => ⟨_, hb1, hg, a, c, rfl, hr, hc, ha0, ha1⟩)
  have hLl : (((b.drop at_.toNat).length : Nat) : Int) = b.length - at_ := by simp; omega
  generalize b.drop at_.toNat = L at *
  have hK := KeepBut.refl w g none
  have c0 : w.cell? ⟨g, 0, none⟩ = some (.slice a L.length c) := (blk_cell hb 0).trans rfl
  have c2 : w.cell? ⟨g, 2, none⟩ = some (.bool bad) := (blk_cell hb 2).trans rfl
  have f2 := blk_frozen hb 2
  have HF := Aside0.mk hb
  cases bad
  · by_cases h0 : n < 0
    · have d0 : decide (n < 0) = true := decide_eq_true h0
      clear h hLl
      go_enter Tryd.func57, Tryd.ntmps57
      go_wp2_with fail
      go_ret
      exact ⟨⟨rfl, HX.out _ (blk_put HF.out 2 _ rfl)⟩, below_set hB hg, KeepBut.set_ hK 2 _⟩
    · have d0 : decide (n < 0) = false := decide_eq_false h0
      have h1 : (L.length : Int) < n := by by_cases h1 : n ≤ b.length - at_; exact absurd ⟨rfl, by omega, h1⟩ h; omega
      have d1 : decide ((L.length : Int) < n) = true := decide_eq_true h1
      clear h hLl
      go_enter Tryd.func57, Tryd.ntmps57
      go_wp2_with fail
      go_ret
      exact ⟨⟨rfl, HX.out _ (blk_put HF.out 2 _ rfl)⟩, below_set hB hg, KeepBut.set_ hK 2 _⟩
  · clear h hLl
    go_enter Tryd.func57, Tryd.ntmps57
    go_wp2_with fail
    go_ret
    exact ⟨⟨rfl, HX.out _ (blk_put HF.out 2 _ rfl)⟩, below_set hB hg, KeepBut.set_ hK 2 _⟩
theorem held_calls (many : Int) (w : World) : Calls Tryd.prog 64 #[.int .i64 many] w fun e w' => e = .returned (.int .i64 (mx 0 (mn many 8))) ∧ w' = w := by
  by_cases h0 : many < 0
  · rw [show mx 0 (mn many 8) = 0 by unfold mx mn; (repeat' split) <;> omega]
    go_enter Tryd.func64, Tryd.ntmps64
    go_wp2_with fail
    go_ret
    exact ⟨rfl, rfl⟩
  · by_cases h8 : 8 < many
    · rw [show mx 0 (mn many 8) = 8 by unfold mx mn; (repeat' split) <;> omega]
      go_enter Tryd.func64, Tryd.ntmps64
      go_wp2_with fail
      go_ret
      exact ⟨rfl, rfl⟩
    · rw [show mx 0 (mn many 8) = many by unfold mx mn; (repeat' split) <;> omega]
      go_enter Tryd.func64, Tryd.ntmps64
      go_wp2_with fail
      go_ret
      exact ⟨rfl, rfl⟩
theorem leN_drop (L : List Int) (j : Nat) (h : j < L.length) : leN (L.drop j) = L[j] + 256 * leN (L.drop (j + 1)) := by
  rw [List.drop_eq_getElem_cons h]
  rfl
theorem leN_8 (L : List Int) (hb : ∀ x ∈ L, 0 ≤ x ∧ x < 256) (j : Nat) (hj : L.length ≤ j + 8) : 0 ≤ leN (L.drop j) ∧ leN (L.drop j) < 18446744073709551616 := by
  have h := leN_lim (L.drop j) (fun x hx => hb x (List.mem_of_mem_drop hx))
  have hp : (2 : Int) ^ (8 * (L.drop j).length) ≤ 2 ^ 64 := by
    have : 2 ^ (8 * (L.drop j).length) ≤ 2 ^ 64 := Nat.pow_le_pow_right (by decide) (by simp; omega)
    exact_mod_cast this
  refine ⟨h.1, ?_⟩
  have : (2 : Int) ^ 64 = 18446744073709551616 := rfl
  omega
set_option maxHeartbeats 2000000 in
theorem rnum_ok (g : Nat) (w0 w : World) (b : List Int) (at_ : Int) (many m : Int) (hm : mx 0 (mn many 8) = m) (L : List Int) (hL : L = cutR b at_ m) (hI : IsS75 w0 w g b at_ false) (hB : Below w0.heap.size w0 w) (h1 : m ≤ b.length - at_) (hb : ∀ x ∈ b, 0 ≤ x ∧ x < 256) (hbl : b.length ≤ 1000000000) (ha : 0 ≤ at_) :
    Calls Tryd.prog 55 #[.pointer (some ⟨g, 0, none⟩), .int .i64 many] w fun e w' =>
      (e = .returned (.int .i64 (wrap64 (leN L))) ∧ IsS75 w0 w' g b (at_ + m) false) ∧ Below w0.heap.size w0 w' ∧ KeepBut w w' g none := by
  have hm0 : 0 ≤ m := by rw [← hm]; unfold mx; split <;> omega
  have hm8 : m ≤ 8 := by rw [← hm]; unfold mx mn; (repeat' split) <;> omega
  have hH := Aside0.mk (held_calls many w)
  rw [hm] at hH
  go_enter Tryd.func55, Tryd.ntmps55
  go_wp2_with fail
  refine hH.out.mono ?_
  rintro e w2 ⟨rfl, rfl⟩
  go_wp2_with fail
  refine (rtake_ok g w0 _ b at_ m hI hB hm0 h1 hbl).mono ?_
  rintro e w1 ⟨⟨A, c, rfl, hC, hc, hI1⟩, hB1, hK1⟩
  rw [← hL] at hC
  have hlen : L.length = m.toNat := by have := hC.1; omega
  have hcells : ∀ j : Nat, ∀ h : j < L.length, ∃ ad, A = some ad ∧ w1.cell? (ad.add j) = some (.int .u8 L[j]) := by
    intro j h
    obtain ⟨ad, e, hc⟩ := C_cells (Kd.C_below hC hB1) (by omega)
    exact ⟨ad, e, hc j _ (by simp [nums, h])⟩
  have hrange : ∀ x ∈ L, 0 ≤ x ∧ x < 256 := by
    intro x hx
    rw [hL] at hx
    exact hb x (List.mem_of_mem_drop (List.mem_of_mem_take hx))
  have HL := Aside0.mk hrange
  have HN := Aside0.mk hlen
  have HC := Aside0.mk hcells
  have HM := Aside0.mk hm8
  clear hm h1 hL hb hrange hlen hcells hC hH ha hbl
  go_wp2_with fail
  go_loopw [6, 7] (fun x i wr => ∃ j : Nat, j ≤ m.toNat ∧ i = .int .i64 ((j : Int) - 1) ∧ x = .int .u64 (leN (L.drop j)) ∧ wr = w1) (fun _ i _ => (intOf i + 1).toNat)
  case atStart => exact ⟨m.toNat, Nat.le_refl _, by congr 1; omega, by rw [List.drop_of_length_le (by have := HN.out; omega)]; rfl, rfl⟩
  case round =>
    obtain ⟨j, hj, rfl, rfl, rfl⟩ := hrel
    cases j with
    | zero =>
      go_wp2_with fail
      go_ret
      rw [List.drop_zero]
      exact ⟨⟨rfl, hI1⟩, hB1, hK1⟩
    | succ j =>
      have hlj : j < L.length := by have := HN.out; omega
      obtain ⟨ad, rfl, hce⟩ := HC.out j hlj
      have hx := HL.out _ (List.getElem_mem hlj)
      have hs := leN_drop L j hlj
      have h8 := leN_8 L HL.out j (by have := HN.out; omega)
      have h9 := leN_8 L HL.out (j + 1) (by have := HN.out; omega)
      generalize leN (L.drop (j + 1)) = v at *
      have hs := Aside0.mk hs
      have h8 := Aside0.mk h8
      rw [show ((j + 1 : Nat) : Int) - 1 = (j : Int) by omega]
      go_wp2_with fail
      refine ⟨⟨j, by omega, rfl, ?_, trivial⟩, by first | (simp [intOf]; done) | (simp [intOf]; omega)⟩
      rw [hs.out]
      congr 1
      omega
theorem rnum_bad (g : Nat) (w0 w : World) (b : List Int) (at_ : Int) (bad : Bool) (many m : Int) (hm : mx 0 (mn many 8) = m) (hI : IsS75 w0 w g b at_ bad) (hB : Below w0.heap.size w0 w) (h : ¬ okR b at_ bad m) :
    Calls Tryd.prog 55 #[.pointer (some ⟨g, 0, none⟩), .int .i64 many] w fun e w' =>
      (e = .returned (.int .i64 0) ∧ IsS75 w0 w' g b at_ true) ∧ Below w0.heap.size w0 w' ∧ KeepBut w w' g none := by
  have hH := Aside0.mk (held_calls many w)
  rw [hm] at hH
  go_enter Tryd.func55, Tryd.ntmps55
  go_wp2_with fail
  refine hH.out.mono ?_
  rintro e w2 ⟨rfl, rfl⟩
  go_wp2_with fail
  refine (rtake_bad g w0 _ b at_ bad m hI hB h).mono ?_
  rintro e w1 ⟨⟨rfl, hI1⟩, hB1, hK1⟩
  go_wp2_with fail
  go_loopw [6, 7] (fun x i wr => i = .int .i64 (-1) ∧ x = .int .u64 0 ∧ wr = w1) (fun _ _ _ => 0)
  case atStart => exact ⟨rfl, rfl, rfl⟩
  case round =>
    obtain ⟨rfl, rfl, rfl⟩ := hrel
    go_wp2_with fail
    go_ret
    exact ⟨⟨rfl, hI1⟩, hB1, hK1⟩
theorem at_range {w0 w : World} {g : Nat} {b : List Int} {at_ : Int} {bad : Bool} (hI : IsS75 w0 w g b at_ bad) : 0 ≤ at_ := by
  obtain ⟨_, _, _, _, _, _, _, _, ha, _⟩ := hI
  exact ha
theorem rnum_calls (g : Nat) (w0 w : World) (b : List Int) (at_ : Int) (bad : Bool) (many : Int) (hI : IsS75 w0 w g b at_ bad) (hB : Below w0.heap.size w0 w) (hb : okB b = true) :
    Calls Tryd.prog 55 #[.pointer (some ⟨g, 0, none⟩), .int .i64 many] w fun e w' =>
      e = .returned (.int .i64 (numR b at_ bad many).1) ∧ IsS75 w0 w' g b (numR b at_ bad many).2.1 (numR b at_ bad many).2.2 ∧ Below w0.heap.size w0 w' ∧ KeepBut w w' g none := by
  unfold numR
  by_cases h : okR b at_ bad (mx 0 (mn many 8))
  · rw [if_pos h]
    obtain ⟨rfl, h0, h1⟩ := h
    exact (rnum_ok g w0 w b at_ many _ rfl _ rfl hI hB h1 (okB_all hb).1 (okB_all hb).2 (at_range hI)).mono fun e w' ⟨⟨h1, h2⟩, h3, h4⟩ => ⟨h1, h2, h3, h4⟩
  · rw [if_neg h]
    exact (rnum_bad g w0 w b at_ bad many _ rfl hI hB h).mono fun e w' ⟨⟨h1, h2⟩, h3, h4⟩ => ⟨h1, h2, h3, h4⟩
theorem rtake_calls (g : Nat) (w0 w : World) (b : List Int) (at_ : Int) (bad : Bool) (n : Int) (hI : IsS75 w0 w g b at_ bad) (hB : Below w0.heap.size w0 w) (hb : okB b = true) :
    Calls Tryd.prog 57 #[.pointer (some ⟨g, 0, none⟩), .int .i64 n] w fun e w' =>
      ∃ A c, e = .returned (.slice A (takeR b at_ bad n).1.length c) ∧ Kd.C (Kd.int .u8) w0 A (takeR b at_ bad n).1.length (takeR b at_ bad n).1 ∧ (takeR b at_ bad n).1.length ≤ c ∧ IsS75 w0 w' g b (takeR b at_ bad n).2.1 (takeR b at_ bad n).2.2 ∧ Below w0.heap.size w0 w' ∧ KeepBut w w' g none := by
  unfold takeR
  by_cases h : okR b at_ bad n
  · rw [if_pos h]
    obtain ⟨rfl, h0, h1⟩ := h
    have hl : (cutR b at_ n).length = n.toNat := by have := at_range hI; unfold cutR; simp; omega
    refine (rtake_ok g w0 w b at_ n hI hB h0 h1 (okB_all hb).2).mono fun e w' ⟨⟨A, c, h1, h2, h3, h4⟩, h5, h6⟩ => ⟨A, c, ?_, ?_, ?_, h4, h5, h6⟩
    · rw [h1]; dsimp only; rw [hl]
    · dsimp only; rw [hl]; exact h2
    · dsimp only; rw [hl]; exact h3
  · rw [if_neg h]
    exact (rtake_bad g w0 w b at_ bad n hI hB h).mono fun e w' ⟨⟨h1, h2⟩, h3, h4⟩ => ⟨none, 0, h1, ⟨rfl, Nat.zero_le _, fun h => absurd h (Nat.lt_irrefl 0)⟩, Nat.le_refl _, h2, h3, h4⟩
set_option maxHeartbeats 1000000 in
theorem rtext_calls (g : Nat) (w0 w : World) (b : List Int) (at_ : Int) (bad : Bool) (hI : IsS75 w0 w g b at_ bad) (hB : Below w0.heap.size w0 w) (hb : okB b = true) :
    Calls Tryd.prog 54 #[.pointer (some ⟨g, 0, none⟩)] w fun e w' =>
      e = .returned (.string (textR b at_ bad).1) ∧ IsS75 w0 w' g b (textR b at_ bad).2.1 (textR b at_ bad).2.2 ∧ Below w0.heap.size w0 w' ∧ KeepBut w w' g none := by
  unfold textR
  dsimp only
  generalize ht : numR b at_ bad 1 = t
  generalize hu : takeR b t.2.1 t.2.2 t.1 = u
  have HT := Aside0.mk ht
  have HU := Aside0.mk hu
  have HB := Aside0.mk hb
  clear ht hu hb
  go_enter Tryd.func54, Tryd.ntmps54
  go_wp2_with fail
  refine (rnum_calls g w0 _ b at_ bad 1 hI hB HB.out).mono ?_
  rw [HT.out]
  rintro e w1 ⟨rfl, hI1, hB1, hK1⟩
  go_wp2_with fail
  refine (rtake_calls g w0 _ b t.2.1 t.2.2 t.1 hI1 hB1 HB.out).mono ?_
  rw [HU.out]
  rintro e w2 ⟨A, c, rfl, hC, hc, hI2, hB2, hK2⟩
  have hcv := Kd.C_string (c := c) (P := Tryd.prog) Tryd.underlying22 Tryd.underlying5 Tryd.underlying9 (Kd.C_below hC hB2)
  go_wp2_with fail
  go_ret
  exact ⟨rfl, hI2, hB2, hK1.trans hK2 (.inl rfl)⟩
end Go.Proofs.YthbcliofjfhmbaaDoor.Given
end

section
/- The document's reader's contract as printed texts call it; any reader of bytes that is not past its end. -/
namespace Go.Proofs.YthbcliofjfhmbaaDoor.Given
set_option linter.unusedVariables false
open Go.RowKit Go.Proofs.YthbcliofjfhmbaaDoorW.PrintWords Go.Proofs.YthbcliofjfhmbaaDoorW.PrintLast Go.Proofs.YthbcliofjfhmbaaDoorW.PrintMore
def ladderbackref03_Reader_Num.f (s0_0 : List Int) (s0_1 : Int) (s0_2 : Bool) (a1 : Int) : Option (Int × Int × Bool) := if okB s0_0 = true then some (numR s0_0 s0_1 s0_2 a1) else none
theorem ladderbackref03_Reader_Num.calls (g : Nat) (s0_0 : List Int) (s0_1 : Int) (s0_2 : Bool) (a1 : Int) (r1 : Int) (r2 : Int) (r3 : Bool) (w0 w : World) (hI : IsS75 w0 w g s0_0 s0_1 s0_2) (hB : Below w0.heap.size w0 w) (h : ladderbackref03_Reader_Num.f s0_0 s0_1 s0_2 a1 = some (r1, r2, r3)) :
    Calls Tryd.prog 55 #[.pointer (some ⟨g, 0, none⟩), .int .i64 a1] w fun e w' => e = .returned (.int .i64 r1) ∧ IsS75 w0 w' g s0_0 r2 r3 ∧ Below w0.heap.size w0 w' ∧ KeepBut w w' g none := by
  unfold ladderbackref03_Reader_Num.f at h
  split at h
  · rename_i hb
    have h := Option.some.inj h
    have := rnum_calls g w0 w s0_0 s0_1 s0_2 a1 hI hB hb
    rw [h] at this
    exact this
  · cases h
end Go.Proofs.YthbcliofjfhmbaaDoor.Given
end

section
/- Printed by a program of this session (wip/pg.py, over the print of the kit): functions, their Lean twins, and the proofs that the calls come to them; each under the conditions that it names. -/
namespace Go.Proofs.YthbcliofjfhmbaaDoor.PTyp
open Go.Proofs.YthbcliofjfhmbaaDoor.Given
open Go.RowKit Go.Proofs.YthbcliofjfhmbaaDoorW.PrintWords Go.Proofs.YthbcliofjfhmbaaDoorW.PrintLast Go.Proofs.YthbcliofjfhmbaaDoorW.PrintMore
attribute [local go_sem] max2_int min2_int max_two min_two max_three min_three max_four min_four   -- for this text's walks alone
set_option linter.unusedVariables false
set_option linter.unusedSimpArgs false



def errW : Option Int → Value
  | none => .nilIface
  | some c => .iface 0 (.int .i64 c)
theorem errW_none : errW none = .nilIface := rfl
theorem errW_some (c : Int) : errW (some c) = .iface 0 (.int .i64 c) := rfl

theorem info3 : (Tryd.prog.info? 3).map (fun i => (i.zero, i.size, i.bytes)) = some (some (.int .i64 0), 1, 8) := by kernel_rfl
-- the values' own types

end Go.Proofs.YthbcliofjfhmbaaDoor.PTyp
end

section
/- Printed by a program of this session (wip/pg.py, over the print of the kit): functions, their Lean twins, and the proofs that the calls come to them; each under the conditions that it names. -/
namespace Go.Proofs.YthbcliofjfhmbaaDoor.PTyp
open Go.Proofs.YthbcliofjfhmbaaDoor.Given
open Go.RowKit Go.Proofs.YthbcliofjfhmbaaDoorW.PrintWords Go.Proofs.YthbcliofjfhmbaaDoorW.PrintLast Go.Proofs.YthbcliofjfhmbaaDoorW.PrintMore
attribute [local go_sem] max2_int min2_int max_two min_two max_three min_three max_four min_four   -- for this text's walks alone
set_option linter.unusedVariables false
set_option linter.unusedSimpArgs false

-- NOT PRINTED: function 57 (ladderbackref03_Reader_Take)

/-! ### ladderbackref03_held: function 64 -/
def ladderbackref03_held.f (a0 : Int) : Option (Int) := if a0 < 0 then (some 0) else (if a0 > 8 then (some 8) else (some a0))
/-! ### ladderbackref15_types: function 56 -/
def ladderbackref15_types.l0 : Nat → Int → List Int → Int → List Int → Int → Bool → Option (List Int × Int × Bool)
  | 0, _, _, _, _, _, _ => none
  | k + 1, x1, x5, x6, x1000, x1001, x1002 => if x6 < x1 then ((ladderbackref03_Reader_Num.f x1000 x1001 x1002 1).bind fun bt101 => (if x5.length < 17592186044416 then (ladderbackref15_types.l0 k x1 (x5 ++ [bt101.1]) (wrap64 (x6 + 1)) x1000 bt101.2.1 bt101.2.2) else (none))) else (some (x5, x1001, x1002))
def ladderbackref15_types.f (k : Nat) (s0_0 : List Int) (s0_1 : Int) (s0_2 : Bool) (a1 : Int) : Option (List Int × Int × Bool) := ladderbackref15_types.l0 k a1 ([] : List Int) 0 s0_0 s0_1 s0_2
set_option maxHeartbeats 8000000 in
set_option maxRecDepth 100000 in
theorem ladderbackref15_types.calls (k : Nat) (g : Nat) (s0_0 : List Int) (s0_1 : Int) (s0_2 : Bool) (a1 : Int) (r1 : List Int) (r2 : Int) (r3 : Bool) (w0 w : World) (hI : IsS75 w0 w g s0_0 s0_1 s0_2) (hB : Below w0.heap.size w0 w) (h : ladderbackref15_types.f k s0_0 s0_1 s0_2 a1 = some (r1, r2, r3)) :
    Calls Tryd.prog 56 #[.pointer (some ⟨g, 0, none⟩), .int .i64 a1] w fun e w' => ∃ v0_ : Value, e = .returned (v0_) ∧ Kd.R (Kd.int .i64) 3 w' w.heap.size (fun _ => True) v0_ r1 ∧ IsS75 w0 w' g s0_0 r2 r3 ∧ Below w0.heap.size w0 w' ∧ KeepBut w w' g none := by
  have HI0 := Aside0.mk hI
  have HK := Aside0.mk (KeepBut.refl w g none)
  have HL := Aside0.mk hB.size
  clear hI
  have HW0 := Aside0.mk hB.size
  have HB := Aside0.mk hB
  clear hB
  have H : (ladderbackref15_types.l0 k a1 ([] : List Int) 0 s0_0 s0_1 s0_2) = some (r1, r2, r3) := h
  clear h
  have H' := Aside0.mk H
  clear H
  go_enter Tryd.func56, Tryd.ntmps56
  go_wp2
  go_loopg [5, 6] k (fun kq v5 v6 w' => ∃ (x5_1 : List Int) (x6_1 : Int) (x1001_1 : Int) (x1002_1 : Bool), v6 = .int .i64 x6_1 ∧ Aside0 (ladderbackref15_types.l0 kq a1 x5_1 x6_1 s0_0 x1001_1 x1002_1 = some (r1, r2, r3)) ∧ Aside0 (kq ≤ k) ∧ Aside0 (Kd.R (Kd.int .i64) 3 w' w.heap.size (fun _ => True) v5 x5_1) ∧ Aside0 (IsS75 w0 w' g s0_0 x1001_1 x1002_1) ∧ Aside0 (KeepBut w w' g none) ∧ Aside0 (Below w0.heap.size w0 w'))
  case atStart => exact ⟨(([] : List Int)), (0), (s0_1), (s0_2), (by first | rfl | (simp; done) | (simp [*]; done)), H', ⟨Nat.le_refl _⟩, ⟨by first | exact Kd.R_nil _ _ _ _ _ | exact Kd.N_nil _ _ _ _ _ | exact Kd.V_nil _ _ _ _ _ | exact Kd.Q_nil _ _ _ _ _ | exact Kd.S_nil _ _ _ _ _⟩, ⟨by repeat (first | (with_reducible first | exact HI0.out | apply IsS75.alloc | apply IsS75.drewN | apply IsS75.drew | apply IsS75.set_1 | apply IsS75.set_2) | exact HI0.out)⟩, ⟨by repeat (first | (with_reducible first | exact HK.out | apply KeepBut.set_ | apply keep_drewN | apply keep_drew | apply keep_alloc) | exact HK.out)⟩, ⟨by repeat (first | (with_reducible first | exact HB.out | apply below_alloc | apply pw_below_drewN | apply below_drew1 | refine below_set ?_ (IsS75.ge HI0.out)) | exact HB.out)⟩⟩
  case round =>
    clear H'
    try clear p2
    obtain ⟨x5_1, x6_1, x1001_1, x1002_1, rfl, HA, HK1, HO_5, HI0, HK, HB⟩ := hrel
    cases gk with
    | zero => exact absurd HA.out (by simp [ladderbackref15_types.l0])
    | succ k1 =>
      have H := HA.out
      clear HA
      simp only [ladderbackref15_types.l0] at H
      by_cases c3 : x6_1 < a1
      · rw [if_pos c3] at H
        have c3b0 : decide (x6_1 < a1) = true := decide_eq_true c3
        clear c3
        replace H := Option.bind_eq_some_iff.mp H
        obtain ⟨⟨t101, t102, t103⟩, A40, H⟩ := H
        replace H : (if x5_1.length < 17592186044416 then (ladderbackref15_types.l0 k1 a1 (x5_1 ++ [t101]) (wrap64 (x6_1 + 1)) s0_0 t102 t103) else (none)) = some (r1, r2, r3) := H
        have A4 := Aside0.mk A40
        clear A40
        by_cases c5 : x5_1.length < 17592186044416
        · rw [if_pos c5] at H
          have LMc5 := Aside0.mk c5
          clear c5
          obtain ⟨y104, hy104⟩ : ∃ y_ : List Int, y_ = (x5_1 ++ [t101]) := ⟨_, rfl⟩
          replace H : (ladderbackref15_types.l0 k1 a1 y104 (wrap64 (x6_1 + 1)) s0_0 t102 t103) = some (r1, r2, r3) := by first | (rw [hy104]; with_reducible exact H) | (have H2_ := (Option.bind_some _ _).symm.trans H; rw [hy104]; with_reducible exact H2_) | (have H2_ := (Option.bind_some _ _).symm.trans H; with_reducible exact H2_) | with_reducible exact H | (rw [hy104]; exact H) | exact H
          have Ny104 := Aside0.mk hy104
          clear hy104
          have H' := Aside0.mk H
          clear H
          go_wp2_with (first | ((with_reducible refine gate_callee (f := 55) rfl ?_); refine goesL_ (some 14) rfl rfl Tryd.func55 (by kernel_rfl) rfl #[.pointer (some ⟨g, 0, none⟩), .int .i64 1] rfl (by (try simp only [List.map_toArray, List.map_cons, List.map_nil]); first | done | rfl | (simp only [List.length_drop, List.length_take]; rfl)) ?_; (with_reducible refine (ladderbackref03_Reader_Num.calls g s0_0 x1001_1 x1002_1 1 t101 t102 t103 w0 _ ?side1 ?side2 A4.out).mono ?_); (case side1 => repeat (first | (with_reducible first | exact HI0.out | apply IsS75.alloc | apply IsS75.drewN | apply IsS75.drew | apply IsS75.set_1 | apply IsS75.set_2) | exact HI0.out)); (case side2 => repeat (first | (with_reducible first | exact HB.out | apply below_alloc | apply pw_below_drewN | apply below_drew1 | refine below_set ?_ (IsS75.ge HI0.out)) | exact HB.out)); rintro e w6 ⟨rfl, hi, hb, hk⟩; refine ⟨_, rfl, ?_⟩; have n0_ := Aside0.mk (Kd.R_mono (Kd.R_keep (IsS75.apart (show IsS75 w0 _ g s0_0 x1001_1 x1002_1 from by repeat (first | (with_reducible first | exact HI0.out | apply IsS75.alloc | apply IsS75.drewN | apply IsS75.drew | apply IsS75.set_1 | apply IsS75.set_2) | exact HI0.out)) (by (with_reducible repeat (first | apply Kd.R_alloc | apply Kd.R_drewN | apply Kd.R_drew)); exact HO_5.out) (by decide)) hk (fun _ h => h.2)) (fun _ h => h.1)); have n1_ := Aside0.mk (KeepBut.trans (by repeat (first | (with_reducible first | exact HK.out | apply KeepBut.set_ | apply keep_drewN | apply keep_drew | apply keep_alloc) | exact HK.out)) hk (.inl rfl)); have n2_ := Aside0.mk (hb); have n3_ := Aside0.mk (hi); clear HO_5; clear HK; clear HB; clear HI0; have HO_5 := n0_; have HK := n1_; have HB := n2_; have HI0 := n3_; clear n0_ n1_ n2_ n3_; (try clear hb); (try clear hb2); (try clear hk); (try clear hi)) | ((with_reducible refine gate_builtin (b := .append) (xs := #[.tmp 12, .tmp 15]) rfl ?_); at_builtin; refine Kd.R_append (Kd.int .i64) w.heap.size rfl (.tmp 12) (.tmp 15) 35 3 (.int .i64 0) 8 rfl Tryd.underlying35 info3 rfl (by decide) (by omega) u5 x5_1 t101 [.int .i64 t101] (fun _ => True) (fun _ => False) rfl rfl ?aP (fun _ hk => hk.elim) ?aF ?aO (Below.refl _ _) ?aS ?aL ?_; (case aP => exact rfl); (case aF => exact (fun _ _ => trivial)); (case aO => exact (by (with_reducible repeat (first | apply Kd.R_alloc | apply Kd.R_drewN | apply Kd.R_drew)); exact HO_5.out)); (case aS => exact (keep_size (w := w) (g := g) (row := none) (by repeat (first | (with_reducible first | exact HK.out | apply KeepBut.set_ | apply keep_drewN | apply keep_drew | apply keep_alloc) | exact HK.out)))); (case aL => have := LMc5.out; omega); intro v105 w7 ho hb hg hat; rw [← Ny104.out] at ho; have n0_ := Aside0.mk (IsS75.grown (by repeat (first | (with_reducible first | exact HI0.out | apply IsS75.alloc | apply IsS75.drewN | apply IsS75.drew | apply IsS75.set_1 | apply IsS75.set_2) | exact HI0.out)) hg (IsS75.own_ne HI0.out HO_5.out (by decide))); have n1_ := Aside0.mk (below_weaken (by repeat (first | (with_reducible first | exact HB.out | apply below_alloc | apply pw_below_drewN | apply below_drew1 | refine below_set ?_ (IsS75.ge HI0.out)) | exact HB.out)) HL.out hb); have n2_ := Aside0.mk (KeepBut.trans (by repeat (first | (with_reducible first | exact HK.out | apply KeepBut.set_ | apply keep_drewN | apply keep_drew | apply keep_alloc) | exact HK.out)) (KeepBut.of_grown hg g) (Kd.R_base2 HO_5.out)); have n3_ := Aside0.mk (ho); clear HI0; clear HB; clear HK; clear HO_5; have HI0 := n0_; have HB := n1_; have HK := n2_; have HO106 := n3_; clear n0_ n1_ n2_ n3_; clear ho hb hg hat))
          go_roundg k1
          case measure => have := HK1.out; omega
          case rel => exact ⟨(y104), (wrap64 (x6_1 + 1)), (t102), (t103), (by first | rfl | (simp; done) | (simp [*]; done)), H', ⟨by have := HK1.out; omega⟩, ⟨by (with_reducible repeat (first | apply Kd.R_alloc | apply Kd.R_drewN | apply Kd.R_drew)); exact HO106.out⟩, ⟨by repeat (first | (with_reducible first | exact HI0.out | apply IsS75.alloc | apply IsS75.drewN | apply IsS75.drew | apply IsS75.set_1 | apply IsS75.set_2) | exact HI0.out)⟩, ⟨by repeat (first | (with_reducible first | exact HK.out | apply KeepBut.set_ | apply keep_drewN | apply keep_drew | apply keep_alloc) | exact HK.out)⟩, ⟨by repeat (first | (with_reducible first | exact HB.out | apply below_alloc | apply pw_below_drewN | apply below_drew1 | refine below_set ?_ (IsS75.ge HI0.out)) | exact HB.out)⟩⟩
        · rw [if_neg c5] at H
          exact absurd H (by simp)
      · rw [if_neg c3] at H
        have c3b0 : decide (x6_1 < a1) = false := decide_eq_false c3
        clear c3
        simp only [Option.some.injEq, Prod.mk.injEq] at H
        obtain ⟨rfl, rfl, rfl⟩ := H
        go_wp2
        go_ret
        exact ⟨_, by first | rfl | (simp [errW_none, errW_some] <;> rfl) | (simp [*, errW_none, errW_some] <;> rfl), by (with_reducible repeat (first | apply Kd.R_alloc | apply Kd.R_drewN | apply Kd.R_drew)); exact HO_5.out, by repeat (first | (with_reducible first | exact HI0.out | apply IsS75.alloc | apply IsS75.drewN | apply IsS75.drew | apply IsS75.set_1 | apply IsS75.set_2) | exact HI0.out), by repeat (first | (with_reducible first | exact HB.out | apply below_alloc | apply pw_below_drewN | apply below_drew1 | refine below_set ?_ (IsS75.ge HI0.out)) | exact HB.out), by repeat (first | (with_reducible first | exact HK.out | apply KeepBut.set_ | apply keep_drewN | apply keep_drew | apply keep_alloc) | exact HK.out)⟩

end Go.Proofs.YthbcliofjfhmbaaDoor.PTyp
end

section
/- Bytes as a unit, as the document reads them, plainly: it is what the program reads. -/
namespace Go.Proofs.YthbcliofjfhmbaaDoor.Given
open Go.RowKit Go.Proofs.YthbcliofjfhmbaaDoorW.PrintWords Go.Proofs.YthbcliofjfhmbaaDoorW.PrintLast Go.Proofs.YthbcliofjfhmbaaDoorW.PrintMore Go.Proofs.YthbcliofjfhmbaaDoor.UPure
set_option linter.unusedVariables false
set_option linter.unusedSimpArgs false
/-- The next numbers of a byte, one by one; where the reader is, whether it's bad. -/
def typesF (b : List Int) : Nat → Int → Bool → List Int × Int × Bool
  | 0, a, d => ([], a, d)
  | k + 1, a, d =>
    let t := numR b a d 1
    let u := typesF b k t.2.1 t.2.2
    (t.1 :: u.1, u.2)
def typesR (b : List Int) (at_ : Int) (bad : Bool) (n : Int) : List Int × Int × Bool := typesF b n.toNat at_ bad
theorem typesF_bad (b : List Int) : ∀ k a, (typesF b k a true).2 = (a, true)
  | 0, a => rfl
  | k + 1, a => by
    unfold typesF
    dsimp only
    rw [num_bad_true]
    exact typesF_bad b k a
theorem num_one {b : List Int} (hb : ∀ x ∈ b, 0 ≤ x ∧ x < 256) {a : Int} (h0 : 0 ≤ a) (h1 : a < b.length) : numR b a false 1 = (b.getD a.toNat 0, a + 1, false) := by
  have hx := hb _ (List.getElem_mem (show a.toNat < b.length by omega))
  unfold numR
  rw [show mx 0 (mn 1 8) = 1 by decide, if_pos ⟨rfl, by omega, by omega⟩]
  have : cutR b a 1 = [b[a.toNat]'(by omega)] := by
    unfold cutR
    rw [show (1 : Int).toNat = 1 from rfl, List.drop_eq_getElem_cons (by omega)]
    rfl
  rw [this, List.getD_eq_getElem?_getD, List.getElem?_eq_getElem (by omega), Option.getD_some]
  have hw : wrap64 (leN [b[a.toNat]'(by omega)]) = b[a.toNat]'(by omega) := by
    show wrap64 (b[a.toNat]'(by omega) + 256 * 0) = _
    rw [wN _ (by omega) (by omega)]; omega
  rw [hw]
theorem num_none {b : List Int} {a : Int} (h1 : b.length ≤ a) : numR b a false 1 = (0, a, true) := by
  unfold numR
  rw [show mx 0 (mn 1 8) = 1 by decide, if_neg (fun h => by have := h.2.2; omega)]
theorem typesF_ok {b : List Int} (hb : ∀ x ∈ b, 0 ≤ x ∧ x < 256) : ∀ (k : Nat) (a : Int), 0 ≤ a → a + k ≤ b.length → typesF b k a false = ((b.drop a.toNat).take k, a + k, false)
  | 0, a, _, _ => by
    unfold typesF
    rw [List.take_zero]
    simp
  | k + 1, a, h0, h1 => by
    unfold typesF
    dsimp only
    rw [num_one hb h0 (by omega)]
    dsimp only
    rw [typesF_ok hb k (a + 1) (by omega) (by omega), List.drop_eq_getElem_cons (show a.toNat < b.length by omega), List.take_succ_cons, List.getD_eq_getElem?_getD, List.getElem?_eq_getElem (show a.toNat < b.length by omega), Option.getD_some, show (a + 1).toNat = a.toNat + 1 by omega]
    rw [show a + 1 + (k : Int) = a + ((k + 1 : Nat) : Int) by omega]
theorem typesF_short {b : List Int} (hb : ∀ x ∈ b, 0 ≤ x ∧ x < 256) : ∀ (k : Nat) (a : Int), 0 ≤ a → a ≤ b.length → ¬ a + k ≤ b.length → (typesF b k a false).2.2 = true
  | 0, a, h0, h1, h2 => absurd (show a + (0 : Nat) ≤ b.length by omega) h2
  | k + 1, a, h0, h1, h2 => by
    unfold typesF
    dsimp only
    by_cases h : a < b.length
    · rw [num_one hb h0 h]
      exact typesF_short hb k (a + 1) (by omega) (by omega) (by omega)
    · rw [num_none (by omega)]
      dsimp only
      rw [typesF_bad]
/-- The next numbers, if they are there, are what is taken; else the reader is bad. -/
theorem types_take {b : List Int} (hb : ∀ x ∈ b, 0 ≤ x ∧ x < 256) {a n : Int} (h0 : 0 ≤ a) (h1 : a ≤ b.length) (hn : 0 ≤ n) :
    ((takeR b a false n).2.2 = false → typesR b a false n = takeR b a false n) ∧ ((takeR b a false n).2.2 = true → (typesR b a false n).2.2 = true) := by
  unfold typesR takeR
  by_cases h : okR b a false n
  · rw [if_pos h]
    refine ⟨fun _ => ?_, fun h => by cases h⟩
    obtain ⟨_, _, h2⟩ := h
    rw [typesF_ok hb n.toNat a h0 (by omega)]
    unfold cutR
    rw [show a + (n.toNat : Int) = a + n by omega]
  · rw [if_neg h]
    refine ⟨fun h => by (cases h), fun _ => typesF_short hb n.toNat a h0 h1 (fun h3 => h ⟨rfl, hn, by omega⟩)⟩
/-- Bytes as a unit, and the error, as the document reads them. -/
def refR (b : List Int) : UD × Int :=
  let t := textR b 0 false
  let n := numR b t.2.1 t.2.2 1
  if n.2.2 = true then (zeroU, 1) else
  if n.1 > 8 then (zeroU, 5) else
  let p := typesR b n.2.1 n.2.2 n.1
  let r := numR b p.2.1 p.2.2 1
  let m := numR b r.2.1 r.2.2 2
  if m.2.2 = true then (zeroU, 1) else
  if m.1 > 1024 then (zeroU, 5) else
  let l := typesR b m.2.1 m.2.2 m.1
  let q := numR b l.2.1 l.2.2 2
  if q.2.2 = true then (zeroU, 1) else
  if q.1 > 16384 then (zeroU, 5) else
  let x := takeR b q.2.1 q.2.2 (wrap64 (5 * q.1))
  if x.2.2 = true then (zeroU, 1) else
  let c := decF x.1.length x.1 []
  if ¬ c.2.2 = 0 then (zeroU, c.2.2) else
  if (b.length : Int) - x.2.1 > 0 then (zeroU, 4) else
  ((t.1, p.1, r.1, l.1, c.1.map conv), 0)
/-- The numbers behind how many they are: as they are taken. -/
theorem numbers_of {b : List Int} {at_ : Int} {bad : Bool} {many most : Int} (n : Int × Int × Bool) (hn : numR b at_ bad many = n) :
    numbersR b at_ bad many most = if n.1 > most then ([], 5, n.2.1, n.2.2) else (if (takeR b n.2.1 n.2.2 n.1).2.2 = true then ([], 1, (takeR b n.2.1 n.2.2 n.1).2.1, (takeR b n.2.1 n.2.2 n.1).2.2) else ((takeR b n.2.1 n.2.2 n.1).1, 0, (takeR b n.2.1 n.2.2 n.1).2.1, (takeR b n.2.1 n.2.2 n.1).2.2)) := by
  unfold numbersR
  rw [hn]
theorem num_zero {b : List Int} {at_ : Int} {bad : Bool} {many : Int} (h : (numR b at_ bad many).2.2 = true) : (numR b at_ bad many).1 = 0 := by
  unfold numR at h ⊢
  by_cases hk : okR b at_ bad (mx 0 (mn many 8))
  · rw [if_pos hk] at h; cases h
  · rw [if_neg hk]
theorem ref_get (b : List Int) (hb : ∀ x ∈ b, 0 ≤ x ∧ x < 256) (hl : b.length ≤ 1000000) : refR b = getR b := by
  unfold refR getR
  dsimp only
  have ht := text_inv hb (at_ := 0) (by omega) (by omega)
  generalize textR b 0 false = t at ht ⊢
  cases htb : t.2.2 with
  | true =>
    rw [num_bad_true]
    rw [if_pos rfl, if_pos rfl]
  | false =>
  rw [if_neg (show ¬ false = true by simp)]
  obtain ⟨t1, t2, t3, _⟩ := ht htb
  have hn := num_inv hb (at_ := t.2.1) (many := 1) (m := 1) (by decide) (by decide) (by omega) (by omega)
  have hn0 := num_zero (b := b) (at_ := t.2.1) (bad := false) (many := 1)
  rw [numbers_of (b := b) (at_ := t.2.1) (bad := false) (many := 1) (most := 8) _ rfl]
  generalize numR b t.2.1 false 1 = n at hn hn0 ⊢
  cases hnb : n.2.2 with
  | true =>
    rw [if_pos rfl, take_bad_true, if_neg (show ¬ n.1 > 8 by have := hn0 hnb; omega)]
    dsimp only
    rw [if_pos rfl]
    dsimp only
    rw [if_pos (by decide)]
  | false =>
  rw [if_neg (show ¬ false = true by simp)]
  obtain ⟨n1, n2, n3, _, _⟩ := hn hnb
  by_cases h8 : n.1 > 8
  · rw [if_pos h8, if_pos h8]
    dsimp only
    rw [if_pos (by decide)]
  rw [if_neg h8, if_neg h8]
  have hp := types_take hb (a := n.2.1) (n := n.1) (by omega) (by omega) n3
  have hpi := take_inv (b := b) (at_ := n.2.1) (n := n.1) (by omega) (by omega)
  generalize typesR b n.2.1 false n.1 = P at hp ⊢
  generalize takeR b n.2.1 false n.1 = p at hp hpi ⊢
  cases hpb : p.2.2 with
  | true =>
    rw [if_pos rfl]
    dsimp only
    rw [if_pos (show ¬ (1 : Int) = 0 by decide), hp.2 hpb, num_bad_true]
    dsimp only
    rw [num_bad_true]
    rw [if_pos rfl]
  | false =>
  rw [if_neg (show ¬ false = true by simp)]
  dsimp only
  rw [if_neg (show ¬ ¬ (0 : Int) = 0 by decide), hp.1 hpb, hpb]
  obtain ⟨p1, p2, p3, _, _⟩ := hpi hpb
  clear hp hpi
  have hr := num_inv hb (at_ := p.2.1) (many := 1) (m := 1) (by decide) (by decide) (by omega) (by omega)
  generalize numR b p.2.1 false 1 = r at hr ⊢
  cases hrb : r.2.2 with
  | true =>
    rw [num_bad_true]
    rw [if_pos rfl, if_pos rfl]
  | false =>
  rw [if_neg (show ¬ false = true by simp)]
  obtain ⟨r1, r2, r3, _, _⟩ := hr hrb
  have hm := num_inv hb (at_ := r.2.1) (many := 2) (m := 2) (by decide) (by decide) (by omega) (by omega)
  have hm0 := num_zero (b := b) (at_ := r.2.1) (bad := false) (many := 2)
  rw [numbers_of (b := b) (at_ := r.2.1) (bad := false) (many := 2) (most := 1024) _ rfl]
  generalize numR b r.2.1 false 2 = m at hm hm0 ⊢
  cases hmb : m.2.2 with
  | true =>
    rw [if_pos rfl, take_bad_true, if_neg (show ¬ m.1 > 1024 by have := hm0 hmb; omega)]
    dsimp only
    rw [if_pos rfl]
    dsimp only
    rw [if_pos (by decide)]
  | false =>
  rw [if_neg (show ¬ false = true by simp)]
  obtain ⟨m1, m2, m3, _, _⟩ := hm hmb
  by_cases h1024 : m.1 > 1024
  · rw [if_pos h1024, if_pos h1024]
    dsimp only
    rw [if_pos (by decide)]
  rw [if_neg h1024, if_neg h1024]
  have hp := types_take hb (a := m.2.1) (n := m.1) (by omega) (by omega) m3
  have hpi := take_inv (b := b) (at_ := m.2.1) (n := m.1) (by omega) (by omega)
  generalize typesR b m.2.1 false m.1 = L at hp ⊢
  generalize takeR b m.2.1 false m.1 = l at hp hpi ⊢
  cases hlb : l.2.2 with
  | true =>
    rw [if_pos rfl]
    dsimp only
    rw [if_pos (show ¬ (1 : Int) = 0 by decide), hp.2 hlb, num_bad_true]
    rw [if_pos rfl]
  | false =>
  rw [if_neg (show ¬ false = true by simp)]
  dsimp only
  rw [if_neg (show ¬ ¬ (0 : Int) = 0 by decide), hp.1 hlb, hlb]
  obtain ⟨l1, l2, l3, _, _⟩ := hpi hlb
  clear hp hpi
  have hq := num_inv hb (at_ := l.2.1) (many := 2) (m := 2) (by decide) (by decide) (by omega) (by omega)
  have hq0 := num_zero (b := b) (at_ := l.2.1) (bad := false) (many := 2)
  generalize numR b l.2.1 false 2 = q at hq hq0 ⊢
  cases hqb : q.2.2 with
  | true =>
    rw [if_pos rfl, take_bad_true, if_neg (show ¬ q.1 > 16384 by have := hq0 hqb; omega)]
    rw [if_pos rfl]
  | false =>
  rw [if_neg (show ¬ false = true by simp)]
  by_cases h16 : q.1 > 16384
  · rw [if_pos h16, if_pos h16]
  rw [if_neg h16, if_neg h16]
  generalize takeR b q.2.1 false (wrap64 (5 * q.1)) = x
  cases hxb : x.2.2 with
  | true => rw [if_pos rfl, if_pos rfl]
  | false =>
  rw [if_neg (show ¬ false = true by simp), if_neg (show ¬ false = true by simp), if_neg (show ¬ false = true by simp)]
/-! ### The loop -/
theorem types_l0 (b : List Int) (hb : okB b = true) (n : Int) (hn : n ≤ 1000000) : ∀ (d : Nat) (i : Int) (k : Nat) (x : List Int) (a : Int) (bad : Bool), 0 ≤ i → (n - i).toNat = d → d < k → x.length + d ≤ 10000000 →
    PTyp.ladderbackref15_types.l0 k n x i b a bad = some (x ++ (typesF b d a bad).1, (typesF b d a bad).2) := by
  intro d
  induction d with
  | zero =>
    intro i k x a bad h0 h1 h2 h3
    obtain ⟨k, rfl⟩ : ∃ m, k = m + 1 := ⟨k - 1, by omega⟩
    unfold PTyp.ladderbackref15_types.l0 typesF
    rw [if_neg (by omega), List.append_nil]
  | succ d ih =>
    intro i k x a bad h0 h1 h2 h3
    obtain ⟨k, rfl⟩ : ∃ m, k = m + 1 := ⟨k - 1, by omega⟩
    unfold PTyp.ladderbackref15_types.l0 ladderbackref03_Reader_Num.f
    rw [if_pos (by omega), if_pos hb, Option.bind_some, if_pos (by omega), wN _ (by omega) (by omega), ih (i + 1) k _ _ _ (by omega) (by omega) (by omega) (by simp only [List.length_append, List.length_cons, List.length_nil]; omega), List.append_assoc]
    rfl
theorem rtypes_calls (g : Nat) (w0 w : World) (b : List Int) (at_ : Int) (bad : Bool) (n : Int) (hn : n ≤ 1000000) (hI : IsS75 w0 w g b at_ bad) (hB : Below w0.heap.size w0 w) (hb : okB b = true) :
    Calls Tryd.prog 56 #[.pointer (some ⟨g, 0, none⟩), .int .i64 n] w fun e w' => ∃ v0_ : Value, e = .returned v0_ ∧ Kd.R (Kd.int .i64) 3 w' w.heap.size (fun _ => True) v0_ (typesR b at_ bad n).1 ∧ IsS75 w0 w' g b (typesR b at_ bad n).2.1 (typesR b at_ bad n).2.2 ∧ Below w0.heap.size w0 w' ∧ KeepBut w w' g none :=
  PTyp.ladderbackref15_types.calls 1000001 g b at_ bad n _ _ _ w0 w hI hB (by
    unfold PTyp.ladderbackref15_types.f typesR
    rw [types_l0 b hb n hn n.toNat 0 1000001 [] at_ bad (by omega) (by omega) (by omega) (by simp; omega)]
    rfl)
end Go.Proofs.YthbcliofjfhmbaaDoor.Given
end

section
/- Bytes as a unit, as the document reads them: its call tells what the program's tells; bytes of at most 90000 in length. -/
namespace Go.Proofs.YthbcliofjfhmbaaDoor.Given
open Go.RowKit Go.Proofs.YthbcliofjfhmbaaDoorW.PrintWords Go.Proofs.YthbcliofjfhmbaaDoorW.PrintLast Go.Proofs.YthbcliofjfhmbaaDoorW.PrintMore Go.Proofs.YthbcliofjfhmbaaDoor.UPure
set_option linter.unusedVariables false
set_option linter.unusedSimpArgs false
theorem rdecode_calls (A : Option Addr) (c : Nat) (l : List Int) (r : List InS × Int × Int) (w : World) (hC : Kd.C (Kd.int .u8) w A l.length l) (hc : l.length ≤ c) (hl : l.length ≤ 90000) (hb : ∀ x ∈ l, 0 ≤ x ∧ x < 256) (hr : decF l.length l [] = r) :
    Calls Tryd.prog 11 #[.slice A l.length c] w fun e w' => ∃ v0_ : Value, e = .returned (.tuple #[v0_, .int .i64 r.2.1, .int .i64 r.2.2]) ∧ Kd.R inK 47 w' w.heap.size (fun _ => True) v0_ r.1 ∧ Below w.heap.size w w' := by
  refine PCod.ladderbackref13_Decode.calls (2 * l.length + 10) A c l r.1 r.2.1 r.2.2 w hC hc ?_
  have := Pure.ref_dec l.length l [] [] (2 * l.length + 10) (Nat.le_refl _) rfl (by simp; omega) hb (Nat.le_refl _)
  rw [hr] at this
  exact this
theorem rd_bad {w0 W : World} {g : Nat} {b : List Int} {a : Int} {d : Bool} (h : IsS75 w0 W g b a d) : W.cell? ⟨g, 2, none⟩ = some (.bool d) := by
  obtain ⟨_, hb, _, _, _, rfl, _⟩ := h
  exact (blk_cell hb 2).trans rfl
theorem rd_left {w0 W : World} {g : Nat} {b : List Int} {a : Int} {d : Bool} (h : IsS75 w0 W g b a d) : ∃ A n c, W.cell? ⟨g, 0, none⟩ = some (.slice A n c) ∧ (n : Int) = b.length - a := by
  obtain ⟨_, hb, _, A, c, rfl, _, _, h0, h1⟩ := h
  exact ⟨A, _, c, (blk_cell hb 0).trans rfl, by simp; omega⟩
theorem rd_new {w0 W : World} {g : Nat} {b : List Int} {A : Option Addr} {c : Nat} (hb : W.heap[g]? = some (.cells #[.slice A b.length c, .int .i64 0, .bool false] 75 (0, 0))) (hg : w0.heap.size ≤ g) (hC : Kd.C (Kd.int .u8) w0 A b.length b) (hc : b.length ≤ c) : IsS75 w0 W g b 0 false :=
  ⟨_, hb, hg, A, c, rfl, hC, hc, Int.le_refl _, Int.natCast_nonneg _⟩
def RefPost (b : List Int) (w : World) (e : Ending) (w' : World) : Prop := ∃ u : UR, e = .returned (.tuple #[.agg u.cells, .int .i64 (refR b).2]) ∧ u.Ok w' ∧ (u.n, u.P, u.R, u.L, u.C) = (refR b).1 ∧ Below w.heap.size w w'
theorem RefPost.zero {b : List Int} {w w' : World} {e : Ending} {v : Value} {c : Int} (hG : refR b = (zeroU, c)) (he : e = .returned (.tuple #[.agg #[.string ⟨#[]⟩, .slice none 0 0, .int .i64 0, .slice none 0 0, .slice none 0 0], .int .i64 c])) (hB : Below w.heap.size w w') : RefPost b w e w' := ⟨zeroUR, by rw [he, hG]; rfl, zero_ok _, by rw [hG]; rfl, hB⟩
set_option maxHeartbeats 8000000 in
set_option maxRecDepth 100000 in
theorem rget_calls (A0 : Option Addr) (c0 : Nat) (b : List Int) (w : World) (hr0 : Kd.C (Kd.int .u8) w A0 b.length b) (hc0 : b.length ≤ c0) (hl : b.length ≤ 90000) (hb : okB b = true) :
    Calls Tryd.prog 28 #[.slice A0 b.length c0] w fun e w' => RefPost b w e w' := by
  have hi : (Tryd.prog.info? 37).map (·.size) = some 5 := by kernel_rfl
  obtain ⟨G, hG⟩ : ∃ G, refR b = G := ⟨_, rfl⟩
  have hG0 := hG
  unfold refR at hG
  dsimp only at hG
  have hT := fun g w0 w hI hB => rtext_calls g w0 w b 0 false hI hB hb
  generalize textR b 0 false = t at hG hT
  have hN := fun g w0 w hI hB => rnum_calls g w0 w b t.2.1 t.2.2 1 hI hB hb
  generalize numR b t.2.1 t.2.2 1 = n at hG hN
  have hP := fun h g w0 w hI hB => rtypes_calls g w0 w b n.2.1 n.2.2 n.1 h hI hB hb
  generalize typesR b n.2.1 n.2.2 n.1 = p at hG hP
  have hR := fun g w0 w hI hB => rnum_calls g w0 w b p.2.1 p.2.2 1 hI hB hb
  generalize numR b p.2.1 p.2.2 1 = r at hG hR
  have hM := fun g w0 w hI hB => rnum_calls g w0 w b r.2.1 r.2.2 2 hI hB hb
  generalize numR b r.2.1 r.2.2 2 = m at hG hM
  have hK := fun h g w0 w hI hB => rtypes_calls g w0 w b m.2.1 m.2.2 m.1 h hI hB hb
  generalize typesR b m.2.1 m.2.2 m.1 = l at hG hK
  have hQ := fun g w0 w hI hB => rnum_calls g w0 w b l.2.1 l.2.2 2 hI hB hb
  generalize numR b l.2.1 l.2.2 2 = q at hG hQ
  have hX := fun g w0 w hI hB => rtake_calls g w0 w b q.2.1 q.2.2 (wrap64 (5 * q.1)) hI hB hb
  have hxl := take_len (b := b) (at_ := q.2.1) (bad := q.2.2) (n := wrap64 (5 * q.1))
  have hxm := take_mem (b := b) (at_ := q.2.1) (bad := q.2.2) (n := wrap64 (5 * q.1))
  generalize takeR b q.2.1 q.2.2 (wrap64 (5 * q.1)) = x at hG hX hxl hxm
  have hD := fun A c w hC hc => rdecode_calls A c x.1 _ w hC hc (Nat.le_trans hxl hl) (fun y hy => (okB_all hb).1 y (hxm y hy)) rfl
  generalize decF x.1.length x.1 [] = c at hG hD
  have HT := Aside0.mk hT
  have HN := Aside0.mk hN
  have HP := Aside0.mk hP
  have HR := Aside0.mk hR
  have HM := Aside0.mk hM
  have HK := Aside0.mk hK
  have HQ := Aside0.mk hQ
  have HX := Aside0.mk hX
  have HD := Aside0.mk hD
  have hG := Aside0.mk hG
  have hG0 := Aside0.mk hG0
  clear hT hN hP hR hM hK hQ hX hD hxl hxm
  have hW0 := (Below.refl w.heap.size w).alloc (Nat.le_refl _) (.cells #[.string ⟨#[]⟩, .slice none 0 0, .int .i64 0, .slice none 0 0, .slice none 0 0] 37)
  have HC0 := Aside0.mk (Kd.C_below hr0 hW0)
  have HC1 := Aside0.mk hc0
  have hz0 := heap_alloc_new w (.cells #[.string ⟨#[]⟩, .slice none 0 0, .int .i64 0, .slice none 0 0, .slice none 0 0] 37)
  clear hr0 hl hb hc0
  go_enter Tryd.func28, Tryd.ntmps28
  go_wp2_with fail
  have hs7 : (w.alloc (.cells #[.string ⟨#[]⟩, .slice none 0 0, .int .i64 0, .slice none 0 0, .slice none 0 0] 37)).heap.size = w.heap.size + 1 := by simp
  generalize w.alloc (.cells #[.string ⟨#[]⟩, .slice none 0 0, .int .i64 0, .slice none 0 0, .slice none 0 0] 37) = w7 at hs7 HC0 hz0 hW0 ⊢
  rw [← hs7]
  have hI := (rd_new (heap_alloc_new w7 _) (Nat.le_refl _) HC0.out HC1.out).alloc (.cells #[.string ⟨#[]⟩, .slice none 0 0, .int .i64 0, .slice none 0 0, .slice none 0 0] 37)
  have hB := ((Below.refl w7.heap.size w7).alloc (Nat.le_refl _) (.cells #[.slice A0 b.length c0, .int .i64 0, .bool false] 75)).alloc (by simp) (.cells #[.string ⟨#[]⟩, .slice none 0 0, .int .i64 0, .slice none 0 0, .slice none 0 0] 37)
  have hx := heap_alloc_new (w7.alloc (.cells #[.slice A0 b.length c0, .int .i64 0, .bool false] 75)) (.cells #[.string ⟨#[]⟩, .slice none 0 0, .int .i64 0, .slice none 0 0, .slice none 0 0] 37)
  rw [show (w7.alloc (.cells #[.slice A0 b.length c0, .int .i64 0, .bool false] 75)).heap.size = w7.heap.size + 1 by simp] at hx
  have HW := Aside0.mk (show ∀ W, Below w7.heap.size w7 W → Below w.heap.size w W from fun W h => hW0.trans (h.mono hW0.size))
  have HZ := Aside0.mk (show ∀ W, Below w7.heap.size w7 W → W.heap[w.heap.size]? = some (.cells #[.string ⟨#[]⟩, .slice none 0 0, .int .i64 0, .slice none 0 0, .slice none 0 0] 37 (0, 0)) from fun W h => (h.block w.heap.size (by omega)).trans hz0)
  have hgb : w7.heap.size ≠ w7.heap.size + 1 := by omega
  have hgb7 : w7.heap.size ≤ w7.heap.size + 1 := by omega
  clear hW0 hz0 HC0 HC1 hs7
  generalize (w7.alloc (.cells #[.slice A0 b.length c0, .int .i64 0, .bool false] 75)).alloc (.cells #[.string ⟨#[]⟩, .slice none 0 0, .int .i64 0, .slice none 0 0, .slice none 0 0] 37) = w9 at hI hB hx ⊢
  refine (HT.out w7.heap.size w7 _ hI hB).mono ?_
  (try clear fz fc)
  (try clear qb)
  rintro e wn ⟨rfl, hI', hB', hk⟩
  have hsz := hB.size
  clear hI hB
  have hI := hI'
  have hB := hB'
  clear hI' hB'
  clear hsz
  replace hx := hk.blk hx hgb.symm (by simp)
  clear hk
  have fz := blk_frozen hx 0
  have fc := (blk_cell hx 0).trans rfl
  replace hI := hI.far (p := ⟨w7.heap.size + 1, 0, none⟩) hgb (.string t.1)
  replace hB := below_set (j := 0) (v := .string t.1) hB hgb7
  replace hx := blk_put (cs' := #[.string t.1, .slice none 0 0, .int .i64 0, .slice none 0 0, .slice none 0 0]) hx 0 (.string t.1) rfl
  go_wp2_with fail
  refine (HN.out w7.heap.size w7 _ hI hB).mono ?_
  (try clear fz fc)
  (try clear qb)
  rintro e wn ⟨rfl, hI', hB', hk⟩
  have hsz := hB.size
  clear hI hB
  have hI := hI'
  have hB := hB'
  clear hI' hB'
  clear hsz
  replace hx := hk.blk hx hgb.symm (by simp)
  clear hk
  have qb := rd_bad hI
  by_cases h1 : n.2.2 = true
  · have hg := hG.out
    rw [if_pos h1] at hg
    have HG := Aside0.mk (hG0.out.trans hg.symm)
    clear hg hG hG0
    rw [h1] at qb
    clear h1
    have hz := HZ.out _ hB
    have hB := HW.out _ hB
    go_wp2_with ((with_reducible refine gate_store (t := 37) (p := 2) (v := .tmp 24) rfl ?_); refine wpList_store_row rfl 37 (.tmp 2) (.tmp 24) rfl w.heap.size #[.string ⟨#[]⟩, .slice none 0 0, .int .i64 0, .slice none 0 0, .slice none 0 0] rfl rfl 37 _ hz (by rw [hi]; rfl) rfl (by kernel_rfl) ?_)
    refine bodyPost_ret (results_ct rfl _ _ w.heap.size 37 #[.string ⟨#[]⟩, .slice none 0 0, .int .i64 0, .slice none 0 0, .slice none 0 0] (0, 0) _ rfl (setRow_heap _ _ _ _ _ _ hz) Tryd.underlying37 rfl hi) rfl ?_
    exact RefPost.zero (v := .bool true) HG.out rfl (below_setRow hB (Nat.le_refl _) _)
  · have hg := hG.out
    rw [if_neg h1] at hg
    replace hG := Aside0.mk hg
    clear hg
    replace h1 : n.2.2 = false := by simpa using h1
    rw [h1] at qb
    clear h1
    by_cases h1 : n.1 > 8
    · have hg := hG.out
      rw [if_pos h1] at hg
      have HG := Aside0.mk (hG0.out.trans hg.symm)
      clear hg hG hG0
      have hz := HZ.out _ hB
      have hB := HW.out _ hB
      go_wp2_with ((with_reducible refine gate_store (t := 37) (p := 2) (v := .tmp 27) rfl ?_); refine wpList_store_row rfl 37 (.tmp 2) (.tmp 27) rfl w.heap.size #[.string ⟨#[]⟩, .slice none 0 0, .int .i64 0, .slice none 0 0, .slice none 0 0] rfl rfl 37 _ hz (by rw [hi]; rfl) rfl (by kernel_rfl) ?_)
      refine bodyPost_ret (results_ct rfl _ _ w.heap.size 37 #[.string ⟨#[]⟩, .slice none 0 0, .int .i64 0, .slice none 0 0, .slice none 0 0] (0, 0) _ rfl (setRow_heap _ _ _ _ _ _ hz) Tryd.underlying37 rfl hi) rfl ?_
      exact RefPost.zero (v := .bool true) HG.out rfl (below_setRow hB (Nat.le_refl _) _)
    · have hg := hG.out
      rw [if_neg h1] at hg
      replace hG := Aside0.mk hg
      clear hg
      go_wp2_with fail
      refine (HP.out (by omega) w7.heap.size w7 _ hI hB).mono ?_
      (try clear fz fc)
      (try clear qb)
      rintro e wn ⟨v0, rfl, ho, hI', hB', hk⟩
      have hsz := hB.size
      clear hI hB
      have hI := hI'
      have hB := hB'
      clear hI' hB'
      obtain ⟨AP, cP, rfl, hlP, _⟩ := Kd.R_reads ho
      replace hx := hk.blk hx hgb.symm (by simp)
      clear hk
      clear h1
      have RwP := Aside0.mk (Kd.R_lower (Kd.R_mono (Kd.R_types (hI.apart ho (by decide)) hx (by decide)) (fun k h => (⟨h.1.2, h.2⟩ : k ≠ w7.heap.size ∧ k ≠ w7.heap.size + 1))) hsz)
      clear ho hsz
      have fz := blk_frozen hx 1
      have fc := (blk_cell hx 1).trans rfl
      replace hI := hI.far (p := ⟨w7.heap.size + 1, 1, none⟩) hgb (.slice AP p.1.length cP)
      replace hB := below_set (j := 1) (v := .slice AP p.1.length cP) hB hgb7
      replace hx := blk_put (cs' := #[.string t.1, .slice AP p.1.length cP, .int .i64 0, .slice none 0 0, .slice none 0 0]) hx 1 (.slice AP p.1.length cP) rfl
      replace RwP := Aside0.mk (Kd.R_far (p := ⟨w7.heap.size + 1, 1, none⟩) RwP.out (fun k h => h.2) (.slice AP p.1.length cP))
      go_wp2_with fail
      refine (HR.out w7.heap.size w7 _ hI hB).mono ?_
      (try clear fz fc)
      (try clear qb)
      rintro e wn ⟨rfl, hI', hB', hk⟩
      have hsz := hB.size
      clear hI hB
      have hI := hI'
      have hB := hB'
      clear hI' hB'
      clear hsz
      replace hx := hk.blk hx hgb.symm (by simp)
      replace RwP := Aside0.mk (Kd.R_keep RwP.out hk (fun k h => h.1))
      clear hk
      have fz := blk_frozen hx 2
      have fc := (blk_cell hx 2).trans rfl
      replace hI := hI.far (p := ⟨w7.heap.size + 1, 2, none⟩) hgb (.int .i64 r.1)
      replace hB := below_set (j := 2) (v := .int .i64 r.1) hB hgb7
      replace hx := blk_put (cs' := #[.string t.1, .slice AP p.1.length cP, .int .i64 r.1, .slice none 0 0, .slice none 0 0]) hx 2 (.int .i64 r.1) rfl
      replace RwP := Aside0.mk (Kd.R_far (p := ⟨w7.heap.size + 1, 2, none⟩) RwP.out (fun k h => h.2) (.int .i64 r.1))
      go_wp2_with fail
      refine (HM.out w7.heap.size w7 _ hI hB).mono ?_
      (try clear fz fc)
      (try clear qb)
      rintro e wn ⟨rfl, hI', hB', hk⟩
      have hsz := hB.size
      clear hI hB
      have hI := hI'
      have hB := hB'
      clear hI' hB'
      clear hsz
      replace hx := hk.blk hx hgb.symm (by simp)
      replace RwP := Aside0.mk (Kd.R_keep RwP.out hk (fun k h => h.1))
      clear hk
      have qb := rd_bad hI
      by_cases h1 : m.2.2 = true
      · have hg := hG.out
        rw [if_pos h1] at hg
        have HG := Aside0.mk (hG0.out.trans hg.symm)
        clear hg hG hG0
        rw [h1] at qb
        clear h1
        have hz := HZ.out _ hB
        have hB := HW.out _ hB
        go_wp2_with ((with_reducible refine gate_store (t := 37) (p := 2) (v := .tmp 41) rfl ?_); refine wpList_store_row rfl 37 (.tmp 2) (.tmp 41) rfl w.heap.size #[.string ⟨#[]⟩, .slice none 0 0, .int .i64 0, .slice none 0 0, .slice none 0 0] rfl rfl 37 _ hz (by rw [hi]; rfl) rfl (by kernel_rfl) ?_)
        refine bodyPost_ret (results_ct rfl _ _ w.heap.size 37 #[.string ⟨#[]⟩, .slice none 0 0, .int .i64 0, .slice none 0 0, .slice none 0 0] (0, 0) _ rfl (setRow_heap _ _ _ _ _ _ hz) Tryd.underlying37 rfl hi) rfl ?_
        exact RefPost.zero (v := .bool true) HG.out rfl (below_setRow hB (Nat.le_refl _) _)
      · have hg := hG.out
        rw [if_neg h1] at hg
        replace hG := Aside0.mk hg
        clear hg
        replace h1 : m.2.2 = false := by simpa using h1
        rw [h1] at qb
        clear h1
        by_cases h1 : m.1 > 1024
        · have hg := hG.out
          rw [if_pos h1] at hg
          have HG := Aside0.mk (hG0.out.trans hg.symm)
          clear hg hG hG0
          have hz := HZ.out _ hB
          have hB := HW.out _ hB
          go_wp2_with ((with_reducible refine gate_store (t := 37) (p := 2) (v := .tmp 44) rfl ?_); refine wpList_store_row rfl 37 (.tmp 2) (.tmp 44) rfl w.heap.size #[.string ⟨#[]⟩, .slice none 0 0, .int .i64 0, .slice none 0 0, .slice none 0 0] rfl rfl 37 _ hz (by rw [hi]; rfl) rfl (by kernel_rfl) ?_)
          refine bodyPost_ret (results_ct rfl _ _ w.heap.size 37 #[.string ⟨#[]⟩, .slice none 0 0, .int .i64 0, .slice none 0 0, .slice none 0 0] (0, 0) _ rfl (setRow_heap _ _ _ _ _ _ hz) Tryd.underlying37 rfl hi) rfl ?_
          exact RefPost.zero (v := .bool true) HG.out rfl (below_setRow hB (Nat.le_refl _) _)
        · have hg := hG.out
          rw [if_neg h1] at hg
          replace hG := Aside0.mk hg
          clear hg
          go_wp2_with fail
          refine (HK.out (by omega) w7.heap.size w7 _ hI hB).mono ?_
          (try clear fz fc)
          (try clear qb)
          rintro e wn ⟨v0, rfl, ho, hI', hB', hk⟩
          have hsz := hB.size
          clear hI hB
          have hI := hI'
          have hB := hB'
          clear hI' hB'
          obtain ⟨AL, cL, rfl, hlL, _⟩ := Kd.R_reads ho
          replace hx := hk.blk hx hgb.symm (by simp)
          replace RwP := Aside0.mk (Kd.R_keep RwP.out hk (fun k h => h.1))
          clear hk
          clear h1
          have RwL := Aside0.mk (Kd.R_lower (Kd.R_mono (Kd.R_types (hI.apart ho (by decide)) hx (by decide)) (fun k h => (⟨h.1.2, h.2⟩ : k ≠ w7.heap.size ∧ k ≠ w7.heap.size + 1))) hsz)
          clear ho hsz
          have fz := blk_frozen hx 3
          have fc := (blk_cell hx 3).trans rfl
          replace hI := hI.far (p := ⟨w7.heap.size + 1, 3, none⟩) hgb (.slice AL l.1.length cL)
          replace hB := below_set (j := 3) (v := .slice AL l.1.length cL) hB hgb7
          replace hx := blk_put (cs' := #[.string t.1, .slice AP p.1.length cP, .int .i64 r.1, .slice AL l.1.length cL, .slice none 0 0]) hx 3 (.slice AL l.1.length cL) rfl
          replace RwP := Aside0.mk (Kd.R_far (p := ⟨w7.heap.size + 1, 3, none⟩) RwP.out (fun k h => h.2) (.slice AL l.1.length cL))
          replace RwL := Aside0.mk (Kd.R_far (p := ⟨w7.heap.size + 1, 3, none⟩) RwL.out (fun k h => h.2) (.slice AL l.1.length cL))
          go_wp2_with fail
          refine (HQ.out w7.heap.size w7 _ hI hB).mono ?_
          (try clear fz fc)
          (try clear qb)
          rintro e wn ⟨rfl, hI', hB', hk⟩
          have hsz := hB.size
          clear hI hB
          have hI := hI'
          have hB := hB'
          clear hI' hB'
          clear hsz
          replace hx := hk.blk hx hgb.symm (by simp)
          replace RwP := Aside0.mk (Kd.R_keep RwP.out hk (fun k h => h.1))
          replace RwL := Aside0.mk (Kd.R_keep RwL.out hk (fun k h => h.1))
          clear hk
          have qb := rd_bad hI
          by_cases h1 : q.2.2 = true
          · have hg := hG.out
            rw [if_pos h1] at hg
            have HG := Aside0.mk (hG0.out.trans hg.symm)
            clear hg hG hG0
            rw [h1] at qb
            clear h1
            have hz := HZ.out _ hB
            have hB := HW.out _ hB
            go_wp2_with ((with_reducible refine gate_store (t := 37) (p := 2) (v := .tmp 55) rfl ?_); refine wpList_store_row rfl 37 (.tmp 2) (.tmp 55) rfl w.heap.size #[.string ⟨#[]⟩, .slice none 0 0, .int .i64 0, .slice none 0 0, .slice none 0 0] rfl rfl 37 _ hz (by rw [hi]; rfl) rfl (by kernel_rfl) ?_)
            refine bodyPost_ret (results_ct rfl _ _ w.heap.size 37 #[.string ⟨#[]⟩, .slice none 0 0, .int .i64 0, .slice none 0 0, .slice none 0 0] (0, 0) _ rfl (setRow_heap _ _ _ _ _ _ hz) Tryd.underlying37 rfl hi) rfl ?_
            exact RefPost.zero (v := .bool true) HG.out rfl (below_setRow hB (Nat.le_refl _) _)
          · have hg := hG.out
            rw [if_neg h1] at hg
            replace hG := Aside0.mk hg
            clear hg
            replace h1 : q.2.2 = false := by simpa using h1
            rw [h1] at qb
            clear h1
            by_cases h1 : q.1 > 16384
            · have hg := hG.out
              rw [if_pos h1] at hg
              have HG := Aside0.mk (hG0.out.trans hg.symm)
              clear hg hG hG0
              have hz := HZ.out _ hB
              have hB := HW.out _ hB
              go_wp2_with ((with_reducible refine gate_store (t := 37) (p := 2) (v := .tmp 58) rfl ?_); refine wpList_store_row rfl 37 (.tmp 2) (.tmp 58) rfl w.heap.size #[.string ⟨#[]⟩, .slice none 0 0, .int .i64 0, .slice none 0 0, .slice none 0 0] rfl rfl 37 _ hz (by rw [hi]; rfl) rfl (by kernel_rfl) ?_)
              refine bodyPost_ret (results_ct rfl _ _ w.heap.size 37 #[.string ⟨#[]⟩, .slice none 0 0, .int .i64 0, .slice none 0 0, .slice none 0 0] (0, 0) _ rfl (setRow_heap _ _ _ _ _ _ hz) Tryd.underlying37 rfl hi) rfl ?_
              exact RefPost.zero (v := .bool true) HG.out rfl (below_setRow hB (Nat.le_refl _) _)
            · have hg := hG.out
              rw [if_neg h1] at hg
              replace hG := Aside0.mk hg
              clear hg
              go_wp2_with fail
              refine (HX.out w7.heap.size w7 _ hI hB).mono ?_
              (try clear fz fc)
              (try clear qb)
              rintro e wn ⟨Ax, cx, rfl, hCx, hlx, hI', hB', hk⟩
              have hsz := hB.size
              clear hI hB
              have hI := hI'
              have hB := hB'
              clear hI' hB'
              clear hsz
              replace hx := hk.blk hx hgb.symm (by simp)
              replace RwP := Aside0.mk (Kd.R_keep RwP.out hk (fun k h => h.1))
              replace RwL := Aside0.mk (Kd.R_keep RwL.out hk (fun k h => h.1))
              clear hk
              clear h1
              replace hCx := Aside0.mk hCx
              have qb := rd_bad hI
              by_cases h1 : x.2.2 = true
              · have hg := hG.out
                rw [if_pos h1] at hg
                have HG := Aside0.mk (hG0.out.trans hg.symm)
                clear hg hG hG0
                rw [h1] at qb
                clear h1
                have hz := HZ.out _ hB
                have hB := HW.out _ hB
                go_wp2_with ((with_reducible refine gate_store (t := 37) (p := 2) (v := .tmp 67) rfl ?_); refine wpList_store_row rfl 37 (.tmp 2) (.tmp 67) rfl w.heap.size #[.string ⟨#[]⟩, .slice none 0 0, .int .i64 0, .slice none 0 0, .slice none 0 0] rfl rfl 37 _ hz (by rw [hi]; rfl) rfl (by kernel_rfl) ?_)
                refine bodyPost_ret (results_ct rfl _ _ w.heap.size 37 #[.string ⟨#[]⟩, .slice none 0 0, .int .i64 0, .slice none 0 0, .slice none 0 0] (0, 0) _ rfl (setRow_heap _ _ _ _ _ _ hz) Tryd.underlying37 rfl hi) rfl ?_
                exact RefPost.zero (v := .bool true) HG.out rfl (below_setRow hB (Nat.le_refl _) _)
              · have hg := hG.out
                rw [if_neg h1] at hg
                replace hG := Aside0.mk hg
                clear hg
                replace h1 : x.2.2 = false := by simpa using h1
                rw [h1] at qb
                clear h1
                go_wp2_with fail
                refine (HD.out Ax cx _ (Kd.C_below hCx.out hB) hlx).mono ?_
                clear qb
                rintro e wc ⟨v0, rfl, ho, hb⟩
                obtain ⟨AC, cC, rfl, hlC, _⟩ := Kd.R_reads ho
                have hsz := hB.size
                replace hI := hI.below hb
                replace hB := below_then hB hB.size hb
                replace hx := (hb.block _ (blk_lt hx)).trans hx
                replace RwP := Aside0.mk (Kd.R_below RwP.out hb)
                replace RwL := Aside0.mk (Kd.R_below RwL.out hb)
                have RwC := Aside0.mk (Kd.R_lower (Kd.R_mono (Kd.R_types (hI.apart ho (by decide)) hx (by decide)) (fun k h => (⟨h.1.2, h.2⟩ : k ≠ w7.heap.size ∧ k ≠ w7.heap.size + 1))) hsz)
                clear ho hsz HD hCx hlx hb
                by_cases h1 : ¬ c.2.2 = 0
                · have hg := hG.out
                  rw [if_pos h1] at hg
                  have HG := Aside0.mk (hG0.out.trans hg.symm)
                  clear hg hG hG0
                  have hz := HZ.out _ hB
                  have hB := HW.out _ hB
                  go_wp2_with ((with_reducible refine gate_store (t := 37) (p := 2) (v := .tmp 76) rfl ?_); refine wpList_store_row rfl 37 (.tmp 2) (.tmp 76) rfl w.heap.size #[.string ⟨#[]⟩, .slice none 0 0, .int .i64 0, .slice none 0 0, .slice none 0 0] rfl rfl 37 _ hz (by rw [hi]; rfl) rfl (by kernel_rfl) ?_)
                  refine bodyPost_ret (results_ct rfl _ _ w.heap.size 37 #[.string ⟨#[]⟩, .slice none 0 0, .int .i64 0, .slice none 0 0, .slice none 0 0] (0, 0) _ rfl (setRow_heap _ _ _ _ _ _ hz) Tryd.underlying37 rfl hi) rfl ?_
                  exact RefPost.zero (v := .bool true) HG.out rfl (below_setRow hB (Nat.le_refl _) _)
                · have hg := hG.out
                  rw [if_neg h1] at hg
                  replace hG := Aside0.mk hg
                  clear hg
                  replace h1 : c.2.2 = 0 := by simpa using h1
                  rw [h1]
                  clear h1
                  obtain ⟨Al, nl, cl, ql, hnl⟩ := rd_left hI
                  by_cases h1 : (b.length : Int) - x.2.1 > 0
                  · have hg := hG.out
                    rw [if_pos h1] at hg
                    have HG := Aside0.mk (hG0.out.trans hg.symm)
                    clear hg hG hG0
                    replace h1 : (nl : Int) > 0 := by omega
                    clear hnl
                    have hz := HZ.out _ hB
                    have hB := HW.out _ hB
                    go_wp2_with ((with_reducible refine gate_store (t := 37) (p := 2) (v := .tmp 84) rfl ?_); refine wpList_store_row rfl 37 (.tmp 2) (.tmp 84) rfl w.heap.size #[.string ⟨#[]⟩, .slice none 0 0, .int .i64 0, .slice none 0 0, .slice none 0 0] rfl rfl 37 _ hz (by rw [hi]; rfl) rfl (by kernel_rfl) ?_)
                    refine bodyPost_ret (results_ct rfl _ _ w.heap.size 37 #[.string ⟨#[]⟩, .slice none 0 0, .int .i64 0, .slice none 0 0, .slice none 0 0] (0, 0) _ rfl (setRow_heap _ _ _ _ _ _ hz) Tryd.underlying37 rfl hi) rfl ?_
                    exact RefPost.zero (v := .bool true) HG.out rfl (below_setRow hB (Nat.le_refl _) _)
                  · have hg := hG.out
                    rw [if_neg h1] at hg
                    replace hG := Aside0.mk hg
                    clear hg
                    replace h1 : ¬ (nl : Int) > 0 := by omega
                    clear hnl
                    have fz := blk_frozen hx 4
                    have fc := (blk_cell hx 4).trans rfl
                    replace hI := hI.far (p := ⟨w7.heap.size + 1, 4, none⟩) hgb (.slice AC c.1.length cC)
                    replace hB := below_set (j := 4) (v := .slice AC c.1.length cC) hB hgb7
                    replace hx := blk_put (cs' := #[.string t.1, .slice AP p.1.length cP, .int .i64 r.1, .slice AL l.1.length cL, .slice AC c.1.length cC]) hx 4 (.slice AC c.1.length cC) rfl
                    replace RwP := Aside0.mk (Kd.R_far (p := ⟨w7.heap.size + 1, 4, none⟩) RwP.out (fun k h => h.2) (.slice AC c.1.length cC))
                    replace RwL := Aside0.mk (Kd.R_far (p := ⟨w7.heap.size + 1, 4, none⟩) RwL.out (fun k h => h.2) (.slice AC c.1.length cC))
                    replace RwC := Aside0.mk (Kd.R_far (p := ⟨w7.heap.size + 1, 4, none⟩) RwC.out (fun k h => h.2) (.slice AC c.1.length cC))
                    have q0 := (blk_cell hx 0).trans rfl
                    have q1 := (blk_cell hx 1).trans rfl
                    have q2 := (blk_cell hx 2).trans rfl
                    have q3 := (blk_cell hx 3).trans rfl
                    have q4 := (blk_cell hx 4).trans rfl
                    have hz := HZ.out _ hB
                    have hBw := HW.out _ hB
                    go_wp2_with ((with_reducible refine gate_store (t := 37) (p := 2) (v := .tmp 87) rfl ?_); refine wpList_store_row rfl 37 (.tmp 2) (.tmp 87) rfl w.heap.size #[.string t.1, .slice AP p.1.length cP, .int .i64 r.1, .slice AL l.1.length cL, .slice AC c.1.length cC] rfl rfl 37 _ hz (by rw [hi]; rfl) rfl (by kernel_rfl) ?_)
                    refine bodyPost_ret (results_ct rfl _ _ w.heap.size 37 #[.string t.1, .slice AP p.1.length cP, .int .i64 r.1, .slice AL l.1.length cL, .slice AC c.1.length cC] (0, 0) _ rfl (setRow_heap _ _ _ _ _ _ hz) Tryd.underlying37 rfl hi) rfl ?_
                    have HG := hG0.out.trans hG.out.symm
                    have rP := (Kd.R_reads' (Kd.R_keep (Kd.R_types RwP.out hz (by decide)) (keep_setRow _ w.heap.size #[.string t.1, .slice AP p.1.length cP, .int .i64 r.1, .slice AL l.1.length cL, .slice AC c.1.length cC]) (fun k h => h.2))).2.2
                    have rL := (Kd.R_reads' (Kd.R_keep (Kd.R_types RwL.out hz (by decide)) (keep_setRow _ w.heap.size #[.string t.1, .slice AP p.1.length cP, .int .i64 r.1, .slice AL l.1.length cL, .slice AC c.1.length cC]) (fun k h => h.2))).2.2
                    have rC := (Kd.R_reads' (Kd.R_keep (Kd.R_types RwC.out hz (by decide)) (keep_setRow _ w.heap.size #[.string t.1, .slice AP p.1.length cP, .int .i64 r.1, .slice AL l.1.length cL, .slice AC c.1.length cC]) (fun k h => h.2))).2.2
                    refine ⟨⟨t.1, AP, cP, p.1, r.1, AL, cL, l.1, AC, cC, c.1.map conv⟩, ?_, ⟨rP, hlP, rL, hlL, ?_, ?_⟩, by rw [HG], below_setRow hBw (Nat.le_refl _) _⟩
                    · rw [HG]
                      simp only [UR.cells, List.length_map]
                      rfl
                    · have := C_conv rC
                      rw [List.length_map]
                      exact this
                    · rw [List.length_map]
                      exact hlC
end Go.Proofs.YthbcliofjfhmbaaDoor.Given
end

section
/- The walk of UnitGets: for any bytes its call returns true; the operations' table as the program lays it. -/
namespace Go.Proofs.YthbcliofjfhmbaaDoor.UPure
open Go Go.RowKit Go.Proofs.YthbcliofjfhmbaaDoor.PUni Go.Proofs.YthbcliofjfhmbaaDoor.Given Go.Proofs.YthbcliofjfhmbaaDoorW.PrintWords Go.Proofs.YthbcliofjfhmbaaDoorW.PrintLast Go.Proofs.YthbcliofjfhmbaaDoorW.PrintMore
set_option linter.unusedVariables false
set_option linter.unusedSimpArgs false
theorem getR_lim (b : List Int) (hb : ∀ x ∈ b, 0 ≤ x ∧ x < 256) (hl : b.length ≤ 2000) (v : UR) (h2 : (v.n, v.P, v.R, v.L, v.C) = (getR b).1) : v.P.length ≤ 10000 ∧ v.L.length ≤ 10000 ∧ v.C.length ≤ 10000 := by
  by_cases h0 : (getR b).2 = 0
  · have hi := get_inv b hb (by omega) (getR b).1 (Prod.ext rfl h0)
    rw [← h2] at hi
    dsimp only at hi
    have hnl := (fits_allR hi.1).1
    have hpl := putB_len v.n v.P v.R v.L v.C hnl
    rw [hi.2] at hpl
    omega
  · have hz : (getR b).1 = zeroU := get_zero b h0
    rw [hz] at h2
    obtain ⟨vn, A1, c1, vP, vR, A3, c3, vL, A4, c4, vC⟩ := v
    dsimp only at h2
    obtain ⟨h3, h4, h5, h6, h7⟩ : vn = ⟨#[]⟩ ∧ vP = [] ∧ vR = 0 ∧ vL = [] ∧ vC = [] := by
      simp only [zeroU, Prod.mk.injEq] at h2
      exact h2
    subst h3 h4 h5 h6 h7
    simp
theorem rsame_c2 (u v : UR) (w : World) (h : u.Ok w) (h' : v.Ok w) (h1 : u.P.length ≤ 10000) (h2 : u.L.length ≤ 10000) (h3 : u.C.length ≤ 10000) : Calls Tryd.prog 26 #[.agg u.cells, .agg v.cells] w fun e w' => e = .returned (.bool (u.same v)) ∧ Below w.heap.size w w' :=
  ladderbackref15_Same.calls 10001 u.n u.A1 u.c1 u.P u.R u.A3 u.c3 u.L u.A4 u.c4 u.C v.n v.A1 v.c1 v.P v.R v.A3 v.c3 v.L v.A4 v.c4 v.C (u.same v) w h.p h.pl h.l h.ll h.c h.cl h'.p h'.pl h'.l h'.ll h'.c h'.cl (rsame_is u.n u.P u.R u.L u.C v.n v.P v.R v.L v.C h1 h2 h3 10001 (Nat.le_refl _))
theorem same_of_eq (u v : UR) (X : UD) (h : (u.n, u.P, u.R, u.L, u.C) = X) (h' : (v.n, v.P, v.R, v.L, v.C) = X) : u.same v = true := by
  have h := h.trans h'.symm
  obtain ⟨un, A1, c1, uP, uR, A3, c3, uL, A4, c4, uC⟩ := u
  obtain ⟨vn, B1, d1, vP, vR, B3, d3, vL, B4, d4, vC⟩ := v
  dsimp only at h
  simp only [Prod.mk.injEq] at h
  obtain ⟨rfl, rfl, rfl, rfl, rfl⟩ := h
  exact sameU_self _ _ _ _ _
set_option maxHeartbeats 4000000 in
set_option maxRecDepth 100000 in
theorem unitGets_w (A : Option Addr) (c : Nat) (b : List Int) (w : World) (hr0 : Kd.C (Kd.int .u8) w A b.length b) (hc0 : b.length ≤ c) (hbb : ∀ x ∈ b, 0 ≤ x ∧ x < 256) (hL : LaidOps w) :
    Calls Tryd.prog 7 #[.slice A b.length c] w fun e w' => e = .returned (.bool true) ∧ Below w.heap.size w w' := by
  have hi : (Tryd.prog.info? 37).map (·.size) = some 5 := by kernel_rfl
  have HL := Aside0.mk hL
  have HC := Aside0.mk hc0
  have HC0 := Aside0.mk hr0
  have HBB := Aside0.mk hbb
  clear hL hr0 hc0 hbb
  have step : ∀ {W W2 : World}, Below w.heap.size w W → Below W.heap.size W W2 → Below w.heap.size w W2 := fun h h2 => h.trans (h2.mono h.size)
  by_cases hlen : (b.length : Int) > 2000
  · go_enter Tryd.func7, Tryd.ntmps7
    go_wp2_with fail
    refine (awake_c _ HL.out).mono ?_
    rintro e w2 ⟨rfl, hb2⟩
    go_wp2
    go_ret
    exact ⟨rfl, hb2⟩
  · have HLN := Aside0.mk hlen
    have P1 := Aside0.mk (show ∀ W, Kd.C (Kd.int .u8) W A b.length b → LaidOps W → Calls Tryd.prog 27 #[.slice A b.length c] W fun e w' => GetPost b W e w' from fun W h h2 => get_calls A c b W h HC.out (by omega) (okB_of HBB.out (by omega)) h2)
    have P2 := Aside0.mk (show ∀ W, Kd.C (Kd.int .u8) W A b.length b → Calls Tryd.prog 28 #[.slice A b.length c] W fun e w' => RefPost b W e w' from fun W h => rget_calls A c b W h HC.out (by omega) (okB_of HBB.out (by omega)))
    have P3 := Aside0.mk (show ∀ (u v : UR) (W : World), u.Ok W → v.Ok W → (u.n, u.P, u.R, u.L, u.C) = (getR b).1 → (v.n, v.P, v.R, v.L, v.C) = (getR b).1 → Calls Tryd.prog 26 #[.agg u.cells, .agg v.cells] W fun e w' => e = .returned (.bool true) ∧ Below W.heap.size W w' from fun u v W h h' e e' => by
      have hl := getR_lim b HBB.out (by omega) u e
      rw [← same_of_eq u v _ e e']
      exact rsame_c2 u v W h h' hl.1 hl.2.1 hl.2.2)
    have HR := Aside0.mk (ref_get b HBB.out (by omega))
    go_enter Tryd.func7, Tryd.ntmps7
    go_wp2_with fail
    refine (P1.out _ HC0.out HL.out).mono ?_
    rintro e w4 ⟨u, rfl, hu, hue, hb4⟩
    have hz0 := heap_alloc_new w4 (.cells #[.string ⟨#[]⟩, .slice none 0 0, .int .i64 0, .slice none 0 0, .slice none 0 0] 37)
    have hg5 := setRow_heap _ _ _ u.cells _ _ hz0
    have hB5 := below_setRow ((Below.refl w4.heap.size w4).alloc (Nat.le_refl _) (.cells #[.string ⟨#[]⟩, .slice none 0 0, .int .i64 0, .slice none 0 0, .slice none 0 0] 37)) (Nat.le_refl w4.heap.size) u.cells
    have HU := Aside0.mk hu
    have HE := Aside0.mk hue
    have HB4 := Aside0.mk hb4
    have HC1 := Aside0.mk (Kd.C_below HC0.out hb4)
    clear hu hue hb4 HC0
    go_wp2_with ((with_reducible refine gate_store (t := 37) (p := 3) (v := .tmp 14) rfl ?_); refine wpList_store_row rfl 37 (.tmp 3) (.tmp 14) rfl w4.heap.size u.cells rfl rfl 37 _ hz0 (by rw [hi]; rfl) rfl (by kernel_rfl) ?_)
    have HB5 := Aside0.mk (step HB4.out hB5)
    have HC2 := Aside0.mk (Kd.C_below HC1.out hB5)
    have HU2 := Aside0.mk (HU.out.below hB5)
    have HG5 := Aside0.mk hg5
    generalize (w4.alloc (.cells #[.string ⟨#[]⟩, .slice none 0 0, .int .i64 0, .slice none 0 0, .slice none 0 0] 37)).setRow w4.heap.size u.cells = w5 at HB5 HC2 HU2 HG5 ⊢
    clear hz0 hg5 hB5 HB4 HC1 HU
    refine (P2.out _ HC2.out).mono ?_
    rintro e w6 ⟨v, rfl, hv, hve, hb6⟩
    rw [HR.out] at hve ⊢
    have hz0 := heap_alloc_new w6 (.cells #[.string ⟨#[]⟩, .slice none 0 0, .int .i64 0, .slice none 0 0, .slice none 0 0] 37)
    have hg7 := setRow_heap _ _ _ v.cells _ _ hz0
    have hB7 := below_setRow ((Below.refl w6.heap.size w6).alloc (Nat.le_refl _) (.cells #[.string ⟨#[]⟩, .slice none 0 0, .int .i64 0, .slice none 0 0, .slice none 0 0] 37)) (Nat.le_refl w6.heap.size) v.cells
    have hg6 := (hb6.block _ (blk_lt HG5.out)).trans HG5.out
    have hg8 := (hB7.block _ (blk_lt hg6)).trans hg6
    have HV := Aside0.mk (hv.below hB7)
    have HU3 := Aside0.mk ((HU2.out.below hb6).below hB7)
    have HVE := Aside0.mk hve
    have HB7 := Aside0.mk (step (step HB5.out hb6) hB7)
    obtain ⟨q0, q1, q2, q3, q4⟩ := cell_all hg7
    obtain ⟨r0, r1, r2, r3, r4⟩ := cell_all hg8
    clear hv hve hb6 HC2 HU2 HG5 HB5 hg6 hg7 hg8
    go_wp2_with ((with_reducible refine gate_store (t := 37) (p := 5) (v := .tmp 19) rfl ?_); refine wpList_store_row rfl 37 (.tmp 5) (.tmp 19) rfl w6.heap.size v.cells rfl rfl 37 _ hz0 (by rw [hi]; rfl) rfl (by kernel_rfl) ?_)
    refine (P3.out u v _ HU3.out HV.out HE.out HVE.out).mono ?_
    rintro e w8 ⟨rfl, hb8⟩
    have HB8 := Aside0.mk (step HB7.out hb8)
    clear HV HU3 HVE HB7 q0 q1 q2 q3 q4 r0 r1 r2 r3 r4 hz0 hB7 hb8
    generalize (getR b).2 = E
    go_wp2_with fail
    refine (awake_c _ (HL.out.below HB8.out)).mono ?_
    rintro e w9 ⟨rfl, hb9⟩
    have hb10 := step HB8.out hb9
    go_wp2
    go_ret
    exact ⟨rfl, hb10⟩
end Go.Proofs.YthbcliofjfhmbaaDoor.UPure
end

section
/- Slices of octets as data are lists of octets; no conditions. -/
namespace Go.Proofs.YthbcliofjfhmbaaDoor
open Go.Proofs.YthbcliofjfhmbaaDoorW.PrintWords
open Go.RowKit
theorem rd_octets : Bridge.Rdga Tryd.prog 22 (Kd.slice 5 (Kd.int .u8)) (fun l => ∀ a ∈ l, (Lit.int .u8 a).wf = true) := Bridge.Rdg.slicea Tryd.underlying22 (by kernel_rfl) (Bridge.Rdg.int Tryd.underlying5 (by kernel_rfl))
end Go.Proofs.YthbcliofjfhmbaaDoor
end

section
/- UnitGets over any bytes. -/
namespace Go.Proofs.YthbcliofjfhmbaaDoor
open Go Go.RowKit Go.Proofs.YthbcliofjfhmbaaDoorW.PrintWords Go.Proofs.YthbcliofjfhmbaaDoor.PUni Go.Proofs.YthbcliofjfhmbaaDoor.Given Go.Proofs.YthbcliofjfhmbaaDoor.UPure
set_option linter.unusedVariables false
theorem UnitGets_walk (A : Option Addr) (c : Nat) (b : List Int) (w : World) (h1 : Kd.C (Kd.int .u8) w A b.length b) (hc : b.length ≤ c) (wf1 : ∀ a ∈ b, (Lit.int .u8 a).wf = true) (hL : laidMetH Tryd.prog Rows.unitGetsRow.laid w) :
    Calls Tryd.prog 7 #[.slice A b.length c] w fun e w' => e = .returned (.bool true) ∧ Below w.heap.size w w' :=
  unitGets_w A c b w h1 hc (fun x hx => wf8 (wf1 x hx)) (UniRow.laidOps_of hL rfl (by simp [Rows.unitGetsRow]))
end Go.Proofs.YthbcliofjfhmbaaDoor
end

section
/- The law UnitGets holds for every input: the walk over its code shows that the call returns true and that what was read stays as it was; the row follows. The package-level tables that the code reads are tied to the program's text by the given tie. -/
namespace Go.Proofs.YthbcliofjfhmbaaDoor.unitGetsRw
open Go.ChangeShapes Go.WideShapes Go.ChangeAt Go.RowKit
open Go.ChangeMaps (open_string shut_string)
open Go.Proofs.YthbcliofjfhmbaaDoor.Bridge
set_option linter.unusedVariables false
set_option linter.unusedSimpArgs false
theorem own : ownKnob Tryd.prog.godebug = none := by kernel_rfl
theorem laidOut : laidOutB Tryd.prog = true := by kernel_rfl
theorem contract (H : Type) (enc : TypeId × Value → H) (W : World) (base : Nat) (args : Array Value) (ds gs : List (DataW H)) (before : List MemPlace)
    (hval : ∀ (j : Nat) t v, Tryd.f7.params[j]? = some t → args[j]? = some v → Value.okWide Tryd.prog W .any base t v)
    (hW : DataW.Whole enc Tryd.prog Tryd.f7.params.toList Rows.unitGetsSpec.vars false W args.toList ds gs before) (hsz : (DataW.weightsEach Tryd.prog (Tryd.f7.params.toList ++ Rows.unitGetsSpec.plain.varTypes Tryd.prog) (ds ++ gs)).all (· ≤ reachBytes) = true) (hL : laidMetH Tryd.prog Rows.unitGetsRow.laid W) :
    Calls Tryd.prog 7 args W fun e W' => ∃ v, e = .returned v ∧ Rows.unitGetsSpec.post enc Tryd.prog Tryd.f7 false true false false W args v W' := by
  have hW' := hW
  obtain ⟨p, q, hA0, hV, rfl, hfz, hnd⟩ := hW
  have hA : DataW.TrodAll enc Tryd.prog W 0 (fun _ => true) true Tryd.f7.params.toList args.toList ds p := hA0
  rw [Tryd.params7] at hA hval hsz
  obtain ⟨v0, vs0, d0, ds0, p0, q0, hargs, rfl, rfl, h0, r0⟩ := trodAll_cons hA
  obtain ⟨rfl, rfl, rfl⟩ := trodAll_nil r0
  obtain rfl : args = #[v0] := by cases args; simp_all
  obtain ⟨rfl, rfl⟩ := trodVars_none hV
  clear hA0
  have k0 := h0
  have lt0 : ∀ x ∈ p0, x.block < W.heap.size := by obtain ⟨m, hm⟩ := k0; exact DataW.trod_lt m _ _ _ hm
  obtain ⟨A0, len0, c0, rfl⟩ := okWide_slice Tryd.underlying22 (hval 0 22 v0 rfl rfl)
  obtain ⟨x0, hk0, wf0⟩ := Rdga.trod rd_octets h0
  obtain ⟨A0', c0', he0, hle0, hC0⟩ := hk0
  simp only [Value.cells, List.cons.injEq, Value.slice.injEq, and_true] at he0
  obtain ⟨rfl, rfl, rfl⟩ := he0
  refine (UnitGets_walk A0 c0 x0 W hC0 hle0 wf0 hL).mono fun e W' ⟨he, bel⟩ => ?_
  subst he
  exact ⟨_, rfl, _, _, _, [], _, [], hW', trodAll_mk1 (shut_bool Tryd.underlying4 _), (trodAll_cons_mk (Below.trod laidOut (by kernel_rfl) (of_decide_eq_true (by kernel_rfl)) k0 bel lt0) trodAll_mk0), rfl, bel.frame _, fun h => by cases h⟩
theorem laid_met (os : Os) : laidMetH Tryd.prog Rows.unitGetsRow.laid ((World.doorLaid Tryd.prog 4000 os).forCall (fun _ _ => 0) ⟨#[], #[.slice none 0 0], []⟩).memory :=
  laidMetH_of_parts3 (fuel := 12) (laidMet_of_run' 12 (by kernel_rfl) (by kernel_rfl)) (by kernel_rfl) (by kernel_rfl)
theorem reads (os : Os) {H : Type} (enc : TypeId × Value → H) : ∃ ds places, DataW.whole enc Tryd.prog ((World.doorLaid Tryd.prog 4000 os).forCall (fun _ _ => 0) ⟨#[], #[.slice none 0 0], []⟩).memory Tryd.f7.params.toList Rows.unitGetsSpec.vars false (#[.slice none 0 0] : Array Value).toList 8 = some (ds, [], places) :=
  ⟨[.nil], [], by kernel_rfl⟩
set_option maxRecDepth 100000 in
theorem lifted (os : Os) (started : os.Started) (H : Type) (enc : TypeId × Value → H) (F : Stop.Interp) :
    ReturnsInHanded {} Tryd.checked os 7 .any ((OpenSpec.ofChange Rows.unitGetsSpec).preRow enc Tryd.prog Tryd.f7 Rows.unitGetsRow.domain false Rows.unitGetsRow.laid) (((OpenSpec.ofChange Rows.unitGetsSpec).at F).post enc Tryd.prog Tryd.f7 false true false false) := by
  obtain ⟨ds, places, hx⟩ := reads os enc
  refine returnsInHanded_of_row (C := Tryd.checked) (s := OpenSpec.ofChange Rows.unitGetsSpec) own started (by kernel_rfl) Tryd.func7
    (witness_row_at (enc := enc) (C := Tryd.checked) false (World.doorLaid Tryd.prog 4000 os) #[.slice none 0 0] rfl (by kernel_rfl) (by kernel_rfl) (by kernel_rfl)
      (OpenSpec.preRow_of_cond 8 hx (by kernel_rfl) (fun k hk => by cases hk) (by kernel_rfl) (laid_met os))) ?_
  intro W base args ds gs before hval hW _ _ hsz hL _ _
  exact contract H enc W base args ds gs before hval hW hsz hL
theorem said : Rows.UnitGetsSaid :=
  OpenClaim.holds_of_cond 7 Tryd.f7 rfl rfl rfl rfl rfl rfl rfl ⟨rfl, rfl, rfl, rfl, rfl⟩ rfl rfl rfl rfl rfl (by kernel_rfl) Tryd.func7 (by kernel_rfl)
    (of_decide_eq_true (by kernel_rfl)) (by unfold Func.isWrapper; first | (rw [if_pos (by decide +kernel)]; kernel_rfl) | (rw [if_neg (by decide +kernel)]; exact ⟨rfl, rfl⟩))
    (fun os started H enc _ F => by rw [OpenClaim.pre_eq_preRow]; exact lifted os started H enc F)
theorem plain (f : FuncId) (fn : Func) (hf : Tryd.pinned.checked.prog.funcNamed "ladderback/ladderbacklaw15.UnitGets" = some f) (hfn : Tryd.pinned.checked.prog.funcs[f]? = some fn) :
    false = Tryd.pinned.checked.prog.looks [] ∧ ∀ (j : Nat) t, fn.params[j]? = some t → Tryd.pinned.checked.prog.wantsStandIn t = false := by
  obtain rfl : f = 7 := Option.some.inj ((show Tryd.prog.funcNamed "ladderback/ladderbacklaw15.UnitGets" = some 7 by kernel_rfl).symm.trans hf) |>.symm
  obtain rfl : fn = Tryd.f7 := (Option.some.inj (Tryd.func7.symm.trans hfn)).symm
  refine ⟨by kernel_rfl, fun j t ht => ?_⟩
  rw [Tryd.params7] at ht
  have hm : t ∈ [22] := by simpa using Array.mem_of_getElem? ht
  have hall : ([22].all fun u => !Tryd.prog.wantsStandIn u) = true := by kernel_rfl
  exact (show Tryd.prog.wantsStandIn t = false by simpa using List.all_eq_true.1 hall t hm)
theorem card : Rows.UnitGetsCardSaid :=
  Claim7.holds_tied_plain_at .later [] _ _ _ _ said (fun _ h => by cases h) (by kernel_rfl) (fun _ h => by cases h) unitGets_row_tie rfl ⟨rfl, rfl⟩ (by kernel_rfl) rfl plain (by kernel_rfl)
end Go.Proofs.YthbcliofjfhmbaaDoor.unitGetsRw
namespace Go.Proofs.YthbcliofjfhmbaaDoor
theorem unitGets_holds : Rows.UnitGetsCardSaid := unitGetsRw.card
#print axioms unitGets_holds
end Go.Proofs.YthbcliofjfhmbaaDoor
end
