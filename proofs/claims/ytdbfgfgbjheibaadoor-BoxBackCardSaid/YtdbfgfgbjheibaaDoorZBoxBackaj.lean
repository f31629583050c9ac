/- The numbers of a byte behind how many they are, plainly, as the program reads them; and what holds of a unit that is being read. -/
import Derived.Test.YtdbfgfgbjheibaaDoorZBoxBackq
import Derived.Deep.QuietTactic
import Derived.BigQuiet
import Derived.IntWalk
import Derived.Test.YtdbfgfgbjheibaaDoorProg
import Derived.Below
import Derived.Deep.Draws
import Derived.Deep.AppendLies
import Derived.Maps.AppendAt
import Derived.OwnWalk
import Derived.Laws.BytesArg
import Derived.Laws.MakeOwn
import Derived.Laws.OwnMore
import Derived.Deep.OwnRows
import Derived.Tactics
import Derived.Lib.ConvBytes
import Derived.Laws.Slices
import Derived.WalkKit
import Derived.KernelRfl
import Derived.RowKit3
import Derived.Deep.LoopGhost
import Derived.WideLaws
import Derived.Deep.DeepCutAuto
import Derived.Deep.CutBlock
import Derived.Deep.RegionHeld3
import Derived.Laws.Rows
import Derived.Lib.AppendStr
import Derived.ArgAppend
import Derived.Laws.IdiomCopy
import Derived.OrdersHeld
import Derived.Laws.BitsLemmas
import Derived.RowKit
import Derived.Test.YtdbfgfgbjheibaaDoorZBoxBackaa
import Derived.Test.YtdbfgfgbjheibaaDoorZBoxBackab
import Derived.Test.YtdbfgfgbjheibaaDoorZBoxBackai
section
/- The document's reader of octets: what it tells of the next bytes; any reader that is not past its end. -/
namespace Go.Proofs.YtdbfgfgbjheibaaDoor.Given
set_option linter.unusedVariables false
set_option linter.unusedSimpArgs false
open Go.RowKit Go.Proofs.YtdbfgfgbjheibaaDoorW.PrintWords Go.Proofs.YtdbfgfgbjheibaaDoorW.PrintLast Go.Proofs.YtdbfgfgbjheibaaDoorW.PrintMore
attribute [local go_sem] max2_int min2_int
/-- The cells of a document's reader of f0, that is at f1: what is left lies behind. -/
def CsF (w0 : World) (cs : Array Value) (f0 : List Int) (f1 : Int) (f2 : Bool) : Prop := ∃ a c, cs = #[.slice a (f0.drop f1.toNat).length c, .int .i64 f1, .bool f2] ∧ Kd.C (Kd.int .u8) w0 a (f0.drop f1.toNat).length (f0.drop f1.toNat) ∧ (f0.drop f1.toNat).length ≤ c ∧ 0 ≤ f1 ∧ f1 ≤ f0.length
/-- A state of this type at block g of W. -/
def IsS71 (w0 W : World) (g : Nat) (f0 : List Int) (f1 : Int) (f2 : Bool) : Prop := ∃ cs, W.heap[g]? = some (.cells cs 71 (0, 0)) ∧ w0.heap.size ≤ g ∧ CsF w0 cs f0 f1 f2
theorem IsS71.grown {w0 W : World} {g : Nat} {f0 : List Int} {f1 : Int} {f2 : Bool} {W1 : World} {row : Option Nat} (h : IsS71 w0 W g f0 f1 f2) (hw : W.grownBy W1 row) (hne : some g ≠ row) : IsS71 w0 W1 g f0 f1 f2 := by
 obtain ⟨cs, hb, hg, hx⟩ := h
 exact ⟨cs, blk_grown hb hw hne, hg, hx⟩
theorem IsS71.kept {w0 W : World} {g : Nat} {f0 : List Int} {f1 : Int} {f2 : Bool} {W1 : World} {S : Nat → Prop} (h : IsS71 w0 W g f0 f1 f2) (hk : Kept W W1 S) (hne : ¬ S g) : IsS71 w0 W1 g f0 f1 f2 := by
 obtain ⟨cs, hb, hg, hx⟩ := h
 exact ⟨cs, blk_kept hb hk hne, hg, hx⟩
theorem IsS71.below {w0 W : World} {g : Nat} {f0 : List Int} {f1 : Int} {f2 : Bool} {W1 : World} (h : IsS71 w0 W g f0 f1 f2) (hw : Below W.heap.size W W1) : IsS71 w0 W1 g f0 f1 f2 := h.grown (grown_of_below hw none) (by simp)
theorem IsS71.alloc {w0 W : World} {g : Nat} {f0 : List Int} {f1 : Int} {f2 : Bool} (h : IsS71 w0 W g f0 f1 f2) (o : Obj) : IsS71 w0 (W.alloc o) g f0 f1 f2 := h.below (zB (zX _ _) o)
theorem IsS71.drewN {w0 W : World} {g : Nat} {f0 : List Int} {f1 : Int} {f2 : Bool} (h : IsS71 w0 W g f0 f1 f2) (m : Nat) : IsS71 w0 (W.drewN m) g f0 f1 f2 := h
theorem IsS71.drew {w0 W : World} {g : Nat} {f0 : List Int} {f1 : Int} {f2 : Bool} (h : IsS71 w0 W g f0 f1 f2) : IsS71 w0 W.drew g f0 f1 f2 := h
theorem IsS71.at_ {w0 W : World} {g : Nat} {f0 : List Int} {f1 : Int} {f2 : Bool} {w' : World} {m : Nat} (hq : W.drewN m = w') (h : IsS71 w0 W g f0 f1 f2) : IsS71 w0 w' g f0 f1 f2 := by subst hq; exact IsS71.drewN h m
theorem IsS71.apart {w0 W : World} {g : Nat} {f0 : List Int} {f1 : Int} {f2 : Bool} {α : Type} {d : Kd α} {e : Nat} {base : Nat} {ok : Nat → Prop} {v : Value} {xs : List α} (h : IsS71 w0 W g f0 f1 f2) (ho : d.R e W base ok v xs) (ht : ∀ q, q ∈ e :: d.E → q ≠ 71) : d.R e W base (fun k => ok k ∧ k ≠ g) v xs := by
 obtain ⟨cs, hb, hg, hx⟩ := h
 exact Kd.R_types ho hb ht
theorem IsS71.own_ne {w0 W : World} {g : Nat} {f0 : List Int} {f1 : Int} {f2 : Bool} {α : Type} {d : Kd α} {e : Nat} {base : Nat} {ok : Nat → Prop} {v : Value} {xs : List α} (h : IsS71 w0 W g f0 f1 f2) (ho : d.R e W base ok v xs) (ht : e ≠ 71) : some g ≠ v.ownBlock := by
 obtain ⟨cs, hb, hg, hx⟩ := h
 exact Kd.R_ne ho hb ht
theorem IsS71.lt {w0 W : World} {g : Nat} {f0 : List Int} {f1 : Int} {f2 : Bool} (h : IsS71 w0 W g f0 f1 f2) : g < W.heap.size := by
 obtain ⟨cs, hb, hg, hx⟩ := h
 exact blk_lt hb
theorem IsS71.far {w0 W : World} {g : Nat} {f0 : List Int} {f1 : Int} {f2 : Bool} {p : Addr} (h : IsS71 w0 W g f0 f1 f2) (hne : g ≠ p.block) (u : Value) : IsS71 w0 (W.setCell p u) g f0 f1 f2 := by
 obtain ⟨cs, hb, hg, hx⟩ := h
 exact ⟨cs, blk_far hb hne u, hg, hx⟩
set_option maxHeartbeats 1000000 in
theorem rtake_ok (g : Nat) (w0 w : World) (b : List Int) (at_ : Int) (n : Int) (hI : IsS71 w0 w g b at_ false) (hB : Below w0.heap.size w0 w) (h0 : 0 ≤ n) (h1 : n ≤ b.length - at_) (hbl : b.length ≤ 1000000000) :
  Calls Tryd.prog 77 #[.pointer (some ⟨g, 0, none⟩), .int .i64 n] w fun e w' =>
   (∃ A c, e = .returned (.slice A n.toNat c) ∧ Kd.C (Kd.int .u8) w0 A n.toNat (cutR b at_ n) ∧ n.toNat ≤ c ∧ IsS71 w0 w' g b (at_ + n) false) ∧ Below w0.heap.size w0 w' ∧ KeepBut w w' g none := by
 obtain ⟨_, hb, hg, a, c, rfl, hr, hc, ha0, ha1⟩ := hI
 obtain ⟨L, hL⟩ : ∃ L, L = b.drop at_.toNat := ⟨_, rfl⟩
 have hLl : (L.length : Int) = b.length - at_ := by rw [hL]; simp; omega
 have hcut : cutR b at_ n = L.take n.toNat := by unfold cutR; rw [hL]
 have hnx : b.drop (at_ + n).toNat = L.drop n.toNat := by rw [hL, List.drop_drop]; congr 1; omega
 rw [← hL] at hb hr hc
 rw [hcut]
 have hD := Kd.C_drop (k := Kd.int .u8) (m := n.toNat) (c := c) hr (by omega) hc
 have hT := Kd.C_take (k := Kd.int .u8) (m := n.toNat) hr (by omega)
 rw [show (L.take n.toNat).length = n.toNat by simp; omega] at hT
 rw [show n.toNat * (Kd.int .u8).sz = n.toNat from Nat.mul_one _] at hD
 have HN := zA (show ∀ (W1 : World) (A' : Option Addr) (c' : Nat), W1.heap[g]? = some (.cells #[.slice A' (L.length - n.toNat) c', .int .i64 (at_ + n), .bool false] 71 (0, 0)) → (if c = n.toNat then a else a.map (·.add n.toNat)) = A' → c' = c - n.toNat → IsS71 w0 W1 g b (at_ + n) false by
  intro W1 A' c' hb1 hA hc'
  rw [hA] at hD
  refine ⟨_, hb1, hg, A', c', ?_, ?_, ?_, by omega, by omega⟩
  ·rw [hnx, zd]
  ·rw [hnx]; exact hD
  ·rw [hnx, zd]; omega)
 have HT := zA hT
 have hab : at_ + n ≤ 1000000000 := by omega
 have hwb : 0 ≤ at_ + n := by omega
 have hcm : n.toNat ≤ c := by omega
 clear hL hnx hD hT hcut
 have hK := KeepBut.refl w g none
 have hLb : L.length ≤ 9223372036854775807 := hr.2.1
 have c0 : w.cell? ⟨g, 0, none⟩ = some (.slice a L.length c) := (zC hb 0).trans rfl
 have c1 : w.cell? ⟨g, 1, none⟩ = some (.int .i64 at_) := (zC hb 1).trans rfl
 have c2 : w.cell? ⟨g, 2, none⟩ = some (.bool false) := (zC hb 2).trans rfl
 have f0 := zF hb 0
 have f1 := zF hb 1
 have f2 := zF hb 2
 have d0 : decide (n < 0) = false := decide_eq_false (by omega)
 have d1 : decide ((L.length : Int) < n) = false := decide_eq_false (by omega)
 go_enter Tryd.func77, Tryd.ntmps77
 go_wp2_with fail
 all_goals go_ret
 ·rename_i h
  refine ⟨⟨a, n.toNat, rfl, HT.out, by omega, HN.out _ a 0 (blk_put (blk_put hb 0 _ rfl) 1 _ rfl) (if_pos h) (by omega)⟩, zE (zE hB hg) hg, KeepBut.set_ (KeepBut.set_ hK 0 _) 1 _⟩
 ·rename_i h
  refine ⟨⟨a, c, rfl, HT.out, by omega, HN.out _ (a.map (·.add n.toNat)) (c - n.toNat) (blk_put (blk_put hb 0 _ rfl) 1 _ rfl) (if_neg h) rfl⟩, zE (zE hB hg) hg, KeepBut.set_ (KeepBut.set_ hK 0 _) 1 _⟩
set_option maxHeartbeats 1000000 in
theorem rtake_bad (g : Nat) (w0 w : World) (b : List Int) (at_ : Int) (bad : Bool) (n : Int) (hI : IsS71 w0 w g b at_ bad) (hB : Below w0.heap.size w0 w) (h : ¬ okR b at_ bad n) :
  Calls Tryd.prog 77 #[.pointer (some ⟨g, 0, none⟩), .int .i64 n] w fun e w' =>
   (e = .returned (.slice none 0 0) ∧ IsS71 w0 w' g b at_ true) ∧ Below w0.heap.size w0 w' ∧ KeepBut w w' g none := by
 unfold okR at h
 obtain ⟨_, hb, hg, a, c, rfl, hr, hc, ha0, ha1⟩ := hI
 have HX := zA (show ∀ W1 : World, W1.heap[g]? = some (.cells #[.slice a (b.drop at_.toNat).length c, .int .i64 at_, .bool true] 71 (0, 0)) → IsS71 w0 W1 g b at_ true from fun W1 hb1 => ⟨_, hb1, hg, a, c, rfl, hr, hc, ha0, ha1⟩)
 have hLl : (((b.drop at_.toNat).length : Nat) : Int) = b.length - at_ := by simp; omega
 generalize b.drop at_.toNat = L at *
 have hK := KeepBut.refl w g none
 have c0 : w.cell? ⟨g, 0, none⟩ = some (.slice a L.length c) := (zC hb 0).trans rfl
 have c2 : w.cell? ⟨g, 2, none⟩ = some (.bool bad) := (zC hb 2).trans rfl
 have f2 := zF hb 2
 have HF := zA hb
 cases bad
 ·by_cases h0 : n < 0
  ·have d0 : decide (n < 0) = true := decide_eq_true h0
   clear h hLl
   go_enter Tryd.func77, Tryd.ntmps77
   go_wp2_with fail
   go_ret
   exact ⟨⟨rfl, HX.out _ (blk_put HF.out 2 _ rfl)⟩, zE hB hg, KeepBut.set_ hK 2 _⟩
  ·have d0 : decide (n < 0) = false := decide_eq_false h0
   have h1 : (L.length : Int) < n := by by_cases h1 : n ≤ b.length - at_; exact absurd ⟨rfl, by omega, h1⟩ h; omega
   have d1 : decide ((L.length : Int) < n) = true := decide_eq_true h1
   clear h hLl
   go_enter Tryd.func77, Tryd.ntmps77
   go_wp2_with fail
   go_ret
   exact ⟨⟨rfl, HX.out _ (blk_put HF.out 2 _ rfl)⟩, zE hB hg, KeepBut.set_ hK 2 _⟩
 ·clear h hLl
  go_enter Tryd.func77, Tryd.ntmps77
  go_wp2_with fail
  go_ret
  exact ⟨⟨rfl, HX.out _ (blk_put HF.out 2 _ rfl)⟩, zE hB hg, KeepBut.set_ hK 2 _⟩
theorem held_calls (many : Int) (w : World) : Calls Tryd.prog 73 #[.int .i64 many] w fun e w' => e = .returned (.int .i64 (mx 0 (mn many 8))) ∧ w' = w := by
 by_cases h0 : many < 0
 ·rw [show mx 0 (mn many 8) = 0 by unfold mx mn; (repeat' split) <;> omega]
  go_enter Tryd.func73, Tryd.ntmps73
  go_wp2_with fail
  go_ret
  exact ⟨rfl, rfl⟩
 ·by_cases h8 : 8 < many
  ·rw [show mx 0 (mn many 8) = 8 by unfold mx mn; (repeat' split) <;> omega]
   go_enter Tryd.func73, Tryd.ntmps73
   go_wp2_with fail
   go_ret
   exact ⟨rfl, rfl⟩
  ·rw [show mx 0 (mn many 8) = many by unfold mx mn; (repeat' split) <;> omega]
   go_enter Tryd.func73, Tryd.ntmps73
   go_wp2_with fail
   go_ret
   exact ⟨rfl, rfl⟩
theorem leN_drop (L : List Int) (j : Nat) (h : j < L.length) : leN (L.drop j) = L[j] + 256 * leN (L.drop (j + 1)) := by
 rw [List.drop_eq_getElem_cons h]
 rfl
theorem leN_8 (L : List Int) (hb : ∀ x ∈ L, 0 ≤ x ∧ x < 256) (j : Nat) (hj : L.length ≤ j + 8) : 0 ≤ leN (L.drop j) ∧ leN (L.drop j) < 18446744073709551616 := by
 have h := leN_lim (L.drop j) (fun x hx => hb x (List.mem_of_mem_drop hx))
 have hp : (2 : Int) ^ (8 * (L.drop j).length) ≤ 2 ^ 64 := by
  have : 2 ^ (8 * (L.drop j).length) ≤ 2 ^ 64 := Nat.pow_le_pow_right (by decide) (by simp; omega)
  exact_mod_cast this
 refine ⟨h.1, ?_⟩
 have : (2 : Int) ^ 64 = 18446744073709551616 := rfl
 omega
set_option maxHeartbeats 2000000 in
theorem rnum_ok (g : Nat) (w0 w : World) (b : List Int) (at_ : Int) (many m : Int) (hm : mx 0 (mn many 8) = m) (L : List Int) (hL : L = cutR b at_ m) (hI : IsS71 w0 w g b at_ false) (hB : Below w0.heap.size w0 w) (h1 : m ≤ b.length - at_) (hb : ∀ x ∈ b, 0 ≤ x ∧ x < 256) (hbl : b.length ≤ 1000000000) (ha : 0 ≤ at_) :
  Calls Tryd.prog 41 #[.pointer (some ⟨g, 0, none⟩), .int .i64 many] w fun e w' =>
   (e = .returned (.int .i64 (wrap64 (leN L))) ∧ IsS71 w0 w' g b (at_ + m) false) ∧ Below w0.heap.size w0 w' ∧ KeepBut w w' g none := by
 have hm0 : 0 ≤ m := by rw [← hm]; unfold mx; split <;> omega
 have hm8 : m ≤ 8 := by rw [← hm]; unfold mx mn; (repeat' split) <;> omega
 have hH := zA (held_calls many w)
 rw [hm] at hH
 go_enter Tryd.func41, Tryd.ntmps41
 go_wp2_with fail
 refine hH.out.mono ?_
 rintro e w2 ⟨rfl, rfl⟩
 go_wp2_with fail
 refine (rtake_ok g w0 _ b at_ m hI hB hm0 h1 hbl).mono ?_
 rintro e w1 ⟨⟨A, c, rfl, hC, hc, hI1⟩, hB1, hK1⟩
 rw [← hL] at hC
 have hlen : L.length = m.toNat := by have := hC.1; omega
 have hcells : ∀ j : Nat, ∀ h : j < L.length, ∃ ad, A = some ad ∧ w1.cell? (ad.add j) = some (.int .u8 L[j]) := by
  intro j h
  obtain ⟨ad, e, hc⟩ := C_cells (zD hC hB1) (by omega)
  exact ⟨ad, e, hc j _ (by simp [nums, h])⟩
 have hrange : ∀ x ∈ L, 0 ≤ x ∧ x < 256 := by
  intro x hx
  rw [hL] at hx
  exact hb x (List.mem_of_mem_drop (List.mem_of_mem_take hx))
 have HL := zA hrange
 have HN := zA hlen
 have HC := zA hcells
 have HM := zA hm8
 clear hm h1 hL hb hrange hlen hcells hC hH ha hbl
 go_wp2_with fail
 go_loopw [6, 7] (fun x i wr => ∃ j : Nat, j ≤ m.toNat ∧ i = .int .i64 ((j : Int) - 1) ∧ x = .int .u64 (leN (L.drop j)) ∧ wr = w1) (fun _ i _ => (intOf i + 1).toNat)
 case atStart => exact ⟨m.toNat, z5 _, by congr 1; omega, by rw [List.drop_of_length_le (by have := HN.out; omega)]; rfl, rfl⟩
 case round =>
  obtain ⟨j, hj, rfl, rfl, rfl⟩ := hrel
  cases j with
  | zero =>
   go_wp2_with fail
   go_ret
   rw [List.drop_zero]
   exact ⟨⟨rfl, hI1⟩, hB1, hK1⟩
  | succ j =>
   have hlj : j < L.length := by have := HN.out; omega
   obtain ⟨ad, rfl, hce⟩ := HC.out j hlj
   have hx := HL.out _ (List.getElem_mem hlj)
   have hs := leN_drop L j hlj
   have h8 := leN_8 L HL.out j (by have := HN.out; omega)
   have h9 := leN_8 L HL.out (j + 1) (by have := HN.out; omega)
   generalize leN (L.drop (j + 1)) = v at *
   have hs := zA hs
   have h8 := zA h8
   rw [show ((j + 1 : Nat) : Int) - 1 = (j : Int) by omega]
   go_wp2_with fail
   refine ⟨⟨j, by omega, rfl, ?_, trivial⟩, by first | (simp [intOf]; done) | (simp [intOf]; omega)⟩
   rw [hs.out]
   congr 1
   omega
theorem rnum_bad (g : Nat) (w0 w : World) (b : List Int) (at_ : Int) (bad : Bool) (many m : Int) (hm : mx 0 (mn many 8) = m) (hI : IsS71 w0 w g b at_ bad) (hB : Below w0.heap.size w0 w) (h : ¬ okR b at_ bad m) :
  Calls Tryd.prog 41 #[.pointer (some ⟨g, 0, none⟩), .int .i64 many] w fun e w' =>
   (e = .returned (.int .i64 0) ∧ IsS71 w0 w' g b at_ true) ∧ Below w0.heap.size w0 w' ∧ KeepBut w w' g none := by
 have hH := zA (held_calls many w)
 rw [hm] at hH
 go_enter Tryd.func41, Tryd.ntmps41
 go_wp2_with fail
 refine hH.out.mono ?_
 rintro e w2 ⟨rfl, rfl⟩
 go_wp2_with fail
 refine (rtake_bad g w0 _ b at_ bad m hI hB h).mono ?_
 rintro e w1 ⟨⟨rfl, hI1⟩, hB1, hK1⟩
 go_wp2_with fail
 go_loopw [6, 7] (fun x i wr => i = .int .i64 (-1) ∧ x = .int .u64 0 ∧ wr = w1) (fun _ _ _ => 0)
 case atStart => exact ⟨rfl, rfl, rfl⟩
 case round =>
  obtain ⟨rfl, rfl, rfl⟩ := hrel
  go_wp2_with fail
  go_ret
  exact ⟨⟨rfl, hI1⟩, hB1, hK1⟩
theorem at_range {w0 w : World} {g : Nat} {b : List Int} {at_ : Int} {bad : Bool} (hI : IsS71 w0 w g b at_ bad) : 0 ≤ at_ := by
 obtain ⟨_, _, _, _, _, _, _, _, ha, _⟩ := hI
 exact ha
theorem rnum_calls (g : Nat) (w0 w : World) (b : List Int) (at_ : Int) (bad : Bool) (many : Int) (hI : IsS71 w0 w g b at_ bad) (hB : Below w0.heap.size w0 w) (hb : okB b = true) :
  Calls Tryd.prog 41 #[.pointer (some ⟨g, 0, none⟩), .int .i64 many] w fun e w' =>
   e = .returned (.int .i64 (numR b at_ bad many).1) ∧ IsS71 w0 w' g b (numR b at_ bad many).2.1 (numR b at_ bad many).2.2 ∧ Below w0.heap.size w0 w' ∧ KeepBut w w' g none := by
 unfold numR
 by_cases h : okR b at_ bad (mx 0 (mn many 8))
 ·rw [if_pos h]
  obtain ⟨rfl, h0, h1⟩ := h
  exact (rnum_ok g w0 w b at_ many _ rfl _ rfl hI hB h1 (okB_all hb).1 (okB_all hb).2 (at_range hI)).mono fun e w' ⟨⟨h1, h2⟩, h3, h4⟩ => ⟨h1, h2, h3, h4⟩
 ·rw [if_neg h]
  exact (rnum_bad g w0 w b at_ bad many _ rfl hI hB h).mono fun e w' ⟨⟨h1, h2⟩, h3, h4⟩ => ⟨h1, h2, h3, h4⟩
theorem rtake_calls (g : Nat) (w0 w : World) (b : List Int) (at_ : Int) (bad : Bool) (n : Int) (hI : IsS71 w0 w g b at_ bad) (hB : Below w0.heap.size w0 w) (hb : okB b = true) :
  Calls Tryd.prog 77 #[.pointer (some ⟨g, 0, none⟩), .int .i64 n] w fun e w' =>
   ∃ A c, e = .returned (.slice A (takeR b at_ bad n).1.length c) ∧ Kd.C (Kd.int .u8) w0 A (takeR b at_ bad n).1.length (takeR b at_ bad n).1 ∧ (takeR b at_ bad n).1.length ≤ c ∧ IsS71 w0 w' g b (takeR b at_ bad n).2.1 (takeR b at_ bad n).2.2 ∧ Below w0.heap.size w0 w' ∧ KeepBut w w' g none := by
 unfold takeR
 by_cases h : okR b at_ bad n
 ·rw [if_pos h]
  obtain ⟨rfl, h0, h1⟩ := h
  have hl : (cutR b at_ n).length = n.toNat := by have := at_range hI; unfold cutR; simp; omega
  refine (rtake_ok g w0 w b at_ n hI hB h0 h1 (okB_all hb).2).mono fun e w' ⟨⟨A, c, h1, h2, h3, h4⟩, h5, h6⟩ => ⟨A, c, ?_, ?_, ?_, h4, h5, h6⟩
  ·rw [h1]; dsimp only; rw [hl]
  ·dsimp only; rw [hl]; exact h2
  ·dsimp only; rw [hl]; exact h3
 ·rw [if_neg h]
  exact (rtake_bad g w0 w b at_ bad n hI hB h).mono fun e w' ⟨⟨h1, h2⟩, h3, h4⟩ => ⟨none, 0, h1, ⟨rfl, Nat.zero_le _, fun h => absurd h (Nat.lt_irrefl 0)⟩, z5 _, h2, h3, h4⟩
set_option maxHeartbeats 1000000 in
theorem rtext_calls (g : Nat) (w0 w : World) (b : List Int) (at_ : Int) (bad : Bool) (hI : IsS71 w0 w g b at_ bad) (hB : Below w0.heap.size w0 w) (hb : okB b = true) :
  Calls Tryd.prog 103 #[.pointer (some ⟨g, 0, none⟩)] w fun e w' =>
   e = .returned (.string (textR b at_ bad).1) ∧ IsS71 w0 w' g b (textR b at_ bad).2.1 (textR b at_ bad).2.2 ∧ Below w0.heap.size w0 w' ∧ KeepBut w w' g none := by
 unfold textR
 dsimp only
 generalize ht : numR b at_ bad 1 = t
 generalize hu : takeR b t.2.1 t.2.2 t.1 = u
 have HT := zA ht
 have HU := zA hu
 have HB := zA hb
 clear ht hu hb
 go_enter Tryd.func103, Tryd.ntmps103
 go_wp2_with fail
 refine (rnum_calls g w0 _ b at_ bad 1 hI hB HB.out).mono ?_
 rw [HT.out]
 rintro e w1 ⟨rfl, hI1, hB1, hK1⟩
 go_wp2_with fail
 refine (rtake_calls g w0 _ b t.2.1 t.2.2 t.1 hI1 hB1 HB.out).mono ?_
 rw [HU.out]
 rintro e w2 ⟨A, c, rfl, hC, hc, hI2, hB2, hK2⟩
 have hcv := Kd.C_string (c := c) (P := Tryd.prog) Tryd.underlying28 Tryd.underlying5 Tryd.underlying9 (zD hC hB2)
 go_wp2_with fail
 go_ret
 exact ⟨rfl, hI2, hB2, hK1.trans hK2 (.inl rfl)⟩
end Go.Proofs.YtdbfgfgbjheibaaDoor.Given
end

section
/- Two readers at once: each one's contracts taken over the world cut to the blocks below it. -/
namespace Go.Proofs.YtdbfgfgbjheibaaDoor.Given
open Go Go.RowKit Go.Proofs.YtdbfgfgbjheibaaDoorW.PrintWords Go.Proofs.YtdbfgfgbjheibaaDoorW.PrintLast Go.Proofs.YtdbfgfgbjheibaaDoorW.PrintMore
set_option linter.unusedVariables false
/-- The world's blocks below g alone. -/
def cut (w : World) (g : Nat) : World := { w with heap := w.heap.extract 0 g }
theorem cut_size {w : World} {g : Nat} (h : g ≤ w.heap.size) : (cut w g).heap.size = g := by simp [cut]; omega
theorem cut_get {w : World} {g k : Nat} (hk : k < g) (h : g ≤ w.heap.size) : (cut w g).heap[k]? = w.heap[k]? := by
 simp only [cut, Array.getElem?_extract]
 rw [if_pos (by omega), Nat.zero_add]
theorem cut_below {w : World} {g : Nat} (h : g ≤ w.heap.size) : Below (cut w g).heap.size (cut w g) w := ⟨rfl, rfl, rfl, by rw [cut_size h]; exact h, fun k hk => by rw [cut_size h] at hk; exact (cut_get hk h).symm⟩
theorem C_same {w w1 : World} {A : Option Addr} {b : List Int} (h : Kd.C (Kd.int .u8) w A b.length b) (hs : 0 < b.length → ∀ ad, A = some ad → w1.heap[ad.block]? = w.heap[ad.block]?) : Kd.C (Kd.int .u8) w1 A b.length b :=
 ⟨h.1, h.2.1, fun hn => by
  obtain ⟨ad, e, hc⟩ := h.2.2 hn
  refine ⟨ad, e, fun j p hj => ?_⟩
  obtain ⟨c, hz, hr, hcell⟩ := hc j p hj
  exact ⟨c, hz, hr, fun i u hu => (World.cell?_of_block (w := w) (by rw [add_block]; exact hs hn ad e)).trans (hcell i u hu)⟩⟩
theorem C_lt {w : World} {a : Addr} {b : List Int} (h : Kd.C (Kd.int .u8) w (some a) b.length b) (hn : 0 < b.length) : a.block < w.heap.size := by
 obtain ⟨ad, e, hc⟩ := Kd.at_int h 0 (by omega) (by omega)
 injection e with e
 subst e
 have := zL w _ hc
 rw [add_block] at this
 exact this
/-- The program's reader, of any world. -/
def RI (W : World) (g : Nat) (b : List Int) (at_ : Int) (bad : Bool) : Prop := ∃ a c, W.heap[g]? = some (.cells #[.slice (some a) b.length c, .int .i64 at_, .bool bad] 119 (0, 0)) ∧ Kd.C (Kd.int .u8) W (some a) b.length b ∧ b.length ≤ c ∧ 0 ≤ at_ ∧ at_ ≤ b.length ∧ (0 < b.length → a.block < g)
theorem RI.of {w0 W : World} {g : Nat} {b : List Int} {at_ : Int} {bad : Bool} (h : IsS119 w0 W g b at_ bad) (hB : Below w0.heap.size w0 W) : RI W g b at_ bad := by
 obtain ⟨cs, hb, hg, a, c, rfl, hC, hle, h0, h1⟩ := h
 exact ⟨a, c, hb, zD hC hB, hle, h0, h1, fun hn => Nat.lt_of_lt_of_le (C_lt hC hn) hg⟩
theorem RI.cut {W : World} {g : Nat} {b : List Int} {at_ : Int} {bad : Bool} (h : RI W g b at_ bad) : IsS119 (cut W g) W g b at_ bad ∧ Below (Given.cut W g).heap.size (Given.cut W g) W := by
 obtain ⟨a, c, hb, hC, hle, h0, h1, hl⟩ := h
 have hg : g ≤ W.heap.size := Nat.le_of_lt (blk_lt hb)
 refine ⟨⟨_, hb, by rw [cut_size hg]; exact z5 _, a, c, rfl, C_same hC (fun hn ad e => by injection e with e; subst e; exact cut_get (hl hn) hg), hle, h0, h1⟩, cut_below hg⟩
theorem cut_bk {W w' : World} {g : Nat} (hk : KeepBut W w' g none) (hB : Below (cut W g).heap.size (cut W g) w') (hg : g ≤ W.heap.size) : Below g W w' :=
 ⟨hB.os, hB.tape, hB.output, hk.1, fun k hlt => (hB.block k (by rw [cut_size hg]; exact hlt)).trans (cut_get hlt hg)⟩
theorem RI.lt {W : World} {g : Nat} {b : List Int} {at_ : Int} {bad : Bool} (h : RI W g b at_ bad) : g ≤ W.heap.size := by
 obtain ⟨_, _, hb, _⟩ := h
 exact Nat.le_of_lt (blk_lt hb)
theorem num_i (g : Nat) (W : World) (b : List Int) (at_ : Int) (bad : Bool) (many : Int) (h : RI W g b at_ bad) (hb : okB b = true) :
  Calls Tryd.prog 60 #[.pointer (some ⟨g, 0, none⟩), .int .i64 many] W fun e w' => e = .returned (.int .i64 (numR b at_ bad many).1) ∧ RI w' g b (numR b at_ bad many).2.1 (numR b at_ bad many).2.2 ∧ KeepBut W w' g none ∧ Below g W w' :=
 (num_calls g (cut W g) W b at_ bad many h.cut.1 h.cut.2 hb).mono fun e w' ⟨h1, h2, h3, h4⟩ => ⟨h1, RI.of h2 h3, h4, cut_bk h4 h3 h.lt⟩
theorem take_i (g : Nat) (W : World) (b : List Int) (at_ : Int) (bad : Bool) (n : Int) (h : RI W g b at_ bad) (hb : okB b = true) :
  Calls Tryd.prog 108 #[.pointer (some ⟨g, 0, none⟩), .int .i64 n] W fun e w' => ∃ v0_ : Value, e = .returned v0_ ∧ Kd.R (Kd.int .u8) 5 w' W.heap.size (fun _ => True) v0_ (takeR b at_ bad n).1 ∧ RI w' g b (takeR b at_ bad n).2.1 (takeR b at_ bad n).2.2 ∧ KeepBut W w' g none ∧ Below g W w' :=
 (take_calls g (cut W g) W b at_ bad n h.cut.1 h.cut.2 hb).mono fun e w' ⟨v, h1, h0, h2, h3, h4⟩ => ⟨v, h1, h0, RI.of h2 h3, h4, cut_bk h4 h3 h.lt⟩
/-- The document's reader, of any world. -/
def RJ (W : World) (g : Nat) (b : List Int) (at_ : Int) (bad : Bool) : Prop := ∃ a c, W.heap[g]? = some (.cells #[.slice a (b.drop at_.toNat).length c, .int .i64 at_, .bool bad] 71 (0, 0)) ∧ Kd.C (Kd.int .u8) W a (b.drop at_.toNat).length (b.drop at_.toNat) ∧ (b.drop at_.toNat).length ≤ c ∧ 0 ≤ at_ ∧ at_ ≤ b.length ∧ (∀ ad, a = some ad → 0 < (b.drop at_.toNat).length → ad.block < g)
theorem RJ.of {w0 W : World} {g : Nat} {b : List Int} {at_ : Int} {bad : Bool} (h : IsS71 w0 W g b at_ bad) (hB : Below w0.heap.size w0 W) : RJ W g b at_ bad := by
 obtain ⟨cs, hb, hg, a, c, rfl, hC, hle, h0, h1⟩ := h
 exact ⟨a, c, hb, zD hC hB, hle, h0, h1, fun ad e hn => by subst e; exact Nat.lt_of_lt_of_le (C_lt hC hn) hg⟩
theorem RJ.lt {W : World} {g : Nat} {b : List Int} {at_ : Int} {bad : Bool} (h : RJ W g b at_ bad) : g ≤ W.heap.size := by
 obtain ⟨_, _, hb, _⟩ := h
 exact Nat.le_of_lt (blk_lt hb)
theorem RJ.cut {W : World} {g : Nat} {b : List Int} {at_ : Int} {bad : Bool} (h : RJ W g b at_ bad) : IsS71 (cut W g) W g b at_ bad ∧ Below (Given.cut W g).heap.size (Given.cut W g) W := by
 have hg := h.lt
 obtain ⟨a, c, hb, hC, hle, h0, h1, hl⟩ := h
 exact ⟨⟨_, hb, by rw [cut_size hg]; exact z5 _, a, c, rfl, C_same hC (fun hn ad e => cut_get (hl ad e hn) hg), hle, h0, h1⟩, cut_below hg⟩
theorem rnum_j (g : Nat) (W : World) (b : List Int) (at_ : Int) (bad : Bool) (many : Int) (h : RJ W g b at_ bad) (hb : okB b = true) :
  Calls Tryd.prog 41 #[.pointer (some ⟨g, 0, none⟩), .int .i64 many] W fun e w' => e = .returned (.int .i64 (numR b at_ bad many).1) ∧ RJ w' g b (numR b at_ bad many).2.1 (numR b at_ bad many).2.2 ∧ KeepBut W w' g none ∧ Below g W w' :=
 (rnum_calls g (cut W g) W b at_ bad many h.cut.1 h.cut.2 hb).mono fun e w' ⟨h1, h2, h3, h4⟩ => ⟨h1, RJ.of h2 h3, h4, cut_bk h4 h3 h.lt⟩
theorem text_i (g : Nat) (W : World) (b : List Int) (at_ : Int) (bad : Bool) (h : RI W g b at_ bad) (hb : okB b = true) :
  Calls Tryd.prog 93 #[.pointer (some ⟨g, 0, none⟩)] W fun e w' => e = .returned (.string (textR b at_ bad).1) ∧ RI w' g b (textR b at_ bad).2.1 (textR b at_ bad).2.2 ∧ KeepBut W w' g none ∧ Below g W w' :=
 (text_calls g (cut W g) W b at_ bad h.cut.1 h.cut.2 hb).mono fun e w' ⟨h1, h2, h3, h4⟩ => ⟨h1, RI.of h2 h3, h4, cut_bk h4 h3 h.lt⟩
theorem rtext_j (g : Nat) (W : World) (b : List Int) (at_ : Int) (bad : Bool) (h : RJ W g b at_ bad) (hb : okB b = true) :
  Calls Tryd.prog 103 #[.pointer (some ⟨g, 0, none⟩)] W fun e w' => e = .returned (.string (textR b at_ bad).1) ∧ RJ w' g b (textR b at_ bad).2.1 (textR b at_ bad).2.2 ∧ KeepBut W w' g none ∧ Below g W w' :=
 (rtext_calls g (cut W g) W b at_ bad h.cut.1 h.cut.2 hb).mono fun e w' ⟨h1, h2, h3, h4⟩ => ⟨h1, RJ.of h2 h3, h4, cut_bk h4 h3 h.lt⟩
end Go.Proofs.YtdbfgfgbjheibaaDoor.Given
end

section
/- Tables' rows as the two readers read them: what is read, what stays. -/
namespace Go.Proofs.YtdbfgfgbjheibaaDoor.Given
open Go Go.RowKit Go.Proofs.YtdbfgfgbjheibaaDoorW.PrintWords Go.Proofs.YtdbfgfgbjheibaaDoorW.PrintLast Go.Proofs.YtdbfgfgbjheibaaDoorW.PrintMore
set_option linter.unusedVariables false
set_option linter.unusedSimpArgs false
abbrev SC := PBx.S68
abbrev SV := PBx.S41
abbrev SB := PBx.S43
theorem RI.le {W W1 : World} {g : Nat} {b : List Int} {at_ : Int} {bad : Bool} (h : RI W g b at_ bad) (hk : ∀ k, k ≤ g → W1.heap[k]? = W.heap[k]?) : RI W1 g b at_ bad := by
 obtain ⟨a, c, h1, hC, hle, h0, h2, hl⟩ := h
 exact ⟨a, c, (hk g (z5 _)).trans h1, C_same hC (fun hn ad e => by injection e with e; subst e; exact hk _ (Nat.le_of_lt (hl hn))), hle, h0, h2, hl⟩
theorem RJ.le {W W1 : World} {g : Nat} {b : List Int} {at_ : Int} {bad : Bool} (h : RJ W g b at_ bad) (hk : ∀ k, k ≤ g → W1.heap[k]? = W.heap[k]?) : RJ W1 g b at_ bad := by
 obtain ⟨a, c, h1, hC, hle, h0, h2, hl⟩ := h
 exact ⟨a, c, (hk g (z5 _)).trans h1, C_same hC (fun hn ad e => hk _ (Nat.le_of_lt (hl ad e hn))), hle, h0, h2, hl⟩
theorem RI.ltS {W : World} {g : Nat} {b : List Int} {at_ : Int} {bad : Bool} (h : RI W g b at_ bad) : g < W.heap.size := by
 obtain ⟨_, _, hb, _⟩ := h
 exact blk_lt hb
theorem RJ.ltS {W : World} {g : Nat} {b : List Int} {at_ : Int} {bad : Bool} (h : RJ W g b at_ bad) : g < W.heap.size := by
 obtain ⟨_, _, hb, _⟩ := h
 exact blk_lt hb
theorem RI.below {W W' : World} {g : Nat} {b : List Int} {at_ : Int} {bad : Bool} (h : RI W g b at_ bad) (hb : Below W.heap.size W W') : RI W' g b at_ bad := h.le (fun k hk => hb.block k (Nat.lt_of_le_of_lt hk h.ltS))
theorem RJ.below {W W' : World} {g : Nat} {b : List Int} {at_ : Int} {bad : Bool} (h : RJ W g b at_ bad) (hb : Below W.heap.size W W') : RJ W' g b at_ bad := h.le (fun k hk => hb.block k (Nat.lt_of_le_of_lt hk h.ltS))
theorem RI.grown {W W1 : World} {g : Nat} {b : List Int} {at_ : Int} {bad : Bool} {row : Option Nat} (h : RI W g b at_ bad) (hw : W.grownBy W1 row) (hr : ∀ k, row = some k → g < k) : RI W1 g b at_ bad :=
 h.le (fun k hk => hw.block k (Nat.lt_of_le_of_lt hk h.ltS) (fun e => by have := hr k e.symm; omega))
theorem RJ.grown {W W1 : World} {g : Nat} {b : List Int} {at_ : Int} {bad : Bool} {row : Option Nat} (h : RJ W g b at_ bad) (hw : W.grownBy W1 row) (hr : ∀ k, row = some k → g < k) : RJ W1 g b at_ bad :=
 h.le (fun k hk => hw.block k (Nat.lt_of_le_of_lt hk h.ltS) (fun e => by have := hr k e.symm; omega))
theorem R_keep {α : Type} {d : Kd α} {e base : Nat} {W W' : World} {g : Nat} {v : Value} {xs : List α} (h : d.R e W base (fun k => g < k) v xs) (hk : KeepBut W W' g none) : d.R e W' base (fun k => g < k) v xs :=
 Kd.R_step h (fun k ho hlt => hk.2 k hlt (by omega) (by simp))
theorem bad_i (g : Nat) (W : World) (b : List Int) (at_ : Int) (bad : Bool) (h : RI W g b at_ bad) : Calls Tryd.prog 96 #[.pointer (some ⟨g, 0, none⟩)] W fun e w' => e = .returned (.bool bad) ∧ Drawn0 W w' := bad_calls g _ W b at_ bad h.cut.1
theorem left_i (g : Nat) (W : World) (b : List Int) (at_ : Int) (h : RI W g b at_ false) : Calls Tryd.prog 66 #[.pointer (some ⟨g, 0, none⟩)] W fun e w' => e = .returned (.int .i64 (b.length - at_)) ∧ Drawn0 W w' := by
 have := left_calls g _ W b at_ false h.cut.1
 simpa using this
/-! ### What is read -/
def rowsR {α : Type} (row : Int → Bool → α × Int × Bool) : Nat → Int → Bool → List α → List α × Int × Bool
 | 0, at_, bad, out => (out, at_, bad)
 | n + 1, at_, bad, out => rowsR row n (row at_ bad).2.1 (row at_ bad).2.2 (out ++ [(row at_ bad).1])
def headR (most : Int) (b : List Int) : Int × Int := if (numR b 0 false 2).2.2 = true then (0, 1) else if (numR b 0 false 2).1 > most then (0, 5) else ((numR b 0 false 2).1, 0)
def endR (b : List Int) (at_ : Int) (bad : Bool) : Int := if bad = true then 1 else if (b.length : Int) - at_ > 0 then 4 else 0
def getR {α : Type} (row : List Int → Int → Bool → α × Int × Bool) (most : Int) (b : List Int) : List α × Int :=
 if (headR most b).2 = 0 then
  (if endR b (rowsR (row b) (headR most b).1.toNat (numR b 0 false 2).2.1 (numR b 0 false 2).2.2 []).2.1 (rowsR (row b) (headR most b).1.toNat (numR b 0 false 2).2.1 (numR b 0 false 2).2.2 []).2.2 = 0
  then ((rowsR (row b) (headR most b).1.toNat (numR b 0 false 2).2.1 (numR b 0 false 2).2.2 []).1, 0)
  else ([], endR b (rowsR (row b) (headR most b).1.toNat (numR b 0 false 2).2.1 (numR b 0 false 2).2.2 []).2.1 (rowsR (row b) (headR most b).1.toNat (numR b 0 false 2).2.1 (numR b 0 false 2).2.2 []).2.2))
 else ([], (headR most b).2)
theorem num2_range (b : List Int) (hb : okB b = true) : 0 ≤ (numR b 0 false 2).1 ∧ (numR b 0 false 2).1 < 65536 := by
 unfold numR
 split
 ·have hm : mx 0 (mn 2 8) = 2 := by decide
  rw [hm]
  have hlen : (cutR b 0 2).length ≤ 2 := by unfold cutR; rw [zt]; exact Nat.le_trans (Nat.min_le_left _ _) (by decide)
  have h := leN_lim (cutR b 0 2) (fun x hx => (okB_all hb).1 x (List.mem_of_mem_drop (List.mem_of_mem_take hx)))
  have h2 : (2 : Int) ^ (8 * (cutR b 0 2).length) ≤ 65536 := by
   have h3 : (cutR b 0 2).length = 0 ∨ (cutR b 0 2).length = 1 ∨ (cutR b 0 2).length = 2 := by omega
   rcases h3 with h3 | h3 | h3 <;> rw [h3] <;> decide
  have e : wrap64 (leN (cutR b 0 2)) = leN (cutR b 0 2) := by unfold wrap64; omega
  dsimp only
  rw [e]
  omega
 ·exact ⟨Int.le_refl _, by decide⟩
def conR (b : List Int) (at_ : Int) (bad : Bool) : SC × Int × Bool :=
 let t := numR b at_ bad 1
 let u := numR b t.2.1 t.2.2 8
 (⟨t.1, u.1⟩, u.2.1, u.2.2)
def blkR (b : List Int) (at_ : Int) (bad : Bool) : SB × Int × Bool :=
 let t := textR b at_ bad
 let u := numR b t.2.1 t.2.2 1
 (⟨t.1, u.1⟩, u.2.1, u.2.2)
def varR (b : List Int) (at_ : Int) (bad : Bool) : SV × Int × Bool :=
 let t := textR b at_ bad
 let u1 := numR b t.2.1 t.2.2 1
 let u2 := numR b u1.2.1 u1.2.2 1
 let u3 := numR b u2.2.1 u2.2.2 1
 let u4 := numR b u3.2.1 u3.2.2 8
 (⟨t.1, u1.1, u2.1, u3.1, u4.1⟩, u4.2.1, u4.2.2)
/-! ### The program's rows -/
theorem row_end {W W0 W2 : World} {g : Nat} (hg : g < W.heap.size) (hb0 : Below W.heap.size W W0) (hk : KeepBut W0 W2 g none) (hb : Below g W0 W2) (cs : Array Value) : KeepBut W (W2.setRow W.heap.size cs) g none ∧ Below g W (W2.setRow W.heap.size cs) :=
 ⟨⟨by rw [size_setRow]; exact Nat.le_trans hb0.size hk.1, fun i hi hne _ => (setRow_other _ _ _ _ (by omega)).trans ((hk.2 i (Nat.lt_of_lt_of_le hi hb0.size) hne (by simp)).trans (hb0.block i hi))⟩,
 ((hb0.mono (Nat.le_of_lt hg)).trans hb).trans (below_setRow (zX g W2) (Nat.le_of_lt hg) cs)⟩
theorem RI.below_row {W W2 : World} {g : Nat} {b : List Int} {at_ : Int} {bad : Bool} (h : RI W2 g b at_ bad) (hg : g < W.heap.size) (_ : W.heap.size ≤ W2.heap.size) (cs : Array Value) : RI (W2.setRow W.heap.size cs) g b at_ bad :=
 h.le (fun k hk => setRow_other _ _ _ _ (by omega))
set_option maxHeartbeats 2000000 in
theorem con_row (g : Nat) (W : World) (b : List Int) (at_ : Int) (bad : Bool) (h : RI W g b at_ bad) (hb : okB b = true) :
  Calls Tryd.prog 89 #[.pointer (some ⟨g, 0, none⟩)] W fun e w' => e = .returned (.agg #[.int .i64 (conR b at_ bad).1.f0, .int .i64 (conR b at_ bad).1.f1]) ∧ RI w' g b (conR b at_ bad).2.1 (conR b at_ bad).2.2 ∧ KeepBut W w' g none ∧ Below g W w' := by
 unfold conR
 dsimp only
 have hg := h.ltS
 obtain ⟨W0, hW0⟩ : ∃ X, X = W.alloc (.cells #[.int .i64 0, .int .i64 0] 68) := ⟨_, rfl⟩
 have hb0 : Below W.heap.size W W0 := hW0 ▸ (zX _ _).alloc (z5 _) _
 have hx : W0.heap[W.heap.size]? = some (.cells #[.int .i64 0, .int .i64 0] 68 (0, 0)) := by rw [hW0]; exact heap_alloc_new W _
 have h0 := h.below hb0
 have hne : W.heap.size ≠ g := by omega
 generalize hU0 : numR b at_ bad 1 = u0_
 generalize hU1 : numR b u0_.2.1 u0_.2.2 8 = u1_
 have HU0 := zA hU0
 have HU1 := zA hU1
 have HB := zA hb
 clear hb hU0 hU1
 have hi : (Tryd.prog.info? 68).map (·.size) = some 2 := by kernel_rfl
 go_enter Tryd.func89, Tryd.ntmps89
 go_wp2_with fail
 rw [← hW0]
 refine (num_i g W0 b at_ bad 1 h0 HB.out).mono ?_
 rw [HU0.out]
 rintro e W1 ⟨rfl, h1, hk1, hb1⟩
 go_wp2_with fail
 refine (num_i g W1 b u0_.2.1 u0_.2.2 8 h1 HB.out).mono ?_
 rw [HU1.out]
 rintro e W2 ⟨rfl, h2, hk2, hb2⟩
 have hx2 := (hk2.blk (hk1.blk hx hne (by simp)) hne (by simp))
 have hz := row_end hg hb0 (hk1.trans hk2 (.inl rfl)) (hb1.trans hb2) #[.int .i64 u0_.1, .int .i64 u1_.1]
 have h9 := h2.below_row hg (by have := hb0.size; have := (hb1.trans hb2).size; omega) #[.int .i64 u0_.1, .int .i64 u1_.1]
 clear hk1 hb1 hk2 hb2
 go_wp2_with ((with_reducible refine gate_store (t := 68) (p := 2) (v := .tmp 7) rfl ?_); refine wpList_store_row rfl 68 (.tmp 2) (.tmp 7) rfl W.heap.size #[.int .i64 u0_.1, .int .i64 u1_.1] rfl rfl 68 _ hx2 (by rw [hi]; rfl) rfl (by kernel_rfl) ?_)
 refine bodyPost_ret (results_single rfl (.cell W.heap.size 68 #[.int .i64 u0_.1, .int .i64 u1_.1] (0, 0) _ rfl (setRow_heap _ _ _ _ _ _ hx2) Tryd.underlying68 rfl hi .nil)) rfl ?_
 exact ⟨rfl, h9, hz.1, hz.2⟩
set_option maxHeartbeats 2000000 in
theorem blk_row (g : Nat) (W : World) (b : List Int) (at_ : Int) (bad : Bool) (h : RI W g b at_ bad) (hb : okB b = true) :
  Calls Tryd.prog 95 #[.pointer (some ⟨g, 0, none⟩)] W fun e w' => e = .returned (.agg #[.string (blkR b at_ bad).1.f0, .int .i64 (blkR b at_ bad).1.f1]) ∧ RI w' g b (blkR b at_ bad).2.1 (blkR b at_ bad).2.2 ∧ KeepBut W w' g none ∧ Below g W w' := by
 unfold blkR
 dsimp only
 have hg := h.ltS
 obtain ⟨W0, hW0⟩ : ∃ X, X = W.alloc (.cells #[.string ⟨#[]⟩, .int .i64 0] 43) := ⟨_, rfl⟩
 have hb0 : Below W.heap.size W W0 := hW0 ▸ (zX _ _).alloc (z5 _) _
 have hx : W0.heap[W.heap.size]? = some (.cells #[.string ⟨#[]⟩, .int .i64 0] 43 (0, 0)) := by rw [hW0]; exact heap_alloc_new W _
 have h0 := h.below hb0
 have hne : W.heap.size ≠ g := by omega
 generalize hU0 : textR b at_ bad = u0_
 generalize hU1 : numR b u0_.2.1 u0_.2.2 1 = u1_
 have HU0 := zA hU0
 have HU1 := zA hU1
 have HB := zA hb
 clear hb hU0 hU1
 have hi : (Tryd.prog.info? 43).map (·.size) = some 2 := by kernel_rfl
 go_enter Tryd.func95, Tryd.ntmps95
 go_wp2_with fail
 rw [← hW0]
 refine (text_i g W0 b at_ bad h0 HB.out).mono ?_
 rw [HU0.out]
 rintro e W1 ⟨rfl, h1, hk1, hb1⟩
 go_wp2_with fail
 refine (num_i g W1 b u0_.2.1 u0_.2.2 1 h1 HB.out).mono ?_
 rw [HU1.out]
 rintro e W2 ⟨rfl, h2, hk2, hb2⟩
 have hx2 := (hk2.blk (hk1.blk hx hne (by simp)) hne (by simp))
 have hz := row_end hg hb0 (hk1.trans hk2 (.inl rfl)) (hb1.trans hb2) #[.string u0_.1, .int .i64 u1_.1]
 have h9 := h2.below_row hg (by have := hb0.size; have := (hb1.trans hb2).size; omega) #[.string u0_.1, .int .i64 u1_.1]
 clear hk1 hb1 hk2 hb2
 go_wp2_with ((with_reducible refine gate_store (t := 43) (p := 2) (v := .tmp 7) rfl ?_); refine wpList_store_row rfl 43 (.tmp 2) (.tmp 7) rfl W.heap.size #[.string u0_.1, .int .i64 u1_.1] rfl rfl 43 _ hx2 (by rw [hi]; rfl) rfl (by kernel_rfl) ?_)
 refine bodyPost_ret (results_single rfl (.cell W.heap.size 43 #[.string u0_.1, .int .i64 u1_.1] (0, 0) _ rfl (setRow_heap _ _ _ _ _ _ hx2) Tryd.underlying43 rfl hi .nil)) rfl ?_
 exact ⟨rfl, h9, hz.1, hz.2⟩
set_option maxHeartbeats 2000000 in
theorem var_row (g : Nat) (W : World) (b : List Int) (at_ : Int) (bad : Bool) (h : RI W g b at_ bad) (hb : okB b = true) :
  Calls Tryd.prog 92 #[.pointer (some ⟨g, 0, none⟩)] W fun e w' => e = .returned (.agg #[.string (varR b at_ bad).1.f0, .int .i64 (varR b at_ bad).1.f1, .int .i64 (varR b at_ bad).1.f2, .int .i64 (varR b at_ bad).1.f3, .int .i64 (varR b at_ bad).1.f4]) ∧ RI w' g b (varR b at_ bad).2.1 (varR b at_ bad).2.2 ∧ KeepBut W w' g none ∧ Below g W w' := by
 unfold varR
 dsimp only
 have hg := h.ltS
 obtain ⟨W0, hW0⟩ : ∃ X, X = W.alloc (.cells #[.string ⟨#[]⟩, .int .i64 0, .int .i64 0, .int .i64 0, .int .i64 0] 41) := ⟨_, rfl⟩
 have hb0 : Below W.heap.size W W0 := hW0 ▸ (zX _ _).alloc (z5 _) _
 have hx : W0.heap[W.heap.size]? = some (.cells #[.string ⟨#[]⟩, .int .i64 0, .int .i64 0, .int .i64 0, .int .i64 0] 41 (0, 0)) := by rw [hW0]; exact heap_alloc_new W _
 have h0 := h.below hb0
 have hne : W.heap.size ≠ g := by omega
 generalize hU0 : textR b at_ bad = u0_
 generalize hU1 : numR b u0_.2.1 u0_.2.2 1 = u1_
 generalize hU2 : numR b u1_.2.1 u1_.2.2 1 = u2_
 generalize hU3 : numR b u2_.2.1 u2_.2.2 1 = u3_
 generalize hU4 : numR b u3_.2.1 u3_.2.2 8 = u4_
 have HU0 := zA hU0
 have HU1 := zA hU1
 have HU2 := zA hU2
 have HU3 := zA hU3
 have HU4 := zA hU4
 have HB := zA hb
 clear hb hU0 hU1 hU2 hU3 hU4
 have hi : (Tryd.prog.info? 41).map (·.size) = some 5 := by kernel_rfl
 go_enter Tryd.func92, Tryd.ntmps92
 go_wp2_with fail
 rw [← hW0]
 refine (text_i g W0 b at_ bad h0 HB.out).mono ?_
 rw [HU0.out]
 rintro e W1 ⟨rfl, h1, hk1, hb1⟩
 go_wp2_with fail
 refine (num_i g W1 b u0_.2.1 u0_.2.2 1 h1 HB.out).mono ?_
 rw [HU1.out]
 rintro e W2 ⟨rfl, h2, hk2, hb2⟩
 go_wp2_with fail
 refine (num_i g W2 b u1_.2.1 u1_.2.2 1 h2 HB.out).mono ?_
 rw [HU2.out]
 rintro e W3 ⟨rfl, h3, hk3, hb3⟩
 go_wp2_with fail
 refine (num_i g W3 b u2_.2.1 u2_.2.2 1 h3 HB.out).mono ?_
 rw [HU3.out]
 rintro e W4 ⟨rfl, h4, hk4, hb4⟩
 go_wp2_with fail
 refine (num_i g W4 b u3_.2.1 u3_.2.2 8 h4 HB.out).mono ?_
 rw [HU4.out]
 rintro e W5 ⟨rfl, h5, hk5, hb5⟩
 have hx2 := (hk5.blk (hk4.blk (hk3.blk (hk2.blk (hk1.blk hx hne (by simp)) hne (by simp)) hne (by simp)) hne (by simp)) hne (by simp))
 have hz := row_end hg hb0 ((((hk1.trans hk2 (.inl rfl)).trans hk3 (.inl rfl)).trans hk4 (.inl rfl)).trans hk5 (.inl rfl)) ((((hb1.trans hb2).trans hb3).trans hb4).trans hb5) #[.string u0_.1, .int .i64 u1_.1, .int .i64 u2_.1, .int .i64 u3_.1, .int .i64 u4_.1]
 have h9 := h5.below_row hg (by have := hb0.size; have := ((((hb1.trans hb2).trans hb3).trans hb4).trans hb5).size; omega) #[.string u0_.1, .int .i64 u1_.1, .int .i64 u2_.1, .int .i64 u3_.1, .int .i64 u4_.1]
 clear hk1 hb1 hk2 hb2 hk3 hb3 hk4 hb4 hk5 hb5
 go_wp2_with ((with_reducible refine gate_store (t := 41) (p := 2) (v := .tmp 13) rfl ?_); refine wpList_store_row rfl 41 (.tmp 2) (.tmp 13) rfl W.heap.size #[.string u0_.1, .int .i64 u1_.1, .int .i64 u2_.1, .int .i64 u3_.1, .int .i64 u4_.1] rfl rfl 41 _ hx2 (by rw [hi]; rfl) rfl (by kernel_rfl) ?_)
 refine bodyPost_ret (results_single rfl (.cell W.heap.size 41 #[.string u0_.1, .int .i64 u1_.1, .int .i64 u2_.1, .int .i64 u3_.1, .int .i64 u4_.1] (0, 0) _ rfl (setRow_heap _ _ _ _ _ _ hx2) Tryd.underlying41 rfl hi .nil)) rfl ?_
 exact ⟨rfl, h9, hz.1, hz.2⟩
end Go.Proofs.YtdbfgfgbjheibaaDoor.Given
end

section
/- The reader's contracts as printed texts call them; any reader of bytes that is not past its end. -/
namespace Go.Proofs.YtdbfgfgbjheibaaDoor.Given
set_option linter.unusedVariables false
open Go.RowKit Go.Proofs.YtdbfgfgbjheibaaDoorW.PrintWords Go.Proofs.YtdbfgfgbjheibaaDoorW.PrintLast Go.Proofs.YtdbfgfgbjheibaaDoorW.PrintMore
def octet_Reader_Num.f (s0_0 : List Int) (s0_1 : Int) (s0_2 : Bool) (a1 : Int) : Option (Int × Int × Bool) := if okB s0_0 = true then some (numR s0_0 s0_1 s0_2 a1) else none
theorem octet_Reader_Num.calls (g : Nat) (s0_0 : List Int) (s0_1 : Int) (s0_2 : Bool) (a1 : Int) (r1 : Int) (r2 : Int) (r3 : Bool) (w0 w : World) (hI : IsS119 w0 w g s0_0 s0_1 s0_2) (hB : Below w0.heap.size w0 w) (h : octet_Reader_Num.f s0_0 s0_1 s0_2 a1 = some (r1, r2, r3)) :
  Calls Tryd.prog 60 #[.pointer (some ⟨g, 0, none⟩), .int .i64 a1] w fun e w' => e = .returned (.int .i64 r1) ∧ IsS119 w0 w' g s0_0 r2 r3 ∧ Below w0.heap.size w0 w' ∧ KeepBut w w' g none := by
 unfold octet_Reader_Num.f at h
 split at h
 ·rename_i hb
  have h := zJ h
  have := num_calls g w0 w s0_0 s0_1 s0_2 a1 hI hB hb
  rw [h] at this
  exact this
 ·cases h
def octet_Reader_Take.f (s0_0 : List Int) (s0_1 : Int) (s0_2 : Bool) (a1 : Int) : Option (List Int × Int × Bool) := if okB s0_0 = true then some (takeR s0_0 s0_1 s0_2 a1) else none
theorem octet_Reader_Take.calls (g : Nat) (s0_0 : List Int) (s0_1 : Int) (s0_2 : Bool) (a1 : Int) (r1 : List Int) (r2 : Int) (r3 : Bool) (w0 w : World) (hI : IsS119 w0 w g s0_0 s0_1 s0_2) (hB : Below w0.heap.size w0 w) (h : octet_Reader_Take.f s0_0 s0_1 s0_2 a1 = some (r1, r2, r3)) :
  Calls Tryd.prog 108 #[.pointer (some ⟨g, 0, none⟩), .int .i64 a1] w fun e w' => ∃ v0_ : Value, e = .returned (v0_) ∧ Kd.R (Kd.int .u8) 5 w' w.heap.size (fun _ => True) v0_ r1 ∧ IsS119 w0 w' g s0_0 r2 r3 ∧ Below w0.heap.size w0 w' ∧ KeepBut w w' g none := by
 unfold octet_Reader_Take.f at h
 split at h
 ·rename_i hb
  have h := zJ h
  have := take_calls g w0 w s0_0 s0_1 s0_2 a1 hI hB hb
  rw [h] at this
  exact this
 ·cases h
def octet_Reader_Bad.f (s0_0 : List Int) (s0_1 : Int) (s0_2 : Bool) : Option (Bool × Int × Bool) := some (s0_2, s0_1, s0_2)
theorem octet_Reader_Bad.calls (g : Nat) (s0_0 : List Int) (s0_1 : Int) (s0_2 : Bool) (r1 : Bool) (r2 : Int) (r3 : Bool) (w0 w : World) (hI : IsS119 w0 w g s0_0 s0_1 s0_2) (hB : Below w0.heap.size w0 w) (h : octet_Reader_Bad.f s0_0 s0_1 s0_2 = some (r1, r2, r3)) :
  Calls Tryd.prog 96 #[.pointer (some ⟨g, 0, none⟩)] w fun e w' => e = .returned (.bool r1) ∧ IsS119 w0 w' g s0_0 r2 r3 ∧ Below w0.heap.size w0 w' ∧ KeepBut w w' g none := by
 have h := zJ h
 rw [Prod.mk.injEq, Prod.mk.injEq] at h
 obtain ⟨rfl, rfl, rfl⟩ := h
 refine (bad_calls g w0 w s0_0 s0_1 s0_2 hI).mono ?_
 rintro e w' ⟨he, m, rfl⟩
 exact ⟨he, hI.drewN m, zN hB m, keep_drewN (KeepBut.refl w g none) m⟩
end Go.Proofs.YtdbfgfgbjheibaaDoor.Given
end

section
/- Printed by a program of this session (wip/pg.py, over the print of the kit): functions, their Lean twins, and the proofs that the calls come to them; each under the conditions that it names. -/
namespace Go.Proofs.YtdbfgfgbjheibaaDoor.PNum
open Go.Proofs.YtdbfgfgbjheibaaDoor.Given
open Go.RowKit Go.Proofs.YtdbfgfgbjheibaaDoorW.PrintWords Go.Proofs.YtdbfgfgbjheibaaDoorW.PrintLast Go.Proofs.YtdbfgfgbjheibaaDoorW.PrintMore
attribute [local go_sem] max2_int min2_int max_two min_two max_three min_three max_four min_four   -- for this text's walks alone
set_option linter.unusedVariables false
set_option linter.unusedSimpArgs false



def errW : Option Int → Value
 | none => .nilIface
 | some c => .iface 0 (.int .i64 c)
theorem errW_none : errW none = .nilIface := rfl
theorem errW_some (c : Int) : errW (some c) = .iface 0 (.int .i64 c) := rfl

theorem info3 : (Tryd.prog.info? 3).map (fun i => (i.zero, i.size, i.bytes)) = some (some (.int .i64 0), 1, 8) := by kernel_rfl
-- the values' own types

end Go.Proofs.YtdbfgfgbjheibaaDoor.PNum
end

section
/- Printed by a program of this session (wip/pg.py, over the print of the kit): functions, their Lean twins, and the proofs that the calls come to them; each under the conditions that it names. -/
namespace Go.Proofs.YtdbfgfgbjheibaaDoor.PNum
open Go.Proofs.YtdbfgfgbjheibaaDoor.Given
open Go.RowKit Go.Proofs.YtdbfgfgbjheibaaDoorW.PrintWords Go.Proofs.YtdbfgfgbjheibaaDoorW.PrintLast Go.Proofs.YtdbfgfgbjheibaaDoorW.PrintMore
attribute [local go_sem] max2_int min2_int max_two min_two max_three min_three max_four min_four   -- for this text's walks alone
set_option linter.unusedVariables false
set_option linter.unusedSimpArgs false

-- NOT PRINTED: function 87 (octet_Reader_next)


/-! ### unit_numbers: function 109 -/
def unit_numbers.l0 : Nat → List Int → List Int → Int → Int → List Int → Int → Bool → Option (List Int × Int × Int × Bool)
 | 0, _, _, _, _, _, _, _ => none
 | k + 1, x9, x20, x21, x22, x1000, x1001, x1002 => if x22 < x21 then (if 0 ≤ x22 then (if x22 < (x20.length : Int) then (if x9.length < 17592186044416 then (unit_numbers.l0 k (x9 ++ [wrap64 (rd x20 x22)]) x20 x21 (wrap64 (x22 + 1)) x1000 x1001 x1002) else (none)) else (none)) else (none)) else ((octet_Reader_Bad.f x1000 x1001 x1002).bind fun bt113 => (if bt113.1 = true then (some (([] : List Int), 1, bt113.2.1, bt113.2.2)) else (some (x9, 0, bt113.2.1, bt113.2.2))))
def unit_numbers.f (k : Nat) (s0_0 : List Int) (s0_1 : Int) (s0_2 : Bool) (a1 : Int) (a2 : Int) : Option (List Int × Int × Int × Bool) := (octet_Reader_Num.f s0_0 s0_1 s0_2 a1).bind fun bt101 => (if bt101.1 > a2 then (some (([] : List Int), 5, bt101.2.1, bt101.2.2)) else ((octet_Reader_Take.f s0_0 bt101.2.1 bt101.2.2 bt101.1).bind fun bt104 => (unit_numbers.l0 k ([] : List Int) bt104.1 (bt104.1.length : Int) 0 s0_0 bt104.2.1 bt104.2.2)))
set_option maxHeartbeats 8000000 in
set_option maxRecDepth 100000 in
theorem unit_numbers.calls (k : Nat) (g : Nat) (s0_0 : List Int) (s0_1 : Int) (s0_2 : Bool) (a1 : Int) (a2 : Int) (r1 : List Int) (r2 : Int) (r3 : Int) (r4 : Bool) (w0 w : World) (hI : IsS119 w0 w g s0_0 s0_1 s0_2) (hB : Below w0.heap.size w0 w) (h : unit_numbers.f k s0_0 s0_1 s0_2 a1 a2 = some (r1, r2, r3, r4)) :
  Calls Tryd.prog 109 #[.pointer (some ⟨g, 0, none⟩), .int .i64 a1, .int .i64 a2] w fun e w' => ∃ v0_ : Value, e = .returned (.tuple #[v0_, .int .i64 r2]) ∧ Kd.R (Kd.int .i64) 3 w' w.heap.size (fun _ => True) v0_ r1 ∧ IsS119 w0 w' g s0_0 r3 r4 ∧ Below w0.heap.size w0 w' ∧ KeepBut w w' g none := by
 have HI0 := zA hI
 have HK := zA (KeepBut.refl w g none)
 have HL := zA hB.size
 clear hI
 have HW0 := zA hB.size
 have HB := zA hB
 clear hB
 have H : ((octet_Reader_Num.f s0_0 s0_1 s0_2 a1).bind fun bt101 => (if bt101.1 > a2 then (some (([] : List Int), 5, bt101.2.1, bt101.2.2)) else ((octet_Reader_Take.f s0_0 bt101.2.1 bt101.2.2 bt101.1).bind fun bt104 => (unit_numbers.l0 k ([] : List Int) bt104.1 (bt104.1.length : Int) 0 s0_0 bt104.2.1 bt104.2.2)))) = some (r1, r2, r3, r4) := h
 clear h
 replace H := Option.bind_eq_some_iff.mp H
 obtain ⟨⟨t101, t102, t103⟩, A40, H⟩ := H
 replace H : (if t101 > a2 then (some (([] : List Int), 5, t102, t103)) else ((octet_Reader_Take.f s0_0 t102 t103 t101).bind fun bt104 => (unit_numbers.l0 k ([] : List Int) bt104.1 (bt104.1.length : Int) 0 s0_0 bt104.2.1 bt104.2.2))) = some (r1, r2, r3, r4) := H
 have A4 := zA A40
 clear A40
 by_cases c5 : t101 > a2
 ·rw [if_pos c5] at H
  have c5b0 : decide (a2 < t101) = true := decide_eq_true c5
  clear c5
  simp only [Option.some.injEq, Prod.mk.injEq] at H
  obtain ⟨rfl, rfl, rfl, rfl⟩ := H
  go_enter Tryd.func109, Tryd.ntmps109
  go_wp2_with (first | ((with_reducible refine gate_callee (f := 60) rfl ?_); refine goesL_ (some 14) rfl rfl Tryd.func60 (by kernel_rfl) rfl #[.pointer (some ⟨g, 0, none⟩), .int .i64 a1] rfl (by (try simp only [zm, zc, zn]); first | done | rfl | (simp only [zd, zt]; rfl)) ?_; (with_reducible refine (octet_Reader_Num.calls g s0_0 s0_1 s0_2 a1 t101 t102 t103 w0 _ ?side1 ?side2 A4.out).mono ?_); (case side1 => repeat (first | (with_reducible first | exact HI0.out | apply IsS119.alloc | apply IsS119.drewN | apply IsS119.drew | apply IsS119.set_1 | apply IsS119.set_2) | exact HI0.out)); (case side2 => repeat (first | (with_reducible first | exact HB.out | apply zB | apply zN | apply below_drew1 | refine zE ?_ (IsS119.ge HI0.out)) | exact HB.out)); rintro e w6 ⟨rfl, hi, hb, hk⟩; refine ⟨_, rfl, ?_⟩; replace HK := zA (KeepBut.trans (by repeat (first | (with_reducible first | exact HK.out | apply KeepBut.set_ | apply keep_drewN | apply keep_drew | apply keep_alloc) | exact HK.out)) hk (.inl rfl)); replace HB := zA (hb); replace HI0 := zA (hi); (try clear hb); (try clear hb2); (try clear hk); (try clear hi)))
  go_ret2
  exact ⟨_, by first | rfl | (simp [errW_none, errW_some] <;> rfl) | (simp [*, errW_none, errW_some] <;> rfl), by first | exact Kd.R_nil _ _ _ _ _ | exact Kd.N_nil _ _ _ _ _ | exact Kd.V_nil _ _ _ _ _ | exact Kd.Q_nil _ _ _ _ _ | exact Kd.S_nil _ _ _ _ _, by repeat (first | (with_reducible first | exact HI0.out | apply IsS119.alloc | apply IsS119.drewN | apply IsS119.drew | apply IsS119.set_1 | apply IsS119.set_2) | exact HI0.out), by repeat (first | (with_reducible first | exact HB.out | apply zB | apply zN | apply below_drew1 | refine zE ?_ (IsS119.ge HI0.out)) | exact HB.out), by repeat (first | (with_reducible first | exact HK.out | apply KeepBut.set_ | apply keep_drewN | apply keep_drew | apply keep_alloc) | exact HK.out)⟩
 ·rw [if_neg c5] at H
  have c5b0 : decide (a2 < t101) = false := decide_eq_false c5
  clear c5
  replace H := Option.bind_eq_some_iff.mp H
  obtain ⟨⟨t104, t107, t108⟩, A70, H⟩ := H
  replace H : (unit_numbers.l0 k ([] : List Int) t104 (t104.length : Int) 0 s0_0 t107 t108) = some (r1, r2, r3, r4) := H
  have A7 := zA A70
  clear A70
  have H' := zA H
  clear H
  go_enter Tryd.func109, Tryd.ntmps109
  go_wp2_with (first | ((with_reducible refine gate_callee (f := 60) rfl ?_); refine goesL_ (some 14) rfl rfl Tryd.func60 (by kernel_rfl) rfl #[.pointer (some ⟨g, 0, none⟩), .int .i64 a1] rfl (by (try simp only [zm, zc, zn]); first | done | rfl | (simp only [zd, zt]; rfl)) ?_; (with_reducible refine (octet_Reader_Num.calls g s0_0 s0_1 s0_2 a1 t101 t102 t103 w0 _ ?side1 ?side2 A4.out).mono ?_); (case side1 => repeat (first | (with_reducible first | exact HI0.out | apply IsS119.alloc | apply IsS119.drewN | apply IsS119.drew | apply IsS119.set_1 | apply IsS119.set_2) | exact HI0.out)); (case side2 => repeat (first | (with_reducible first | exact HB.out | apply zB | apply zN | apply below_drew1 | refine zE ?_ (IsS119.ge HI0.out)) | exact HB.out)); rintro e w8 ⟨rfl, hi, hb, hk⟩; refine ⟨_, rfl, ?_⟩; replace HK := zA (KeepBut.trans (by repeat (first | (with_reducible first | exact HK.out | apply KeepBut.set_ | apply keep_drewN | apply keep_drew | apply keep_alloc) | exact HK.out)) hk (.inl rfl)); replace HB := zA (hb); replace HI0 := zA (hi); (try clear hb); (try clear hb2); (try clear hk); (try clear hi)) | ((with_reducible refine gate_callee (f := 108) rfl ?_); refine goesL_ (some 20) rfl rfl Tryd.func108 (by kernel_rfl) rfl #[.pointer (some ⟨g, 0, none⟩), .int .i64 t101] rfl (by (try simp only [zm, zc, zn]); first | done | rfl | (simp only [zd, zt]; rfl)) ?_; (with_reducible refine (octet_Reader_Take.calls g s0_0 t102 t103 t101 t104 t107 t108 w0 _ ?side1 ?side2 A7.out).mono ?_); (case side1 => repeat (first | (with_reducible first | exact HI0.out | apply IsS119.alloc | apply IsS119.drewN | apply IsS119.drew | apply IsS119.set_1 | apply IsS119.set_2) | exact HI0.out)); (case side2 => repeat (first | (with_reducible first | exact HB.out | apply zB | apply zN | apply below_drew1 | refine zE ?_ (IsS119.ge HI0.out)) | exact HB.out)); rintro e w9 ⟨v105, rfl, ho0, hi, hb, hk⟩; refine ⟨_, rfl, ?_⟩; have HO106 := zA (Kd.R_lower ho0 (keep_size (w := w) (g := g) (row := none) (by repeat (first | (with_reducible first | exact HK.out | apply KeepBut.set_ | apply keep_drewN | apply keep_drew | apply keep_alloc) | exact HK.out)))); replace HK := zA (KeepBut.trans (by repeat (first | (with_reducible first | exact HK.out | apply KeepBut.set_ | apply keep_drewN | apply keep_drew | apply keep_alloc) | exact HK.out)) hk (.inl rfl)); replace HB := zA (hb); replace HI0 := zA (hi); (try clear hb); (try clear hb2); (try clear hk); (try clear hi); (try clear ho0); obtain ⟨Ao10, co10, eo10⟩ := Kd.R_slice HO106.out; subst eo10))
  go_loopg [9, 22] k (fun kq v9 v22 w' => ∃ (x9_1 : List Int) (x22_1 : Int), v22 = .int .i64 x22_1 ∧ Aside0 (unit_numbers.l0 kq x9_1 t104 (t104.length : Int) x22_1 s0_0 t107 t108 = some (r1, r2, r3, r4)) ∧ Aside0 (kq ≤ k) ∧ Aside0 (Kd.R (Kd.int .i64) 3 w' w.heap.size (fun _ => True) v9 x9_1) ∧ Aside0 (Kd.R (Kd.int .u8) 5 w' w.heap.size (fun _ => True) (.slice Ao10 t104.length co10) t104) ∧ Aside0 (IsS119 w0 w' g s0_0 t107 t108) ∧ Aside0 (KeepBut w w' g none) ∧ Aside0 (Below w0.heap.size w0 w'))
  case atStart => exact ⟨(([] : List Int)), (0), (by first | rfl | (simp; done) | (simp [*]; done)), H', ⟨z5 _⟩, ⟨by first | exact Kd.R_nil _ _ _ _ _ | exact Kd.N_nil _ _ _ _ _ | exact Kd.V_nil _ _ _ _ _ | exact Kd.Q_nil _ _ _ _ _ | exact Kd.S_nil _ _ _ _ _⟩, ⟨by (with_reducible repeat (first | apply zR | apply zS | apply zT)); exact HO106.out⟩, ⟨by repeat (first | (with_reducible first | exact HI0.out | apply IsS119.alloc | apply IsS119.drewN | apply IsS119.drew | apply IsS119.set_1 | apply IsS119.set_2) | exact HI0.out)⟩, ⟨by repeat (first | (with_reducible first | exact HK.out | apply KeepBut.set_ | apply keep_drewN | apply keep_drew | apply keep_alloc) | exact HK.out)⟩, ⟨by repeat (first | (with_reducible first | exact HB.out | apply zB | apply zN | apply below_drew1 | refine zE ?_ (IsS119.ge HI0.out)) | exact HB.out)⟩⟩
  case round =>
   clear H'
   try clear c1
   try clear p2
   try clear c5
   try clear c5b0
   try clear c6
   try clear c10
   obtain ⟨x9_1, x22_1, rfl, HA, HK1, HO_9, HO_20, HI0, HK, HB⟩ := hrel
   cases gk with
   | zero => exact absurd HA.out (by simp [unit_numbers.l0])
   | succ k1 =>
    have H := HA.out
    clear HA
    simp only [unit_numbers.l0] at H
    by_cases c11 : x22_1 < (t104.length : Int)
    ·rw [if_pos c11] at H
     have c11b0 : decide (x22_1 < (t104.length : Int)) = true := decide_eq_true c11
     clear c11
     by_cases c12 : 0 ≤ x22_1
     ·rw [if_pos c12] at H
      have c12b0 : decide (0 ≤ x22_1) = true := decide_eq_true c12
      clear c12
      by_cases c13 : x22_1 < (t104.length : Int)
      ·rw [if_pos c13] at H
       have c13b0 : decide (x22_1 < (t104.length : Int)) = true := decide_eq_true c13
       clear c13
       by_cases c14 : x9_1.length < 17592186044416
       ·rw [if_pos c14] at H
        have LMc14 := zA c14
        clear c14
        obtain ⟨y110, hy110⟩ : ∃ y_ : List Int, y_ = (x9_1 ++ [wrap64 (rd t104 x22_1)]) := ⟨_, rfl⟩
        replace H : (unit_numbers.l0 k1 y110 t104 (t104.length : Int) (wrap64 (x22_1 + 1)) s0_0 t107 t108) = some (r1, r2, r3, r4) := by first | (rw [hy110]; with_reducible exact H) | (have H2_ := (zP _ _).symm.trans H; rw [hy110]; with_reducible exact H2_) | (have H2_ := (zP _ _).symm.trans H; with_reducible exact H2_) | with_reducible exact H | (rw [hy110]; exact H) | exact H
        have Ny110 := zA hy110
        clear hy110
        have H' := zA H
        clear H
        have p109 : 0 ≤ (x22_1 : Int) := zO (by first | (with_reducible assumption) | assumption)
        have q109 : x22_1 < (t104.length : Int) := zO (by first | (with_reducible assumption) | assumption)
        obtain ⟨ad109, e109, hx109_0⟩ := Kd.at_int (Kd.R_reads' HO_20.out).2.2 x22_1 p109 q109
        cases e109
        replace p109 := eq_true p109
        replace q109 := eq_true q109
        go_wp2_with (first | ((with_reducible refine gate_builtin (b := .append) (xs := #[.tmp 26, .tmp 29]) rfl ?_); at_builtin; refine Kd.R_append (Kd.int .i64) w.heap.size rfl (.tmp 26) (.tmp 29) 45 3 (.int .i64 0) 8 rfl Tryd.underlying45 info3 rfl (by decide) (by omega) u9 x9_1 (wrap64 (rd t104 x22_1)) [.int .i64 (wrap64 (rd t104 x22_1))] (fun _ => True) (fun _ => False) rfl rfl ?aP (fun _ hk => hk.elim) ?aF ?aO (zX _ _) ?aS ?aL ?_; (case aP => exact rfl); (case aF => exact (fun _ _ => trivial)); (case aO => exact (by (with_reducible repeat (first | apply zR | apply zS | apply zT)); exact HO_9.out)); (case aS => exact (keep_size (w := w) (g := g) (row := none) (by repeat (first | (with_reducible first | exact HK.out | apply KeepBut.set_ | apply keep_drewN | apply keep_drew | apply keep_alloc) | exact HK.out)))); (case aL => have := LMc14.out; omega); intro v111 w15 ho hb hg hat; rw [← Ny110.out] at ho; replace HO_20 := zA (Kd.R_over' (by (with_reducible repeat (first | apply zR | apply zS | apply zT)); exact HO_20.out) (Kd.R_typed (by (with_reducible repeat (first | apply zR | apply zS | apply zT)); exact HO_9.out)) (by decide) hg); replace HB := zA (below_weaken (by repeat (first | (with_reducible first | exact HB.out | apply zB | apply zN | apply below_drew1 | refine zE ?_ (IsS119.ge HI0.out)) | exact HB.out)) HL.out hb); replace HI0 := zA (IsS119.grown (by repeat (first | (with_reducible first | exact HI0.out | apply IsS119.alloc | apply IsS119.drewN | apply IsS119.drew | apply IsS119.set_1 | apply IsS119.set_2) | exact HI0.out)) hg (IsS119.own_ne HI0.out HO_9.out (by decide))); replace HK := zA (KeepBut.trans (by repeat (first | (with_reducible first | exact HK.out | apply KeepBut.set_ | apply keep_drewN | apply keep_drew | apply keep_alloc) | exact HK.out)) (KeepBut.of_grown hg g) (Kd.R_base2 HO_9.out)); have HO112 := zA (ho); clear HO_9; clear ho hb hg hat))
        go_roundg k1
        case measure => have := HK1.out; omega
        case rel => exact ⟨(y110), (wrap64 (x22_1 + 1)), (by first | rfl | (simp; done) | (simp [*]; done)), H', ⟨by have := HK1.out; omega⟩, ⟨by (with_reducible repeat (first | apply zR | apply zS | apply zT)); exact HO112.out⟩, ⟨by (with_reducible repeat (first | apply zR | apply zS | apply zT)); exact HO_20.out⟩, ⟨by repeat (first | (with_reducible first | exact HI0.out | apply IsS119.alloc | apply IsS119.drewN | apply IsS119.drew | apply IsS119.set_1 | apply IsS119.set_2) | exact HI0.out)⟩, ⟨by repeat (first | (with_reducible first | exact HK.out | apply KeepBut.set_ | apply keep_drewN | apply keep_drew | apply keep_alloc) | exact HK.out)⟩, ⟨by repeat (first | (with_reducible first | exact HB.out | apply zB | apply zN | apply below_drew1 | refine zE ?_ (IsS119.ge HI0.out)) | exact HB.out)⟩⟩
       ·rw [if_neg c14] at H
        exact absurd H (by simp)
      ·rw [if_neg c13] at H
       exact absurd H (by simp)
     ·rw [if_neg c12] at H
      exact absurd H (by simp)
    ·rw [if_neg c11] at H
     have c11b0 : decide (x22_1 < (t104.length : Int)) = false := decide_eq_false c11
     clear c11
     replace H := Option.bind_eq_some_iff.mp H
     obtain ⟨⟨t113, t114, t115⟩, A160, H⟩ := H
     replace H : (if t113 = true then (some (([] : List Int), 1, t114, t115)) else (some (x9_1, 0, t114, t115))) = some (r1, r2, r3, r4) := H
     have A16 := zA A160
     clear A160
     by_cases c17 : t113 = true
     ·subst c17
      have H1 : (some (([] : List Int), 1, t114, t115)) = some (r1, r2, r3, r4) := by rw [if_pos rfl] at H; exact H
      clear H
      have H := H1
      clear H1
      simp only [Option.some.injEq, Prod.mk.injEq] at H
      obtain ⟨rfl, rfl, rfl, rfl⟩ := H
      go_wp2_with (first | ((with_reducible refine gate_callee (f := 96) rfl ?_); refine goesL_ (some 33) rfl rfl Tryd.func96 (by kernel_rfl) rfl #[.pointer (some ⟨g, 0, none⟩)] rfl (by (try simp only [zm, zc, zn]); first | done | rfl | (simp only [zd, zt]; rfl)) ?_; (with_reducible refine (octet_Reader_Bad.calls g s0_0 t107 t108 true t114 t115 w0 _ ?side1 ?side2 A16.out).mono ?_); (case side1 => repeat (first | (with_reducible first | exact HI0.out | apply IsS119.alloc | apply IsS119.drewN | apply IsS119.drew | apply IsS119.set_1 | apply IsS119.set_2) | exact HI0.out)); (case side2 => repeat (first | (with_reducible first | exact HB.out | apply zB | apply zN | apply below_drew1 | refine zE ?_ (IsS119.ge HI0.out)) | exact HB.out)); rintro e w18 ⟨rfl, hi, hb, hk⟩; refine ⟨_, rfl, ?_⟩; replace HO_9 := zA (Kd.R_mono (Kd.R_keep (IsS119.apart (show IsS119 w0 _ g s0_0 t107 t108 from by repeat (first | (with_reducible first | exact HI0.out | apply IsS119.alloc | apply IsS119.drewN | apply IsS119.drew | apply IsS119.set_1 | apply IsS119.set_2) | exact HI0.out)) (by (with_reducible repeat (first | apply zR | apply zS | apply zT)); exact HO_9.out) (by decide)) hk (fun _ h => h.2)) (fun _ h => h.1)); replace HO_20 := zA (Kd.R_mono (Kd.R_keep (IsS119.apart (show IsS119 w0 _ g s0_0 t107 t108 from by repeat (first | (with_reducible first | exact HI0.out | apply IsS119.alloc | apply IsS119.drewN | apply IsS119.drew | apply IsS119.set_1 | apply IsS119.set_2) | exact HI0.out)) (by (with_reducible repeat (first | apply zR | apply zS | apply zT)); exact HO_20.out) (by decide)) hk (fun _ h => h.2)) (fun _ h => h.1)); replace HK := zA (KeepBut.trans (by repeat (first | (with_reducible first | exact HK.out | apply KeepBut.set_ | apply keep_drewN | apply keep_drew | apply keep_alloc) | exact HK.out)) hk (.inl rfl)); replace HB := zA (hb); replace HI0 := zA (hi); (try clear hb); (try clear hb2); (try clear hk); (try clear hi)))
      go_ret2
      exact ⟨_, by first | rfl | (simp [errW_none, errW_some] <;> rfl) | (simp [*, errW_none, errW_some] <;> rfl), by first | exact Kd.R_nil _ _ _ _ _ | exact Kd.N_nil _ _ _ _ _ | exact Kd.V_nil _ _ _ _ _ | exact Kd.Q_nil _ _ _ _ _ | exact Kd.S_nil _ _ _ _ _, by repeat (first | (with_reducible first | exact HI0.out | apply IsS119.alloc | apply IsS119.drewN | apply IsS119.drew | apply IsS119.set_1 | apply IsS119.set_2) | exact HI0.out), by repeat (first | (with_reducible first | exact HB.out | apply zB | apply zN | apply below_drew1 | refine zE ?_ (IsS119.ge HI0.out)) | exact HB.out), by repeat (first | (with_reducible first | exact HK.out | apply KeepBut.set_ | apply keep_drewN | apply keep_drew | apply keep_alloc) | exact HK.out)⟩
     ·replace c17 := Bool.eq_false_iff.mpr c17
      subst c17
      have H1 : (some (x9_1, 0, t114, t115)) = some (r1, r2, r3, r4) := by rw [if_neg (show ¬ (false = true) by decide)] at H; exact H
      clear H
      have H := H1
      clear H1
      simp only [Option.some.injEq, Prod.mk.injEq] at H
      obtain ⟨rfl, rfl, rfl, rfl⟩ := H
      go_wp2_with (first | ((with_reducible refine gate_callee (f := 96) rfl ?_); refine goesL_ (some 33) rfl rfl Tryd.func96 (by kernel_rfl) rfl #[.pointer (some ⟨g, 0, none⟩)] rfl (by (try simp only [zm, zc, zn]); first | done | rfl | (simp only [zd, zt]; rfl)) ?_; (with_reducible refine (octet_Reader_Bad.calls g s0_0 t107 t108 false t114 t115 w0 _ ?side1 ?side2 A16.out).mono ?_); (case side1 => repeat (first | (with_reducible first | exact HI0.out | apply IsS119.alloc | apply IsS119.drewN | apply IsS119.drew | apply IsS119.set_1 | apply IsS119.set_2) | exact HI0.out)); (case side2 => repeat (first | (with_reducible first | exact HB.out | apply zB | apply zN | apply below_drew1 | refine zE ?_ (IsS119.ge HI0.out)) | exact HB.out)); rintro e w19 ⟨rfl, hi, hb, hk⟩; refine ⟨_, rfl, ?_⟩; replace HO_9 := zA (Kd.R_mono (Kd.R_keep (IsS119.apart (show IsS119 w0 _ g s0_0 t107 t108 from by repeat (first | (with_reducible first | exact HI0.out | apply IsS119.alloc | apply IsS119.drewN | apply IsS119.drew | apply IsS119.set_1 | apply IsS119.set_2) | exact HI0.out)) (by (with_reducible repeat (first | apply zR | apply zS | apply zT)); exact HO_9.out) (by decide)) hk (fun _ h => h.2)) (fun _ h => h.1)); replace HO_20 := zA (Kd.R_mono (Kd.R_keep (IsS119.apart (show IsS119 w0 _ g s0_0 t107 t108 from by repeat (first | (with_reducible first | exact HI0.out | apply IsS119.alloc | apply IsS119.drewN | apply IsS119.drew | apply IsS119.set_1 | apply IsS119.set_2) | exact HI0.out)) (by (with_reducible repeat (first | apply zR | apply zS | apply zT)); exact HO_20.out) (by decide)) hk (fun _ h => h.2)) (fun _ h => h.1)); replace HK := zA (KeepBut.trans (by repeat (first | (with_reducible first | exact HK.out | apply KeepBut.set_ | apply keep_drewN | apply keep_drew | apply keep_alloc) | exact HK.out)) hk (.inl rfl)); replace HB := zA (hb); replace HI0 := zA (hi); (try clear hb); (try clear hb2); (try clear hk); (try clear hi)))
      go_ret2
      exact ⟨_, by first | rfl | (simp [errW_none, errW_some] <;> rfl) | (simp [*, errW_none, errW_some] <;> rfl), by (with_reducible repeat (first | apply zR | apply zS | apply zT)); exact HO_9.out, by repeat (first | (with_reducible first | exact HI0.out | apply IsS119.alloc | apply IsS119.drewN | apply IsS119.drew | apply IsS119.set_1 | apply IsS119.set_2) | exact HI0.out), by repeat (first | (with_reducible first | exact HB.out | apply zB | apply zN | apply below_drew1 | refine zE ?_ (IsS119.ge HI0.out)) | exact HB.out), by repeat (first | (with_reducible first | exact HK.out | apply KeepBut.set_ | apply keep_drewN | apply keep_drew | apply keep_alloc) | exact HK.out)⟩

end Go.Proofs.YtdbfgfgbjheibaaDoor.PNum
end

section
/- Printed by a program of this session (wip/pg.py, over the print of the kit): functions, their Lean twins, and the proofs that the calls come to them; each under the conditions that it names. -/
namespace Go.Proofs.YtdbfgfgbjheibaaDoor.PNum
open Go.Proofs.YtdbfgfgbjheibaaDoor.Given
open Go.RowKit Go.Proofs.YtdbfgfgbjheibaaDoorW.PrintWords Go.Proofs.YtdbfgfgbjheibaaDoorW.PrintLast Go.Proofs.YtdbfgfgbjheibaaDoorW.PrintMore
attribute [local go_sem] max2_int min2_int max_two min_two max_three min_three max_four min_four   -- for this text's walks alone
set_option linter.unusedVariables false
set_option linter.unusedSimpArgs false

end Go.Proofs.YtdbfgfgbjheibaaDoor.PNum
end

section
/- Printed by a program of this session (wip/pg.py, over the print of the kit): functions, their Lean twins, and the proofs that the calls come to them; each under the conditions that it names. -/
namespace Go.Proofs.YtdbfgfgbjheibaaDoor.POp
open Go.Proofs.YtdbfgfgbjheibaaDoor.Given
open Go.RowKit Go.Proofs.YtdbfgfgbjheibaaDoorW.PrintWords Go.Proofs.YtdbfgfgbjheibaaDoorW.PrintLast Go.Proofs.YtdbfgfgbjheibaaDoorW.PrintMore
attribute [local go_sem] max2_int min2_int max_two min_two max_three min_three max_four min_four   -- for this text's walks alone
set_option linter.unusedVariables false
set_option linter.unusedSimpArgs false



def errW : Option Int → Value
 | none => .nilIface
 | some c => .iface 0 (.int .i64 c)
theorem errW_none : errW none = .nilIface := rfl
theorem errW_some (c : Int) : errW (some c) = .iface 0 (.int .i64 c) := rfl

-- the values' own types

end Go.Proofs.YtdbfgfgbjheibaaDoor.POp
end

section
/- Printed by a program of this session (wip/pg.py, over the print of the kit): functions, their Lean twins, and the proofs that the calls come to them; each under the conditions that it names. -/
namespace Go.Proofs.YtdbfgfgbjheibaaDoor.POp
open Go.Proofs.YtdbfgfgbjheibaaDoor.Given
open Go.RowKit Go.Proofs.YtdbfgfgbjheibaaDoorW.PrintWords Go.Proofs.YtdbfgfgbjheibaaDoorW.PrintLast Go.Proofs.YtdbfgfgbjheibaaDoorW.PrintMore
attribute [local go_sem] max2_int min2_int max_two min_two max_three min_three max_four min_four   -- for this text's walks alone
set_option linter.unusedVariables false
set_option linter.unusedSimpArgs false

/-! ### op_Is: function 116 -/
def op_Is.f (a0 : Int) : Option (Bool) := if a0 ≥ 0 then (some (decide (a0 < 38))) else (some false)
set_option maxHeartbeats 8000000 in
set_option maxRecDepth 100000 in
theorem op_Is.calls (a0 : Int) (r : Bool) (w : World) (h : op_Is.f a0 = some r) :
  Calls Tryd.prog 116 #[.int .i64 a0] w fun e w' => e = .returned (.bool r) ∧ Drawn0 w w' := by
 have H : (if a0 ≥ 0 then (some (decide (a0 < 38))) else (some false)) = some r := h
 clear h
 by_cases c2 : a0 ≥ 0
 ·rw [if_pos c2] at H
  have c2b0 : decide (0 ≤ a0) = true := decide_eq_true c2
  clear c2
  obtain rfl := zJ H
  go_enter Tryd.func116, Tryd.ntmps116
  go_wp2
  go_ret
  exact ⟨by first | rfl | (simp; done) | (simp [*]; done), by repeat (first | exact z4 _ | apply z3)⟩
 ·rw [if_neg c2] at H
  have c2b0 : decide (0 ≤ a0) = false := decide_eq_false c2
  clear c2
  obtain rfl := zJ H
  go_enter Tryd.func116, Tryd.ntmps116
  go_wp2
  go_ret
  exact ⟨by first | rfl | (simp; done) | (simp [*]; done), by repeat (first | exact z4 _ | apply z3)⟩

/-! ### op_may: function 117 -/
def op_may.f (a0 : Int) (a1 : Int) : Option (Bool) := if a1 = 0 then (some (a0 == 0)) else (if a0 ≥ 0 then (some (decide (a0 ≤ 65535))) else (some false))
set_option maxHeartbeats 8000000 in
set_option maxRecDepth 100000 in
theorem op_may.calls (a0 : Int) (a1 : Int) (r : Bool) (w : World) (h : op_may.f a0 a1 = some r) :
  Calls Tryd.prog 117 #[.int .i64 a0, .int .i64 a1] w fun e w' => e = .returned (.bool r) ∧ Drawn0 w w' := by
 have H : (if a1 = 0 then (some (a0 == 0)) else (if a0 ≥ 0 then (some (decide (a0 ≤ 65535))) else (some false))) = some r := h
 clear h
 by_cases c3 : a1 = 0
 ·rw [if_pos c3] at H
  have c3b0 : (a1 == 0) = true := beq_iff_eq.mpr c3
  have c3b1 : (a1 != 0) = false := bne_eq_false_iff_eq.mpr c3
  clear c3
  obtain rfl := zJ H
  go_enter Tryd.func117, Tryd.ntmps117
  go_wp2
  go_ret
  exact ⟨by first | rfl | (simp; done) | (simp [*]; done), by repeat (first | exact z4 _ | apply z3)⟩
 ·rw [if_neg c3] at H
  have c3b0 : (a1 == 0) = false := beq_eq_false_iff_ne.mpr c3
  have c3b1 : (a1 != 0) = true := bne_iff_ne.mpr c3
  by_cases c4 : a0 ≥ 0
  ·rw [if_pos c4] at H
   have c4b0 : decide (0 ≤ a0) = true := decide_eq_true c4
   clear c4
   obtain rfl := zJ H
   go_enter Tryd.func117, Tryd.ntmps117
   go_wp2
   go_ret
   exact ⟨by first | rfl | (simp; done) | (simp [*]; done), by repeat (first | exact z4 _ | apply z3)⟩
  ·rw [if_neg c4] at H
   have c4b0 : decide (0 ≤ a0) = false := decide_eq_false c4
   clear c4
   obtain rfl := zJ H
   go_enter Tryd.func117, Tryd.ntmps117
   go_wp2
   go_ret
   exact ⟨by first | rfl | (simp; done) | (simp [*]; done), by repeat (first | exact z4 _ | apply z3)⟩

/-! ### op_Right: function 105 -/
def op_Right.f (a0_0 : Int) (a0_1 : Int) (a0_2 : Int) : Option (Bool) := (op_Shape.f a0_0).bind fun bt102 => ((op_Is.f a0_0).bind fun t104 => (if t104 = true then ((op_may.f a0_1 bt102.1).bind fun t105 => (if t105 = true then ((op_may.f a0_2 bt102.2).bind fun t106 => (some t106)) else (some false))) else (some false)))
set_option maxHeartbeats 8000000 in
set_option maxRecDepth 100000 in
theorem op_Right.calls (a0_0 : Int) (a0_1 : Int) (a0_2 : Int) (r : Bool) (w : World) (h : op_Right.f a0_0 a0_1 a0_2 = some r) (hL_ : LaidOps w) :
  Calls Tryd.prog 105 #[.agg #[.int .i64 a0_0, .int .i64 a0_1, .int .i64 a0_2]] w fun e w' => e = .returned (.bool r) ∧ Below w.heap.size w w' := by
 have HL_ := zA hL_
 clear hL_
 have hu109 := Tryd.underlying109
 have HB := zA (zX w.heap.size w)
 have H : ((op_Shape.f a0_0).bind fun bt102 => ((op_Is.f a0_0).bind fun t104 => (if t104 = true then ((op_may.f a0_1 bt102.1).bind fun t105 => (if t105 = true then ((op_may.f a0_2 bt102.2).bind fun t106 => (some t106)) else (some false))) else (some false)))) = some r := h
 clear h
 replace H := Option.bind_eq_some_iff.mp H
 obtain ⟨⟨t102, t103⟩, A20, H⟩ := H
 replace H : ((op_Is.f a0_0).bind fun t104 => (if t104 = true then ((op_may.f a0_1 t102).bind fun t105 => (if t105 = true then ((op_may.f a0_2 t103).bind fun t106 => (some t106)) else (some false))) else (some false))) = some r := H
 have A2 := zA A20
 clear A20
 replace H := Option.bind_eq_some_iff.mp H
 obtain ⟨t104, A30, H⟩ := H
 replace H : (if t104 = true then ((op_may.f a0_1 t102).bind fun t105 => (if t105 = true then ((op_may.f a0_2 t103).bind fun t106 => (some t106)) else (some false))) else (some false)) = some r := H
 have A3 := zA A30
 clear A30
 by_cases c4 : t104 = true
 ·subst c4
  have H1 : ((op_may.f a0_1 t102).bind fun t105 => (if t105 = true then ((op_may.f a0_2 t103).bind fun t106 => (some t106)) else (some false))) = some r := by rw [if_pos rfl] at H; exact H
  clear H
  have H := H1
  clear H1
  replace H := Option.bind_eq_some_iff.mp H
  obtain ⟨t105, A50, H⟩ := H
  replace H : (if t105 = true then ((op_may.f a0_2 t103).bind fun t106 => (some t106)) else (some false)) = some r := H
  have A5 := zA A50
  clear A50
  by_cases c6 : t105 = true
  ·subst c6
   have H1 : ((op_may.f a0_2 t103).bind fun t106 => (some t106)) = some r := by rw [if_pos rfl] at H; exact H
   clear H
   have H := H1
   clear H1
   replace H := Option.bind_eq_some_iff.mp H
   obtain ⟨t106, A70, H⟩ := H
   replace H : (some t106) = some r := H
   have A7 := zA A70
   clear A70
   obtain rfl := zJ H
   go_enter Tryd.func105, Tryd.ntmps105
   go_wp2_with (first | ((with_reducible refine gate_dst (N := 1) rfl ?_); refine box_event ?hg (N := 1) ?hd (cs := #[.int .i64 a0_0, .int .i64 a0_1, .int .i64 a0_2]) (t := 109) ?hr ?_; (case hd => rfl); (case hg => rfl); (case hr => first | (go_simp; done) | (go_simp; rfl)); intro gb101 hg w8 hbox hb; have BK101 := zA (hbox); have GW101 := zA ((by rw [hg]; exact (below_size (by repeat (first | (with_reducible first | exact HB.out | apply zB | apply zN | apply below_drew1) | exact HB.out))) : w.heap.size ≤ gb101)); have GE101 := GW101; replace HB := zA (below_step (by repeat (first | (with_reducible first | exact HB.out | apply zB | apply zN | apply below_drew1) | exact HB.out)) hb); clear hb hbox hg; have hcz9_0 : w8.cell? ⟨gb101, 0, none⟩ = some (.int .i64 a0_0) := (zC BK101.out 0).trans rfl; have hcz9_1 : w8.cell? ⟨gb101, 1, none⟩ = some (.int .i64 a0_1) := (zC BK101.out 1).trans rfl; have hcz9_2 : w8.cell? ⟨gb101, 2, none⟩ = some (.int .i64 a0_2) := (zC BK101.out 2).trans rfl; have hfz9_0 := zF BK101.out 0; have hfz9_1 := zF BK101.out 1; have hfz9_2 := zF BK101.out 2) | ((with_reducible refine gate_callee (f := 115) rfl ?_); refine goesL_ (some 8) rfl rfl Tryd.func115 (by kernel_rfl) rfl #[.int .i64 a0_0] rfl (by (try simp only [zm, zc, zn]); first | done | rfl | (simp only [zd, zt]; rfl)) ?_; (with_reducible refine (op_Shape.calls a0_0 t102 t103 _ A2.out (LaidOps.below HL_.out (by repeat (first | (with_reducible first | exact HB.out | apply zB | apply zN | apply below_drew1 | refine zE ?_ GE101.out) | exact HB.out)))).mono ?_); rintro e w10 ⟨rfl, hb⟩; refine ⟨_, rfl, ?_⟩; replace BK101 := zA (zQ (g := gb101) (o := .cells #[.int .i64 a0_0, .int .i64 a0_1, .int .i64 a0_2] 109 (0, 0)) (by (with_reducible repeat (first | refine zG ?_ _ | refine zH ?_)); exact BK101.out) hb); replace HB := zA (below_step (by repeat (first | (with_reducible first | exact HB.out | apply zB | apply zN | apply below_drew1 | refine zE ?_ GE101.out) | exact HB.out)) hb); (try clear hb); (try clear hb2); (try clear hk); (try clear hi); have hcz11_0 : w10.cell? ⟨gb101, 0, none⟩ = some (.int .i64 a0_0) := (zC BK101.out 0).trans rfl; have hcz11_1 : w10.cell? ⟨gb101, 1, none⟩ = some (.int .i64 a0_1) := (zC BK101.out 1).trans rfl; have hcz11_2 : w10.cell? ⟨gb101, 2, none⟩ = some (.int .i64 a0_2) := (zC BK101.out 2).trans rfl; have hfz11_0 := zF BK101.out 0; have hfz11_1 := zF BK101.out 1; have hfz11_2 := zF BK101.out 2) | ((with_reducible refine gate_callee (f := 116) rfl ?_); refine goesL_ (some 13) rfl rfl Tryd.func116 (by kernel_rfl) rfl #[.int .i64 a0_0] rfl (by (try simp only [zm, zc, zn]); first | done | rfl | (simp only [zd, zt]; rfl)) ?_; (with_reducible refine (op_Is.calls a0_0 true _ A3.out).mono ?_); rintro e w' ⟨rfl, ⟨nd, rfl⟩⟩; refine ⟨_, rfl, ?_⟩) | (go_at_call 117; (with_reducible refine (op_may.calls a0_1 t102 true _ A5.out).mono ?_); rintro e w' ⟨rfl, ⟨nd, rfl⟩⟩) | (go_at_call 117; (with_reducible refine (op_may.calls a0_2 t103 t106 _ A7.out).mono ?_); rintro e w' ⟨rfl, ⟨nd, rfl⟩⟩))
   go_ret
   exact ⟨by first | rfl | (simp [errW_none, errW_some] <;> rfl) | (simp [*, errW_none, errW_some] <;> rfl), by repeat (first | (with_reducible first | exact HB.out | apply zB | apply zN | apply below_drew1 | refine zE ?_ GE101.out) | exact HB.out)⟩
  ·replace c6 := Bool.eq_false_iff.mpr c6
   subst c6
   have H1 : (some false) = some r := by rw [if_neg (show ¬ (false = true) by decide)] at H; exact H
   clear H
   have H := H1
   clear H1
   obtain rfl := zJ H
   go_enter Tryd.func105, Tryd.ntmps105
   go_wp2_with (first | ((with_reducible refine gate_dst (N := 1) rfl ?_); refine box_event ?hg (N := 1) ?hd (cs := #[.int .i64 a0_0, .int .i64 a0_1, .int .i64 a0_2]) (t := 109) ?hr ?_; (case hd => rfl); (case hg => rfl); (case hr => first | (go_simp; done) | (go_simp; rfl)); intro gb101 hg w12 hbox hb; have BK101 := zA (hbox); have GW101 := zA ((by rw [hg]; exact (below_size (by repeat (first | (with_reducible first | exact HB.out | apply zB | apply zN | apply below_drew1) | exact HB.out))) : w.heap.size ≤ gb101)); have GE101 := GW101; replace HB := zA (below_step (by repeat (first | (with_reducible first | exact HB.out | apply zB | apply zN | apply below_drew1) | exact HB.out)) hb); clear hb hbox hg; have hcz13_0 : w12.cell? ⟨gb101, 0, none⟩ = some (.int .i64 a0_0) := (zC BK101.out 0).trans rfl; have hcz13_1 : w12.cell? ⟨gb101, 1, none⟩ = some (.int .i64 a0_1) := (zC BK101.out 1).trans rfl; have hcz13_2 : w12.cell? ⟨gb101, 2, none⟩ = some (.int .i64 a0_2) := (zC BK101.out 2).trans rfl; have hfz13_0 := zF BK101.out 0; have hfz13_1 := zF BK101.out 1; have hfz13_2 := zF BK101.out 2) | ((with_reducible refine gate_callee (f := 115) rfl ?_); refine goesL_ (some 8) rfl rfl Tryd.func115 (by kernel_rfl) rfl #[.int .i64 a0_0] rfl (by (try simp only [zm, zc, zn]); first | done | rfl | (simp only [zd, zt]; rfl)) ?_; (with_reducible refine (op_Shape.calls a0_0 t102 t103 _ A2.out (LaidOps.below HL_.out (by repeat (first | (with_reducible first | exact HB.out | apply zB | apply zN | apply below_drew1 | refine zE ?_ GE101.out) | exact HB.out)))).mono ?_); rintro e w14 ⟨rfl, hb⟩; refine ⟨_, rfl, ?_⟩; replace BK101 := zA (zQ (g := gb101) (o := .cells #[.int .i64 a0_0, .int .i64 a0_1, .int .i64 a0_2] 109 (0, 0)) (by (with_reducible repeat (first | refine zG ?_ _ | refine zH ?_)); exact BK101.out) hb); replace HB := zA (below_step (by repeat (first | (with_reducible first | exact HB.out | apply zB | apply zN | apply below_drew1 | refine zE ?_ GE101.out) | exact HB.out)) hb); (try clear hb); (try clear hb2); (try clear hk); (try clear hi); have hcz15_0 : w14.cell? ⟨gb101, 0, none⟩ = some (.int .i64 a0_0) := (zC BK101.out 0).trans rfl; have hcz15_1 : w14.cell? ⟨gb101, 1, none⟩ = some (.int .i64 a0_1) := (zC BK101.out 1).trans rfl; have hcz15_2 : w14.cell? ⟨gb101, 2, none⟩ = some (.int .i64 a0_2) := (zC BK101.out 2).trans rfl; have hfz15_0 := zF BK101.out 0; have hfz15_1 := zF BK101.out 1; have hfz15_2 := zF BK101.out 2) | ((with_reducible refine gate_callee (f := 116) rfl ?_); refine goesL_ (some 13) rfl rfl Tryd.func116 (by kernel_rfl) rfl #[.int .i64 a0_0] rfl (by (try simp only [zm, zc, zn]); first | done | rfl | (simp only [zd, zt]; rfl)) ?_; (with_reducible refine (op_Is.calls a0_0 true _ A3.out).mono ?_); rintro e w' ⟨rfl, ⟨nd, rfl⟩⟩; refine ⟨_, rfl, ?_⟩) | (go_at_call 117; (with_reducible refine (op_may.calls a0_1 t102 false _ A5.out).mono ?_); rintro e w' ⟨rfl, ⟨nd, rfl⟩⟩))
   go_ret
   exact ⟨by first | rfl | (simp [errW_none, errW_some] <;> rfl) | (simp [*, errW_none, errW_some] <;> rfl), by repeat (first | (with_reducible first | exact HB.out | apply zB | apply zN | apply below_drew1 | refine zE ?_ GE101.out) | exact HB.out)⟩
 ·replace c4 := Bool.eq_false_iff.mpr c4
  subst c4
  have H1 : (some false) = some r := by rw [if_neg (show ¬ (false = true) by decide)] at H; exact H
  clear H
  have H := H1
  clear H1
  obtain rfl := zJ H
  go_enter Tryd.func105, Tryd.ntmps105
  go_wp2_with (first | ((with_reducible refine gate_dst (N := 1) rfl ?_); refine box_event ?hg (N := 1) ?hd (cs := #[.int .i64 a0_0, .int .i64 a0_1, .int .i64 a0_2]) (t := 109) ?hr ?_; (case hd => rfl); (case hg => rfl); (case hr => first | (go_simp; done) | (go_simp; rfl)); intro gb101 hg w16 hbox hb; have BK101 := zA (hbox); have GW101 := zA ((by rw [hg]; exact (below_size (by repeat (first | (with_reducible first | exact HB.out | apply zB | apply zN | apply below_drew1) | exact HB.out))) : w.heap.size ≤ gb101)); have GE101 := GW101; replace HB := zA (below_step (by repeat (first | (with_reducible first | exact HB.out | apply zB | apply zN | apply below_drew1) | exact HB.out)) hb); clear hb hbox hg; have hcz17_0 : w16.cell? ⟨gb101, 0, none⟩ = some (.int .i64 a0_0) := (zC BK101.out 0).trans rfl; have hcz17_1 : w16.cell? ⟨gb101, 1, none⟩ = some (.int .i64 a0_1) := (zC BK101.out 1).trans rfl; have hcz17_2 : w16.cell? ⟨gb101, 2, none⟩ = some (.int .i64 a0_2) := (zC BK101.out 2).trans rfl; have hfz17_0 := zF BK101.out 0; have hfz17_1 := zF BK101.out 1; have hfz17_2 := zF BK101.out 2) | ((with_reducible refine gate_callee (f := 115) rfl ?_); refine goesL_ (some 8) rfl rfl Tryd.func115 (by kernel_rfl) rfl #[.int .i64 a0_0] rfl (by (try simp only [zm, zc, zn]); first | done | rfl | (simp only [zd, zt]; rfl)) ?_; (with_reducible refine (op_Shape.calls a0_0 t102 t103 _ A2.out (LaidOps.below HL_.out (by repeat (first | (with_reducible first | exact HB.out | apply zB | apply zN | apply below_drew1 | refine zE ?_ GE101.out) | exact HB.out)))).mono ?_); rintro e w18 ⟨rfl, hb⟩; refine ⟨_, rfl, ?_⟩; replace BK101 := zA (zQ (g := gb101) (o := .cells #[.int .i64 a0_0, .int .i64 a0_1, .int .i64 a0_2] 109 (0, 0)) (by (with_reducible repeat (first | refine zG ?_ _ | refine zH ?_)); exact BK101.out) hb); replace HB := zA (below_step (by repeat (first | (with_reducible first | exact HB.out | apply zB | apply zN | apply below_drew1 | refine zE ?_ GE101.out) | exact HB.out)) hb); (try clear hb); (try clear hb2); (try clear hk); (try clear hi); have hcz19_0 : w18.cell? ⟨gb101, 0, none⟩ = some (.int .i64 a0_0) := (zC BK101.out 0).trans rfl; have hcz19_1 : w18.cell? ⟨gb101, 1, none⟩ = some (.int .i64 a0_1) := (zC BK101.out 1).trans rfl; have hcz19_2 : w18.cell? ⟨gb101, 2, none⟩ = some (.int .i64 a0_2) := (zC BK101.out 2).trans rfl; have hfz19_0 := zF BK101.out 0; have hfz19_1 := zF BK101.out 1; have hfz19_2 := zF BK101.out 2) | ((with_reducible refine gate_callee (f := 116) rfl ?_); refine goesL_ (some 13) rfl rfl Tryd.func116 (by kernel_rfl) rfl #[.int .i64 a0_0] rfl (by (try simp only [zm, zc, zn]); first | done | rfl | (simp only [zd, zt]; rfl)) ?_; (with_reducible refine (op_Is.calls a0_0 false _ A3.out).mono ?_); rintro e w' ⟨rfl, ⟨nd, rfl⟩⟩; refine ⟨_, rfl, ?_⟩))
  go_ret
  exact ⟨by first | rfl | (simp [errW_none, errW_some] <;> rfl) | (simp [*, errW_none, errW_some] <;> rfl), by repeat (first | (with_reducible first | exact HB.out | apply zB | apply zN | apply below_drew1 | refine zE ?_ GE101.out) | exact HB.out)⟩

/-! ### op_Real: function 119 -/
def op_Real.f (a0 : Int) : Option (Bool) := if a0 ≥ 48 then (some (decide (a0 ≤ 55))) else (some false)
set_option maxHeartbeats 8000000 in
set_option maxRecDepth 100000 in
theorem op_Real.calls (a0 : Int) (r : Bool) (w : World) (h : op_Real.f a0 = some r) :
  Calls Tryd.prog 119 #[.int .i64 a0] w fun e w' => e = .returned (.bool r) ∧ Drawn0 w w' := by
 have H : (if a0 ≥ 48 then (some (decide (a0 ≤ 55))) else (some false)) = some r := h
 clear h
 by_cases c2 : a0 ≥ 48
 ·rw [if_pos c2] at H
  have c2b0 : decide (48 ≤ a0) = true := decide_eq_true c2
  clear c2
  obtain rfl := zJ H
  go_enter Tryd.func119, Tryd.ntmps119
  go_wp2
  go_ret
  exact ⟨by first | rfl | (simp; done) | (simp [*]; done), by repeat (first | exact z4 _ | apply z3)⟩
 ·rw [if_neg c2] at H
  have c2b0 : decide (48 ≤ a0) = false := decide_eq_false c2
  clear c2
  obtain rfl := zJ H
  go_enter Tryd.func119, Tryd.ntmps119
  go_wp2
  go_ret
  exact ⟨by first | rfl | (simp; done) | (simp [*]; done), by repeat (first | exact z4 _ | apply z3)⟩

end Go.Proofs.YtdbfgfgbjheibaaDoor.POp
end

section
/- Five bytes as an instruction, as the program reads them; any five bytes, the operations' table as the program lays it. -/
namespace Go.Proofs.YtdbfgfgbjheibaaDoor.Given
set_option linter.unusedVariables false
set_option linter.unusedSimpArgs false
open Go.RowKit Go.Proofs.YtdbfgfgbjheibaaDoorW.PrintWords Go.Proofs.YtdbfgfgbjheibaaDoorW.PrintLast Go.Proofs.YtdbfgfgbjheibaaDoorW.PrintMore
open Go.Proofs.YtdbfgfgbjheibaaDoor
def right3 (x y z : Int) : Bool := POp.op_Right.f x y z == some true
def isReal (x : Int) : Bool := POp.op_Real.f x == some true
theorem right_some (x y z : Int) : POp.op_Right.f x y z = some (right3 x y z) := by
 have : ∃ r, POp.op_Right.f x y z = some r := by
  unfold POp.op_Right.f op_Shape.f POp.op_Is.f POp.op_may.f
  simp only [zP]
  repeat' split
  all_goals first | exact ⟨_, rfl⟩ | (simp only [zP]; repeat' split) 
  all_goals first | exact ⟨_, rfl⟩ | (simp only [zP]; repeat' split) 
  all_goals exact ⟨_, rfl⟩
 obtain ⟨r, hr⟩ := this
 unfold right3
 rw [hr]
 cases r <;> rfl
theorem real_some (x : Int) : POp.op_Real.f x = some (isReal x) := by
 have : ∃ r, POp.op_Real.f x = some r := by
  unfold POp.op_Real.f
  split <;> exact ⟨_, rfl⟩
 obtain ⟨r, hr⟩ := this
 unfold isReal
 rw [hr]
 cases r <;> rfl
/-- The error of an instruction. -/
def errI (x y z : Int) : Int := if isReal x then 6 else if right3 x y z then 0 else 7
set_option maxHeartbeats 2000000 in
theorem one_calls (A0 : Option Addr) (c0 : Nat) (L : List Int) (x y z : Int) (w : World) (hr0 : Kd.C (Kd.int .u8) w A0 L.length L) (hc0 : L.length ≤ c0) (hl : L.length ≤ 1000000000) (hb : okB L = true)
  (n1 : numR L 0 false 1 = (x, 1, false)) (n2 : numR L 1 false 2 = (y, 3, false)) (n3 : numR L 3 false 2 = (z, 5, false)) (hL : LaidOps w) :
  Calls Tryd.prog 118 #[.slice A0 L.length c0] w fun e w' => e = .returned (.tuple #[.agg #[.int .i64 x, .int .i64 y, .int .i64 z], .int .i64 (errI x y z)]) ∧ Below w.heap.size w w' := by
 have N1 := zA n1
 have N2 := zA n2
 have N3 := zA n3
 have OB := zA hb
 have HL := zA hL
 clear n1 n2 n3 hb hL
 go_enter Tryd.func118, Tryd.ntmps118
 go_wp2_with fail
 have hW := (zX w.heap.size w).alloc (z5 _) (.cells #[.int .i64 0, .int .i64 0, .int .i64 0] 109)
 have hbox : (w.alloc (.cells #[.int .i64 0, .int .i64 0, .int .i64 0] 109)).heap[w.heap.size]? = some (.cells #[.int .i64 0, .int .i64 0, .int .i64 0] 109 (0, 0)) := heap_alloc_new w _
 refine (new_calls A0 c0 L _ (zD hr0 hW) hc0 hl).mono ?_
 rintro e w8 ⟨w7, g, rfl, hI8, hb7, hb8⟩
 have hb7' := hb7.size
 have hg : w.heap.size ≠ g := by
  have := hI8.ge
  simp at hb7'
  omega
 have hB7 := hW.trans (hb7.mono hW.size)
 have hx := (hb8.block w.heap.size (by have := hb7.size; simp at this; omega)).trans ((hb7.block w.heap.size (by simp)).trans hbox)
 clear hbox hb7 hb7'
 go_wp2_with fail
 refine (num_calls g w7 _ L 0 false 1 hI8 hb8 OB.out).mono ?_
 rw [N1.out]
 rintro e w9 ⟨rfl, hI9, hb9, hk9⟩
 go_wp2_with fail
 refine (num_calls g w7 _ L 1 false 2 hI9 hb9 OB.out).mono ?_
 rw [N2.out]
 rintro e w10 ⟨rfl, hI10, hb10, hk10⟩
 go_wp2_with fail
 refine (num_calls g w7 _ L 3 false 2 hI10 hb10 OB.out).mono ?_
 rw [N3.out]
 rintro e w11 ⟨rfl, hI11, hb11, hk11⟩
 have hx2 := hk11.blk (hk10.blk (hk9.blk hx hg (by simp)) hg (by simp)) hg (by simp)
 have hB11 := hB7.trans (hb11.mono hB7.size)
 clear hI8 hI9 hI10 hI11 hb8 hb9 hb10 hb11 hk9 hk10 hk11 hx hr0
 have HX := zA (((zX w11.heap.size w11).alloc (z5 _) (.cells #[.int .i64 x, .int .i64 y, .int .i64 z] 109)).block w.heap.size (blk_lt hx2) |>.trans hx2)
 have hi : (Tryd.prog.info? 109).map (·.size) = some 3 := by kernel_rfl
 have HB := zA (hB11.alloc hB11.size (.cells #[.int .i64 x, .int .i64 y, .int .i64 z] 109))
 clear hB11
 have hre := real_some x
 have hri := right_some x y z
 cases hr : isReal x
 ·rw [hr] at hre
  have HRe := zA hre
  clear hre
  cases hq : right3 x y z
  all_goals (
   rw [hq] at hri
   have HRi := zA hri
   first | have HE := zA (show errI x y z = 0 by unfold errI; rw [hr, hq]; rfl) | have HE := zA (show errI x y z = 7 by unfold errI; rw [hr, hq]; rfl)
   clear hri hq hr
   go_wp2_with fail
   refine (POp.op_Real.calls x false _ HRe.out).mono ?_
   rintro e w12 ⟨rfl, m, rfl⟩
   go_wp2_with fail
   refine (POp.op_Right.calls x y z _ _ HRi.out (HL.out.below (zN HB.out m))).mono ?_
   rintro e w13 ⟨rfl, hb13⟩
   have hB13 := (zN HB.out m).trans (hb13.mono (zN HB.out m).size)
   have hbi : w13.heap[w11.heap.size]? = some (.cells #[.int .i64 x, .int .i64 y, .int .i64 z] 109 (0, 0)) := (hb13.block w11.heap.size (blk_lt (w := (w11.alloc (.cells #[.int .i64 x, .int .i64 y, .int .i64 z] 109)).drewN m) (heap_alloc_new w11 _))).trans (heap_alloc_new w11 _)
   have q0 : w13.cell? ⟨w11.heap.size, 0, none⟩ = some (.int .i64 x) := (zC hbi 0).trans rfl
   have q1 : w13.cell? ⟨w11.heap.size, 1, none⟩ = some (.int .i64 y) := (zC hbi 1).trans rfl
   have q2 : w13.cell? ⟨w11.heap.size, 2, none⟩ = some (.int .i64 z) := (zC hbi 2).trans rfl
   have hx3 := (hb13.block w.heap.size (blk_lt (w := (w11.alloc (.cells #[.int .i64 x, .int .i64 y, .int .i64 z] 109)).drewN m) HX.out)).trans HX.out
   go_wp2_with (first | ((with_reducible refine gate_store (t := 109) (p := 2) (v := .tmp 24) rfl ?_); refine wpList_store_row rfl 109 (.tmp 2) (.tmp 24) rfl w.heap.size #[.int .i64 x, .int .i64 y, .int .i64 z] rfl rfl 109 _ hx3 (by rw [hi]; rfl) rfl (by kernel_rfl) ?_) | ((with_reducible refine gate_store (t := 109) (p := 2) (v := .tmp 25) rfl ?_); refine wpList_store_row rfl 109 (.tmp 2) (.tmp 25) rfl w.heap.size #[.int .i64 x, .int .i64 y, .int .i64 z] rfl rfl 109 _ hx3 (by rw [hi]; rfl) rfl (by kernel_rfl) ?_))
   refine bodyPost_ret (results_ct rfl _ _ w.heap.size 109 #[.int .i64 x, .int .i64 y, .int .i64 z] (0, 0) _ rfl (setRow_heap _ _ _ _ _ _ hx3) Tryd.underlying109 rfl hi) rfl ?_
   rw [HE.out]
   exact ⟨rfl, below_setRow hB13 (z5 _) _⟩)
 ·rw [hr] at hre
  have HRe := zA hre
  have HE := zA (show errI x y z = 6 by unfold errI; rw [hr]; rfl)
  clear hre hr hri
  go_wp2_with fail
  refine (POp.op_Real.calls x true _ HRe.out).mono ?_
  rintro e w12 ⟨rfl, m, rfl⟩
  go_wp2_with ((with_reducible refine gate_store (t := 109) (p := 2) (v := .tmp 19) rfl ?_); refine wpList_store_row rfl 109 (.tmp 2) (.tmp 19) rfl w.heap.size #[.int .i64 x, .int .i64 y, .int .i64 z] rfl rfl 109 _ HX.out (by rw [hi]; rfl) rfl (by kernel_rfl) ?_)
  refine bodyPost_ret (results_ct rfl _ _ w.heap.size 109 #[.int .i64 x, .int .i64 y, .int .i64 z] (0, 0) _ rfl (setRow_heap _ _ _ _ _ _ (show ((w11.alloc (.cells #[.int .i64 x, .int .i64 y, .int .i64 z] 109)).drewN m).heap[w.heap.size]? = _ from HX.out)) Tryd.underlying109 rfl hi) rfl ?_
  rw [HE.out]
  exact ⟨rfl, below_setRow (zN HB.out m) (z5 _) _⟩
end Go.Proofs.YtdbfgfgbjheibaaDoor.Given
end

section
/- Printed by a program of this session (wip/pg.py, over the print of the kit): functions, their Lean twins, and the proofs that the calls come to them; each under the conditions that it names. -/
namespace Go.Proofs.YtdbfgfgbjheibaaDoor.PCod

open Go.RowKit Go.Proofs.YtdbfgfgbjheibaaDoorW.PrintWords Go.Proofs.YtdbfgfgbjheibaaDoorW.PrintLast Go.Proofs.YtdbfgfgbjheibaaDoorW.PrintMore
attribute [local go_sem] max2_int min2_int max_two min_two max_three min_three max_four min_four   -- for this text's walks alone
set_option linter.unusedVariables false
set_option linter.unusedSimpArgs false



def errW : Option Int → Value
 | none => .nilIface
 | some c => .iface 0 (.int .i64 c)
theorem errW_none : errW none = .nilIface := rfl
theorem errW_some (c : Int) : errW (some c) = .iface 0 (.int .i64 c) := rfl

theorem info109 : (Tryd.prog.info? 109).map (fun i => (i.zero, i.size, i.bytes)) = some (some (.agg #[(.int .i64 0), (.int .i64 0), (.int .i64 0)]), 3, 24) := by kernel_rfl
-- the values' own types
/-! #### struct type 109 -/
structure S109 where
 f0 : Int
 f1 : Int
 f2 : Int
def z109 : S109 := ⟨(0 : Int), (0 : Int), (0 : Int)⟩
def k109 : Kd S109 := Kd.iso (Kd.pair (Kd.int .i64) (Kd.pair (Kd.int .i64) (Kd.int .i64))) (fun x : S109 => (x.f0, x.f1, x.f2))
theorem k109_mkM (w : World) (base : Nat) (ok : Nat → Prop) (x : S109)  : k109.M w base ok x [.int .i64 x.f0, .int .i64 x.f1, .int .i64 x.f2] := ⟨[.int .i64 x.f0], [.int .i64 x.f1, .int .i64 x.f2], rfl, rfl, ⟨[.int .i64 x.f1], [.int .i64 x.f2], rfl, rfl, rfl⟩⟩
def rd_T109 (xs : List S109) (i : Int) : S109 := xs.getD i.toNat z109
end Go.Proofs.YtdbfgfgbjheibaaDoor.PCod
end

section
/- Bytes as instructions, as the program reads them; bytes of at most 1000000 in length, the operations' table as the program lays it. -/
namespace Go.Proofs.YtdbfgfgbjheibaaDoor.Given
set_option linter.unusedVariables false
set_option linter.unusedSimpArgs false
open Go.RowKit Go.Proofs.YtdbfgfgbjheibaaDoorW.PrintWords Go.Proofs.YtdbfgfgbjheibaaDoorW.PrintLast Go.Proofs.YtdbfgfgbjheibaaDoorW.PrintMore
open Go.Proofs.YtdbfgfgbjheibaaDoor
abbrev InS := PCod.S109
abbrev inK := PCod.k109
/-- Bytes as instructions; or how many there were, and the error. -/
def decF : Nat → List Int → List InS → List InS × Int × Int
 | 0, _, out => (out, 0, 0)
 | n + 1, a :: b :: c :: d :: e :: t, out => if errI a (b + 256 * c) (d + 256 * e) = 0 then decF n t (out ++ [⟨a, b + 256 * c, d + 256 * e⟩]) else ([], out.length, errI a (b + 256 * c) (d + 256 * e))
 | _ + 1, [], out => (out, 0, 0)
 | _ + 1, _ :: _, out => ([], out.length, 1)
theorem num1 (a b c d e : Int) (h : okB [a, b, c, d, e] = true) : numR [a, b, c, d, e] 0 false 1 = (a, 1, false) := by
 have hr := (okB_all h).1
 have ha := hr a (by simp)
 unfold numR
 rw [show mx 0 (mn 1 8) = 1 by decide, if_pos (show okR [a, b, c, d, e] 0 false 1 from ⟨rfl, by decide, by simp⟩)]
 show (wrap64 (a + 256 * 0), _, _) = _
 rw [show wrap64 (a + 256 * 0) = a by unfold wrap64; omega]
 rfl
theorem num2 (a b c d e : Int) (h : okB [a, b, c, d, e] = true) : numR [a, b, c, d, e] 1 false 2 = (b + 256 * c, 3, false) := by
 have hr := (okB_all h).1
 have hb := hr b (by simp)
 have hc := hr c (by simp)
 unfold numR
 rw [show mx 0 (mn 2 8) = 2 by decide, if_pos (show okR [a, b, c, d, e] 1 false 2 from ⟨rfl, by decide, by simp⟩)]
 show (wrap64 (b + 256 * (c + 256 * 0)), _, _) = _
 rw [show wrap64 (b + 256 * (c + 256 * 0)) = b + 256 * c by unfold wrap64; omega]
 rfl
theorem num3 (a b c d e : Int) (h : okB [a, b, c, d, e] = true) : numR [a, b, c, d, e] 3 false 2 = (d + 256 * e, 5, false) := by
 have hr := (okB_all h).1
 have hd := hr d (by simp)
 have he := hr e (by simp)
 unfold numR
 rw [show mx 0 (mn 2 8) = 2 by decide, if_pos (show okR [a, b, c, d, e] 3 false 2 from ⟨rfl, by decide, by simp⟩)]
 show (wrap64 (d + 256 * (e + 256 * 0)), _, _) = _
 rw [show wrap64 (d + 256 * (e + 256 * 0)) = d + 256 * e by unfold wrap64; omega]
 rfl
def lenOf : Value → Nat
 | .slice _ n _ => n
 | _ => 0
set_option maxHeartbeats 4000000 in
set_option maxRecDepth 100000 in
theorem decode_calls (A0 : Option Addr) (c0 : Nat) (l0 : List Int) (r : List InS × Int × Int) (w : World) (hr0 : Kd.C (Kd.int .u8) w A0 l0.length l0) (hc0 : l0.length ≤ c0) (hl : l0.length ≤ 1000000) (hb : okB l0 = true) (hr : decF l0.length l0 [] = r) (hL : LaidOps w) :
  Calls Tryd.prog 110 #[.slice A0 l0.length c0] w fun e w' => ∃ v0_ : Value, e = .returned (.tuple #[v0_, .int .i64 r.2.1, .int .i64 r.2.2]) ∧ Kd.R inK 109 w' w.heap.size (fun _ => True) v0_ r.1 ∧ Below w.heap.size w w' := by
 have HR0 := zA hr0
 have HR := zA hr
 have HO := zA hb
 have HL := zA hL
 have HLl := zA hl
 clear hr0 hr hb hL
 go_enter Tryd.func110, Tryd.ntmps110
 go_wp2_with fail
 go_loopw [0, 5] (fun bv ov wr => ∃ (A : Option Addr) (c n : Nat) (l : List Int) (out : List InS), bv = .slice A l.length c ∧ l.length ≤ c ∧ l.length ≤ n ∧ Aside0 (l.length + out.length ≤ 1000000) ∧ Aside0 (okB l = true) ∧ Aside0 (Kd.C (Kd.int .u8) w A l.length l) ∧ Aside0 (Kd.R inK 109 wr w.heap.size (fun _ => True) ov out) ∧ Aside0 (Below w.heap.size w wr) ∧ Aside0 (decF n l out = r)) (fun bv _ _ => lenOf bv)
 case atStart => exact ⟨A0, c0, l0.length, l0, [], rfl, hc0, z5 _, ⟨by simpa using hl⟩, HO, HR0, ⟨Kd.R_nil _ _ _ _ _⟩, ⟨zX _ _⟩, HR⟩
 case round =>
  clear HR HR0 HO hc0 hl HLl
  obtain ⟨A, c, n, l, out, rfl, hc, hn, HZ, HO, HC, HV, HB, HR⟩ := hrel
  obtain ⟨A2, c2, rfl, hl2, hC2⟩ := Kd.R_reads HV.out
  clear hC2 hl2
  by_cases h0 : l.length = 0
  ·obtain rfl := List.eq_nil_of_length_eq_zero h0
   have hh := HR.out
   have hd : decF n [] out = (out, 0, 0) := by cases n <;> rfl
   rw [hd] at hh
   go_wp2_with fail
   refine bodyPost_ret (results_tmp3 rfl _ _ _) rfl ?_
   rw [← hh]
   exact ⟨_, rfl, HV.out, HB.out⟩
  ·by_cases h5 : l.length < 5
   ·have hh := HR.out
    have hd : decF n l out = ([], (out.length : Int), 1) := by
     match n, l, h0, h5, hn with
     | n + 1, [_], _, _, _ => rfl
     | n + 1, [_, _], _, _, _ => rfl
     | n + 1, [_, _, _], _, _, _ => rfl
     | n + 1, [_, _, _, _], _, _, _ => rfl
     | 0, _ :: _, _, _, h => exact absurd h (by simp)
     | _, [], h, _, _ => exact absurd rfl h
     | _, _ :: _ :: _ :: _ :: _ :: _, _, h, _ => exact absurd h (by simp)
    rw [hd] at hh
    clear hd
    go_wp2_with fail
    refine bodyPost_ret (results_tmp3 rfl _ _ _) rfl ?_
    rw [← hh]
    exact ⟨_, rfl, Kd.R_nil _ _ _ _ _, HB.out⟩
   ·obtain ⟨a, b, c', d, e, t, rfl⟩ : ∃ a b c' d e t, l = a :: b :: c' :: d :: e :: t := by
     match l, h5 with
     | a :: b :: c :: d :: e :: t, _ => exact ⟨a, b, c, d, e, t, rfl⟩
     | [], h => simp at h
     | [_], h => simp at h
     | [_, _], h => simp at h
     | [_, _, _], h => simp at h
     | [_, _, _, _], h => simp at h
    obtain ⟨n, rfl⟩ : ∃ m, n = m + 1 := ⟨n - 1, by simp at hn; omega⟩
    have hok := okB_all HO.out
    have ok5 : okB [a, b, c', d, e] = true := by
     have := HO.out
     unfold okB at this ⊢
     simp only [List.all_cons, List.all_nil, Bool.and_true, Bool.and_eq_true, decide_eq_true_eq] at this ⊢
     refine ⟨⟨this.1.1, this.1.2.1, this.1.2.2.1, this.1.2.2.2.1, this.1.2.2.2.2.1⟩, by simp⟩
    have hO : Aside0 (okB t = true) := ⟨by
     have := HO.out
     unfold okB at this ⊢
     simp only [List.all_cons, Bool.and_eq_true, decide_eq_true_eq] at this ⊢
     refine ⟨this.1.2.2.2.2.2, by have := this.2; simp only [List.length_cons] at this; omega⟩⟩
    have hC5 : Kd.C (Kd.int .u8) wr A [a, b, c', d, e].length [a, b, c', d, e] := zD (Kd.C_take (m := 5) HC.out (by simp)) HB.out
    have H1 := zA (one_calls A 5 [a, b, c', d, e] a (b + 256 * c') (d + 256 * e) wr hC5 (z5 _) (by simp) ok5 (num1 a b c' d e ok5) (num2 a b c' d e ok5) (num3 a b c' d e ok5) (HL.out.below HB.out))
    have hh := HR.out
    unfold decF at hh
    have hcc : 5 ≤ c := by simp only [List.length_cons] at hc; omega
    have hdrop := zA (Kd.C_drop (k := Kd.int .u8) (m := 5) (c := c) HC.out (by simp) hc)
    have hzz : t.length + 5 + out.length ≤ 1000000 := by have := HZ.out; simp only [List.length_cons] at this; omega
    have HZ := zA hzz
    clear hok ok5 hC5 HC HO hzz h0 h5
    generalize hE : errI a (b + 256 * c') (d + 256 * e) = E at hh H1
    generalize hy : b + 256 * c' = y at hh H1 hE
    generalize hz : d + 256 * e = z at hh H1 hE
    by_cases he : E = 0
    ·rw [if_pos he] at hh
     subst he
     go_wp2_with fail
     refine H1.out.mono ?_
     rintro e' w2 ⟨rfl, hb2⟩
     have HB2 := zA (HB.out.trans (hb2.mono HB.out.size))
     have HV2 := zA (Kd.R_below HV.out hb2)
     have ub : Aside0 (Kd.R inK 109 (w2.alloc (.cells #[.int .i64 a, .int .i64 y, .int .i64 z] 109)) w.heap.size (fun _ => True) (.slice A2 out.length c2) out) := ⟨zR HV2.out _⟩
     have HB3 := zA (HB2.out.alloc HB2.out.size (.cells #[.int .i64 a, .int .i64 y, .int .i64 z] 109))
     go_wp2_with ((with_reducible refine gate_builtin (b := .append) (xs := #[.tmp 27, .tmp 29]) rfl ?_); at_builtin; refine Kd.R_append inK (w0 := w) w.heap.size rfl (.tmp 27) (.tmp 29) 46 109 (.agg #[(.int .i64 0), (.int .i64 0), (.int .i64 0)]) 24 rfl Tryd.underlying46 PCod.info109 rfl (by decide) (by omega) (.slice A2 out.length c2) out (⟨a, y, z⟩ : InS) [.int .i64 a, .int .i64 y, .int .i64 z] (fun _ => True) (fun _ => False) rfl (by first | (go_simp; done) | (go_simp; rfl)) ?aP (fun _ hk => hk.elim) ?aF ?aO ?aB ?aS ?aL ?_; (case aP => exact PCod.k109_mkM _ _ _ (⟨a, y, z⟩ : InS)); (case aB => exact HB3.out); (case aF => exact fun _ _ => trivial); (case aO => exact ub.out); (case aS => exact HB3.out.size); (case aL => have := HZ.out; omega); intro v5 w5 ho5 hb5 hg5 hat5; clear hg5 hat5; have HV5 := zA ho5; have HB5 := zA hb5; clear ho5 hb5)
     refine ⟨⟨_, c - 5, n, t, out ++ [⟨a, y, z⟩], rfl, by simp only [List.length_cons] at hc; omega, by simp only [List.length_cons] at hn; omega, ⟨by have := HZ.out; simp only [List.length_append, List.length_cons, List.length_nil]; omega⟩, hO, ⟨?_⟩, HV5, HB5, ⟨hh⟩⟩, by show t.length < t.length + 1 + 1 + 1 + 1 + 1; omega⟩
     have h := hdrop.out
     simpa [Addr.add, Kd.int, Kd.scalar] using h
    ·rw [if_neg he] at hh
     go_wp2_with fail
     refine H1.out.mono ?_
     rintro e' w2 ⟨rfl, hb2⟩
     have HB2 := zA (HB.out.trans (hb2.mono HB.out.size))
     go_wp2_with fail
     refine bodyPost_ret (results_tmp3 rfl _ _ _) rfl ?_
     rw [← hh]
     exact ⟨_, rfl, Kd.R_nil _ _ _ _ _, HB2.out.alloc HB2.out.size _⟩
def code_Decode.f (l0 : List Int) : Option (List InS × Int × Int) := if l0.length ≤ 1000000 ∧ okB l0 = true then some (decF l0.length l0 []) else none
theorem code_Decode.calls (A0 : Option Addr) (c0 : Nat) (l0 : List Int) (r1 : List InS) (r2 r3 : Int) (w : World) (hr0 : Kd.C (Kd.int .u8) w A0 l0.length l0) (hc0 : l0.length ≤ c0) (h : code_Decode.f l0 = some (r1, r2, r3)) (hL : LaidOps w) :
  Calls Tryd.prog 110 #[.slice A0 l0.length c0] w fun e w' => ∃ v0_ : Value, e = .returned (.tuple #[v0_, .int .i64 r2, .int .i64 r3]) ∧ Kd.R inK 109 w' w.heap.size (fun _ => True) v0_ r1 ∧ Below w.heap.size w w' := by
 unfold code_Decode.f at h
 split at h
 ·rename_i hl
  exact decode_calls A0 c0 l0 (r1, r2, r3) w hr0 hc0 hl.1 hl.2 (zJ h) hL
 ·cases h
end Go.Proofs.YtdbfgfgbjheibaaDoor.Given
end

section
/- The numbers of a byte behind how many they are, plainly, as the program reads them; and what holds of a unit that is being read. -/
namespace Go.Proofs.YtdbfgfgbjheibaaDoor.Given
open Go.RowKit Go.Proofs.YtdbfgfgbjheibaaDoorW.PrintWords Go.Proofs.YtdbfgfgbjheibaaDoorW.PrintLast Go.Proofs.YtdbfgfgbjheibaaDoorW.PrintMore
set_option linter.unusedVariables false
set_option linter.unusedSimpArgs false
/-- Numbers of a byte: what they are, the error, where the reader is, whether it's bad. -/
def numbersR (b : List Int) (at_ : Int) (bad : Bool) (many most : Int) : List Int × Int × Int × Bool :=
 let t := numR b at_ bad many
 if t.1 > most then ([], 5, t.2.1, t.2.2)
 else
  let u := takeR b t.2.1 t.2.2 t.1
  if u.2.2 = true then ([], 1, u.2.1, u.2.2) else (u.1, 0, u.2.1, u.2.2)
theorem take_mem {b : List Int} {at_ : Int} {bad : Bool} {n : Int} : ∀ x ∈ (takeR b at_ bad n).1, x ∈ b := by
 intro x hx
 unfold takeR at hx
 split at hx
 ·exact List.mem_of_mem_drop (List.mem_of_mem_take hx)
 ·cases hx
theorem take_len {b : List Int} {at_ : Int} {bad : Bool} {n : Int} : (takeR b at_ bad n).1.length ≤ b.length := by
 unfold takeR
 split
 ·unfold cutR; simp; omega
 ·simp
theorem wN (x : Int) (h0 : -9223372036854775808 ≤ x) (h1 : x < 9223372036854775808) : wrap64 x = x := by unfold wrap64; omega
theorem numbers_l0 (L : List Int) (hL : ∀ x ∈ L, 0 ≤ x ∧ x < 256) (hz : L.length ≤ 1000000000) (b : List Int) (at_ : Int) (bad : Bool) : ∀ (d i k : Nat) (x : List Int), i + d = L.length → d < k → x = L.take i →
  PNum.unit_numbers.l0 k x L (L.length : Int) (i : Int) b at_ bad = if bad = true then some ([], 1, at_, bad) else some (L, 0, at_, bad) := by
 intro d
 induction d with
 | zero =>
  intro i k x h1 h2 h3
  obtain ⟨k, rfl⟩ : ∃ m, k = m + 1 := ⟨k - 1, by omega⟩
  unfold PNum.unit_numbers.l0 octet_Reader_Bad.f
  rw [if_neg (by omega), zP, h3, List.take_of_length_le (by omega)]
 | succ d ih =>
  intro i k x h1 h2 h3
  obtain ⟨k, rfl⟩ : ∃ m, k = m + 1 := ⟨k - 1, by omega⟩
  unfold PNum.unit_numbers.l0
  have hr : rd L (i : Int) = L[i]'(by omega) := by unfold rd; simp [show i < L.length by omega]
  have hx := hL _ (List.getElem_mem (show i < L.length by omega))
  have hxl : x.length = i := by rw [h3, zt]; omega
  rw [if_pos (by omega), if_pos (by omega), if_pos (by omega), if_pos (by omega), hr, wN _ (by omega) (by omega), wN _ (by omega) (by omega)]
  have := ih (i + 1) k (x ++ [L[i]'(by omega)]) (by omega) (by omega) (by rw [h3, List.take_succ_eq_append_getElem (by omega)])
  rw [show ((i + 1 : Nat) : Int) = (i : Int) + 1 by omega] at this
  exact this
theorem numbers_is (b : List Int) (hb : okB b = true) (at_ : Int) (bad : Bool) (many most : Int) (k : Nat) (hk : 1000000001 ≤ k) : PNum.unit_numbers.f k b at_ bad many most = some (numbersR b at_ bad many most) := by
 unfold PNum.unit_numbers.f octet_Reader_Num.f octet_Reader_Take.f numbersR
 rw [if_pos hb, zP]
 dsimp only
 by_cases h : (numR b at_ bad many).1 > most
 ·rw [if_pos h, if_pos h]
 ·rw [if_neg h, if_neg h, if_pos hb, zP]
  have hl := take_len (b := b) (at_ := (numR b at_ bad many).2.1) (bad := (numR b at_ bad many).2.2) (n := (numR b at_ bad many).1)
  have hm := take_mem (b := b) (at_ := (numR b at_ bad many).2.1) (bad := (numR b at_ bad many).2.2) (n := (numR b at_ bad many).1)
  generalize takeR b (numR b at_ bad many).2.1 (numR b at_ bad many).2.2 (numR b at_ bad many).1 = u at hl hm ⊢
  have h2 := okB_all hb
  have := numbers_l0 u.1 (fun x hx => h2.1 x (hm x hx)) (by omega) b u.2.1 u.2.2 u.1.length 0 k [] (by omega) (by omega) (by simp)
  rw [show ((0 : Nat) : Int) = 0 from rfl] at this
  rw [this]
  by_cases hu : u.2.2 = true
  ·rw [if_pos hu, if_pos hu]
  ·rw [if_neg hu, if_neg hu]
theorem numbers_calls (g : Nat) (w0 w : World) (b : List Int) (at_ : Int) (bad : Bool) (many most : Int) (hI : IsS119 w0 w g b at_ bad) (hB : Below w0.heap.size w0 w) (hb : okB b = true) :
  Calls Tryd.prog 109 #[.pointer (some ⟨g, 0, none⟩), .int .i64 many, .int .i64 most] w fun e w' => ∃ v0_ : Value, e = .returned (.tuple #[v0_, .int .i64 (numbersR b at_ bad many most).2.1]) ∧ Kd.R (Kd.int .i64) 3 w' w.heap.size (fun _ => True) v0_ (numbersR b at_ bad many most).1 ∧ IsS119 w0 w' g b (numbersR b at_ bad many most).2.2.1 (numbersR b at_ bad many most).2.2.2 ∧ Below w0.heap.size w0 w' ∧ KeepBut w w' g none :=
 PNum.unit_numbers.calls 1000000001 g b at_ bad many most _ _ _ _ w0 w hI hB (numbers_is b hb at_ bad many most 1000000001 (z5 _))
end Go.Proofs.YtdbfgfgbjheibaaDoor.Given
end
