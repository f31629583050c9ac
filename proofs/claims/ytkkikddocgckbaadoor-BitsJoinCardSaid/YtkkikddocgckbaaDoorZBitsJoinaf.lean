/- What the sets of bits compute, plainly: the words hold the places, and the document's row of truths tells the same. -/
import Derived.Lib.TrailingZeros
import Derived.Lib.BitFns
import Derived.Test.YtkkikddocgckbaaDoorZBitsJoinab
import Derived.Test.YtkkikddocgckbaaDoorZBitsJoinac
import Derived.Test.YtkkikddocgckbaaDoorZBitsJoinad
import Derived.Test.YtkkikddocgckbaaDoorZBitsJoinae
section
/- Printed by a program of this session (wip/pg.py, over the print of the kit): functions, their Lean twins, and the proofs that the calls come to them; each under the conditions that it names. -/
namespace Go.Proofs.YtkkikddocgckbaaDoor.PBit
open Go.Proofs.YtkkikddocgckbaaDoor.Given
open Go.RowKit Go.Proofs.YtkkikddocgckbaaDoorW.PrintWords Go.Proofs.YtkkikddocgckbaaDoorW.PrintLast Go.Proofs.YtkkikddocgckbaaDoorW.PrintMore
attribute [local go_sem] max2_int min2_int max_two min_two max_three min_three max_four min_four   -- for this text's walks alone
set_option linter.unusedVariables false
set_option linter.unusedSimpArgs false

/-! ### bits_Set_Or: function 15 -/
def bits_Set_Or.l0 : Nat → List Int → Int → Int → Int → List Int → Option (Int × List Int)
  | 0, _, _, _, _, _ => none
  | k + 1, x16, x17, x18, x219000, x219001 => if x18 < x17 then (if 0 ≤ x18 then (if x18 < (x16.length : Int) then (if x18 < (x219001.length : Int) then (bits_Set_Or.l0 k x16 x17 (wrap64 (x18 + 1)) x219000 (x219001.set (x18 : Int).toNat (Go.bits .or .u64 (rd x219001 x18) (rd x16 x18)))) else (none)) else (none)) else (none)) else (some (x219000, x219001))
def bits_Set_Or.f (k : Nat) (a0_0 : Int) (l0_1 : List Int) (a1_0 : Int) (l1_1 : List Int) : Option (Int × List Int) := (bits_Set_copied.f a0_0 l0_1 (mx a0_0 a1_0)).bind fun bt214 => (bits_Set_Or.l0 k l1_1 (l1_1.length : Int) 0 bt214.1 bt214.2)
set_option maxHeartbeats 8000000 in
set_option maxRecDepth 100000 in
theorem bits_Set_Or.calls (k : Nat) (a0_0 : Int) (A0_1 : Option Addr) (c0_1 : Nat) (l0_1 : List Int) (a1_0 : Int) (A1_1 : Option Addr) (c1_1 : Nat) (l1_1 : List Int) (r1 : Int) (r2 : List Int) (w : World) (hr0_1 : Kd.C (Kd.int .u64) w A0_1 l0_1.length l0_1) (hc0_1 : l0_1.length ≤ c0_1) (hr1_1 : Kd.C (Kd.int .u64) w A1_1 l1_1.length l1_1) (hc1_1 : l1_1.length ≤ c1_1) (h : bits_Set_Or.f k a0_0 l0_1 a1_0 l1_1 = some (r1, r2)) :
    Calls Tryd.prog 15 #[.agg #[.int .i64 a0_0, .slice A0_1 l0_1.length c0_1], .agg #[.int .i64 a1_0, .slice A1_1 l1_1.length c1_1]] w fun e w' => ∃ v1_ : Value, e = .returned (.agg #[.int .i64 r1, v1_]) ∧ Kd.R (Kd.int .u64) 45 w' w.heap.size (fun _ => True) v1_ r2 ∧ Below w.heap.size w w' := by
  have hu26 := Tryd.underlying26
  have HR0_1 := Aside0.mk hr0_1
  have HC0_1 := Aside0.mk hc0_1
  clear hr0_1 hc0_1
  have HR1_1 := Aside0.mk hr1_1
  have HC1_1 := Aside0.mk hc1_1
  clear hr1_1 hc1_1
  have HB := Aside0.mk (Below.refl w.heap.size w)
  have H : ((bits_Set_copied.f a0_0 l0_1 (mx a0_0 a1_0)).bind fun bt214 => (bits_Set_Or.l0 k l1_1 (l1_1.length : Int) 0 bt214.1 bt214.2)) = some (r1, r2) := h
  clear h
  obtain ⟨ji3, hji3⟩ : ∃ j_ : Int, (mx a0_0 a1_0) = j_ := ⟨_, rfl⟩
  replace H : ((bits_Set_copied.f a0_0 l0_1 (ji3)).bind fun bt214 => (bits_Set_Or.l0 k l1_1 (l1_1.length : Int) 0 bt214.1 bt214.2)) = some (r1, r2) := by first | (rw [hji3] at H; exact H) | (simp only [hji3] at H ⊢; exact H)
  have hji3_ : (if a0_0 < a1_0 then a1_0 else a0_0) = ji3 := hji3
  replace H := Option.bind_eq_some_iff.mp H
  obtain ⟨⟨t214, t215⟩, A40, H⟩ := H
  replace H : (bits_Set_Or.l0 k l1_1 (l1_1.length : Int) 0 t214 t215) = some (r1, r2) := H
  have A4 := Aside0.mk A40
  clear A40
  have H' := Aside0.mk H
  clear H
  go_enter Tryd.func15, Tryd.ntmps15
  go_wp2_with (first | ((with_reducible refine gate_dst (N := 2) rfl ?_); refine box_event ?hg (N := 2) ?hd (cs := #[.int .i64 a0_0, .slice A0_1 l0_1.length c0_1]) (t := 26) ?hr ?_; (case hd => rfl); (case hg => rfl); (case hr => first | (go_simp; done) | (go_simp; rfl)); intro gb211 hg w5 hbox hb; have n0_ := Aside0.mk (below_step (by repeat (first | (with_reducible first | exact HB.out | apply below_alloc | apply pw_below_drewN | apply below_drew1) | exact HB.out)) hb); have n1_ := Aside0.mk (hbox); have n2_ := Aside0.mk ((by rw [hg]; exact (below_size (by repeat (first | (with_reducible first | exact HB.out | apply below_alloc | apply pw_below_drewN | apply below_drew1) | exact HB.out))) : w.heap.size ≤ gb211)); have n3_ := Aside0.mk ((by rw [hg]; exact (below_size (by repeat (first | (with_reducible first | exact HB.out | apply below_alloc | apply pw_below_drewN | apply below_drew1) | exact HB.out))) : w.heap.size ≤ gb211)); clear HB; have HB := n0_; have BK211 := n1_; have GW211 := n2_; have GE211 := n3_; clear n0_ n1_ n2_ n3_; clear hb hbox hg) | ((with_reducible refine gate_dst (N := 3) rfl ?_); refine box_event ?hg (N := 3) ?hd (cs := #[.int .i64 a1_0, .slice A1_1 l1_1.length c1_1]) (t := 26) ?hr ?_; (case hd => rfl); (case hg => rfl); (case hr => first | (go_simp; done) | (go_simp; rfl)); intro gb212 hg w6 hbox hb; have n0_ := Aside0.mk (blk_below (g := gb211) (o := .cells #[.int .i64 a0_0, .slice A0_1 l0_1.length c0_1] 26 (0, 0)) (by (with_reducible repeat (first | refine blk_drewN ?_ _ | refine blk_drew ?_ | refine blk_alloc ?_ _)); exact BK211.out) hb); have n1_ := Aside0.mk (below_step (by repeat (first | (with_reducible first | exact HB.out | apply below_alloc | apply pw_below_drewN | apply below_drew1 | refine below_set ?_ GE211.out) | exact HB.out)) hb); have n2_ := Aside0.mk (hbox); have n3_ := Aside0.mk ((by rw [hg]; exact (below_size (by repeat (first | (with_reducible first | exact HB.out | apply below_alloc | apply pw_below_drewN | apply below_drew1 | refine below_set ?_ GE211.out) | exact HB.out))) : w.heap.size ≤ gb212)); have n4_ := Aside0.mk ((by rw [hg]; exact (below_size (by repeat (first | (with_reducible first | exact HB.out | apply below_alloc | apply pw_below_drewN | apply below_drew1 | refine below_set ?_ GE211.out) | exact HB.out))) : w.heap.size ≤ gb212)); have n5_ := Aside0.mk ((by rw [hg]; exact Nat.ne_of_lt (blk_lt (g := gb211) (o := .cells #[.int .i64 a0_0, .slice A0_1 l0_1.length c0_1] 26 (0, 0)) (by (with_reducible repeat (first | refine blk_drewN ?_ _ | refine blk_drew ?_ | refine blk_alloc ?_ _)); exact BK211.out)) : gb211 ≠ gb212)); have n6_ := Aside0.mk ((by rw [hg]; exact Nat.ne_of_gt (blk_lt (g := gb211) (o := .cells #[.int .i64 a0_0, .slice A0_1 l0_1.length c0_1] 26 (0, 0)) (by (with_reducible repeat (first | refine blk_drewN ?_ _ | refine blk_drew ?_ | refine blk_alloc ?_ _)); exact BK211.out)) : gb212 ≠ gb211)); clear BK211; clear HB; have BK211 := n0_; have HB := n1_; have BK212 := n2_; have GW212 := n3_; have GE212 := n4_; have NB211_212 := n5_; have NB212_211 := n6_; clear n0_ n1_ n2_ n3_ n4_ n5_ n6_; clear hb hbox hg) | ((with_reducible refine gate_dst (N := 4) rfl ?_); refine box_event ?hg (N := 4) ?hd (cs := #[.int .i64 0, .slice none 0 0]) (t := 26) ?hr ?_; (case hd => rfl); (case hg => rfl); (case hr => first | (go_simp; done) | (go_simp; rfl)); intro gb213 hg w7 hbox hb; have n0_ := Aside0.mk (blk_below (g := gb211) (o := .cells #[.int .i64 a0_0, .slice A0_1 l0_1.length c0_1] 26 (0, 0)) (by (with_reducible repeat (first | refine blk_drewN ?_ _ | refine blk_drew ?_ | refine blk_alloc ?_ _)); exact BK211.out) hb); have n1_ := Aside0.mk (blk_below (g := gb212) (o := .cells #[.int .i64 a1_0, .slice A1_1 l1_1.length c1_1] 26 (0, 0)) (by (with_reducible repeat (first | refine blk_drewN ?_ _ | refine blk_drew ?_ | refine blk_alloc ?_ _)); exact BK212.out) hb); have n2_ := Aside0.mk (below_step (by repeat (first | (with_reducible first | exact HB.out | apply below_alloc | apply pw_below_drewN | apply below_drew1 | refine below_set ?_ GE211.out | refine below_set ?_ GE212.out) | exact HB.out)) hb); have n3_ := Aside0.mk (hbox); have n4_ := Aside0.mk ((by rw [hg]; exact (below_size (by repeat (first | (with_reducible first | exact HB.out | apply below_alloc | apply pw_below_drewN | apply below_drew1 | refine below_set ?_ GE211.out | refine below_set ?_ GE212.out) | exact HB.out))) : w.heap.size ≤ gb213)); have n5_ := Aside0.mk ((by rw [hg]; exact (below_size (by repeat (first | (with_reducible first | exact HB.out | apply below_alloc | apply pw_below_drewN | apply below_drew1 | refine below_set ?_ GE211.out | refine below_set ?_ GE212.out) | exact HB.out))) : w.heap.size ≤ gb213)); have n6_ := Aside0.mk ((by rw [hg]; exact Nat.ne_of_lt (blk_lt (g := gb211) (o := .cells #[.int .i64 a0_0, .slice A0_1 l0_1.length c0_1] 26 (0, 0)) (by (with_reducible repeat (first | refine blk_drewN ?_ _ | refine blk_drew ?_ | refine blk_alloc ?_ _)); exact BK211.out)) : gb211 ≠ gb213)); have n7_ := Aside0.mk ((by rw [hg]; exact Nat.ne_of_gt (blk_lt (g := gb211) (o := .cells #[.int .i64 a0_0, .slice A0_1 l0_1.length c0_1] 26 (0, 0)) (by (with_reducible repeat (first | refine blk_drewN ?_ _ | refine blk_drew ?_ | refine blk_alloc ?_ _)); exact BK211.out)) : gb213 ≠ gb211)); have n8_ := Aside0.mk ((by rw [hg]; exact Nat.ne_of_lt (blk_lt (g := gb212) (o := .cells #[.int .i64 a1_0, .slice A1_1 l1_1.length c1_1] 26 (0, 0)) (by (with_reducible repeat (first | refine blk_drewN ?_ _ | refine blk_drew ?_ | refine blk_alloc ?_ _)); exact BK212.out)) : gb212 ≠ gb213)); have n9_ := Aside0.mk ((by rw [hg]; exact Nat.ne_of_gt (blk_lt (g := gb212) (o := .cells #[.int .i64 a1_0, .slice A1_1 l1_1.length c1_1] 26 (0, 0)) (by (with_reducible repeat (first | refine blk_drewN ?_ _ | refine blk_drew ?_ | refine blk_alloc ?_ _)); exact BK212.out)) : gb213 ≠ gb212)); clear BK211; clear BK212; clear HB; have BK211 := n0_; have BK212 := n1_; have HB := n2_; have BK213 := n3_; have GW213 := n4_; have GE213 := n5_; have NB211_213 := n6_; have NB213_211 := n7_; have NB212_213 := n8_; have NB213_212 := n9_; clear n0_ n1_ n2_ n3_ n4_ n5_ n6_ n7_ n8_ n9_; clear hb hbox hg; have hnb8 := NB211_212.out; have hnc8 := NB212_211.out; have hnb9 := NB211_213.out; have hnc9 := NB213_211.out; have hcz10_0 : w7.cell? ⟨gb211, 0, none⟩ = some (.int .i64 a0_0) := (blk_cell BK211.out 0).trans rfl; have hcz10_1 : w7.cell? ⟨gb211, 1, none⟩ = some (.slice A0_1 l0_1.length c0_1) := (blk_cell BK211.out 1).trans rfl; have hfz10_0 := blk_frozen BK211.out 0; have hfz10_1 := blk_frozen BK211.out 1; have hnb11 := NB212_213.out; have hnc11 := NB213_212.out; have hcz12_0 : w7.cell? ⟨gb212, 0, none⟩ = some (.int .i64 a1_0) := (blk_cell BK212.out 0).trans rfl; have hcz12_1 : w7.cell? ⟨gb212, 1, none⟩ = some (.slice A1_1 l1_1.length c1_1) := (blk_cell BK212.out 1).trans rfl; have hfz12_0 := blk_frozen BK212.out 0; have hfz12_1 := blk_frozen BK212.out 1) | ((with_reducible refine gate_callee (f := 23) rfl ?_); refine goesL_ (some 14) rfl rfl Tryd.func23 (by kernel_rfl) rfl #[.agg #[.int .i64 a0_0, .slice A0_1 l0_1.length c0_1], .int .i64 ji3] rfl (by (try simp only [List.map_toArray, List.map_cons, List.map_nil]); first | done | (simp only [hji3]; rfl) | rfl | (simp only [List.length_drop, List.length_take]; rfl)) ?_; (with_reducible refine (bits_Set_copied.calls a0_0 _ _ l0_1 ji3 t214 t215 _ ?side1 ?side2 A4.out).mono ?_); (case side1 => repeat (first | exact (Kd.C_below HR0_1.out HB.out) | (with_reducible refine Kd.C_alloc ?_ _) | (with_reducible refine Kd.C_drewN ?_ _) | (with_reducible refine Kd.C_drew ?_))); (case side2 => exact HC0_1.out); rintro e w13 ⟨v216, rfl, ho0, hb⟩; refine ⟨_, rfl, ?_⟩; have n0_ := Aside0.mk (Kd.R_lower ho0 (below_size (by repeat (first | (with_reducible first | exact HB.out | apply below_alloc | apply pw_below_drewN | apply below_drew1 | refine below_set ?_ GE211.out | refine below_set ?_ GE212.out | refine below_set ?_ GE213.out) | exact HB.out)))); have n1_ := Aside0.mk (blk_below (g := gb211) (o := .cells #[.int .i64 a0_0, .slice A0_1 l0_1.length c0_1] 26 (0, 0)) (by (with_reducible repeat (first | refine blk_drewN ?_ _ | refine blk_drew ?_ | refine blk_alloc ?_ _)); exact BK211.out) hb); have n2_ := Aside0.mk (blk_below (g := gb212) (o := .cells #[.int .i64 a1_0, .slice A1_1 l1_1.length c1_1] 26 (0, 0)) (by (with_reducible repeat (first | refine blk_drewN ?_ _ | refine blk_drew ?_ | refine blk_alloc ?_ _)); exact BK212.out) hb); have n3_ := Aside0.mk (blk_below (g := gb213) (o := .cells #[.int .i64 0, .slice none 0 0] 26 (0, 0)) (by (with_reducible repeat (first | refine blk_drewN ?_ _ | refine blk_drew ?_ | refine blk_alloc ?_ _)); exact BK213.out) hb); have n4_ := Aside0.mk (below_step (by repeat (first | (with_reducible first | exact HB.out | apply below_alloc | apply pw_below_drewN | apply below_drew1 | refine below_set ?_ GE211.out | refine below_set ?_ GE212.out | refine below_set ?_ GE213.out) | exact HB.out)) hb); clear BK211; clear BK212; clear BK213; clear HB; have HO217 := n0_; have BK211 := n1_; have BK212 := n2_; have BK213 := n3_; have HB := n4_; clear n0_ n1_ n2_ n3_ n4_; (try clear hb); (try clear hb2); (try clear hk); (try clear hi); (try clear ho0)) | ((with_reducible refine gate_dst (N := 5) rfl ?_); refine box_event ?hg (N := 5) ?hd (cs := #[.int .i64 0, .slice none 0 0]) (t := 26) ?hr ?_; (case hd => rfl); (case hg => rfl); (case hr => first | (go_simp; done) | (go_simp; rfl)); intro gb218 hg w14 hbox hb; have n0_ := Aside0.mk (Kd.R_below (by (with_reducible repeat (first | apply Kd.R_alloc | apply Kd.R_drewN | apply Kd.R_drew)); exact HO217.out) hb); have n1_ := Aside0.mk (blk_below (g := gb211) (o := .cells #[.int .i64 a0_0, .slice A0_1 l0_1.length c0_1] 26 (0, 0)) (by (with_reducible repeat (first | refine blk_drewN ?_ _ | refine blk_drew ?_ | refine blk_alloc ?_ _)); exact BK211.out) hb); have n2_ := Aside0.mk (blk_below (g := gb212) (o := .cells #[.int .i64 a1_0, .slice A1_1 l1_1.length c1_1] 26 (0, 0)) (by (with_reducible repeat (first | refine blk_drewN ?_ _ | refine blk_drew ?_ | refine blk_alloc ?_ _)); exact BK212.out) hb); have n3_ := Aside0.mk (blk_below (g := gb213) (o := .cells #[.int .i64 0, .slice none 0 0] 26 (0, 0)) (by (with_reducible repeat (first | refine blk_drewN ?_ _ | refine blk_drew ?_ | refine blk_alloc ?_ _)); exact BK213.out) hb); have n4_ := Aside0.mk (below_step (by repeat (first | (with_reducible first | exact HB.out | apply below_alloc | apply pw_below_drewN | apply below_drew1 | refine below_set ?_ GE211.out | refine below_set ?_ GE212.out | refine below_set ?_ GE213.out) | exact HB.out)) hb); have n5_ := Aside0.mk (hbox); have n6_ := Aside0.mk ((by rw [hg]; exact (below_size (by repeat (first | (with_reducible first | exact HB.out | apply below_alloc | apply pw_below_drewN | apply below_drew1 | refine below_set ?_ GE211.out | refine below_set ?_ GE212.out | refine below_set ?_ GE213.out) | exact HB.out))) : w.heap.size ≤ gb218)); have n7_ := Aside0.mk ((by rw [hg]; exact (below_size (by repeat (first | (with_reducible first | exact HB.out | apply below_alloc | apply pw_below_drewN | apply below_drew1 | refine below_set ?_ GE211.out | refine below_set ?_ GE212.out | refine below_set ?_ GE213.out) | exact HB.out))) : w.heap.size ≤ gb218)); have n8_ := Aside0.mk ((by rw [hg]; exact Nat.ne_of_lt (blk_lt (g := gb211) (o := .cells #[.int .i64 a0_0, .slice A0_1 l0_1.length c0_1] 26 (0, 0)) (by (with_reducible repeat (first | refine blk_drewN ?_ _ | refine blk_drew ?_ | refine blk_alloc ?_ _)); exact BK211.out)) : gb211 ≠ gb218)); have n9_ := Aside0.mk ((by rw [hg]; exact Nat.ne_of_gt (blk_lt (g := gb211) (o := .cells #[.int .i64 a0_0, .slice A0_1 l0_1.length c0_1] 26 (0, 0)) (by (with_reducible repeat (first | refine blk_drewN ?_ _ | refine blk_drew ?_ | refine blk_alloc ?_ _)); exact BK211.out)) : gb218 ≠ gb211)); have n10_ := Aside0.mk ((by rw [hg]; exact Nat.ne_of_lt (blk_lt (g := gb212) (o := .cells #[.int .i64 a1_0, .slice A1_1 l1_1.length c1_1] 26 (0, 0)) (by (with_reducible repeat (first | refine blk_drewN ?_ _ | refine blk_drew ?_ | refine blk_alloc ?_ _)); exact BK212.out)) : gb212 ≠ gb218)); have n11_ := Aside0.mk ((by rw [hg]; exact Nat.ne_of_gt (blk_lt (g := gb212) (o := .cells #[.int .i64 a1_0, .slice A1_1 l1_1.length c1_1] 26 (0, 0)) (by (with_reducible repeat (first | refine blk_drewN ?_ _ | refine blk_drew ?_ | refine blk_alloc ?_ _)); exact BK212.out)) : gb218 ≠ gb212)); have n12_ := Aside0.mk ((by rw [hg]; exact Nat.ne_of_lt (blk_lt (g := gb213) (o := .cells #[.int .i64 0, .slice none 0 0] 26 (0, 0)) (by (with_reducible repeat (first | refine blk_drewN ?_ _ | refine blk_drew ?_ | refine blk_alloc ?_ _)); exact BK213.out)) : gb213 ≠ gb218)); have n13_ := Aside0.mk ((by rw [hg]; exact Nat.ne_of_gt (blk_lt (g := gb213) (o := .cells #[.int .i64 0, .slice none 0 0] 26 (0, 0)) (by (with_reducible repeat (first | refine blk_drewN ?_ _ | refine blk_drew ?_ | refine blk_alloc ?_ _)); exact BK213.out)) : gb218 ≠ gb213)); clear HO217; clear BK211; clear BK212; clear BK213; clear HB; have HO217 := n0_; have BK211 := n1_; have BK212 := n2_; have BK213 := n3_; have HB := n4_; have BK218 := n5_; have GW218 := n6_; have GE218 := n7_; have NB211_218 := n8_; have NB218_211 := n9_; have NB212_218 := n10_; have NB218_212 := n11_; have NB213_218 := n12_; have NB218_213 := n13_; clear n0_ n1_ n2_ n3_ n4_ n5_ n6_ n7_ n8_ n9_ n10_ n11_ n12_ n13_; clear hb hbox hg; have hnb15 := NB218_211.out; have hnc15 := NB211_218.out; have hnb16 := NB218_212.out; have hnc16 := NB212_218.out; have hnb17 := NB218_213.out; have hnc17 := NB213_218.out; have hcz18_0 : w14.cell? ⟨gb218, 0, none⟩ = some (.int .i64 0) := (blk_cell BK218.out 0).trans rfl; have hcz18_1 : w14.cell? ⟨gb218, 1, none⟩ = some (.slice none 0 0) := (blk_cell BK218.out 1).trans rfl; have hfz18_0 := blk_frozen BK218.out 0; have hfz18_1 := blk_frozen BK218.out 1; obtain ⟨Ao19, co19, eo19⟩ := Kd.R_slice HO217.out; subst eo19; have hcz20_0 : w14.cell? ⟨gb212, 0, none⟩ = some (.int .i64 a1_0) := (blk_cell BK212.out 0).trans rfl; have hcz20_1 : w14.cell? ⟨gb212, 1, none⟩ = some (.slice A1_1 l1_1.length c1_1) := (blk_cell BK212.out 1).trans rfl; have hfz20_0 := blk_frozen BK212.out 0; have hfz20_1 := blk_frozen BK212.out 1))
  go_loopg [18] k (fun kq v18 w' => ∃ (x18_1 : Int) (x219001_1 : List Int) (u219001 : Value), v18 = .int .i64 x18_1 ∧ Aside0 (bits_Set_Or.l0 kq l1_1 (l1_1.length : Int) x18_1 t214 x219001_1 = some (r1, r2)) ∧ Aside0 (kq ≤ k) ∧ Aside0 (Kd.R (Kd.int .u64) 45 w' w.heap.size (fun _ => True) u219001 x219001_1) ∧ Aside0 (w'.heap[gb211]? = some (.cells #[.int .i64 a0_0, (.slice A0_1 l0_1.length c0_1)] 26 (0, 0))) ∧ Aside0 (w'.heap[gb212]? = some (.cells #[.int .i64 a1_0, (.slice A1_1 l1_1.length c1_1)] 26 (0, 0))) ∧ Aside0 (w'.heap[gb213]? = some (.cells #[.int .i64 0, (.slice none 0 0)] 26 (0, 0))) ∧ Aside0 (w'.heap[gb218]? = some (.cells #[.int .i64 t214, u219001] 26 (0, 0))) ∧ Aside0 (Below w.heap.size w w'))
  case atStart => exact ⟨(0), (t215), (.slice Ao19 t215.length co19), (by first | rfl | (simp; done) | (simp [*]; done)), H', ⟨Nat.le_refl _⟩, ⟨by (with_reducible repeat (first | apply Kd.R_alloc | apply Kd.R_drewN | apply Kd.R_drew)); exact Kd.R_mono (Kd.R_far (p := ⟨gb218, 1, none⟩) (Kd.R_far (p := ⟨gb218, 0, none⟩) (Kd.R_types HO217.out BK218.out (by decide)) (fun _ hk => hk.2) (.int .i64 t214)) (fun _ hk => hk.2) (.slice Ao19 t215.length co19)) (fun _ hk => trivial)⟩, ⟨by (with_reducible repeat (first | refine blk_drewN ?_ _ | refine blk_drew ?_ | refine blk_alloc ?_ _)); refine blk_far ?_ NB211_218.out _; (with_reducible repeat (first | refine blk_drewN ?_ _ | refine blk_drew ?_ | refine blk_alloc ?_ _)); refine blk_far ?_ NB211_218.out _; (with_reducible repeat (first | refine blk_drewN ?_ _ | refine blk_drew ?_ | refine blk_alloc ?_ _)); exact BK211.out⟩, ⟨by (with_reducible repeat (first | refine blk_drewN ?_ _ | refine blk_drew ?_ | refine blk_alloc ?_ _)); refine blk_far ?_ NB212_218.out _; (with_reducible repeat (first | refine blk_drewN ?_ _ | refine blk_drew ?_ | refine blk_alloc ?_ _)); refine blk_far ?_ NB212_218.out _; (with_reducible repeat (first | refine blk_drewN ?_ _ | refine blk_drew ?_ | refine blk_alloc ?_ _)); exact BK212.out⟩, ⟨by (with_reducible repeat (first | refine blk_drewN ?_ _ | refine blk_drew ?_ | refine blk_alloc ?_ _)); refine blk_far ?_ NB213_218.out _; (with_reducible repeat (first | refine blk_drewN ?_ _ | refine blk_drew ?_ | refine blk_alloc ?_ _)); refine blk_far ?_ NB213_218.out _; (with_reducible repeat (first | refine blk_drewN ?_ _ | refine blk_drew ?_ | refine blk_alloc ?_ _)); exact BK213.out⟩, ⟨by (with_reducible repeat (first | refine blk_drewN ?_ _ | refine blk_drew ?_ | refine blk_alloc ?_ _)); refine blk_put (cs := #[.int .i64 t214, .slice none 0 0]) ?_ 1 _ rfl; (with_reducible repeat (first | refine blk_drewN ?_ _ | refine blk_drew ?_ | refine blk_alloc ?_ _)); refine blk_put (cs := #[.int .i64 0, .slice none 0 0]) ?_ 0 _ rfl; (with_reducible repeat (first | refine blk_drewN ?_ _ | refine blk_drew ?_ | refine blk_alloc ?_ _)); exact BK218.out⟩, ⟨by repeat (first | (with_reducible first | exact HB.out | apply below_alloc | apply pw_below_drewN | apply below_drew1 | refine below_set ?_ GE211.out | refine below_set ?_ GE212.out | refine below_set ?_ GE213.out | refine below_set ?_ GE218.out) | exact HB.out)⟩⟩
  case round =>
    clear H'
    try clear c1
    try clear c2
    try clear p2
    try clear c8
    try clear c9
    try clear c11
    try clear c15
    try clear c16
    try clear c17
    try clear hcz10_0
    try clear hcz10_1
    try clear hcz12_0
    try clear hcz12_1
    try clear hcz18_0
    try clear hcz18_1
    try clear hcz20_0
    try clear hcz20_1
    try clear hfz10_0
    try clear hfz10_1
    try clear hfz12_0
    try clear hfz12_1
    try clear hfz18_0
    try clear hfz18_1
    try clear hfz20_0
    try clear hfz20_1
    obtain ⟨x18_1, x219001_1, u219001, rfl, HA, HK1, HO_219001, BK211, BK212, BK213, BK218, HB⟩ := hrel
    cases gk with
    | zero => exact absurd HA.out (by simp [bits_Set_Or.l0])
    | succ k1 =>
      have H := HA.out
      clear HA
      simp only [bits_Set_Or.l0] at H
      by_cases c21 : x18_1 < (l1_1.length : Int)
      · rw [if_pos c21] at H
        have c21b0 : decide (x18_1 < (l1_1.length : Int)) = true := decide_eq_true c21
        clear c21
        by_cases c22 : 0 ≤ x18_1
        · rw [if_pos c22] at H
          have c22b0 : decide (0 ≤ x18_1) = true := decide_eq_true c22
          clear c22
          by_cases c23 : x18_1 < (l1_1.length : Int)
          · rw [if_pos c23] at H
            have c23b0 : decide (x18_1 < (l1_1.length : Int)) = true := decide_eq_true c23
            clear c23
            by_cases c24 : x18_1 < (x219001_1.length : Int)
            · rw [if_pos c24] at H
              have c24b0 : decide (x18_1 < (x219001_1.length : Int)) = true := decide_eq_true c24
              clear c24
              obtain ⟨y221, hy221⟩ : ∃ y_ : List Int, y_ = (x219001_1.set (x18_1 : Int).toNat (Go.bits .or .u64 (rd x219001_1 x18_1) (rd l1_1 x18_1))) := ⟨_, rfl⟩
              replace H : (bits_Set_Or.l0 k1 l1_1 (l1_1.length : Int) (wrap64 (x18_1 + 1)) t214 y221) = some (r1, r2) := by first | (rw [hy221]; with_reducible exact H) | (have H2_ := (Option.bind_some _ _).symm.trans H; rw [hy221]; with_reducible exact H2_) | (have H2_ := (Option.bind_some _ _).symm.trans H; with_reducible exact H2_) | with_reducible exact H | (rw [hy221]; exact H) | exact H
              have Ny221 := Aside0.mk hy221
              clear hy221
              have H' := Aside0.mk H
              clear H
              have p219 : 0 ≤ (x18_1 : Int) := of_decide_eq_true (by first | (with_reducible assumption) | assumption)
              have q219 : x18_1 < (l1_1.length : Int) := of_decide_eq_true (by first | (with_reducible assumption) | assumption)
              obtain ⟨ad219, e219, hx219_0⟩ := Kd.at_int HR1_1.out x18_1 p219 q219
              cases e219
              replace hx219_0 := (HB.out.cell (World.block_lt_of_cell? w _ hx219_0)).trans hx219_0
              replace p219 := eq_true p219
              replace q219 := eq_true q219
              have hnb26 := NB218_211.out
              have hnc26 := NB211_218.out
              have hnb27 := NB218_212.out
              have hnc27 := NB212_218.out
              have hnb28 := NB218_213.out
              have hnc28 := NB213_218.out
              have hcz29_0 : wr.cell? ⟨gb218, 0, none⟩ = some (.int .i64 t214) := (blk_cell BK218.out 0).trans rfl
              have hcz29_1 : wr.cell? ⟨gb218, 1, none⟩ = some (u219001) := (blk_cell BK218.out 1).trans rfl
              have hfz29_0 := blk_frozen BK218.out 0
              have hfz29_1 := blk_frozen BK218.out 1
              obtain ⟨Ao30, co30, eo30⟩ := Kd.R_slice HO_219001.out
              subst eo30
              have p220 : 0 ≤ (x18_1 : Int) := of_decide_eq_true (by first | (with_reducible assumption) | assumption)
              have q220 : x18_1 < (x219001_1.length : Int) := of_decide_eq_true (by first | (with_reducible assumption) | assumption)
              obtain ⟨ad220, e220, hx220_0⟩ := Kd.at_int (Kd.R_reads' HO_219001.out).2.2 x18_1 p220 q220
              cases e220
              replace p220 := eq_true p220
              replace q220 := eq_true q220
              have p25 : 0 ≤ (x18_1 : Int) := of_decide_eq_true (by first | (with_reducible assumption) | assumption)
              have q25 : (x18_1 : Int) < ((x219001_1.length : Int) : Int) := of_decide_eq_true (by first | (with_reducible assumption) | assumption)
              obtain ⟨go25, co25, eo25, gb25, gl25, cl25, HG25⟩ := Kd.R_form HO_219001.out (by omega)
              (first | cases eo25 | (injection eo25 with ea_ en_ ec_; (first | subst ea_ | (injection ea_ with ea_; subst ea_)); subst ec_; clear en_))
              have GB25 := Aside0.mk gb25
              have GG25 := Aside0.mk HG25
              clear gb25 gl25 HG25
              (first | simp only [add_plain] at hx220_0 | skip)
              obtain ⟨hx25_0, hf25_0⟩ := Kd.R_celln 0 HO_219001.out (x18_1 : Int) p25 q25
              replace p25 := eq_true p25
              replace q25 := eq_true q25
              have HP31 := Kd.R_putg HO_219001.out (x18_1 : Int) (Go.bits .or .u64 (rd x219001_1 x18_1) (rd l1_1 x18_1))
              go_wp2_with (first | ((with_reducible refine gate_store (t := 45) (p := 30) rfl ?_); refine store_event (t := 45) (p := 30) (v := ?vo_w32) (w1 := (wr.setCell ⟨go25, (x18_1 : Int).toNat, none⟩ (.int .u64 (Go.bits .or .u64 (rd x219001_1 x18_1) (rd l1_1 x18_1))))) ?hg ?ho ?hn ?hr ?_; (case ho => rfl); (case hg => rfl); (case hn => rfl); (case hr => first | (go_simp; done) | (go_simp; rfl)); intro w32 hw; have hg : wr.grownBy w32 (some go25) := (by rw [hw]; exact HP31.2); have hp_ : Kd.R (Kd.int .u64) 45 w32 w.heap.size (fun _ => True) (.slice (some ⟨go25, 0, none⟩) x219001_1.length co30) y221 := (by rw [hw, Ny221.out]; exact HP31.1); clear HP31; have n0_ := Aside0.mk (hp_); have n1_ := Aside0.mk (blk_grown (g := gb211) (o := .cells #[.int .i64 a0_0, .slice A0_1 l0_1.length c0_1] 26 (0, 0)) (by (with_reducible repeat (first | refine blk_drewN ?_ _ | refine blk_drew ?_ | refine blk_alloc ?_ _)); exact BK211.out) hg (Kd.R_ne HO_219001.out BK211.out (by decide))); have n2_ := Aside0.mk (blk_grown (g := gb212) (o := .cells #[.int .i64 a1_0, .slice (some ad219) l1_1.length c1_1] 26 (0, 0)) (by (with_reducible repeat (first | refine blk_drewN ?_ _ | refine blk_drew ?_ | refine blk_alloc ?_ _)); exact BK212.out) hg (Kd.R_ne HO_219001.out BK212.out (by decide))); have n3_ := Aside0.mk (blk_grown (g := gb213) (o := .cells #[.int .i64 0, .slice none 0 0] 26 (0, 0)) (by (with_reducible repeat (first | refine blk_drewN ?_ _ | refine blk_drew ?_ | refine blk_alloc ?_ _)); exact BK213.out) hg (Kd.R_ne HO_219001.out BK213.out (by decide))); have n4_ := Aside0.mk (blk_grown (g := gb218) (o := .cells #[.int .i64 t214, .slice (some ⟨go25, 0, none⟩) x219001_1.length co30] 26 (0, 0)) (by (with_reducible repeat (first | refine blk_drewN ?_ _ | refine blk_drew ?_ | refine blk_alloc ?_ _)); exact BK218.out) hg (Kd.R_ne HO_219001.out BK218.out (by decide))); have n5_ := Aside0.mk ((by rw [hw]; exact below_set (HB.out) GB25.out : Below w.heap.size w w32)); clear HO_219001; clear BK211; clear BK212; clear BK213; clear BK218; clear HB; have HO_219001 := n0_; have BK211 := n1_; have BK212 := n2_; have BK213 := n3_; have BK218 := n4_; have HB := n5_; clear n0_ n1_ n2_ n3_ n4_ n5_; clear hg hw hp_))
              go_roundg k1
              case measure => have := HK1.out; omega
              case rel => exact ⟨(wrap64 (x18_1 + 1)), (y221), (.slice (some ⟨go25, 0, none⟩) x219001_1.length co30), (by first | rfl | (simp; done) | (simp [*]; done)), H', ⟨by have := HK1.out; omega⟩, ⟨by (with_reducible repeat (first | apply Kd.R_alloc | apply Kd.R_drewN | apply Kd.R_drew)); exact HO_219001.out⟩, ⟨by (with_reducible repeat (first | refine blk_drewN ?_ _ | refine blk_drew ?_ | refine blk_alloc ?_ _)); exact BK211.out⟩, ⟨by (with_reducible repeat (first | refine blk_drewN ?_ _ | refine blk_drew ?_ | refine blk_alloc ?_ _)); exact BK212.out⟩, ⟨by (with_reducible repeat (first | refine blk_drewN ?_ _ | refine blk_drew ?_ | refine blk_alloc ?_ _)); exact BK213.out⟩, ⟨by (with_reducible repeat (first | refine blk_drewN ?_ _ | refine blk_drew ?_ | refine blk_alloc ?_ _)); exact BK218.out⟩, ⟨by repeat (first | (with_reducible first | exact HB.out | apply below_alloc | apply pw_below_drewN | apply below_drew1 | refine below_set ?_ GE211.out | refine below_set ?_ GE212.out | refine below_set ?_ GE213.out | refine below_set ?_ GE218.out) | exact HB.out)⟩⟩
            · rw [if_neg c24] at H
              exact absurd H (by simp)
          · rw [if_neg c23] at H
            exact absurd H (by simp)
        · rw [if_neg c22] at H
          exact absurd H (by simp)
      · rw [if_neg c21] at H
        have c21b0 : decide (x18_1 < (l1_1.length : Int)) = false := decide_eq_false c21
        clear c21
        simp only [Option.some.injEq, Prod.mk.injEq] at H
        obtain ⟨rfl, rfl⟩ := H
        have hnb33 := NB218_211.out
        have hnc33 := NB211_218.out
        have hnb34 := NB218_212.out
        have hnc34 := NB212_218.out
        have hnb35 := NB218_213.out
        have hnc35 := NB213_218.out
        have hcz36_0 : wr.cell? ⟨gb218, 0, none⟩ = some (.int .i64 t214) := (blk_cell BK218.out 0).trans rfl
        have hcz36_1 : wr.cell? ⟨gb218, 1, none⟩ = some (u219001) := (blk_cell BK218.out 1).trans rfl
        have hfz36_0 := blk_frozen BK218.out 0
        have hfz36_1 := blk_frozen BK218.out 1
        have hnb37 := NB213_211.out
        have hnc37 := NB211_213.out
        have hnb38 := NB213_212.out
        have hnc38 := NB212_213.out
        have hcz39_0 : wr.cell? ⟨gb213, 0, none⟩ = some (.int .i64 0) := (blk_cell BK213.out 0).trans rfl
        have hcz39_1 : wr.cell? ⟨gb213, 1, none⟩ = some (.slice none 0 0) := (blk_cell BK213.out 1).trans rfl
        have hfz39_0 := blk_frozen BK213.out 0
        have hfz39_1 := blk_frozen BK213.out 1
        obtain ⟨Ao40, co40, eo40⟩ := Kd.R_slice HO_219001.out
        subst eo40
        go_wp2
        refine bodyPost_ret (results_cell_row rfl _ _ gb213 26 #[.int .i64 t214, .slice Ao40 x219001_1.length co40] (0, 0) _ rfl (by (with_reducible repeat (first | refine blk_drewN ?_ _ | refine blk_drew ?_ | refine blk_alloc ?_ _)); refine blk_put (cs := #[.int .i64 t214, .slice none 0 0]) ?_ 1 _ rfl; (with_reducible repeat (first | refine blk_drewN ?_ _ | refine blk_drew ?_ | refine blk_alloc ?_ _)); refine blk_put (cs := #[.int .i64 0, .slice none 0 0]) ?_ 0 _ rfl; (with_reducible repeat (first | refine blk_drewN ?_ _ | refine blk_drew ?_ | refine blk_alloc ?_ _)); exact BK213.out) Tryd.underlying26 rfl (by kernel_rfl)) rfl ?_
        exact ⟨_, by first | rfl | (simp [errW_none, errW_some] <;> rfl) | (simp only [← hji3]; first | rfl | (simp [errW_none, errW_some] <;> rfl)) | (simp [*, errW_none, errW_some] <;> rfl), by (with_reducible repeat (first | apply Kd.R_alloc | apply Kd.R_drewN | apply Kd.R_drew)); exact Kd.R_mono (Kd.R_far (p := ⟨gb213, 1, none⟩) (Kd.R_far (p := ⟨gb213, 0, none⟩) (Kd.R_types HO_219001.out BK213.out (by decide)) (fun _ hk => hk.2) (.int .i64 t214)) (fun _ hk => hk.2) (.slice Ao40 x219001_1.length co40)) (fun _ hk => trivial), by repeat (first | (with_reducible first | exact HB.out | apply below_alloc | apply pw_below_drewN | apply below_drew1 | refine below_set ?_ GE211.out | refine below_set ?_ GE212.out | refine below_set ?_ GE213.out | refine below_set ?_ GE218.out) | exact HB.out)⟩

/-! ### bits_Set_Same: function 18 -/
def bits_Set_Same.l0 : Nat → List Int → Int → Int → Int → List Int → Option (Bool)
  | 0, _, _, _, _, _ => none
  | k + 1, x13, x14, x15, x224000, x224001 => if x15 < x14 then (if 0 ≤ x15 then (if x15 < (x13.length : Int) then (if x15 < (x224001.length : Int) then (if (rd x13 x15) = (rd x224001 x15) then (bits_Set_Same.l0 k x13 x14 (wrap64 (x15 + 1)) x224000 x224001) else (some false)) else (none)) else (none)) else (none)) else (some true)
def bits_Set_Same.f (k : Nat) (a0_0 : Int) (l0_1 : List Int) (a1_0 : Int) (l1_1 : List Int) : Option (Bool) := if a0_0 = a1_0 then (bits_Set_Same.l0 k l0_1 (l0_1.length : Int) 0 a1_0 l1_1) else (some false)
set_option maxHeartbeats 8000000 in
set_option maxRecDepth 100000 in
theorem bits_Set_Same.calls (k : Nat) (a0_0 : Int) (A0_1 : Option Addr) (c0_1 : Nat) (l0_1 : List Int) (a1_0 : Int) (A1_1 : Option Addr) (c1_1 : Nat) (l1_1 : List Int) (r : Bool) (w : World) (hr0_1 : Kd.C (Kd.int .u64) w A0_1 l0_1.length l0_1) (hc0_1 : l0_1.length ≤ c0_1) (hr1_1 : Kd.C (Kd.int .u64) w A1_1 l1_1.length l1_1) (hc1_1 : l1_1.length ≤ c1_1) (h : bits_Set_Same.f k a0_0 l0_1 a1_0 l1_1 = some r) :
    Calls Tryd.prog 18 #[.agg #[.int .i64 a0_0, .slice A0_1 l0_1.length c0_1], .agg #[.int .i64 a1_0, .slice A1_1 l1_1.length c1_1]] w fun e w' => e = .returned (.bool r) ∧ Below w.heap.size w w' := by
  have hu26 := Tryd.underlying26
  have HR0_1 := Aside0.mk hr0_1
  have HC0_1 := Aside0.mk hc0_1
  clear hr0_1 hc0_1
  have HR1_1 := Aside0.mk hr1_1
  have HC1_1 := Aside0.mk hc1_1
  clear hr1_1 hc1_1
  have HB := Aside0.mk (Below.refl w.heap.size w)
  have H : (if a0_0 = a1_0 then (bits_Set_Same.l0 k l0_1 (l0_1.length : Int) 0 a1_0 l1_1) else (some false)) = some r := h
  clear h
  by_cases c3 : a0_0 = a1_0
  · rw [if_pos c3] at H
    have c3b0 : (a0_0 == a1_0) = true := beq_iff_eq.mpr c3
    have c3b1 : (a0_0 != a1_0) = false := bne_eq_false_iff_eq.mpr c3
    clear c3
    have H' := Aside0.mk H
    clear H
    go_enter Tryd.func18, Tryd.ntmps18
    go_wp2_with (first | ((with_reducible refine gate_dst (N := 2) rfl ?_); refine box_event ?hg (N := 2) ?hd (cs := #[.int .i64 a0_0, .slice A0_1 l0_1.length c0_1]) (t := 26) ?hr ?_; (case hd => rfl); (case hg => rfl); (case hr => first | (go_simp; done) | (go_simp; rfl)); intro gb222 hg w4 hbox hb; have n0_ := Aside0.mk (below_step (by repeat (first | (with_reducible first | exact HB.out | apply below_alloc | apply pw_below_drewN | apply below_drew1) | exact HB.out)) hb); have n1_ := Aside0.mk (hbox); have n2_ := Aside0.mk ((by rw [hg]; exact (below_size (by repeat (first | (with_reducible first | exact HB.out | apply below_alloc | apply pw_below_drewN | apply below_drew1) | exact HB.out))) : w.heap.size ≤ gb222)); have n3_ := Aside0.mk ((by rw [hg]; exact (below_size (by repeat (first | (with_reducible first | exact HB.out | apply below_alloc | apply pw_below_drewN | apply below_drew1) | exact HB.out))) : w.heap.size ≤ gb222)); clear HB; have HB := n0_; have BK222 := n1_; have GW222 := n2_; have GE222 := n3_; clear n0_ n1_ n2_ n3_; clear hb hbox hg) | ((with_reducible refine gate_dst (N := 3) rfl ?_); refine box_event ?hg (N := 3) ?hd (cs := #[.int .i64 a1_0, .slice A1_1 l1_1.length c1_1]) (t := 26) ?hr ?_; (case hd => rfl); (case hg => rfl); (case hr => first | (go_simp; done) | (go_simp; rfl)); intro gb223 hg w5 hbox hb; have n0_ := Aside0.mk (blk_below (g := gb222) (o := .cells #[.int .i64 a0_0, .slice A0_1 l0_1.length c0_1] 26 (0, 0)) (by (with_reducible repeat (first | refine blk_drewN ?_ _ | refine blk_drew ?_ | refine blk_alloc ?_ _)); exact BK222.out) hb); have n1_ := Aside0.mk (below_step (by repeat (first | (with_reducible first | exact HB.out | apply below_alloc | apply pw_below_drewN | apply below_drew1 | refine below_set ?_ GE222.out) | exact HB.out)) hb); have n2_ := Aside0.mk (hbox); have n3_ := Aside0.mk ((by rw [hg]; exact (below_size (by repeat (first | (with_reducible first | exact HB.out | apply below_alloc | apply pw_below_drewN | apply below_drew1 | refine below_set ?_ GE222.out) | exact HB.out))) : w.heap.size ≤ gb223)); have n4_ := Aside0.mk ((by rw [hg]; exact (below_size (by repeat (first | (with_reducible first | exact HB.out | apply below_alloc | apply pw_below_drewN | apply below_drew1 | refine below_set ?_ GE222.out) | exact HB.out))) : w.heap.size ≤ gb223)); have n5_ := Aside0.mk ((by rw [hg]; exact Nat.ne_of_lt (blk_lt (g := gb222) (o := .cells #[.int .i64 a0_0, .slice A0_1 l0_1.length c0_1] 26 (0, 0)) (by (with_reducible repeat (first | refine blk_drewN ?_ _ | refine blk_drew ?_ | refine blk_alloc ?_ _)); exact BK222.out)) : gb222 ≠ gb223)); have n6_ := Aside0.mk ((by rw [hg]; exact Nat.ne_of_gt (blk_lt (g := gb222) (o := .cells #[.int .i64 a0_0, .slice A0_1 l0_1.length c0_1] 26 (0, 0)) (by (with_reducible repeat (first | refine blk_drewN ?_ _ | refine blk_drew ?_ | refine blk_alloc ?_ _)); exact BK222.out)) : gb223 ≠ gb222)); clear BK222; clear HB; have BK222 := n0_; have HB := n1_; have BK223 := n2_; have GW223 := n3_; have GE223 := n4_; have NB222_223 := n5_; have NB223_222 := n6_; clear n0_ n1_ n2_ n3_ n4_ n5_ n6_; clear hb hbox hg; have hnb6 := NB222_223.out; have hnc6 := NB223_222.out; have hcz7_0 : w5.cell? ⟨gb222, 0, none⟩ = some (.int .i64 a0_0) := (blk_cell BK222.out 0).trans rfl; have hcz7_1 : w5.cell? ⟨gb222, 1, none⟩ = some (.slice A0_1 l0_1.length c0_1) := (blk_cell BK222.out 1).trans rfl; have hfz7_0 := blk_frozen BK222.out 0; have hfz7_1 := blk_frozen BK222.out 1; have hcz8_0 : w5.cell? ⟨gb223, 0, none⟩ = some (.int .i64 a1_0) := (blk_cell BK223.out 0).trans rfl; have hcz8_1 : w5.cell? ⟨gb223, 1, none⟩ = some (.slice A1_1 l1_1.length c1_1) := (blk_cell BK223.out 1).trans rfl; have hfz8_0 := blk_frozen BK223.out 0; have hfz8_1 := blk_frozen BK223.out 1))
    go_loopg [15] k (fun kq v15 w' => ∃ (x15_1 : Int), v15 = .int .i64 x15_1 ∧ Aside0 (bits_Set_Same.l0 kq l0_1 (l0_1.length : Int) x15_1 a1_0 l1_1 = some r) ∧ Aside0 (kq ≤ k) ∧ Aside0 (w'.heap[gb222]? = some (.cells #[.int .i64 a0_0, (.slice A0_1 l0_1.length c0_1)] 26 (0, 0))) ∧ Aside0 (w'.heap[gb223]? = some (.cells #[.int .i64 a1_0, (.slice A1_1 l1_1.length c1_1)] 26 (0, 0))) ∧ Aside0 (Below w.heap.size w w'))
    case atStart => exact ⟨(0), (by first | rfl | (simp; done) | (simp [*]; done)), H', ⟨Nat.le_refl _⟩, ⟨by (with_reducible repeat (first | refine blk_drewN ?_ _ | refine blk_drew ?_ | refine blk_alloc ?_ _)); exact BK222.out⟩, ⟨by (with_reducible repeat (first | refine blk_drewN ?_ _ | refine blk_drew ?_ | refine blk_alloc ?_ _)); exact BK223.out⟩, ⟨by repeat (first | (with_reducible first | exact HB.out | apply below_alloc | apply pw_below_drewN | apply below_drew1 | refine below_set ?_ GE222.out | refine below_set ?_ GE223.out) | exact HB.out)⟩⟩
    case round =>
      clear H'
      try clear c1
      try clear p2
      try clear c3
      try clear c3b0
      try clear c3b1
      try clear c6
      try clear hcz7_0
      try clear hcz7_1
      try clear hcz8_0
      try clear hcz8_1
      try clear hfz7_0
      try clear hfz7_1
      try clear hfz8_0
      try clear hfz8_1
      obtain ⟨x15_1, rfl, HA, HK1, BK222, BK223, HB⟩ := hrel
      cases gk with
      | zero => exact absurd HA.out (by simp [bits_Set_Same.l0])
      | succ k1 =>
        have H := HA.out
        clear HA
        simp only [bits_Set_Same.l0] at H
        by_cases c9 : x15_1 < (l0_1.length : Int)
        · rw [if_pos c9] at H
          have c9b0 : decide (x15_1 < (l0_1.length : Int)) = true := decide_eq_true c9
          clear c9
          by_cases c10 : 0 ≤ x15_1
          · rw [if_pos c10] at H
            have c10b0 : decide (0 ≤ x15_1) = true := decide_eq_true c10
            clear c10
            by_cases c11 : x15_1 < (l0_1.length : Int)
            · rw [if_pos c11] at H
              have c11b0 : decide (x15_1 < (l0_1.length : Int)) = true := decide_eq_true c11
              clear c11
              by_cases c12 : x15_1 < (l1_1.length : Int)
              · rw [if_pos c12] at H
                have c12b0 : decide (x15_1 < (l1_1.length : Int)) = true := decide_eq_true c12
                clear c12
                by_cases c13 : (rd l0_1 x15_1) = (rd l1_1 x15_1)
                · rw [if_pos c13] at H
                  have c13b0 : ((rd l0_1 x15_1) == (rd l1_1 x15_1)) = true := beq_iff_eq.mpr c13
                  have c13b1 : ((rd l0_1 x15_1) != (rd l1_1 x15_1)) = false := bne_eq_false_iff_eq.mpr c13
                  clear c13
                  have H' := Aside0.mk H
                  clear H
                  have p224 : 0 ≤ (x15_1 : Int) := of_decide_eq_true (by first | (with_reducible assumption) | assumption)
                  have q224 : x15_1 < (l0_1.length : Int) := of_decide_eq_true (by first | (with_reducible assumption) | assumption)
                  obtain ⟨ad224, e224, hx224_0⟩ := Kd.at_int HR0_1.out x15_1 p224 q224
                  cases e224
                  replace hx224_0 := (HB.out.cell (World.block_lt_of_cell? w _ hx224_0)).trans hx224_0
                  replace p224 := eq_true p224
                  replace q224 := eq_true q224
                  have hnb14 := NB223_222.out
                  have hnc14 := NB222_223.out
                  have hcz15_0 : wr.cell? ⟨gb223, 0, none⟩ = some (.int .i64 a1_0) := (blk_cell BK223.out 0).trans rfl
                  have hcz15_1 : wr.cell? ⟨gb223, 1, none⟩ = some (.slice A1_1 l1_1.length c1_1) := (blk_cell BK223.out 1).trans rfl
                  have hfz15_0 := blk_frozen BK223.out 0
                  have hfz15_1 := blk_frozen BK223.out 1
                  have p225 : 0 ≤ (x15_1 : Int) := of_decide_eq_true (by first | (with_reducible assumption) | assumption)
                  have q225 : x15_1 < (l1_1.length : Int) := of_decide_eq_true (by first | (with_reducible assumption) | assumption)
                  obtain ⟨ad225, e225, hx225_0⟩ := Kd.at_int HR1_1.out x15_1 p225 q225
                  cases e225
                  replace hx225_0 := (HB.out.cell (World.block_lt_of_cell? w _ hx225_0)).trans hx225_0
                  replace p225 := eq_true p225
                  replace q225 := eq_true q225
                  go_wp2
                  go_roundg k1
                  case measure => have := HK1.out; omega
                  case rel => exact ⟨(wrap64 (x15_1 + 1)), (by first | rfl | (simp; done) | (simp [*]; done)), H', ⟨by have := HK1.out; omega⟩, ⟨by (with_reducible repeat (first | refine blk_drewN ?_ _ | refine blk_drew ?_ | refine blk_alloc ?_ _)); exact BK222.out⟩, ⟨by (with_reducible repeat (first | refine blk_drewN ?_ _ | refine blk_drew ?_ | refine blk_alloc ?_ _)); exact BK223.out⟩, ⟨by repeat (first | (with_reducible first | exact HB.out | apply below_alloc | apply pw_below_drewN | apply below_drew1 | refine below_set ?_ GE222.out | refine below_set ?_ GE223.out) | exact HB.out)⟩⟩
                · rw [if_neg c13] at H
                  have c13b0 : ((rd l0_1 x15_1) == (rd l1_1 x15_1)) = false := beq_eq_false_iff_ne.mpr c13
                  have c13b1 : ((rd l0_1 x15_1) != (rd l1_1 x15_1)) = true := bne_iff_ne.mpr c13
                  obtain rfl := Option.some.inj H
                  have p224 : 0 ≤ (x15_1 : Int) := of_decide_eq_true (by first | (with_reducible assumption) | assumption)
                  have q224 : x15_1 < (l0_1.length : Int) := of_decide_eq_true (by first | (with_reducible assumption) | assumption)
                  obtain ⟨ad224, e224, hx224_0⟩ := Kd.at_int HR0_1.out x15_1 p224 q224
                  cases e224
                  replace hx224_0 := (HB.out.cell (World.block_lt_of_cell? w _ hx224_0)).trans hx224_0
                  replace p224 := eq_true p224
                  replace q224 := eq_true q224
                  have hnb16 := NB223_222.out
                  have hnc16 := NB222_223.out
                  have hcz17_0 : wr.cell? ⟨gb223, 0, none⟩ = some (.int .i64 a1_0) := (blk_cell BK223.out 0).trans rfl
                  have hcz17_1 : wr.cell? ⟨gb223, 1, none⟩ = some (.slice A1_1 l1_1.length c1_1) := (blk_cell BK223.out 1).trans rfl
                  have hfz17_0 := blk_frozen BK223.out 0
                  have hfz17_1 := blk_frozen BK223.out 1
                  have p225 : 0 ≤ (x15_1 : Int) := of_decide_eq_true (by first | (with_reducible assumption) | assumption)
                  have q225 : x15_1 < (l1_1.length : Int) := of_decide_eq_true (by first | (with_reducible assumption) | assumption)
                  obtain ⟨ad225, e225, hx225_0⟩ := Kd.at_int HR1_1.out x15_1 p225 q225
                  cases e225
                  replace hx225_0 := (HB.out.cell (World.block_lt_of_cell? w _ hx225_0)).trans hx225_0
                  replace p225 := eq_true p225
                  replace q225 := eq_true q225
                  go_wp2
                  go_ret
                  exact ⟨by first | rfl | (simp [errW_none, errW_some] <;> rfl) | (simp [*, errW_none, errW_some] <;> rfl), by repeat (first | (with_reducible first | exact HB.out | apply below_alloc | apply pw_below_drewN | apply below_drew1 | refine below_set ?_ GE222.out | refine below_set ?_ GE223.out) | exact HB.out)⟩
              · rw [if_neg c12] at H
                exact absurd H (by simp)
            · rw [if_neg c11] at H
              exact absurd H (by simp)
          · rw [if_neg c10] at H
            exact absurd H (by simp)
        · rw [if_neg c9] at H
          have c9b0 : decide (x15_1 < (l0_1.length : Int)) = false := decide_eq_false c9
          clear c9
          obtain rfl := Option.some.inj H
          go_wp2
          go_ret
          exact ⟨by first | rfl | (simp [errW_none, errW_some] <;> rfl) | (simp [*, errW_none, errW_some] <;> rfl), by repeat (first | (with_reducible first | exact HB.out | apply below_alloc | apply pw_below_drewN | apply below_drew1 | refine below_set ?_ GE222.out | refine below_set ?_ GE223.out) | exact HB.out)⟩
  · rw [if_neg c3] at H
    have c3b0 : (a0_0 == a1_0) = false := beq_eq_false_iff_ne.mpr c3
    have c3b1 : (a0_0 != a1_0) = true := bne_iff_ne.mpr c3
    obtain rfl := Option.some.inj H
    go_enter Tryd.func18, Tryd.ntmps18
    go_wp2_with (first | ((with_reducible refine gate_dst (N := 2) rfl ?_); refine box_event ?hg (N := 2) ?hd (cs := #[.int .i64 a0_0, .slice A0_1 l0_1.length c0_1]) (t := 26) ?hr ?_; (case hd => rfl); (case hg => rfl); (case hr => first | (go_simp; done) | (go_simp; rfl)); intro gb222 hg w18 hbox hb; have n0_ := Aside0.mk (below_step (by repeat (first | (with_reducible first | exact HB.out | apply below_alloc | apply pw_below_drewN | apply below_drew1) | exact HB.out)) hb); have n1_ := Aside0.mk (hbox); have n2_ := Aside0.mk ((by rw [hg]; exact (below_size (by repeat (first | (with_reducible first | exact HB.out | apply below_alloc | apply pw_below_drewN | apply below_drew1) | exact HB.out))) : w.heap.size ≤ gb222)); have n3_ := Aside0.mk ((by rw [hg]; exact (below_size (by repeat (first | (with_reducible first | exact HB.out | apply below_alloc | apply pw_below_drewN | apply below_drew1) | exact HB.out))) : w.heap.size ≤ gb222)); clear HB; have HB := n0_; have BK222 := n1_; have GW222 := n2_; have GE222 := n3_; clear n0_ n1_ n2_ n3_; clear hb hbox hg) | ((with_reducible refine gate_dst (N := 3) rfl ?_); refine box_event ?hg (N := 3) ?hd (cs := #[.int .i64 a1_0, .slice A1_1 l1_1.length c1_1]) (t := 26) ?hr ?_; (case hd => rfl); (case hg => rfl); (case hr => first | (go_simp; done) | (go_simp; rfl)); intro gb223 hg w19 hbox hb; have n0_ := Aside0.mk (blk_below (g := gb222) (o := .cells #[.int .i64 a0_0, .slice A0_1 l0_1.length c0_1] 26 (0, 0)) (by (with_reducible repeat (first | refine blk_drewN ?_ _ | refine blk_drew ?_ | refine blk_alloc ?_ _)); exact BK222.out) hb); have n1_ := Aside0.mk (below_step (by repeat (first | (with_reducible first | exact HB.out | apply below_alloc | apply pw_below_drewN | apply below_drew1 | refine below_set ?_ GE222.out) | exact HB.out)) hb); have n2_ := Aside0.mk (hbox); have n3_ := Aside0.mk ((by rw [hg]; exact (below_size (by repeat (first | (with_reducible first | exact HB.out | apply below_alloc | apply pw_below_drewN | apply below_drew1 | refine below_set ?_ GE222.out) | exact HB.out))) : w.heap.size ≤ gb223)); have n4_ := Aside0.mk ((by rw [hg]; exact (below_size (by repeat (first | (with_reducible first | exact HB.out | apply below_alloc | apply pw_below_drewN | apply below_drew1 | refine below_set ?_ GE222.out) | exact HB.out))) : w.heap.size ≤ gb223)); have n5_ := Aside0.mk ((by rw [hg]; exact Nat.ne_of_lt (blk_lt (g := gb222) (o := .cells #[.int .i64 a0_0, .slice A0_1 l0_1.length c0_1] 26 (0, 0)) (by (with_reducible repeat (first | refine blk_drewN ?_ _ | refine blk_drew ?_ | refine blk_alloc ?_ _)); exact BK222.out)) : gb222 ≠ gb223)); have n6_ := Aside0.mk ((by rw [hg]; exact Nat.ne_of_gt (blk_lt (g := gb222) (o := .cells #[.int .i64 a0_0, .slice A0_1 l0_1.length c0_1] 26 (0, 0)) (by (with_reducible repeat (first | refine blk_drewN ?_ _ | refine blk_drew ?_ | refine blk_alloc ?_ _)); exact BK222.out)) : gb223 ≠ gb222)); clear BK222; clear HB; have BK222 := n0_; have HB := n1_; have BK223 := n2_; have GW223 := n3_; have GE223 := n4_; have NB222_223 := n5_; have NB223_222 := n6_; clear n0_ n1_ n2_ n3_ n4_ n5_ n6_; clear hb hbox hg; have hnb20 := NB222_223.out; have hnc20 := NB223_222.out; have hcz21_0 : w19.cell? ⟨gb222, 0, none⟩ = some (.int .i64 a0_0) := (blk_cell BK222.out 0).trans rfl; have hcz21_1 : w19.cell? ⟨gb222, 1, none⟩ = some (.slice A0_1 l0_1.length c0_1) := (blk_cell BK222.out 1).trans rfl; have hfz21_0 := blk_frozen BK222.out 0; have hfz21_1 := blk_frozen BK222.out 1; have hcz22_0 : w19.cell? ⟨gb223, 0, none⟩ = some (.int .i64 a1_0) := (blk_cell BK223.out 0).trans rfl; have hcz22_1 : w19.cell? ⟨gb223, 1, none⟩ = some (.slice A1_1 l1_1.length c1_1) := (blk_cell BK223.out 1).trans rfl; have hfz22_0 := blk_frozen BK223.out 0; have hfz22_1 := blk_frozen BK223.out 1))
    go_ret
    exact ⟨by first | rfl | (simp [errW_none, errW_some] <;> rfl) | (simp [*, errW_none, errW_some] <;> rfl), by repeat (first | (with_reducible first | exact HB.out | apply below_alloc | apply pw_below_drewN | apply below_drew1 | refine below_set ?_ GE222.out | refine below_set ?_ GE223.out) | exact HB.out)⟩

/-! ### ladderbackref06_And: function 16 -/
def ladderbackref06_And.l0 : Nat → List Bool → List Bool → List Bool → Int → Option (List Bool)
  | 0, _, _, _, _ => none
  | k + 1, x0, x1, x5, x6 => if x6 < (x0.length : Int) then (if x6 < (x1.length : Int) then (if 0 ≤ x6 then (if rdOf false x0 x6 = true then (if x5.length < 140737488355328 then (ladderbackref06_And.l0 k x0 x1 (x5 ++ [rdOf false x1 x6]) (wrap64 (x6 + 1))) else (none)) else (if x5.length < 140737488355328 then (ladderbackref06_And.l0 k x0 x1 (x5 ++ [false]) (wrap64 (x6 + 1))) else (none))) else (none)) else (some x5)) else (some x5)
def ladderbackref06_And.f (k : Nat) (l0 : List Bool) (l1 : List Bool) : Option (List Bool) := ladderbackref06_And.l0 k l0 l1 ([] : List Bool) 0
set_option maxHeartbeats 8000000 in
set_option maxRecDepth 100000 in
theorem ladderbackref06_And.calls (k : Nat) (A0 : Option Addr) (c0 : Nat) (l0 : List Bool) (A1 : Option Addr) (c1 : Nat) (l1 : List Bool) (r : List Bool) (w : World) (hr0 : Kd.C Kd.bool w A0 l0.length l0) (hc0 : l0.length ≤ c0) (hr1 : Kd.C Kd.bool w A1 l1.length l1) (hc1 : l1.length ≤ c1) (h : ladderbackref06_And.f k l0 l1 = some r) :
    Calls Tryd.prog 16 #[.slice A0 l0.length c0, .slice A1 l1.length c1] w fun e w' => ∃ v0_ : Value, e = .returned (v0_) ∧ Kd.R Kd.bool 4 w' w.heap.size (fun _ => True) v0_ r ∧ Below w.heap.size w w' := by
  have HR0 := Aside0.mk hr0
  have HC0 := Aside0.mk hc0
  clear hr0 hc0
  have HR1 := Aside0.mk hr1
  have HC1 := Aside0.mk hc1
  clear hr1 hc1
  have HB := Aside0.mk (Below.refl w.heap.size w)
  have H : (ladderbackref06_And.l0 k l0 l1 ([] : List Bool) 0) = some r := h
  clear h
  have H' := Aside0.mk H
  clear H
  go_enter Tryd.func16, Tryd.ntmps16
  go_wp2
  go_loopg [5, 6] k (fun kq v5 v6 w' => ∃ (x5_1 : List Bool) (x6_1 : Int), v6 = .int .i64 x6_1 ∧ Aside0 (ladderbackref06_And.l0 kq l0 l1 x5_1 x6_1 = some r) ∧ Aside0 (kq ≤ k) ∧ Aside0 (Kd.R Kd.bool 4 w' w.heap.size (fun _ => True) v5 x5_1) ∧ Aside0 (Below w.heap.size w w'))
  case atStart => exact ⟨(([] : List Bool)), (0), (by first | rfl | (simp; done) | (simp [*]; done)), H', ⟨Nat.le_refl _⟩, ⟨by first | exact Kd.R_nil _ _ _ _ _ | exact Kd.N_nil _ _ _ _ _ | exact Kd.V_nil _ _ _ _ _ | exact Kd.Q_nil _ _ _ _ _ | exact Kd.S_nil _ _ _ _ _⟩, ⟨by repeat (first | (with_reducible first | exact HB.out | apply below_alloc | apply pw_below_drewN | apply below_drew1) | exact HB.out)⟩⟩
  case round =>
    clear H'
    try clear c1
    try clear p2
    obtain ⟨x5_1, x6_1, rfl, HA, HK1, HO_5, HB⟩ := hrel
    cases gk with
    | zero => exact absurd HA.out (by simp [ladderbackref06_And.l0])
    | succ k1 =>
      have H := HA.out
      clear HA
      simp only [ladderbackref06_And.l0] at H
      by_cases c3 : x6_1 < (l0.length : Int)
      · rw [if_pos c3] at H
        have c3b0 : decide (x6_1 < (l0.length : Int)) = true := decide_eq_true c3
        clear c3
        by_cases c4 : x6_1 < (l1.length : Int)
        · rw [if_pos c4] at H
          have c4b0 : decide (x6_1 < (l1.length : Int)) = true := decide_eq_true c4
          clear c4
          by_cases c5 : 0 ≤ x6_1
          · rw [if_pos c5] at H
            have c5b0 : decide (0 ≤ x6_1) = true := decide_eq_true c5
            clear c5
            obtain ⟨bq6, hbq6⟩ : ∃ b_ : Bool, b_ = (rdOf false l0 x6_1) := ⟨_, rfl⟩
            replace H : (if bq6 = true then (if x5_1.length < 140737488355328 then (ladderbackref06_And.l0 k1 l0 l1 (x5_1 ++ [rdOf false l1 x6_1]) (wrap64 (x6_1 + 1))) else (none)) else (if x5_1.length < 140737488355328 then (ladderbackref06_And.l0 k1 l0 l1 (x5_1 ++ [false]) (wrap64 (x6_1 + 1))) else (none))) = some r := by rw [← hbq6] at H; exact H
            have Nbq6 := Aside0.mk hbq6
            clear hbq6
            by_cases c7 : bq6 = true
            · subst c7
              have H1 : (if x5_1.length < 140737488355328 then (ladderbackref06_And.l0 k1 l0 l1 (x5_1 ++ [rdOf false l1 x6_1]) (wrap64 (x6_1 + 1))) else (none)) = some r := by rw [if_pos rfl] at H; exact H
              clear H
              have H := H1
              clear H1
              by_cases c8 : x5_1.length < 140737488355328
              · rw [if_pos c8] at H
                have LMc8 := Aside0.mk c8
                clear c8
                obtain ⟨y228, hy228⟩ : ∃ y_ : List Bool, y_ = (x5_1 ++ [rdOf false l1 x6_1]) := ⟨_, rfl⟩
                replace H : (ladderbackref06_And.l0 k1 l0 l1 y228 (wrap64 (x6_1 + 1))) = some r := by first | (rw [hy228]; with_reducible exact H) | (have H2_ := (Option.bind_some _ _).symm.trans H; rw [hy228]; with_reducible exact H2_) | (have H2_ := (Option.bind_some _ _).symm.trans H; with_reducible exact H2_) | with_reducible exact H | (rw [hy228]; exact H) | exact H
                have Ny228 := Aside0.mk hy228
                clear hy228
                have H' := Aside0.mk H
                clear H
                have p226 : 0 ≤ (x6_1 : Int) := of_decide_eq_true (by first | (with_reducible assumption) | assumption)
                have q226 : x6_1 < (l0.length : Int) := of_decide_eq_true (by first | (with_reducible assumption) | assumption)
                obtain ⟨ad226, e226, hx226_0⟩ := Kd.at_bool HR0.out x6_1 p226 q226
                (try rw [← Nbq6.out] at hx226_0)
                cases e226
                replace hx226_0 := (HB.out.cell (World.block_lt_of_cell? w _ hx226_0)).trans hx226_0
                replace p226 := eq_true p226
                replace q226 := eq_true q226
                have p227 : 0 ≤ (x6_1 : Int) := of_decide_eq_true (by first | (with_reducible assumption) | assumption)
                have q227 : x6_1 < (l1.length : Int) := of_decide_eq_true (by first | (with_reducible assumption) | assumption)
                obtain ⟨ad227, e227, hx227_0⟩ := Kd.at_bool HR1.out x6_1 p227 q227
                (try rw [← Nbq6.out] at hx227_0)
                cases e227
                replace hx227_0 := (HB.out.cell (World.block_lt_of_cell? w _ hx227_0)).trans hx227_0
                replace p227 := eq_true p227
                replace q227 := eq_true q227
                go_wp2_with (first | ((with_reducible refine gate_builtin (b := .append) (xs := #[.tmp 19, .tmp 30]) rfl ?_); (try (refine gate_guard (by rfl) ?_; dsimp only)); at_builtin; refine Kd.R_append Kd.bool (w0 := w) w.heap.size rfl (.tmp 19) (.tmp 30) 27 4 (.bool false) 1 rfl Tryd.underlying27 info4 rfl (by decide) (by omega) u5 x5_1 (rdOf false l1 x6_1) [.bool (rdOf false l1 x6_1)] (fun _ => True) (fun _ => False) rfl rfl ?aP (fun _ hk => hk.elim) ?aF ?aO ?aB ?aS ?aL ?_; (case aP => exact rfl); (case aB => exact (by repeat (first | (with_reducible first | exact HB.out | apply below_alloc | apply pw_below_drewN | apply below_drew1) | exact HB.out))); (case aF => exact (fun _ _ => trivial)); (case aO => exact (by (with_reducible repeat (first | apply Kd.R_alloc | apply Kd.R_drewN | apply Kd.R_drew)); exact HO_5.out)); (case aS => exact (below_size (by repeat (first | (with_reducible first | exact HB.out | apply below_alloc | apply pw_below_drewN | apply below_drew1) | exact HB.out)))); (case aL => have := LMc8.out; omega); intro v229 w9 ho hb hg hat; rw [← Ny228.out] at ho; have n0_ := Aside0.mk (hb); have n1_ := Aside0.mk (ho); clear HB; clear HO_5; have HB := n0_; have HO230 := n1_; clear n0_ n1_; clear ho hb hg hat))
                go_roundg k1
                case measure => have := HK1.out; omega
                case rel => exact ⟨(y228), (wrap64 (x6_1 + 1)), (by first | rfl | (simp; done) | (simp [*]; done)), H', ⟨by have := HK1.out; omega⟩, ⟨by (with_reducible repeat (first | apply Kd.R_alloc | apply Kd.R_drewN | apply Kd.R_drew)); exact HO230.out⟩, ⟨by repeat (first | (with_reducible first | exact HB.out | apply below_alloc | apply pw_below_drewN | apply below_drew1) | exact HB.out)⟩⟩
              · rw [if_neg c8] at H
                exact absurd H (by simp)
            · replace c7 := Bool.eq_false_iff.mpr c7
              subst c7
              have H1 : (if x5_1.length < 140737488355328 then (ladderbackref06_And.l0 k1 l0 l1 (x5_1 ++ [false]) (wrap64 (x6_1 + 1))) else (none)) = some r := by rw [if_neg (show ¬ (false = true) by decide)] at H; exact H
              clear H
              have H := H1
              clear H1
              by_cases c10 : x5_1.length < 140737488355328
              · rw [if_pos c10] at H
                have LMc10 := Aside0.mk c10
                clear c10
                obtain ⟨y231, hy231⟩ : ∃ y_ : List Bool, y_ = (x5_1 ++ [false]) := ⟨_, rfl⟩
                replace H : (ladderbackref06_And.l0 k1 l0 l1 y231 (wrap64 (x6_1 + 1))) = some r := by first | (rw [hy231]; with_reducible exact H) | (have H2_ := (Option.bind_some _ _).symm.trans H; rw [hy231]; with_reducible exact H2_) | (have H2_ := (Option.bind_some _ _).symm.trans H; with_reducible exact H2_) | with_reducible exact H | (rw [hy231]; exact H) | exact H
                have Ny231 := Aside0.mk hy231
                clear hy231
                have H' := Aside0.mk H
                clear H
                have p226 : 0 ≤ (x6_1 : Int) := of_decide_eq_true (by first | (with_reducible assumption) | assumption)
                have q226 : x6_1 < (l0.length : Int) := of_decide_eq_true (by first | (with_reducible assumption) | assumption)
                obtain ⟨ad226, e226, hx226_0⟩ := Kd.at_bool HR0.out x6_1 p226 q226
                (try rw [← Nbq6.out] at hx226_0)
                cases e226
                replace hx226_0 := (HB.out.cell (World.block_lt_of_cell? w _ hx226_0)).trans hx226_0
                replace p226 := eq_true p226
                replace q226 := eq_true q226
                go_wp2_with (first | ((with_reducible refine gate_builtin (b := .append) (xs := #[.tmp 19, .tmp 30]) rfl ?_); (try (refine gate_guard (by rfl) ?_; dsimp only)); at_builtin; refine Kd.R_append Kd.bool (w0 := w) w.heap.size rfl (.tmp 19) (.tmp 30) 27 4 (.bool false) 1 rfl Tryd.underlying27 info4 rfl (by decide) (by omega) u5 x5_1 false [.bool false] (fun _ => True) (fun _ => False) rfl rfl ?aP (fun _ hk => hk.elim) ?aF ?aO ?aB ?aS ?aL ?_; (case aP => exact rfl); (case aB => exact (by repeat (first | (with_reducible first | exact HB.out | apply below_alloc | apply pw_below_drewN | apply below_drew1) | exact HB.out))); (case aF => exact (fun _ _ => trivial)); (case aO => exact (by (with_reducible repeat (first | apply Kd.R_alloc | apply Kd.R_drewN | apply Kd.R_drew)); exact HO_5.out)); (case aS => exact (below_size (by repeat (first | (with_reducible first | exact HB.out | apply below_alloc | apply pw_below_drewN | apply below_drew1) | exact HB.out)))); (case aL => have := LMc10.out; omega); intro v232 w11 ho hb hg hat; rw [← Ny231.out] at ho; have n0_ := Aside0.mk (hb); have n1_ := Aside0.mk (ho); clear HB; clear HO_5; have HB := n0_; have HO233 := n1_; clear n0_ n1_; clear ho hb hg hat))
                go_roundg k1
                case measure => have := HK1.out; omega
                case rel => exact ⟨(y231), (wrap64 (x6_1 + 1)), (by first | rfl | (simp; done) | (simp [*]; done)), H', ⟨by have := HK1.out; omega⟩, ⟨by (with_reducible repeat (first | apply Kd.R_alloc | apply Kd.R_drewN | apply Kd.R_drew)); exact HO233.out⟩, ⟨by repeat (first | (with_reducible first | exact HB.out | apply below_alloc | apply pw_below_drewN | apply below_drew1) | exact HB.out)⟩⟩
              · rw [if_neg c10] at H
                exact absurd H (by simp)
          · rw [if_neg c5] at H
            exact absurd H (by simp)
        · rw [if_neg c4] at H
          have c4b0 : decide (x6_1 < (l1.length : Int)) = false := decide_eq_false c4
          clear c4
          obtain rfl := Option.some.inj H
          go_wp2
          go_ret
          exact ⟨_, by first | rfl | (simp [errW_none, errW_some] <;> rfl) | (simp [*, errW_none, errW_some] <;> rfl), by (with_reducible repeat (first | apply Kd.R_alloc | apply Kd.R_drewN | apply Kd.R_drew)); exact HO_5.out, by repeat (first | (with_reducible first | exact HB.out | apply below_alloc | apply pw_below_drewN | apply below_drew1) | exact HB.out)⟩
      · rw [if_neg c3] at H
        have c3b0 : decide (x6_1 < (l0.length : Int)) = false := decide_eq_false c3
        clear c3
        obtain rfl := Option.some.inj H
        go_wp2
        go_ret
        exact ⟨_, by first | rfl | (simp [errW_none, errW_some] <;> rfl) | (simp [*, errW_none, errW_some] <;> rfl), by (with_reducible repeat (first | apply Kd.R_alloc | apply Kd.R_drewN | apply Kd.R_drew)); exact HO_5.out, by repeat (first | (with_reducible first | exact HB.out | apply below_alloc | apply pw_below_drewN | apply below_drew1) | exact HB.out)⟩

/-! ### ladderbackref06_Or: function 17 -/
mutual
def ladderbackref06_Or.l0 : Nat → List Bool → List Bool → List Bool → Int → Option (List Bool)
  | 0, _, _, _, _ => none
  | k + 1, x0, x1, x5, x6 => if x6 < (x0.length : Int) then (ladderbackref06_Or.j1 k x0 x1 x5 x6 true) else (ladderbackref06_Or.j1 k x0 x1 x5 x6 (decide (x6 < (x1.length : Int))))
def ladderbackref06_Or.j1 : Nat → List Bool → List Bool → List Bool → Int → Bool → Option (List Bool)
  | 0, _, _, _, _, _ => none
  | k + 1, x0, x1, x5, x6, x16 => if x16 = true then ((ladderbackref06_Has.f x0 x6).bind fun t234 => (if t234 = true then (if x5.length < 140737488355328 then (ladderbackref06_Or.l0 k x0 x1 (x5 ++ [true]) (wrap64 (x6 + 1))) else (none)) else ((ladderbackref06_Has.f x1 x6).bind fun t238 => (if x5.length < 140737488355328 then (ladderbackref06_Or.l0 k x0 x1 (x5 ++ [t238]) (wrap64 (x6 + 1))) else (none))))) else (some x5)
end
def ladderbackref06_Or.f (k : Nat) (l0 : List Bool) (l1 : List Bool) : Option (List Bool) := ladderbackref06_Or.l0 k l0 l1 ([] : List Bool) 0
set_option maxHeartbeats 8000000 in
set_option maxRecDepth 100000 in
theorem ladderbackref06_Or.calls (k : Nat) (A0 : Option Addr) (c0 : Nat) (l0 : List Bool) (A1 : Option Addr) (c1 : Nat) (l1 : List Bool) (r : List Bool) (w : World) (hr0 : Kd.C Kd.bool w A0 l0.length l0) (hc0 : l0.length ≤ c0) (hr1 : Kd.C Kd.bool w A1 l1.length l1) (hc1 : l1.length ≤ c1) (h : ladderbackref06_Or.f k l0 l1 = some r) :
    Calls Tryd.prog 17 #[.slice A0 l0.length c0, .slice A1 l1.length c1] w fun e w' => ∃ v0_ : Value, e = .returned (v0_) ∧ Kd.R Kd.bool 4 w' w.heap.size (fun _ => True) v0_ r ∧ Below w.heap.size w w' := by
  have HR0 := Aside0.mk hr0
  have HC0 := Aside0.mk hc0
  clear hr0 hc0
  have HR1 := Aside0.mk hr1
  have HC1 := Aside0.mk hc1
  clear hr1 hc1
  have HB := Aside0.mk (Below.refl w.heap.size w)
  have H : (ladderbackref06_Or.l0 k l0 l1 ([] : List Bool) 0) = some r := h
  clear h
  have H' := Aside0.mk H
  clear H
  go_enter Tryd.func17, Tryd.ntmps17
  go_wp2
  go_loopg [5, 6] k (fun kq v5 v6 w' => ∃ (x5_1 : List Bool) (x6_1 : Int), v6 = .int .i64 x6_1 ∧ Aside0 (ladderbackref06_Or.l0 kq l0 l1 x5_1 x6_1 = some r) ∧ Aside0 (kq ≤ k) ∧ Aside0 (Kd.R Kd.bool 4 w' w.heap.size (fun _ => True) v5 x5_1) ∧ Aside0 (Below w.heap.size w w'))
  case atStart => exact ⟨(([] : List Bool)), (0), (by first | rfl | (simp; done) | (simp [*]; done)), H', ⟨Nat.le_refl _⟩, ⟨by first | exact Kd.R_nil _ _ _ _ _ | exact Kd.N_nil _ _ _ _ _ | exact Kd.V_nil _ _ _ _ _ | exact Kd.Q_nil _ _ _ _ _ | exact Kd.S_nil _ _ _ _ _⟩, ⟨by repeat (first | (with_reducible first | exact HB.out | apply below_alloc | apply pw_below_drewN | apply below_drew1) | exact HB.out)⟩⟩
  case round =>
    clear H'
    try clear c1
    try clear p2
    obtain ⟨x5_1, x6_1, rfl, HA, HK1, HO_5, HB⟩ := hrel
    cases gk with
    | zero => exact absurd HA.out (by simp [ladderbackref06_Or.l0])
    | succ k1 =>
      have H := HA.out
      clear HA
      simp only [ladderbackref06_Or.l0] at H
      have HC3 := Aside0.mk H
      clear H
      go_upto_region 3 with (fail)
      go_cut [16] (fun v16 wc => ∃ (kq : Nat) (x16_2 : Bool), v16 = .bool x16_2 ∧ Aside0 (ladderbackref06_Or.j1 kq l0 l1 x5_1 x6_1 x16_2 = some r) ∧ Aside0 (kq ≤ k1) ∧ Aside0 (Kd.R Kd.bool 4 wc w.heap.size (fun _ => True) u5 x5_1) ∧ Aside0 (Below w.heap.size w wc))
      case first =>
        have H := HC3.out
        clear HC3
        by_cases c4 : x6_1 < (l0.length : Int)
        · rw [if_pos c4] at H
          have c4b0 : decide (x6_1 < (l0.length : Int)) = true := decide_eq_true c4
          clear c4
          (first | rw [c4b0] | (simp only [i64_w, i32_w]; rw [c4b0]) | skip)
          have H' := Aside0.mk H
          clear H
          go_wp2
          go_meet
          case rel => exact ⟨_, (true), (by first | rfl | (simp; done) | (simp [*]; done)), H', ⟨by have := HK1.out; first | omega | exact Nat.le_refl _⟩, ⟨by (with_reducible repeat (first | apply Kd.R_alloc | apply Kd.R_drewN | apply Kd.R_drew)); exact HO_5.out⟩, ⟨by repeat (first | (with_reducible first | exact HB.out | apply below_alloc | apply pw_below_drewN | apply below_drew1) | exact HB.out)⟩⟩
        · rw [if_neg c4] at H
          have c4b0 : decide (x6_1 < (l0.length : Int)) = false := decide_eq_false c4
          clear c4
          (first | rw [c4b0] | (simp only [i64_w, i32_w]; rw [c4b0]) | skip)
          have H' := Aside0.mk H
          clear H
          go_wp2
          go_meet
          case rel => exact ⟨_, (decide (x6_1 < (l1.length : Int))), (by first | rfl | (simp; done) | (simp [*]; done)), H', ⟨by have := HK1.out; first | omega | exact Nat.le_refl _⟩, ⟨by (with_reducible repeat (first | apply Kd.R_alloc | apply Kd.R_drewN | apply Kd.R_drew)); exact HO_5.out⟩, ⟨by repeat (first | (with_reducible first | exact HB.out | apply below_alloc | apply pw_below_drewN | apply below_drew1) | exact HB.out)⟩⟩
      case rest =>
        clear HC3
        try clear c1
        try clear p2
        try clear c4
        try clear c4b0
        try clear p2
        obtain ⟨kq, x16_2, rfl, HA, HJ2, HO_5, HB⟩ := hcut
        cases kq with
        | zero => exact absurd HA.out (by simp [ladderbackref06_Or.j1])
        | succ kj2 =>
          have H := HA.out
          clear HA
          simp only [ladderbackref06_Or.j1] at H
          by_cases c5 : x16_2 = true
          · subst c5
            have H1 : ((ladderbackref06_Has.f l0 x6_1).bind fun t234 => (if t234 = true then (if x5_1.length < 140737488355328 then (ladderbackref06_Or.l0 kj2 l0 l1 (x5_1 ++ [true]) (wrap64 (x6_1 + 1))) else (none)) else ((ladderbackref06_Has.f l1 x6_1).bind fun t238 => (if x5_1.length < 140737488355328 then (ladderbackref06_Or.l0 kj2 l0 l1 (x5_1 ++ [t238]) (wrap64 (x6_1 + 1))) else (none))))) = some r := by rw [if_pos rfl] at H; exact H
            clear H
            have H := H1
            clear H1
            replace H := Option.bind_eq_some_iff.mp H
            obtain ⟨t234, A60, H⟩ := H
            replace H : (if t234 = true then (if x5_1.length < 140737488355328 then (ladderbackref06_Or.l0 kj2 l0 l1 (x5_1 ++ [true]) (wrap64 (x6_1 + 1))) else (none)) else ((ladderbackref06_Has.f l1 x6_1).bind fun t238 => (if x5_1.length < 140737488355328 then (ladderbackref06_Or.l0 kj2 l0 l1 (x5_1 ++ [t238]) (wrap64 (x6_1 + 1))) else (none)))) = some r := H
            have A6 := Aside0.mk A60
            clear A60
            by_cases c7 : t234 = true
            · subst c7
              have H1 : (if x5_1.length < 140737488355328 then (ladderbackref06_Or.l0 kj2 l0 l1 (x5_1 ++ [true]) (wrap64 (x6_1 + 1))) else (none)) = some r := by rw [if_pos rfl] at H; exact H
              clear H
              have H := H1
              clear H1
              by_cases c8 : x5_1.length < 140737488355328
              · rw [if_pos c8] at H
                have LMc8 := Aside0.mk c8
                clear c8
                obtain ⟨y235, hy235⟩ : ∃ y_ : List Bool, y_ = (x5_1 ++ [true]) := ⟨_, rfl⟩
                replace H : (ladderbackref06_Or.l0 kj2 l0 l1 y235 (wrap64 (x6_1 + 1))) = some r := by first | (rw [hy235]; with_reducible exact H) | (have H2_ := (Option.bind_some _ _).symm.trans H; rw [hy235]; with_reducible exact H2_) | (have H2_ := (Option.bind_some _ _).symm.trans H; with_reducible exact H2_) | with_reducible exact H | (rw [hy235]; exact H) | exact H
                have Ny235 := Aside0.mk hy235
                clear hy235
                have H' := Aside0.mk H
                clear H
                go_wp2_with (first | ((with_reducible refine gate_callee (f := 11) rfl ?_); refine goesL_ (some 22) rfl rfl Tryd.func11 (by kernel_rfl) rfl #[.slice A0 l0.length c0, .int .i64 x6_1] rfl (by (try simp only [List.map_toArray, List.map_cons, List.map_nil]); first | done | rfl | (simp only [List.length_drop, List.length_take]; rfl)) ?_; (with_reducible refine (ladderbackref06_Has.calls _ _ l0 x6_1 true _ ?side1 ?side2 A6.out).mono ?_); (case side1 => repeat (first | exact (Kd.C_below HR0.out HB.out) | (with_reducible refine Kd.C_alloc ?_ _) | (with_reducible refine Kd.C_drewN ?_ _) | (with_reducible refine Kd.C_drew ?_))); (case side2 => exact HC0.out); rintro e w' ⟨rfl, ⟨nd, rfl⟩⟩; refine ⟨_, rfl, ?_⟩) | ((with_reducible refine gate_builtin (b := .append) (xs := #[.tmp 19, .tmp 28]) rfl ?_); (try (refine gate_guard (by rfl) ?_; dsimp only)); at_builtin; refine Kd.R_append Kd.bool (w0 := w) w.heap.size rfl (.tmp 19) (.tmp 28) 27 4 (.bool false) 1 rfl Tryd.underlying27 info4 rfl (by decide) (by omega) u5 x5_1 true [.bool true] (fun _ => True) (fun _ => False) rfl rfl ?aP (fun _ hk => hk.elim) ?aF ?aO ?aB ?aS ?aL ?_; (case aP => exact rfl); (case aB => exact (by repeat (first | (with_reducible first | exact HB.out | apply below_alloc | apply pw_below_drewN | apply below_drew1) | exact HB.out))); (case aF => exact (fun _ _ => trivial)); (case aO => exact (by (with_reducible repeat (first | apply Kd.R_alloc | apply Kd.R_drewN | apply Kd.R_drew)); exact HO_5.out)); (case aS => exact (below_size (by repeat (first | (with_reducible first | exact HB.out | apply below_alloc | apply pw_below_drewN | apply below_drew1) | exact HB.out)))); (case aL => have := LMc8.out; omega); intro v236 w9 ho hb hg hat; rw [← Ny235.out] at ho; have n0_ := Aside0.mk (hb); have n1_ := Aside0.mk (ho); clear HB; clear HO_5; have HB := n0_; have HO237 := n1_; clear n0_ n1_; clear ho hb hg hat))
                go_roundg kj2
                case measure => have := HK1.out; have := HJ2.out; omega
                case rel => exact ⟨(y235), (wrap64 (x6_1 + 1)), (by first | rfl | (simp; done) | (simp [*]; done)), H', ⟨by have := HK1.out; have := HJ2.out; omega⟩, ⟨by (with_reducible repeat (first | apply Kd.R_alloc | apply Kd.R_drewN | apply Kd.R_drew)); exact HO237.out⟩, ⟨by repeat (first | (with_reducible first | exact HB.out | apply below_alloc | apply pw_below_drewN | apply below_drew1) | exact HB.out)⟩⟩
              · rw [if_neg c8] at H
                exact absurd H (by simp)
            · replace c7 := Bool.eq_false_iff.mpr c7
              subst c7
              have H1 : ((ladderbackref06_Has.f l1 x6_1).bind fun t238 => (if x5_1.length < 140737488355328 then (ladderbackref06_Or.l0 kj2 l0 l1 (x5_1 ++ [t238]) (wrap64 (x6_1 + 1))) else (none))) = some r := by rw [if_neg (show ¬ (false = true) by decide)] at H; exact H
              clear H
              have H := H1
              clear H1
              replace H := Option.bind_eq_some_iff.mp H
              obtain ⟨t238, A100, H⟩ := H
              replace H : (if x5_1.length < 140737488355328 then (ladderbackref06_Or.l0 kj2 l0 l1 (x5_1 ++ [t238]) (wrap64 (x6_1 + 1))) else (none)) = some r := H
              have A10 := Aside0.mk A100
              clear A100
              by_cases c11 : x5_1.length < 140737488355328
              · rw [if_pos c11] at H
                have LMc11 := Aside0.mk c11
                clear c11
                obtain ⟨y239, hy239⟩ : ∃ y_ : List Bool, y_ = (x5_1 ++ [t238]) := ⟨_, rfl⟩
                replace H : (ladderbackref06_Or.l0 kj2 l0 l1 y239 (wrap64 (x6_1 + 1))) = some r := by first | (rw [hy239]; with_reducible exact H) | (have H2_ := (Option.bind_some _ _).symm.trans H; rw [hy239]; with_reducible exact H2_) | (have H2_ := (Option.bind_some _ _).symm.trans H; with_reducible exact H2_) | with_reducible exact H | (rw [hy239]; exact H) | exact H
                have Ny239 := Aside0.mk hy239
                clear hy239
                have H' := Aside0.mk H
                clear H
                go_wp2_with (first | ((with_reducible refine gate_callee (f := 11) rfl ?_); refine goesL_ (some 22) rfl rfl Tryd.func11 (by kernel_rfl) rfl #[.slice A0 l0.length c0, .int .i64 x6_1] rfl (by (try simp only [List.map_toArray, List.map_cons, List.map_nil]); first | done | rfl | (simp only [List.length_drop, List.length_take]; rfl)) ?_; (with_reducible refine (ladderbackref06_Has.calls _ _ l0 x6_1 false _ ?side1 ?side2 A6.out).mono ?_); (case side1 => repeat (first | exact (Kd.C_below HR0.out HB.out) | (with_reducible refine Kd.C_alloc ?_ _) | (with_reducible refine Kd.C_drewN ?_ _) | (with_reducible refine Kd.C_drew ?_))); (case side2 => exact HC0.out); rintro e w' ⟨rfl, ⟨nd, rfl⟩⟩; refine ⟨_, rfl, ?_⟩) | (go_at_call 11; (with_reducible refine (ladderbackref06_Has.calls _ _ l1 x6_1 t238 _ ?side1 ?side2 A10.out).mono ?_); (case side1 => repeat (first | exact (Kd.C_below HR1.out (by repeat (first | (with_reducible first | exact HB.out | apply below_alloc | apply pw_below_drewN | apply below_drew1) | exact HB.out))) | (with_reducible refine Kd.C_alloc ?_ _) | (with_reducible refine Kd.C_drewN ?_ _) | (with_reducible refine Kd.C_drew ?_))); (case side2 => exact HC1.out); rintro e w' ⟨rfl, ⟨nd, rfl⟩⟩) | ((with_reducible refine gate_builtin (b := .append) (xs := #[.tmp 19, .tmp 28]) rfl ?_); (try (refine gate_guard (by rfl) ?_; dsimp only)); at_builtin; refine Kd.R_append Kd.bool (w0 := w) w.heap.size rfl (.tmp 19) (.tmp 28) 27 4 (.bool false) 1 rfl Tryd.underlying27 info4 rfl (by decide) (by omega) u5 x5_1 t238 [.bool t238] (fun _ => True) (fun _ => False) rfl rfl ?aP (fun _ hk => hk.elim) ?aF ?aO ?aB ?aS ?aL ?_; (case aP => exact rfl); (case aB => exact (by repeat (first | (with_reducible first | exact HB.out | apply below_alloc | apply pw_below_drewN | apply below_drew1) | exact HB.out))); (case aF => exact (fun _ _ => trivial)); (case aO => exact (by (with_reducible repeat (first | apply Kd.R_alloc | apply Kd.R_drewN | apply Kd.R_drew)); exact HO_5.out)); (case aS => exact (below_size (by repeat (first | (with_reducible first | exact HB.out | apply below_alloc | apply pw_below_drewN | apply below_drew1) | exact HB.out)))); (case aL => have := LMc11.out; omega); intro v240 w12 ho hb hg hat; rw [← Ny239.out] at ho; have n0_ := Aside0.mk (hb); have n1_ := Aside0.mk (ho); clear HB; clear HO_5; have HB := n0_; have HO241 := n1_; clear n0_ n1_; clear ho hb hg hat))
                go_roundg kj2
                case measure => have := HK1.out; have := HJ2.out; omega
                case rel => exact ⟨(y239), (wrap64 (x6_1 + 1)), (by first | rfl | (simp; done) | (simp [*]; done)), H', ⟨by have := HK1.out; have := HJ2.out; omega⟩, ⟨by (with_reducible repeat (first | apply Kd.R_alloc | apply Kd.R_drewN | apply Kd.R_drew)); exact HO241.out⟩, ⟨by repeat (first | (with_reducible first | exact HB.out | apply below_alloc | apply pw_below_drewN | apply below_drew1) | exact HB.out)⟩⟩
              · rw [if_neg c11] at H
                exact absurd H (by simp)
          · replace c5 := Bool.eq_false_iff.mpr c5
            subst c5
            have H1 : (some x5_1) = some r := by rw [if_neg (show ¬ (false = true) by decide)] at H; exact H
            clear H
            have H := H1
            clear H1
            obtain rfl := Option.some.inj H
            go_wp2
            go_ret
            exact ⟨_, by first | rfl | (simp [errW_none, errW_some] <;> rfl) | (simp [*, errW_none, errW_some] <;> rfl), by (with_reducible repeat (first | apply Kd.R_alloc | apply Kd.R_drewN | apply Kd.R_drew)); exact HO_5.out, by repeat (first | (with_reducible first | exact HB.out | apply below_alloc | apply pw_below_drewN | apply below_drew1) | exact HB.out)⟩

/-! ### ladderbackref06_Same: function 19 -/
def ladderbackref06_Same.l0 : Nat → List Bool → List Bool → Int → Option (Bool)
  | 0, _, _, _ => none
  | k + 1, x0, x1, x5 => if x5 < (x0.length : Int) then (if 0 ≤ x5 then (if x5 < (x1.length : Int) then (if ((rdOf false x0 x5) != (rdOf false x1 x5)) = true then (some false) else (ladderbackref06_Same.l0 k x0 x1 (wrap64 (x5 + 1)))) else (none)) else (none)) else (some true)
def ladderbackref06_Same.f (k : Nat) (l0 : List Bool) (l1 : List Bool) : Option (Bool) := if (l0.length : Int) = (l1.length : Int) then (ladderbackref06_Same.l0 k l0 l1 0) else (some false)
set_option maxHeartbeats 8000000 in
set_option maxRecDepth 100000 in
theorem ladderbackref06_Same.calls (k : Nat) (A0 : Option Addr) (c0 : Nat) (l0 : List Bool) (A1 : Option Addr) (c1 : Nat) (l1 : List Bool) (r : Bool) (w : World) (hr0 : Kd.C Kd.bool w A0 l0.length l0) (hc0 : l0.length ≤ c0) (hr1 : Kd.C Kd.bool w A1 l1.length l1) (hc1 : l1.length ≤ c1) (h : ladderbackref06_Same.f k l0 l1 = some r) :
    Calls Tryd.prog 19 #[.slice A0 l0.length c0, .slice A1 l1.length c1] w fun e w' => e = .returned (.bool r) ∧ Drawn0 w w' := by
  have HR0 := Aside0.mk hr0
  have HC0 := Aside0.mk hc0
  clear hr0 hc0
  have HR1 := Aside0.mk hr1
  have HC1 := Aside0.mk hc1
  clear hr1 hc1
  have H : (if (l0.length : Int) = (l1.length : Int) then (ladderbackref06_Same.l0 k l0 l1 0) else (some false)) = some r := h
  clear h
  by_cases c3 : (l0.length : Int) = (l1.length : Int)
  · rw [if_pos c3] at H
    have c3b0 : ((l0.length : Int) == (l1.length : Int)) = true := beq_iff_eq.mpr c3
    have c3b1 : ((l0.length : Int) != (l1.length : Int)) = false := bne_eq_false_iff_eq.mpr c3
    have c3b2 : (l0.length == l1.length) = true := by first | simpa using c3 | (simp at c3 ⊢; omega)
    clear c3
    have H' := Aside0.mk H
    clear H
    go_enter Tryd.func19, Tryd.ntmps19
    go_wp2
    repeat (go_quiet (fail); try go_wp2)
    go_loopg [5] k (fun kq v5 w' => ∃ (x5_1 : Int), v5 = .int .i64 x5_1 ∧ Aside0 (ladderbackref06_Same.l0 kq l0 l1 x5_1 = some r) ∧ Aside0 (kq ≤ k) ∧ Drawn0 w w')
    case atStart => exact ⟨(0), (by first | rfl | (simp; done) | (simp [*]; done)), H', ⟨Nat.le_refl _⟩, by repeat (first | exact Drawn0.refl _ | apply Drawn0.step)⟩
    case round =>
      clear H'
      try clear c1
      try clear p2
      try clear c3
      try clear c3b0
      try clear c3b1
      try clear c3b2
      obtain ⟨x5_1, rfl, HA, HK1, ⟨m1, rfl⟩⟩ := hrel
      cases gk with
      | zero => exact absurd HA.out (by simp [ladderbackref06_Same.l0])
      | succ k1 =>
        have H := HA.out
        clear HA
        simp only [ladderbackref06_Same.l0] at H
        by_cases c4 : x5_1 < (l0.length : Int)
        · rw [if_pos c4] at H
          have c4b0 : decide (x5_1 < (l0.length : Int)) = true := decide_eq_true c4
          clear c4
          by_cases c5 : 0 ≤ x5_1
          · rw [if_pos c5] at H
            have c5b0 : decide (0 ≤ x5_1) = true := decide_eq_true c5
            clear c5
            by_cases c6 : x5_1 < (l1.length : Int)
            · rw [if_pos c6] at H
              have c6b0 : decide (x5_1 < (l1.length : Int)) = true := decide_eq_true c6
              clear c6
              by_cases c7 : ((rdOf false l0 x5_1) != (rdOf false l1 x5_1)) = true
              · rw [if_pos c7] at H
                have c7b0 : ((rdOf false l0 x5_1) != (rdOf false l1 x5_1)) = true := c7
                (try (have c7b1 : decide ((rdOf false l0 x5_1) = (rdOf false l1 x5_1)) = false := by simpa using c7))
                (try (have c7b2 : ((rdOf false l0 x5_1) == (rdOf false l1 x5_1)) = false := by simpa using c7))
                (try (have c7b3 : ¬ ((rdOf false l0 x5_1) = (rdOf false l1 x5_1)) := by simpa using c7))
                clear c7
                obtain rfl := Option.some.inj H
                have p242 : 0 ≤ (x5_1 : Int) := of_decide_eq_true (by first | (with_reducible assumption) | assumption)
                have q242 : x5_1 < (l0.length : Int) := of_decide_eq_true (by first | (with_reducible assumption) | assumption)
                obtain ⟨ad242, e242, hx242_0⟩ := Kd.at_bool HR0.out x5_1 p242 q242
                cases e242
                replace p242 := eq_true p242
                replace q242 := eq_true q242
                have p243 : 0 ≤ (x5_1 : Int) := of_decide_eq_true (by first | (with_reducible assumption) | assumption)
                have q243 : x5_1 < (l1.length : Int) := of_decide_eq_true (by first | (with_reducible assumption) | assumption)
                obtain ⟨ad243, e243, hx243_0⟩ := Kd.at_bool HR1.out x5_1 p243 q243
                cases e243
                replace p243 := eq_true p243
                replace q243 := eq_true q243
                go_wp2
                repeat (go_quiet (fail); try go_wp2)
                go_ret
                exact ⟨by first | rfl | (simp; done) | (simp [*]; done), by repeat (first | exact Drawn0.refl _ | apply Drawn0.step)⟩
              · rw [if_neg c7] at H
                have c7b0 : ((rdOf false l0 x5_1) != (rdOf false l1 x5_1)) = false := by simpa using c7
                (try (have c7b1 : decide ((rdOf false l0 x5_1) = (rdOf false l1 x5_1)) = true := by simpa using c7))
                (try (have c7b2 : ((rdOf false l0 x5_1) == (rdOf false l1 x5_1)) = true := by simpa using c7))
                clear c7
                have H' := Aside0.mk H
                clear H
                have p242 : 0 ≤ (x5_1 : Int) := of_decide_eq_true (by first | (with_reducible assumption) | assumption)
                have q242 : x5_1 < (l0.length : Int) := of_decide_eq_true (by first | (with_reducible assumption) | assumption)
                obtain ⟨ad242, e242, hx242_0⟩ := Kd.at_bool HR0.out x5_1 p242 q242
                cases e242
                replace p242 := eq_true p242
                replace q242 := eq_true q242
                have p243 : 0 ≤ (x5_1 : Int) := of_decide_eq_true (by first | (with_reducible assumption) | assumption)
                have q243 : x5_1 < (l1.length : Int) := of_decide_eq_true (by first | (with_reducible assumption) | assumption)
                obtain ⟨ad243, e243, hx243_0⟩ := Kd.at_bool HR1.out x5_1 p243 q243
                cases e243
                replace p243 := eq_true p243
                replace q243 := eq_true q243
                go_wp2
                repeat (go_quiet (fail); try go_wp2)
                go_roundg k1
                case measure => have := HK1.out; omega
                case rel => exact ⟨(wrap64 (x5_1 + 1)), (by first | rfl | (simp; done) | (simp [*]; done)), H', ⟨by have := HK1.out; omega⟩, by repeat (first | exact Drawn0.refl _ | apply Drawn0.step)⟩
            · rw [if_neg c6] at H
              exact absurd H (by simp)
          · rw [if_neg c5] at H
            exact absurd H (by simp)
        · rw [if_neg c4] at H
          have c4b0 : decide (x5_1 < (l0.length : Int)) = false := decide_eq_false c4
          clear c4
          obtain rfl := Option.some.inj H
          go_wp2
          repeat (go_quiet (fail); try go_wp2)
          go_ret
          exact ⟨by first | rfl | (simp; done) | (simp [*]; done), by repeat (first | exact Drawn0.refl _ | apply Drawn0.step)⟩
  · rw [if_neg c3] at H
    have c3b0 : ((l0.length : Int) == (l1.length : Int)) = false := beq_eq_false_iff_ne.mpr c3
    have c3b1 : ((l0.length : Int) != (l1.length : Int)) = true := bne_iff_ne.mpr c3
    have c3b2 : (l0.length == l1.length) = false := by first | simpa using c3 | (simp at c3 ⊢; omega)
    obtain rfl := Option.some.inj H
    go_enter Tryd.func19, Tryd.ntmps19
    go_wp2
    repeat (go_quiet (fail); try go_wp2)
    go_ret
    exact ⟨by first | rfl | (simp; done) | (simp [*]; done), by repeat (first | exact Drawn0.refl _ | apply Drawn0.step)⟩

end Go.Proofs.YtkkikddocgckbaaDoor.PBit
end

section
/- Printed by a program of this session (wip/pg.py, over the print of the kit): functions, their Lean twins, and the proofs that the calls come to them; each under the conditions that it names. -/
namespace Go.Proofs.YtkkikddocgckbaaDoor.PBit
open Go.Proofs.YtkkikddocgckbaaDoor.Given
open Go.RowKit Go.Proofs.YtkkikddocgckbaaDoorW.PrintWords Go.Proofs.YtkkikddocgckbaaDoorW.PrintLast Go.Proofs.YtkkikddocgckbaaDoorW.PrintMore
attribute [local go_sem] max2_int min2_int max_two min_two max_three min_three max_four min_four   -- for this text's walks alone
set_option linter.unusedVariables false
set_option linter.unusedSimpArgs false

end Go.Proofs.YtkkikddocgckbaaDoor.PBit
end

section
/- The bits of a word, plainly: their number as math/bits.OnesCount64 counts them, and their places as the lowest is taken off again and again. -/
namespace Go.Proofs.YtkkikddocgckbaaDoor.BitsMath
set_option linter.unusedVariables false
set_option linter.unusedSimpArgs false
/-- The places of a word's set bits, from o on. -/
def places : Nat → Nat → Nat → List Nat
  | 0, _, _ => []
  | f + 1, o, x => if x % 2 = 1 then o :: places f (o + 1) (x / 2) else places f (o + 1) (x / 2)
theorem places_zero : ∀ f o, places f o 0 = []
  | 0, _ => rfl
  | f + 1, o => by unfold places; simpa using places_zero f (o + 1)
theorem and_half (a b : Nat) : a &&& b = 2 * (a / 2 &&& b / 2) + (if a % 2 = 1 ∧ b % 2 = 1 then 1 else 0) := by
  have h1 : (a &&& b) / 2 = a / 2 &&& b / 2 := Nat.and_div_two
  have h2 : (a &&& b) % 2 = 1 ↔ a % 2 = 1 ∧ b % 2 = 1 := Nat.and_mod_two_eq_one
  split
  · rename_i h; have := h2.2 h; omega
  · rename_i h
    have : ¬ (a &&& b) % 2 = 1 := fun h' => h (h2.1 h')
    omega
theorem places_step : ∀ f o x, x ≠ 0 → x < 2 ^ f → places f o x = (o + Lib.ctzFrom f x) :: places f o (x &&& (x - 1))
  | 0, _, x, h0, h => absurd h (by simp; omega)
  | f + 1, o, x, h0, h => by
    by_cases h1 : x % 2 = 1
    · have e : x &&& (x - 1) = 2 * (x / 2) := by
        rw [and_half, show (x - 1) / 2 = x / 2 by omega, Nat.and_self, if_neg (by omega)]; omega
      rw [e]
      simp only [places, Lib.ctzFrom, if_pos h1, show ¬ (2 * (x / 2)) % 2 = 1 by omega, if_false, show 2 * (x / 2) / 2 = x / 2 by omega, Nat.add_zero]
    · have e : x &&& (x - 1) = 2 * (x / 2 &&& (x / 2 - 1)) := by
        rw [and_half, show (x - 1) / 2 = x / 2 - 1 by omega, if_neg (by omega)]; omega
      rw [e]
      have ih := places_step f (o + 1) (x / 2) (by omega) (by rw [Nat.pow_succ] at h; omega)
      simp only [places, Lib.ctzFrom, if_neg h1, show ¬ (2 * (x / 2 &&& (x / 2 - 1))) % 2 = 1 by omega, if_false, show 2 * (x / 2 &&& (x / 2 - 1)) / 2 = x / 2 &&& (x / 2 - 1) by omega]
      rw [ih, show o + 1 + Lib.ctzFrom f (x / 2) = o + (1 + Lib.ctzFrom f (x / 2)) by omega]
/-- The same digit again and again. -/
def rep (c : Nat) : Nat → Nat
  | 0 => 0
  | d + 1 => 256 * rep c d + c
theorem and_byte (a b q r : Nat) (hr : r < 256) : a &&& (256 * q + r) = 256 * (a / 256 &&& q) + (a % 256 &&& r) := by
  have h1 : (a &&& (256 * q + r)) / 2 ^ 8 = a / 2 ^ 8 &&& (256 * q + r) / 2 ^ 8 := Nat.and_div_two_pow
  have h2 : (a &&& (256 * q + r)) % 2 ^ 8 = a % 2 ^ 8 &&& (256 * q + r) % 2 ^ 8 := Nat.and_mod_two_pow
  have e1 : (256 * q + r) / 2 ^ 8 = q := by omega
  have e2 : (256 * q + r) % 2 ^ 8 = r := by omega
  rw [e1] at h1
  rw [e2] at h2
  have e3 : (2 : Nat) ^ 8 = 256 := rfl
  rw [e3] at h1 h2
  omega
def F1 (d x : Nat) : Nat := (x / 2 &&& rep 85 d) + (x &&& rep 85 d)
def F2 (d x : Nat) : Nat := (x / 4 &&& rep 51 d) + (x &&& rep 51 d)
def F3 (d x : Nat) : Nat := (x / 16 + x) &&& rep 15 d
theorem m55 : ∀ n : Fin 256, ∀ c : Fin 2, (128 * c.val + n.val / 2) &&& 85 = n.val / 2 &&& 85 := by decide +kernel
theorem m33 : ∀ n : Fin 256, ∀ c : Fin 4, (64 * c.val + n.val / 4) &&& 51 = n.val / 4 &&& 51 := by decide +kernel
def b1 (n : Nat) : Nat := (n / 2 &&& 85) + (n &&& 85)
def b2 (n : Nat) : Nat := (n / 4 &&& 51) + (n &&& 51)
def b3 (n : Nat) : Nat := (n / 16 + n) &&& 15
theorem F1_step (d x : Nat) : F1 (d + 1) x = 256 * F1 d (x / 256) + b1 (x % 256) := by
  unfold F1 b1
  rw [rep, and_byte (x / 2) 0 _ _ (by omega), and_byte x 0 _ _ (by omega)]
  have e1 : x / 2 / 256 = x / 256 / 2 := by omega
  have e2 : x / 2 % 256 = 128 * (x / 256 % 2) + x % 256 / 2 := by omega
  have := m55 ⟨x % 256, by omega⟩ ⟨x / 256 % 2, by omega⟩
  simp only at this
  rw [e1, e2, this]
  omega
theorem F2_step (d x : Nat) : F2 (d + 1) x = 256 * F2 d (x / 256) + b2 (x % 256) := by
  unfold F2 b2
  rw [rep, and_byte (x / 4) 0 _ _ (by omega), and_byte x 0 _ _ (by omega)]
  have e1 : x / 4 / 256 = x / 256 / 4 := by omega
  have e2 : x / 4 % 256 = 64 * (x / 256 % 4) + x % 256 / 4 := by omega
  have := m33 ⟨x % 256, by omega⟩ ⟨x / 256 % 4, by omega⟩
  simp only at this
  rw [e1, e2, this]
  omega
theorem F3_step (d x : Nat) (h : x % 4096 / 16 + x % 256 < 256) (h2 : x % 256 / 16 + x % 256 < 256) : F3 (d + 1) x = 256 * F3 d (x / 256) + ((x % 4096 / 16 + x % 256) &&& 15) := by
  unfold F3
  rw [rep, and_byte _ 0 _ _ (by omega)]
  have e1 : (x / 16 + x) / 256 = x / 256 / 16 + x / 256 := by omega
  have e2 : (x / 16 + x) % 256 = x % 4096 / 16 + x % 256 := by omega
  rw [e1, e2]
theorem byteFacts : ∀ n : Fin 256, b1 n.val < 256 ∧ b2 (b1 n.val) < 256 ∧ b2 (b1 n.val) % 16 ≤ 4 ∧ b2 (b1 n.val) / 16 ≤ 4 ∧ b2 (b1 n.val) / 16 + b2 (b1 n.val) % 16 = Lib.popAux 8 n.val := by decide +kernel
theorem and15 (n : Nat) : n &&& 15 = n % 16 := Nat.and_two_pow_sub_one_eq_mod n 4
/-- The bytes' counts. -/
def cnts : Nat → Nat → Nat
  | 0, _ => 0
  | d + 1, x => 256 * cnts d (x / 256) + Lib.popAux 8 (x % 256)
theorem F12 (d x : Nat) : F2 (d + 1) (F1 (d + 1) x) = 256 * F2 d (F1 d (x / 256)) + b2 (b1 (x % 256)) := by
  obtain ⟨h1, h2, -⟩ := byteFacts ⟨x % 256, by omega⟩
  simp only at h1 h2
  rw [F2_step, F1_step]
  rw [show (256 * F1 d (x / 256) + b1 (x % 256)) / 256 = F1 d (x / 256) by omega, show (256 * F1 d (x / 256) + b1 (x % 256)) % 256 = b1 (x % 256) by omega]
theorem F12_low (d x : Nat) : F2 d (F1 d x) % 16 ≤ 4 := by
  cases d with
  | zero => simp [F1, F2, rep]
  | succ d =>
    rw [F12]
    obtain ⟨-, -, h3, -⟩ := byteFacts ⟨x % 256, by omega⟩
    simp only at h3
    omega
theorem swar : ∀ d x, F3 d (F2 d (F1 d x)) = cnts d x
  | 0, x => by simp [F3, rep, cnts]
  | d + 1, x => by
    obtain ⟨h1, h2, h3, h4, h5⟩ := byteFacts ⟨x % 256, by omega⟩
    simp only at h1 h2 h3 h4 h5
    have hl := F12_low d (x / 256)
    have ih := swar d (x / 256)
    rw [F12]
    generalize F2 d (F1 d (x / 256)) = y at hl ih ⊢
    generalize b2 (b1 (x % 256)) = c at h2 h3 h4 h5 ⊢
    have e1 : (256 * y + c) % 4096 / 16 = 16 * (y % 16) + c / 16 := by omega
    have e2 : (256 * y + c) % 256 = c := by omega
    have e3 : (256 * y + c) / 256 = y := by omega
    rw [F3_step d _ (by rw [e1, e2]; omega) (by rw [e2]; omega), e1, e2, e3, and15, cnts, ← h5, ih]
    omega
theorem pop_split : ∀ k f x, Lib.popAux (k + f) x = Lib.popAux k (x % 2 ^ k) + Lib.popAux f (x / 2 ^ k)
  | 0, f, x => by simp [Lib.popAux]
  | k + 1, f, x => by
    rw [show k + 1 + f = (k + f) + 1 by omega, Lib.popAux, Lib.popAux, pop_split k f (x / 2)]
    have e1 : x % 2 ^ (k + 1) % 2 = x % 2 := by rw [Nat.mod_mod_of_dvd]; exact Nat.dvd_mul_left 2 (2 ^ k)
    have e2 : x % 2 ^ (k + 1) / 2 = x / 2 % 2 ^ k := by
      rw [Nat.pow_succ, Nat.mul_comm, Nat.mod_mul_right_div_self]
    have e3 : x / 2 / 2 ^ k = x / 2 ^ (k + 1) := by rw [Nat.div_div_eq_div_mul, Nat.pow_succ, Nat.mul_comm]
    rw [e1, e2, e3]
    omega
theorem pop8_le (n : Nat) (h : n < 256) : Lib.popAux 8 n ≤ 8 := by
  have : ∀ n : Fin 256, Lib.popAux 8 n.val ≤ 8 := by decide +kernel
  exact this ⟨n, h⟩
theorem cnts_eight (x : Nat) : ∃ p0 p1 p2 p3 p4 p5 p6 p7, p0 ≤ 8 ∧ p1 ≤ 8 ∧ p2 ≤ 8 ∧ p3 ≤ 8 ∧ p4 ≤ 8 ∧ p5 ≤ 8 ∧ p6 ≤ 8 ∧ p7 ≤ 8 ∧ cnts 8 x = p0 + 256 * (p1 + 256 * (p2 + 256 * (p3 + 256 * (p4 + 256 * (p5 + 256 * (p6 + 256 * p7)))))) ∧ Lib.popAux 64 x = p0 + p1 + p2 + p3 + p4 + p5 + p6 + p7 := by
  refine ⟨_, _, _, _, _, _, _, _, pop8_le (x % 256) (by omega), pop8_le (x / 256 % 256) (by omega), pop8_le (x / 256 / 256 % 256) (by omega), pop8_le (x / 256 / 256 / 256 % 256) (by omega), pop8_le (x / 256 / 256 / 256 / 256 % 256) (by omega), pop8_le (x / 256 / 256 / 256 / 256 / 256 % 256) (by omega), pop8_le (x / 256 / 256 / 256 / 256 / 256 / 256 % 256) (by omega), pop8_le (x / 256 / 256 / 256 / 256 / 256 / 256 / 256 % 256) (by omega), ?_, ?_⟩
  · simp only [cnts]; omega
  · have s : ∀ f x, Lib.popAux (8 + f) x = Lib.popAux 8 (x % 256) + Lib.popAux f (x / 256) := fun f x => pop_split 8 f x
    rw [show (64 : Nat) = 8 + (8 + (8 + (8 + (8 + (8 + (8 + (8 + 0))))))) from rfl]
    simp only [s]
    simp only [Lib.popAux]
    omega
theorem fold1 (p0 p1 p2 p3 p4 p5 p6 p7 y : Nat) (h0 : p0 ≤ 8) (h1 : p1 ≤ 8) (h2 : p2 ≤ 8) (h3 : p3 ≤ 8) (h4 : p4 ≤ 8) (h5 : p5 ≤ 8) (h6 : p6 ≤ 8) (h7 : p7 ≤ 8)
    (hy : y = p0 + 256 * (p1 + 256 * (p2 + 256 * (p3 + 256 * (p4 + 256 * (p5 + 256 * (p6 + 256 * p7))))))) :
    (y + y / 256 + (y + y / 256) / 65536 + (y + y / 256 + (y + y / 256) / 65536) / 4294967296) % 128 = p0 + p1 + p2 + p3 + p4 + p5 + p6 + p7 := by
  have e1 : y / 256 = p1 + 256 * (p2 + 256 * (p3 + 256 * (p4 + 256 * (p5 + 256 * (p6 + 256 * p7))))) := by omega
  have e2 : (y + y / 256) / 65536 = (p2 + p3) + 256 * ((p3 + p4) + 256 * ((p4 + p5) + 256 * ((p5 + p6) + 256 * ((p6 + p7) + 256 * p7)))) := by omega
  generalize (y + y / 256) / 65536 = z at e2 ⊢
  have e3 : (y + y / 256 + z) / 4294967296 = (p4 + p5 + p6 + p7) + 256 * ((p5 + p6 + p7) + 256 * ((p6 + p7) + 256 * p7)) := by omega
  generalize (y + y / 256 + z) / 4294967296 = v at e3 ⊢
  omega
end Go.Proofs.YtkkikddocgckbaaDoor.BitsMath
end

section
/- Words as a row of bits, plainly: the places, the number, one place set. -/
namespace Go.Proofs.YtkkikddocgckbaaDoor.BitsMath
set_option linter.unusedVariables false
set_option linter.unusedSimpArgs false
def bitsN : Nat → Nat → List Bool
  | 0, _ => []
  | f + 1, x => decide (x % 2 = 1) :: bitsN f (x / 2)
theorem bitsN_length : ∀ f x, (bitsN f x).length = f
  | 0, _ => rfl
  | f + 1, x => by simp [bitsN, bitsN_length f]
theorem bitsN_get : ∀ f x j, j < f → (bitsN f x)[j]? = some (x.testBit j)
  | 0, _, _, h => absurd h (Nat.not_lt_zero _)
  | f + 1, x, 0, _ => by simp [bitsN, Nat.testBit_zero]
  | f + 1, x, j + 1, h => by
    simp only [bitsN, List.getElem?_cons_succ]
    rw [bitsN_get f (x / 2) j (by omega), Nat.testBit_succ]
/-- The places of what is set, from o on. -/
def posn : Nat → List Bool → List Nat
  | _, [] => []
  | o, b :: x => if b = true then o :: posn (o + 1) x else posn (o + 1) x
theorem places_posn : ∀ f o x, places f o x = posn o (bitsN f x)
  | 0, _, _ => rfl
  | f + 1, o, x => by
    simp only [places, bitsN, posn, decide_eq_true_eq]
    rw [places_posn f (o + 1) (x / 2)]
theorem pop_count : ∀ f x, Lib.popAux f x = (bitsN f x).count true
  | 0, _ => rfl
  | f + 1, x => by
    simp only [Lib.popAux, bitsN, List.count_cons, pop_count f (x / 2)]
    by_cases h : x % 2 = 1
    · simp [h]; omega
    · have : x % 2 = 0 := by omega
      simp [this]
theorem posn_append : ∀ a o b, posn o (a ++ b) = posn o a ++ posn (o + a.length) b
  | [], o, b => by simp [posn]
  | c :: a, o, b => by
    simp only [List.cons_append, posn, List.length_cons, posn_append a (o + 1) b, show o + 1 + a.length = o + (a.length + 1) by omega]
    split <;> simp
theorem posn_false : ∀ n o, posn o (List.replicate n false) = []
  | 0, _ => rfl
  | n + 1, o => by simp [List.replicate_succ, posn, posn_false n]
theorem posn_length : ∀ x o, (posn o x).length = x.count true
  | [], _ => rfl
  | b :: x, o => by cases b <;> simp [posn, posn_length x]
def flat (ws : List Nat) : List Bool := ws.flatMap (bitsN 64)
def bit (ws : List Nat) (i : Nat) : Bool := (ws.getD (i / 64) 0).testBit (i % 64)
theorem flat_length : ∀ ws, (flat ws).length = 64 * ws.length
  | [] => rfl
  | w :: ws => by
    have := flat_length ws
    simp only [flat, List.flatMap_cons, List.length_append, bitsN_length, List.length_cons] at this ⊢
    omega
theorem flat_get : ∀ ws i, i < 64 * ws.length → (flat ws)[i]? = some (bit ws i)
  | [], i, h => by simp at h
  | w :: ws, i, h => by
    simp only [flat, List.flatMap_cons]
    rcases Nat.lt_or_ge i 64 with h1 | h1
    · rw [List.getElem?_append_left (by rw [bitsN_length]; exact h1), bitsN_get 64 w i h1]
      simp [bit, Nat.div_eq_of_lt h1, Nat.mod_eq_of_lt h1]
    · rw [List.getElem?_append_right (by rw [bitsN_length]; exact h1), bitsN_length]
      have ih := flat_get ws (i - 64) (by simp at h; omega)
      simp only [flat] at ih
      rw [ih]
      have e1 : i / 64 = (i - 64) / 64 + 1 := by omega
      have e2 : i % 64 = (i - 64) % 64 := by omega
      simp [bit, e1, e2]
theorem flat_append (a b : List Nat) : flat (a ++ b) = flat a ++ flat b := by simp [flat]
/-- The words hold the bits, and none beyond. -/
structure Holds (W : List Nat) (x : List Bool) : Prop where
  lim : ∀ n ∈ W, n < 18446744073709551616
  len : W.length = (x.length + 63) / 64
  at_ : ∀ i, bit W i = x.getD i false
theorem Holds.flat {W : List Nat} {x : List Bool} (h : Holds W x) : flat W = x ++ List.replicate (64 * W.length - x.length) false := by
  have hl := h.len
  apply List.ext_getElem?
  intro i
  rcases Nat.lt_or_ge i (64 * W.length) with h1 | h1
  · rw [flat_get W i h1, h.at_ i]
    rcases Nat.lt_or_ge i x.length with h2 | h2
    · rw [List.getElem?_append_left h2, List.getD_eq_getElem?_getD, List.getElem?_eq_getElem h2]; rfl
    · rw [List.getElem?_append_right h2, List.getElem?_replicate, if_pos (by omega), List.getD_eq_getElem?_getD, List.getElem?_eq_none h2]; rfl
  · rw [List.getElem?_eq_none (by rw [flat_length]; exact h1), List.getElem?_eq_none (by simp; omega)]
theorem Holds.posn {W : List Nat} {x : List Bool} (h : Holds W x) : posn 0 (BitsMath.flat W) = BitsMath.posn 0 x := by
  rw [h.flat, posn_append, posn_false, List.append_nil]
theorem getD_lt {W : List Nat} (h : ∀ n ∈ W, n < 18446744073709551616) (i : Nat) : W.getD i 0 < 18446744073709551616 := by
  rw [List.getD_eq_getElem?_getD]
  rcases Nat.lt_or_ge i W.length with h1 | h1
  · rw [List.getElem?_eq_getElem h1]; exact h _ (List.getElem_mem h1)
  · rw [List.getElem?_eq_none h1]; decide
theorem Holds.set {W : List Nat} {x : List Bool} (h : Holds W x) (i : Nat) (hi : i < x.length) : Holds (W.set (i / 64) (W.getD (i / 64) 0 ||| 2 ^ (i % 64))) (x.set i true) := by
  have hl := h.len
  refine ⟨fun n hn => ?_, by simp [hl], fun j => ?_⟩
  · rcases List.mem_or_eq_of_mem_set hn with h1 | h1
    · exact h.lim n h1
    · rw [h1]
      have hp : 2 ^ (i % 64) < 2 ^ 64 := Nat.pow_lt_pow_right (by decide) (by omega)
      exact Nat.or_lt_two_pow (n := 64) (getD_lt h.lim _) hp
  · have ha := h.at_ j
    unfold bit at ha ⊢
    have hw : i / 64 < W.length := by omega
    rw [List.getD_eq_getElem?_getD (l := W.set _ _), List.getElem?_set, List.getD_eq_getElem?_getD (l := x.set _ _), List.getElem?_set]
    by_cases hj : i / 64 = j / 64
    · rw [if_pos hj]
      rw [if_pos (by omega)]
      simp only [Option.getD_some]
      rw [hj, Nat.testBit_or, ha, Nat.testBit_two_pow]
      by_cases hij : i = j
      · subst hij; simp [hi]
      · have : ¬ (i % 64 = j % 64) := by omega
        simp [this, hij]
    · rw [if_neg hj, if_neg (by intro e; exact hj (by rw [e]))]
      rw [← List.getD_eq_getElem?_getD, ha, List.getD_eq_getElem?_getD]
theorem Holds.zero (n : Nat) : Holds (List.replicate ((n + 63) / 64) 0) (List.replicate n false) := by
  refine ⟨fun m hm => ?_, by simp, fun i => ?_⟩
  · rw [(List.mem_replicate.1 hm).2]; decide
  · unfold bit
    have e : (List.replicate ((n + 63) / 64) 0).getD (i / 64) 0 = 0 := by
      rw [List.getD_eq_getElem?_getD, List.getElem?_replicate]; split <;> rfl
    rw [e, Nat.zero_testBit, List.getD_eq_getElem?_getD, List.getElem?_replicate]
    split <;> rfl
theorem ext_bits {a b : Nat} (ha : a < 18446744073709551616) (hb : b < 18446744073709551616) (h : ∀ j, j < 64 → a.testBit j = b.testBit j) : a = b := by
  apply Nat.eq_of_testBit_eq
  intro j
  rcases Nat.lt_or_ge j 64 with h1 | h1
  · exact h j h1
  · have : (18446744073709551616 : Nat) ≤ 2 ^ j := Nat.pow_le_pow_right (by decide) h1 (n := 2)
    rw [Nat.testBit_lt_two_pow (by omega), Nat.testBit_lt_two_pow (by omega)]
theorem Holds.uniq {W V : List Nat} {x : List Bool} (h : Holds W x) (h' : Holds V x) : W = V := by
  have e := h.len.trans h'.len.symm
  apply List.ext_getElem e
  intro k h1 h2
  refine ext_bits (h.lim _ (List.getElem_mem h1)) (h'.lim _ (List.getElem_mem h2)) (fun j hj => ?_)
  have a := h.at_ (64 * k + j)
  have b := h'.at_ (64 * k + j)
  unfold bit at a b
  rw [show (64 * k + j) / 64 = k by omega, show (64 * k + j) % 64 = j by omega] at a b
  rw [List.getD_eq_getElem?_getD, List.getElem?_eq_getElem h1] at a
  rw [List.getD_eq_getElem?_getD, List.getElem?_eq_getElem h2] at b
  exact a.trans b.symm
end Go.Proofs.YtkkikddocgckbaaDoor.BitsMath
end

section
/- What the sets of bits compute, plainly: the words hold the places, and the document's row of truths tells the same. -/
namespace Go.Proofs.YtkkikddocgckbaaDoor.BPure
open Go.RowKit Go.Proofs.YtkkikddocgckbaaDoor.PBit Go.Proofs.YtkkikddocgckbaaDoor.Given Go.Proofs.YtkkikddocgckbaaDoor.BitsMath Go.Proofs.YtkkikddocgckbaaDoorW.PrintWords Go.Proofs.YtkkikddocgckbaaDoorW.PrintLast Go.Proofs.YtkkikddocgckbaaDoorW.PrintMore
set_option linter.unusedVariables false
set_option linter.unusedSimpArgs false
theorem w64 (x : Int) (h0 : -9223372036854775808 ≤ x) (h1 : x < 9223372036854775808) : wrap64 x = x := by unfold wrap64; omega
def up (W : List Nat) : List Int := W.map (fun (n : Nat) => (n : Int))
theorem up_len (W : List Nat) : (up W).length = W.length := by simp [up]
theorem rd_up (W : List Nat) (i : Nat) : rd (up W) (i : Int) = ((W.getD i 0 : Nat) : Int) := by
  unfold rd up
  rw [Int.toNat_natCast, List.getD_eq_getElem?_getD, List.getD_eq_getElem?_getD, List.getElem?_map]
  cases W[i]? <;> rfl
theorem up_set (W : List Nat) (i n : Nat) : (up W).set i (n : Int) = up (W.set i n) := by simp [up, List.map_set]
theorem rdOf_at (x : List Bool) (i : Nat) : rdOf false x (i : Int) = x.getD i false := by unfold rdOf; rw [Int.toNat_natCast]
/-- A set of so much room, and its words, and the document's truths. -/
structure Rep (R : Int) (l : List Int) (x : List Bool) (W : List Nat) : Prop where
  room : R = (x.length : Int)
  lim : x.length ≤ 65536
  words : l = up W
  holds : Holds W x
theorem Rep.wlen {R : Int} {l : List Int} {x : List Bool} {W : List Nat} (h : Rep R l x W) : W.length ≤ 1024 ∧ x.length ≤ 64 * W.length := by
  have := h.holds.len
  have := h.lim
  omega
theorem rooms (n : Nat) (h : n ≤ 65536) : roomR (n : Int) = n ∧ wordsR (n : Int) = (n + 63) / 64 := by
  have e : roomR (n : Int) = n := by unfold roomR mx mn; (repeat' split) <;> omega
  refine ⟨e, ?_⟩
  unfold wordsR
  rw [e]
  omega
theorem rooms_any (a : Int) : ∃ n : Nat, n ≤ 65536 ∧ roomR a = n ∧ wordsR a = (n + 63) / 64 := by
  have h := roomR_lim a
  refine ⟨(roomR a).toNat, by omega, by omega, ?_⟩
  unfold wordsR
  omega
theorem new_is (a : Int) : ∃ n : Nat, n ≤ 65536 ∧ roomR a = n ∧ bits_New.f a = some ((n : Int), up (List.replicate ((n + 63) / 64) 0)) ∧ ladderbackref06_New.f a = some (List.replicate n false) ∧ Rep (n : Int) (up (List.replicate ((n + 63) / 64) 0)) (List.replicate n false) (List.replicate ((n + 63) / 64) 0) := by
  obtain ⟨n, hn, e1, e2⟩ := rooms_any a
  refine ⟨n, hn, e1, ?_, ?_, ⟨by simp, by simpa using hn, rfl, Holds.zero n⟩⟩
  · unfold bits_New.f; rw [e1, e2]; simp [up]
  · unfold ladderbackref06_New.f
    have : n = (roomR a).toNat := by omega
    subst this
    unfold roomR mx mn
    by_cases h1 : a < 0
    · rw [if_pos h1, if_neg (by decide), if_pos (by decide)]
      have : (if (65536 : Int) < a then (65536 : Int) else a) = a := if_neg (by omega)
      simp only [this]
      rw [if_neg (by omega)]; rfl
    · rw [if_neg h1]
      by_cases h2 : a > 65536
      · rw [if_pos h2, if_pos (by decide)]
        simp only [show (65536 : Int) < a from h2, if_true]; rfl
      · rw [if_neg h2, if_pos (by omega), if_pos (by omega)]
        have : (if (65536 : Int) < a then (65536 : Int) else a) = a := if_neg h2
        simp only [this]
        by_cases h3 : 0 < a
        · rw [if_pos h3]
        · rw [if_neg h3, show a = 0 by omega]
def upd (x : List Bool) (i : Int) : List Bool := if 0 ≤ i ∧ i < (x.length : Int) then x.set i.toNat true else x
theorem div64 (i : Nat) (h : i ≤ 65536) : wrap64 (Int.tdiv (i : Int) 64) = ((i / 64 : Nat) : Int) ∧ Int.tmod (i : Int) 64 = ((i % 64 : Nat) : Int) := by
  have e : Int.tdiv (i : Int) 64 = ((i / 64 : Nat) : Int) := rfl
  refine ⟨by rw [e, w64 _ (by omega) (by omega)], rfl⟩
theorem shl1 (j : Nat) (h : j < 64) : shl .u64 1 (j : Int) = ((2 ^ j : Nat) : Int) := by
  unfold shl
  have hp : 2 ^ j < 2 ^ 64 := Nat.pow_lt_pow_right (by decide) h
  have e : min (j : Int).toNat IntKind.u64.bits = j := by rw [Int.toNat_natCast]; exact Nat.min_eq_left (by show j ≤ 64; omega)
  rw [e, Int.one_mul, wrap_u64n]
  have e2 : ((2 : Int) ^ j) = ((2 ^ j : Nat) : Int) := by rw [Int.natCast_pow]; rfl
  rw [e2]
  generalize 2 ^ j = p at hp ⊢
  omega
theorem set_step {R : Int} {l : List Int} {x : List Bool} {W : List Nat} (h : Rep R l x W) (i : Nat) (hi : i < x.length) :
    l.set (((i / 64 : Nat) : Int)).toNat (Go.bits .or .u64 (rd l ((i / 64 : Nat) : Int)) (shl .u64 1 ((i % 64 : Nat) : Int))) = up (W.set (i / 64) (W.getD (i / 64) 0 ||| 2 ^ (i % 64))) := by
  have hp : 2 ^ (i % 64) < 2 ^ 64 := Nat.pow_lt_pow_right (by decide) (by omega)
  rw [h.words, rd_up, shl1 _ (by omega), or_u64_nat _ _ (getD_lt h.holds.lim _) (by omega), Int.toNat_natCast, up_set]
theorem set_rep {R : Int} {l : List Int} {x : List Bool} {W : List Nat} (h : Rep R l x W) (i : Nat) (hi : i < x.length) :
    Rep R (up (W.set (i / 64) (W.getD (i / 64) 0 ||| 2 ^ (i % 64)))) (x.set i true) (W.set (i / 64) (W.getD (i / 64) 0 ||| 2 ^ (i % 64))) :=
  ⟨by rw [h.room]; simp, by simpa using h.lim, rfl, h.holds.set i hi⟩
theorem copyW_self (W : List Nat) : copyW W.length (up W) = up W := by unfold copyW; rw [up_len, Nat.sub_self, List.replicate_zero, List.append_nil, ← up_len W, List.take_length]
theorem with_is {R : Int} {l : List Int} {x : List Bool} {W : List Nat} (h : Rep R l x W) (i : Int) : ∃ l' W', bits_Set_With.f R l i = some (R, l') ∧ Rep R l' (upd x i) W' := by
  have hl := h.wlen
  have hlim := h.lim
  unfold bits_Set_With.f upd
  by_cases h1 : i < 0
  · rw [if_pos h1, if_neg (by omega)]
    exact ⟨l, W, rfl, h⟩
  · rw [if_neg h1]
    by_cases h2 : i ≥ R
    · rw [if_pos h2, if_neg (by rw [h.room] at h2; omega)]
      exact ⟨l, W, rfl, h⟩
    · rw [if_neg h2]
      obtain ⟨n, rfl⟩ : ∃ n : Nat, i = n := ⟨i.toNat, by omega⟩
      have hn : n < x.length := by rw [h.room] at h2; omega
      rw [if_pos (by omega), Int.toNat_natCast]
      have hr := rooms x.length hlim
      have e : bits_Set_copied.f R l R = some (R, l) := by
        unfold bits_Set_copied.f
        rw [h.room, hr.1, hr.2, ← h.holds.len, h.words, copyW_self]
      rw [e, Option.bind_some]
      simp only
      obtain ⟨d1, d2⟩ := div64 n (by omega)
      have hlen : l.length = W.length := by rw [h.words, up_len]
      rw [d1, d2, if_pos (by omega), if_pos (by rw [hlen]; omega), if_pos (by omega), set_step h n hn]
      exact ⟨_, _, rfl, set_rep h n hn⟩
theorem rwith_is (x : List Bool) (i : Int) (hx : x.length ≤ 65536) : ladderbackref06_With.f x i = some (upd x i) := by
  unfold ladderbackref06_With.f upd
  simp only [Option.bind_some, List.length_nil, List.nil_append]
  rw [if_pos (by omega)]
  by_cases h1 : i ≥ 0
  · rw [if_pos h1]
    by_cases h2 : i < (x.length : Int)
    · have h1' : 0 ≤ i := h1
      simp only [h2, h1', and_self, if_true]
    · rw [if_neg h2, if_neg (by omega)]
  · rw [if_neg h1, if_neg (by omega)]
theorem of_loop (L : List Int) (hL : L.length ≤ 60) : ∀ (m j : Nat) (R : Int) (l : List Int) (x : List Bool) (W : List Nat), Rep R l x W → j + m = L.length → ∀ k, m + 1 ≤ k →
    ∃ l' x' W', ladderbacklaw06_of.l0 k L x (j : Int) R l = some (R, l', x') ∧ Rep R l' x' W' := by
  intro m
  induction m with
  | zero =>
    intro j R l x W h hj k hk
    obtain ⟨k, rfl⟩ : ∃ k', k = k' + 1 := ⟨k - 1, by omega⟩
    unfold ladderbacklaw06_of.l0
    rw [if_neg (by omega)]
    exact ⟨l, x, W, rfl, h⟩
  | succ m ih =>
    intro j R l x W h hj k hk
    obtain ⟨k, rfl⟩ : ∃ k', k = k' + 1 := ⟨k - 1, by omega⟩
    unfold ladderbacklaw06_of.l0
    rw [if_pos (by omega), if_pos (by omega)]
    obtain ⟨l', W', e, h'⟩ := with_is h (rd L (j : Int))
    rw [e, Option.bind_some, rwith_is x _ h.lim, Option.bind_some, w64 _ (by omega) (by omega)]
    exact ih (j + 1) R l' _ W' h' (by omega) k (by omega)
theorem of_is (a : Int) (L : List Int) (hL : L.length ≤ 60) (k : Nat) (hk : 61 ≤ k) : ∃ R l x W, ladderbacklaw06_of.f k a L = some (R, l, x) ∧ Rep R l x W ∧ roomR a = R := by
  obtain ⟨n, hn, e0, e1, e2, h⟩ := new_is a
  unfold ladderbacklaw06_of.f
  rw [e1, Option.bind_some, e2, Option.bind_some]
  obtain ⟨l', x', W', e, h'⟩ := of_loop L hL L.length 0 _ _ _ _ h (by omega) k (by omega)
  exact ⟨_, l', x', W', e, h', e0⟩
-- the places
theorem step_word (k : Nat) (l : List Int) (n j : Int) (hl : 0 ≤ j) (jn : Nat) (hj : j = (jn : Int)) (hjn : jn ≤ 1024) : ∀ (c : Nat) (x : Nat) (acc : List Int), x < 18446744073709551616 → (places 64 (64 * jn) x).length = c → acc.length + c ≤ 70000 →
    bits_Set_List.l1 (c + 1 + k) acc j (x : Int) l n j = bits_Set_List.l0 k (acc ++ (places 64 (64 * jn) x).map (fun (n : Nat) => (n : Int))) l n (wrap64 (j + 1)) := by
  intro c
  induction c with
  | zero =>
    intro x acc hx hc hacc
    have h0 : x = 0 := by
      rcases Nat.eq_zero_or_pos x with h | h
      · exact h
      · rw [places_step 64 (64 * jn) x (by omega) hx] at hc; simp at hc
    subst h0
    rw [show 0 + 1 + k = k + 1 by omega, bits_Set_List.l1, if_pos (show ((0 : Nat) : Int) = 0 from rfl), places_zero, List.map_nil, List.append_nil]
  | succ c ih =>
    intro x acc hx hc hacc
    have h0 : x ≠ 0 := by intro h; subst h; rw [places_zero] at hc; simp at hc
    have hs := places_step 64 (64 * jn) x h0 hx
    rw [hs] at hc ⊢
    rw [show c + 1 + 1 + k = (c + 1 + k) + 1 by omega, bits_Set_List.l1, if_neg (by omega)]
    have ht : bits_TrailingZeros64.f (x : Int) = some ((Lib.ctzFrom 64 x : Nat) : Int) := by
      unfold bits_TrailingZeros64.f
      rw [if_pos (by omega), Int.toNat_natCast]
      unfold Lib.ctz
      rw [if_neg h0]
    have hlt : Lib.ctzFrom 64 x < 64 := (Lib.ctzFrom_spec 64 x (by omega) hx).choose_spec.2
    have ha : x &&& (x - 1) < 18446744073709551616 := Nat.lt_of_le_of_lt Nat.and_le_left hx
    have hw : IntKind.u64.wrap ((x : Int) - 1) = ((x - 1 : Nat) : Int) := by rw [wrap_u64n]; omega
    rw [ht, Option.bind_some, if_pos (by omega), hw, and_u64_nat x (x - 1) hx (by omega)]
    rw [ih (x &&& (x - 1)) _ ha (by simpa using hc) (by simp; omega)]
    have e1 : wrap64 (wrap64 (64 * j) + ((Lib.ctzFrom 64 x : Nat) : Int)) = ((64 * jn + Lib.ctzFrom 64 x : Nat) : Int) := by
      rw [w64 (64 * j) (by omega) (by omega), w64 _ (by omega) (by omega)]; omega
    rw [e1]
    simp
theorem places_le (o x : Nat) : (places 64 o x).length ≤ 64 := by
  rw [places_posn, posn_length]
  exact Nat.le_trans List.count_le_length (Nat.le_of_eq (bitsN_length 64 x))
theorem flat_take (W : List Nat) (j : Nat) (h : j < W.length) : posn 0 (flat (W.take (j + 1))) = posn 0 (flat (W.take j)) ++ places 64 (64 * j) (W.getD j 0) := by
  rw [List.take_add_one, List.getElem?_eq_getElem h, flat_append, posn_append, flat_length, List.length_take, Nat.min_eq_left (by omega), places_posn]
  congr 2
  · omega
  · simp [flat, List.getD_eq_getElem?_getD, List.getElem?_eq_getElem h]
theorem list_loop {W : List Nat} (hW : ∀ n ∈ W, n < 18446744073709551616) (hw : W.length ≤ 1024) : ∀ (m j : Nat), j + m = W.length → ∀ k, 66 * m + 1 ≤ k →
    bits_Set_List.l0 k ((posn 0 (flat (W.take j))).map (fun (n : Nat) => (n : Int))) (up W) (W.length : Int) (j : Int) = some ((posn 0 (flat W)).map (fun (n : Nat) => (n : Int))) := by
  intro m
  induction m with
  | zero =>
    intro j hj k hk
    obtain ⟨k, rfl⟩ : ∃ k', k = k' + 1 := ⟨k - 1, by omega⟩
    rw [bits_Set_List.l0, if_neg (by omega), show j = W.length by omega, List.take_length]
  | succ m ih =>
    intro j hj k hk
    obtain ⟨k, rfl⟩ : ∃ k', k = k' + 1 := ⟨k - 1, by omega⟩
    rw [bits_Set_List.l0, if_pos (by omega), if_pos (by omega), if_pos (by rw [up_len]; omega), rd_up]
    have hc := places_le (64 * j) (W.getD j 0)
    obtain ⟨q, hq⟩ : ∃ q, k = (places 64 (64 * j) (W.getD j 0)).length + 1 + q := ⟨k - ((places 64 (64 * j) (W.getD j 0)).length + 1), by omega⟩
    have hlen : ((posn 0 (flat (W.take j))).map (fun (n : Nat) => (n : Int))).length ≤ 65536 := by
      rw [List.length_map, posn_length]
      refine Nat.le_trans List.count_le_length ?_
      rw [flat_length, List.length_take]; omega
    rw [hq, step_word q (up W) W.length j (by omega) j rfl (by omega) _ _ _ (getD_lt hW j) rfl (by omega), w64 _ (by omega) (by omega), ← List.map_append, ← flat_take W j (by omega)]
    exact ih (j + 1) (by omega) q (by omega)
def lst (x : List Bool) : List Int := (posn 0 x).map (fun (n : Nat) => (n : Int))
theorem lst_len (x : List Bool) : (lst x).length = x.count true := by simp [lst, posn_length]
theorem list_is {R : Int} {l : List Int} {x : List Bool} {W : List Nat} (h : Rep R l x W) (k : Nat) (hk : 67586 ≤ k) : bits_Set_List.f k R l = some (lst x) := by
  have hl := h.wlen
  unfold bits_Set_List.f
  rw [h.words, up_len]
  have := list_loop h.holds.lim hl.1 W.length 0 (by omega) k (by omega)
  rw [h.holds.posn] at this
  exact this
theorem rlist_loop (x : List Bool) (hx : x.length ≤ 65536) : ∀ (m j : Nat), j + m = x.length → ∀ k, m + 1 ≤ k →
    ladderbackref06_List.l0 k x ((posn 0 (x.take j)).map (fun (n : Nat) => (n : Int))) (j : Int) = some (lst x) := by
  intro m
  induction m with
  | zero =>
    intro j hj k hk
    obtain ⟨k, rfl⟩ : ∃ k', k = k' + 1 := ⟨k - 1, by omega⟩
    rw [ladderbackref06_List.l0, if_neg (by omega), show j = x.length by omega, List.take_length, lst]
  | succ m ih =>
    intro j hj k hk
    obtain ⟨k, rfl⟩ : ∃ k', k = k' + 1 := ⟨k - 1, by omega⟩
    have hlt : j < x.length := by omega
    have hlen : ((posn 0 (x.take j)).map (fun (n : Nat) => (n : Int))).length ≤ 65536 := by
      rw [List.length_map, posn_length]
      exact Nat.le_trans List.count_le_length (by rw [List.length_take]; omega)
    have ht : posn 0 (x.take (j + 1)) = posn 0 (x.take j) ++ (if x.getD j false = true then [j] else []) := by
      rw [List.take_add_one, List.getElem?_eq_getElem hlt, posn_append, List.length_take, Nat.min_eq_left (by omega), List.getD_eq_getElem?_getD, List.getElem?_eq_getElem hlt]
      simp [posn]
    have ih' := ih (j + 1) (by omega) k (by omega)
    rw [ht] at ih'
    rw [ladderbackref06_List.l0, if_pos (by omega), if_pos (by omega), rdOf_at, w64 _ (by omega) (by omega)]
    by_cases hb : x.getD j false = true
    · rw [if_pos hb, if_pos (by omega)]
      rw [if_pos hb, List.map_append] at ih'
      exact ih'
    · rw [if_neg hb]
      rw [if_neg hb, List.append_nil] at ih'
      exact ih'
theorem rlist_is (x : List Bool) (hx : x.length ≤ 65536) (k : Nat) (hk : 65537 ≤ k) : ladderbackref06_List.f k x = some (lst x) := rlist_loop x hx x.length 0 (by omega) k (by omega)
theorem and_i64_nat (a b : Nat) (ha : a < 9223372036854775808) (hb : b < 9223372036854775808) : Go.bits .and .i64 (a : Int) (b : Int) = ((a &&& b : Nat) : Int) := by
  have hx : a &&& b < 2 ^ 63 := Nat.and_lt_two_pow _ (by omega)
  have h1 : (BitVec.ofInt 64 (a : Int)).toNat = a := by
    rw [BitVec.ofInt_natCast, BitVec.toNat_ofNat]; exact Nat.mod_eq_of_lt (by omega)
  have h2 : (BitVec.ofInt 64 (b : Int)).toNat = b := by
    rw [BitVec.ofInt_natCast, BitVec.toNat_ofNat]; exact Nat.mod_eq_of_lt (by omega)
  show IntKind.i64.wrap ((BitVec.ofInt 64 (a : Int) &&& BitVec.ofInt 64 (b : Int)).toNat : Int) = _
  rw [BitVec.toNat_and, h1, h2]
  simp only [IntKind.wrap, IntKind.signed, IntKind.bits]
  generalize a &&& b = c at hx ⊢
  simp
  omega
theorem and127 (n : Nat) : n &&& 127 = n % 128 := Nat.and_two_pow_sub_one_eq_mod n 7
theorem swar_end (v : Nat) (hv : v ≤ 700000000000000000) : Go.bits .and .i64 (wrap64 (IntKind.u64.wrap ((v : Int) + (v : Int) / 4294967296))) 127 = (((v + v / 4294967296) % 128 : Nat) : Int) := by
  have e1 : IntKind.u64.wrap ((v : Int) + (v : Int) / 4294967296) = ((v + v / 4294967296 : Nat) : Int) := by rw [wrap_u64n]; omega
  have hb : v + v / 4294967296 ≤ 800000000000000000 := by omega
  rw [e1]
  generalize v + v / 4294967296 = u at hb ⊢
  rw [w64 _ (by omega) (by omega)]
  have := and_i64_nat u 127 (by omega) (by omega)
  rw [and127] at this
  exact this
theorem ones_is (x : Nat) (hx : x < 18446744073709551616) : bits_OnesCount64.f (x : Int) = some ((Lib.popAux 64 x : Nat) : Int) := by
  have r1 : rep 85 8 = 6148914691236517205 := by decide
  have r2 : rep 51 8 = 3689348814741910323 := by decide
  have r3 : rep 15 8 = 1085102592571150095 := by decide
  have s1 : IntKind.u64.wrap (Go.bits .and .u64 ((x : Int) / 2) 6148914691236517205 + Go.bits .and .u64 (x : Int) 6148914691236517205) = ((F1 8 x : Nat) : Int) ∧ F1 8 x < 18446744073709551616 := by
    have a1 := and_u64_nat (x / 2) 6148914691236517205 (by omega) (by decide)
    have a2 := and_u64_nat x 6148914691236517205 hx (by decide)
    have b1 : x / 2 &&& 6148914691236517205 ≤ 6148914691236517205 := Nat.and_le_right
    have b2 : x &&& 6148914691236517205 ≤ 6148914691236517205 := Nat.and_le_right
    have e : ((x : Int) / 2) = ((x / 2 : Nat) : Int) := by omega
    unfold F1
    rw [r1, e]
    refine ⟨?_, by omega⟩
    rw [show (6148914691236517205 : Int) = ((6148914691236517205 : Nat) : Int) from rfl, a1, a2, wrap_u64n]
    omega
  have s2 : ∀ y : Nat, y < 18446744073709551616 → IntKind.u64.wrap (Go.bits .and .u64 ((y : Int) / 4) 3689348814741910323 + Go.bits .and .u64 (y : Int) 3689348814741910323) = ((F2 8 y : Nat) : Int) ∧ F2 8 y ≤ 7378697629483820646 := by
    intro y hy
    have a1 := and_u64_nat (y / 4) 3689348814741910323 (by omega) (by decide)
    have a2 := and_u64_nat y 3689348814741910323 hy (by decide)
    have b1 : y / 4 &&& 3689348814741910323 ≤ 3689348814741910323 := Nat.and_le_right
    have b2 : y &&& 3689348814741910323 ≤ 3689348814741910323 := Nat.and_le_right
    have e : ((y : Int) / 4) = ((y / 4 : Nat) : Int) := by omega
    unfold F2
    rw [r2, e]
    refine ⟨?_, by omega⟩
    rw [show (3689348814741910323 : Int) = ((3689348814741910323 : Nat) : Int) from rfl, a1, a2, wrap_u64n]
    omega
  have s3 : ∀ y : Nat, y ≤ 7378697629483820646 → Go.bits .and .u64 (IntKind.u64.wrap ((y : Int) / 16 + (y : Int))) 1085102592571150095 = ((F3 8 y : Nat) : Int) := by
    intro y hy
    have e : IntKind.u64.wrap ((y : Int) / 16 + (y : Int)) = ((y / 16 + y : Nat) : Int) := by rw [wrap_u64n]; omega
    unfold F3
    rw [r3, e, show (1085102592571150095 : Int) = ((1085102592571150095 : Nat) : Int) from rfl, and_u64_nat _ _ (by omega) (by decide)]
  unfold bits_OnesCount64.f
  rw [s1.1, (s2 _ s1.2).1, s3 _ (s2 _ s1.2).2, swar]
  obtain ⟨p0, p1, p2, p3, p4, p5, p6, p7, h0, h1, h2, h3, h4, h5, h6, h7, hy, hp⟩ := cnts_eight x
  have hf := fold1 p0 p1 p2 p3 p4 p5 p6 p7 _ h0 h1 h2 h3 h4 h5 h6 h7 hy
  have hb : cnts 8 x ≤ 578721382704613384 := by omega
  rw [hp, ← hf]
  generalize cnts 8 x = y at hb ⊢
  have e1 : IntKind.u64.wrap ((y : Int) + (y : Int) / 256) = ((y + y / 256 : Nat) : Int) := by rw [wrap_u64n]; omega
  rw [e1]
  have hb2 : y + y / 256 ≤ 600000000000000000 := by omega
  generalize y + y / 256 = z at hb2 ⊢
  have e2 : IntKind.u64.wrap ((z : Int) + (z : Int) / 65536) = ((z + z / 65536 : Nat) : Int) := by rw [wrap_u64n]; omega
  rw [e2]
  have hb3 : z + z / 65536 ≤ 700000000000000000 := by omega
  generalize z + z / 65536 = v at hb3 ⊢
  exact congrArg some (swar_end v hb3)
theorem count_loop {W : List Nat} (hW : ∀ n ∈ W, n < 18446744073709551616) (hw : W.length ≤ 1024) : ∀ (m j : Nat), j + m = W.length → ∀ k, m + 1 ≤ k →
    bits_Set_Count.l0 k (((flat (W.take j)).count true : Nat) : Int) (up W) (W.length : Int) (j : Int) = some (((flat W).count true : Nat) : Int) := by
  intro m
  induction m with
  | zero =>
    intro j hj k hk
    obtain ⟨k, rfl⟩ : ∃ k', k = k' + 1 := ⟨k - 1, by omega⟩
    rw [bits_Set_Count.l0, if_neg (by omega), show j = W.length by omega, List.take_length]
  | succ m ih =>
    intro j hj k hk
    obtain ⟨k, rfl⟩ : ∃ k', k = k' + 1 := ⟨k - 1, by omega⟩
    rw [bits_Set_Count.l0, if_pos (by omega), if_pos (by omega), if_pos (by rw [up_len]; omega), rd_up, ones_is _ (getD_lt hW j), Option.bind_some]
    have hlt : j < W.length := by omega
    have hlen : (flat (W.take j)).count true ≤ 65536 := Nat.le_trans List.count_le_length (by rw [flat_length, List.length_take]; omega)
    have hp : Lib.popAux 64 (W.getD j 0) ≤ 64 := by rw [pop_count]; exact Nat.le_trans List.count_le_length (Nat.le_of_eq (bitsN_length 64 _))
    have e : (flat (W.take (j + 1))).count true = (flat (W.take j)).count true + Lib.popAux 64 (W.getD j 0) := by
      rw [List.take_add_one, List.getElem?_eq_getElem hlt, flat_append, List.count_append, pop_count]
      simp [flat, List.getD_eq_getElem?_getD, List.getElem?_eq_getElem hlt]
    rw [w64 _ (by omega) (by omega), w64 _ (by omega) (by omega)]
    have := ih (j + 1) (by omega) k (by omega)
    rw [e] at this
    exact this
theorem count_is {R : Int} {l : List Int} {x : List Bool} {W : List Nat} (h : Rep R l x W) (k : Nat) (hk : 1026 ≤ k) : bits_Set_Count.f k R l = some ((x.count true : Nat) : Int) := by
  have hl := h.wlen
  unfold bits_Set_Count.f
  rw [h.words, up_len]
  have := count_loop h.holds.lim hl.1 W.length 0 (by omega) k (by omega)
  rw [h.holds.flat, List.count_append] at this
  simpa [List.count_replicate, BitsMath.flat] using this
theorem like_loop (L : List Int) (hL : L.length ≤ 65536) : ∀ (m j : Nat), j + m = L.length → ∀ k, m + 1 ≤ k → ladderbacklaw06_like.l0 k L L (j : Int) = some true := by
  intro m
  induction m with
  | zero =>
    intro j hj k hk
    obtain ⟨k, rfl⟩ : ∃ k', k = k' + 1 := ⟨k - 1, by omega⟩
    rw [ladderbacklaw06_like.l0, if_neg (by omega)]
  | succ m ih =>
    intro j hj k hk
    obtain ⟨k, rfl⟩ : ∃ k', k = k' + 1 := ⟨k - 1, by omega⟩
    rw [ladderbacklaw06_like.l0, if_pos (by omega), if_pos (by omega), if_pos (by omega), if_pos rfl, w64 _ (by omega) (by omega)]
    exact ih (j + 1) (by omega) k (by omega)
theorem like_is {R : Int} {l : List Int} {x : List Bool} {W : List Nat} (h : Rep R l x W) (k : Nat) (hk : 70000 ≤ k) : ladderbacklaw06_like.f k R l x = some true := by
  have hlim := h.lim
  have hc : (lst x).length ≤ 65536 := by rw [lst_len]; exact Nat.le_trans List.count_le_length hlim
  unfold ladderbacklaw06_like.f
  rw [list_is h k (by omega), Option.bind_some, rlist_is x hlim k (by omega), Option.bind_some]
  unfold bits_Set_Room.f
  rw [Option.bind_some, if_pos h.room, if_pos rfl, count_is h k (by omega), Option.bind_some, lst_len]
  obtain ⟨k, rfl⟩ : ∃ k', k = k' + 1 := ⟨k - 1, by omega⟩
  rw [ladderbacklaw06_like.j0, bne_self_eq_false, if_neg (by decide)]
  exact like_loop (lst x) hc (lst x).length 0 (by omega) k (by omega)
theorem awake_is (k : Nat) (hk : 70000 ≤ k) : ladderbacklaw06_awake.f k = some true := by
  obtain ⟨n, hn, e0, e1, _, h⟩ := new_is 9
  have hn9 : n = 9 := by have : roomR 9 = 9 := by decide
                         omega
  subst hn9
  unfold ladderbacklaw06_awake.f
  obtain ⟨l1, W1, w1, h1⟩ := with_is h 5
  obtain ⟨l2, W2, w2, h2⟩ := with_is h1 2
  rw [e1, Option.bind_some, w1, Option.bind_some, w2, Option.bind_some, list_is h2 k (by omega), Option.bind_some]
  have e : lst (upd (upd (List.replicate 9 false) 5) 2) = [2, 5] := by decide
  rw [e]
  decide
end Go.Proofs.YtkkikddocgckbaaDoor.BPure
end
