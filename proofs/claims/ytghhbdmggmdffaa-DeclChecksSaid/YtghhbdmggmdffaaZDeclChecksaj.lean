/- The law DeclChecks holds for every input: the walk over its code shows that the call returns true and that what was read stays as it was; the row follows. -/
import Derived.Test.YtghhbdmggmdffaaRows
import Derived.WalkKit
import Derived.ProofKit
import Derived.OpenShut
import Derived.ShutString
import Derived.ChangeOld
import Derived.Below
import Derived.SizedLaws
import Derived.Test.YtghhbdmggmdffaaZDeclChecksaa
import Derived.Test.YtghhbdmggmdffaaZDeclChecksab
import Derived.Test.YtghhbdmggmdffaaZDeclChecksai
section
/- Printed by a program of this session (wip/pg.py, over the print of the kit): functions, their Lean twins, and the proofs that the calls come to them; each under the conditions that it names. -/
namespace Go.Proofs.Ytghhbdmggmdffaa.PDe
open Go.RowKit Go.Proofs.YtghhbdmggmdffaaW.PrintWords Go.Proofs.YtghhbdmggmdffaaW.PrintLast Go.Proofs.YtghhbdmggmdffaaW.PrintMore
attribute [local go_sem] max2_int min2_int max_two min_two max_three min_three max_four min_four   -- for this text's walks alone
set_option linter.unusedVariables false
set_option linter.unusedSimpArgs false

/-! ### ladderbackref15_Slots: function 36 -/
mutual
def ladderbackref15_Slots.j0 : Nat → List Int → ByteArray → List Int → Int → List Int → List (S56) → Option (List Int)
  | 0, _, _, _, _, _, _ => none
  | k + 1, x3, x229000, x229001, x229002, x229003, x229004 => ladderbackref15_Slots.l0 k x3 0 x229000 x229001 x229002 x229003 x229004
def ladderbackref15_Slots.l0 : Nat → List Int → Int → ByteArray → List Int → Int → List Int → List (S56) → Option (List Int)
  | 0, _, _, _, _, _, _, _ => none
  | k + 1, x3, x4, x229000, x229001, x229002, x229003, x229004 => if x4 < (x229003.length : Int) then (if 0 ≤ x4 then (if x3.length < 17592186044416 then (ladderbackref15_Slots.l0 k (x3 ++ [rd x229003 x4]) (wrap64 (x4 + 1)) x229000 x229001 x229002 x229003 x229004) else (none)) else (none)) else (some x3)
end
def ladderbackref15_Slots.f (k : Nat) (a0_0 : ByteArray) (l0_1 : List Int) (a0_2 : Int) (l0_3 : List Int) (l0_4 : List (S56)) : Option (List Int) := (some (([] : List Int) : List Int)).bind fun y229 => (if y229.length + l0_1.length < 17592186044416 then ((some (y229 ++ l0_1 : List Int)).bind fun y232 => (if a0_2 = 0 then (ladderbackref15_Slots.j0 k y232 a0_0 l0_1 a0_2 l0_3 l0_4) else (if y232.length < 17592186044416 then (ladderbackref15_Slots.j0 k (y232 ++ [a0_2]) a0_0 l0_1 a0_2 l0_3 l0_4) else (none)))) else (none))
set_option maxHeartbeats 8000000 in
set_option maxRecDepth 100000 in
theorem ladderbackref15_Slots.calls (k : Nat) (a0_0 : ByteArray) (A0_1 : Option Addr) (c0_1 : Nat) (l0_1 : List Int) (a0_2 : Int) (A0_3 : Option Addr) (c0_3 : Nat) (l0_3 : List Int) (A0_4 : Option Addr) (c0_4 : Nat) (l0_4 : List (S56)) (r : List Int) (w : World) (hr0_1 : Kd.C (Kd.int .i64) w A0_1 l0_1.length l0_1) (hc0_1 : l0_1.length ≤ c0_1) (hr0_3 : Kd.C (Kd.int .i64) w A0_3 l0_3.length l0_3) (hc0_3 : l0_3.length ≤ c0_3) (hr0_4 : Kd.C k56 w A0_4 l0_4.length l0_4) (hc0_4 : l0_4.length ≤ c0_4) (h : ladderbackref15_Slots.f k a0_0 l0_1 a0_2 l0_3 l0_4 = some r) :
    Calls Try.prog 36 #[.agg #[.string a0_0, .slice A0_1 l0_1.length c0_1, .int .i64 a0_2, .slice A0_3 l0_3.length c0_3, .slice A0_4 l0_4.length c0_4]] w fun e w' => ∃ v0_ : Value, e = .returned (v0_) ∧ Kd.R (Kd.int .i64) 3 w' w.heap.size (fun _ => True) v0_ r ∧ Below w.heap.size w w' := by
  have hu41 := Try.underlying41
  have HR0_1 := Aside0.mk hr0_1
  have HC0_1 := Aside0.mk hc0_1
  clear hr0_1 hc0_1
  have HR0_3 := Aside0.mk hr0_3
  have HC0_3 := Aside0.mk hc0_3
  clear hr0_3 hc0_3
  have HR0_4 := Aside0.mk hr0_4
  have HC0_4 := Aside0.mk hc0_4
  clear hr0_4 hc0_4
  have HB := Aside0.mk (Below.refl w.heap.size w)
  have H : ((some (([] : List Int) : List Int)).bind fun y229 => (if y229.length + l0_1.length < 17592186044416 then ((some (y229 ++ l0_1 : List Int)).bind fun y232 => (if a0_2 = 0 then (ladderbackref15_Slots.j0 k y232 a0_0 l0_1 a0_2 l0_3 l0_4) else (if y232.length < 17592186044416 then (ladderbackref15_Slots.j0 k (y232 ++ [a0_2]) a0_0 l0_1 a0_2 l0_3 l0_4) else (none)))) else (none))) = some r := h
  clear h
  obtain ⟨y229, hy229⟩ : ∃ y_ : List Int, y_ = (([] : List Int)) := ⟨_, rfl⟩
  replace H : (if y229.length + l0_1.length < 17592186044416 then ((some (y229 ++ l0_1 : List Int)).bind fun y232 => (if a0_2 = 0 then (ladderbackref15_Slots.j0 k y232 a0_0 l0_1 a0_2 l0_3 l0_4) else (if y232.length < 17592186044416 then (ladderbackref15_Slots.j0 k (y232 ++ [a0_2]) a0_0 l0_1 a0_2 l0_3 l0_4) else (none)))) else (none)) = some r := by first | (rw [hy229]; with_reducible exact H) | (have H2_ := (Option.bind_some _ _).symm.trans H; rw [hy229]; with_reducible exact H2_) | (have H2_ := (Option.bind_some _ _).symm.trans H; with_reducible exact H2_) | with_reducible exact H | (rw [hy229]; exact H) | exact H
  have Ny229 := Aside0.mk hy229
  clear hy229
  by_cases c2 : y229.length + l0_1.length < 17592186044416
  · rw [if_pos c2] at H
    have LMc2 := Aside0.mk c2
    clear c2
    obtain ⟨y232, hy232⟩ : ∃ y_ : List Int, y_ = (y229 ++ l0_1) := ⟨_, rfl⟩
    replace H : (if a0_2 = 0 then (ladderbackref15_Slots.j0 k y232 a0_0 l0_1 a0_2 l0_3 l0_4) else (if y232.length < 17592186044416 then (ladderbackref15_Slots.j0 k (y232 ++ [a0_2]) a0_0 l0_1 a0_2 l0_3 l0_4) else (none))) = some r := by first | (rw [hy232]; with_reducible exact H) | (have H2_ := (Option.bind_some _ _).symm.trans H; rw [hy232]; with_reducible exact H2_) | (have H2_ := (Option.bind_some _ _).symm.trans H; with_reducible exact H2_) | with_reducible exact H | (rw [hy232]; exact H) | exact H
    have Ny232 := Aside0.mk hy232
    clear hy232
    have HC3 := Aside0.mk H
    clear H
    go_enter Try.func36, Try.ntmps36
    go_upto_if 11 with (first | ((with_reducible refine gate_dst (N := 1) rfl ?_); refine box_event ?hg (N := 1) ?hd (cs := #[.string a0_0, .slice A0_1 l0_1.length c0_1, .int .i64 a0_2, .slice A0_3 l0_3.length c0_3, .slice A0_4 l0_4.length c0_4]) (t := 41) ?hr ?_; (case hd => rfl); (case hg => rfl); (case hr => first | (go_simp; done) | (go_simp; rfl)); intro gb228 hg w4 hbox hb; have n0_ := Aside0.mk (below_step (by repeat (first | (with_reducible first | exact HB.out | apply below_alloc | apply pw_below_drewN | apply below_drew1) | exact HB.out)) hb); have n1_ := Aside0.mk (hbox); have n2_ := Aside0.mk ((by rw [hg]; exact (below_size (by repeat (first | (with_reducible first | exact HB.out | apply below_alloc | apply pw_below_drewN | apply below_drew1) | exact HB.out))) : w.heap.size ≤ gb228)); have n3_ := Aside0.mk ((by rw [hg]; exact (below_size (by repeat (first | (with_reducible first | exact HB.out | apply below_alloc | apply pw_below_drewN | apply below_drew1) | exact HB.out))) : w.heap.size ≤ gb228)); clear HB; have HB := n0_; have BK228 := n1_; have GW228 := n2_; have GE228 := n3_; clear n0_ n1_ n2_ n3_; clear hb hbox hg) | ((with_reducible refine gate_dst (N := 5) rfl ?_); refine Kd.R_lit (Kd.int .i64) _ 3 ?hg (N := 5) ?hd (xs := ([] : List Int)) (inner := []) (ok := fun _ => True) (okp := fun _ => True) ?hr ?hp (fun _ hk => hk) trivial (Below.refl _ _) (Nat.le_refl _) (by simp) ?_; (case hd => rfl); (case hg => rfl); (case hr => first | (go_simp; done) | (go_simp; rfl)); (case hp => exact (Reps.none _ _)); intro v230 w5 ho6 hb hg_ hnew_; clear hg_ hnew_; (first | rw [← Ny229.out] at ho6 | (simp only [Int.reduceToNat] at ho6; rw [← Ny229.out] at ho6)); have n0_ := Aside0.mk (Kd.R_lower ho6 (below_size (by repeat (first | (with_reducible first | exact HB.out | apply below_alloc | apply pw_below_drewN | apply below_drew1 | refine below_set ?_ GE228.out) | exact HB.out)))); have n1_ := Aside0.mk (blk_below (g := gb228) (o := .cells #[.string a0_0, .slice A0_1 l0_1.length c0_1, .int .i64 a0_2, .slice A0_3 l0_3.length c0_3, .slice A0_4 l0_4.length c0_4] 41 (0, 0)) (by (with_reducible repeat (first | refine blk_drewN ?_ _ | refine blk_drew ?_ | refine blk_alloc ?_ _)); exact BK228.out) hb); have n2_ := Aside0.mk (below_step (by repeat (first | (with_reducible first | exact HB.out | apply below_alloc | apply pw_below_drewN | apply below_drew1 | refine below_set ?_ GE228.out) | exact HB.out)) hb); clear BK228; clear HB; have HO231 := n0_; have BK228 := n1_; have HB := n2_; clear n0_ n1_ n2_; clear hb ho6; have hcz7_0 : w5.cell? ⟨gb228, 0, none⟩ = some (.string a0_0) := (blk_cell BK228.out 0).trans rfl; have hcz7_1 : w5.cell? ⟨gb228, 1, none⟩ = some (.slice A0_1 l0_1.length c0_1) := (blk_cell BK228.out 1).trans rfl; have hcz7_2 : w5.cell? ⟨gb228, 2, none⟩ = some (.int .i64 a0_2) := (blk_cell BK228.out 2).trans rfl; have hcz7_3 : w5.cell? ⟨gb228, 3, none⟩ = some (.slice A0_3 l0_3.length c0_3) := (blk_cell BK228.out 3).trans rfl; have hcz7_4 : w5.cell? ⟨gb228, 4, none⟩ = some (.slice A0_4 l0_4.length c0_4) := (blk_cell BK228.out 4).trans rfl; have hfz7_0 := blk_frozen BK228.out 0; have hfz7_1 := blk_frozen BK228.out 1; have hfz7_2 := blk_frozen BK228.out 2; have hfz7_3 := blk_frozen BK228.out 3; have hfz7_4 := blk_frozen BK228.out 4) | ((with_reducible refine gate_builtin (b := .append) (xs := #[.tmp 5, .tmp 7]) rfl ?_); at_builtin; refine Kd.R_append_rows (Kd.int .i64) (w0 := w) w.heap.size rfl (.tmp 5) (.tmp 7) 35 3 (.int .i64 0) 8 rfl Try.underlying35 info3 rfl (by decide) (by omega) v230 y229 l0_1 _ _ _ (fun _ => True) (fun _ => False) rfl rfl ?aO ?aR (fun _ _ h => h) (fun _ h => h.elim) ?aF ?aB ?aS ?aL ?_; (case aR => repeat (first | exact (Kd.C_below HR0_1.out HB.out) | (with_reducible refine Kd.C_alloc ?_ _) | (with_reducible refine Kd.C_drewN ?_ _) | (with_reducible refine Kd.C_drew ?_))); (case aB => exact (by repeat (first | (with_reducible first | exact HB.out | apply below_alloc | apply pw_below_drewN | apply below_drew1 | refine below_set ?_ GE228.out) | exact HB.out))); (case aF => exact (fun _ _ => trivial)); (case aO => exact (by (with_reducible repeat (first | apply Kd.R_alloc | apply Kd.R_drewN | apply Kd.R_drew)); exact HO231.out)); (case aS => exact (below_size (by repeat (first | (with_reducible first | exact HB.out | apply below_alloc | apply pw_below_drewN | apply below_drew1 | refine below_set ?_ GE228.out) | exact HB.out)))); (case aL => have := LMc2.out; omega); intro v233 w8 ho hb hg hat; rw [← Ny232.out] at ho; have n0_ := Aside0.mk (blk_grown (g := gb228) (o := .cells #[.string a0_0, .slice A0_1 l0_1.length c0_1, .int .i64 a0_2, .slice A0_3 l0_3.length c0_3, .slice A0_4 l0_4.length c0_4] 41 (0, 0)) (by (with_reducible repeat (first | refine blk_drewN ?_ _ | refine blk_drew ?_ | refine blk_alloc ?_ _)); exact BK228.out) hg (Kd.R_ne HO231.out BK228.out (by decide))); have n1_ := Aside0.mk (hb); have n2_ := Aside0.mk (ho); clear BK228; clear HB; clear HO231; have BK228 := n0_; have HB := n1_; have HO234 := n2_; clear n0_ n1_ n2_; clear ho hb hg hat; have hcz9_0 : w8.cell? ⟨gb228, 0, none⟩ = some (.string a0_0) := (blk_cell BK228.out 0).trans rfl; have hcz9_1 : w8.cell? ⟨gb228, 1, none⟩ = some (.slice A0_1 l0_1.length c0_1) := (blk_cell BK228.out 1).trans rfl; have hcz9_2 : w8.cell? ⟨gb228, 2, none⟩ = some (.int .i64 a0_2) := (blk_cell BK228.out 2).trans rfl; have hcz9_3 : w8.cell? ⟨gb228, 3, none⟩ = some (.slice A0_3 l0_3.length c0_3) := (blk_cell BK228.out 3).trans rfl; have hcz9_4 : w8.cell? ⟨gb228, 4, none⟩ = some (.slice A0_4 l0_4.length c0_4) := (blk_cell BK228.out 4).trans rfl; have hfz9_0 := blk_frozen BK228.out 0; have hfz9_1 := blk_frozen BK228.out 1; have hfz9_2 := blk_frozen BK228.out 2; have hfz9_3 := blk_frozen BK228.out 3; have hfz9_4 := blk_frozen BK228.out 4))
    (try simp only [Act.put, List.setIfInBounds_toArray, List.set_cons_zero, List.set_cons_succ])
    go_cut [3] (fun v3 wc => ∃ (kq : Nat) (x3_2 : List Int), Aside0 (ladderbackref15_Slots.j0 kq x3_2 a0_0 l0_1 a0_2 l0_3 l0_4 = some r) ∧ Aside0 (kq ≤ k) ∧ Aside0 (Kd.R (Kd.int .i64) 3 wc w.heap.size (fun _ => True) v3 x3_2) ∧ Aside0 (wc.heap[gb228]? = some (.cells #[.string a0_0, (.slice A0_1 l0_1.length c0_1), .int .i64 a0_2, (.slice A0_3 l0_3.length c0_3), (.slice A0_4 l0_4.length c0_4)] 41 (0, 0))) ∧ Aside0 (Below w.heap.size w wc))
    case first =>
      have H := HC3.out
      clear HC3
      by_cases c10 : a0_2 = 0
      · rw [if_pos c10] at H
        have c10b0 : (a0_2 == 0) = true := beq_iff_eq.mpr c10
        have c10b1 : (a0_2 != 0) = false := bne_eq_false_iff_eq.mpr c10
        clear c10
        (first | rw [c10b0] | (simp only [i64_w, i32_w]; rw [c10b0]) | skip)
        have H' := Aside0.mk H
        clear H
        go_wp2
        go_meet
        case rel => exact ⟨_, (y232), H', ⟨by first | omega | exact Nat.le_refl _⟩, ⟨by (with_reducible repeat (first | apply Kd.R_alloc | apply Kd.R_drewN | apply Kd.R_drew)); exact HO234.out⟩, ⟨by (with_reducible repeat (first | refine blk_drewN ?_ _ | refine blk_drew ?_ | refine blk_alloc ?_ _)); exact BK228.out⟩, ⟨by repeat (first | (with_reducible first | exact HB.out | apply below_alloc | apply pw_below_drewN | apply below_drew1 | refine below_set ?_ GE228.out) | exact HB.out)⟩⟩
      · rw [if_neg c10] at H
        have c10b0 : (a0_2 == 0) = false := beq_eq_false_iff_ne.mpr c10
        have c10b1 : (a0_2 != 0) = true := bne_iff_ne.mpr c10
        (first | rw [c10b0] | (simp only [i64_w, i32_w]; rw [c10b0]) | skip)
        by_cases c11 : y232.length < 17592186044416
        · rw [if_pos c11] at H
          have LMc11 := Aside0.mk c11
          clear c11
          obtain ⟨y235, hy235⟩ : ∃ y_ : List Int, y_ = (y232 ++ [a0_2]) := ⟨_, rfl⟩
          replace H : (ladderbackref15_Slots.j0 k y235 a0_0 l0_1 a0_2 l0_3 l0_4) = some r := by first | (rw [hy235]; with_reducible exact H) | (have H2_ := (Option.bind_some _ _).symm.trans H; rw [hy235]; with_reducible exact H2_) | (have H2_ := (Option.bind_some _ _).symm.trans H; with_reducible exact H2_) | with_reducible exact H | (rw [hy235]; exact H) | exact H
          have Ny235 := Aside0.mk hy235
          clear hy235
          have H' := Aside0.mk H
          clear H
          have hcz12_0 : w8.cell? ⟨gb228, 0, none⟩ = some (.string a0_0) := (blk_cell BK228.out 0).trans rfl
          have hcz12_1 : w8.cell? ⟨gb228, 1, none⟩ = some (.slice A0_1 l0_1.length c0_1) := (blk_cell BK228.out 1).trans rfl
          have hcz12_2 : w8.cell? ⟨gb228, 2, none⟩ = some (.int .i64 a0_2) := (blk_cell BK228.out 2).trans rfl
          have hcz12_3 : w8.cell? ⟨gb228, 3, none⟩ = some (.slice A0_3 l0_3.length c0_3) := (blk_cell BK228.out 3).trans rfl
          have hcz12_4 : w8.cell? ⟨gb228, 4, none⟩ = some (.slice A0_4 l0_4.length c0_4) := (blk_cell BK228.out 4).trans rfl
          have hfz12_0 := blk_frozen BK228.out 0
          have hfz12_1 := blk_frozen BK228.out 1
          have hfz12_2 := blk_frozen BK228.out 2
          have hfz12_3 := blk_frozen BK228.out 3
          have hfz12_4 := blk_frozen BK228.out 4
          go_wp2_with (first | ((with_reducible refine gate_builtin (b := .append) (xs := #[.tmp 12, .tmp 15]) rfl ?_); at_builtin; refine Kd.R_append (Kd.int .i64) (w0 := w) w.heap.size rfl (.tmp 12) (.tmp 15) 35 3 (.int .i64 0) 8 rfl Try.underlying35 info3 rfl (by decide) (by omega) v233 y232 a0_2 [.int .i64 a0_2] (fun _ => True) (fun _ => False) rfl rfl ?aP (fun _ hk => hk.elim) ?aF ?aO ?aB ?aS ?aL ?_; (case aP => exact rfl); (case aB => exact (by repeat (first | (with_reducible first | exact HB.out | apply below_alloc | apply pw_below_drewN | apply below_drew1 | refine below_set ?_ GE228.out) | exact HB.out))); (case aF => exact (fun _ _ => trivial)); (case aO => exact (by (with_reducible repeat (first | apply Kd.R_alloc | apply Kd.R_drewN | apply Kd.R_drew)); exact HO234.out)); (case aS => exact (below_size (by repeat (first | (with_reducible first | exact HB.out | apply below_alloc | apply pw_below_drewN | apply below_drew1 | refine below_set ?_ GE228.out) | exact HB.out)))); (case aL => have := LMc11.out; omega); intro v236 w13 ho hb hg hat; rw [← Ny235.out] at ho; have n0_ := Aside0.mk (blk_grown (g := gb228) (o := .cells #[.string a0_0, .slice A0_1 l0_1.length c0_1, .int .i64 a0_2, .slice A0_3 l0_3.length c0_3, .slice A0_4 l0_4.length c0_4] 41 (0, 0)) (by (with_reducible repeat (first | refine blk_drewN ?_ _ | refine blk_drew ?_ | refine blk_alloc ?_ _)); exact BK228.out) hg (Kd.R_ne HO234.out BK228.out (by decide))); have n1_ := Aside0.mk (hb); have n2_ := Aside0.mk (ho); clear BK228; clear HB; clear HO234; have BK228 := n0_; have HB := n1_; have HO237 := n2_; clear n0_ n1_ n2_; clear ho hb hg hat))
          go_meet
          case rel => exact ⟨_, (y235), H', ⟨by first | omega | exact Nat.le_refl _⟩, ⟨by (with_reducible repeat (first | apply Kd.R_alloc | apply Kd.R_drewN | apply Kd.R_drew)); exact HO237.out⟩, ⟨by (with_reducible repeat (first | refine blk_drewN ?_ _ | refine blk_drew ?_ | refine blk_alloc ?_ _)); exact BK228.out⟩, ⟨by repeat (first | (with_reducible first | exact HB.out | apply below_alloc | apply pw_below_drewN | apply below_drew1 | refine below_set ?_ GE228.out) | exact HB.out)⟩⟩
        · rw [if_neg c11] at H
          exact absurd H (by simp)
    case rest =>
      clear HC3
      try clear c1
      try clear c2
      try clear p2
      try clear c3
      try clear c10
      try clear c10b0
      try clear c10b1
      try clear c11
      try clear hcz12_0
      try clear hcz12_1
      try clear hcz12_2
      try clear hcz12_3
      try clear hcz12_4
      try clear hcz7_0
      try clear hcz7_1
      try clear hcz7_2
      try clear hcz7_3
      try clear hcz7_4
      try clear hcz9_0
      try clear hcz9_1
      try clear hcz9_2
      try clear hcz9_3
      try clear hcz9_4
      try clear hfz12_0
      try clear hfz12_1
      try clear hfz12_2
      try clear hfz12_3
      try clear hfz12_4
      try clear hfz7_0
      try clear hfz7_1
      try clear hfz7_2
      try clear hfz7_3
      try clear hfz7_4
      try clear hfz9_0
      try clear hfz9_1
      try clear hfz9_2
      try clear hfz9_3
      try clear hfz9_4
      obtain ⟨kq, x3_2, HA, HJ2, HO_3, BK228, HB⟩ := hcut
      cases kq with
      | zero => exact absurd HA.out (by simp [ladderbackref15_Slots.j0])
      | succ kj2 =>
        have H := HA.out
        clear HA
        simp only [ladderbackref15_Slots.j0] at H
        have H' := Aside0.mk H
        clear H
        go_wp2
        go_loopg [3, 4] kj2 (fun kq v3 v4 w' => ∃ (x3_2 : List Int) (x4_2 : Int), v4 = .int .i64 x4_2 ∧ Aside0 (ladderbackref15_Slots.l0 kq x3_2 x4_2 a0_0 l0_1 a0_2 l0_3 l0_4 = some r) ∧ Aside0 (kq ≤ kj2) ∧ Aside0 (Kd.R (Kd.int .i64) 3 w' w.heap.size (fun _ => True) v3 x3_2) ∧ Aside0 (w'.heap[gb228]? = some (.cells #[.string a0_0, (.slice A0_1 l0_1.length c0_1), .int .i64 a0_2, (.slice A0_3 l0_3.length c0_3), (.slice A0_4 l0_4.length c0_4)] 41 (0, 0))) ∧ Aside0 (Below w.heap.size w w'))
        case atStart => exact ⟨(x3_2), (0), (by first | rfl | (simp; done) | (simp [*]; done)), H', ⟨Nat.le_refl _⟩, ⟨by (with_reducible repeat (first | apply Kd.R_alloc | apply Kd.R_drewN | apply Kd.R_drew)); exact HO_3.out⟩, ⟨by (with_reducible repeat (first | refine blk_drewN ?_ _ | refine blk_drew ?_ | refine blk_alloc ?_ _)); exact BK228.out⟩, ⟨by repeat (first | (with_reducible first | exact HB.out | apply below_alloc | apply pw_below_drewN | apply below_drew1 | refine below_set ?_ GE228.out) | exact HB.out)⟩⟩
        case round =>
          clear H'
          try clear c1
          try clear c2
          try clear p2
          try clear c3
          try clear c10
          try clear c10b0
          try clear c10b1
          try clear c11
          try clear hcz12_0
          try clear hcz12_1
          try clear hcz12_2
          try clear hcz12_3
          try clear hcz12_4
          try clear hcz7_0
          try clear hcz7_1
          try clear hcz7_2
          try clear hcz7_3
          try clear hcz7_4
          try clear hcz9_0
          try clear hcz9_1
          try clear hcz9_2
          try clear hcz9_3
          try clear hcz9_4
          try clear hfz12_0
          try clear hfz12_1
          try clear hfz12_2
          try clear hfz12_3
          try clear hfz12_4
          try clear hfz7_0
          try clear hfz7_1
          try clear hfz7_2
          try clear hfz7_3
          try clear hfz7_4
          try clear hfz9_0
          try clear hfz9_1
          try clear hfz9_2
          try clear hfz9_3
          try clear hfz9_4
          try clear p2
          obtain ⟨x3_2, x4_2, rfl, HA, HK2, HO_3, BK228, HB⟩ := hrel
          cases gk with
          | zero => exact absurd HA.out (by simp [ladderbackref15_Slots.l0])
          | succ k2 =>
            have H := HA.out
            clear HA
            simp only [ladderbackref15_Slots.l0] at H
            by_cases c14 : x4_2 < (l0_3.length : Int)
            · rw [if_pos c14] at H
              have c14b0 : decide (x4_2 < (l0_3.length : Int)) = true := decide_eq_true c14
              clear c14
              by_cases c15 : 0 ≤ x4_2
              · rw [if_pos c15] at H
                have c15b0 : decide (0 ≤ x4_2) = true := decide_eq_true c15
                clear c15
                by_cases c16 : x3_2.length < 17592186044416
                · rw [if_pos c16] at H
                  have LMc16 := Aside0.mk c16
                  clear c16
                  obtain ⟨y239, hy239⟩ : ∃ y_ : List Int, y_ = (x3_2 ++ [rd l0_3 x4_2]) := ⟨_, rfl⟩
                  replace H : (ladderbackref15_Slots.l0 k2 y239 (wrap64 (x4_2 + 1)) a0_0 l0_1 a0_2 l0_3 l0_4) = some r := by first | (rw [hy239]; with_reducible exact H) | (have H2_ := (Option.bind_some _ _).symm.trans H; rw [hy239]; with_reducible exact H2_) | (have H2_ := (Option.bind_some _ _).symm.trans H; with_reducible exact H2_) | with_reducible exact H | (rw [hy239]; exact H) | exact H
                  have Ny239 := Aside0.mk hy239
                  clear hy239
                  have H' := Aside0.mk H
                  clear H
                  have hcz17_0 : wr.cell? ⟨gb228, 0, none⟩ = some (.string a0_0) := (blk_cell BK228.out 0).trans rfl
                  have hcz17_1 : wr.cell? ⟨gb228, 1, none⟩ = some (.slice A0_1 l0_1.length c0_1) := (blk_cell BK228.out 1).trans rfl
                  have hcz17_2 : wr.cell? ⟨gb228, 2, none⟩ = some (.int .i64 a0_2) := (blk_cell BK228.out 2).trans rfl
                  have hcz17_3 : wr.cell? ⟨gb228, 3, none⟩ = some (.slice A0_3 l0_3.length c0_3) := (blk_cell BK228.out 3).trans rfl
                  have hcz17_4 : wr.cell? ⟨gb228, 4, none⟩ = some (.slice A0_4 l0_4.length c0_4) := (blk_cell BK228.out 4).trans rfl
                  have hfz17_0 := blk_frozen BK228.out 0
                  have hfz17_1 := blk_frozen BK228.out 1
                  have hfz17_2 := blk_frozen BK228.out 2
                  have hfz17_3 := blk_frozen BK228.out 3
                  have hfz17_4 := blk_frozen BK228.out 4
                  have p238 : 0 ≤ (x4_2 : Int) := of_decide_eq_true (by first | (with_reducible assumption) | assumption)
                  have q238 : x4_2 < (l0_3.length : Int) := of_decide_eq_true (by first | (with_reducible assumption) | assumption)
                  obtain ⟨ad238, e238, hx238_0⟩ := Kd.at_int HR0_3.out x4_2 p238 q238
                  cases e238
                  replace hx238_0 := (HB.out.cell (World.block_lt_of_cell? w _ hx238_0)).trans hx238_0
                  replace p238 := eq_true p238
                  replace q238 := eq_true q238
                  go_wp2_with (first | ((with_reducible refine gate_builtin (b := .append) (xs := #[.tmp 24, .tmp 30]) rfl ?_); at_builtin; refine Kd.R_append (Kd.int .i64) (w0 := w) w.heap.size rfl (.tmp 24) (.tmp 30) 35 3 (.int .i64 0) 8 rfl Try.underlying35 info3 rfl (by decide) (by omega) u3 x3_2 (rd l0_3 x4_2) [.int .i64 (rd l0_3 x4_2)] (fun _ => True) (fun _ => False) rfl rfl ?aP (fun _ hk => hk.elim) ?aF ?aO ?aB ?aS ?aL ?_; (case aP => exact rfl); (case aB => exact (by repeat (first | (with_reducible first | exact HB.out | apply below_alloc | apply pw_below_drewN | apply below_drew1 | refine below_set ?_ GE228.out) | exact HB.out))); (case aF => exact (fun _ _ => trivial)); (case aO => exact (by (with_reducible repeat (first | apply Kd.R_alloc | apply Kd.R_drewN | apply Kd.R_drew)); exact HO_3.out)); (case aS => exact (below_size (by repeat (first | (with_reducible first | exact HB.out | apply below_alloc | apply pw_below_drewN | apply below_drew1 | refine below_set ?_ GE228.out) | exact HB.out)))); (case aL => have := LMc16.out; omega); intro v240 w18 ho hb hg hat; rw [← Ny239.out] at ho; have n0_ := Aside0.mk (blk_grown (g := gb228) (o := .cells #[.string a0_0, .slice A0_1 l0_1.length c0_1, .int .i64 a0_2, .slice (some ad238) l0_3.length c0_3, .slice A0_4 l0_4.length c0_4] 41 (0, 0)) (by (with_reducible repeat (first | refine blk_drewN ?_ _ | refine blk_drew ?_ | refine blk_alloc ?_ _)); exact BK228.out) hg (Kd.R_ne HO_3.out BK228.out (by decide))); have n1_ := Aside0.mk (hb); have n2_ := Aside0.mk (ho); clear BK228; clear HB; clear HO_3; have BK228 := n0_; have HB := n1_; have HO241 := n2_; clear n0_ n1_ n2_; clear ho hb hg hat))
                  go_roundg k2
                  case measure => have := HJ2.out; have := HK2.out; omega
                  case rel => exact ⟨(y239), (wrap64 (x4_2 + 1)), (by first | rfl | (simp; done) | (simp [*]; done)), H', ⟨by have := HJ2.out; have := HK2.out; omega⟩, ⟨by (with_reducible repeat (first | apply Kd.R_alloc | apply Kd.R_drewN | apply Kd.R_drew)); exact HO241.out⟩, ⟨by (with_reducible repeat (first | refine blk_drewN ?_ _ | refine blk_drew ?_ | refine blk_alloc ?_ _)); exact BK228.out⟩, ⟨by repeat (first | (with_reducible first | exact HB.out | apply below_alloc | apply pw_below_drewN | apply below_drew1 | refine below_set ?_ GE228.out) | exact HB.out)⟩⟩
                · rw [if_neg c16] at H
                  exact absurd H (by simp)
              · rw [if_neg c15] at H
                exact absurd H (by simp)
            · rw [if_neg c14] at H
              have c14b0 : decide (x4_2 < (l0_3.length : Int)) = false := decide_eq_false c14
              clear c14
              obtain rfl := Option.some.inj H
              have hcz19_0 : wr.cell? ⟨gb228, 0, none⟩ = some (.string a0_0) := (blk_cell BK228.out 0).trans rfl
              have hcz19_1 : wr.cell? ⟨gb228, 1, none⟩ = some (.slice A0_1 l0_1.length c0_1) := (blk_cell BK228.out 1).trans rfl
              have hcz19_2 : wr.cell? ⟨gb228, 2, none⟩ = some (.int .i64 a0_2) := (blk_cell BK228.out 2).trans rfl
              have hcz19_3 : wr.cell? ⟨gb228, 3, none⟩ = some (.slice A0_3 l0_3.length c0_3) := (blk_cell BK228.out 3).trans rfl
              have hcz19_4 : wr.cell? ⟨gb228, 4, none⟩ = some (.slice A0_4 l0_4.length c0_4) := (blk_cell BK228.out 4).trans rfl
              have hfz19_0 := blk_frozen BK228.out 0
              have hfz19_1 := blk_frozen BK228.out 1
              have hfz19_2 := blk_frozen BK228.out 2
              have hfz19_3 := blk_frozen BK228.out 3
              have hfz19_4 := blk_frozen BK228.out 4
              go_wp2
              go_ret
              exact ⟨_, by first | rfl | (simp [errW_none, errW_some] <;> rfl) | (simp [*, errW_none, errW_some] <;> rfl), by (with_reducible repeat (first | apply Kd.R_alloc | apply Kd.R_drewN | apply Kd.R_drew)); exact HO_3.out, by repeat (first | (with_reducible first | exact HB.out | apply below_alloc | apply pw_below_drewN | apply below_drew1 | refine below_set ?_ GE228.out) | exact HB.out)⟩
  · rw [if_neg c2] at H
    exact absurd H (by simp)

end Go.Proofs.Ytghhbdmggmdffaa.PDe
end

section
/- ladderbackref17.Scope walked by hand: what a unit stands in, as the document tells it. -/
namespace Go.Proofs.Ytghhbdmggmdffaa.Given
open Go Go.RowKit Go.Proofs.Ytghhbdmggmdffaa.PDe Go.Proofs.Ytghhbdmggmdffaa.RPure Go.Proofs.YtghhbdmggmdffaaW.PrintWords Go.Proofs.YtghhbdmggmdffaaW.PrintLast Go.Proofs.YtghhbdmggmdffaaW.PrintMore
set_option linter.unusedVariables false
set_option linter.unusedSimpArgs false
def slU (U : LU) (u : Int) (i : Nat) : List Int := if 0 ≤ u ∧ u < (i : Int) then slotsF (rd_T41 U u).f1 (rd_T41 U u).f2 (rd_T41 U u).f3 else []
/-- What stands: block Wb.heap.size holds the scope so far; n signatures, the slots of the first i units. -/
structure RSt0 (w Wb : World) (A1 : Option Addr) (c1 : Nat) (V : LV) (A2 : Option Addr) (c2 : Nat) (B : LB) (U : LU) (u : Int) (n i : Nat) (v2 : Value) (RS : List (List Value)) (v3 : Value) (wr : World) : Prop where
  below : Below Wb.heap.size Wb wr
  h5 : wr.heap[Wb.heap.size]? = some (.cells #[.slice A1 V.length c1, .slice A2 B.length c2, v2, v3] 37 (0, 0))
  r2 : (Kd.raw 2).R 66 wr Wb.heap.size (fun k => k ≠ Wb.heap.size) v2 RS
  len : RS.length = n
  pr : ∀ (j : Nat) (x : S66) (c : List Value), (sigsF U)[j]? = some x → RS[j]? = some c → k66.K w x c
  r3 : Kd.R (Kd.int .i64) 3 wr Wb.heap.size (fun k => k ≠ Wb.heap.size ∧ some k ≠ v2.ownBlock) v3 (slU U u i)
abbrev RSt (w Wb : World) (A1 : Option Addr) (c1 : Nat) (V : LV) (A2 : Option Addr) (c2 : Nat) (B : LB) (U : LU) (u : Int) (i : Nat) (v2 : Value) (RS : List (List Value)) (v3 : Value) (wr : World) : Prop := RSt0 w Wb A1 c1 V A2 c2 B U u i i v2 RS v3 wr
abbrev RSt5 (w Wb : World) (A1 : Option Addr) (c1 : Nat) (V : LV) (A2 : Option Addr) (c2 : Nat) (B : LB) (U : LU) (u : Int) (i : Nat) (v2 : Value) (RS : List (List Value)) (v3 : Value) (wr : World) : Prop := RSt0 w Wb A1 c1 V A2 c2 B U u (i + 1) i v2 RS v3 wr
theorem slU_ne {U : LU} {u : Int} {i : Nat} (h : (i : Int) ≠ u) : slU U u (i + 1) = slU U u i := by
  unfold slU
  by_cases h1 : 0 ≤ u ∧ u < (i : Int)
  · rw [if_pos h1, if_pos ⟨h1.1, by omega⟩]
  · rw [if_neg h1, if_neg (by omega)]
theorem pw_refl (w : World) : Below w.heap.size w w := Below.refl _ _
theorem mono16 {α : Type} (d : Kd α) (e base p : Nat) (xs : List α) (v3 : Value) (ys : List Int) (o : Obj) : Reh.MonoG 16 (fun g w v => d.R e w base (fun k => g k = 16 ∧ k ≠ p) v xs ∧ Kd.R (Kd.int .i64) 3 w base (fun k => (g k = 16 ∧ k ≠ p) ∧ some k ≠ v.ownBlock) v3 ys ∧ g p = 16 ∧ p < w.heap.size ∧ w.heap[p]? = some o) := fun g g' w w' v hs hk h => by
  obtain ⟨h1, h2, h3, h4, h5⟩ := h
  obtain ⟨k1, k2⟩ := hk p h4 h3
  exact ⟨Kd.R_mono (Kd.R_move (Kd.R_bound h1) (fun k hk' => (hk k hk'.2.2.1 hk'.1.1).1)) (fun k hk' => ⟨(hk k hk'.2.2.1 hk'.1.1).2, hk'.1.2⟩), Kd.R_mono (Kd.R_move (Kd.R_bound h2) (fun k hk' => (hk k hk'.2.2.1 hk'.1.1.1).1)) (fun k hk' => ⟨⟨(hk k hk'.2.2.1 hk'.1.1.1).2, hk'.1.1.2⟩, hk'.1.2⟩), k2, by omega, k1.trans h5⟩
theorem rslots_l0 (n : ByteArray) (P : List Int) (R : Int) (L : List Int) (C : List S56) (hL : L.length ≤ 10000) : ∀ (d i k : Nat) (x : List Int), i + d = L.length → d < k → x.length + d ≤ 1000000 →
    ladderbackref15_Slots.l0 k x (i : Int) n P R L C = some (x ++ L.drop i) := by
  intro d
  induction d with
  | zero =>
    intro i k x h1 h2 h3
    obtain ⟨k, rfl⟩ : ∃ m, k = m + 1 := ⟨k - 1, by omega⟩
    unfold ladderbackref15_Slots.l0
    rw [if_neg (by omega), List.drop_eq_nil_of_le (by omega), List.append_nil]
  | succ d ih =>
    intro i k x h1 h2 h3
    obtain ⟨k, rfl⟩ : ∃ m, k = m + 1 := ⟨k - 1, by omega⟩
    unfold ladderbackref15_Slots.l0
    rw [if_pos (by omega), if_pos (by omega), if_pos (by omega), rd_drop L i (by omega), w64 _ (by omega) (by omega)]
    have := ih (i + 1) k (x ++ [rd L (i : Int)]) (by omega) (by omega) (by simp only [List.length_append, List.length_cons, List.length_nil]; omega)
    rw [show ((i + 1 : Nat) : Int) = (i : Int) + 1 by omega] at this
    rw [this, List.append_assoc]
    rfl
theorem rslots_is (n : ByteArray) (P : List Int) (R : Int) (L : List Int) (C : List S56) (hP : P.length ≤ 10000) (hL : L.length ≤ 10000) (k : Nat) (hk : L.length + 1 < k) : ladderbackref15_Slots.f k n P R L C = some (slotsF P R L) := by
  obtain ⟨k, rfl⟩ : ∃ m, k = m + 1 := ⟨k - 1, by omega⟩
  unfold ladderbackref15_Slots.f slotsF
  rw [Option.bind_some, if_pos (by simp only [List.length_nil]; omega), Option.bind_some, List.nil_append]
  by_cases h : R = 0
  · rw [if_pos h, if_pos h, ladderbackref15_Slots.j0]
    have := rslots_l0 n P R L C hL L.length 0 k P (by omega) (by omega) (by omega)
    simpa using this
  · rw [if_neg h, if_neg h, if_pos (by omega), ladderbackref15_Slots.j0]
    have := rslots_l0 n P R L C hL L.length 0 k (P ++ [R]) (by omega) (by omega) (by simp; omega)
    simpa using this
set_option maxHeartbeats 16000000 in
set_option maxRecDepth 100000 in
theorem rscope_c (A0 : Option Addr) (c0 : Nat) (C : LC) (A1 : Option Addr) (c1 : Nat) (V : LV) (A2 : Option Addr) (c2 : Nat) (B : LB) (A3 : Option Addr) (c3 : Nat) (U : LU) (u : Int) (w : World)
    (g0 : Kd.C k61 w A0 C.length C) (l0 : C.length ≤ c0) (g1 : Kd.C k45 w A1 V.length V) (l1 : V.length ≤ c1) (g2 : Kd.C k47 w A2 B.length B) (l2 : B.length ≤ c2) (g3 : Kd.C k41 w A3 U.length U) (l3 : U.length ≤ c3) (hUl : U.length ≤ 100) (hU : Ok U) :
    Calls Try.prog 13 #[.agg #[.slice A0 C.length c0, .slice A1 V.length c1, .slice A2 B.length c2, .slice A3 U.length c3], .int .i64 u] w (Sc V B U u w) := by
  have m0_ := g0.2.1
  have IP := Aside0.mk (show (Try.prog.info? 37).map (·.size) = some 4 by kernel_rfl)
  have I4 := Aside0.mk (show (Try.prog.info? 66).map (fun i => (i.zero, i.size, i.bytes)) = some (some (.agg #[.slice none 0 0, .int .i64 0]), 2, 32) by kernel_rfl)
  have G1 := Aside0.mk g1
  have G2 := Aside0.mk g2
  have G3 := Aside0.mk g3
  have m1_ := g1.2.1
  have m2_ := g2.2.1
  have mU := g3.2.1
  obtain ⟨Wb, hWb, hBb, kP, kZ⟩ := two w (cellsP A0 c0 C A1 c1 V A2 c2 B A3 c3 U) (.cells #[.slice none 0 0, .slice none 0 0, .slice none 0 0, .slice none 0 0] 37)
  have HBb := Aside0.mk hBb
  have HPb := Aside0.mk kP
  have HZb := Aside0.mk kZ
  have HSt := Aside0.mk (show RSt w Wb A1 c1 V A2 c2 B U u 0 (.slice none 0 0) [] (.slice none 0 0) (Wb.alloc (.cells #[.slice A1 V.length c1, .slice A2 B.length c2, .slice none 0 0, .slice none 0 0] 37)) from
    ⟨(Below.refl _ _).alloc (Nat.le_refl _) _, alloc_get _ _, Kd.R_nil _ _ _ _ _, rfl, (fun _ _ _ _ h => by cases h), by rw [show slU U u 0 = [] from if_neg (by omega)]; exact Kd.R_nil _ _ _ _ _⟩)
  clear g0 g1 g2 g3 hBb kP kZ
  go_enter Try.func13, Try.ntmps13
  go_wp2_with fail
  have hzb : w.heap.size + 1 + 1 = Wb.heap.size := by rw [hWb, alloc_size, alloc_size]
  rw [← hWb, hzb]
  clear hWb hzb
  go_loopw [6] (fun x_ wr => ∃ (i : Nat) (v2 : Value) (RS : List (List Value)) (v3 : Value), i ≤ U.length ∧ x_ = .int .i64 (i : Int) ∧ Aside0 (RSt w Wb A1 c1 V A2 c2 B U u i v2 RS v3 wr)) (fun x_ _ => U.length - (intOf x_).toNat)
  case atStart => exact ⟨0, _, _, _, Nat.zero_le _, rfl, HSt⟩
  case round =>
    obtain ⟨i, v2, RS, v3, hi, rfl, HS⟩ := hrel
    clear HSt
    have HBr := Aside0.mk (HBb.out.trans (HS.out.below.mono HBb.out.size))
    have hk_ := (HS.out.below.block _ (blk_lt HPb.out)).trans HPb.out
    obtain ⟨q0, q1, q2, q3⟩ := progCells hk_
    clear hk_
    by_cases hil : i < U.length
    rotate_left
    · obtain rfl : i = U.length := by omega
      clear hil hi
      obtain ⟨A8, c8, rfl⟩ := Kd.R_slice HS.out.r2
      obtain ⟨A9, c9, rfl⟩ := Kd.R_slice HS.out.r3
      have hlS : (sigsF U).length = U.length := by unfold sigsF; rw [List.length_map]
      have e3 : slU U u U.length = slF U u := rfl
      rw [HS.out.len, e3] at HS
      have HZ2 := Aside0.mk ((HS.out.below.block _ (blk_lt HZb.out)).trans HZb.out)
      obtain ⟨s0, s1, s2, s3⟩ : wr.cell? ⟨Wb.heap.size, 0, none⟩ = some (.slice A1 V.length c1) ∧ wr.cell? ⟨Wb.heap.size, 1, none⟩ = some (.slice A2 B.length c2) ∧ wr.cell? ⟨Wb.heap.size, 2, none⟩ = some (.slice A8 U.length c8) ∧ wr.cell? ⟨Wb.heap.size, 3, none⟩ = some (.slice A9 (slF U u).length c9) := ⟨(blk_cell HS.out.h5 0).trans rfl, (blk_cell HS.out.h5 1).trans rfl, (blk_cell HS.out.h5 2).trans rfl, (blk_cell HS.out.h5 3).trans rfl⟩
      have HLS := Aside0.mk hlS
      clear hlS e3
      go_wp2_with ((with_reducible refine gate_store (t := 37) (p := 4) (v := .tmp 47) rfl ?_); refine wpList_store_row rfl 37 (.tmp 4) (.tmp 47) rfl (w.heap.size + 1) #[.slice A1 V.length c1, .slice A2 B.length c2, .slice A8 U.length c8, .slice A9 (slF U u).length c9] rfl rfl 37 _ HZ2.out (by rw [IP.out]; rfl) rfl (by kernel_rfl) ?_)
      have hst := setRow_heap _ _ _ #[.slice A1 V.length c1, .slice A2 B.length c2, .slice A8 U.length c8, .slice A9 (slF U u).length c9] _ _ HZ2.out
      refine bodyPost_ret (results_cell_row rfl _ _ (w.heap.size + 1) 37 #[.slice A1 V.length c1, .slice A2 B.length c2, .slice A8 U.length c8, .slice A9 (slF U u).length c9] (0, 0) _ rfl hst Try.underlying37 rfl (by kernel_rfl)) rfl ?_
      have hz1 := blk_lt HZb.out
      have hbf : Below w.heap.size w (wr.setRow (w.heap.size + 1) #[.slice A1 V.length c1, .slice A2 B.length c2, .slice A8 U.length c8, .slice A9 (slF U u).length c9]) := below_setRow HBr.out (by omega) _
      have hoth : ∀ k, Wb.heap.size ≤ k → (wr.setRow (w.heap.size + 1) #[.slice A1 V.length c1, .slice A2 B.length c2, .slice A8 U.length c8, .slice A9 (slF U u).length c9]).heap[k]? = wr.heap[k]? := fun k hk => setRow_other' _ _ _ k (by omega)
      have f2 := Kd.R_reads' (Kd.R_move (Kd.R_bound HS.out.r2) (fun k hk => hoth k hk.2.1))
      have f3 := Kd.R_reads' (Kd.R_move (Kd.R_bound HS.out.r3) (fun k hk => hoth k hk.2.1))
      refine ⟨A1, c1, A2, c2, A8, c8, A9, c9, by rw [HLS.out], ⟨Kd.C_below G1.out hbf, l1⟩, ⟨Kd.C_below G2.out hbf, l2⟩, ⟨?_, by rw [HLS.out]; exact f2.2.1⟩, ⟨f3.2.2, f3.2.1⟩, hbf⟩
      refine same_of (d := k66) (by rw [HS.out.len, HLS.out]) (fun j x c h1 h2 => HS.out.pr j x c h1 h2) hbf ?_
      rw [List.nil_append]
      exact f2.2.2
    have hsj : (sigsF U)[i]? = some ⟨(rd_T41 U (i : Int)).f1, (rd_T41 U (i : Int)).f2⟩ := by
      unfold sigsF rd_T41
      rw [List.getElem?_map, List.getElem?_eq_getElem hil, Int.toNat_natCast, List.getD_eq_getElem?_getD, List.getElem?_eq_getElem hil]
      rfl
    have SJ := Aside0.mk hsj
    have hm : rd_T41 U (i : Int) ∈ U := by unfold rd_T41; rw [Int.toNat_natCast, List.getD_eq_getElem?_getD, List.getElem?_eq_getElem hil]; exact List.getElem_mem _
    obtain ⟨o1, o2, o3⟩ := hU _ hm
    clear hm hsj
    obtain ⟨ad, A5, c5, A6, c6, A7, c7, rfl, x0, x1, x2, x3, x4, l5, h5, l6, h6, l7, h7⟩ := at_T41 G3.out (i : Int) (by omega) (by omega)
    rw [Int.toNat_natCast] at x0 x1 x2 x3 x4
    have EX := Aside0.mk (Eq.refl (rd_T41 U (i : Int)))
    obtain ⟨X, hX⟩ : ∃ X, X = rd_T41 U (i : Int) := ⟨_, rfl⟩
    rw [← hX] at x0 x1 x2 x3 x4 l5 h5 l6 h6 l7 h7 o1 o2 o3 SJ
    have HX := Aside0.mk hX
    clear hX EX
    have KX := Aside0.mk (k66_mk w ⟨X.f1, X.f2⟩ l5 h5)
    have X0 := Aside0.mk x0
    have X1 := Aside0.mk x1
    have X2 := Aside0.mk x2
    have X3 := Aside0.mk x3
    have X4 := Aside0.mk x4
    have H5 := Aside0.mk h5
    have H6 := Aside0.mk h6
    have H7 := Aside0.mk h7
    clear x0 x1 x2 x3 x4 h5 h6 h7
    obtain ⟨A8, c8, rfl⟩ := Kd.R_slice HS.out.r2
    obtain ⟨A9, c9, hv3⟩ := Kd.R_slice HS.out.r3
    rw [HS.out.len] at HS
    have j0_ : (0 : Int) ≤ (i : Int) := by omega
    have j1_ : (i : Int) < (U.length : Int) := by omega
    have J1 := eq_true j1_
    go_wp2_with fail
    refine Reh.region_h 18 [some 19, some 20, some 21, some 22, some 23, some 24, some 25, some 26, some 27, some 28, some 29, some 30, some 31, some 32, some 33, some 34, some 35, some 36, none] [0, 1, 0, 4, 0, 28, 60, 124, 0, 256, 0, 1792, 3840, 7936, 16380, 32764, 65535, 131071, 262143] (true, [([], []), ([0], [0]), ([], []), ([2], [2]), ([], []), ([3, 4], [3, 4]), ([5], [5]), ([6], [6]), ([], []), ([8], [8]), ([], []), ([9, 10], [9, 10]), ([11], [11]), ([12], [12]), ([7, 13], [7, 13]), ([14], [14]), ([1, 15], [1, 15]), ([0, 1, 2, 3, 4, 5, 6, 7, 8, 9, 10, 11, 12, 13, 14, 15, 16], []), ([17, 16, 16, 0, 1, 2, 3, 4, 5, 6, 7, 8, 9, 10, 11, 12, 13, 14, 15, 16], [16, 17])])
      (fun i_ => ([(fun _ _ v_ => v_ = (.pointer (some ⟨Wb.heap.size, 2, none⟩))), (fun _ _ v_ => v_ = (.slice A8 i c8)), (fun _ _ v_ => v_ = (.pointer (some ⟨w.heap.size, 3, none⟩))), (fun _ _ v_ => v_ = (.slice (some ad) U.length c3)), (fun _ _ v_ => v_ = (.int .i64 (i : Int))), (fun _ _ v_ => v_ = (.pointer (some (ad.add (i * 5))))), (fun _ _ v_ => v_ = (.pointer (some ⟨(ad.add (i * 5)).block, (ad.add (i * 5)).off + 1, none⟩))), (fun _ _ v_ => v_ = (.slice A5 X.f1.length c5)), (fun _ _ v_ => v_ = (.pointer (some ⟨w.heap.size, 3, none⟩))), (fun _ _ v_ => v_ = (.slice (some ad) U.length c3)), (fun _ _ v_ => v_ = (.int .i64 (i : Int))), (fun _ _ v_ => v_ = (.pointer (some (ad.add (i * 5))))), (fun _ _ v_ => v_ = (.pointer (some ⟨(ad.add (i * 5)).block, (ad.add (i * 5)).off + 2, none⟩))), (fun _ _ v_ => v_ = (.int .i64 X.f2)), (fun _ _ v_ => v_ = (.agg #[.slice A5 X.f1.length c5, .int .i64 X.f2])), (fun g_ w_ v_ => (Kd.raw 2).R 66 w_ Wb.heap.size (fun k_ => g_ k_ = 15) v_ ([[.slice A5 X.f1.length c5, .int .i64 X.f2]])), (fun g_ w_ v_ => (Kd.raw 2).R 66 w_ Wb.heap.size (fun k_ => g_ k_ = 16 ∧ k_ ≠ Wb.heap.size) v_ (RS ++ [([.slice A5 X.f1.length c5, .int .i64 X.f2] : List Value)]) ∧ Kd.R (Kd.int .i64) 3 w_ Wb.heap.size (fun k_ => (g_ k_ = 16 ∧ k_ ≠ Wb.heap.size) ∧ some k_ ≠ v_.ownBlock) v3 (slU U u i) ∧ g_ Wb.heap.size = 16 ∧ Wb.heap.size < w_.heap.size ∧ w_.heap[Wb.heap.size]? = some (.cells #[.slice A1 V.length c1, .slice A2 B.length c2, .slice A8 i c8, v3] 37 (0, 0))), (fun _ _ v_ => v_ = (.pointer (some ⟨Wb.heap.size, 2, none⟩))), (fun _ _ _ => True)] : List ((Nat → Nat) → World → Value → Prop)).getD i_ (fun _ _ _ => False)) [[], [], [], [], [], [], [], [], [], [], [], [], [], [], [], [], [1000], [], []] 1000 Wb HS.out.below
      (by kernel_rfl) (by kernel_rfl) (by kernel_rfl) (by kernel_rfl) (by kernel_rfl) (by decide) (by rfl) (by rfl) (by kernel_rfl) (Reh.monoG_getD ?_) [0, 1, 2, 3, 4, 5, 6, 7, 8, 9, 10, 11, 12, 13, 14, 15, 16, 17] (by kernel_rfl) ?_ ?_
    · intro i_ s_ hs_
      match i_, hs_ with
      | 0, hs_ => obtain rfl := Option.some.inj hs_; exact Reh.monoG_eq _ _
      | 1, hs_ => obtain rfl := Option.some.inj hs_; exact Reh.monoG_eq _ _
      | 2, hs_ => obtain rfl := Option.some.inj hs_; exact Reh.monoG_eq _ _
      | 3, hs_ => obtain rfl := Option.some.inj hs_; exact Reh.monoG_eq _ _
      | 4, hs_ => obtain rfl := Option.some.inj hs_; exact Reh.monoG_eq _ _
      | 5, hs_ => obtain rfl := Option.some.inj hs_; exact Reh.monoG_eq _ _
      | 6, hs_ => obtain rfl := Option.some.inj hs_; exact Reh.monoG_eq _ _
      | 7, hs_ => obtain rfl := Option.some.inj hs_; exact Reh.monoG_eq _ _
      | 8, hs_ => obtain rfl := Option.some.inj hs_; exact Reh.monoG_eq _ _
      | 9, hs_ => obtain rfl := Option.some.inj hs_; exact Reh.monoG_eq _ _
      | 10, hs_ => obtain rfl := Option.some.inj hs_; exact Reh.monoG_eq _ _
      | 11, hs_ => obtain rfl := Option.some.inj hs_; exact Reh.monoG_eq _ _
      | 12, hs_ => obtain rfl := Option.some.inj hs_; exact Reh.monoG_eq _ _
      | 13, hs_ => obtain rfl := Option.some.inj hs_; exact Reh.monoG_eq _ _
      | 14, hs_ => obtain rfl := Option.some.inj hs_; exact Reh.monoG_eq _ _
      | 15, hs_ => obtain rfl := Option.some.inj hs_; exact Reh.monoG_R _ _ _ _ _
      | 16, hs_ => obtain rfl := Option.some.inj hs_; exact mono16 _ _ _ _ _ _ _ _
      | 17, hs_ => obtain rfl := Option.some.inj hs_; exact Reh.monoG_eq _ _
      | 18, hs_ => obtain rfl := Option.some.inj hs_; exact (fun _ _ _ _ _ _ _ _ => trivial)
      | k + 19, hs_ => exact absurd hs_ (by simp)
    · skip
      refine Reh.hs_cons ?_ ?_
      · intro g a w_ hb hgr hst hs hel hon
        have e5 : a.tmps[5]? = some (.pointer (some ⟨Wb.heap.size, 0, none⟩)) := (hel 5 (by decide)).trans rfl
        obtain ⟨_, g5⟩ := Array.getElem?_eq_some_iff.1 e5
        refine ⟨_, rfl, fun K hK => ?_⟩
        refine value_ (w1 := w_) (v := .pointer (some ⟨Wb.heap.size, 2, none⟩)) (by rfl) rfl ?_ (hK.out _ _ g hb (Nat.le_refl _) Reh.same_keep rfl)
        · go_simp
          (try simp only [i64_w, g5])
          (try go_simp)
          try rfl
      refine Reh.hs_cons ?_ ?_
      · intro g a w_ hb hgr hst hs hel hon
        obtain ⟨_, e19, rfl⟩ := hon 0 19 (by kernel_rfl) rfl (Reh.cons_one (by kernel_rfl))
        obtain ⟨_, g19⟩ := Array.getElem?_eq_some_iff.1 e19
        obtain ⟨hh_, _⟩ := hst (Reh.waits_ok (by kernel_rfl)) _ (blk_lt HS.out.h5)
        have hk_ := hh_.trans HS.out.h5
        have y_ : w_.cell? ⟨Wb.heap.size, 2, none⟩ = some (.slice A8 i c8) := (blk_cell hk_ 2).trans rfl
        refine ⟨_, rfl, fun K hK => ?_⟩
        refine value_ (w1 := w_) (v := .slice A8 i c8) (by rfl) rfl ?_ (hK.out _ _ g hb (Nat.le_refl _) Reh.same_keep rfl)
        · go_simp
          (try simp only [i64_w, g19])
          (try go_simp)
          try rfl
      refine Reh.hs_cons ?_ ?_
      · intro g a w_ hb hgr hst hs hel hon
        have e2 : a.tmps[2]? = some (.pointer (some ⟨w.heap.size, 0, none⟩)) := (hel 2 (by decide)).trans rfl
        obtain ⟨_, g2⟩ := Array.getElem?_eq_some_iff.1 e2
        refine ⟨_, rfl, fun K hK => ?_⟩
        refine value_ (w1 := w_) (v := .pointer (some ⟨w.heap.size, 3, none⟩)) (by rfl) rfl ?_ (hK.out _ _ g hb (Nat.le_refl _) Reh.same_keep rfl)
        · go_simp
          (try simp only [i64_w, g2])
          (try go_simp)
          try rfl
      refine Reh.hs_cons ?_ ?_
      · intro g a w_ hb hgr hst hs hel hon
        obtain ⟨_, e21, rfl⟩ := hon 2 21 (by kernel_rfl) rfl (Reh.cons_one (by kernel_rfl))
        obtain ⟨_, g21⟩ := Array.getElem?_eq_some_iff.1 e21
        have hk_ := (hb.block _ (blk_lt HPb.out)).trans HPb.out
        obtain ⟨q0, q1, q2, q3⟩ := progCells hk_
        refine ⟨_, rfl, fun K hK => ?_⟩
        refine value_ (w1 := w_) (v := .slice (some ad) U.length c3) (by rfl) rfl ?_ (hK.out _ _ g hb (Nat.le_refl _) Reh.same_keep rfl)
        · go_simp
          (try simp only [i64_w, g21])
          (try go_simp)
          try rfl
      refine Reh.hs_cons ?_ ?_
      · intro g a w_ hb hgr hst hs hel hon
        have e6 : a.tmps[6]? = some (.int .i64 (i : Int)) := (hel 6 (by decide)).trans rfl
        obtain ⟨_, g6⟩ := Array.getElem?_eq_some_iff.1 e6
        refine ⟨_, rfl, fun K hK => ?_⟩
        refine value_ (w1 := w_) (v := .int .i64 (i : Int)) (by rfl) rfl ?_ (hK.out _ _ g hb (Nat.le_refl _) Reh.same_keep rfl)
        · go_simp
          (try simp only [i64_w, g6])
          (try go_simp)
          try rfl
      refine Reh.hs_cons ?_ ?_
      · intro g a w_ hb hgr hst hs hel hon
        obtain ⟨_, e22, rfl⟩ := hon 3 22 (by kernel_rfl) rfl (Reh.cons_one (by kernel_rfl))
        obtain ⟨_, g22⟩ := Array.getElem?_eq_some_iff.1 e22
        obtain ⟨_, e23, rfl⟩ := hon 4 23 (by kernel_rfl) rfl (Reh.cons_one (by kernel_rfl))
        obtain ⟨_, g23⟩ := Array.getElem?_eq_some_iff.1 e23
        refine ⟨_, rfl, fun K hK => ?_⟩
        refine value_ (w1 := w_) (v := .pointer (some (ad.add (i * 5)))) (by rfl) rfl ?_ (hK.out _ _ g hb (Nat.le_refl _) Reh.same_keep rfl)
        · go_simp
          (try simp only [i64_w, g22, g23])
          (try go_simp)
          try rfl
      refine Reh.hs_cons ?_ ?_
      · intro g a w_ hb hgr hst hs hel hon
        obtain ⟨_, e24, rfl⟩ := hon 5 24 (by kernel_rfl) rfl (Reh.cons_one (by kernel_rfl))
        obtain ⟨_, g24⟩ := Array.getElem?_eq_some_iff.1 e24
        refine ⟨_, rfl, fun K hK => ?_⟩
        refine value_ (w1 := w_) (v := .pointer (some ⟨(ad.add (i * 5)).block, (ad.add (i * 5)).off + 1, none⟩)) (by rfl) rfl ?_ (hK.out _ _ g hb (Nat.le_refl _) Reh.same_keep rfl)
        · go_simp
          (try simp only [i64_w, g24])
          (try go_simp)
          try rfl
      refine Reh.hs_cons ?_ ?_
      · intro g a w_ hb hgr hst hs hel hon
        obtain ⟨_, e25, rfl⟩ := hon 6 25 (by kernel_rfl) rfl (Reh.cons_one (by kernel_rfl))
        obtain ⟨_, g25⟩ := Array.getElem?_eq_some_iff.1 e25
        have x1_ := ((HBb.out.trans (hb.mono HBb.out.size)).cell (World.block_lt_of_cell? w _ X1.out)).trans X1.out
        refine ⟨_, rfl, fun K hK => ?_⟩
        refine value_ (w1 := w_) (v := .slice A5 X.f1.length c5) (by rfl) rfl ?_ (hK.out _ _ g hb (Nat.le_refl _) Reh.same_keep rfl)
        · go_simp
          (try simp only [i64_w, g25])
          (try go_simp)
          try rfl
      refine Reh.hs_cons ?_ ?_
      · intro g a w_ hb hgr hst hs hel hon
        have e2 : a.tmps[2]? = some (.pointer (some ⟨w.heap.size, 0, none⟩)) := (hel 2 (by decide)).trans rfl
        obtain ⟨_, g2⟩ := Array.getElem?_eq_some_iff.1 e2
        refine ⟨_, rfl, fun K hK => ?_⟩
        refine value_ (w1 := w_) (v := .pointer (some ⟨w.heap.size, 3, none⟩)) (by rfl) rfl ?_ (hK.out _ _ g hb (Nat.le_refl _) Reh.same_keep rfl)
        · go_simp
          (try simp only [i64_w, g2])
          (try go_simp)
          try rfl
      refine Reh.hs_cons ?_ ?_
      · intro g a w_ hb hgr hst hs hel hon
        obtain ⟨_, e27, rfl⟩ := hon 8 27 (by kernel_rfl) rfl (Reh.cons_one (by kernel_rfl))
        obtain ⟨_, g27⟩ := Array.getElem?_eq_some_iff.1 e27
        have hk_ := (hb.block _ (blk_lt HPb.out)).trans HPb.out
        obtain ⟨q0, q1, q2, q3⟩ := progCells hk_
        refine ⟨_, rfl, fun K hK => ?_⟩
        refine value_ (w1 := w_) (v := .slice (some ad) U.length c3) (by rfl) rfl ?_ (hK.out _ _ g hb (Nat.le_refl _) Reh.same_keep rfl)
        · go_simp
          (try simp only [i64_w, g27])
          (try go_simp)
          try rfl
      refine Reh.hs_cons ?_ ?_
      · intro g a w_ hb hgr hst hs hel hon
        have e6 : a.tmps[6]? = some (.int .i64 (i : Int)) := (hel 6 (by decide)).trans rfl
        obtain ⟨_, g6⟩ := Array.getElem?_eq_some_iff.1 e6
        refine ⟨_, rfl, fun K hK => ?_⟩
        refine value_ (w1 := w_) (v := .int .i64 (i : Int)) (by rfl) rfl ?_ (hK.out _ _ g hb (Nat.le_refl _) Reh.same_keep rfl)
        · go_simp
          (try simp only [i64_w, g6])
          (try go_simp)
          try rfl
      refine Reh.hs_cons ?_ ?_
      · intro g a w_ hb hgr hst hs hel hon
        obtain ⟨_, e28, rfl⟩ := hon 9 28 (by kernel_rfl) rfl (Reh.cons_one (by kernel_rfl))
        obtain ⟨_, g28⟩ := Array.getElem?_eq_some_iff.1 e28
        obtain ⟨_, e29, rfl⟩ := hon 10 29 (by kernel_rfl) rfl (Reh.cons_one (by kernel_rfl))
        obtain ⟨_, g29⟩ := Array.getElem?_eq_some_iff.1 e29
        refine ⟨_, rfl, fun K hK => ?_⟩
        refine value_ (w1 := w_) (v := .pointer (some (ad.add (i * 5)))) (by rfl) rfl ?_ (hK.out _ _ g hb (Nat.le_refl _) Reh.same_keep rfl)
        · go_simp
          (try simp only [i64_w, g28, g29])
          (try go_simp)
          try rfl
      refine Reh.hs_cons ?_ ?_
      · intro g a w_ hb hgr hst hs hel hon
        obtain ⟨_, e30, rfl⟩ := hon 11 30 (by kernel_rfl) rfl (Reh.cons_one (by kernel_rfl))
        obtain ⟨_, g30⟩ := Array.getElem?_eq_some_iff.1 e30
        refine ⟨_, rfl, fun K hK => ?_⟩
        refine value_ (w1 := w_) (v := .pointer (some ⟨(ad.add (i * 5)).block, (ad.add (i * 5)).off + 2, none⟩)) (by rfl) rfl ?_ (hK.out _ _ g hb (Nat.le_refl _) Reh.same_keep rfl)
        · go_simp
          (try simp only [i64_w, g30])
          (try go_simp)
          try rfl
      refine Reh.hs_cons ?_ ?_
      · intro g a w_ hb hgr hst hs hel hon
        obtain ⟨_, e31, rfl⟩ := hon 12 31 (by kernel_rfl) rfl (Reh.cons_one (by kernel_rfl))
        obtain ⟨_, g31⟩ := Array.getElem?_eq_some_iff.1 e31
        have x2_ := ((HBb.out.trans (hb.mono HBb.out.size)).cell (World.block_lt_of_cell? w _ X2.out)).trans X2.out
        refine ⟨_, rfl, fun K hK => ?_⟩
        refine value_ (w1 := w_) (v := .int .i64 X.f2) (by rfl) rfl ?_ (hK.out _ _ g hb (Nat.le_refl _) Reh.same_keep rfl)
        · go_simp
          (try simp only [i64_w, g31])
          (try go_simp)
          try rfl
      refine Reh.hs_cons ?_ ?_
      · intro g a w_ hb hgr hst hs hel hon
        obtain ⟨_, e26, rfl⟩ := hon 7 26 (by kernel_rfl) rfl (Reh.cons_one (by kernel_rfl))
        obtain ⟨_, g26⟩ := Array.getElem?_eq_some_iff.1 e26
        obtain ⟨_, e32, rfl⟩ := hon 13 32 (by kernel_rfl) rfl (Reh.cons_one (by kernel_rfl))
        obtain ⟨_, g32⟩ := Array.getElem?_eq_some_iff.1 e32
        refine ⟨_, rfl, fun K hK => ?_⟩
        refine value_ (w1 := w_) (v := .agg #[.slice A5 X.f1.length c5, .int .i64 X.f2]) (by rfl) rfl ?_ (hK.out _ _ g hb (Nat.le_refl _) Reh.same_keep rfl)
        · go_simp
          (try simp only [i64_w, g26, g32])
          (try go_simp)
          try rfl
      refine Reh.hs_cons ?_ ?_
      · intro g a w_ hb hgr hst hs hel hon
        obtain ⟨_, e33, rfl⟩ := hon 14 33 (by kernel_rfl) rfl (Reh.cons_one (by kernel_rfl))
        obtain ⟨_, g33⟩ := Array.getElem?_eq_some_iff.1 e33
        refine ⟨_, rfl, fun K hK => ?_⟩
        refine Reh.lit_h (Kd.raw 2) 66 15 (by rfl) (N := 34) rfl (xs := [[.slice A5 X.f1.length c5, .int .i64 X.f2]]) (inner := [.slice A5 X.f1.length c5, .int .i64 X.f2]) ?_ (Reps.c2 ⟨rfl, rfl, by simp [Value.oneCell']⟩ (Reps.none _ _)) hb (by simp) (fun v_ w2 g2 h1 h2 h3 h4 => hK.out _ _ _ h1 h2 h3 h4)
        · go_simp
          (try simp only [i64_w, g33])
          (try go_simp)
          try rfl
      refine Reh.hs_cons ?_ ?_
      · intro g a w_ hb hgr hst hs hel hon
        obtain ⟨_, e20, rfl⟩ := hon 1 20 (by kernel_rfl) rfl (Reh.cons_one (by kernel_rfl))
        obtain ⟨_, g20⟩ := Array.getElem?_eq_some_iff.1 e20
        obtain ⟨v34_, e34, h34⟩ := hon 15 34 (by kernel_rfl) rfl (Reh.cons_one (by kernel_rfl))
        obtain ⟨_, g34⟩ := Array.getElem?_eq_some_iff.1 e34
        obtain ⟨Aq, cq, rfl, hq, hCq⟩ := Kd.R_reads h34
        have hst_ := hst (Reh.waits_ok (by kernel_rfl))
        have hh_ := (hst_ _ (blk_lt HS.out.h5)).1.trans HS.out.h5
        have lp_ := Nat.lt_of_lt_of_le (blk_lt HS.out.h5) hgr
        refine ⟨_, rfl, fun K hK => ?_⟩
        refine Kd.R_append_rows_step (Kd.raw 2) (w0 := Wb) Wb.heap.size (by rfl) (.tmp 20) (.tmp 34) 34 66 (.agg #[.slice none 0 0, .int .i64 0]) 32 rfl Try.underlying34 I4.out rfl (by decide) (by decide) (.slice A8 i c8) RS [[.slice A5 X.f1.length c5, .int .i64 X.f2]] Aq 1 cq (fun k => Reh.take g w_.heap.size 16 1000 k = 16 ∧ k ≠ Wb.heap.size) (fun _ => False) (Reh.eval_at e20) (Reh.eval_at e34)
          (Kd.R_mono (Kd.R_move (Kd.R_bound HS.out.r2) (fun k hk => (hst_ k hk.2.2.1).1)) (fun k hk => ⟨Reh.take_new (.inr (hst_ k hk.2.2.1).2), hk.1⟩)) hCq (fun _ _ hk => hk) (fun _ hk => hk.elim) (fun k hk => ⟨Reh.take_new (.inl hk), by omega⟩) hb hb.size (by have := HS.out.len; omega) ?_
        intro v1 w1 hR hB hg hat
        refine hK.out v1 w1 (Reh.take g w_.heap.size 16 1000) hB hg.size (fun k hk hne => ⟨hg.block k hk (fun e => hne ?_), Reh.take_old hk (fun e => hne (by rw [e]; exact List.mem_singleton.2 rfl))⟩) ⟨hR, ?_, Reh.take_new (.inr (hst_ _ (blk_lt HS.out.h5)).2), Nat.lt_of_lt_of_le lp_ hg.size, (hg.block _ lp_ (fun e => HS.out.r2.1 _ e.symm rfl)).trans hh_⟩
        · rw [(hst_ k (Kd.R_lt HS.out.r2 k e.symm)).2]; exact List.mem_singleton.2 rfl
        · exact Kd.R_after (v := .slice A8 i c8) (Kd.R_mono (Kd.R_move (Kd.R_bound HS.out.r3) (fun k hk => (hst_ k hk.2.2.1).1)) (fun k hk => ⟨⟨Reh.take_new (.inr (hst_ k hk.2.2.1).2), hk.1.1⟩, hk.1.2⟩)) hg hat
      refine Reh.hs_cons ?_ ?_
      · intro g a w_ hb hgr hst hs hel hon
        have e5 : a.tmps[5]? = some (.pointer (some ⟨Wb.heap.size, 0, none⟩)) := (hel 5 (by decide)).trans rfl
        obtain ⟨_, g5⟩ := Array.getElem?_eq_some_iff.1 e5
        refine ⟨_, rfl, fun K hK => ?_⟩
        refine value_ (w1 := w_) (v := .pointer (some ⟨Wb.heap.size, 2, none⟩)) (by rfl) rfl ?_ (hK.out _ _ g hb (Nat.le_refl _) Reh.same_keep rfl)
        · go_simp
          (try simp only [i64_w, g5])
          (try go_simp)
          try rfl
      exact Reh.hs_nil
    · intro g a w_ hb hgr hst hdf hs hel hon
      obtain ⟨_, e36, rfl⟩ := hon 17 36 (by kernel_rfl) rfl (Reh.cons_one (by kernel_rfl))
      obtain ⟨v35_, e35, k1, k2, k3, k4, k5⟩ := hon 16 35 (by kernel_rfl) rfl (Reh.cons_one (by kernel_rfl))
      obtain ⟨A35, c35, rfl⟩ := Kd.R_slice k1
      have hln : (RS ++ [([.slice A5 X.f1.length c5, .int .i64 X.f2] : List Value)]).length = i + 1 := by rw [List.length_append, HS.out.len]; rfl
      rw [hln] at e35 k1 k2
      clear hln
      refine ⟨_, rfl, fun K hK => ?_⟩
      rw [if_pos (by rfl)]
      have y_ : w_.cell? ⟨Wb.heap.size, 2, none⟩ = some (.slice A8 i c8) := (blk_cell k5 2).trans rfl
      have f_ := blk_frozen k5 2
      obtain ⟨z35, g35⟩ := Array.getElem?_eq_some_iff.1 e35
      obtain ⟨z36, g36⟩ := Array.getElem?_eq_some_iff.1 e36
      refine Reh.skipH_ (w1 := w_.setCell ⟨Wb.heap.size, 2, none⟩ (.slice A35 (i + 1) c35)) rfl ?_ (hK.out _ _ ?_)
      · go_simp
        (try go_simp)
      clear hK g35 g36 z35 z36 y_ f_
      rename_i K_ hK_
      refine hK_ _ _ ?_
      have hfr := Reg.RegI.frame (⟨pw_refl _, hdf, hs, hel, fun _ _ _ h_ => by cases h_⟩ : Reg.RegI _ (fun _ _ _ => True) _ w_ (fun _ => false) a w_)
      obtain ⟨W5, hW5⟩ : ∃ W5, W5 = w_.setCell ⟨Wb.heap.size, 2, none⟩ (.slice A35 (i + 1) c35) := ⟨_, rfl⟩
      rw [← hW5]
      have hne : ∀ k, k ≠ Wb.heap.size → W5.heap[k]? = w_.heap[k]? := fun k hk => by rw [hW5]; exact Below.heap_setCell _ _ _ k hk
      have HS5 := Aside0.mk (show RSt5 w Wb A1 c1 V A2 c2 B U u i (.slice A35 (i + 1) c35) (RS ++ [([.slice A5 X.f1.length c5, .int .i64 X.f2] : List Value)]) v3 W5 from ⟨by rw [hW5]; exact hb.setCell (Nat.le_refl _) _, by rw [hW5]; exact blk_set k5 2 _, Kd.R_mono (Kd.R_move k1 (fun k hk => hne k hk.2)) (fun k hk => hk.2), by rw [List.length_append, HS.out.len]; rfl, ?_, Kd.R_mono (Kd.R_move k2 (fun k hk => hne k hk.1.2)) (fun k hk => ⟨hk.1.2, hk.2⟩)⟩)
      rotate_left
      · intro j x c hj hc
        rcases Nat.lt_or_ge j i with hji | hji
        · rw [List.getElem?_append_left (by rw [HS.out.len]; exact hji)] at hc; exact HS.out.pr j x c hj hc
        · have hji2 : j = i := by have := (List.getElem?_eq_some_iff.1 hc).1; rw [List.length_append, HS.out.len] at this; simp at this; omega
          subst hji2
          rw [List.getElem?_append_right (by rw [HS.out.len]; exact Nat.le_refl _), HS.out.len, Nat.sub_self] at hc
          obtain rfl : [.slice A5 X.f1.length c5, .int .i64 X.f2] = c := by simpa using hc
          rw [SJ.out] at hj
          obtain rfl := Option.some.inj hj
          exact KX.out
      clear k1 k2 k3 k4 k5 hne hW5 hb hgr hst
      rw [hfr]
      simp only [Reg.puts, Act.put, List.setIfInBounds_toArray, List.set_cons_zero, List.set_cons_succ]
      generalize a.tmps = ts_
      clear hfr hK_ e35 e36 hdf hs hel hon g
      have HBr := Aside0.mk (HBb.out.trans (HS5.out.below.mono HBb.out.size))
      have hk_ := (HS5.out.below.block _ (blk_lt HPb.out)).trans HPb.out
      obtain ⟨q0, q1, q2, q3⟩ := progCells hk_
      clear hk_
      obtain ⟨s0, s1, s2, s3⟩ : W5.cell? ⟨Wb.heap.size, 0, none⟩ = some (.slice A1 V.length c1) ∧ W5.cell? ⟨Wb.heap.size, 1, none⟩ = some (.slice A2 B.length c2) ∧ W5.cell? ⟨Wb.heap.size, 2, none⟩ = some (.slice A35 (i + 1) c35) ∧ W5.cell? ⟨Wb.heap.size, 3, none⟩ = some v3 := ⟨(blk_cell HS5.out.h5 0).trans rfl, (blk_cell HS5.out.h5 1).trans rfl, (blk_cell HS5.out.h5 2).trans rfl, (blk_cell HS5.out.h5 3).trans rfl⟩
      by_cases hu : (i : Int) = u
      rotate_left
      · have hu2 : ((i : Int) == u) = false := beq_eq_false_iff_ne.2 hu
        have HU := Aside0.mk (slU_ne (U := U) hu)
        clear hu
        go_wp2_with fail
        refine ⟨⟨i + 1, _, _, v3, by omega, by push_cast; rfl, Aside0.mk ⟨HS5.out.below, HS5.out.h5, HS5.out.r2, HS5.out.len, HS5.out.pr, by rw [HU.out]; exact HS5.out.r3⟩⟩, ?_⟩
        rw [show intOf (.int .i64 ((i : Int) + 1)) = (i : Int) + 1 from rfl, show intOf (.int .i64 (i : Int)) = (i : Int) from rfl]
        omega
      have hu2 : ((i : Int) == u) = true := beq_iff_eq.2 hu
      have HU := Aside0.mk (show slU U u (i + 1) = slotsF X.f1 X.f2 X.f3 by unfold slU; rw [if_pos ⟨by omega, by omega⟩, HX.out, hu])
      clear hu
      have PL := Aside0.mk (ladderbackref15_Slots.calls 20000 X.f0 A5 c5 X.f1 X.f2 A6 c6 X.f3 A7 c7 X.f4 (slotsF X.f1 X.f2 X.f3) W5 (Kd.C_below H5.out HBr.out) l5 (Kd.C_below H6.out HBr.out) l6 (Kd.C_below H7.out HBr.out) l7 (rslots_is _ _ _ _ _ (by omega) (by omega) 20000 (by omega)))
      have x0 := (HBr.out.cell (World.block_lt_of_cell? w _ X0.out)).trans X0.out
      have x1 := (HBr.out.cell (World.block_lt_of_cell? w _ X1.out)).trans X1.out
      have x2 := (HBr.out.cell (World.block_lt_of_cell? w _ X2.out)).trans X2.out
      have x3 := (HBr.out.cell (World.block_lt_of_cell? w _ X3.out)).trans X3.out
      have x4 := (HBr.out.cell (World.block_lt_of_cell? w _ X4.out)).trans X4.out
      go_wp2_with fail
      refine PL.out.mono ?_
      rintro e W6 ⟨v6, rfl, hR6, hb6⟩
      obtain ⟨B6, d6, rfl⟩ := Kd.R_slice hR6
      have HR6 := Aside0.mk hR6
      have HB6 := Aside0.mk hb6
      have HBL := Aside0.mk ((hb6.block _ (blk_lt HS5.out.h5)).trans HS5.out.h5)
      clear hR6 hb6 PL s0 s1 s2 s3 q0 q1 q2 q3 x0 x1 x2 x3 x4
      have s3 : W6.cell? ⟨Wb.heap.size, 3, none⟩ = some v3 := (blk_cell HBL.out 3).trans rfl
      have z3 := blk_frozen HBL.out 3
      have hS := HS5.out.below.size
      have hlt := blk_lt HS5.out.h5
      have HN := Aside0.mk (show RSt w Wb A1 c1 V A2 c2 B U u (i + 1) (.slice A35 (i + 1) c35) (RS ++ [([.slice A5 X.f1.length c5, .int .i64 X.f2] : List Value)]) (.slice B6 (slotsF X.f1 X.f2 X.f3).length d6) (W6.setCell ⟨Wb.heap.size, 3, none⟩ (.slice B6 (slotsF X.f1 X.f2 X.f3).length d6)) from ⟨(HS5.out.below.trans (HB6.out.mono hS)).setCell (Nat.le_refl _) _, blk_set HBL.out 3 _, Kd.R_mono (Kd.R_move (Kd.R_bound HS5.out.r2) (fun k hk => (Below.heap_setCell _ _ _ k hk.1).trans (HB6.out.block k hk.2.2.1))) (fun k hk => hk.1), HS5.out.len, HS5.out.pr, by rw [HU.out]; exact Kd.R_lower (Kd.R_mono (Kd.R_move (Kd.R_bound HR6.out) (fun k hk => Below.heap_setCell _ _ _ k (by have := hk.2.1; show k ≠ Wb.heap.size; omega))) (fun k hk => ⟨by have := hk.2.1; omega, fun e => by have := Kd.R_lt HS5.out.r2 k e.symm; have := hk.2.1; omega⟩)) hS⟩)
      clear hS hlt
      go_wp2_with fail
      refine ⟨⟨i + 1, _, _, _, by omega, by push_cast; rfl, HN⟩, ?_⟩
      rw [show intOf (.int .i64 ((i : Int) + 1)) = (i : Int) + 1 from rfl, show intOf (.int .i64 (i : Int)) = (i : Int) from rfl]
      omega
end Go.Proofs.Ytghhbdmggmdffaa.Given
end

section
/- DeclChecks walked by hand. -/
namespace Go.Proofs.Ytghhbdmggmdffaa.Given
open Go Go.RowKit Go.Proofs.Ytghhbdmggmdffaa.PDe Go.Proofs.Ytghhbdmggmdffaa.RPure Go.Proofs.YtghhbdmggmdffaaW.PrintWords Go.Proofs.YtghhbdmggmdffaaW.PrintLast Go.Proofs.YtghhbdmggmdffaaW.PrintMore
set_option linter.unusedVariables false
set_option linter.unusedSimpArgs false
/-- A scope's value. -/
def ScV (V : LV) (B : LB) (U : LU) (u : Int) (w : World) (v : Value) : Prop := ∃ B0 d0 B1 d1 B2 d2 B3 d3, v = .agg #[.slice B0 V.length d0, .slice B1 B.length d1, .slice B2 (sigsF U).length d2, .slice B3 (slF U u).length d3] ∧ (Kd.C k45 w B0 V.length V ∧ V.length ≤ d0) ∧ (Kd.C k47 w B1 B.length B ∧ B.length ≤ d1) ∧ (Kd.C k66 w B2 (sigsF U).length (sigsF U) ∧ (sigsF U).length ≤ d2) ∧ (Kd.C (Kd.int .i64) w B3 (slF U u).length (slF U u) ∧ (slF U u).length ≤ d3)
theorem ScV_below {V : LV} {B : LB} {U : LU} {u : Int} {w w1 : World} {v : Value} (hb : Below w.heap.size w w1) (h : ScV V B U u w v) : ScV V B U u w1 v := by
  obtain ⟨B0, d0, B1, d1, B2, d2, B3, d3, e, h0, h1, h2, h3⟩ := h
  exact ⟨B0, d0, B1, d1, B2, d2, B3, d3, e, ⟨Kd.C_below h0.1 hb, h0.2⟩, ⟨Kd.C_below h1.1 hb, h1.2⟩, ⟨Kd.C_below h2.1 hb, h2.2⟩, ⟨Kd.C_below h3.1 hb, h3.2⟩⟩
theorem slF_len {U : LU} (hU : Ok U) (u : Int) : (slF U u).length ≤ 30000 := by
  unfold slF
  split
  · rename_i h
    have hm : rd_T41 U u ∈ U := by unfold rd_T41; rw [List.getD_eq_getElem?_getD, List.getElem?_eq_getElem (show u.toNat < U.length by omega)]; exact List.getElem_mem _
    obtain ⟨o1, o2, o3⟩ := hU _ hm
    exact slots_len _ _ _ (by omega) (by omega)
  · simp
set_option maxHeartbeats 16000000 in
set_option maxRecDepth 100000 in
theorem checks_w (A0 : Option Addr) (c0 : Nat) (C : LC) (A1 : Option Addr) (c1 : Nat) (V : LV) (A2 : Option Addr) (c2 : Nat) (B : LB) (A3 : Option Addr) (c3 : Nat) (U : LU) (u : Int) (wo : World)
    (g0 : Kd.C k61 wo A0 C.length C) (l0 : C.length ≤ c0) (g1 : Kd.C k45 wo A1 V.length V) (l1 : V.length ≤ c1) (g2 : Kd.C k47 wo A2 B.length B) (l2 : B.length ≤ c2) (g3 : Kd.C k41 wo A3 U.length U) (l3 : U.length ≤ c3) :
    Calls Try.prog 4 #[.agg #[.slice A0 C.length c0, .slice A1 V.length c1, .slice A2 B.length c2, .slice A3 U.length c3], .int .i64 u] wo fun e w' => e = .returned (.bool true) ∧ Below wo.heap.size wo w' := by
  obtain ⟨b, eF, fF⟩ := few_is C V B U
  have PF := Aside0.mk (fun W (hb : Below wo.heap.size wo W) => ladderbacklaw16_Few.calls 400 A0 c0 C A1 c1 V A2 c2 B A3 c3 U b W (Kd.C_below g0 hb) l0 (Kd.C_below g1 hb) l1 (Kd.C_below g2 hb) l2 (Kd.C_below g3 hb) l3 (eF 400 (by omega)))
  have PA := Aside0.mk (fun W (hb : Below wo.heap.size wo W) => ladderbacklaw17_awake.calls 399 true W awake_t)
  have HB0 := Aside0.mk (show Below wo.heap.size wo (wo.alloc (cellsP A0 c0 C A1 c1 V A2 c2 B A3 c3 U)) from (Below.refl _ _).alloc (Nat.le_refl _) _)
  have HP0 := Aside0.mk (alloc_get wo (cellsP A0 c0 C A1 c1 V A2 c2 B A3 c3 U))
  have m0_ := g0.2.1
  have m1_ := g1.2.1
  have m2_ := g2.2.1
  have m3_ := g3.2.1
  cases b with
  | false =>
    clear eF fF g0 g1 g2 g3
    go_enter Try.func4, Try.ntmps4
    go_wp2_with fail
    refine (PF.out _ HB0.out).mono ?_
    rintro e w1 ⟨rfl, hb⟩
    have HB1 := Aside0.mk (HB0.out.trans (hb.mono HB0.out.size))
    clear hb PF
    go_wp2_with fail
    refine (PA.out _ HB1.out).mono ?_
    rintro e w2 ⟨rfl, hb⟩
    have HB2 := Aside0.mk (HB1.out.trans (hb.mono HB1.out.size))
    clear hb PA
    go_wp2_with fail
    go_ret
    exact ⟨rfl, HB2.out⟩
  | true =>
  obtain ⟨hU, hn3, hn0, hn1, hn2⟩ := fF rfl
  have hsl := slF_len hU u
  have hsg : (sigsF U).length ≤ 10000 := by unfold sigsF; rw [List.length_map]; omega
  have PT : Aside0 (∀ W, Below wo.heap.size wo W → Calls Try.prog 8 #[.slice A1 V.length c1, .slice A2 B.length c2] W fun e w' => e = .returned (.int .i64 (tabE V B)) ∧ Below W.heap.size W w') := ⟨fun W hb => dtab_c A1 c1 V A2 c2 B W (Kd.C_below g1 hb) l1 (Kd.C_below g2 hb) l2 (by omega) (by omega)⟩
  have PRT := Aside0.mk (fun W (hb : Below wo.heap.size wo W) => (ladderbackref17_Tables.calls A1 c1 V A2 c2 B (tabE V B) W (Kd.C_below g1 hb) l1 (Kd.C_below g2 hb) l2 (congrArg some (tab_is V B))).mono (fun e w' h => (⟨h.1, D_below h.2⟩ : e = .returned (.int .i64 (tabE V B)) ∧ Below W.heap.size W w')))
  have PC := Aside0.mk (fun W (hb : Below wo.heap.size wo W) => decl_Check.calls A0 c0 C A1 c1 V A2 c2 B A3 c3 U (checkF C V B U) W (Kd.C_below g0 hb) l0 (Kd.C_below g1 hb) l1 (Kd.C_below g2 hb) l2 (Kd.C_below g3 hb) l3 (check_is C V B U (by omega) (by omega) (by omega) (by omega) hU))
  have PRC := Aside0.mk (fun W (hb : Below wo.heap.size wo W) => ladderbackref17_Check.calls 40000 A0 c0 C A1 c1 V A2 c2 B A3 c3 U (checkF C V B U) W (Kd.C_below g0 hb) l0 (Kd.C_below g1 hb) l1 (Kd.C_below g2 hb) l2 (Kd.C_below g3 hb) l3 (rcheck_is C V B U (by omega) (by omega) hU 40000 (by omega)))
  have PS := Aside0.mk (fun W (hb : Below wo.heap.size wo W) => scope_c A0 c0 C A1 c1 V A2 c2 B A3 c3 U u W (Kd.C_below g0 hb) l0 (Kd.C_below g1 hb) l1 (Kd.C_below g2 hb) l2 (Kd.C_below g3 hb) l3 (by omega) (by omega) (by omega) hU)
  have PRS := Aside0.mk (fun W (hb : Below wo.heap.size wo W) => rscope_c A0 c0 C A1 c1 V A2 c2 B A3 c3 U u W (Kd.C_below g0 hb) l0 (Kd.C_below g1 hb) l1 (Kd.C_below g2 hb) l2 (Kd.C_below g3 hb) l3 (by omega) hU)
  have PSS := Aside0.mk (fun (W : World) (hb : Below wo.heap.size wo W) (B0 : Option Addr) (d0 : Nat) (B1 : Option Addr) (d1 : Nat) (B2 : Option Addr) (d2 : Nat) (B3 : Option Addr) (d3 : Nat) (D0 : Option Addr) (f0 : Nat) (D1 : Option Addr) (f1 : Nat) (D2 : Option Addr) (f2 : Nat) (D3 : Option Addr) (f3 : Nat)
    (p0 : Kd.C k45 W B0 V.length V ∧ V.length ≤ d0) (p1 : Kd.C k47 W B1 B.length B ∧ B.length ≤ d1) (p2 : Kd.C k66 W B2 (sigsF U).length (sigsF U) ∧ (sigsF U).length ≤ d2) (p3 : Kd.C (Kd.int .i64) W B3 (slF U u).length (slF U u) ∧ (slF U u).length ≤ d3)
    (q0 : Kd.C k45 W D0 V.length V ∧ V.length ≤ f0) (q1 : Kd.C k47 W D1 B.length B ∧ B.length ≤ f1) (q2 : Kd.C k66 W D2 (sigsF U).length (sigsF U) ∧ (sigsF U).length ≤ f2) (q3 : Kd.C (Kd.int .i64) W D3 (slF U u).length (slF U u) ∧ (slF U u).length ≤ f3) =>
    ladderbackref17_SameScope.calls 40000 B0 d0 V B1 d1 B B2 d2 (sigsF U) B3 d3 (slF U u) D0 f0 V D1 f1 B D2 f2 (sigsF U) D3 f3 (slF U u) true W p0.1 p0.2 p1.1 p1.2 p2.1 p2.2 p3.1 p3.2 q0.1 q0.2 q1.1 q1.2 q2.1 q2.2 q3.1 q3.2
      (same_is V B (sigsF U) (slF U u) (by omega) (by omega) hsg (fun x hx => by unfold sigsF at hx; obtain ⟨X, hX, rfl⟩ := List.mem_map.1 hx; have := (hU X hX).1; show X.f1.length ≤ 10000; omega) hsl 40000 (by omega)))
  have G3 := Aside0.mk g3
  clear eF fF g0 g1 g2 g3 hsl hsg hn0 hn1 hn2
  generalize tabE V B = te at PT PRT
  generalize checkF C V B U = ce at PC PRC
  go_enter Try.func4, Try.ntmps4
  go_wp2_with fail
  refine (PF.out _ HB0.out).mono ?_
  rintro e W1 ⟨rfl, hb⟩
  have HB1 := Aside0.mk (HB0.out.trans (hb.mono HB0.out.size))
  have HP1 := Aside0.mk ((hb.block _ (blk_lt HP0.out)).trans HP0.out)
  clear hb PF HB0 HP0
  go_wp2_with fail
  refine Reg.region_any [some 11, some 12, some 13, some 14, some 15, some 16, some 17, some 18, some 19, some 20, some 21, some 22, some 23, some 24, some 25, some 26, some 27, some 28, some 29, some 30, some 31, some 32, some 33, some 34, some 35, some 36, some 37, some 38] [0, 1, 0, 4, 15, 0, 32, 0, 128, 511, 1023, 2047, 4095, 8191, 4095, 32767, 65535, 131071, 262143, 524287, 524287, 2097151, 524287, 524287, 16777215, 33554431, 67108863, 134217727] (true, [([], []), ([0], [0]), ([], []), ([2], [2]), ([1, 3], [1, 3]), ([], []), ([5], [5]), ([], []), ([7], [7]), ([6, 8, 4], [6, 8]), ([4, 9], [4, 9]), ([10, 9], [10]), ([11], [11]), ([12, 11, 11], [11, 12]), ([11], [11]), ([14, 13, 11], [11, 14]), ([13, 15, 11], [11, 13, 15]), ([11, 16], [11, 16]), ([17, 15], [17]), ([18], [18]), ([18], [18]), ([19, 20, 18, 18], [18, 19, 20]), ([18], [18]), ([18], [18]), ([22, 23, 21, 18], [18, 22, 23]), ([21, 24, 24, 18], [18, 21, 24]), ([25, 18], [18, 25]), ([18, 26], [18, 26])]) (fun i => ([(fun _ v_ => v_ = (.pointer (some ⟨wo.heap.size, 1, none⟩))), (fun _ v_ => v_ = (.slice A1 V.length c1)), (fun _ v_ => v_ = (.pointer (some ⟨wo.heap.size, 2, none⟩))), (fun _ v_ => v_ = (.slice A2 B.length c2)), (fun _ v_ => v_ = (.int .i64 (te))), (fun _ v_ => v_ = (.pointer (some ⟨wo.heap.size, 1, none⟩))), (fun _ v_ => v_ = (.slice A1 V.length c1)), (fun _ v_ => v_ = (.pointer (some ⟨wo.heap.size, 2, none⟩))), (fun _ v_ => v_ = (.slice A2 B.length c2)), (fun _ v_ => v_ = (.int .i64 (te))), (fun _ v_ => v_ = (.bool false)), (fun _ v_ => v_ = (.bool false)), (fun _ v_ => v_ = (.agg #[.slice A0 C.length c0, .slice A1 V.length c1, .slice A2 B.length c2, .slice A3 U.length c3])), (fun _ v_ => v_ = (.int .i64 (ce))), (fun _ v_ => v_ = (.agg #[.slice A0 C.length c0, .slice A1 V.length c1, .slice A2 B.length c2, .slice A3 U.length c3])), (fun _ v_ => v_ = (.int .i64 (ce))), (fun _ v_ => v_ = (.bool false)), (fun _ v_ => v_ = (.bool false)), (fun _ v_ => v_ = (.bool false)), (fun _ v_ => v_ = (.agg #[.slice A0 C.length c0, .slice A1 V.length c1, .slice A2 B.length c2, .slice A3 U.length c3])), (fun _ v_ => v_ = (.int .i64 (u))), (fun w_ v_ => ScV V B U u w_ v_), (fun _ v_ => v_ = (.agg #[.slice A0 C.length c0, .slice A1 V.length c1, .slice A2 B.length c2, .slice A3 U.length c3])), (fun _ v_ => v_ = (.int .i64 (u))), (fun w_ v_ => ScV V B U u w_ v_), (fun _ v_ => v_ = (.bool true)), (fun _ v_ => v_ = (.bool false)), (fun _ v_ => v_ = (.bool false))] : List (World → Value → Prop)).getD i (fun _ _ => False))
      (by kernel_rfl) (by kernel_rfl) (by kernel_rfl) (by kernel_rfl) (by kernel_rfl) (by decide) (by rfl) (Reg.mono_getD ?_) [0, 1, 2, 3, 4, 5, 6, 7, 8, 9, 10, 11, 12, 13, 14, 15, 16, 17, 18, 19, 20, 21, 22, 23, 24, 25, 26, 27] (by kernel_rfl) ?_ ?_
  · exact Reg.monoS_cons (Reg.monoS_eq _) (Reg.monoS_cons (Reg.monoS_eq _) (Reg.monoS_cons (Reg.monoS_eq _) (Reg.monoS_cons (Reg.monoS_eq _) (Reg.monoS_cons (Reg.monoS_eq _) (Reg.monoS_cons (Reg.monoS_eq _) (Reg.monoS_cons (Reg.monoS_eq _) (Reg.monoS_cons (Reg.monoS_eq _) (Reg.monoS_cons (Reg.monoS_eq _) (Reg.monoS_cons (Reg.monoS_eq _) (Reg.monoS_cons (Reg.monoS_eq _) (Reg.monoS_cons (Reg.monoS_eq _) (Reg.monoS_cons (Reg.monoS_eq _) (Reg.monoS_cons (Reg.monoS_eq _) (Reg.monoS_cons (Reg.monoS_eq _) (Reg.monoS_cons (Reg.monoS_eq _) (Reg.monoS_cons (Reg.monoS_eq _) (Reg.monoS_cons (Reg.monoS_eq _) (Reg.monoS_cons (Reg.monoS_eq _) (Reg.monoS_cons (Reg.monoS_eq _) (Reg.monoS_cons (Reg.monoS_eq _) (Reg.monoS_cons ((fun _ _ _ hb_ h_ => ScV_below hb_ h_)) (Reg.monoS_cons (Reg.monoS_eq _) (Reg.monoS_cons (Reg.monoS_eq _) (Reg.monoS_cons ((fun _ _ _ hb_ h_ => ScV_below hb_ h_)) (Reg.monoS_cons (Reg.monoS_eq _) (Reg.monoS_cons (Reg.monoS_eq _) (Reg.monoS_cons (Reg.monoS_eq _) Reg.monoS_nil)))))))))))))))))))))))))))
  · skip
    refine Reg.rs_cons ?_ ?_
    · intro a w hb hs hel hon
      have e2 : a.tmps[2]? = some (.pointer (some ⟨wo.heap.size, 0, none⟩)) := (hel 2 (by decide)).trans rfl
      obtain ⟨_, g2⟩ := Array.getElem?_eq_some_iff.1 e2
      refine ⟨_, rfl, fun K hK => ?_⟩
      refine value_ (w1 := w) (v := .pointer (some ⟨wo.heap.size, 1, none⟩)) (by rfl) rfl ?_ (hK.out _ _ (Below.refl _ _) (rfl))
      · go_simp
        (try simp only [i64_w, g2])
        (try go_simp)
        try rfl
    refine Reg.rs_cons ?_ ?_
    · intro a w hb hs hel hon
      obtain ⟨_, e11, rfl⟩ := hon 0 11 (by kernel_rfl) rfl
      obtain ⟨_, g11⟩ := Array.getElem?_eq_some_iff.1 e11
      refine ⟨_, rfl, fun K hK => ?_⟩
      obtain ⟨q0, q1, q2, q3⟩ := progCells ((hb.block _ (blk_lt HP1.out)).trans HP1.out)
      refine value_ (w1 := w) (v := .slice A1 V.length c1) (by rfl) rfl ?_ (hK.out _ _ (Below.refl _ _) (rfl))
      · go_simp
        (try simp only [i64_w, g11])
        (try go_simp)
        try rfl
    refine Reg.rs_cons ?_ ?_
    · intro a w hb hs hel hon
      have e2 : a.tmps[2]? = some (.pointer (some ⟨wo.heap.size, 0, none⟩)) := (hel 2 (by decide)).trans rfl
      obtain ⟨_, g2⟩ := Array.getElem?_eq_some_iff.1 e2
      refine ⟨_, rfl, fun K hK => ?_⟩
      refine value_ (w1 := w) (v := .pointer (some ⟨wo.heap.size, 2, none⟩)) (by rfl) rfl ?_ (hK.out _ _ (Below.refl _ _) (rfl))
      · go_simp
        (try simp only [i64_w, g2])
        (try go_simp)
        try rfl
    refine Reg.rs_cons ?_ ?_
    · intro a w hb hs hel hon
      obtain ⟨_, e13, rfl⟩ := hon 2 13 (by kernel_rfl) rfl
      obtain ⟨_, g13⟩ := Array.getElem?_eq_some_iff.1 e13
      refine ⟨_, rfl, fun K hK => ?_⟩
      obtain ⟨q0, q1, q2, q3⟩ := progCells ((hb.block _ (blk_lt HP1.out)).trans HP1.out)
      refine value_ (w1 := w) (v := .slice A2 B.length c2) (by rfl) rfl ?_ (hK.out _ _ (Below.refl _ _) (rfl))
      · go_simp
        (try simp only [i64_w, g13])
        (try go_simp)
        try rfl
    refine Reg.rs_cons ?_ ?_
    · intro a w hb hs hel hon
      obtain ⟨_, e12, rfl⟩ := hon 1 12 (by kernel_rfl) rfl
      obtain ⟨_, e14, rfl⟩ := hon 3 14 (by kernel_rfl) rfl
      refine ⟨_, rfl, fun K hK => ?_⟩
      refine goes_ Try.func8 (by kernel_rfl) rfl #[.slice A1 V.length c1, .slice A2 B.length c2] (by rfl) rfl rfl (by first | (simp only [List.map_toArray, List.map_cons, List.map_nil, Act.eval, Array.getD_eq_getD_getElem?, Option.getD_some, e12, e14]; done) | (simp only [List.map_toArray, List.map_cons, List.map_nil, Act.eval, Array.getD_eq_getD_getElem?, Option.getD_some, e12, e14]; rfl) | rfl) ?_
      refine (PT.out w (HB1.out.trans (hb.mono HB1.out.size))).mono ?_
      rintro e w2 ⟨rfl, hb2⟩
      exact ⟨_, rfl, hK.out _ _ hb2 rfl⟩
    refine Reg.rs_cons ?_ ?_
    · intro a w hb hs hel hon
      have e2 : a.tmps[2]? = some (.pointer (some ⟨wo.heap.size, 0, none⟩)) := (hel 2 (by decide)).trans rfl
      obtain ⟨_, g2⟩ := Array.getElem?_eq_some_iff.1 e2
      refine ⟨_, rfl, fun K hK => ?_⟩
      refine value_ (w1 := w) (v := .pointer (some ⟨wo.heap.size, 1, none⟩)) (by rfl) rfl ?_ (hK.out _ _ (Below.refl _ _) (rfl))
      · go_simp
        (try simp only [i64_w, g2])
        (try go_simp)
        try rfl
    refine Reg.rs_cons ?_ ?_
    · intro a w hb hs hel hon
      obtain ⟨_, e16, rfl⟩ := hon 5 16 (by kernel_rfl) rfl
      obtain ⟨_, g16⟩ := Array.getElem?_eq_some_iff.1 e16
      refine ⟨_, rfl, fun K hK => ?_⟩
      obtain ⟨q0, q1, q2, q3⟩ := progCells ((hb.block _ (blk_lt HP1.out)).trans HP1.out)
      refine value_ (w1 := w) (v := .slice A1 V.length c1) (by rfl) rfl ?_ (hK.out _ _ (Below.refl _ _) (rfl))
      · go_simp
        (try simp only [i64_w, g16])
        (try go_simp)
        try rfl
    refine Reg.rs_cons ?_ ?_
    · intro a w hb hs hel hon
      have e2 : a.tmps[2]? = some (.pointer (some ⟨wo.heap.size, 0, none⟩)) := (hel 2 (by decide)).trans rfl
      obtain ⟨_, g2⟩ := Array.getElem?_eq_some_iff.1 e2
      refine ⟨_, rfl, fun K hK => ?_⟩
      refine value_ (w1 := w) (v := .pointer (some ⟨wo.heap.size, 2, none⟩)) (by rfl) rfl ?_ (hK.out _ _ (Below.refl _ _) (rfl))
      · go_simp
        (try simp only [i64_w, g2])
        (try go_simp)
        try rfl
    refine Reg.rs_cons ?_ ?_
    · intro a w hb hs hel hon
      obtain ⟨_, e18, rfl⟩ := hon 7 18 (by kernel_rfl) rfl
      obtain ⟨_, g18⟩ := Array.getElem?_eq_some_iff.1 e18
      refine ⟨_, rfl, fun K hK => ?_⟩
      obtain ⟨q0, q1, q2, q3⟩ := progCells ((hb.block _ (blk_lt HP1.out)).trans HP1.out)
      refine value_ (w1 := w) (v := .slice A2 B.length c2) (by rfl) rfl ?_ (hK.out _ _ (Below.refl _ _) (rfl))
      · go_simp
        (try simp only [i64_w, g18])
        (try go_simp)
        try rfl
    refine Reg.rs_cons ?_ ?_
    · intro a w hb hs hel hon
      obtain ⟨_, e17, rfl⟩ := hon 6 17 (by kernel_rfl) rfl
      obtain ⟨_, e19, rfl⟩ := hon 8 19 (by kernel_rfl) rfl
      refine ⟨_, rfl, fun K hK => ?_⟩
      refine goes_ Try.func9 (by kernel_rfl) rfl #[.slice A1 V.length c1, .slice A2 B.length c2] (by rfl) rfl rfl (by first | (simp only [List.map_toArray, List.map_cons, List.map_nil, Act.eval, Array.getD_eq_getD_getElem?, Option.getD_some, e17, e19]; done) | (simp only [List.map_toArray, List.map_cons, List.map_nil, Act.eval, Array.getD_eq_getD_getElem?, Option.getD_some, e17, e19]; rfl) | rfl) ?_
      refine (PRT.out w (HB1.out.trans (hb.mono HB1.out.size))).mono ?_
      rintro e w2 ⟨rfl, hb2⟩
      exact ⟨_, rfl, hK.out _ _ hb2 rfl⟩
    refine Reg.rs_cons ?_ ?_
    · intro a w hb hs hel hon
      obtain ⟨_, e15, rfl⟩ := hon 4 15 (by kernel_rfl) rfl
      obtain ⟨_, e20, rfl⟩ := hon 9 20 (by kernel_rfl) rfl
      obtain ⟨_, g15⟩ := Array.getElem?_eq_some_iff.1 e15
      obtain ⟨_, g20⟩ := Array.getElem?_eq_some_iff.1 e20
      refine ⟨_, rfl, fun K hK => ?_⟩
      refine value_ (w1 := w) (v := .bool false) (by rfl) rfl ?_ (hK.out _ _ (Below.refl _ _) (rfl))
      · go_simp
        (try simp only [i64_w, g15, g20])
        (try go_simp)
        try rfl
    refine Reg.rs_cons ?_ ?_
    · intro a w hb hs hel hon
      obtain ⟨_, e21, rfl⟩ := hon 10 21 (by kernel_rfl) rfl
      obtain ⟨_, g21⟩ := Array.getElem?_eq_some_iff.1 e21
      refine ⟨_, rfl, fun K hK => ?_⟩
      refine value_ (w1 := w) (v := .bool false) (by rfl) rfl ?_ (hK.out _ _ (Below.refl _ _) (rfl))
      · go_simp
        (try simp only [i64_w, g21])
        (try go_simp)
        try rfl
    refine Reg.rs_cons ?_ ?_
    · intro a w hb hs hel hon
      have e2 : a.tmps[2]? = some (.pointer (some ⟨wo.heap.size, 0, none⟩)) := (hel 2 (by decide)).trans rfl
      obtain ⟨_, e22, rfl⟩ := hon 11 22 (by kernel_rfl) rfl
      obtain ⟨_, g2⟩ := Array.getElem?_eq_some_iff.1 e2
      obtain ⟨_, g22⟩ := Array.getElem?_eq_some_iff.1 e22
      refine ⟨_, rfl, fun K hK => ?_⟩
      obtain ⟨q0, q1, q2, q3⟩ := progCells ((hb.block _ (blk_lt HP1.out)).trans HP1.out)
      refine value_ (w1 := w) (v := .agg #[.slice A0 C.length c0, .slice A1 V.length c1, .slice A2 B.length c2, .slice A3 U.length c3]) (wanted_on rfl rfl rfl e22) rfl ?_ (hK.out _ _ (Below.refl _ _) (rfl))
      · go_simp
        (try simp only [i64_w, g2, g22])
        (try go_simp)
        try rfl
    refine Reg.rs_cons ?_ ?_
    · intro a w hb hs hel hon
      obtain ⟨_, e23, rfl⟩ := hon 12 23 (by kernel_rfl) rfl
      obtain ⟨_, e22, rfl⟩ := hon 11 22 (by kernel_rfl) rfl
      refine ⟨_, rfl, fun K hK => ?_⟩
      refine goes_ Try.func6 (by kernel_rfl) rfl #[.agg #[.slice A0 C.length c0, .slice A1 V.length c1, .slice A2 B.length c2, .slice A3 U.length c3]] (wanted_on rfl rfl rfl e22) rfl rfl (by first | (simp only [List.map_toArray, List.map_cons, List.map_nil, Act.eval, Array.getD_eq_getD_getElem?, Option.getD_some, e23, e22]; done) | (simp only [List.map_toArray, List.map_cons, List.map_nil, Act.eval, Array.getD_eq_getD_getElem?, Option.getD_some, e23, e22]; rfl) | rfl) ?_
      refine (PC.out w (HB1.out.trans (hb.mono HB1.out.size))).mono ?_
      rintro e w2 ⟨rfl, hb2⟩
      exact ⟨_, rfl, hK.out _ _ hb2 rfl⟩
    refine Reg.rs_cons ?_ ?_
    · intro a w hb hs hel hon
      have e2 : a.tmps[2]? = some (.pointer (some ⟨wo.heap.size, 0, none⟩)) := (hel 2 (by decide)).trans rfl
      obtain ⟨_, e22, rfl⟩ := hon 11 22 (by kernel_rfl) rfl
      obtain ⟨_, g2⟩ := Array.getElem?_eq_some_iff.1 e2
      obtain ⟨_, g22⟩ := Array.getElem?_eq_some_iff.1 e22
      refine ⟨_, rfl, fun K hK => ?_⟩
      obtain ⟨q0, q1, q2, q3⟩ := progCells ((hb.block _ (blk_lt HP1.out)).trans HP1.out)
      refine value_ (w1 := w) (v := .agg #[.slice A0 C.length c0, .slice A1 V.length c1, .slice A2 B.length c2, .slice A3 U.length c3]) (wanted_on rfl rfl rfl e22) rfl ?_ (hK.out _ _ (Below.refl _ _) (rfl))
      · go_simp
        (try simp only [i64_w, g2, g22])
        (try go_simp)
        try rfl
    refine Reg.rs_cons ?_ ?_
    · intro a w hb hs hel hon
      obtain ⟨_, e25, rfl⟩ := hon 14 25 (by kernel_rfl) rfl
      obtain ⟨_, e22, rfl⟩ := hon 11 22 (by kernel_rfl) rfl
      refine ⟨_, rfl, fun K hK => ?_⟩
      refine goes_ Try.func10 (by kernel_rfl) rfl #[.agg #[.slice A0 C.length c0, .slice A1 V.length c1, .slice A2 B.length c2, .slice A3 U.length c3]] (wanted_on rfl rfl rfl e22) rfl rfl (by first | (simp only [List.map_toArray, List.map_cons, List.map_nil, Act.eval, Array.getD_eq_getD_getElem?, Option.getD_some, e25, e22]; done) | (simp only [List.map_toArray, List.map_cons, List.map_nil, Act.eval, Array.getD_eq_getD_getElem?, Option.getD_some, e25, e22]; rfl) | rfl) ?_
      refine (PRC.out w (HB1.out.trans (hb.mono HB1.out.size))).mono ?_
      rintro e w2 ⟨rfl, hb2⟩
      exact ⟨_, rfl, hK.out _ _ hb2 rfl⟩
    refine Reg.rs_cons ?_ ?_
    · intro a w hb hs hel hon
      obtain ⟨_, e24, rfl⟩ := hon 13 24 (by kernel_rfl) rfl
      obtain ⟨_, e26, rfl⟩ := hon 15 26 (by kernel_rfl) rfl
      obtain ⟨_, e22, rfl⟩ := hon 11 22 (by kernel_rfl) rfl
      obtain ⟨_, g24⟩ := Array.getElem?_eq_some_iff.1 e24
      obtain ⟨_, g26⟩ := Array.getElem?_eq_some_iff.1 e26
      obtain ⟨_, g22⟩ := Array.getElem?_eq_some_iff.1 e22
      refine ⟨_, rfl, fun K hK => ?_⟩
      refine value_ (w1 := w) (v := .bool false) (wanted_on rfl rfl rfl e22) rfl ?_ (hK.out _ _ (Below.refl _ _) (rfl))
      · go_simp
        (try simp only [i64_w, g24, g26, g22])
        (try go_simp)
        try rfl
    refine Reg.rs_cons ?_ ?_
    · intro a w hb hs hel hon
      obtain ⟨_, e22, rfl⟩ := hon 11 22 (by kernel_rfl) rfl
      obtain ⟨_, e27, rfl⟩ := hon 16 27 (by kernel_rfl) rfl
      obtain ⟨_, g22⟩ := Array.getElem?_eq_some_iff.1 e22
      obtain ⟨_, g27⟩ := Array.getElem?_eq_some_iff.1 e27
      refine ⟨_, rfl, fun K hK => ?_⟩
      refine value_ (w1 := w) (v := .bool false) (by rfl) rfl ?_ (hK.out _ _ (Below.refl _ _) (rfl))
      · go_simp
        (try simp only [i64_w, g22, g27])
        (try go_simp)
        try rfl
    refine Reg.rs_cons ?_ ?_
    · intro a w hb hs hel hon
      obtain ⟨_, e28, rfl⟩ := hon 17 28 (by kernel_rfl) rfl
      obtain ⟨_, g28⟩ := Array.getElem?_eq_some_iff.1 e28
      refine ⟨_, rfl, fun K hK => ?_⟩
      refine value_ (w1 := w) (v := .bool false) (by rfl) rfl ?_ (hK.out _ _ (Below.refl _ _) (rfl))
      · go_simp
        (try simp only [i64_w, g28])
        (try go_simp)
        try rfl
    refine Reg.rs_cons ?_ ?_
    · intro a w hb hs hel hon
      have e2 : a.tmps[2]? = some (.pointer (some ⟨wo.heap.size, 0, none⟩)) := (hel 2 (by decide)).trans rfl
      obtain ⟨_, e29, rfl⟩ := hon 18 29 (by kernel_rfl) rfl
      obtain ⟨_, g2⟩ := Array.getElem?_eq_some_iff.1 e2
      obtain ⟨_, g29⟩ := Array.getElem?_eq_some_iff.1 e29
      refine ⟨_, rfl, fun K hK => ?_⟩
      obtain ⟨q0, q1, q2, q3⟩ := progCells ((hb.block _ (blk_lt HP1.out)).trans HP1.out)
      refine value_ (w1 := w) (v := .agg #[.slice A0 C.length c0, .slice A1 V.length c1, .slice A2 B.length c2, .slice A3 U.length c3]) (wanted_on rfl rfl rfl e29) rfl ?_ (hK.out _ _ (Below.refl _ _) (rfl))
      · go_simp
        (try simp only [i64_w, g2, g29])
        (try go_simp)
        try rfl
    refine Reg.rs_cons ?_ ?_
    · intro a w hb hs hel hon
      have e1 : a.tmps[1]? = some (.int .i64 (u)) := (hel 1 (by decide)).trans rfl
      obtain ⟨_, e29, rfl⟩ := hon 18 29 (by kernel_rfl) rfl
      obtain ⟨_, g1⟩ := Array.getElem?_eq_some_iff.1 e1
      obtain ⟨_, g29⟩ := Array.getElem?_eq_some_iff.1 e29
      refine ⟨_, rfl, fun K hK => ?_⟩
      refine value_ (w1 := w) (v := .int .i64 (u)) (wanted_on rfl rfl rfl e29) rfl ?_ (hK.out _ _ (Below.refl _ _) (rfl))
      · go_simp
        (try simp only [i64_w, g1, g29])
        (try go_simp)
        try rfl
    refine Reg.rs_cons ?_ ?_
    · intro a w hb hs hel hon
      obtain ⟨_, e30, rfl⟩ := hon 19 30 (by kernel_rfl) rfl
      obtain ⟨_, e31, rfl⟩ := hon 20 31 (by kernel_rfl) rfl
      obtain ⟨_, e29, rfl⟩ := hon 18 29 (by kernel_rfl) rfl
      refine ⟨_, rfl, fun K hK => ?_⟩
      refine goes_ Try.func12 (by kernel_rfl) rfl #[.agg #[.slice A0 C.length c0, .slice A1 V.length c1, .slice A2 B.length c2, .slice A3 U.length c3], .int .i64 (u)] (wanted_on rfl rfl rfl e29) rfl rfl (by first | (simp only [List.map_toArray, List.map_cons, List.map_nil, Act.eval, Array.getD_eq_getD_getElem?, Option.getD_some, e30, e31, e29]; done) | (simp only [List.map_toArray, List.map_cons, List.map_nil, Act.eval, Array.getD_eq_getD_getElem?, Option.getD_some, e30, e31, e29]; rfl) | rfl) ?_
      refine (PS.out w (HB1.out.trans (hb.mono HB1.out.size))).mono ?_
      rintro e w2 ⟨B0_, d0_, B1_, d1_, B2_, d2_, B3_, d3_, rfl, r0_, r1_, r2_, r3_, hb2⟩
      exact ⟨_, rfl, hK.out _ _ hb2 ⟨_, _, _, _, _, _, _, _, rfl, r0_, r1_, r2_, r3_⟩⟩
    refine Reg.rs_cons ?_ ?_
    · intro a w hb hs hel hon
      have e2 : a.tmps[2]? = some (.pointer (some ⟨wo.heap.size, 0, none⟩)) := (hel 2 (by decide)).trans rfl
      obtain ⟨_, e29, rfl⟩ := hon 18 29 (by kernel_rfl) rfl
      obtain ⟨_, g2⟩ := Array.getElem?_eq_some_iff.1 e2
      obtain ⟨_, g29⟩ := Array.getElem?_eq_some_iff.1 e29
      refine ⟨_, rfl, fun K hK => ?_⟩
      obtain ⟨q0, q1, q2, q3⟩ := progCells ((hb.block _ (blk_lt HP1.out)).trans HP1.out)
      refine value_ (w1 := w) (v := .agg #[.slice A0 C.length c0, .slice A1 V.length c1, .slice A2 B.length c2, .slice A3 U.length c3]) (wanted_on rfl rfl rfl e29) rfl ?_ (hK.out _ _ (Below.refl _ _) (rfl))
      · go_simp
        (try simp only [i64_w, g2, g29])
        (try go_simp)
        try rfl
    refine Reg.rs_cons ?_ ?_
    · intro a w hb hs hel hon
      have e1 : a.tmps[1]? = some (.int .i64 (u)) := (hel 1 (by decide)).trans rfl
      obtain ⟨_, e29, rfl⟩ := hon 18 29 (by kernel_rfl) rfl
      obtain ⟨_, g1⟩ := Array.getElem?_eq_some_iff.1 e1
      obtain ⟨_, g29⟩ := Array.getElem?_eq_some_iff.1 e29
      refine ⟨_, rfl, fun K hK => ?_⟩
      refine value_ (w1 := w) (v := .int .i64 (u)) (wanted_on rfl rfl rfl e29) rfl ?_ (hK.out _ _ (Below.refl _ _) (rfl))
      · go_simp
        (try simp only [i64_w, g1, g29])
        (try go_simp)
        try rfl
    refine Reg.rs_cons ?_ ?_
    · intro a w hb hs hel hon
      obtain ⟨_, e33, rfl⟩ := hon 22 33 (by kernel_rfl) rfl
      obtain ⟨_, e34, rfl⟩ := hon 23 34 (by kernel_rfl) rfl
      obtain ⟨_, e29, rfl⟩ := hon 18 29 (by kernel_rfl) rfl
      refine ⟨_, rfl, fun K hK => ?_⟩
      refine goes_ Try.func13 (by kernel_rfl) rfl #[.agg #[.slice A0 C.length c0, .slice A1 V.length c1, .slice A2 B.length c2, .slice A3 U.length c3], .int .i64 (u)] (wanted_on rfl rfl rfl e29) rfl rfl (by first | (simp only [List.map_toArray, List.map_cons, List.map_nil, Act.eval, Array.getD_eq_getD_getElem?, Option.getD_some, e33, e34, e29]; done) | (simp only [List.map_toArray, List.map_cons, List.map_nil, Act.eval, Array.getD_eq_getD_getElem?, Option.getD_some, e33, e34, e29]; rfl) | rfl) ?_
      refine (PRS.out w (HB1.out.trans (hb.mono HB1.out.size))).mono ?_
      rintro e w2 ⟨B0_, d0_, B1_, d1_, B2_, d2_, B3_, d3_, rfl, r0_, r1_, r2_, r3_, hb2⟩
      exact ⟨_, rfl, hK.out _ _ hb2 ⟨_, _, _, _, _, _, _, _, rfl, r0_, r1_, r2_, r3_⟩⟩
    refine Reg.rs_cons ?_ ?_
    · intro a w hb hs hel hon
      obtain ⟨x32, e32, B0_21, d0_21, B1_21, d1_21, B2_21, d2_21, B3_21, d3_21, rfl, r0_21, r1_21, r2_21, r3_21⟩ := hon 21 32 (by kernel_rfl) rfl
      obtain ⟨x35, e35, B0_24, d0_24, B1_24, d1_24, B2_24, d2_24, B3_24, d3_24, rfl, r0_24, r1_24, r2_24, r3_24⟩ := hon 24 35 (by kernel_rfl) rfl
      obtain ⟨_, e29, rfl⟩ := hon 18 29 (by kernel_rfl) rfl
      refine ⟨_, rfl, fun K hK => ?_⟩
      refine goes_ Try.func11 (by kernel_rfl) rfl #[.agg #[.slice B0_21 V.length d0_21, .slice B1_21 B.length d1_21, .slice B2_21 (sigsF U).length d2_21, .slice B3_21 (slF U u).length d3_21], .agg #[.slice B0_24 V.length d0_24, .slice B1_24 B.length d1_24, .slice B2_24 (sigsF U).length d2_24, .slice B3_24 (slF U u).length d3_24]] (wanted_on rfl rfl rfl e29) rfl rfl (by first | (simp only [List.map_toArray, List.map_cons, List.map_nil, Act.eval, Array.getD_eq_getD_getElem?, Option.getD_some, e32, e35, e29]; done) | (simp only [List.map_toArray, List.map_cons, List.map_nil, Act.eval, Array.getD_eq_getD_getElem?, Option.getD_some, e32, e35, e29]; rfl) | rfl) ?_
      refine (PSS.out w (HB1.out.trans (hb.mono HB1.out.size)) _ _ _ _ _ _ _ _ _ _ _ _ _ _ _ _ r0_21 r1_21 r2_21 r3_21 r0_24 r1_24 r2_24 r3_24).mono ?_
      rintro e w2 ⟨rfl, hb2⟩
      exact ⟨_, rfl, hK.out _ _ hb2 rfl⟩
    refine Reg.rs_cons ?_ ?_
    · intro a w hb hs hel hon
      obtain ⟨_, e36, rfl⟩ := hon 25 36 (by kernel_rfl) rfl
      obtain ⟨_, e29, rfl⟩ := hon 18 29 (by kernel_rfl) rfl
      obtain ⟨_, g36⟩ := Array.getElem?_eq_some_iff.1 e36
      obtain ⟨_, g29⟩ := Array.getElem?_eq_some_iff.1 e29
      refine ⟨_, rfl, fun K hK => ?_⟩
      refine value_ (w1 := w) (v := .bool false) (wanted_on rfl rfl rfl e29) rfl ?_ (hK.out _ _ (Below.refl _ _) (rfl))
      · go_simp
        (try simp only [i64_w, g36, g29])
        (try go_simp)
        try rfl
    refine Reg.rs_cons ?_ ?_
    · intro a w hb hs hel hon
      obtain ⟨_, e29, rfl⟩ := hon 18 29 (by kernel_rfl) rfl
      obtain ⟨_, e37, rfl⟩ := hon 26 37 (by kernel_rfl) rfl
      obtain ⟨_, g29⟩ := Array.getElem?_eq_some_iff.1 e29
      obtain ⟨_, g37⟩ := Array.getElem?_eq_some_iff.1 e37
      refine ⟨_, rfl, fun K hK => ?_⟩
      refine value_ (w1 := w) (v := .bool false) (by rfl) rfl ?_ (hK.out _ _ (Below.refl _ _) (rfl))
      · go_simp
        (try simp only [i64_w, g29, g37])
        (try go_simp)
        try rfl
    exact Reg.rs_nil
  · intro a w hI
    rename_i K_ hK_
    refine hK_ a w ?_
    obtain ⟨_, e38, rfl⟩ := hI.vals 27 38 rfl rfl
    have g38 := Reg.getD_of e38
    have hfr := hI.frame
    have HW2 := Aside0.mk (HB1.out.trans (hI.below.mono HB1.out.size))
    have HP2 := Aside0.mk ((hI.below.block _ (blk_lt HP1.out)).trans HP1.out)
    rw [hfr]
    simp only [Reg.puts, Act.put, List.setIfInBounds_toArray, List.set_cons_zero, List.set_cons_succ]
    rw [g38]
    generalize a.tmps = ts_
    clear hI hfr hK_ e38 g38
    go_wp2_with fail
    go_loopw [5] (fun x_ wr => ∃ ix : Nat, ix ≤ U.length ∧ x_ = .int .i64 (ix : Int) ∧ Aside0 (Below wo.heap.size wo wr) ∧ Aside0 (wr.heap[wo.heap.size]? = some (cellsP A0 c0 C A1 c1 V A2 c2 B A3 c3 U))) (fun x_ _ => U.length - (intOf x_).toNat)
    case atStart => exact ⟨0, Nat.zero_le _, rfl, HW2, HP2⟩
    case round =>
      obtain ⟨ix, hi, rfl, HBr, HPr⟩ := hrel
      obtain ⟨q0, q1, q2, q3⟩ := progCells HPr.out
      by_cases hil : ix < U.length
      rotate_left
      · clear hi
        go_wp2_with fail
        refine (PA.out _ HBr.out).mono ?_
        rintro e w9 ⟨rfl, hb9⟩
        have HB9 := Aside0.mk (HBr.out.trans (hb9.mono HBr.out.size))
        clear hb9
        go_wp2_with fail
        go_ret
        exact ⟨rfl, HB9.out⟩
      have hm : rd_T41 U (ix : Int) ∈ U := by unfold rd_T41; rw [Int.toNat_natCast, List.getD_eq_getElem?_getD, List.getElem?_eq_getElem hil]; exact List.getElem_mem _
      obtain ⟨o1, o2, o3⟩ := hU _ hm
      clear hm
      obtain ⟨ad, A5, c5, A6, c6, A7, c7, rfl, x0, x1, x2, x3, x4, l5, h5, l6, h6, l7, h7⟩ := at_T41 G3.out (ix : Int) (by omega) (by omega)
      rw [Int.toNat_natCast] at x0 x1 x2 x3 x4
      generalize rd_T41 U (ix : Int) = X at *
      have H5 := Aside0.mk h5
      have H6 := Aside0.mk h6
      have H7 := Aside0.mk h7
      clear h5 h6 h7
      replace x0 := (HBr.out.cell (World.block_lt_of_cell? wo _ x0)).trans x0
      replace x1 := (HBr.out.cell (World.block_lt_of_cell? wo _ x1)).trans x1
      replace x2 := (HBr.out.cell (World.block_lt_of_cell? wo _ x2)).trans x2
      replace x3 := (HBr.out.cell (World.block_lt_of_cell? wo _ x3)).trans x3
      replace x4 := (HBr.out.cell (World.block_lt_of_cell? wo _ x4)).trans x4
      have j1_ : (ix : Int) < (U.length : Int) := by omega
      have J1 := eq_true j1_
      go_wp2_with fail
      obtain ⟨W2, hW2⟩ : ∃ W2, W2 = wr.alloc (.cells #[.string X.f0, .slice A5 X.f1.length c5, .int .i64 X.f2, .slice A6 X.f3.length c6, .slice A7 X.f4.length c7] 41) := ⟨_, rfl⟩
      have HK := Aside0.mk (show W2.heap[wr.heap.size]? = some (.cells #[.string X.f0, .slice A5 X.f1.length c5, .int .i64 X.f2, .slice A6 X.f3.length c6, .slice A7 X.f4.length c7] 41 (0, 0)) by rw [hW2]; exact alloc_get _ _)
      have hb2 : Below wr.heap.size wr W2 := by rw [hW2]; exact (Below.refl _ _).alloc (Nat.le_refl _) _
      have HB2 := Aside0.mk (HBr.out.trans (hb2.mono HBr.out.size))
      have HP2 := Aside0.mk ((hb2.block _ (blk_lt HPr.out)).trans HPr.out)
      rw [← hW2]
      clear hW2 hb2 q0 q1 q2 q3 x0 x1 x2 x3 x4
      have PH := Aside0.mk (fun W (hb : Below wo.heap.size wo W) => head_c A5 c5 X.f1 X.f2 A6 c6 X.f3 ((ix : Int) == u) W (Kd.C_below H5.out hb) l5 (Kd.C_below H6.out hb) l6 (by omega) (by omega))
      have PRH := Aside0.mk (fun W (hb : Below wo.heap.size wo W) => ladderbackref17_Head.calls 21000 A5 c5 X.f1 X.f2 A6 c6 X.f3 ((ix : Int) == u) (headF X.f1 X.f2 X.f3 ((ix : Int) == u)) W (Kd.C_below H5.out hb) l5 (Kd.C_below H6.out hb) l6 (rhead_is _ _ _ _ (by omega) (by omega) 21000 (by omega)))
      generalize headF X.f1 X.f2 X.f3 ((ix : Int) == u) = hf at PH PRH
      refine Reg.region_any [some 51, some 52, some 53, some 54, some 55, some 56, some 57, some 58, some 59, some 60, some 61, some 62, some 63, some 64, some 65, some 66, some 67, some 68, some 69, some 70, some 71] [0, 1, 0, 4, 0, 16, 0, 0, 192, 511, 0, 1024, 0, 4096, 0, 16384, 0, 0, 196608, 524287, 1048575] (true, [([], []), ([0], [0]), ([], []), ([2], [2]), ([], []), ([4], [4]), ([], []), ([], []), ([6, 7], [6, 7]), ([1, 3, 5, 8], [1, 3, 5, 8]), ([], []), ([10], [10]), ([], []), ([12], [12]), ([], []), ([14], [14]), ([], []), ([], []), ([16, 17], [16, 17]), ([11, 13, 15, 18, 9], [11, 13, 15, 18]), ([9, 19], [9, 19])]) (fun i => ([(fun _ v_ => v_ = (.pointer (some ⟨wr.heap.size, 1, none⟩))), (fun _ v_ => v_ = (.slice A5 X.f1.length c5)), (fun _ v_ => v_ = (.pointer (some ⟨wr.heap.size, 2, none⟩))), (fun _ v_ => v_ = (.int .i64 (X.f2))), (fun _ v_ => v_ = (.pointer (some ⟨wr.heap.size, 3, none⟩))), (fun _ v_ => v_ = (.slice A6 X.f3.length c6)), (fun _ v_ => v_ = (.int .i64 ((ix : Int)))), (fun _ v_ => v_ = (.int .i64 (u))), (fun _ v_ => v_ = (.bool ((ix : Int) == u))), (fun _ v_ => v_ = (.int .i64 (hf))), (fun _ v_ => v_ = (.pointer (some ⟨wr.heap.size, 1, none⟩))), (fun _ v_ => v_ = (.slice A5 X.f1.length c5)), (fun _ v_ => v_ = (.pointer (some ⟨wr.heap.size, 2, none⟩))), (fun _ v_ => v_ = (.int .i64 (X.f2))), (fun _ v_ => v_ = (.pointer (some ⟨wr.heap.size, 3, none⟩))), (fun _ v_ => v_ = (.slice A6 X.f3.length c6)), (fun _ v_ => v_ = (.int .i64 ((ix : Int)))), (fun _ v_ => v_ = (.int .i64 (u))), (fun _ v_ => v_ = (.bool ((ix : Int) == u))), (fun _ v_ => v_ = (.int .i64 (hf))), (fun _ v_ => v_ = (.bool false))] : List (World → Value → Prop)).getD i (fun _ _ => False))
          (by kernel_rfl) (by kernel_rfl) (by kernel_rfl) (by kernel_rfl) (by kernel_rfl) (by decide) (by rfl) (Reg.mono_getD ?_) [0, 1, 2, 3, 4, 5, 6, 7, 8, 9, 10, 11, 12, 13, 14, 15, 16, 17, 18, 19, 20] (by kernel_rfl) ?_ ?_
      · exact Reg.monoS_cons (Reg.monoS_eq _) (Reg.monoS_cons (Reg.monoS_eq _) (Reg.monoS_cons (Reg.monoS_eq _) (Reg.monoS_cons (Reg.monoS_eq _) (Reg.monoS_cons (Reg.monoS_eq _) (Reg.monoS_cons (Reg.monoS_eq _) (Reg.monoS_cons (Reg.monoS_eq _) (Reg.monoS_cons (Reg.monoS_eq _) (Reg.monoS_cons (Reg.monoS_eq _) (Reg.monoS_cons (Reg.monoS_eq _) (Reg.monoS_cons (Reg.monoS_eq _) (Reg.monoS_cons (Reg.monoS_eq _) (Reg.monoS_cons (Reg.monoS_eq _) (Reg.monoS_cons (Reg.monoS_eq _) (Reg.monoS_cons (Reg.monoS_eq _) (Reg.monoS_cons (Reg.monoS_eq _) (Reg.monoS_cons (Reg.monoS_eq _) (Reg.monoS_cons (Reg.monoS_eq _) (Reg.monoS_cons (Reg.monoS_eq _) (Reg.monoS_cons (Reg.monoS_eq _) (Reg.monoS_cons (Reg.monoS_eq _) Reg.monoS_nil))))))))))))))))))))
      · skip
        refine Reg.rs_cons ?_ ?_
        · intro a w hb hs hel hon
          have e6 : a.tmps[6]? = some (.pointer (some ⟨wr.heap.size, 0, none⟩)) := (hel 6 (by decide)).trans rfl
          obtain ⟨_, g6⟩ := Array.getElem?_eq_some_iff.1 e6
          refine ⟨_, rfl, fun K hK => ?_⟩
          refine value_ (w1 := w) (v := .pointer (some ⟨wr.heap.size, 1, none⟩)) (by rfl) rfl ?_ (hK.out _ _ (Below.refl _ _) (rfl))
          · go_simp
            (try simp only [i64_w, g6])
            (try go_simp)
            try rfl
        refine Reg.rs_cons ?_ ?_
        · intro a w hb hs hel hon
          obtain ⟨_, e51, rfl⟩ := hon 0 51 (by kernel_rfl) rfl
          obtain ⟨_, g51⟩ := Array.getElem?_eq_some_iff.1 e51
          refine ⟨_, rfl, fun K hK => ?_⟩
          obtain ⟨y1, y2, y3⟩ : w.cell? ⟨wr.heap.size, 1, none⟩ = some (.slice A5 X.f1.length c5) ∧ w.cell? ⟨wr.heap.size, 2, none⟩ = some (.int .i64 X.f2) ∧ w.cell? ⟨wr.heap.size, 3, none⟩ = some (.slice A6 X.f3.length c6) := ⟨(blk_cell ((hb.block _ (blk_lt HK.out)).trans HK.out) 1).trans rfl, (blk_cell ((hb.block _ (blk_lt HK.out)).trans HK.out) 2).trans rfl, (blk_cell ((hb.block _ (blk_lt HK.out)).trans HK.out) 3).trans rfl⟩
          refine value_ (w1 := w) (v := .slice A5 X.f1.length c5) (by rfl) rfl ?_ (hK.out _ _ (Below.refl _ _) (rfl))
          · go_simp
            (try simp only [i64_w, g51])
            (try go_simp)
            try rfl
        refine Reg.rs_cons ?_ ?_
        · intro a w hb hs hel hon
          have e6 : a.tmps[6]? = some (.pointer (some ⟨wr.heap.size, 0, none⟩)) := (hel 6 (by decide)).trans rfl
          obtain ⟨_, g6⟩ := Array.getElem?_eq_some_iff.1 e6
          refine ⟨_, rfl, fun K hK => ?_⟩
          refine value_ (w1 := w) (v := .pointer (some ⟨wr.heap.size, 2, none⟩)) (by rfl) rfl ?_ (hK.out _ _ (Below.refl _ _) (rfl))
          · go_simp
            (try simp only [i64_w, g6])
            (try go_simp)
            try rfl
        refine Reg.rs_cons ?_ ?_
        · intro a w hb hs hel hon
          obtain ⟨_, e53, rfl⟩ := hon 2 53 (by kernel_rfl) rfl
          obtain ⟨_, g53⟩ := Array.getElem?_eq_some_iff.1 e53
          refine ⟨_, rfl, fun K hK => ?_⟩
          obtain ⟨y1, y2, y3⟩ : w.cell? ⟨wr.heap.size, 1, none⟩ = some (.slice A5 X.f1.length c5) ∧ w.cell? ⟨wr.heap.size, 2, none⟩ = some (.int .i64 X.f2) ∧ w.cell? ⟨wr.heap.size, 3, none⟩ = some (.slice A6 X.f3.length c6) := ⟨(blk_cell ((hb.block _ (blk_lt HK.out)).trans HK.out) 1).trans rfl, (blk_cell ((hb.block _ (blk_lt HK.out)).trans HK.out) 2).trans rfl, (blk_cell ((hb.block _ (blk_lt HK.out)).trans HK.out) 3).trans rfl⟩
          refine value_ (w1 := w) (v := .int .i64 (X.f2)) (by rfl) rfl ?_ (hK.out _ _ (Below.refl _ _) (rfl))
          · go_simp
            (try simp only [i64_w, g53])
            (try go_simp)
            try rfl
        refine Reg.rs_cons ?_ ?_
        · intro a w hb hs hel hon
          have e6 : a.tmps[6]? = some (.pointer (some ⟨wr.heap.size, 0, none⟩)) := (hel 6 (by decide)).trans rfl
          obtain ⟨_, g6⟩ := Array.getElem?_eq_some_iff.1 e6
          refine ⟨_, rfl, fun K hK => ?_⟩
          refine value_ (w1 := w) (v := .pointer (some ⟨wr.heap.size, 3, none⟩)) (by rfl) rfl ?_ (hK.out _ _ (Below.refl _ _) (rfl))
          · go_simp
            (try simp only [i64_w, g6])
            (try go_simp)
            try rfl
        refine Reg.rs_cons ?_ ?_
        · intro a w hb hs hel hon
          obtain ⟨_, e55, rfl⟩ := hon 4 55 (by kernel_rfl) rfl
          obtain ⟨_, g55⟩ := Array.getElem?_eq_some_iff.1 e55
          refine ⟨_, rfl, fun K hK => ?_⟩
          obtain ⟨y1, y2, y3⟩ : w.cell? ⟨wr.heap.size, 1, none⟩ = some (.slice A5 X.f1.length c5) ∧ w.cell? ⟨wr.heap.size, 2, none⟩ = some (.int .i64 X.f2) ∧ w.cell? ⟨wr.heap.size, 3, none⟩ = some (.slice A6 X.f3.length c6) := ⟨(blk_cell ((hb.block _ (blk_lt HK.out)).trans HK.out) 1).trans rfl, (blk_cell ((hb.block _ (blk_lt HK.out)).trans HK.out) 2).trans rfl, (blk_cell ((hb.block _ (blk_lt HK.out)).trans HK.out) 3).trans rfl⟩
          refine value_ (w1 := w) (v := .slice A6 X.f3.length c6) (by rfl) rfl ?_ (hK.out _ _ (Below.refl _ _) (rfl))
          · go_simp
            (try simp only [i64_w, g55])
            (try go_simp)
            try rfl
        refine Reg.rs_cons ?_ ?_
        · intro a w hb hs hel hon
          have e5 : a.tmps[5]? = some (.int .i64 ((ix : Int))) := (hel 5 (by decide)).trans rfl
          obtain ⟨_, g5⟩ := Array.getElem?_eq_some_iff.1 e5
          refine ⟨_, rfl, fun K hK => ?_⟩
          refine value_ (w1 := w) (v := .int .i64 ((ix : Int))) (by rfl) rfl ?_ (hK.out _ _ (Below.refl _ _) (rfl))
          · go_simp
            (try simp only [i64_w, g5])
            (try go_simp)
            try rfl
        refine Reg.rs_cons ?_ ?_
        · intro a w hb hs hel hon
          have e1 : a.tmps[1]? = some (.int .i64 (u)) := (hel 1 (by decide)).trans rfl
          obtain ⟨_, g1⟩ := Array.getElem?_eq_some_iff.1 e1
          refine ⟨_, rfl, fun K hK => ?_⟩
          refine value_ (w1 := w) (v := .int .i64 (u)) (by rfl) rfl ?_ (hK.out _ _ (Below.refl _ _) (rfl))
          · go_simp
            (try simp only [i64_w, g1])
            (try go_simp)
            try rfl
        refine Reg.rs_cons ?_ ?_
        · intro a w hb hs hel hon
          obtain ⟨_, e57, rfl⟩ := hon 6 57 (by kernel_rfl) rfl
          obtain ⟨_, e58, rfl⟩ := hon 7 58 (by kernel_rfl) rfl
          obtain ⟨_, g57⟩ := Array.getElem?_eq_some_iff.1 e57
          obtain ⟨_, g58⟩ := Array.getElem?_eq_some_iff.1 e58
          refine ⟨_, rfl, fun K hK => ?_⟩
          refine value_ (w1 := w) (v := .bool ((ix : Int) == u)) (by rfl) rfl ?_ (hK.out _ _ (Below.refl _ _) (rfl))
          · go_simp
            (try simp only [i64_w, g57, g58])
            (try go_simp)
            try rfl
        refine Reg.rs_cons ?_ ?_
        · intro a w hb hs hel hon
          obtain ⟨_, e52, rfl⟩ := hon 1 52 (by kernel_rfl) rfl
          obtain ⟨_, e54, rfl⟩ := hon 3 54 (by kernel_rfl) rfl
          obtain ⟨_, e56, rfl⟩ := hon 5 56 (by kernel_rfl) rfl
          obtain ⟨_, e59, rfl⟩ := hon 8 59 (by kernel_rfl) rfl
          refine ⟨_, rfl, fun K hK => ?_⟩
          refine goes_ Try.func14 (by kernel_rfl) rfl #[.slice A5 X.f1.length c5, .int .i64 (X.f2), .slice A6 X.f3.length c6, .bool ((ix : Int) == u)] (by rfl) rfl rfl (by first | (simp only [List.map_toArray, List.map_cons, List.map_nil, Act.eval, Array.getD_eq_getD_getElem?, Option.getD_some, e52, e54, e56, e59]; done) | (simp only [List.map_toArray, List.map_cons, List.map_nil, Act.eval, Array.getD_eq_getD_getElem?, Option.getD_some, e52, e54, e56, e59]; rfl) | rfl) ?_
          refine (PH.out w (HB2.out.trans (hb.mono HB2.out.size))).mono ?_
          rintro e w2 ⟨rfl, hb2⟩
          exact ⟨_, rfl, hK.out _ _ hb2 rfl⟩
        refine Reg.rs_cons ?_ ?_
        · intro a w hb hs hel hon
          have e6 : a.tmps[6]? = some (.pointer (some ⟨wr.heap.size, 0, none⟩)) := (hel 6 (by decide)).trans rfl
          obtain ⟨_, g6⟩ := Array.getElem?_eq_some_iff.1 e6
          refine ⟨_, rfl, fun K hK => ?_⟩
          refine value_ (w1 := w) (v := .pointer (some ⟨wr.heap.size, 1, none⟩)) (by rfl) rfl ?_ (hK.out _ _ (Below.refl _ _) (rfl))
          · go_simp
            (try simp only [i64_w, g6])
            (try go_simp)
            try rfl
        refine Reg.rs_cons ?_ ?_
        · intro a w hb hs hel hon
          obtain ⟨_, e61, rfl⟩ := hon 10 61 (by kernel_rfl) rfl
          obtain ⟨_, g61⟩ := Array.getElem?_eq_some_iff.1 e61
          refine ⟨_, rfl, fun K hK => ?_⟩
          obtain ⟨y1, y2, y3⟩ : w.cell? ⟨wr.heap.size, 1, none⟩ = some (.slice A5 X.f1.length c5) ∧ w.cell? ⟨wr.heap.size, 2, none⟩ = some (.int .i64 X.f2) ∧ w.cell? ⟨wr.heap.size, 3, none⟩ = some (.slice A6 X.f3.length c6) := ⟨(blk_cell ((hb.block _ (blk_lt HK.out)).trans HK.out) 1).trans rfl, (blk_cell ((hb.block _ (blk_lt HK.out)).trans HK.out) 2).trans rfl, (blk_cell ((hb.block _ (blk_lt HK.out)).trans HK.out) 3).trans rfl⟩
          refine value_ (w1 := w) (v := .slice A5 X.f1.length c5) (by rfl) rfl ?_ (hK.out _ _ (Below.refl _ _) (rfl))
          · go_simp
            (try simp only [i64_w, g61])
            (try go_simp)
            try rfl
        refine Reg.rs_cons ?_ ?_
        · intro a w hb hs hel hon
          have e6 : a.tmps[6]? = some (.pointer (some ⟨wr.heap.size, 0, none⟩)) := (hel 6 (by decide)).trans rfl
          obtain ⟨_, g6⟩ := Array.getElem?_eq_some_iff.1 e6
          refine ⟨_, rfl, fun K hK => ?_⟩
          refine value_ (w1 := w) (v := .pointer (some ⟨wr.heap.size, 2, none⟩)) (by rfl) rfl ?_ (hK.out _ _ (Below.refl _ _) (rfl))
          · go_simp
            (try simp only [i64_w, g6])
            (try go_simp)
            try rfl
        refine Reg.rs_cons ?_ ?_
        · intro a w hb hs hel hon
          obtain ⟨_, e63, rfl⟩ := hon 12 63 (by kernel_rfl) rfl
          obtain ⟨_, g63⟩ := Array.getElem?_eq_some_iff.1 e63
          refine ⟨_, rfl, fun K hK => ?_⟩
          obtain ⟨y1, y2, y3⟩ : w.cell? ⟨wr.heap.size, 1, none⟩ = some (.slice A5 X.f1.length c5) ∧ w.cell? ⟨wr.heap.size, 2, none⟩ = some (.int .i64 X.f2) ∧ w.cell? ⟨wr.heap.size, 3, none⟩ = some (.slice A6 X.f3.length c6) := ⟨(blk_cell ((hb.block _ (blk_lt HK.out)).trans HK.out) 1).trans rfl, (blk_cell ((hb.block _ (blk_lt HK.out)).trans HK.out) 2).trans rfl, (blk_cell ((hb.block _ (blk_lt HK.out)).trans HK.out) 3).trans rfl⟩
          refine value_ (w1 := w) (v := .int .i64 (X.f2)) (by rfl) rfl ?_ (hK.out _ _ (Below.refl _ _) (rfl))
          · go_simp
            (try simp only [i64_w, g63])
            (try go_simp)
            try rfl
        refine Reg.rs_cons ?_ ?_
        · intro a w hb hs hel hon
          have e6 : a.tmps[6]? = some (.pointer (some ⟨wr.heap.size, 0, none⟩)) := (hel 6 (by decide)).trans rfl
          obtain ⟨_, g6⟩ := Array.getElem?_eq_some_iff.1 e6
          refine ⟨_, rfl, fun K hK => ?_⟩
          refine value_ (w1 := w) (v := .pointer (some ⟨wr.heap.size, 3, none⟩)) (by rfl) rfl ?_ (hK.out _ _ (Below.refl _ _) (rfl))
          · go_simp
            (try simp only [i64_w, g6])
            (try go_simp)
            try rfl
        refine Reg.rs_cons ?_ ?_
        · intro a w hb hs hel hon
          obtain ⟨_, e65, rfl⟩ := hon 14 65 (by kernel_rfl) rfl
          obtain ⟨_, g65⟩ := Array.getElem?_eq_some_iff.1 e65
          refine ⟨_, rfl, fun K hK => ?_⟩
          obtain ⟨y1, y2, y3⟩ : w.cell? ⟨wr.heap.size, 1, none⟩ = some (.slice A5 X.f1.length c5) ∧ w.cell? ⟨wr.heap.size, 2, none⟩ = some (.int .i64 X.f2) ∧ w.cell? ⟨wr.heap.size, 3, none⟩ = some (.slice A6 X.f3.length c6) := ⟨(blk_cell ((hb.block _ (blk_lt HK.out)).trans HK.out) 1).trans rfl, (blk_cell ((hb.block _ (blk_lt HK.out)).trans HK.out) 2).trans rfl, (blk_cell ((hb.block _ (blk_lt HK.out)).trans HK.out) 3).trans rfl⟩
          refine value_ (w1 := w) (v := .slice A6 X.f3.length c6) (by rfl) rfl ?_ (hK.out _ _ (Below.refl _ _) (rfl))
          · go_simp
            (try simp only [i64_w, g65])
            (try go_simp)
            try rfl
        refine Reg.rs_cons ?_ ?_
        · intro a w hb hs hel hon
          have e5 : a.tmps[5]? = some (.int .i64 ((ix : Int))) := (hel 5 (by decide)).trans rfl
          obtain ⟨_, g5⟩ := Array.getElem?_eq_some_iff.1 e5
          refine ⟨_, rfl, fun K hK => ?_⟩
          refine value_ (w1 := w) (v := .int .i64 ((ix : Int))) (by rfl) rfl ?_ (hK.out _ _ (Below.refl _ _) (rfl))
          · go_simp
            (try simp only [i64_w, g5])
            (try go_simp)
            try rfl
        refine Reg.rs_cons ?_ ?_
        · intro a w hb hs hel hon
          have e1 : a.tmps[1]? = some (.int .i64 (u)) := (hel 1 (by decide)).trans rfl
          obtain ⟨_, g1⟩ := Array.getElem?_eq_some_iff.1 e1
          refine ⟨_, rfl, fun K hK => ?_⟩
          refine value_ (w1 := w) (v := .int .i64 (u)) (by rfl) rfl ?_ (hK.out _ _ (Below.refl _ _) (rfl))
          · go_simp
            (try simp only [i64_w, g1])
            (try go_simp)
            try rfl
        refine Reg.rs_cons ?_ ?_
        · intro a w hb hs hel hon
          obtain ⟨_, e67, rfl⟩ := hon 16 67 (by kernel_rfl) rfl
          obtain ⟨_, e68, rfl⟩ := hon 17 68 (by kernel_rfl) rfl
          obtain ⟨_, g67⟩ := Array.getElem?_eq_some_iff.1 e67
          obtain ⟨_, g68⟩ := Array.getElem?_eq_some_iff.1 e68
          refine ⟨_, rfl, fun K hK => ?_⟩
          refine value_ (w1 := w) (v := .bool ((ix : Int) == u)) (by rfl) rfl ?_ (hK.out _ _ (Below.refl _ _) (rfl))
          · go_simp
            (try simp only [i64_w, g67, g68])
            (try go_simp)
            try rfl
        refine Reg.rs_cons ?_ ?_
        · intro a w hb hs hel hon
          obtain ⟨_, e62, rfl⟩ := hon 11 62 (by kernel_rfl) rfl
          obtain ⟨_, e64, rfl⟩ := hon 13 64 (by kernel_rfl) rfl
          obtain ⟨_, e66, rfl⟩ := hon 15 66 (by kernel_rfl) rfl
          obtain ⟨_, e69, rfl⟩ := hon 18 69 (by kernel_rfl) rfl
          refine ⟨_, rfl, fun K hK => ?_⟩
          refine goes_ Try.func15 (by kernel_rfl) rfl #[.slice A5 X.f1.length c5, .int .i64 (X.f2), .slice A6 X.f3.length c6, .bool ((ix : Int) == u)] (by rfl) rfl rfl (by first | (simp only [List.map_toArray, List.map_cons, List.map_nil, Act.eval, Array.getD_eq_getD_getElem?, Option.getD_some, e62, e64, e66, e69]; done) | (simp only [List.map_toArray, List.map_cons, List.map_nil, Act.eval, Array.getD_eq_getD_getElem?, Option.getD_some, e62, e64, e66, e69]; rfl) | rfl) ?_
          refine (PRH.out w (HB2.out.trans (hb.mono HB2.out.size))).mono ?_
          rintro e w2 ⟨rfl, ⟨nd_, rfl⟩⟩
          exact ⟨_, rfl, hK.out _ _ (pw_below_drewN (Below.refl _ _) nd_) rfl⟩
        refine Reg.rs_cons ?_ ?_
        · intro a w hb hs hel hon
          obtain ⟨_, e60, rfl⟩ := hon 9 60 (by kernel_rfl) rfl
          obtain ⟨_, e70, rfl⟩ := hon 19 70 (by kernel_rfl) rfl
          obtain ⟨_, g60⟩ := Array.getElem?_eq_some_iff.1 e60
          obtain ⟨_, g70⟩ := Array.getElem?_eq_some_iff.1 e70
          refine ⟨_, rfl, fun K hK => ?_⟩
          refine value_ (w1 := w) (v := .bool false) (by rfl) rfl ?_ (hK.out _ _ (Below.refl _ _) (rfl))
          · go_simp
            (try simp only [i64_w, g60, g70])
            (try go_simp)
            try rfl
        exact Reg.rs_nil
      · intro a w hI
        rename_i K_ hK_
        refine hK_ a w ?_
        obtain ⟨_, e71, rfl⟩ := hI.vals 20 71 rfl rfl
        have g71 := Reg.getD_of e71
        have hfr := hI.frame
        have HW3 := Aside0.mk (HB2.out.trans (hI.below.mono HB2.out.size))
        have HP3 := Aside0.mk ((hI.below.block _ (blk_lt HP2.out)).trans HP2.out)
        rw [hfr]
        simp only [Reg.puts, Act.put, List.setIfInBounds_toArray, List.set_cons_zero, List.set_cons_succ]
        rw [g71]
        generalize a.tmps = ts_
        clear hI hfr hK_ e71 g71
        go_wp2_with fail
        refine ⟨⟨ix + 1, by omega, by push_cast; rfl, HW3, HP3⟩, ?_⟩
        rw [show intOf (.int .i64 ((ix : Int) + 1)) = (ix : Int) + 1 from rfl, show intOf (.int .i64 (ix : Int)) = (ix : Int) from rfl]
        omega
end Go.Proofs.Ytghhbdmggmdffaa.Given
end

section
/- DeclChecks over programs that are read as data. -/
namespace Go.Proofs.Ytghhbdmggmdffaa
open Go Go.RowKit Go.Proofs.YtghhbdmggmdffaaW.PrintWords Go.Proofs.Ytghhbdmggmdffaa.PDe Go.Proofs.Ytghhbdmggmdffaa.Given
set_option linter.unusedVariables false
namespace DeRow
theorem rd_int : Bridge.Rdga Try.prog 3 (Kd.int .i64) (fun a => (Lit.int .i64 a).wf = true) := Bridge.Rdg.int Try.underlying3 (by kernel_rfl)
theorem rd_ints : Bridge.Rdga Try.prog 35 (Kd.slice 3 (Kd.int .i64)) (fun l => ∀ a ∈ l, (Lit.int .i64 a).wf = true) := Bridge.Rdg.slicea Try.underlying35 (by kernel_rfl) rd_int
theorem rd_str : Bridge.Rdga Try.prog 9 Kd.string (fun s => s.size ≤ 9223372036854775807) := Bridge.Rdg.string Try.underlying9 (by kernel_rfl)
theorem rd_instr : Bridge.Rdga Try.prog 56 k56 (fun _ => True) := fun m =>
  Bridge.Rdg.imp (Bridge.Rdg.iso (fun x : S56 => (x.f0, x.f1, x.f2)) (fun p => ⟨p.1, p.2.1, p.2.2⟩) (fun _ => rfl)
    (Bridge.Rdg.structa Try.underlying56 (by kernel_rfl) (fun m => Bridge.RdgF.cons rfl (rd_int m) (Bridge.RdgF.cons rfl (rd_int m) (Bridge.RdgF.one rfl (rd_int m)))) m)) (fun _ _ => trivial)
theorem rd_const : Bridge.Rdga Try.prog 61 k61 (fun _ => True) := fun m =>
  Bridge.Rdg.imp (Bridge.Rdg.iso (fun x : S61 => (x.f0, x.f1)) (fun p => ⟨p.1, p.2⟩) (fun _ => rfl)
    (Bridge.Rdg.structa Try.underlying61 (by kernel_rfl) (fun m => Bridge.RdgF.cons rfl (rd_int m) (Bridge.RdgF.one rfl (rd_int m))) m)) (fun _ _ => trivial)
theorem rd_var : Bridge.Rdga Try.prog 45 k45 (fun _ => True) := fun m =>
  Bridge.Rdg.imp (Bridge.Rdg.iso (fun x : S45 => (x.f0, x.f1, x.f2, x.f3, x.f4)) (fun p => ⟨p.1, p.2.1, p.2.2.1, p.2.2.2.1, p.2.2.2.2⟩) (fun _ => rfl)
    (Bridge.Rdg.structa Try.underlying45 (by kernel_rfl) (fun m => Bridge.RdgF.cons rfl (rd_str m) (Bridge.RdgF.cons rfl (rd_int m) (Bridge.RdgF.cons rfl (rd_int m) (Bridge.RdgF.cons rfl (rd_int m) (Bridge.RdgF.one rfl (rd_int m)))))) m)) (fun _ _ => trivial)
theorem rd_block : Bridge.Rdga Try.prog 47 k47 (fun _ => True) := fun m =>
  Bridge.Rdg.imp (Bridge.Rdg.iso (fun x : S47 => (x.f0, x.f1)) (fun p => ⟨p.1, p.2⟩) (fun _ => rfl)
    (Bridge.Rdg.structa Try.underlying47 (by kernel_rfl) (fun m => Bridge.RdgF.cons rfl (rd_str m) (Bridge.RdgF.one rfl (rd_int m))) m)) (fun _ _ => trivial)
theorem rd_instrs : Bridge.Rdga Try.prog 39 (Kd.slice 56 k56) (fun l => ∀ a ∈ l, True) := Bridge.Rdg.slicea Try.underlying39 (by kernel_rfl) rd_instr
theorem rd_unit : Bridge.Rdga Try.prog 41 k41 (fun _ => True) := fun m =>
  Bridge.Rdg.imp (Bridge.Rdg.iso (fun x : S41 => (x.f0, x.f1, x.f2, x.f3, x.f4)) (fun p => ⟨p.1, p.2.1, p.2.2.1, p.2.2.2.1, p.2.2.2.2⟩) (fun _ => rfl)
    (Bridge.Rdg.structa Try.underlying41 (by kernel_rfl) (fun m => Bridge.RdgF.cons rfl (rd_str m) (Bridge.RdgF.cons rfl (rd_ints m) (Bridge.RdgF.cons rfl (rd_int m) (Bridge.RdgF.cons rfl (rd_ints m) (Bridge.RdgF.one rfl (rd_instrs m)))))) m)) (fun _ _ => trivial)
/-- A program as data: its constants, variables, blocks, units. -/
def KProg : Kd (List S61 × List S45 × List S47 × List S41) := Kd.pair (Kd.slice 61 k61) (Kd.pair (Kd.slice 45 k45) (Kd.pair (Kd.slice 47 k47) (Kd.slice 41 k41)))
theorem rd_prog : Bridge.Rdga Try.prog 27 KProg (fun _ => True) := fun m => Bridge.Rdg.imp ((Bridge.Rdg.structa Try.underlying27 (by kernel_rfl) (fun m => Bridge.RdgF.cons rfl (Bridge.Rdg.slicea Try.underlying22 (by kernel_rfl) rd_const m) (Bridge.RdgF.cons rfl (Bridge.Rdg.slicea Try.underlying23 (by kernel_rfl) rd_var m) (Bridge.RdgF.cons rfl (Bridge.Rdg.slicea Try.underlying24 (by kernel_rfl) rd_block m) (Bridge.RdgF.one rfl (Bridge.Rdg.slicea Try.underlying25 (by kernel_rfl) rd_unit m)))))) m) (fun _ _ => trivial)
theorem prog_of {w : World} {x : List S61 × List S45 × List S47 × List S41} {cs : Array Value} (h : KProg.K w x cs.toList) : ∃ A0 c0 A1 c1 A2 c2 A3 c3, cs = #[.slice A0 x.1.length c0, .slice A1 x.2.1.length c1, .slice A2 x.2.2.1.length c2, .slice A3 x.2.2.2.length c3] ∧ (Kd.C k61 w A0 x.1.length x.1 ∧ x.1.length ≤ c0) ∧ (Kd.C k45 w A1 x.2.1.length x.2.1 ∧ x.2.1.length ≤ c1) ∧ (Kd.C k47 w A2 x.2.2.1.length x.2.2.1 ∧ x.2.2.1.length ≤ c2) ∧ (Kd.C k41 w A3 x.2.2.2.length x.2.2.2 ∧ x.2.2.2.length ≤ c3) := by
  obtain ⟨C, V, B, U⟩ := x
  obtain ⟨_, _, h0, ⟨A0, c0, rfl, l0, g0⟩, _, _, rfl, ⟨A1, c1, rfl, l1, g1⟩, _, _, rfl, ⟨A2, c2, rfl, l2, g2⟩, ⟨A3, c3, rfl, l3, g3⟩⟩ := h
  refine ⟨A0, c0, A1, c1, A2, c2, A3, c3, ?_, ⟨g0, l0⟩, ⟨g1, l1⟩, ⟨g2, l2⟩, ⟨g3, l3⟩⟩
  rw [show cs = cs.toList.toArray by simp, h0]
  rfl
end DeRow
theorem DeclChecks_walk (cs : Array Value) (x : List S61 × List S45 × List S47 × List S41) (u : Int) (w : World) (hk : DeRow.KProg.K w x cs.toList) (wf : True) (wu : (Lit.int .i64 u).wf = true) :
    Calls Try.prog 4 #[.agg cs, .int .i64 u] w fun e w' => e = .returned (.bool true) ∧ Below w.heap.size w w' := by
  obtain ⟨A0, c0, A1, c1, A2, c2, A3, c3, rfl, ⟨g0, l0⟩, ⟨g1, l1⟩, ⟨g2, l2⟩, ⟨g3, l3⟩⟩ := DeRow.prog_of hk
  exact checks_w A0 c0 x.1 A1 c1 x.2.1 A2 c2 x.2.2.1 A3 c3 x.2.2.2 u w g0 l0 g1 l1 g2 l2 g3 l3
end Go.Proofs.Ytghhbdmggmdffaa
end

section
/- The law DeclChecks holds for every input: the walk over its code shows that the call returns true and that what was read stays as it was; the row follows. -/
namespace Go.Proofs.Ytghhbdmggmdffaa.declChecksRw
open Go.ChangeShapes Go.WideShapes Go.ChangeAt Go.RowKit
open Go.ChangeMaps (open_string shut_string)
open Go.Proofs.Ytghhbdmggmdffaa.Bridge
set_option linter.unusedVariables false
set_option linter.unusedSimpArgs false
theorem own : ownKnob Try.prog.godebug = none := by kernel_rfl
theorem laidOut : laidOutB Try.prog = true := by kernel_rfl
set_option maxRecDepth 100000 in
theorem lifted (os : Os) (started : os.Started) (H : Type) (enc : TypeId × Value → H) :
    ReturnsInHanded {} Try.checked os 4 .any (Rows.declChecksSpec.pre6 enc Try.prog Try.f4 Rows.declChecksRow.domain false) (Rows.declChecksSpec.post enc Try.prog Try.f4 false true false false) := by
  refine returnsInHanded_of_change_sized (C := Try.checked) own started (by kernel_rfl) Try.func4
    (ChangeSpec.witness6 (enc := enc) (C := Try.checked) false ⟨#[], #[.agg #[.slice none 0 0, .slice none 0 0, .slice none 0 0, .slice none 0 0], .int .i64 0], []⟩ 8 (by kernel_rfl) (by kernel_rfl) (by kernel_rfl) (by kernel_rfl)) ?_
  intro W base args ds gs before hval0 hW hcnd hsz0 _
  have hval : ∀ (j : Nat) t v, Try.f4.params[j]? = some t → args[j]? = some v → Value.okWide Try.prog W .any base t v := hval0
  have hsz : (DataW.weightsEach Try.prog (Try.f4.params.toList ++ Rows.declChecksSpec.plain.varTypes Try.prog) (ds ++ gs)).all (· ≤ reachBytes) = true := hsz0
  clear hval0 hsz0 hcnd
  have hW' := hW
  obtain ⟨p, q, hA0, hV, rfl, hfz, hnd⟩ := hW
  have hA : DataW.TrodAll enc Try.prog W 0 (fun _ => true) true Try.f4.params.toList args.toList ds p := hA0
  rw [Try.params4] at hA hval hsz
  obtain ⟨v0, vs0, d0, ds0, p0, q0, hargs, rfl, rfl, h0, r0⟩ := trodAll_cons hA
  obtain ⟨v1, vs1, d1, ds1, p1, q1, rfl, rfl, rfl, h1, r1⟩ := trodAll_cons r0
  obtain ⟨rfl, rfl, rfl⟩ := trodAll_nil r1
  obtain rfl : args = #[v0, v1] := by cases args; simp_all
  obtain ⟨rfl, rfl⟩ := trodVars_none hV
  clear hA0
  have k0 := h0
  have lt0 : ∀ x ∈ p0, x.block < W.heap.size := by obtain ⟨m, hm⟩ := k0; exact DataW.trod_lt m _ _ _ hm
  obtain ⟨cs0, rfl⟩ : ∃ cs, v0 = .agg cs := by
    have z := (hval 0 27 v0 rfl rfl)
    unfold Value.okWide at z
    rw [Try.underlying27] at z
    obtain ⟨cs, e, _⟩ := z
    exact ⟨cs, e⟩
  obtain ⟨x0, hk0, wf0⟩ := Rdga.trod DeRow.rd_prog h0
  have k1 := h1
  have lt1 : ∀ x ∈ p1, x.block < W.heap.size := by obtain ⟨m, hm⟩ := k1; exact DataW.trod_lt m _ _ _ hm
  obtain ⟨a1, rfl, _, _, w1⟩ := open_int Try.underlying3 (hval 1 3 v1 rfl rfl) h1
  refine (DeclChecks_walk cs0 x0 a1 W hk0 wf0 w1).mono fun e W' ⟨he, bel⟩ => ?_
  subst he
  exact ⟨_, rfl, _, _, _, [], _, [], hW', trodAll_mk1 (shut_bool Try.underlying4 _), (trodAll_cons_mk (Below.trod laidOut (by kernel_rfl) (of_decide_eq_true (by kernel_rfl)) k0 bel lt0) (trodAll_cons_mk (Below.trod laidOut (by kernel_rfl) (of_decide_eq_true (by kernel_rfl)) k1 bel lt1) trodAll_mk0)), rfl, bel.frame _, fun h => by cases h⟩
theorem over : Rows.declChecksRow.holds Try.pinned (OpenSpec.ofChange Rows.declChecksSpec) :=
  OpenClaim.holds_of_wide 4 Try.f4 rfl rfl rfl rfl rfl rfl rfl ⟨rfl, rfl, rfl, rfl, rfl⟩ rfl rfl rfl rfl rfl (by kernel_rfl) Try.func4 (by kernel_rfl)
    (of_decide_eq_true (by kernel_rfl)) (by unfold Func.isWrapper; first | (rw [if_pos (by decide +kernel)]; kernel_rfl) | (rw [if_neg (by decide +kernel)]; exact ⟨rfl, rfl⟩))
    (fun os started H enc _ => lifted os started H enc)
theorem proved : Rows.DeclChecksSaid := over
end Go.Proofs.Ytghhbdmggmdffaa.declChecksRw
namespace Go.Proofs.Ytghhbdmggmdffaa
theorem declChecks_holds : Rows.DeclChecksSaid := declChecksRw.proved
#print axioms declChecks_holds
end Go.Proofs.Ytghhbdmggmdffaa
end
