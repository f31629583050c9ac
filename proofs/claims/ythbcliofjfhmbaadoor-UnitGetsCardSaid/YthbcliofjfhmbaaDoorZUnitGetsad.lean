/- What the reference of octet puts: the same as the program, for bytes of at most 1000000 in length. -/
import Derived.Test.YthbcliofjfhmbaaDoorZUnitGetsab
import Derived.Test.YthbcliofjfhmbaaDoorZUnitGetsac
section
/- Printed by a program of this session (wip/pg.py, over the print of the kit): functions, their Lean twins, and the proofs that the calls come to them; each under the conditions that it names. -/
namespace Go.Proofs.YthbcliofjfhmbaaDoor.POp
open Go.Proofs.YthbcliofjfhmbaaDoor.Given
open Go.RowKit Go.Proofs.YthbcliofjfhmbaaDoorW.PrintWords Go.Proofs.YthbcliofjfhmbaaDoorW.PrintLast Go.Proofs.YthbcliofjfhmbaaDoorW.PrintMore
attribute [local go_sem] max2_int min2_int max_two min_two max_three min_three max_four min_four   -- for this text's walks alone
set_option linter.unusedVariables false
set_option linter.unusedSimpArgs false

/-! ### op_Is: function 62 -/
def op_Is.f (a0 : Int) : Option (Bool) := if a0 ≥ 0 then (some (decide (a0 < 38))) else (some false)
set_option maxHeartbeats 8000000 in
set_option maxRecDepth 100000 in
theorem op_Is.calls (a0 : Int) (r : Bool) (w : World) (h : op_Is.f a0 = some r) :
    Calls Tryd.prog 62 #[.int .i64 a0] w fun e w' => e = .returned (.bool r) ∧ Drawn0 w w' := by
  have H : (if a0 ≥ 0 then (some (decide (a0 < 38))) else (some false)) = some r := h
  clear h
  by_cases c2 : a0 ≥ 0
  · rw [if_pos c2] at H
    have c2b0 : decide (0 ≤ a0) = true := decide_eq_true c2
    clear c2
    obtain rfl := Option.some.inj H
    go_enter Tryd.func62, Tryd.ntmps62
    go_wp2
    go_ret
    exact ⟨by first | rfl | (simp; done) | (simp [*]; done), by repeat (first | exact Drawn0.refl _ | apply Drawn0.step)⟩
  · rw [if_neg c2] at H
    have c2b0 : decide (0 ≤ a0) = false := decide_eq_false c2
    clear c2
    obtain rfl := Option.some.inj H
    go_enter Tryd.func62, Tryd.ntmps62
    go_wp2
    go_ret
    exact ⟨by first | rfl | (simp; done) | (simp [*]; done), by repeat (first | exact Drawn0.refl _ | apply Drawn0.step)⟩

/-! ### op_may: function 63 -/
def op_may.f (a0 : Int) (a1 : Int) : Option (Bool) := if a1 = 0 then (some (a0 == 0)) else (if a0 ≥ 0 then (some (decide (a0 ≤ 65535))) else (some false))
set_option maxHeartbeats 8000000 in
set_option maxRecDepth 100000 in
theorem op_may.calls (a0 : Int) (a1 : Int) (r : Bool) (w : World) (h : op_may.f a0 a1 = some r) :
    Calls Tryd.prog 63 #[.int .i64 a0, .int .i64 a1] w fun e w' => e = .returned (.bool r) ∧ Drawn0 w w' := by
  have H : (if a1 = 0 then (some (a0 == 0)) else (if a0 ≥ 0 then (some (decide (a0 ≤ 65535))) else (some false))) = some r := h
  clear h
  by_cases c3 : a1 = 0
  · rw [if_pos c3] at H
    have c3b0 : (a1 == 0) = true := beq_iff_eq.mpr c3
    have c3b1 : (a1 != 0) = false := bne_eq_false_iff_eq.mpr c3
    clear c3
    obtain rfl := Option.some.inj H
    go_enter Tryd.func63, Tryd.ntmps63
    go_wp2
    go_ret
    exact ⟨by first | rfl | (simp; done) | (simp [*]; done), by repeat (first | exact Drawn0.refl _ | apply Drawn0.step)⟩
  · rw [if_neg c3] at H
    have c3b0 : (a1 == 0) = false := beq_eq_false_iff_ne.mpr c3
    have c3b1 : (a1 != 0) = true := bne_iff_ne.mpr c3
    by_cases c4 : a0 ≥ 0
    · rw [if_pos c4] at H
      have c4b0 : decide (0 ≤ a0) = true := decide_eq_true c4
      clear c4
      obtain rfl := Option.some.inj H
      go_enter Tryd.func63, Tryd.ntmps63
      go_wp2
      go_ret
      exact ⟨by first | rfl | (simp; done) | (simp [*]; done), by repeat (first | exact Drawn0.refl _ | apply Drawn0.step)⟩
    · rw [if_neg c4] at H
      have c4b0 : decide (0 ≤ a0) = false := decide_eq_false c4
      clear c4
      obtain rfl := Option.some.inj H
      go_enter Tryd.func63, Tryd.ntmps63
      go_wp2
      go_ret
      exact ⟨by first | rfl | (simp; done) | (simp [*]; done), by repeat (first | exact Drawn0.refl _ | apply Drawn0.step)⟩

/-! ### op_Right: function 31 -/
def op_Right.f (a0_0 : Int) (a0_1 : Int) (a0_2 : Int) : Option (Bool) := (op_Shape.f a0_0).bind fun bt102 => ((op_Is.f a0_0).bind fun t104 => (if t104 = true then ((op_may.f a0_1 bt102.1).bind fun t105 => (if t105 = true then ((op_may.f a0_2 bt102.2).bind fun t106 => (some t106)) else (some false))) else (some false)))
set_option maxHeartbeats 8000000 in
set_option maxRecDepth 100000 in
theorem op_Right.calls (a0_0 : Int) (a0_1 : Int) (a0_2 : Int) (r : Bool) (w : World) (h : op_Right.f a0_0 a0_1 a0_2 = some r) (hL_ : LaidOps w) :
    Calls Tryd.prog 31 #[.agg #[.int .i64 a0_0, .int .i64 a0_1, .int .i64 a0_2]] w fun e w' => e = .returned (.bool r) ∧ Below w.heap.size w w' := by
  have HL_ := Aside0.mk hL_
  clear hL_
  have hu47 := Tryd.underlying47
  have HB := Aside0.mk (Below.refl w.heap.size w)
  have H : ((op_Shape.f a0_0).bind fun bt102 => ((op_Is.f a0_0).bind fun t104 => (if t104 = true then ((op_may.f a0_1 bt102.1).bind fun t105 => (if t105 = true then ((op_may.f a0_2 bt102.2).bind fun t106 => (some t106)) else (some false))) else (some false)))) = some r := h
  clear h
  replace H := Option.bind_eq_some_iff.mp H
  obtain ⟨⟨t102, t103⟩, A20, H⟩ := H
  replace H : ((op_Is.f a0_0).bind fun t104 => (if t104 = true then ((op_may.f a0_1 t102).bind fun t105 => (if t105 = true then ((op_may.f a0_2 t103).bind fun t106 => (some t106)) else (some false))) else (some false))) = some r := H
  have A2 := Aside0.mk A20
  clear A20
  replace H := Option.bind_eq_some_iff.mp H
  obtain ⟨t104, A30, H⟩ := H
  replace H : (if t104 = true then ((op_may.f a0_1 t102).bind fun t105 => (if t105 = true then ((op_may.f a0_2 t103).bind fun t106 => (some t106)) else (some false))) else (some false)) = some r := H
  have A3 := Aside0.mk A30
  clear A30
  by_cases c4 : t104 = true
  · subst c4
    have H1 : ((op_may.f a0_1 t102).bind fun t105 => (if t105 = true then ((op_may.f a0_2 t103).bind fun t106 => (some t106)) else (some false))) = some r := by rw [if_pos rfl] at H; exact H
    clear H
    have H := H1
    clear H1
    replace H := Option.bind_eq_some_iff.mp H
    obtain ⟨t105, A50, H⟩ := H
    replace H : (if t105 = true then ((op_may.f a0_2 t103).bind fun t106 => (some t106)) else (some false)) = some r := H
    have A5 := Aside0.mk A50
    clear A50
    by_cases c6 : t105 = true
    · subst c6
      have H1 : ((op_may.f a0_2 t103).bind fun t106 => (some t106)) = some r := by rw [if_pos rfl] at H; exact H
      clear H
      have H := H1
      clear H1
      replace H := Option.bind_eq_some_iff.mp H
      obtain ⟨t106, A70, H⟩ := H
      replace H : (some t106) = some r := H
      have A7 := Aside0.mk A70
      clear A70
      obtain rfl := Option.some.inj H
      go_enter Tryd.func31, Tryd.ntmps31
      go_wp2_with (first | ((with_reducible refine gate_dst (N := 1) rfl ?_); refine box_event ?hg (N := 1) ?hd (cs := #[.int .i64 a0_0, .int .i64 a0_1, .int .i64 a0_2]) (t := 47) ?hr ?_; (case hd => rfl); (case hg => rfl); (case hr => first | (go_simp; done) | (go_simp; rfl)); intro gb101 hg w8 hbox hb; have n0_ := Aside0.mk (below_step (by repeat (first | (with_reducible first | exact HB.out | apply below_alloc | apply pw_below_drewN | apply below_drew1) | exact HB.out)) hb); have n1_ := Aside0.mk (hbox); have n2_ := Aside0.mk ((by rw [hg]; exact (below_size (by repeat (first | (with_reducible first | exact HB.out | apply below_alloc | apply pw_below_drewN | apply below_drew1) | exact HB.out))) : w.heap.size ≤ gb101)); have n3_ := Aside0.mk ((by rw [hg]; exact (below_size (by repeat (first | (with_reducible first | exact HB.out | apply below_alloc | apply pw_below_drewN | apply below_drew1) | exact HB.out))) : w.heap.size ≤ gb101)); clear HB; have HB := n0_; have BK101 := n1_; have GW101 := n2_; have GE101 := n3_; clear n0_ n1_ n2_ n3_; clear hb hbox hg; have hcz9_0 : w8.cell? ⟨gb101, 0, none⟩ = some (.int .i64 a0_0) := (blk_cell BK101.out 0).trans rfl; have hcz9_1 : w8.cell? ⟨gb101, 1, none⟩ = some (.int .i64 a0_1) := (blk_cell BK101.out 1).trans rfl; have hcz9_2 : w8.cell? ⟨gb101, 2, none⟩ = some (.int .i64 a0_2) := (blk_cell BK101.out 2).trans rfl; have hfz9_0 := blk_frozen BK101.out 0; have hfz9_1 := blk_frozen BK101.out 1; have hfz9_2 := blk_frozen BK101.out 2) | ((with_reducible refine gate_callee (f := 61) rfl ?_); refine goesL_ (some 8) rfl rfl Tryd.func61 (by kernel_rfl) rfl #[.int .i64 a0_0] rfl (by (try simp only [List.map_toArray, List.map_cons, List.map_nil]); first | done | rfl | (simp only [List.length_drop, List.length_take]; rfl)) ?_; (with_reducible refine (op_Shape.calls a0_0 t102 t103 _ A2.out (LaidOps.below HL_.out (by repeat (first | (with_reducible first | exact HB.out | apply below_alloc | apply pw_below_drewN | apply below_drew1) | exact HB.out)))).mono ?_); rintro e w10 ⟨rfl, hb⟩; refine ⟨_, rfl, ?_⟩; have n0_ := Aside0.mk (blk_below (g := gb101) (o := .cells #[.int .i64 a0_0, .int .i64 a0_1, .int .i64 a0_2] 47 (0, 0)) (by (with_reducible repeat (first | refine blk_drewN ?_ _ | refine blk_drew ?_ | refine blk_alloc ?_ _)); exact BK101.out) hb); have n1_ := Aside0.mk (below_step (by repeat (first | (with_reducible first | exact HB.out | apply below_alloc | apply pw_below_drewN | apply below_drew1 | refine below_set ?_ GE101.out) | exact HB.out)) hb); clear BK101; clear HB; have BK101 := n0_; have HB := n1_; clear n0_ n1_; (try clear hb); (try clear hb2); (try clear hk); (try clear hi); have hcz11_0 : w10.cell? ⟨gb101, 0, none⟩ = some (.int .i64 a0_0) := (blk_cell BK101.out 0).trans rfl; have hcz11_1 : w10.cell? ⟨gb101, 1, none⟩ = some (.int .i64 a0_1) := (blk_cell BK101.out 1).trans rfl; have hcz11_2 : w10.cell? ⟨gb101, 2, none⟩ = some (.int .i64 a0_2) := (blk_cell BK101.out 2).trans rfl; have hfz11_0 := blk_frozen BK101.out 0; have hfz11_1 := blk_frozen BK101.out 1; have hfz11_2 := blk_frozen BK101.out 2) | ((with_reducible refine gate_callee (f := 62) rfl ?_); refine goesL_ (some 13) rfl rfl Tryd.func62 (by kernel_rfl) rfl #[.int .i64 a0_0] rfl (by (try simp only [List.map_toArray, List.map_cons, List.map_nil]); first | done | rfl | (simp only [List.length_drop, List.length_take]; rfl)) ?_; (with_reducible refine (op_Is.calls a0_0 true _ A3.out).mono ?_); rintro e w' ⟨rfl, ⟨nd, rfl⟩⟩; refine ⟨_, rfl, ?_⟩) | (go_at_call 63; (with_reducible refine (op_may.calls a0_1 t102 true _ A5.out).mono ?_); rintro e w' ⟨rfl, ⟨nd, rfl⟩⟩) | (go_at_call 63; (with_reducible refine (op_may.calls a0_2 t103 t106 _ A7.out).mono ?_); rintro e w' ⟨rfl, ⟨nd, rfl⟩⟩))
      go_ret
      exact ⟨by first | rfl | (simp [errW_none, errW_some] <;> rfl) | (simp [*, errW_none, errW_some] <;> rfl), by repeat (first | (with_reducible first | exact HB.out | apply below_alloc | apply pw_below_drewN | apply below_drew1 | refine below_set ?_ GE101.out) | exact HB.out)⟩
    · replace c6 := Bool.eq_false_iff.mpr c6
      subst c6
      have H1 : (some false) = some r := by rw [if_neg (show ¬ (false = true) by decide)] at H; exact H
      clear H
      have H := H1
      clear H1
      obtain rfl := Option.some.inj H
      go_enter Tryd.func31, Tryd.ntmps31
      go_wp2_with (first | ((with_reducible refine gate_dst (N := 1) rfl ?_); refine box_event ?hg (N := 1) ?hd (cs := #[.int .i64 a0_0, .int .i64 a0_1, .int .i64 a0_2]) (t := 47) ?hr ?_; (case hd => rfl); (case hg => rfl); (case hr => first | (go_simp; done) | (go_simp; rfl)); intro gb101 hg w12 hbox hb; have n0_ := Aside0.mk (below_step (by repeat (first | (with_reducible first | exact HB.out | apply below_alloc | apply pw_below_drewN | apply below_drew1) | exact HB.out)) hb); have n1_ := Aside0.mk (hbox); have n2_ := Aside0.mk ((by rw [hg]; exact (below_size (by repeat (first | (with_reducible first | exact HB.out | apply below_alloc | apply pw_below_drewN | apply below_drew1) | exact HB.out))) : w.heap.size ≤ gb101)); have n3_ := Aside0.mk ((by rw [hg]; exact (below_size (by repeat (first | (with_reducible first | exact HB.out | apply below_alloc | apply pw_below_drewN | apply below_drew1) | exact HB.out))) : w.heap.size ≤ gb101)); clear HB; have HB := n0_; have BK101 := n1_; have GW101 := n2_; have GE101 := n3_; clear n0_ n1_ n2_ n3_; clear hb hbox hg; have hcz13_0 : w12.cell? ⟨gb101, 0, none⟩ = some (.int .i64 a0_0) := (blk_cell BK101.out 0).trans rfl; have hcz13_1 : w12.cell? ⟨gb101, 1, none⟩ = some (.int .i64 a0_1) := (blk_cell BK101.out 1).trans rfl; have hcz13_2 : w12.cell? ⟨gb101, 2, none⟩ = some (.int .i64 a0_2) := (blk_cell BK101.out 2).trans rfl; have hfz13_0 := blk_frozen BK101.out 0; have hfz13_1 := blk_frozen BK101.out 1; have hfz13_2 := blk_frozen BK101.out 2) | ((with_reducible refine gate_callee (f := 61) rfl ?_); refine goesL_ (some 8) rfl rfl Tryd.func61 (by kernel_rfl) rfl #[.int .i64 a0_0] rfl (by (try simp only [List.map_toArray, List.map_cons, List.map_nil]); first | done | rfl | (simp only [List.length_drop, List.length_take]; rfl)) ?_; (with_reducible refine (op_Shape.calls a0_0 t102 t103 _ A2.out (LaidOps.below HL_.out (by repeat (first | (with_reducible first | exact HB.out | apply below_alloc | apply pw_below_drewN | apply below_drew1) | exact HB.out)))).mono ?_); rintro e w14 ⟨rfl, hb⟩; refine ⟨_, rfl, ?_⟩; have n0_ := Aside0.mk (blk_below (g := gb101) (o := .cells #[.int .i64 a0_0, .int .i64 a0_1, .int .i64 a0_2] 47 (0, 0)) (by (with_reducible repeat (first | refine blk_drewN ?_ _ | refine blk_drew ?_ | refine blk_alloc ?_ _)); exact BK101.out) hb); have n1_ := Aside0.mk (below_step (by repeat (first | (with_reducible first | exact HB.out | apply below_alloc | apply pw_below_drewN | apply below_drew1 | refine below_set ?_ GE101.out) | exact HB.out)) hb); clear BK101; clear HB; have BK101 := n0_; have HB := n1_; clear n0_ n1_; (try clear hb); (try clear hb2); (try clear hk); (try clear hi); have hcz15_0 : w14.cell? ⟨gb101, 0, none⟩ = some (.int .i64 a0_0) := (blk_cell BK101.out 0).trans rfl; have hcz15_1 : w14.cell? ⟨gb101, 1, none⟩ = some (.int .i64 a0_1) := (blk_cell BK101.out 1).trans rfl; have hcz15_2 : w14.cell? ⟨gb101, 2, none⟩ = some (.int .i64 a0_2) := (blk_cell BK101.out 2).trans rfl; have hfz15_0 := blk_frozen BK101.out 0; have hfz15_1 := blk_frozen BK101.out 1; have hfz15_2 := blk_frozen BK101.out 2) | ((with_reducible refine gate_callee (f := 62) rfl ?_); refine goesL_ (some 13) rfl rfl Tryd.func62 (by kernel_rfl) rfl #[.int .i64 a0_0] rfl (by (try simp only [List.map_toArray, List.map_cons, List.map_nil]); first | done | rfl | (simp only [List.length_drop, List.length_take]; rfl)) ?_; (with_reducible refine (op_Is.calls a0_0 true _ A3.out).mono ?_); rintro e w' ⟨rfl, ⟨nd, rfl⟩⟩; refine ⟨_, rfl, ?_⟩) | (go_at_call 63; (with_reducible refine (op_may.calls a0_1 t102 false _ A5.out).mono ?_); rintro e w' ⟨rfl, ⟨nd, rfl⟩⟩))
      go_ret
      exact ⟨by first | rfl | (simp [errW_none, errW_some] <;> rfl) | (simp [*, errW_none, errW_some] <;> rfl), by repeat (first | (with_reducible first | exact HB.out | apply below_alloc | apply pw_below_drewN | apply below_drew1 | refine below_set ?_ GE101.out) | exact HB.out)⟩
  · replace c4 := Bool.eq_false_iff.mpr c4
    subst c4
    have H1 : (some false) = some r := by rw [if_neg (show ¬ (false = true) by decide)] at H; exact H
    clear H
    have H := H1
    clear H1
    obtain rfl := Option.some.inj H
    go_enter Tryd.func31, Tryd.ntmps31
    go_wp2_with (first | ((with_reducible refine gate_dst (N := 1) rfl ?_); refine box_event ?hg (N := 1) ?hd (cs := #[.int .i64 a0_0, .int .i64 a0_1, .int .i64 a0_2]) (t := 47) ?hr ?_; (case hd => rfl); (case hg => rfl); (case hr => first | (go_simp; done) | (go_simp; rfl)); intro gb101 hg w16 hbox hb; have n0_ := Aside0.mk (below_step (by repeat (first | (with_reducible first | exact HB.out | apply below_alloc | apply pw_below_drewN | apply below_drew1) | exact HB.out)) hb); have n1_ := Aside0.mk (hbox); have n2_ := Aside0.mk ((by rw [hg]; exact (below_size (by repeat (first | (with_reducible first | exact HB.out | apply below_alloc | apply pw_below_drewN | apply below_drew1) | exact HB.out))) : w.heap.size ≤ gb101)); have n3_ := Aside0.mk ((by rw [hg]; exact (below_size (by repeat (first | (with_reducible first | exact HB.out | apply below_alloc | apply pw_below_drewN | apply below_drew1) | exact HB.out))) : w.heap.size ≤ gb101)); clear HB; have HB := n0_; have BK101 := n1_; have GW101 := n2_; have GE101 := n3_; clear n0_ n1_ n2_ n3_; clear hb hbox hg; have hcz17_0 : w16.cell? ⟨gb101, 0, none⟩ = some (.int .i64 a0_0) := (blk_cell BK101.out 0).trans rfl; have hcz17_1 : w16.cell? ⟨gb101, 1, none⟩ = some (.int .i64 a0_1) := (blk_cell BK101.out 1).trans rfl; have hcz17_2 : w16.cell? ⟨gb101, 2, none⟩ = some (.int .i64 a0_2) := (blk_cell BK101.out 2).trans rfl; have hfz17_0 := blk_frozen BK101.out 0; have hfz17_1 := blk_frozen BK101.out 1; have hfz17_2 := blk_frozen BK101.out 2) | ((with_reducible refine gate_callee (f := 61) rfl ?_); refine goesL_ (some 8) rfl rfl Tryd.func61 (by kernel_rfl) rfl #[.int .i64 a0_0] rfl (by (try simp only [List.map_toArray, List.map_cons, List.map_nil]); first | done | rfl | (simp only [List.length_drop, List.length_take]; rfl)) ?_; (with_reducible refine (op_Shape.calls a0_0 t102 t103 _ A2.out (LaidOps.below HL_.out (by repeat (first | (with_reducible first | exact HB.out | apply below_alloc | apply pw_below_drewN | apply below_drew1) | exact HB.out)))).mono ?_); rintro e w18 ⟨rfl, hb⟩; refine ⟨_, rfl, ?_⟩; have n0_ := Aside0.mk (blk_below (g := gb101) (o := .cells #[.int .i64 a0_0, .int .i64 a0_1, .int .i64 a0_2] 47 (0, 0)) (by (with_reducible repeat (first | refine blk_drewN ?_ _ | refine blk_drew ?_ | refine blk_alloc ?_ _)); exact BK101.out) hb); have n1_ := Aside0.mk (below_step (by repeat (first | (with_reducible first | exact HB.out | apply below_alloc | apply pw_below_drewN | apply below_drew1 | refine below_set ?_ GE101.out) | exact HB.out)) hb); clear BK101; clear HB; have BK101 := n0_; have HB := n1_; clear n0_ n1_; (try clear hb); (try clear hb2); (try clear hk); (try clear hi); have hcz19_0 : w18.cell? ⟨gb101, 0, none⟩ = some (.int .i64 a0_0) := (blk_cell BK101.out 0).trans rfl; have hcz19_1 : w18.cell? ⟨gb101, 1, none⟩ = some (.int .i64 a0_1) := (blk_cell BK101.out 1).trans rfl; have hcz19_2 : w18.cell? ⟨gb101, 2, none⟩ = some (.int .i64 a0_2) := (blk_cell BK101.out 2).trans rfl; have hfz19_0 := blk_frozen BK101.out 0; have hfz19_1 := blk_frozen BK101.out 1; have hfz19_2 := blk_frozen BK101.out 2) | ((with_reducible refine gate_callee (f := 62) rfl ?_); refine goesL_ (some 13) rfl rfl Tryd.func62 (by kernel_rfl) rfl #[.int .i64 a0_0] rfl (by (try simp only [List.map_toArray, List.map_cons, List.map_nil]); first | done | rfl | (simp only [List.length_drop, List.length_take]; rfl)) ?_; (with_reducible refine (op_Is.calls a0_0 false _ A3.out).mono ?_); rintro e w' ⟨rfl, ⟨nd, rfl⟩⟩; refine ⟨_, rfl, ?_⟩))
    go_ret
    exact ⟨by first | rfl | (simp [errW_none, errW_some] <;> rfl) | (simp [*, errW_none, errW_some] <;> rfl), by repeat (first | (with_reducible first | exact HB.out | apply below_alloc | apply pw_below_drewN | apply below_drew1 | refine below_set ?_ GE101.out) | exact HB.out)⟩

/-! ### op_Real: function 58 -/
def op_Real.f (a0 : Int) : Option (Bool) := if a0 ≥ 48 then (some (decide (a0 ≤ 55))) else (some false)
set_option maxHeartbeats 8000000 in
set_option maxRecDepth 100000 in
theorem op_Real.calls (a0 : Int) (r : Bool) (w : World) (h : op_Real.f a0 = some r) :
    Calls Tryd.prog 58 #[.int .i64 a0] w fun e w' => e = .returned (.bool r) ∧ Drawn0 w w' := by
  have H : (if a0 ≥ 48 then (some (decide (a0 ≤ 55))) else (some false)) = some r := h
  clear h
  by_cases c2 : a0 ≥ 48
  · rw [if_pos c2] at H
    have c2b0 : decide (48 ≤ a0) = true := decide_eq_true c2
    clear c2
    obtain rfl := Option.some.inj H
    go_enter Tryd.func58, Tryd.ntmps58
    go_wp2
    go_ret
    exact ⟨by first | rfl | (simp; done) | (simp [*]; done), by repeat (first | exact Drawn0.refl _ | apply Drawn0.step)⟩
  · rw [if_neg c2] at H
    have c2b0 : decide (48 ≤ a0) = false := decide_eq_false c2
    clear c2
    obtain rfl := Option.some.inj H
    go_enter Tryd.func58, Tryd.ntmps58
    go_wp2
    go_ret
    exact ⟨by first | rfl | (simp; done) | (simp [*]; done), by repeat (first | exact Drawn0.refl _ | apply Drawn0.step)⟩

/-- THE ONE PURE STATEMENT of op_Real: yours. -/
def op_Real.Pure : Prop := ∀ (a0 : Int), (Lit.int .i64 a0).wf = true → op_Real.f a0 = some true
end Go.Proofs.YthbcliofjfhmbaaDoor.POp
end

section
/- Five bytes as an instruction, as the program reads them; any five bytes, the operations' table as the program lays it. -/
namespace Go.Proofs.YthbcliofjfhmbaaDoor.Given
set_option linter.unusedVariables false
set_option linter.unusedSimpArgs false
open Go.RowKit Go.Proofs.YthbcliofjfhmbaaDoorW.PrintWords Go.Proofs.YthbcliofjfhmbaaDoorW.PrintLast Go.Proofs.YthbcliofjfhmbaaDoorW.PrintMore
open Go.Proofs.YthbcliofjfhmbaaDoor
def right3 (x y z : Int) : Bool := POp.op_Right.f x y z == some true
def isReal (x : Int) : Bool := POp.op_Real.f x == some true
theorem right_some (x y z : Int) : POp.op_Right.f x y z = some (right3 x y z) := by
  have : ∃ r, POp.op_Right.f x y z = some r := by
    unfold POp.op_Right.f op_Shape.f POp.op_Is.f POp.op_may.f
    simp only [Option.bind_some]
    repeat' split
    all_goals first | exact ⟨_, rfl⟩ | (simp only [Option.bind_some]; repeat' split) 
    all_goals first | exact ⟨_, rfl⟩ | (simp only [Option.bind_some]; repeat' split) 
    all_goals exact ⟨_, rfl⟩
  obtain ⟨r, hr⟩ := this
  unfold right3
  rw [hr]
  cases r <;> rfl
theorem real_some (x : Int) : POp.op_Real.f x = some (isReal x) := by
  have : ∃ r, POp.op_Real.f x = some r := by
    unfold POp.op_Real.f
    split <;> exact ⟨_, rfl⟩
  obtain ⟨r, hr⟩ := this
  unfold isReal
  rw [hr]
  cases r <;> rfl
/-- The error of an instruction. -/
def errI (x y z : Int) : Int := if isReal x then 6 else if right3 x y z then 0 else 7
set_option maxHeartbeats 2000000 in
theorem one_calls (A0 : Option Addr) (c0 : Nat) (L : List Int) (x y z : Int) (w : World) (hr0 : Kd.C (Kd.int .u8) w A0 L.length L) (hc0 : L.length ≤ c0) (hl : L.length ≤ 1000000000) (hb : okB L = true)
    (n1 : numR L 0 false 1 = (x, 1, false)) (n2 : numR L 1 false 2 = (y, 3, false)) (n3 : numR L 3 false 2 = (z, 5, false)) (hL : LaidOps w) :
    Calls Tryd.prog 29 #[.slice A0 L.length c0] w fun e w' => e = .returned (.tuple #[.agg #[.int .i64 x, .int .i64 y, .int .i64 z], .int .i64 (errI x y z)]) ∧ Below w.heap.size w w' := by
  have N1 := Aside0.mk n1
  have N2 := Aside0.mk n2
  have N3 := Aside0.mk n3
  have OB := Aside0.mk hb
  have HL := Aside0.mk hL
  clear n1 n2 n3 hb hL
  go_enter Tryd.func29, Tryd.ntmps29
  go_wp2_with fail
  have hW := (Below.refl w.heap.size w).alloc (Nat.le_refl _) (.cells #[.int .i64 0, .int .i64 0, .int .i64 0] 47)
  have hbox : (w.alloc (.cells #[.int .i64 0, .int .i64 0, .int .i64 0] 47)).heap[w.heap.size]? = some (.cells #[.int .i64 0, .int .i64 0, .int .i64 0] 47 (0, 0)) := heap_alloc_new w _
  refine (new_calls A0 c0 L _ (Kd.C_below hr0 hW) hc0 hl).mono ?_
  rintro e w8 ⟨w7, g, rfl, hI8, hb7, hb8⟩
  have hb7' := hb7.size
  have hg : w.heap.size ≠ g := by
    have := hI8.ge
    simp at hb7'
    omega
  have hB7 := hW.trans (hb7.mono hW.size)
  have hx := (hb8.block w.heap.size (by have := hb7.size; simp at this; omega)).trans ((hb7.block w.heap.size (by simp)).trans hbox)
  clear hbox hb7 hb7'
  go_wp2_with fail
  refine (num_calls g w7 _ L 0 false 1 hI8 hb8 OB.out).mono ?_
  rw [N1.out]
  rintro e w9 ⟨rfl, hI9, hb9, hk9⟩
  go_wp2_with fail
  refine (num_calls g w7 _ L 1 false 2 hI9 hb9 OB.out).mono ?_
  rw [N2.out]
  rintro e w10 ⟨rfl, hI10, hb10, hk10⟩
  go_wp2_with fail
  refine (num_calls g w7 _ L 3 false 2 hI10 hb10 OB.out).mono ?_
  rw [N3.out]
  rintro e w11 ⟨rfl, hI11, hb11, hk11⟩
  have hx2 := hk11.blk (hk10.blk (hk9.blk hx hg (by simp)) hg (by simp)) hg (by simp)
  have hB11 := hB7.trans (hb11.mono hB7.size)
  clear hI8 hI9 hI10 hI11 hb8 hb9 hb10 hb11 hk9 hk10 hk11 hx hr0
  have HX := Aside0.mk (((Below.refl w11.heap.size w11).alloc (Nat.le_refl _) (.cells #[.int .i64 x, .int .i64 y, .int .i64 z] 47)).block w.heap.size (blk_lt hx2) |>.trans hx2)
  have hi : (Tryd.prog.info? 47).map (·.size) = some 3 := by kernel_rfl
  have HB := Aside0.mk (hB11.alloc hB11.size (.cells #[.int .i64 x, .int .i64 y, .int .i64 z] 47))
  clear hB11
  have hre := real_some x
  have hri := right_some x y z
  cases hr : isReal x
  · rw [hr] at hre
    have HRe := Aside0.mk hre
    clear hre
    cases hq : right3 x y z
    all_goals (
      rw [hq] at hri
      have HRi := Aside0.mk hri
      first | have HE := Aside0.mk (show errI x y z = 0 by unfold errI; rw [hr, hq]; rfl) | have HE := Aside0.mk (show errI x y z = 7 by unfold errI; rw [hr, hq]; rfl)
      clear hri hq hr
      go_wp2_with fail
      refine (POp.op_Real.calls x false _ HRe.out).mono ?_
      rintro e w12 ⟨rfl, m, rfl⟩
      go_wp2_with fail
      refine (POp.op_Right.calls x y z _ _ HRi.out (HL.out.below (pw_below_drewN HB.out m))).mono ?_
      rintro e w13 ⟨rfl, hb13⟩
      have hB13 := (pw_below_drewN HB.out m).trans (hb13.mono (pw_below_drewN HB.out m).size)
      have hbi : w13.heap[w11.heap.size]? = some (.cells #[.int .i64 x, .int .i64 y, .int .i64 z] 47 (0, 0)) := (hb13.block w11.heap.size (blk_lt (w := (w11.alloc (.cells #[.int .i64 x, .int .i64 y, .int .i64 z] 47)).drewN m) (heap_alloc_new w11 _))).trans (heap_alloc_new w11 _)
      have q0 : w13.cell? ⟨w11.heap.size, 0, none⟩ = some (.int .i64 x) := (blk_cell hbi 0).trans rfl
      have q1 : w13.cell? ⟨w11.heap.size, 1, none⟩ = some (.int .i64 y) := (blk_cell hbi 1).trans rfl
      have q2 : w13.cell? ⟨w11.heap.size, 2, none⟩ = some (.int .i64 z) := (blk_cell hbi 2).trans rfl
      have hx3 := (hb13.block w.heap.size (blk_lt (w := (w11.alloc (.cells #[.int .i64 x, .int .i64 y, .int .i64 z] 47)).drewN m) HX.out)).trans HX.out
      go_wp2_with (first | ((with_reducible refine gate_store (t := 47) (p := 2) (v := .tmp 24) rfl ?_); refine wpList_store_row rfl 47 (.tmp 2) (.tmp 24) rfl w.heap.size #[.int .i64 x, .int .i64 y, .int .i64 z] rfl rfl 47 _ hx3 (by rw [hi]; rfl) rfl (by kernel_rfl) ?_) | ((with_reducible refine gate_store (t := 47) (p := 2) (v := .tmp 25) rfl ?_); refine wpList_store_row rfl 47 (.tmp 2) (.tmp 25) rfl w.heap.size #[.int .i64 x, .int .i64 y, .int .i64 z] rfl rfl 47 _ hx3 (by rw [hi]; rfl) rfl (by kernel_rfl) ?_))
      refine bodyPost_ret (results_ct rfl _ _ w.heap.size 47 #[.int .i64 x, .int .i64 y, .int .i64 z] (0, 0) _ rfl (setRow_heap _ _ _ _ _ _ hx3) Tryd.underlying47 rfl hi) rfl ?_
      rw [HE.out]
      exact ⟨rfl, below_setRow hB13 (Nat.le_refl _) _⟩)
  · rw [hr] at hre
    have HRe := Aside0.mk hre
    have HE := Aside0.mk (show errI x y z = 6 by unfold errI; rw [hr]; rfl)
    clear hre hr hri
    go_wp2_with fail
    refine (POp.op_Real.calls x true _ HRe.out).mono ?_
    rintro e w12 ⟨rfl, m, rfl⟩
    go_wp2_with ((with_reducible refine gate_store (t := 47) (p := 2) (v := .tmp 19) rfl ?_); refine wpList_store_row rfl 47 (.tmp 2) (.tmp 19) rfl w.heap.size #[.int .i64 x, .int .i64 y, .int .i64 z] rfl rfl 47 _ HX.out (by rw [hi]; rfl) rfl (by kernel_rfl) ?_)
    refine bodyPost_ret (results_ct rfl _ _ w.heap.size 47 #[.int .i64 x, .int .i64 y, .int .i64 z] (0, 0) _ rfl (setRow_heap _ _ _ _ _ _ (show ((w11.alloc (.cells #[.int .i64 x, .int .i64 y, .int .i64 z] 47)).drewN m).heap[w.heap.size]? = _ from HX.out)) Tryd.underlying47 rfl hi) rfl ?_
    rw [HE.out]
    exact ⟨rfl, below_setRow (pw_below_drewN HB.out m) (Nat.le_refl _) _⟩
end Go.Proofs.YthbcliofjfhmbaaDoor.Given
end

section
/- Instructions' bytes, plainly: what is encoded, and what bytes say; the program's and the document's tell the same. -/
namespace Go.Proofs.YthbcliofjfhmbaaDoor.UPure
open Go.RowKit Go.Proofs.YthbcliofjfhmbaaDoor.PUni Go.Proofs.YthbcliofjfhmbaaDoor.Given Go.Proofs.YthbcliofjfhmbaaDoorW.PrintWords Go.Proofs.YthbcliofjfhmbaaDoorW.PrintLast
set_option linter.unusedVariables false
set_option linter.unusedSimpArgs false
theorem w64 (x : Int) (h0 : -9223372036854775808 ≤ x) (h1 : x < 9223372036854775808) : wrap64 x = x := by unfold wrap64; omega
def mayF (n w : Int) : Bool := if w = 0 then n == 0 else decide (0 ≤ n) && decide (n ≤ 65535)
theorem may_is (n w : Int) : op_may.f n w = some (mayF n w) := by
  unfold op_may.f mayF
  by_cases h : w = 0
  · rw [if_pos h, if_pos h]
  · rw [if_neg h, if_neg h]
    by_cases h0 : 0 ≤ n
    · rw [if_pos h0]; simp [h0]
    · rw [if_neg h0]; simp [h0]
theorem is_is (x : Int) : op_Is.f x = some (isOp x) := by
  unfold op_Is.f isOp
  by_cases h0 : 0 ≤ x
  · rw [if_pos h0]; simp [h0]
  · rw [if_neg h0]; simp [h0]
theorem right_is (x y z : Int) : right3 x y z = (isOp x && mayF y (shapeA x) && mayF z (shapeB x)) := by
  have h : op_Right.f x y z = some (right3 x y z) := right_some x y z
  have h2 : op_Right.f x y z = some (isOp x && mayF y (shapeA x) && mayF z (shapeB x)) := by
    unfold op_Right.f op_Shape.f
    simp only [Option.bind_some, is_is, may_is]
    cases isOp x <;> cases mayF y (shapeA x) <;> simp
  exact Option.some.inj (h.symm.trans h2)
theorem rmay_is (n w : Int) : ladderbackref12_may.f n w = some (mayF n w) := by
  unfold ladderbackref12_may.f mayF
  by_cases hn : n = 0
  · rw [if_pos hn]; subst hn; by_cases h : w = 0 <;> simp [h]
  · rw [if_neg hn]
    by_cases h : w = 0
    · rw [if_pos h, if_pos h]; simp [hn]
    · rw [if_neg h, if_neg h]
      by_cases h0 : n > 0
      · rw [if_pos h0]
        congr 1
        rw [Bool.eq_iff_iff]
        simp
        omega
      · rw [if_neg h0]
        congr 1
        rw [Bool.eq_iff_iff]
        simp
        omega
theorem shapes : ∀ n : Fin 38, ladderbackref12_Shape.f 3 (n.val : Int) = some (shapeA n.val, shapeB n.val) := by decide +kernel
theorem shape_more (x : Int) : ∀ d, ladderbackref12_Shape.f 3 x = some (shapeA x, shapeB x) → ladderbackref12_Shape.f (3 + d) x = some (shapeA x, shapeB x) := by
  intro d h
  induction d with
  | zero => exact h
  | succ d ih => exact ladderbackref12_Shape.mono x (3 + d) _ ih
theorem rshape (x : Int) (k : Nat) (hk : 3 ≤ k) : ladderbackref12_Shape.f k x = some (shapeA x, shapeB x) := by
  rw [show k = 3 + (k - 3) by omega]
  refine shape_more x _ ?_
  by_cases h : isOp x = true
  · unfold isOp at h
    simp only [Bool.and_eq_true, decide_eq_true_eq] at h
    obtain ⟨n, rfl⟩ := Int.eq_ofNat_of_zero_le h.1
    exact shapes ⟨n, by omega⟩
  · unfold shapeA shapeB
    rw [if_neg h, if_neg h]
    unfold isOp at h
    simp only [Bool.and_eq_true, decide_eq_true_eq, not_and] at h
    unfold ladderbackref12_Shape.f
    by_cases h0 : x < 0
    · rw [if_pos h0]; rfl
    · rw [if_neg h0, decide_eq_true (by omega)]; rfl
theorem rright (x y z : Int) (k : Nat) (hk : 3 ≤ k) : ladderbackref12_Right.f k x y z = some (right3 x y z) := by
  rw [right_is]
  unfold ladderbackref12_Right.f
  rw [rshape x k hk]
  simp only [Option.bind_some, rmay_is]
  unfold isOp
  by_cases h0 : x ≥ 0
  · rw [if_pos h0]
    by_cases h1 : x ≤ 37
    · rw [if_pos h1, decide_eq_true (show 0 ≤ x from h0), decide_eq_true (show x < 38 by omega)]
      cases mayF y (shapeA x) <;> simp
    · rw [if_neg h1, decide_eq_false (show ¬ x < 38 by omega)]; simp
  · rw [if_neg h0, decide_eq_false h0]; simp
theorem real_is (x : Int) : isReal x = (decide (48 ≤ x) && decide (x ≤ 55)) := by
  have h := real_some x
  unfold POp.op_Real.f at h
  by_cases h0 : x ≥ 48
  · rw [if_pos h0] at h
    rw [← Option.some.inj h]; simp [h0]
  · rw [if_neg h0] at h
    rw [← Option.some.inj h]; simp [h0]
end Go.Proofs.YthbcliofjfhmbaaDoor.UPure
end

section
/- Instructions' bytes, plainly, as the units' laws reach them. -/
namespace Go.Proofs.YthbcliofjfhmbaaDoor.UPure
open Go.RowKit Go.Proofs.YthbcliofjfhmbaaDoor.PUni Go.Proofs.YthbcliofjfhmbaaDoor.Given Go.Proofs.YthbcliofjfhmbaaDoorW.PrintWords Go.Proofs.YthbcliofjfhmbaaDoorW.PrintLast
set_option linter.unusedVariables false
set_option linter.unusedSimpArgs false
/-! ### Encoding -/
def enc1 (i : S47) : List Int := [i.f0 % 256, i.f1 % 256, i.f1 / 256 % 256, i.f2 % 256, i.f2 / 256 % 256]
def encF : List S47 → List Int
  | [] => []
  | i :: t => enc1 i ++ encF t
def allR : List S47 → Bool
  | [] => true
  | i :: t => right3 i.f0 i.f1 i.f2 && allR t
theorem enc_len : ∀ l : List S47, (encF l).length = 5 * l.length
  | [] => rfl
  | i :: t => by simp only [encF, List.length_append, enc_len t, enc1, List.length_cons, List.length_nil]; omega
theorem enc_byte : ∀ l : List S47, ∀ x ∈ encF l, 0 ≤ x ∧ x < 256
  | [], x, h => by cases h
  | i :: t, x, h => by
    rcases List.mem_append.1 h with h | h
    · unfold enc1 at h
      simp only [List.mem_cons, List.not_mem_nil, or_false] at h
      omega
    · exact enc_byte t x h
theorem rd47_drop (l : List S47) (i : Nat) (h : i < l.length) : l.drop i = rd_T47 l (i : Int) :: l.drop (i + 1) := by
  unfold rd_T47
  rw [Int.toNat_natCast, List.getD_eq_getElem?_getD, List.getElem?_eq_getElem h, Option.getD_some]
  exact List.drop_eq_getElem_cons h
theorem enc_l0 (l : List S47) (hz : l.length ≤ 100000) : ∀ (d i k : Nat) (out : List Int), i + d = l.length → d < k → out.length ≤ 5 * i →
    code_Encode.l0 k out l (l.length : Int) (i : Int) = if allR (l.drop i) = true then some (out ++ encF (l.drop i), true) else some ([], false) := by
  intro d
  induction d with
  | zero =>
    intro i k out h1 h2 h3
    obtain ⟨k, rfl⟩ : ∃ m, k = m + 1 := ⟨k - 1, by omega⟩
    unfold code_Encode.l0
    rw [if_neg (by omega), List.drop_eq_nil_of_le (by omega)]
    simp [allR, encF]
  | succ d ih =>
    intro i k out h1 h2 h3
    obtain ⟨k, rfl⟩ : ∃ m, k = m + 1 := ⟨k - 1, by omega⟩
    unfold code_Encode.l0
    rw [if_pos (by omega), if_pos (by omega), if_pos (by omega), rd47_drop l i (by omega)]
    generalize rd_T47 l (i : Int) = x
    have hr : op_Right.f x.f0 x.f1 x.f2 = some (right3 x.f0 x.f1 x.f2) := right_some x.f0 x.f1 x.f2
    rw [hr]
    simp only [Option.bind_some]
    rw [show encF (x :: l.drop (i + 1)) = enc1 x ++ encF (l.drop (i + 1)) from rfl]
    by_cases hq : right3 x.f0 x.f1 x.f2 = true
    · rw [if_pos hq, show allR (x :: l.drop (i + 1)) = allR (l.drop (i + 1)) by show (right3 x.f0 x.f1 x.f2 && _) = _; rw [hq, Bool.true_and]]
      rw [if_pos (by simp only [List.length_cons, List.length_nil]; omega), w64 _ (by omega) (by omega)]
      have := ih (i + 1) k (out ++ enc1 x) (by omega) (by omega) (by simp only [List.length_append, enc1, List.length_cons, List.length_nil]; omega)
      rw [show ((i + 1 : Nat) : Int) = (i : Int) + 1 by omega] at this
      unfold enc1 at this ⊢
      rw [this, List.append_assoc]
    · rw [if_neg hq, show allR (x :: l.drop (i + 1)) = false by show (right3 x.f0 x.f1 x.f2 && _) = _; simp [hq]]
      simp
theorem enc_is (l : List S47) (k : Nat) (hz : l.length ≤ 100000) (hk : l.length < k) : code_Encode.f k l = if allR l = true then some (encF l, true) else some ([], false) := by
  have := enc_l0 l hz l.length 0 k [] (by omega) hk (by simp)
  rw [List.drop_zero, List.nil_append] at this
  exact this
theorem may_lim {n w : Int} (h : mayF n w = true) : 0 ≤ n ∧ n ≤ 65535 := by
  unfold mayF at h
  split at h
  · have := eq_of_beq h; omega
  · simpa using h
theorem right_lim {x y z : Int} (h : right3 x y z = true) : (0 ≤ x ∧ x < 38) ∧ (0 ≤ y ∧ y ≤ 65535) ∧ (0 ≤ z ∧ z ≤ 65535) := by
  rw [right_is] at h
  simp only [Bool.and_eq_true] at h
  have h0 := h.1.1
  unfold isOp at h0
  exact ⟨by simpa using h0, may_lim h.1.2, may_lim h.2⟩
theorem err_right {x y z : Int} (h : right3 x y z = true) : errI x y z = 0 := by
  have := right_lim h
  unfold errI
  rw [real_is, decide_eq_false (by omega : ¬ 48 ≤ x), h]
  rfl
theorem right_err {x y z : Int} (h : errI x y z = 0) : right3 x y z = true := by
  unfold errI at h
  split at h
  · omega
  · split at h
    · assumption
    · omega
end Go.Proofs.YthbcliofjfhmbaaDoor.UPure
end

section
/- Printed by a program of this session (wip/pg.py, over the print of the kit): functions, their Lean twins, and the proofs that the calls come to them; each under the conditions that it names. -/
namespace Go.Proofs.YthbcliofjfhmbaaDoor.PUni
open Go.Proofs.YthbcliofjfhmbaaDoor.Given
open Go.RowKit Go.Proofs.YthbcliofjfhmbaaDoorW.PrintWords Go.Proofs.YthbcliofjfhmbaaDoorW.PrintLast Go.Proofs.YthbcliofjfhmbaaDoorW.PrintMore
attribute [local go_sem] max2_int min2_int max_two min_two max_three min_three max_four min_four   -- for this text's walks alone
set_option linter.unusedVariables false
set_option linter.unusedSimpArgs false

/-! ### ladderbackref13_Encode: function 14 -/
def ladderbackref13_Encode.l0 : Nat → List (S47) → List Int → Int → Option (List Int × Bool)
  | 0, _, _, _ => none
  | k + 1, x0, x4, x5 => if x5 < (x0.length : Int) then (if 0 ≤ x5 then ((ladderbackref12_Right.f k ((rd_T47 x0 x5).f0) ((rd_T47 x0 x5).f1) ((rd_T47 x0 x5).f2)).bind fun t186 => (if t186 = true then ((ladderbackref03_Put.f k x4 1 ((rd_T47 x0 x5).f0)).bind fun t188 => ((ladderbackref03_Put.f k t188 2 ((rd_T47 x0 x5).f1)).bind fun t192 => ((ladderbackref03_Put.f k t192 2 ((rd_T47 x0 x5).f2)).bind fun t196 => (ladderbackref13_Encode.l0 k x0 t196 (wrap64 (x5 + 1)))))) else (some (([] : List Int), false)))) else (none)) else (some (x4, true))
def ladderbackref13_Encode.f (k : Nat) (l0 : List (S47)) : Option (List Int × Bool) := ladderbackref13_Encode.l0 k l0 ([] : List Int) 0
def ladderbackref13_Encode.T7 : Bool × List (List Nat × List Nat) := (true, [([], []), ([], []), ([], []), ([1, 2], [1, 2]), ([3], [3]), ([4], [4]), ([0, 5], [0, 5]), ([], []), ([], []), ([7, 8], [7, 8]), ([9], [9]), ([10], [10]), ([6, 11, 6], [6, 11]), ([], []), ([], []), ([13, 14], [13, 14]), ([15], [15]), ([16], [16]), ([12, 17, 12], [12, 17]), ([18, 18, 0, 1, 2, 3, 4, 5, 6, 7, 8, 9, 10, 11, 12, 13, 14, 15, 16, 17, 18], [0, 18])])
def ladderbackref13_Encode.B7 : List Nat := [0, 0, 0, 6, 14, 30, 63, 0, 0, 384, 896, 1920, 4095, 0, 0, 24576, 57344, 122880, 262143, 524287]
/-! ### ladderbackref15_bytes: function 69 -/
def ladderbackref15_bytes.l0 : Nat → List Int → Int → Option (Bool)
  | 0, _, _ => none
  | k + 1, x0, x3 => if x3 < (x0.length : Int) then (if 0 ≤ x3 then (if (rd x0 x3) < 0 then (some false) else (if (rd x0 x3) > 255 then (some false) else (ladderbackref15_bytes.l0 k x0 (wrap64 (x3 + 1))))) else (none)) else (some true)
def ladderbackref15_bytes.f (k : Nat) (l0 : List Int) : Option (Bool) := ladderbackref15_bytes.l0 k l0 0
end Go.Proofs.YthbcliofjfhmbaaDoor.PUni
end

section
/- Printed by a program of this session (wip/pg.py, over the print of the kit): functions, their Lean twins, and the proofs that the calls come to them; each under the conditions that it names. -/
namespace Go.Proofs.YthbcliofjfhmbaaDoor.PUni
open Go.Proofs.YthbcliofjfhmbaaDoor.Given
open Go.RowKit Go.Proofs.YthbcliofjfhmbaaDoorW.PrintWords Go.Proofs.YthbcliofjfhmbaaDoorW.PrintLast Go.Proofs.YthbcliofjfhmbaaDoorW.PrintMore
attribute [local go_sem] max2_int min2_int max_two min_two max_three min_three max_four min_four   -- for this text's walks alone
set_option linter.unusedVariables false
set_option linter.unusedSimpArgs false

/-! ### ladderbackref15_Fits: function 42 -/
def ladderbackref15_Fits.l0 : Nat → Int → ByteArray → List Int → Int → List Int → List (S47) → Option (Bool)
  | 0, _, _, _, _, _, _ => none
  | k + 1, x3, x202000, x202001, x202002, x202003, x202004 => if x3 < (x202004.length : Int) then (if 0 ≤ x3 then ((ladderbackref12_Right.f k ((rd_T47 x202004 x3).f0) ((rd_T47 x202004 x3).f1) ((rd_T47 x202004 x3).f2)).bind fun t203 => (if t203 = true then (ladderbackref15_Fits.l0 k (wrap64 (x3 + 1)) x202000 x202001 x202002 x202003 x202004) else (some false))) else (none)) else (if (x202000.size : Int) < 256 then (if (x202001.length : Int) ≤ 8 then (if (x202003.length : Int) ≤ 1024 then (if (x202004.length : Int) ≤ 16384 then ((ladderbackref15_bytes.f k x202001).bind fun t204 => (if t204 = true then ((ladderbackref15_bytes.f k x202003).bind fun t205 => (if t205 = true then (if x202002 ≥ 0 then (some (decide (x202002 < 256))) else (some false)) else (some false))) else (some false))) else (some false)) else (some false)) else (some false)) else (some false))
def ladderbackref15_Fits.f (k : Nat) (a0_0 : ByteArray) (l0_1 : List Int) (a0_2 : Int) (l0_3 : List Int) (l0_4 : List (S47)) : Option (Bool) := ladderbackref15_Fits.l0 k 0 a0_0 l0_1 a0_2 l0_3 l0_4
/-! ### ladderbackref03_Text: function 43 -/
mutual
def ladderbackref03_Text.j0 : Nat → List Int → ByteArray → Option (List Int)
  | 0, _, _ => none
  | k + 1, x0, x1 => (some (([] : List Int) : List Int)).bind fun y206 => (if y206.length + x0.length < 140737488355328 then ((some (y206 ++ x0 : List Int)).bind fun y209 => (if y209.length < 140737488355328 then (ladderbackref03_Text.l0 k x1 (y209 ++ [((x1.size : Int)) % 256]) 0) else (none))) else (none))
def ladderbackref03_Text.l0 : Nat → ByteArray → List Int → Int → Option (List Int)
  | 0, _, _, _ => none
  | k + 1, x1, x5, x6 => if x6 < (x1.size : Int) then (if 0 ≤ x6 then (if x5.length < 140737488355328 then (ladderbackref03_Text.l0 k x1 (x5 ++ [bt x1 x6]) (wrap64 (x6 + 1))) else (none)) else (none)) else (some x5)
end
def ladderbackref03_Text.f (k : Nat) (l0 : List Int) (a1 : ByteArray) : Option (List Int) := if (a1.size : Int) > 255 then (if 0 ≤ 255 then (if 255 ≤ (a1.size : Int) then (ladderbackref03_Text.j0 k l0 (a1.extract 0 255)) else (none)) else (none)) else (ladderbackref03_Text.j0 k l0 a1)
end Go.Proofs.YthbcliofjfhmbaaDoor.PUni
end

section
/- What the reference of octet puts: the same as the program, for bytes of at most 1000000 in length. -/
namespace Go.Proofs.YthbcliofjfhmbaaDoor.UPure
open Go.RowKit Go.Proofs.YthbcliofjfhmbaaDoorW.PrintWords Go.Proofs.YthbcliofjfhmbaaDoorW.PrintLast Go.Proofs.YthbcliofjfhmbaaDoorW.PrintMore Go.Proofs.YthbcliofjfhmbaaDoor.Given Go.Proofs.YthbcliofjfhmbaaDoor.PUni
theorem bytesOf_length (s : ByteArray) : (bytesOf s).length = s.size := by simp [bytesOf]
end Go.Proofs.YthbcliofjfhmbaaDoor.UPure
end
