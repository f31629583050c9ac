/- Printed by a program of this session (wip/pg.py, over the print of the kit): functions, their Lean twins, and the proofs that the calls come to them; each under the conditions that it names. -/
import Derived.Test.YtdbfgfgbjheibaaDoorZBoxDecodesq
import Derived.Test.YtdbfgfgbjheibaaDoorProg
import Derived.Below
import Derived.Deep.Draws
import Derived.Deep.AppendLies
import Derived.Maps.AppendAt
import Derived.OwnWalk
import Derived.Laws.BytesArg
import Derived.Laws.MakeOwn
import Derived.Laws.OwnMore
import Derived.Deep.OwnRows
import Derived.Tactics
import Derived.Lib.ConvBytes
import Derived.Laws.Slices
import Derived.WalkKit
import Derived.KernelRfl
import Derived.RowKit3
import Derived.Deep.LoopGhost
import Derived.Deep.QuietTactic
import Derived.BigQuiet
import Derived.WideLaws
import Derived.Deep.DeepCutAuto
import Derived.Deep.CutBlock
import Derived.Deep.RegionHeld3
import Derived.Laws.Rows
import Derived.Lib.AppendStr
import Derived.ArgAppend
import Derived.Laws.IdiomCopy
import Derived.OrdersHeld
import Derived.Laws.BitsLemmas
import Derived.RowKit
import Derived.Test.YtdbfgfgbjheibaaDoorZBoxDecodesaa
import Derived.Test.YtdbfgfgbjheibaaDoorZBoxDecodesab
import Derived.Test.YtdbfgfgbjheibaaDoorZBoxDecodesai
section
/- Printed by a program of this session (wip/pg.py, over the print of the kit): functions, their Lean twins, and the proofs that the calls come to them; each under the conditions that it names. -/
namespace Go.Proofs.YtdbfgfgbjheibaaDoor.POp
open Go.Proofs.YtdbfgfgbjheibaaDoor.Given
open Go.RowKit Go.Proofs.YtdbfgfgbjheibaaDoorW.PrintWords Go.Proofs.YtdbfgfgbjheibaaDoorW.PrintLast Go.Proofs.YtdbfgfgbjheibaaDoorW.PrintMore
attribute [local go_sem] max2_int min2_int max_two min_two max_three min_three max_four min_four   -- for this text's walks alone
set_option linter.unusedVariables false
set_option linter.unusedSimpArgs false

/-! ### op_Is: function 116 -/
def op_Is.f (a0 : Int) : Option (Bool) := if a0 ≥ 0 then (some (decide (a0 < 38))) else (some false)
set_option maxHeartbeats 8000000 in
set_option maxRecDepth 100000 in
theorem op_Is.calls (a0 : Int) (r : Bool) (w : World) (h : op_Is.f a0 = some r) :
  Calls Tryd.prog 116 #[.int .i64 a0] w fun e w' => e = .returned (.bool r) ∧ Drawn0 w w' := by
 have H : (if a0 ≥ 0 then (some (decide (a0 < 38))) else (some false)) = some r := h
 clear h
 by_cases c2 : a0 ≥ 0
 ·rw [if_pos c2] at H
  have c2b0 : decide (0 ≤ a0) = true := decide_eq_true c2
  clear c2
  obtain rfl := zJ H
  go_enter Tryd.func116, Tryd.ntmps116
  go_wp2
  go_ret
  exact ⟨by first | rfl | (simp; done) | (simp [*]; done), by repeat (first | exact z4 _ | apply z3)⟩
 ·rw [if_neg c2] at H
  have c2b0 : decide (0 ≤ a0) = false := decide_eq_false c2
  clear c2
  obtain rfl := zJ H
  go_enter Tryd.func116, Tryd.ntmps116
  go_wp2
  go_ret
  exact ⟨by first | rfl | (simp; done) | (simp [*]; done), by repeat (first | exact z4 _ | apply z3)⟩

/-! ### op_may: function 117 -/
def op_may.f (a0 : Int) (a1 : Int) : Option (Bool) := if a1 = 0 then (some (a0 == 0)) else (if a0 ≥ 0 then (some (decide (a0 ≤ 65535))) else (some false))
set_option maxHeartbeats 8000000 in
set_option maxRecDepth 100000 in
theorem op_may.calls (a0 : Int) (a1 : Int) (r : Bool) (w : World) (h : op_may.f a0 a1 = some r) :
  Calls Tryd.prog 117 #[.int .i64 a0, .int .i64 a1] w fun e w' => e = .returned (.bool r) ∧ Drawn0 w w' := by
 have H : (if a1 = 0 then (some (a0 == 0)) else (if a0 ≥ 0 then (some (decide (a0 ≤ 65535))) else (some false))) = some r := h
 clear h
 by_cases c3 : a1 = 0
 ·rw [if_pos c3] at H
  have c3b0 : (a1 == 0) = true := beq_iff_eq.mpr c3
  have c3b1 : (a1 != 0) = false := bne_eq_false_iff_eq.mpr c3
  clear c3
  obtain rfl := zJ H
  go_enter Tryd.func117, Tryd.ntmps117
  go_wp2
  go_ret
  exact ⟨by first | rfl | (simp; done) | (simp [*]; done), by repeat (first | exact z4 _ | apply z3)⟩
 ·rw [if_neg c3] at H
  have c3b0 : (a1 == 0) = false := beq_eq_false_iff_ne.mpr c3
  have c3b1 : (a1 != 0) = true := bne_iff_ne.mpr c3
  by_cases c4 : a0 ≥ 0
  ·rw [if_pos c4] at H
   have c4b0 : decide (0 ≤ a0) = true := decide_eq_true c4
   clear c4
   obtain rfl := zJ H
   go_enter Tryd.func117, Tryd.ntmps117
   go_wp2
   go_ret
   exact ⟨by first | rfl | (simp; done) | (simp [*]; done), by repeat (first | exact z4 _ | apply z3)⟩
  ·rw [if_neg c4] at H
   have c4b0 : decide (0 ≤ a0) = false := decide_eq_false c4
   clear c4
   obtain rfl := zJ H
   go_enter Tryd.func117, Tryd.ntmps117
   go_wp2
   go_ret
   exact ⟨by first | rfl | (simp; done) | (simp [*]; done), by repeat (first | exact z4 _ | apply z3)⟩

/-! ### op_Right: function 105 -/
def op_Right.f (a0_0 : Int) (a0_1 : Int) (a0_2 : Int) : Option (Bool) := (op_Shape.f a0_0).bind fun bt102 => ((op_Is.f a0_0).bind fun t104 => (if t104 = true then ((op_may.f a0_1 bt102.1).bind fun t105 => (if t105 = true then ((op_may.f a0_2 bt102.2).bind fun t106 => (some t106)) else (some false))) else (some false)))
set_option maxHeartbeats 8000000 in
set_option maxRecDepth 100000 in
theorem op_Right.calls (a0_0 : Int) (a0_1 : Int) (a0_2 : Int) (r : Bool) (w : World) (h : op_Right.f a0_0 a0_1 a0_2 = some r) (hL_ : LaidOps w) :
  Calls Tryd.prog 105 #[.agg #[.int .i64 a0_0, .int .i64 a0_1, .int .i64 a0_2]] w fun e w' => e = .returned (.bool r) ∧ Below w.heap.size w w' := by
 have HL_ := zA hL_
 clear hL_
 have hu109 := Tryd.underlying109
 have HB := zA (zX w.heap.size w)
 have H : ((op_Shape.f a0_0).bind fun bt102 => ((op_Is.f a0_0).bind fun t104 => (if t104 = true then ((op_may.f a0_1 bt102.1).bind fun t105 => (if t105 = true then ((op_may.f a0_2 bt102.2).bind fun t106 => (some t106)) else (some false))) else (some false)))) = some r := h
 clear h
 replace H := Option.bind_eq_some_iff.mp H
 obtain ⟨⟨t102, t103⟩, A20, H⟩ := H
 replace H : ((op_Is.f a0_0).bind fun t104 => (if t104 = true then ((op_may.f a0_1 t102).bind fun t105 => (if t105 = true then ((op_may.f a0_2 t103).bind fun t106 => (some t106)) else (some false))) else (some false))) = some r := H
 have A2 := zA A20
 clear A20
 replace H := Option.bind_eq_some_iff.mp H
 obtain ⟨t104, A30, H⟩ := H
 replace H : (if t104 = true then ((op_may.f a0_1 t102).bind fun t105 => (if t105 = true then ((op_may.f a0_2 t103).bind fun t106 => (some t106)) else (some false))) else (some false)) = some r := H
 have A3 := zA A30
 clear A30
 by_cases c4 : t104 = true
 ·subst c4
  have H1 : ((op_may.f a0_1 t102).bind fun t105 => (if t105 = true then ((op_may.f a0_2 t103).bind fun t106 => (some t106)) else (some false))) = some r := by rw [if_pos rfl] at H; exact H
  clear H
  have H := H1
  clear H1
  replace H := Option.bind_eq_some_iff.mp H
  obtain ⟨t105, A50, H⟩ := H
  replace H : (if t105 = true then ((op_may.f a0_2 t103).bind fun t106 => (some t106)) else (some false)) = some r := H
  have A5 := zA A50
  clear A50
  by_cases c6 : t105 = true
  ·subst c6
   have H1 : ((op_may.f a0_2 t103).bind fun t106 => (some t106)) = some r := by rw [if_pos rfl] at H; exact H
   clear H
   have H := H1
   clear H1
   replace H := Option.bind_eq_some_iff.mp H
   obtain ⟨t106, A70, H⟩ := H
   replace H : (some t106) = some r := H
   have A7 := zA A70
   clear A70
   obtain rfl := zJ H
   go_enter Tryd.func105, Tryd.ntmps105
   go_wp2_with (first | ((with_reducible refine gate_dst (N := 1) rfl ?_); refine box_event ?hg (N := 1) ?hd (cs := #[.int .i64 a0_0, .int .i64 a0_1, .int .i64 a0_2]) (t := 109) ?hr ?_; (case hd => rfl); (case hg => rfl); (case hr => first | (go_simp; done) | (go_simp; rfl)); intro gb101 hg w8 hbox hb; have BK101 := zA (hbox); have GW101 := zA ((by rw [hg]; exact (below_size (by repeat (first | (with_reducible first | exact HB.out | apply zB | apply zN | apply below_drew1) | exact HB.out))) : w.heap.size ≤ gb101)); have GE101 := GW101; replace HB := zA (below_step (by repeat (first | (with_reducible first | exact HB.out | apply zB | apply zN | apply below_drew1) | exact HB.out)) hb); clear hb hbox hg; have hcz9_0 : w8.cell? ⟨gb101, 0, none⟩ = some (.int .i64 a0_0) := (zC BK101.out 0).trans rfl; have hcz9_1 : w8.cell? ⟨gb101, 1, none⟩ = some (.int .i64 a0_1) := (zC BK101.out 1).trans rfl; have hcz9_2 : w8.cell? ⟨gb101, 2, none⟩ = some (.int .i64 a0_2) := (zC BK101.out 2).trans rfl; have hfz9_0 := zF BK101.out 0; have hfz9_1 := zF BK101.out 1; have hfz9_2 := zF BK101.out 2) | ((with_reducible refine gate_callee (f := 115) rfl ?_); refine goesL_ (some 8) rfl rfl Tryd.func115 (by kernel_rfl) rfl #[.int .i64 a0_0] rfl (by (try simp only [zm, zc, zn]); first | done | rfl | (simp only [zd, zt]; rfl)) ?_; (with_reducible refine (op_Shape.calls a0_0 t102 t103 _ A2.out (LaidOps.below HL_.out (by repeat (first | (with_reducible first | exact HB.out | apply zB | apply zN | apply below_drew1 | refine zE ?_ GE101.out) | exact HB.out)))).mono ?_); rintro e w10 ⟨rfl, hb⟩; refine ⟨_, rfl, ?_⟩; replace BK101 := zA (zQ (g := gb101) (o := .cells #[.int .i64 a0_0, .int .i64 a0_1, .int .i64 a0_2] 109 (0, 0)) (by (with_reducible repeat (first | refine zG ?_ _ | refine zH ?_)); exact BK101.out) hb); replace HB := zA (below_step (by repeat (first | (with_reducible first | exact HB.out | apply zB | apply zN | apply below_drew1 | refine zE ?_ GE101.out) | exact HB.out)) hb); (try clear hb); (try clear hb2); (try clear hk); (try clear hi); have hcz11_0 : w10.cell? ⟨gb101, 0, none⟩ = some (.int .i64 a0_0) := (zC BK101.out 0).trans rfl; have hcz11_1 : w10.cell? ⟨gb101, 1, none⟩ = some (.int .i64 a0_1) := (zC BK101.out 1).trans rfl; have hcz11_2 : w10.cell? ⟨gb101, 2, none⟩ = some (.int .i64 a0_2) := (zC BK101.out 2).trans rfl; have hfz11_0 := zF BK101.out 0; have hfz11_1 := zF BK101.out 1; have hfz11_2 := zF BK101.out 2) | ((with_reducible refine gate_callee (f := 116) rfl ?_); refine goesL_ (some 13) rfl rfl Tryd.func116 (by kernel_rfl) rfl #[.int .i64 a0_0] rfl (by (try simp only [zm, zc, zn]); first | done | rfl | (simp only [zd, zt]; rfl)) ?_; (with_reducible refine (op_Is.calls a0_0 true _ A3.out).mono ?_); rintro e w' ⟨rfl, ⟨nd, rfl⟩⟩; refine ⟨_, rfl, ?_⟩) | (go_at_call 117; (with_reducible refine (op_may.calls a0_1 t102 true _ A5.out).mono ?_); rintro e w' ⟨rfl, ⟨nd, rfl⟩⟩) | (go_at_call 117; (with_reducible refine (op_may.calls a0_2 t103 t106 _ A7.out).mono ?_); rintro e w' ⟨rfl, ⟨nd, rfl⟩⟩))
   go_ret
   exact ⟨by first | rfl | (simp [errW_none, errW_some] <;> rfl) | (simp [*, errW_none, errW_some] <;> rfl), by repeat (first | (with_reducible first | exact HB.out | apply zB | apply zN | apply below_drew1 | refine zE ?_ GE101.out) | exact HB.out)⟩
  ·replace c6 := Bool.eq_false_iff.mpr c6
   subst c6
   have H1 : (some false) = some r := by rw [if_neg (show ¬ (false = true) by decide)] at H; exact H
   clear H
   have H := H1
   clear H1
   obtain rfl := zJ H
   go_enter Tryd.func105, Tryd.ntmps105
   go_wp2_with (first | ((with_reducible refine gate_dst (N := 1) rfl ?_); refine box_event ?hg (N := 1) ?hd (cs := #[.int .i64 a0_0, .int .i64 a0_1, .int .i64 a0_2]) (t := 109) ?hr ?_; (case hd => rfl); (case hg => rfl); (case hr => first | (go_simp; done) | (go_simp; rfl)); intro gb101 hg w12 hbox hb; have BK101 := zA (hbox); have GW101 := zA ((by rw [hg]; exact (below_size (by repeat (first | (with_reducible first | exact HB.out | apply zB | apply zN | apply below_drew1) | exact HB.out))) : w.heap.size ≤ gb101)); have GE101 := GW101; replace HB := zA (below_step (by repeat (first | (with_reducible first | exact HB.out | apply zB | apply zN | apply below_drew1) | exact HB.out)) hb); clear hb hbox hg; have hcz13_0 : w12.cell? ⟨gb101, 0, none⟩ = some (.int .i64 a0_0) := (zC BK101.out 0).trans rfl; have hcz13_1 : w12.cell? ⟨gb101, 1, none⟩ = some (.int .i64 a0_1) := (zC BK101.out 1).trans rfl; have hcz13_2 : w12.cell? ⟨gb101, 2, none⟩ = some (.int .i64 a0_2) := (zC BK101.out 2).trans rfl; have hfz13_0 := zF BK101.out 0; have hfz13_1 := zF BK101.out 1; have hfz13_2 := zF BK101.out 2) | ((with_reducible refine gate_callee (f := 115) rfl ?_); refine goesL_ (some 8) rfl rfl Tryd.func115 (by kernel_rfl) rfl #[.int .i64 a0_0] rfl (by (try simp only [zm, zc, zn]); first | done | rfl | (simp only [zd, zt]; rfl)) ?_; (with_reducible refine (op_Shape.calls a0_0 t102 t103 _ A2.out (LaidOps.below HL_.out (by repeat (first | (with_reducible first | exact HB.out | apply zB | apply zN | apply below_drew1 | refine zE ?_ GE101.out) | exact HB.out)))).mono ?_); rintro e w14 ⟨rfl, hb⟩; refine ⟨_, rfl, ?_⟩; replace BK101 := zA (zQ (g := gb101) (o := .cells #[.int .i64 a0_0, .int .i64 a0_1, .int .i64 a0_2] 109 (0, 0)) (by (with_reducible repeat (first | refine zG ?_ _ | refine zH ?_)); exact BK101.out) hb); replace HB := zA (below_step (by repeat (first | (with_reducible first | exact HB.out | apply zB | apply zN | apply below_drew1 | refine zE ?_ GE101.out) | exact HB.out)) hb); (try clear hb); (try clear hb2); (try clear hk); (try clear hi); have hcz15_0 : w14.cell? ⟨gb101, 0, none⟩ = some (.int .i64 a0_0) := (zC BK101.out 0).trans rfl; have hcz15_1 : w14.cell? ⟨gb101, 1, none⟩ = some (.int .i64 a0_1) := (zC BK101.out 1).trans rfl; have hcz15_2 : w14.cell? ⟨gb101, 2, none⟩ = some (.int .i64 a0_2) := (zC BK101.out 2).trans rfl; have hfz15_0 := zF BK101.out 0; have hfz15_1 := zF BK101.out 1; have hfz15_2 := zF BK101.out 2) | ((with_reducible refine gate_callee (f := 116) rfl ?_); refine goesL_ (some 13) rfl rfl Tryd.func116 (by kernel_rfl) rfl #[.int .i64 a0_0] rfl (by (try simp only [zm, zc, zn]); first | done | rfl | (simp only [zd, zt]; rfl)) ?_; (with_reducible refine (op_Is.calls a0_0 true _ A3.out).mono ?_); rintro e w' ⟨rfl, ⟨nd, rfl⟩⟩; refine ⟨_, rfl, ?_⟩) | (go_at_call 117; (with_reducible refine (op_may.calls a0_1 t102 false _ A5.out).mono ?_); rintro e w' ⟨rfl, ⟨nd, rfl⟩⟩))
   go_ret
   exact ⟨by first | rfl | (simp [errW_none, errW_some] <;> rfl) | (simp [*, errW_none, errW_some] <;> rfl), by repeat (first | (with_reducible first | exact HB.out | apply zB | apply zN | apply below_drew1 | refine zE ?_ GE101.out) | exact HB.out)⟩
 ·replace c4 := Bool.eq_false_iff.mpr c4
  subst c4
  have H1 : (some false) = some r := by rw [if_neg (show ¬ (false = true) by decide)] at H; exact H
  clear H
  have H := H1
  clear H1
  obtain rfl := zJ H
  go_enter Tryd.func105, Tryd.ntmps105
  go_wp2_with (first | ((with_reducible refine gate_dst (N := 1) rfl ?_); refine box_event ?hg (N := 1) ?hd (cs := #[.int .i64 a0_0, .int .i64 a0_1, .int .i64 a0_2]) (t := 109) ?hr ?_; (case hd => rfl); (case hg => rfl); (case hr => first | (go_simp; done) | (go_simp; rfl)); intro gb101 hg w16 hbox hb; have BK101 := zA (hbox); have GW101 := zA ((by rw [hg]; exact (below_size (by repeat (first | (with_reducible first | exact HB.out | apply zB | apply zN | apply below_drew1) | exact HB.out))) : w.heap.size ≤ gb101)); have GE101 := GW101; replace HB := zA (below_step (by repeat (first | (with_reducible first | exact HB.out | apply zB | apply zN | apply below_drew1) | exact HB.out)) hb); clear hb hbox hg; have hcz17_0 : w16.cell? ⟨gb101, 0, none⟩ = some (.int .i64 a0_0) := (zC BK101.out 0).trans rfl; have hcz17_1 : w16.cell? ⟨gb101, 1, none⟩ = some (.int .i64 a0_1) := (zC BK101.out 1).trans rfl; have hcz17_2 : w16.cell? ⟨gb101, 2, none⟩ = some (.int .i64 a0_2) := (zC BK101.out 2).trans rfl; have hfz17_0 := zF BK101.out 0; have hfz17_1 := zF BK101.out 1; have hfz17_2 := zF BK101.out 2) | ((with_reducible refine gate_callee (f := 115) rfl ?_); refine goesL_ (some 8) rfl rfl Tryd.func115 (by kernel_rfl) rfl #[.int .i64 a0_0] rfl (by (try simp only [zm, zc, zn]); first | done | rfl | (simp only [zd, zt]; rfl)) ?_; (with_reducible refine (op_Shape.calls a0_0 t102 t103 _ A2.out (LaidOps.below HL_.out (by repeat (first | (with_reducible first | exact HB.out | apply zB | apply zN | apply below_drew1 | refine zE ?_ GE101.out) | exact HB.out)))).mono ?_); rintro e w18 ⟨rfl, hb⟩; refine ⟨_, rfl, ?_⟩; replace BK101 := zA (zQ (g := gb101) (o := .cells #[.int .i64 a0_0, .int .i64 a0_1, .int .i64 a0_2] 109 (0, 0)) (by (with_reducible repeat (first | refine zG ?_ _ | refine zH ?_)); exact BK101.out) hb); replace HB := zA (below_step (by repeat (first | (with_reducible first | exact HB.out | apply zB | apply zN | apply below_drew1 | refine zE ?_ GE101.out) | exact HB.out)) hb); (try clear hb); (try clear hb2); (try clear hk); (try clear hi); have hcz19_0 : w18.cell? ⟨gb101, 0, none⟩ = some (.int .i64 a0_0) := (zC BK101.out 0).trans rfl; have hcz19_1 : w18.cell? ⟨gb101, 1, none⟩ = some (.int .i64 a0_1) := (zC BK101.out 1).trans rfl; have hcz19_2 : w18.cell? ⟨gb101, 2, none⟩ = some (.int .i64 a0_2) := (zC BK101.out 2).trans rfl; have hfz19_0 := zF BK101.out 0; have hfz19_1 := zF BK101.out 1; have hfz19_2 := zF BK101.out 2) | ((with_reducible refine gate_callee (f := 116) rfl ?_); refine goesL_ (some 13) rfl rfl Tryd.func116 (by kernel_rfl) rfl #[.int .i64 a0_0] rfl (by (try simp only [zm, zc, zn]); first | done | rfl | (simp only [zd, zt]; rfl)) ?_; (with_reducible refine (op_Is.calls a0_0 false _ A3.out).mono ?_); rintro e w' ⟨rfl, ⟨nd, rfl⟩⟩; refine ⟨_, rfl, ?_⟩))
  go_ret
  exact ⟨by first | rfl | (simp [errW_none, errW_some] <;> rfl) | (simp [*, errW_none, errW_some] <;> rfl), by repeat (first | (with_reducible first | exact HB.out | apply zB | apply zN | apply below_drew1 | refine zE ?_ GE101.out) | exact HB.out)⟩

/-! ### op_Real: function 119 -/
def op_Real.f (a0 : Int) : Option (Bool) := if a0 ≥ 48 then (some (decide (a0 ≤ 55))) else (some false)
set_option maxHeartbeats 8000000 in
set_option maxRecDepth 100000 in
theorem op_Real.calls (a0 : Int) (r : Bool) (w : World) (h : op_Real.f a0 = some r) :
  Calls Tryd.prog 119 #[.int .i64 a0] w fun e w' => e = .returned (.bool r) ∧ Drawn0 w w' := by
 have H : (if a0 ≥ 48 then (some (decide (a0 ≤ 55))) else (some false)) = some r := h
 clear h
 by_cases c2 : a0 ≥ 48
 ·rw [if_pos c2] at H
  have c2b0 : decide (48 ≤ a0) = true := decide_eq_true c2
  clear c2
  obtain rfl := zJ H
  go_enter Tryd.func119, Tryd.ntmps119
  go_wp2
  go_ret
  exact ⟨by first | rfl | (simp; done) | (simp [*]; done), by repeat (first | exact z4 _ | apply z3)⟩
 ·rw [if_neg c2] at H
  have c2b0 : decide (48 ≤ a0) = false := decide_eq_false c2
  clear c2
  obtain rfl := zJ H
  go_enter Tryd.func119, Tryd.ntmps119
  go_wp2
  go_ret
  exact ⟨by first | rfl | (simp; done) | (simp [*]; done), by repeat (first | exact z4 _ | apply z3)⟩

end Go.Proofs.YtdbfgfgbjheibaaDoor.POp
end

section
/- Five bytes as an instruction, as the program reads them; any five bytes, the operations' table as the program lays it. -/
namespace Go.Proofs.YtdbfgfgbjheibaaDoor.Given
set_option linter.unusedVariables false
set_option linter.unusedSimpArgs false
open Go.RowKit Go.Proofs.YtdbfgfgbjheibaaDoorW.PrintWords Go.Proofs.YtdbfgfgbjheibaaDoorW.PrintLast Go.Proofs.YtdbfgfgbjheibaaDoorW.PrintMore
open Go.Proofs.YtdbfgfgbjheibaaDoor
def right3 (x y z : Int) : Bool := POp.op_Right.f x y z == some true
def isReal (x : Int) : Bool := POp.op_Real.f x == some true
theorem right_some (x y z : Int) : POp.op_Right.f x y z = some (right3 x y z) := by
 have : ∃ r, POp.op_Right.f x y z = some r := by
  unfold POp.op_Right.f op_Shape.f POp.op_Is.f POp.op_may.f
  simp only [zP]
  repeat' split
  all_goals first | exact ⟨_, rfl⟩ | (simp only [zP]; repeat' split) 
  all_goals first | exact ⟨_, rfl⟩ | (simp only [zP]; repeat' split) 
  all_goals exact ⟨_, rfl⟩
 obtain ⟨r, hr⟩ := this
 unfold right3
 rw [hr]
 cases r <;> rfl
theorem real_some (x : Int) : POp.op_Real.f x = some (isReal x) := by
 have : ∃ r, POp.op_Real.f x = some r := by
  unfold POp.op_Real.f
  split <;> exact ⟨_, rfl⟩
 obtain ⟨r, hr⟩ := this
 unfold isReal
 rw [hr]
 cases r <;> rfl
/-- The error of an instruction. -/
def errI (x y z : Int) : Int := if isReal x then 6 else if right3 x y z then 0 else 7
set_option maxHeartbeats 2000000 in
theorem one_calls (A0 : Option Addr) (c0 : Nat) (L : List Int) (x y z : Int) (w : World) (hr0 : Kd.C (Kd.int .u8) w A0 L.length L) (hc0 : L.length ≤ c0) (hl : L.length ≤ 1000000000) (hb : okB L = true)
  (n1 : numR L 0 false 1 = (x, 1, false)) (n2 : numR L 1 false 2 = (y, 3, false)) (n3 : numR L 3 false 2 = (z, 5, false)) (hL : LaidOps w) :
  Calls Tryd.prog 118 #[.slice A0 L.length c0] w fun e w' => e = .returned (.tuple #[.agg #[.int .i64 x, .int .i64 y, .int .i64 z], .int .i64 (errI x y z)]) ∧ Below w.heap.size w w' := by
 have N1 := zA n1
 have N2 := zA n2
 have N3 := zA n3
 have OB := zA hb
 have HL := zA hL
 clear n1 n2 n3 hb hL
 go_enter Tryd.func118, Tryd.ntmps118
 go_wp2_with fail
 have hW := (zX w.heap.size w).alloc (z5 _) (.cells #[.int .i64 0, .int .i64 0, .int .i64 0] 109)
 have hbox : (w.alloc (.cells #[.int .i64 0, .int .i64 0, .int .i64 0] 109)).heap[w.heap.size]? = some (.cells #[.int .i64 0, .int .i64 0, .int .i64 0] 109 (0, 0)) := heap_alloc_new w _
 refine (new_calls A0 c0 L _ (zD hr0 hW) hc0 hl).mono ?_
 rintro e w8 ⟨w7, g, rfl, hI8, hb7, hb8⟩
 have hb7' := hb7.size
 have hg : w.heap.size ≠ g := by
  have := hI8.ge
  simp at hb7'
  omega
 have hB7 := hW.trans (hb7.mono hW.size)
 have hx := (hb8.block w.heap.size (by have := hb7.size; simp at this; omega)).trans ((hb7.block w.heap.size (by simp)).trans hbox)
 clear hbox hb7 hb7'
 go_wp2_with fail
 refine (num_calls g w7 _ L 0 false 1 hI8 hb8 OB.out).mono ?_
 rw [N1.out]
 rintro e w9 ⟨rfl, hI9, hb9, hk9⟩
 go_wp2_with fail
 refine (num_calls g w7 _ L 1 false 2 hI9 hb9 OB.out).mono ?_
 rw [N2.out]
 rintro e w10 ⟨rfl, hI10, hb10, hk10⟩
 go_wp2_with fail
 refine (num_calls g w7 _ L 3 false 2 hI10 hb10 OB.out).mono ?_
 rw [N3.out]
 rintro e w11 ⟨rfl, hI11, hb11, hk11⟩
 have hx2 := hk11.blk (hk10.blk (hk9.blk hx hg (by simp)) hg (by simp)) hg (by simp)
 have hB11 := hB7.trans (hb11.mono hB7.size)
 clear hI8 hI9 hI10 hI11 hb8 hb9 hb10 hb11 hk9 hk10 hk11 hx hr0
 have HX := zA (((zX w11.heap.size w11).alloc (z5 _) (.cells #[.int .i64 x, .int .i64 y, .int .i64 z] 109)).block w.heap.size (blk_lt hx2) |>.trans hx2)
 have hi : (Tryd.prog.info? 109).map (·.size) = some 3 := by kernel_rfl
 have HB := zA (hB11.alloc hB11.size (.cells #[.int .i64 x, .int .i64 y, .int .i64 z] 109))
 clear hB11
 have hre := real_some x
 have hri := right_some x y z
 cases hr : isReal x
 ·rw [hr] at hre
  have HRe := zA hre
  clear hre
  cases hq : right3 x y z
  all_goals (
   rw [hq] at hri
   have HRi := zA hri
   first | have HE := zA (show errI x y z = 0 by unfold errI; rw [hr, hq]; rfl) | have HE := zA (show errI x y z = 7 by unfold errI; rw [hr, hq]; rfl)
   clear hri hq hr
   go_wp2_with fail
   refine (POp.op_Real.calls x false _ HRe.out).mono ?_
   rintro e w12 ⟨rfl, m, rfl⟩
   go_wp2_with fail
   refine (POp.op_Right.calls x y z _ _ HRi.out (HL.out.below (zN HB.out m))).mono ?_
   rintro e w13 ⟨rfl, hb13⟩
   have hB13 := (zN HB.out m).trans (hb13.mono (zN HB.out m).size)
   have hbi : w13.heap[w11.heap.size]? = some (.cells #[.int .i64 x, .int .i64 y, .int .i64 z] 109 (0, 0)) := (hb13.block w11.heap.size (blk_lt (w := (w11.alloc (.cells #[.int .i64 x, .int .i64 y, .int .i64 z] 109)).drewN m) (heap_alloc_new w11 _))).trans (heap_alloc_new w11 _)
   have q0 : w13.cell? ⟨w11.heap.size, 0, none⟩ = some (.int .i64 x) := (zC hbi 0).trans rfl
   have q1 : w13.cell? ⟨w11.heap.size, 1, none⟩ = some (.int .i64 y) := (zC hbi 1).trans rfl
   have q2 : w13.cell? ⟨w11.heap.size, 2, none⟩ = some (.int .i64 z) := (zC hbi 2).trans rfl
   have hx3 := (hb13.block w.heap.size (blk_lt (w := (w11.alloc (.cells #[.int .i64 x, .int .i64 y, .int .i64 z] 109)).drewN m) HX.out)).trans HX.out
   go_wp2_with (first | ((with_reducible refine gate_store (t := 109) (p := 2) (v := .tmp 24) rfl ?_); refine wpList_store_row rfl 109 (.tmp 2) (.tmp 24) rfl w.heap.size #[.int .i64 x, .int .i64 y, .int .i64 z] rfl rfl 109 _ hx3 (by rw [hi]; rfl) rfl (by kernel_rfl) ?_) | ((with_reducible refine gate_store (t := 109) (p := 2) (v := .tmp 25) rfl ?_); refine wpList_store_row rfl 109 (.tmp 2) (.tmp 25) rfl w.heap.size #[.int .i64 x, .int .i64 y, .int .i64 z] rfl rfl 109 _ hx3 (by rw [hi]; rfl) rfl (by kernel_rfl) ?_))
   refine bodyPost_ret (results_ct rfl _ _ w.heap.size 109 #[.int .i64 x, .int .i64 y, .int .i64 z] (0, 0) _ rfl (setRow_heap _ _ _ _ _ _ hx3) Tryd.underlying109 rfl hi) rfl ?_
   rw [HE.out]
   exact ⟨rfl, below_setRow hB13 (z5 _) _⟩)
 ·rw [hr] at hre
  have HRe := zA hre
  have HE := zA (show errI x y z = 6 by unfold errI; rw [hr]; rfl)
  clear hre hr hri
  go_wp2_with fail
  refine (POp.op_Real.calls x true _ HRe.out).mono ?_
  rintro e w12 ⟨rfl, m, rfl⟩
  go_wp2_with ((with_reducible refine gate_store (t := 109) (p := 2) (v := .tmp 19) rfl ?_); refine wpList_store_row rfl 109 (.tmp 2) (.tmp 19) rfl w.heap.size #[.int .i64 x, .int .i64 y, .int .i64 z] rfl rfl 109 _ HX.out (by rw [hi]; rfl) rfl (by kernel_rfl) ?_)
  refine bodyPost_ret (results_ct rfl _ _ w.heap.size 109 #[.int .i64 x, .int .i64 y, .int .i64 z] (0, 0) _ rfl (setRow_heap _ _ _ _ _ _ (show ((w11.alloc (.cells #[.int .i64 x, .int .i64 y, .int .i64 z] 109)).drewN m).heap[w.heap.size]? = _ from HX.out)) Tryd.underlying109 rfl hi) rfl ?_
  rw [HE.out]
  exact ⟨rfl, below_setRow (zN HB.out m) (z5 _) _⟩
end Go.Proofs.YtdbfgfgbjheibaaDoor.Given
end

section
/- Printed by a program of this session (wip/pg.py, over the print of the kit): functions, their Lean twins, and the proofs that the calls come to them; each under the conditions that it names. -/
namespace Go.Proofs.YtdbfgfgbjheibaaDoor.PCod

open Go.RowKit Go.Proofs.YtdbfgfgbjheibaaDoorW.PrintWords Go.Proofs.YtdbfgfgbjheibaaDoorW.PrintLast Go.Proofs.YtdbfgfgbjheibaaDoorW.PrintMore
attribute [local go_sem] max2_int min2_int max_two min_two max_three min_three max_four min_four   -- for this text's walks alone
set_option linter.unusedVariables false
set_option linter.unusedSimpArgs false



def errW : Option Int → Value
 | none => .nilIface
 | some c => .iface 0 (.int .i64 c)
theorem errW_none : errW none = .nilIface := rfl
theorem errW_some (c : Int) : errW (some c) = .iface 0 (.int .i64 c) := rfl

theorem info109 : (Tryd.prog.info? 109).map (fun i => (i.zero, i.size, i.bytes)) = some (some (.agg #[(.int .i64 0), (.int .i64 0), (.int .i64 0)]), 3, 24) := by kernel_rfl
-- the values' own types
/-! #### struct type 109 -/
structure S109 where
 f0 : Int
 f1 : Int
 f2 : Int
def z109 : S109 := ⟨(0 : Int), (0 : Int), (0 : Int)⟩
def k109 : Kd S109 := Kd.iso (Kd.pair (Kd.int .i64) (Kd.pair (Kd.int .i64) (Kd.int .i64))) (fun x : S109 => (x.f0, x.f1, x.f2))
theorem k109_mkM (w : World) (base : Nat) (ok : Nat → Prop) (x : S109)  : k109.M w base ok x [.int .i64 x.f0, .int .i64 x.f1, .int .i64 x.f2] := ⟨[.int .i64 x.f0], [.int .i64 x.f1, .int .i64 x.f2], rfl, rfl, ⟨[.int .i64 x.f1], [.int .i64 x.f2], rfl, rfl, rfl⟩⟩
def rd_T109 (xs : List S109) (i : Int) : S109 := xs.getD i.toNat z109
end Go.Proofs.YtdbfgfgbjheibaaDoor.PCod
end

section
/- Bytes as instructions, as the program reads them; bytes of at most 1000000 in length, the operations' table as the program lays it. -/
namespace Go.Proofs.YtdbfgfgbjheibaaDoor.Given
set_option linter.unusedVariables false
set_option linter.unusedSimpArgs false
open Go.RowKit Go.Proofs.YtdbfgfgbjheibaaDoorW.PrintWords Go.Proofs.YtdbfgfgbjheibaaDoorW.PrintLast Go.Proofs.YtdbfgfgbjheibaaDoorW.PrintMore
open Go.Proofs.YtdbfgfgbjheibaaDoor
abbrev InS := PCod.S109
abbrev inK := PCod.k109
/-- Bytes as instructions; or how many there were, and the error. -/
def decF : Nat → List Int → List InS → List InS × Int × Int
 | 0, _, out => (out, 0, 0)
 | n + 1, a :: b :: c :: d :: e :: t, out => if errI a (b + 256 * c) (d + 256 * e) = 0 then decF n t (out ++ [⟨a, b + 256 * c, d + 256 * e⟩]) else ([], out.length, errI a (b + 256 * c) (d + 256 * e))
 | _ + 1, [], out => (out, 0, 0)
 | _ + 1, _ :: _, out => ([], out.length, 1)
theorem num1 (a b c d e : Int) (h : okB [a, b, c, d, e] = true) : numR [a, b, c, d, e] 0 false 1 = (a, 1, false) := by
 have hr := (okB_all h).1
 have ha := hr a (by simp)
 unfold numR
 rw [show mx 0 (mn 1 8) = 1 by decide, if_pos (show okR [a, b, c, d, e] 0 false 1 from ⟨rfl, by decide, by simp⟩)]
 show (wrap64 (a + 256 * 0), _, _) = _
 rw [show wrap64 (a + 256 * 0) = a by unfold wrap64; omega]
 rfl
theorem num2 (a b c d e : Int) (h : okB [a, b, c, d, e] = true) : numR [a, b, c, d, e] 1 false 2 = (b + 256 * c, 3, false) := by
 have hr := (okB_all h).1
 have hb := hr b (by simp)
 have hc := hr c (by simp)
 unfold numR
 rw [show mx 0 (mn 2 8) = 2 by decide, if_pos (show okR [a, b, c, d, e] 1 false 2 from ⟨rfl, by decide, by simp⟩)]
 show (wrap64 (b + 256 * (c + 256 * 0)), _, _) = _
 rw [show wrap64 (b + 256 * (c + 256 * 0)) = b + 256 * c by unfold wrap64; omega]
 rfl
theorem num3 (a b c d e : Int) (h : okB [a, b, c, d, e] = true) : numR [a, b, c, d, e] 3 false 2 = (d + 256 * e, 5, false) := by
 have hr := (okB_all h).1
 have hd := hr d (by simp)
 have he := hr e (by simp)
 unfold numR
 rw [show mx 0 (mn 2 8) = 2 by decide, if_pos (show okR [a, b, c, d, e] 3 false 2 from ⟨rfl, by decide, by simp⟩)]
 show (wrap64 (d + 256 * (e + 256 * 0)), _, _) = _
 rw [show wrap64 (d + 256 * (e + 256 * 0)) = d + 256 * e by unfold wrap64; omega]
 rfl
def lenOf : Value → Nat
 | .slice _ n _ => n
 | _ => 0
set_option maxHeartbeats 4000000 in
set_option maxRecDepth 100000 in
theorem decode_calls (A0 : Option Addr) (c0 : Nat) (l0 : List Int) (r : List InS × Int × Int) (w : World) (hr0 : Kd.C (Kd.int .u8) w A0 l0.length l0) (hc0 : l0.length ≤ c0) (hl : l0.length ≤ 1000000) (hb : okB l0 = true) (hr : decF l0.length l0 [] = r) (hL : LaidOps w) :
  Calls Tryd.prog 110 #[.slice A0 l0.length c0] w fun e w' => ∃ v0_ : Value, e = .returned (.tuple #[v0_, .int .i64 r.2.1, .int .i64 r.2.2]) ∧ Kd.R inK 109 w' w.heap.size (fun _ => True) v0_ r.1 ∧ Below w.heap.size w w' := by
 have HR0 := zA hr0
 have HR := zA hr
 have HO := zA hb
 have HL := zA hL
 have HLl := zA hl
 clear hr0 hr hb hL
 go_enter Tryd.func110, Tryd.ntmps110
 go_wp2_with fail
 go_loopw [0, 5] (fun bv ov wr => ∃ (A : Option Addr) (c n : Nat) (l : List Int) (out : List InS), bv = .slice A l.length c ∧ l.length ≤ c ∧ l.length ≤ n ∧ Aside0 (l.length + out.length ≤ 1000000) ∧ Aside0 (okB l = true) ∧ Aside0 (Kd.C (Kd.int .u8) w A l.length l) ∧ Aside0 (Kd.R inK 109 wr w.heap.size (fun _ => True) ov out) ∧ Aside0 (Below w.heap.size w wr) ∧ Aside0 (decF n l out = r)) (fun bv _ _ => lenOf bv)
 case atStart => exact ⟨A0, c0, l0.length, l0, [], rfl, hc0, z5 _, ⟨by simpa using hl⟩, HO, HR0, ⟨Kd.R_nil _ _ _ _ _⟩, ⟨zX _ _⟩, HR⟩
 case round =>
  clear HR HR0 HO hc0 hl HLl
  obtain ⟨A, c, n, l, out, rfl, hc, hn, HZ, HO, HC, HV, HB, HR⟩ := hrel
  obtain ⟨A2, c2, rfl, hl2, hC2⟩ := Kd.R_reads HV.out
  clear hC2 hl2
  by_cases h0 : l.length = 0
  ·obtain rfl := List.eq_nil_of_length_eq_zero h0
   have hh := HR.out
   have hd : decF n [] out = (out, 0, 0) := by cases n <;> rfl
   rw [hd] at hh
   go_wp2_with fail
   refine bodyPost_ret (results_tmp3 rfl _ _ _) rfl ?_
   rw [← hh]
   exact ⟨_, rfl, HV.out, HB.out⟩
  ·by_cases h5 : l.length < 5
   ·have hh := HR.out
    have hd : decF n l out = ([], (out.length : Int), 1) := by
     match n, l, h0, h5, hn with
     | n + 1, [_], _, _, _ => rfl
     | n + 1, [_, _], _, _, _ => rfl
     | n + 1, [_, _, _], _, _, _ => rfl
     | n + 1, [_, _, _, _], _, _, _ => rfl
     | 0, _ :: _, _, _, h => exact absurd h (by simp)
     | _, [], h, _, _ => exact absurd rfl h
     | _, _ :: _ :: _ :: _ :: _ :: _, _, h, _ => exact absurd h (by simp)
    rw [hd] at hh
    clear hd
    go_wp2_with fail
    refine bodyPost_ret (results_tmp3 rfl _ _ _) rfl ?_
    rw [← hh]
    exact ⟨_, rfl, Kd.R_nil _ _ _ _ _, HB.out⟩
   ·obtain ⟨a, b, c', d, e, t, rfl⟩ : ∃ a b c' d e t, l = a :: b :: c' :: d :: e :: t := by
     match l, h5 with
     | a :: b :: c :: d :: e :: t, _ => exact ⟨a, b, c, d, e, t, rfl⟩
     | [], h => simp at h
     | [_], h => simp at h
     | [_, _], h => simp at h
     | [_, _, _], h => simp at h
     | [_, _, _, _], h => simp at h
    obtain ⟨n, rfl⟩ : ∃ m, n = m + 1 := ⟨n - 1, by simp at hn; omega⟩
    have hok := okB_all HO.out
    have ok5 : okB [a, b, c', d, e] = true := by
     have := HO.out
     unfold okB at this ⊢
     simp only [List.all_cons, List.all_nil, Bool.and_true, Bool.and_eq_true, decide_eq_true_eq] at this ⊢
     refine ⟨⟨this.1.1, this.1.2.1, this.1.2.2.1, this.1.2.2.2.1, this.1.2.2.2.2.1⟩, by simp⟩
    have hO : Aside0 (okB t = true) := ⟨by
     have := HO.out
     unfold okB at this ⊢
     simp only [List.all_cons, Bool.and_eq_true, decide_eq_true_eq] at this ⊢
     refine ⟨this.1.2.2.2.2.2, by have := this.2; simp only [List.length_cons] at this; omega⟩⟩
    have hC5 : Kd.C (Kd.int .u8) wr A [a, b, c', d, e].length [a, b, c', d, e] := zD (Kd.C_take (m := 5) HC.out (by simp)) HB.out
    have H1 := zA (one_calls A 5 [a, b, c', d, e] a (b + 256 * c') (d + 256 * e) wr hC5 (z5 _) (by simp) ok5 (num1 a b c' d e ok5) (num2 a b c' d e ok5) (num3 a b c' d e ok5) (HL.out.below HB.out))
    have hh := HR.out
    unfold decF at hh
    have hcc : 5 ≤ c := by simp only [List.length_cons] at hc; omega
    have hdrop := zA (Kd.C_drop (k := Kd.int .u8) (m := 5) (c := c) HC.out (by simp) hc)
    have hzz : t.length + 5 + out.length ≤ 1000000 := by have := HZ.out; simp only [List.length_cons] at this; omega
    have HZ := zA hzz
    clear hok ok5 hC5 HC HO hzz h0 h5
    generalize hE : errI a (b + 256 * c') (d + 256 * e) = E at hh H1
    generalize hy : b + 256 * c' = y at hh H1 hE
    generalize hz : d + 256 * e = z at hh H1 hE
    by_cases he : E = 0
    ·rw [if_pos he] at hh
     subst he
     go_wp2_with fail
     refine H1.out.mono ?_
     rintro e' w2 ⟨rfl, hb2⟩
     have HB2 := zA (HB.out.trans (hb2.mono HB.out.size))
     have HV2 := zA (Kd.R_below HV.out hb2)
     have ub : Aside0 (Kd.R inK 109 (w2.alloc (.cells #[.int .i64 a, .int .i64 y, .int .i64 z] 109)) w.heap.size (fun _ => True) (.slice A2 out.length c2) out) := ⟨zR HV2.out _⟩
     have HB3 := zA (HB2.out.alloc HB2.out.size (.cells #[.int .i64 a, .int .i64 y, .int .i64 z] 109))
     go_wp2_with ((with_reducible refine gate_builtin (b := .append) (xs := #[.tmp 27, .tmp 29]) rfl ?_); at_builtin; refine Kd.R_append inK (w0 := w) w.heap.size rfl (.tmp 27) (.tmp 29) 46 109 (.agg #[(.int .i64 0), (.int .i64 0), (.int .i64 0)]) 24 rfl Tryd.underlying46 PCod.info109 rfl (by decide) (by omega) (.slice A2 out.length c2) out (⟨a, y, z⟩ : InS) [.int .i64 a, .int .i64 y, .int .i64 z] (fun _ => True) (fun _ => False) rfl (by first | (go_simp; done) | (go_simp; rfl)) ?aP (fun _ hk => hk.elim) ?aF ?aO ?aB ?aS ?aL ?_; (case aP => exact PCod.k109_mkM _ _ _ (⟨a, y, z⟩ : InS)); (case aB => exact HB3.out); (case aF => exact fun _ _ => trivial); (case aO => exact ub.out); (case aS => exact HB3.out.size); (case aL => have := HZ.out; omega); intro v5 w5 ho5 hb5 hg5 hat5; clear hg5 hat5; have HV5 := zA ho5; have HB5 := zA hb5; clear ho5 hb5)
     refine ⟨⟨_, c - 5, n, t, out ++ [⟨a, y, z⟩], rfl, by simp only [List.length_cons] at hc; omega, by simp only [List.length_cons] at hn; omega, ⟨by have := HZ.out; simp only [List.length_append, List.length_cons, List.length_nil]; omega⟩, hO, ⟨?_⟩, HV5, HB5, ⟨hh⟩⟩, by show t.length < t.length + 1 + 1 + 1 + 1 + 1; omega⟩
     have h := hdrop.out
     simpa [Addr.add, Kd.int, Kd.scalar] using h
    ·rw [if_neg he] at hh
     go_wp2_with fail
     refine H1.out.mono ?_
     rintro e' w2 ⟨rfl, hb2⟩
     have HB2 := zA (HB.out.trans (hb2.mono HB.out.size))
     go_wp2_with fail
     refine bodyPost_ret (results_tmp3 rfl _ _ _) rfl ?_
     rw [← hh]
     exact ⟨_, rfl, Kd.R_nil _ _ _ _ _, HB2.out.alloc HB2.out.size _⟩
def code_Decode.f (l0 : List Int) : Option (List InS × Int × Int) := if l0.length ≤ 1000000 ∧ okB l0 = true then some (decF l0.length l0 []) else none
theorem code_Decode.calls (A0 : Option Addr) (c0 : Nat) (l0 : List Int) (r1 : List InS) (r2 r3 : Int) (w : World) (hr0 : Kd.C (Kd.int .u8) w A0 l0.length l0) (hc0 : l0.length ≤ c0) (h : code_Decode.f l0 = some (r1, r2, r3)) (hL : LaidOps w) :
  Calls Tryd.prog 110 #[.slice A0 l0.length c0] w fun e w' => ∃ v0_ : Value, e = .returned (.tuple #[v0_, .int .i64 r2, .int .i64 r3]) ∧ Kd.R inK 109 w' w.heap.size (fun _ => True) v0_ r1 ∧ Below w.heap.size w w' := by
 unfold code_Decode.f at h
 split at h
 ·rename_i hl
  exact decode_calls A0 c0 l0 (r1, r2, r3) w hr0 hc0 hl.1 hl.2 (zJ h) hL
 ·cases h
end Go.Proofs.YtdbfgfgbjheibaaDoor.Given
end

section
/- The numbers of a byte behind how many they are, plainly, as the program reads them; and what holds of a unit that is being read. -/
namespace Go.Proofs.YtdbfgfgbjheibaaDoor.Given
open Go.RowKit Go.Proofs.YtdbfgfgbjheibaaDoorW.PrintWords Go.Proofs.YtdbfgfgbjheibaaDoorW.PrintLast Go.Proofs.YtdbfgfgbjheibaaDoorW.PrintMore
set_option linter.unusedVariables false
set_option linter.unusedSimpArgs false
/-- Numbers of a byte: what they are, the error, where the reader is, whether it's bad. -/
def numbersR (b : List Int) (at_ : Int) (bad : Bool) (many most : Int) : List Int × Int × Int × Bool :=
 let t := numR b at_ bad many
 if t.1 > most then ([], 5, t.2.1, t.2.2)
 else
  let u := takeR b t.2.1 t.2.2 t.1
  if u.2.2 = true then ([], 1, u.2.1, u.2.2) else (u.1, 0, u.2.1, u.2.2)
theorem take_mem {b : List Int} {at_ : Int} {bad : Bool} {n : Int} : ∀ x ∈ (takeR b at_ bad n).1, x ∈ b := by
 intro x hx
 unfold takeR at hx
 split at hx
 ·exact List.mem_of_mem_drop (List.mem_of_mem_take hx)
 ·cases hx
theorem take_len {b : List Int} {at_ : Int} {bad : Bool} {n : Int} : (takeR b at_ bad n).1.length ≤ b.length := by
 unfold takeR
 split
 ·unfold cutR; simp; omega
 ·simp
theorem wN (x : Int) (h0 : -9223372036854775808 ≤ x) (h1 : x < 9223372036854775808) : wrap64 x = x := by unfold wrap64; omega
theorem numbers_l0 (L : List Int) (hL : ∀ x ∈ L, 0 ≤ x ∧ x < 256) (hz : L.length ≤ 1000000000) (b : List Int) (at_ : Int) (bad : Bool) : ∀ (d i k : Nat) (x : List Int), i + d = L.length → d < k → x = L.take i →
  PNum.unit_numbers.l0 k x L (L.length : Int) (i : Int) b at_ bad = if bad = true then some ([], 1, at_, bad) else some (L, 0, at_, bad) := by
 intro d
 induction d with
 | zero =>
  intro i k x h1 h2 h3
  obtain ⟨k, rfl⟩ : ∃ m, k = m + 1 := ⟨k - 1, by omega⟩
  unfold PNum.unit_numbers.l0 octet_Reader_Bad.f
  rw [if_neg (by omega), zP, h3, List.take_of_length_le (by omega)]
 | succ d ih =>
  intro i k x h1 h2 h3
  obtain ⟨k, rfl⟩ : ∃ m, k = m + 1 := ⟨k - 1, by omega⟩
  unfold PNum.unit_numbers.l0
  have hr : rd L (i : Int) = L[i]'(by omega) := by unfold rd; simp [show i < L.length by omega]
  have hx := hL _ (List.getElem_mem (show i < L.length by omega))
  have hxl : x.length = i := by rw [h3, zt]; omega
  rw [if_pos (by omega), if_pos (by omega), if_pos (by omega), if_pos (by omega), hr, wN _ (by omega) (by omega), wN _ (by omega) (by omega)]
  have := ih (i + 1) k (x ++ [L[i]'(by omega)]) (by omega) (by omega) (by rw [h3, List.take_succ_eq_append_getElem (by omega)])
  rw [show ((i + 1 : Nat) : Int) = (i : Int) + 1 by omega] at this
  exact this
theorem numbers_is (b : List Int) (hb : okB b = true) (at_ : Int) (bad : Bool) (many most : Int) (k : Nat) (hk : 1000000001 ≤ k) : PNum.unit_numbers.f k b at_ bad many most = some (numbersR b at_ bad many most) := by
 unfold PNum.unit_numbers.f octet_Reader_Num.f octet_Reader_Take.f numbersR
 rw [if_pos hb, zP]
 dsimp only
 by_cases h : (numR b at_ bad many).1 > most
 ·rw [if_pos h, if_pos h]
 ·rw [if_neg h, if_neg h, if_pos hb, zP]
  have hl := take_len (b := b) (at_ := (numR b at_ bad many).2.1) (bad := (numR b at_ bad many).2.2) (n := (numR b at_ bad many).1)
  have hm := take_mem (b := b) (at_ := (numR b at_ bad many).2.1) (bad := (numR b at_ bad many).2.2) (n := (numR b at_ bad many).1)
  generalize takeR b (numR b at_ bad many).2.1 (numR b at_ bad many).2.2 (numR b at_ bad many).1 = u at hl hm ⊢
  have h2 := okB_all hb
  have := numbers_l0 u.1 (fun x hx => h2.1 x (hm x hx)) (by omega) b u.2.1 u.2.2 u.1.length 0 k [] (by omega) (by omega) (by simp)
  rw [show ((0 : Nat) : Int) = 0 from rfl] at this
  rw [this]
  by_cases hu : u.2.2 = true
  ·rw [if_pos hu, if_pos hu]
  ·rw [if_neg hu, if_neg hu]
theorem numbers_calls (g : Nat) (w0 w : World) (b : List Int) (at_ : Int) (bad : Bool) (many most : Int) (hI : IsS119 w0 w g b at_ bad) (hB : Below w0.heap.size w0 w) (hb : okB b = true) :
  Calls Tryd.prog 109 #[.pointer (some ⟨g, 0, none⟩), .int .i64 many, .int .i64 most] w fun e w' => ∃ v0_ : Value, e = .returned (.tuple #[v0_, .int .i64 (numbersR b at_ bad many most).2.1]) ∧ Kd.R (Kd.int .i64) 3 w' w.heap.size (fun _ => True) v0_ (numbersR b at_ bad many most).1 ∧ IsS119 w0 w' g b (numbersR b at_ bad many most).2.2.1 (numbersR b at_ bad many most).2.2.2 ∧ Below w0.heap.size w0 w' ∧ KeepBut w w' g none :=
 PNum.unit_numbers.calls 1000000001 g b at_ bad many most _ _ _ _ w0 w hI hB (numbers_is b hb at_ bad many most 1000000001 (z5 _))
end Go.Proofs.YtdbfgfgbjheibaaDoor.Given
end

section
/- Bytes as a unit, as the program reads them; bytes of at most 1000000 in length, the operations' table as the program lays it. -/
namespace Go.Proofs.YtdbfgfgbjheibaaDoor.Given
open Go.RowKit Go.Proofs.YtdbfgfgbjheibaaDoorW.PrintWords Go.Proofs.YtdbfgfgbjheibaaDoorW.PrintLast Go.Proofs.YtdbfgfgbjheibaaDoorW.PrintMore
set_option linter.unusedVariables false
set_option linter.unusedSimpArgs false
def conv (x : InS) : PBx.S109 := ⟨x.f0, x.f1, x.f2⟩
abbrev UD := ByteArray × List Int × Int × List Int × List PBx.S109
def zeroU : UD := (⟨#[]⟩, [], 0, [], [])
/-- Bytes as a unit, and the error. -/
def ugetR (b : List Int) : UD × Int :=
 let t := textR b 0 false
 if t.2.2 = true then (zeroU, 1) else
 let p := numbersR b t.2.1 t.2.2 1 8
 if ¬ p.2.1 = 0 then (zeroU, p.2.1) else
 let r := numR b p.2.2.1 p.2.2.2 1
 if r.2.2 = true then (zeroU, 1) else
 let l := numbersR b r.2.1 r.2.2 2 1024
 if ¬ l.2.1 = 0 then (zeroU, l.2.1) else
 let n := numR b l.2.2.1 l.2.2.2 2
 if n.1 > 16384 then (zeroU, 5) else
 let x := takeR b n.2.1 n.2.2 (wrap64 (5 * n.1))
 if x.2.2 = true then (zeroU, 1) else
 let c := decF x.1.length x.1 []
 if ¬ c.2.2 = 0 then (zeroU, c.2.2) else
 if (if x.2.2 = true then 0 else (b.length : Int) - x.2.1) > 0 then (zeroU, 4) else
 ((t.1, p.1, r.1, l.1, c.1.map conv), 0)
/-- A unit that was read: its cells, and its lists' rows (of the call's own). -/
def UOk (W : World) (base : Nat) (cs : Array Value) (X : UD) : Prop := ∃ AP cP AL cL AC cC, cs = #[.string X.1, .slice AP X.2.1.length cP, .int .i64 X.2.2.1, .slice AL X.2.2.2.1.length cL, .slice AC X.2.2.2.2.length cC] ∧ Kd.R (Kd.int .i64) 3 W base (fun _ => True) (.slice AP X.2.1.length cP) X.2.1 ∧ Kd.R (Kd.int .i64) 3 W base (fun _ => True) (.slice AL X.2.2.2.1.length cL) X.2.2.2.1 ∧ Kd.R PBx.k109 109 W base (fun _ => True) (.slice AC X.2.2.2.2.length cC) X.2.2.2.2
theorem zero_ok (W : World) (base : Nat) : UOk W base #[.string ⟨#[]⟩, .slice none 0 0, .int .i64 0, .slice none 0 0, .slice none 0 0] zeroU := ⟨none, 0, none, 0, none, 0, rfl, Kd.R_nil _ _ _ _ _, Kd.R_nil _ _ _ _ _, Kd.R_nil _ _ _ _ _⟩
theorem R_conv {W : World} {base : Nat} {v : Value} {l : List InS} (h : Kd.R inK 109 W base (fun _ => True) v l) : Kd.R PBx.k109 109 W base (fun _ => True) v (l.map conv) := by
 obtain ⟨h0, inner, ho, h1, h2⟩ := h
 refine ⟨h0, inner, by rw [List.length_map]; exact ho, by rw [List.length_map]; exact h1, fun j p hj => ?_⟩
 rw [List.getElem?_map] at hj
 cases hx : l[j]? with
 | none => rw [hx] at hj; cases hj
 | some x =>
  rw [hx] at hj
  obtain rfl := zJ hj
  exact h2 j x hx
theorem UOk.mk {W : World} {base : Nat} {n : ByteArray} {P : List Int} {R : Int} {L : List Int} {C : List InS} {AP AL AC : Option Addr} {cP cL cC : Nat} (hP : Kd.R (Kd.int .i64) 3 W base (fun _ => True) (.slice AP P.length cP) P) (hL : Kd.R (Kd.int .i64) 3 W base (fun _ => True) (.slice AL L.length cL) L) (hC : Kd.R inK 109 W base (fun _ => True) (.slice AC C.length cC) C) :
  UOk W base #[.string n, .slice AP P.length cP, .int .i64 R, .slice AL L.length cL, .slice AC C.length cC] (n, P, R, L, C.map conv) := by
 have h := R_conv hC
 exact ⟨AP, cP, AL, cL, AC, cC, by rw [List.length_map], hP, hL, by show Kd.R _ _ _ _ _ (.slice AC (C.map conv).length cC) _; rw [List.length_map]; exact h⟩
theorem keep_setRow (W : World) (g : Nat) (cs : Array Value) : KeepBut W (W.setRow g cs) g none := ⟨by simp [World.setRow], fun i hi hg _ => setRow_other W _ _ _ hg⟩
/-- What the call tells. -/
def GetPost (b : List Int) (w : World) (e : Ending) (w' : World) : Prop := ∃ cs : Array Value, e = .returned (.tuple #[.agg cs, .int .i64 (ugetR b).2]) ∧ UOk w' w.heap.size cs (ugetR b).1 ∧ Below w.heap.size w w'
theorem GetPost.zero {b : List Int} {w w' : World} {e : Ending} {v : Value} {c : Int} (hG : ugetR b = (zeroU, c)) (he : e = .returned (.tuple #[.agg #[.string ⟨#[]⟩, .slice none 0 0, .int .i64 0, .slice none 0 0, .slice none 0 0], .int .i64 c])) (hB : Below w.heap.size w w') : GetPost b w e w' := ⟨_, by rw [he, hG], by rw [hG]; exact zero_ok _ _, hB⟩
set_option maxHeartbeats 8000000 in
set_option maxRecDepth 100000 in
theorem get_calls (A0 : Option Addr) (c0 : Nat) (b : List Int) (w : World) (hr0 : Kd.C (Kd.int .u8) w A0 b.length b) (hc0 : b.length ≤ c0) (hl : b.length ≤ 1000000) (hb : okB b = true) (hL : LaidOps w) :
  Calls Tryd.prog 97 #[.slice A0 b.length c0] w fun e w' => GetPost b w e w' := by
 have hi : (Tryd.prog.info? 48).map (·.size) = some 5 := by kernel_rfl
 obtain ⟨G, hG⟩ : ∃ G, ugetR b = G := ⟨_, rfl⟩
 have hG0 := hG
 unfold ugetR at hG
 dsimp only at hG
 have hT := fun g w0 w hI hB => text_calls g w0 w b 0 false hI hB hb
 generalize textR b 0 false = t at hG hT
 have hP := fun g w0 w hI hB => numbers_calls g w0 w b t.2.1 t.2.2 1 8 hI hB hb
 generalize numbersR b t.2.1 t.2.2 1 8 = p at hG hP
 have hR := fun g w0 w hI hB => num_calls g w0 w b p.2.2.1 p.2.2.2 1 hI hB hb
 generalize numR b p.2.2.1 p.2.2.2 1 = r at hG hR
 have hM := fun g w0 w hI hB => numbers_calls g w0 w b r.2.1 r.2.2 2 1024 hI hB hb
 generalize numbersR b r.2.1 r.2.2 2 1024 = l at hG hM
 have hN := fun g w0 w hI hB => num_calls g w0 w b l.2.2.1 l.2.2.2 2 hI hB hb
 generalize numR b l.2.2.1 l.2.2.2 2 = n at hG hN
 have hX := fun g w0 w hI hB => take_calls g w0 w b n.2.1 n.2.2 (wrap64 (5 * n.1)) hI hB hb
 have hxl := take_len (b := b) (at_ := n.2.1) (bad := n.2.2) (n := wrap64 (5 * n.1))
 have hxm := take_mem (b := b) (at_ := n.2.1) (bad := n.2.2) (n := wrap64 (5 * n.1))
 generalize takeR b n.2.1 n.2.2 (wrap64 (5 * n.1)) = x at hG hX hxl hxm
 have hxb : okB x.1 = true := by
  have h2 := okB_all hb
  unfold okB
  simp only [Bool.and_eq_true, List.all_eq_true, decide_eq_true_eq]
  exact ⟨fun y hy => h2.1 y (hxm y hy), by omega⟩
 have hD := fun A c w hC hc hL => decode_calls A c x.1 _ w hC hc (Nat.le_trans hxl hl) hxb rfl hL
 generalize decF x.1.length x.1 [] = c at hG hD
 have HT := zA hT
 have HP := zA hP
 have HR := zA hR
 have HM := zA hM
 have HN := zA hN
 have HX := zA hX
 have HD := zA hD
 have HL := zA hL
 have hG := zA hG
 have hG0 := zA hG0
 clear hT hP hR hM hN hX hD hxl hxm hxb
 have hW0 := (zX w.heap.size w).alloc (z5 _) (.cells #[.string ⟨#[]⟩, .slice none 0 0, .int .i64 0, .slice none 0 0, .slice none 0 0] 48)
 have hNw := zA (new_calls A0 c0 b (w.alloc (.cells #[.string ⟨#[]⟩, .slice none 0 0, .int .i64 0, .slice none 0 0, .slice none 0 0] 48)) (zD hr0 hW0) hc0 (by omega))
 have hz0 := heap_alloc_new w (.cells #[.string ⟨#[]⟩, .slice none 0 0, .int .i64 0, .slice none 0 0, .slice none 0 0] 48)
 have hW0 := zA hW0
 clear hr0 hl hb hL
 go_enter Tryd.func97, Tryd.ntmps97
 go_wp2_with fail
 refine hNw.out.mono ?_
 rintro e w8 ⟨w7, g, rfl, hI8, hb7, hb8⟩
 have HW := zA (show ∀ W, Below w7.heap.size w7 W → Below w.heap.size w W from fun W h => (hW0.out.trans (hb7.mono hW0.out.size)).trans (h.mono (Nat.le_trans hW0.out.size hb7.size)))
 have HSZ : w.heap.size ≤ w7.heap.size := by have := hb7.size; simp at this; omega
 have HZ := zA (show ∀ W, Below w7.heap.size w7 W → W.heap[w.heap.size]? = some (.cells #[.string ⟨#[]⟩, .slice none 0 0, .int .i64 0, .slice none 0 0, .slice none 0 0] 48 (0, 0)) from fun W h => (h.block w.heap.size (by have := hb7.size; simp at this; omega)).trans ((hb7.block w.heap.size (by simp)).trans hz0))
 clear hNw hW0 hz0 hb7
 go_wp2_with fail
 refine (HT.out g w7 _ hI8 hb8).mono ?_
 rintro e w9 ⟨rfl, hI9, hb9, _⟩
 clear HT hI8 hb8
 have hI := hI9.alloc (.cells #[.string t.1, .slice none 0 0, .int .i64 0, .slice none 0 0, .slice none 0 0] 48)
 have hB := hb9.alloc hb9.size (.cells #[.string t.1, .slice none 0 0, .int .i64 0, .slice none 0 0, .slice none 0 0] 48)
 have hx := heap_alloc_new w9 (.cells #[.string t.1, .slice none 0 0, .int .i64 0, .slice none 0 0, .slice none 0 0] 48)
 have hgb : g ≠ w9.heap.size := by have := hI9.lt; omega
 have hgb7 : w7.heap.size ≤ w9.heap.size := hb9.size
 clear hI9 hb9
 go_wp2_with fail
 refine (bad_calls g w7 _ b t.2.1 t.2.2 hI).mono ?_
 rintro e wd ⟨rfl, m, rfl⟩
 replace hI := hI.drewN m
 replace hB := zN hB m
 by_cases h1 : t.2.2 = true
 ·have hg := hG.out
  rw [if_pos h1] at hg
  have HG := zA (hG0.out.trans hg.symm)
  clear hg hG hG0
  rw [h1]
  clear h1
  have hz := HZ.out _ hB
  have hB := HW.out _ hB
  go_wp2_with ((with_reducible refine gate_store (t := 48) (p := 2) (v := .tmp 16) rfl ?_); refine wpList_store_row rfl 48 (.tmp 2) (.tmp 16) rfl w.heap.size #[.string ⟨#[]⟩, .slice none 0 0, .int .i64 0, .slice none 0 0, .slice none 0 0] rfl rfl 48 _ hz (by rw [hi]; rfl) rfl (by kernel_rfl) ?_)
  refine bodyPost_ret (results_ct rfl _ _ w.heap.size 48 #[.string ⟨#[]⟩, .slice none 0 0, .int .i64 0, .slice none 0 0, .slice none 0 0] (0, 0) _ rfl (setRow_heap _ _ _ _ _ _ hz) Tryd.underlying48 rfl hi) rfl ?_
  exact GetPost.zero (v := .bool true) HG.out rfl (below_setRow hB (z5 _) _)
 ·have hg := hG.out
  rw [if_neg h1] at hg
  replace hG := zA hg
  clear hg
  replace h1 : t.2.2 = false := by simpa using h1
  rw [h1]
  clear h1
  go_wp2_with fail
  refine (HP.out g w7 _ hI hB).mono ?_
  rintro e wn ⟨v0, rfl, ho, hI', hB', hk⟩
  obtain ⟨AP, cP, rfl, hlP, _⟩ := Kd.R_reads ho
  have hsz := hB.size
  clear hI hB HP
  have hI := hI'
  have hB := hB'
  clear hI' hB'
  replace hx := hk.blk hx hgb.symm (by simp)
  clear hk
  have RwP := zA (Kd.R_lower (Kd.R_mono (Kd.R_types (hI.apart ho (by decide)) hx (by decide)) (fun k h => (⟨h.1.2, h.2⟩ : k ≠ g ∧ k ≠ w9.heap.size))) hsz)
  clear ho hsz
  have fz := zF hx 1
  have fc := (zC hx 1).trans rfl
  replace hI := hI.far (p := ⟨w9.heap.size, 1, none⟩) hgb (.slice AP p.1.length cP)
  replace hB := zE (j := 1) (v := .slice AP p.1.length cP) hB hgb7
  replace hx := blk_put (cs' := #[.string t.1, .slice AP p.1.length cP, .int .i64 0, .slice none 0 0, .slice none 0 0]) hx 1 (.slice AP p.1.length cP) rfl
  replace RwP := zA (Kd.R_far (p := ⟨w9.heap.size, 1, none⟩) RwP.out (fun k h => h.2) (.slice AP p.1.length cP))
  by_cases h1 : ¬ p.2.1 = 0
  ·have hg := hG.out
   rw [if_pos h1] at hg
   have HG := zA (hG0.out.trans hg.symm)
   clear hg hG hG0
   have hz := HZ.out _ hB
   have hB := HW.out _ hB
   go_wp2_with ((with_reducible refine gate_store (t := 48) (p := 2) (v := .tmp 25) rfl ?_); refine wpList_store_row rfl 48 (.tmp 2) (.tmp 25) rfl w.heap.size #[.string ⟨#[]⟩, .slice none 0 0, .int .i64 0, .slice none 0 0, .slice none 0 0] rfl rfl 48 _ hz (by rw [hi]; rfl) rfl (by kernel_rfl) ?_)
   refine bodyPost_ret (results_ct rfl _ _ w.heap.size 48 #[.string ⟨#[]⟩, .slice none 0 0, .int .i64 0, .slice none 0 0, .slice none 0 0] (0, 0) _ rfl (setRow_heap _ _ _ _ _ _ hz) Tryd.underlying48 rfl hi) rfl ?_
   exact GetPost.zero (v := .bool true) HG.out rfl (below_setRow hB (z5 _) _)
  ·have hg := hG.out
   rw [if_neg h1] at hg
   replace hG := zA hg
   clear hg
   have h1 := h1
   replace h1 : p.2.1 = 0 := by simpa using h1
   rw [h1]
   clear h1
   go_wp2_with fail
   refine (HR.out g w7 _ hI hB).mono ?_
   clear fz fc
   rintro e wn ⟨rfl, hI', hB', hk⟩
   clear hI hB
   have hI := hI'
   have hB := hB'
   clear hI' hB'
   replace hx := hk.blk hx hgb.symm (by simp)
   replace RwP := zA (Kd.R_keep RwP.out hk (fun k h => h.1))
   clear hk
   have fz := zF hx 2
   have fc := (zC hx 2).trans rfl
   replace hI := hI.far (p := ⟨w9.heap.size, 2, none⟩) hgb (.int .i64 r.1)
   replace hB := zE (j := 2) (v := .int .i64 r.1) hB hgb7
   replace hx := blk_put (cs' := #[.string t.1, .slice AP p.1.length cP, .int .i64 r.1, .slice none 0 0, .slice none 0 0]) hx 2 (.int .i64 r.1) rfl
   replace RwP := zA (Kd.R_far (p := ⟨w9.heap.size, 2, none⟩) RwP.out (fun k h => h.2) (.int .i64 r.1))
   go_wp2_with fail
   refine (bad_calls g w7 _ b r.2.1 r.2.2 hI).mono ?_
   rintro e wd ⟨rfl, m, rfl⟩
   replace hI := hI.drewN m
   replace hB := zN hB m
   by_cases h1 : r.2.2 = true
   ·have hg := hG.out
    rw [if_pos h1] at hg
    have HG := zA (hG0.out.trans hg.symm)
    clear hg hG hG0
    rw [h1]
    clear h1
    have hz := HZ.out _ hB
    have hB := HW.out _ hB
    go_wp2_with ((with_reducible refine gate_store (t := 48) (p := 2) (v := .tmp 32) rfl ?_); refine wpList_store_row rfl 48 (.tmp 2) (.tmp 32) rfl w.heap.size #[.string ⟨#[]⟩, .slice none 0 0, .int .i64 0, .slice none 0 0, .slice none 0 0] rfl rfl 48 _ hz (by rw [hi]; rfl) rfl (by kernel_rfl) ?_)
    refine bodyPost_ret (results_ct rfl _ _ w.heap.size 48 #[.string ⟨#[]⟩, .slice none 0 0, .int .i64 0, .slice none 0 0, .slice none 0 0] (0, 0) _ rfl (setRow_heap _ _ _ _ _ _ hz) Tryd.underlying48 rfl hi) rfl ?_
    exact GetPost.zero (v := .bool true) HG.out rfl (below_setRow hB (z5 _) _)
   ·have hg := hG.out
    rw [if_neg h1] at hg
    replace hG := zA hg
    clear hg
    replace h1 : r.2.2 = false := by simpa using h1
    rw [h1]
    clear h1
    clear fz fc
    go_wp2_with fail
    refine (HM.out g w7 _ hI hB).mono ?_
    rintro e wn ⟨v0, rfl, ho, hI', hB', hk⟩
    obtain ⟨AL, cL, rfl, hlL, _⟩ := Kd.R_reads ho
    have hsz := hB.size
    clear hI hB HM
    have hI := hI'
    have hB := hB'
    clear hI' hB'
    replace hx := hk.blk hx hgb.symm (by simp)
    replace RwP := zA (Kd.R_keep RwP.out hk (fun k h => h.1))
    clear hk
    have RwL := zA (Kd.R_lower (Kd.R_mono (Kd.R_types (hI.apart ho (by decide)) hx (by decide)) (fun k h => (⟨h.1.2, h.2⟩ : k ≠ g ∧ k ≠ w9.heap.size))) hsz)
    clear ho hsz
    have fz := zF hx 3
    have fc := (zC hx 3).trans rfl
    replace hI := hI.far (p := ⟨w9.heap.size, 3, none⟩) hgb (.slice AL l.1.length cL)
    replace hB := zE (j := 3) (v := .slice AL l.1.length cL) hB hgb7
    replace hx := blk_put (cs' := #[.string t.1, .slice AP p.1.length cP, .int .i64 r.1, .slice AL l.1.length cL, .slice none 0 0]) hx 3 (.slice AL l.1.length cL) rfl
    replace RwP := zA (Kd.R_far (p := ⟨w9.heap.size, 3, none⟩) RwP.out (fun k h => h.2) (.slice AL l.1.length cL))
    replace RwL := zA (Kd.R_far (p := ⟨w9.heap.size, 3, none⟩) RwL.out (fun k h => h.2) (.slice AL l.1.length cL))
    by_cases h1 : ¬ l.2.1 = 0
    ·have hg := hG.out
     rw [if_pos h1] at hg
     have HG := zA (hG0.out.trans hg.symm)
     clear hg hG hG0
     have hz := HZ.out _ hB
     have hB := HW.out _ hB
     go_wp2_with ((with_reducible refine gate_store (t := 48) (p := 2) (v := .tmp 41) rfl ?_); refine wpList_store_row rfl 48 (.tmp 2) (.tmp 41) rfl w.heap.size #[.string ⟨#[]⟩, .slice none 0 0, .int .i64 0, .slice none 0 0, .slice none 0 0] rfl rfl 48 _ hz (by rw [hi]; rfl) rfl (by kernel_rfl) ?_)
     refine bodyPost_ret (results_ct rfl _ _ w.heap.size 48 #[.string ⟨#[]⟩, .slice none 0 0, .int .i64 0, .slice none 0 0, .slice none 0 0] (0, 0) _ rfl (setRow_heap _ _ _ _ _ _ hz) Tryd.underlying48 rfl hi) rfl ?_
     exact GetPost.zero (v := .bool true) HG.out rfl (below_setRow hB (z5 _) _)
    ·have hg := hG.out
     rw [if_neg h1] at hg
     replace hG := zA hg
     clear hg
     have h1 := h1
     replace h1 : l.2.1 = 0 := by simpa using h1
     rw [h1]
     clear h1
     go_wp2_with fail
     refine (HN.out g w7 _ hI hB).mono ?_
     clear fz fc
     rintro e wn ⟨rfl, hI', hB', hk⟩
     clear hI hB
     have hI := hI'
     have hB := hB'
     clear hI' hB'
     replace hx := hk.blk hx hgb.symm (by simp)
     replace RwP := zA (Kd.R_keep RwP.out hk (fun k h => h.1))
     replace RwL := zA (Kd.R_keep RwL.out hk (fun k h => h.1))
     clear hk
     by_cases h1 : n.1 > 16384
     ·have hg := hG.out
      rw [if_pos h1] at hg
      have HG := zA (hG0.out.trans hg.symm)
      clear hg hG hG0
      have hz := HZ.out _ hB
      have hB := HW.out _ hB
      go_wp2_with ((with_reducible refine gate_store (t := 48) (p := 2) (v := .tmp 47) rfl ?_); refine wpList_store_row rfl 48 (.tmp 2) (.tmp 47) rfl w.heap.size #[.string ⟨#[]⟩, .slice none 0 0, .int .i64 0, .slice none 0 0, .slice none 0 0] rfl rfl 48 _ hz (by rw [hi]; rfl) rfl (by kernel_rfl) ?_)
      refine bodyPost_ret (results_ct rfl _ _ w.heap.size 48 #[.string ⟨#[]⟩, .slice none 0 0, .int .i64 0, .slice none 0 0, .slice none 0 0] (0, 0) _ rfl (setRow_heap _ _ _ _ _ _ hz) Tryd.underlying48 rfl hi) rfl ?_
      exact GetPost.zero (v := .bool true) HG.out rfl (below_setRow hB (z5 _) _)
     ·have hg := hG.out
      rw [if_neg h1] at hg
      replace hG := zA hg
      clear hg
      have h1 := h1
      go_wp2_with fail
      refine (HX.out g w7 _ hI hB).mono ?_
      rintro e wn ⟨v0, rfl, ho, hI', hB', hk⟩
      obtain ⟨Ax, cx, rfl, hlx, hCx⟩ := Kd.R_reads ho
      clear hI hB HX ho h1
      have hI := hI'
      have hB := hB'
      clear hI' hB'
      replace hx := hk.blk hx hgb.symm (by simp)
      replace RwP := zA (Kd.R_keep RwP.out hk (fun k h => h.1))
      replace RwL := zA (Kd.R_keep RwL.out hk (fun k h => h.1))
      clear hk
      replace hCx := zA hCx
      go_wp2_with fail
      refine (bad_calls g w7 _ b x.2.1 x.2.2 hI).mono ?_
      rintro e wd ⟨rfl, m, rfl⟩
      replace hI := hI.drewN m
      replace hB := zN hB m
      by_cases h1 : x.2.2 = true
      ·have hg := hG.out
       rw [if_pos h1] at hg
       have HG := zA (hG0.out.trans hg.symm)
       clear hg hG hG0
       rw [h1]
       clear h1
       have hz := HZ.out _ hB
       have hB := HW.out _ hB
       go_wp2_with ((with_reducible refine gate_store (t := 48) (p := 2) (v := .tmp 54) rfl ?_); refine wpList_store_row rfl 48 (.tmp 2) (.tmp 54) rfl w.heap.size #[.string ⟨#[]⟩, .slice none 0 0, .int .i64 0, .slice none 0 0, .slice none 0 0] rfl rfl 48 _ hz (by rw [hi]; rfl) rfl (by kernel_rfl) ?_)
       refine bodyPost_ret (results_ct rfl _ _ w.heap.size 48 #[.string ⟨#[]⟩, .slice none 0 0, .int .i64 0, .slice none 0 0, .slice none 0 0] (0, 0) _ rfl (setRow_heap _ _ _ _ _ _ hz) Tryd.underlying48 rfl hi) rfl ?_
       exact GetPost.zero (v := .bool true) HG.out rfl (below_setRow hB (z5 _) _)
      ·have hg := hG.out
       rw [if_neg h1] at hg
       replace hG := zA hg
       clear hg
       replace h1 : x.2.2 = false := by simpa using h1
       rw [h1]
       clear h1
       replace RwP := zA (Kd.R_below RwP.out (zN (zX _ _) m))
       replace RwL := zA (Kd.R_below RwL.out (zN (zX _ _) m))
       go_wp2_with fail
       refine (HD.out Ax cx _ (zD hCx.out (zN (zX _ _) m)) hlx (HL.out.below (HW.out _ hB))).mono ?_
       rintro e wc ⟨v0, rfl, ho, hb⟩
       obtain ⟨AC, cC, rfl, hlC, _⟩ := Kd.R_reads ho
       have hsz := hB.size
       replace hI := hI.below hb
       replace hB := below_then hB hB.size hb
       replace hx := (hb.block _ (blk_lt hx)).trans hx
       replace RwP := zA (Kd.R_below RwP.out hb)
       replace RwL := zA (Kd.R_below RwL.out hb)
       have RwC := zA (Kd.R_lower (Kd.R_mono (Kd.R_types (hI.apart ho (by decide)) hx (by decide)) (fun k h => (⟨h.1.2, h.2⟩ : k ≠ g ∧ k ≠ w9.heap.size))) hsz)
       clear ho hsz HD hCx hlx hb
       have fz := zF hx 4
       have fc := (zC hx 4).trans rfl
       replace hI := hI.far (p := ⟨w9.heap.size, 4, none⟩) hgb (.slice AC c.1.length cC)
       replace hB := zE (j := 4) (v := .slice AC c.1.length cC) hB hgb7
       replace hx := blk_put (cs' := #[.string t.1, .slice AP p.1.length cP, .int .i64 r.1, .slice AL l.1.length cL, .slice AC c.1.length cC]) hx 4 (.slice AC c.1.length cC) rfl
       replace RwP := zA (Kd.R_far (p := ⟨w9.heap.size, 4, none⟩) RwP.out (fun k h => h.2) (.slice AC c.1.length cC))
       replace RwL := zA (Kd.R_far (p := ⟨w9.heap.size, 4, none⟩) RwL.out (fun k h => h.2) (.slice AC c.1.length cC))
       replace RwC := zA (Kd.R_far (p := ⟨w9.heap.size, 4, none⟩) RwC.out (fun k h => h.2) (.slice AC c.1.length cC))
       by_cases h1 : ¬ c.2.2 = 0
       ·have hg := hG.out
        rw [if_pos h1] at hg
        have HG := zA (hG0.out.trans hg.symm)
        clear hg hG hG0
        have hz := HZ.out _ hB
        have hB := HW.out _ hB
        go_wp2_with ((with_reducible refine gate_store (t := 48) (p := 2) (v := .tmp 64) rfl ?_); refine wpList_store_row rfl 48 (.tmp 2) (.tmp 64) rfl w.heap.size #[.string ⟨#[]⟩, .slice none 0 0, .int .i64 0, .slice none 0 0, .slice none 0 0] rfl rfl 48 _ hz (by rw [hi]; rfl) rfl (by kernel_rfl) ?_)
        refine bodyPost_ret (results_ct rfl _ _ w.heap.size 48 #[.string ⟨#[]⟩, .slice none 0 0, .int .i64 0, .slice none 0 0, .slice none 0 0] (0, 0) _ rfl (setRow_heap _ _ _ _ _ _ hz) Tryd.underlying48 rfl hi) rfl ?_
        exact GetPost.zero (v := .bool true) HG.out rfl (below_setRow hB (z5 _) _)
       ·have hg := hG.out
        rw [if_neg h1] at hg
        replace hG := zA hg
        clear hg
        have h1 := h1
        replace h1 : c.2.2 = 0 := by simpa using h1
        rw [h1]
        clear h1
        go_wp2_with fail
        clear fz fc
        have hlf := left_calls g w7 _ b x.2.1 x.2.2 hI
        have hg := hG.out
        generalize (if x.2.2 = true then (0 : Int) else (b.length : Int) - x.2.1) = dd at hg hlf
        replace hG := zA hg
        clear hg
        refine hlf.mono ?_
        clear hlf
        rintro e wd ⟨rfl, m, rfl⟩
        replace hI := hI.drewN m
        replace hB := zN hB m
        by_cases h1 : dd > 0
        ·have hg := hG.out
         rw [if_pos h1] at hg
         have HG := zA (hG0.out.trans hg.symm)
         clear hg hG hG0
         have hz := HZ.out _ hB
         have hB := HW.out _ hB
         go_wp2_with ((with_reducible refine gate_store (t := 48) (p := 2) (v := .tmp 69) rfl ?_); refine wpList_store_row rfl 48 (.tmp 2) (.tmp 69) rfl w.heap.size #[.string ⟨#[]⟩, .slice none 0 0, .int .i64 0, .slice none 0 0, .slice none 0 0] rfl rfl 48 _ hz (by rw [hi]; rfl) rfl (by kernel_rfl) ?_)
         refine bodyPost_ret (results_ct rfl _ _ w.heap.size 48 #[.string ⟨#[]⟩, .slice none 0 0, .int .i64 0, .slice none 0 0, .slice none 0 0] (0, 0) _ rfl (setRow_heap _ _ _ _ _ _ hz) Tryd.underlying48 rfl hi) rfl ?_
         exact GetPost.zero (v := .bool true) HG.out rfl (below_setRow hB (z5 _) _)
        ·have hg := hG.out
         rw [if_neg h1] at hg
         replace hG := zA hg
         clear hg
         have h1 := h1
         have q0 := (zC hx 0).trans rfl
         have q1 := (zC hx 1).trans rfl
         have q2 := (zC hx 2).trans rfl
         have q3 := (zC hx 3).trans rfl
         have q4 := (zC hx 4).trans rfl
         have hz := HZ.out _ hB
         have hBw := HW.out _ hB
         go_wp2_with ((with_reducible refine gate_store (t := 48) (p := 2) (v := .tmp 70) rfl ?_); refine wpList_store_row rfl 48 (.tmp 2) (.tmp 70) rfl w.heap.size #[.string t.1, .slice AP p.1.length cP, .int .i64 r.1, .slice AL l.1.length cL, .slice AC c.1.length cC] rfl rfl 48 _ hz (by rw [hi]; rfl) rfl (by kernel_rfl) ?_)
         refine bodyPost_ret (results_ct rfl _ _ w.heap.size 48 #[.string t.1, .slice AP p.1.length cP, .int .i64 r.1, .slice AL l.1.length cL, .slice AC c.1.length cC] (0, 0) _ rfl (setRow_heap _ _ _ _ _ _ hz) Tryd.underlying48 rfl hi) rfl ?_
         have HG := hG0.out.trans hG.out.symm
         have rP := Kd.R_mono (Kd.R_lower (Kd.R_keep (Kd.R_types RwP.out (show (World.drewN _ m).heap[w.heap.size]? = _ from hz) (by decide)) (keep_setRow _ w.heap.size #[.string t.1, .slice AP p.1.length cP, .int .i64 r.1, .slice AL l.1.length cL, .slice AC c.1.length cC]) (fun k h => h.2)) HSZ) (fun _ _ => trivial)
         have rL := Kd.R_mono (Kd.R_lower (Kd.R_keep (Kd.R_types RwL.out (show (World.drewN _ m).heap[w.heap.size]? = _ from hz) (by decide)) (keep_setRow _ w.heap.size #[.string t.1, .slice AP p.1.length cP, .int .i64 r.1, .slice AL l.1.length cL, .slice AC c.1.length cC]) (fun k h => h.2)) HSZ) (fun _ _ => trivial)
         have rC := Kd.R_mono (Kd.R_lower (Kd.R_keep (Kd.R_types RwC.out (show (World.drewN _ m).heap[w.heap.size]? = _ from hz) (by decide)) (keep_setRow _ w.heap.size #[.string t.1, .slice AP p.1.length cP, .int .i64 r.1, .slice AL l.1.length cL, .slice AC c.1.length cC]) (fun k h => h.2)) HSZ) (fun _ _ => trivial)
         have e1 := congrArg Prod.fst HG
         have e2 := congrArg Prod.snd HG
         dsimp only at e1 e2
         refine ⟨#[.string t.1, .slice AP p.1.length cP, .int .i64 r.1, .slice AL l.1.length cL, .slice AC c.1.length cC], by rw [e2]; rfl, ?_, below_setRow hBw (z5 _) _⟩
         rw [e1]
         exact UOk.mk rP rL rC
end Go.Proofs.YtdbfgfgbjheibaaDoor.Given
end

section
/- The container's sections as the program reads them: a run of bytes, a section; what is thrown. -/
namespace Go.Proofs.YtdbfgfgbjheibaaDoor.Given
open Go Go.RowKit Go.Proofs.YtdbfgfgbjheibaaDoor Go.Proofs.YtdbfgfgbjheibaaDoorW.PrintWords Go.Proofs.YtdbfgfgbjheibaaDoorW.PrintLast Go.Proofs.YtdbfgfgbjheibaaDoorW.PrintMore
set_option linter.unusedVariables false
set_option linter.unusedSimpArgs false
/-- Bytes behind how many they are. -/
def runF (b : List Int) (at_ : Int) (bad : Bool) : List Int × Int × Bool := takeR b (numR b at_ bad 4).2.1 (numR b at_ bad 4).2.2 (numR b at_ bad 4).1
theorem runF_mem {b : List Int} {at_ : Int} {bad : Bool} : ∀ x ∈ (runF b at_ bad).1, x ∈ b := take_mem
theorem runF_len {b : List Int} {at_ : Int} {bad : Bool} : (runF b at_ bad).1.length ≤ b.length := take_len
/-- The bytes of the section k: a code, these, where the reader is. -/
def takeS (b : List Int) (at_ : Int) (k : Int) : Int × List Int × Int :=
 if (b.length : Int) - at_ < 5 then (1, [], 0) else
 if ¬ (numR b at_ false 1).1 = k then (4, [], 0) else
 if (runF b (numR b at_ false 1).2.1 (numR b at_ false 1).2.2).2.2 = true then (1, [], 0) else
 (0, (runF b (numR b at_ false 1).2.1 (numR b at_ false 1).2.2).1, (runF b (numR b at_ false 1).2.1 (numR b at_ false 1).2.2).2.1)
theorem RI.drewN {W : World} {g : Nat} {b : List Int} {at_ : Int} {bad : Bool} (h : RI W g b at_ bad) (m : Nat) : RI (W.drewN m) g b at_ bad := h.below (zN (zX _ _) m)
theorem keep_drewN {W w : World} {g : Nat} (h : KeepBut W w g none) (m : Nat) : KeepBut W (w.drewN m) g none := h
set_option maxHeartbeats 2000000 in
theorem run_ok (g : Nat) (W : World) (b : List Int) (at_ : Int) (bad : Bool) (h : RI W g b at_ bad) (hb : okB b = true) (hx : (runF b at_ bad).2.2 = false) :
  Calls Tryd.prog 90 #[.pointer (some ⟨g, 0, none⟩)] W fun e w' => ∃ A c, e = .returned (.slice A (runF b at_ bad).1.length c) ∧ Kd.C (Kd.int .u8) w' A (runF b at_ bad).1.length (runF b at_ bad).1 ∧ (runF b at_ bad).1.length ≤ c ∧ RI w' g b (runF b at_ bad).2.1 (runF b at_ bad).2.2 ∧ KeepBut W w' g none ∧ Below g W w' := by
 have P1 := num_i g W b at_ bad 4 h hb
 unfold runF at hx ⊢
 generalize numR b at_ bad 4 = n at hx P1 ⊢
 have P2 := zA (fun W (h : RI W g b n.2.1 n.2.2) => take_i g W b n.2.1 n.2.2 n.1 h hb)
 generalize takeR b n.2.1 n.2.2 n.1 = x at hx P2 ⊢
 have P3 := zA P1
 clear P1 h hb
 go_enter Tryd.func90, Tryd.ntmps90
 go_wp2_with fail
 refine P3.out.mono ?_
 rintro e w1 ⟨rfl, h1, hk1, hb1⟩
 have H1 := zA (And.intro h1 (And.intro hk1 hb1))
 clear h1 hk1 hb1 P3
 go_wp2_with fail
 refine (P2.out w1 H1.out.1).mono ?_
 rintro e w2 ⟨v, rfl, ho, h2, hk2, hb2⟩
 obtain ⟨A, c, rfl, hl, hC⟩ := Kd.R_reads ho
 have H2 := zA (And.intro h2 (And.intro (H1.out.2.1.trans hk2 (.inl rfl)) (H1.out.2.2.trans hb2)))
 have HC := zA hC
 have HLl := zA hl
 clear h2 hk2 hb2 ho hC hl P2 H1
 go_wp2_with fail
 refine (bad_i g w2 b _ _ H2.out.1).mono ?_
 rintro e w3 ⟨rfl, m, rfl⟩
 rw [hx]
 go_wp2_with fail
 go_ret
 exact ⟨A, c, rfl, HC.out, HLl.out, H2.out.1.drewN m, keep_drewN H2.out.2.1 m, zN H2.out.2.2 m⟩
set_option maxHeartbeats 2000000 in
theorem run_no (g : Nat) (W : World) (b : List Int) (at_ : Int) (bad : Bool) (h : RI W g b at_ bad) (hb : okB b = true) (hx : (runF b at_ bad).2.2 = true) :
  Calls Tryd.prog 90 #[.pointer (some ⟨g, 0, none⟩)] W fun e w' => e = .panicked [{ v := wrongV 1, recovered := false }] ∧ Below g W w' := by
 have P1 := num_i g W b at_ bad 4 h hb
 have PM := zA (fun W => must_bad 1 (by decide) W)
 unfold runF at hx
 generalize numR b at_ bad 4 = n at hx P1 ⊢
 have P2 := zA (fun W (h : RI W g b n.2.1 n.2.2) => take_i g W b n.2.1 n.2.2 n.1 h hb)
 generalize takeR b n.2.1 n.2.2 n.1 = x at hx P2 ⊢
 have P3 := zA P1
 clear P1 h hb
 go_enter Tryd.func90, Tryd.ntmps90
 go_wp2_with fail
 refine P3.out.mono ?_
 rintro e w1 ⟨rfl, h1, hk1, hb1⟩
 have H1 := zA (And.intro h1 hb1)
 clear h1 hk1 hb1 P3
 go_wp2_with fail
 refine (P2.out w1 H1.out.1).mono ?_
 rintro e w2 ⟨v, rfl, ho, h2, hk2, hb2⟩
 have H2 := zA (And.intro h2 (H1.out.2.trans hb2))
 clear h2 hk2 hb2 ho P2 H1
 go_wp2_with fail
 refine (bad_i g w2 b _ _ H2.out.1).mono ?_
 rintro e w3 ⟨rfl, m, rfl⟩
 rw [hx]
 go_wp2_with fail
 refine (PM.out _).mono ?_
 rintro e w4 ⟨rfl, rfl⟩
 exact ⟨rfl, rfl, zN H2.out.2 m⟩
set_option maxHeartbeats 2000000 in
theorem take_ok2 (g : Nat) (W : World) (b : List Int) (at_ k : Int) (h : RI W g b at_ false) (hb : okB b = true) (hx : (takeS b at_ k).1 = 0) :
  Calls Tryd.prog 62 #[.pointer (some ⟨g, 0, none⟩), .int .i64 k] W fun e w' => ∃ A c, e = .returned (.slice A (takeS b at_ k).2.1.length c) ∧ Kd.C (Kd.int .u8) w' A (takeS b at_ k).2.1.length (takeS b at_ k).2.1 ∧ (takeS b at_ k).2.1.length ≤ c ∧ RI w' g b (takeS b at_ k).2.2 false ∧ KeepBut W w' g none ∧ Below g W w' := by
 have P1 := left_i g W b at_ h
 have P2 := zA (fun W (h : RI W g b at_ false) => num_i g W b at_ false 1 h hb)
 have P3 := zA (fun W (h : RI W g b (numR b at_ false 1).2.1 (numR b at_ false 1).2.2) => run_ok g W b (numR b at_ false 1).2.1 (numR b at_ false 1).2.2 h hb)
 obtain ⟨T, hT⟩ : ∃ T, takeS b at_ k = T := ⟨_, rfl⟩
 rw [hT] at hx ⊢
 unfold takeS at hT
 by_cases c1 : (b.length : Int) - at_ < 5
 ·rw [if_pos c1] at hT; subst hT; cases hx
 rw [if_neg c1] at hT
 generalize numR b at_ false 1 = n at P2 P3 hT
 by_cases c2 : ¬ n.1 = k
 ·rw [if_pos c2] at hT; subst hT; cases hx
 rw [if_neg c2] at hT
 generalize runF b n.2.1 n.2.2 = x at P3 hT
 by_cases c3 : x.2.2 = true
 ·rw [if_pos c3] at hT; subst hT; cases hx
 rw [if_neg c3] at hT
 have c3 : x.2.2 = false := by simpa using c3
 have hbne : (n.1 != k) = false := by simpa using c2
 have c2 : n.1 = k := by simpa using c2
 subst hT
 dsimp only
 have HH := zA h
 have P4 := zA P1
 clear P1 h hb hx
 go_enter Tryd.func62, Tryd.ntmps62
 go_wp2_with fail
 refine P4.out.mono ?_
 rintro e w1 ⟨rfl, m, rfl⟩
 have H1 := zA (And.intro (HH.out.drewN m) (And.intro (keep_drewN (KeepBut.refl W g none) m) (zN (zX g W) m)))
 clear HH P4
 generalize W.drewN m = w1 at H1 ⊢
 go_wp2_with fail
 refine (P2.out w1 H1.out.1).mono ?_
 rintro e w2 ⟨rfl, h2, hk2, hb2⟩
 have H2 := zA (And.intro h2 (And.intro (H1.out.2.1.trans hk2 (.inl rfl)) (H1.out.2.2.trans hb2)))
 clear h2 hk2 hb2 P2 H1
 go_wp2_with fail
 refine (P3.out w2 H2.out.1 c3).mono ?_
 rintro e w3 ⟨A, c, rfl, hC, hl, h3, hk3, hb3⟩
 rw [c3] at h3
 have HF := zA (And.intro hC (And.intro hl (And.intro h3 (And.intro (H2.out.2.1.trans hk3 (.inl rfl)) (H2.out.2.2.trans hb3)))))
 clear hC hl h3 hk3 hb3 P3 H2
 go_wp2_with fail
 go_ret
 exact ⟨A, c, rfl, HF.out.1, HF.out.2.1, HF.out.2.2.1, HF.out.2.2.2.1, HF.out.2.2.2.2⟩
set_option maxHeartbeats 2000000 in
theorem take_no (g : Nat) (W : World) (b : List Int) (at_ k : Int) (h : RI W g b at_ false) (hb : okB b = true) (hx : ¬ (takeS b at_ k).1 = 0) :
  Calls Tryd.prog 62 #[.pointer (some ⟨g, 0, none⟩), .int .i64 k] W fun e w' => e = .panicked [{ v := wrongV (takeS b at_ k).1, recovered := false }] ∧ Below g W w' := by
 have P1 := left_i g W b at_ h
 have P2 := zA (fun W (h : RI W g b at_ false) => num_i g W b at_ false 1 h hb)
 have P3 := zA (fun W (h : RI W g b (numR b at_ false 1).2.1 (numR b at_ false 1).2.2) => run_no g W b (numR b at_ false 1).2.1 (numR b at_ false 1).2.2 h hb)
 have M1 := zA (fun W => must_bad 1 (by decide) W)
 have M4 := zA (fun W => must_bad 4 (by decide) W)
 obtain ⟨T, hT⟩ : ∃ T, takeS b at_ k = T := ⟨_, rfl⟩
 rw [hT] at hx ⊢
 unfold takeS at hT
 have HH := zA h
 have P4 := zA P1
 clear P1 h hb
 by_cases c1 : (b.length : Int) - at_ < 5
 ·rw [if_pos c1] at hT; subst hT
  go_enter Tryd.func62, Tryd.ntmps62
  go_wp2_with fail
  refine P4.out.mono ?_
  rintro e w1 ⟨rfl, m, rfl⟩
  go_wp2_with fail
  refine (M1.out _).mono ?_
  rintro e w4 ⟨rfl, rfl⟩
  exact ⟨rfl, rfl, zN (zX g W) m⟩
 rw [if_neg c1] at hT
 generalize numR b at_ false 1 = n at P2 P3 hT
 by_cases c2 : ¬ n.1 = k
 ·rw [if_pos c2] at hT; subst hT
  have hbne : (n.1 != k) = true := by simpa using c2
  go_enter Tryd.func62, Tryd.ntmps62
  go_wp2_with fail
  refine P4.out.mono ?_
  rintro e w1 ⟨rfl, m, rfl⟩
  have H1 := zA (And.intro (HH.out.drewN m) (zN (zX g W) m))
  generalize W.drewN m = w1 at H1 ⊢
  go_wp2_with fail
  refine (P2.out w1 H1.out.1).mono ?_
  rintro e w2 ⟨rfl, h2, hk2, hb2⟩
  have H2 := zA (H1.out.2.trans hb2)
  clear h2 hk2 hb2 P2 H1
  go_wp2_with fail
  refine (M4.out _).mono ?_
  rintro e w4 ⟨rfl, rfl⟩
  exact ⟨rfl, rfl, H2.out⟩
 rw [if_neg c2] at hT
 generalize runF b n.2.1 n.2.2 = x at P3 hT
 by_cases c3 : x.2.2 = true
 rotate_left
 ·rw [if_neg c3] at hT; subst hT; exact absurd rfl hx
 rw [if_pos c3] at hT
 have hbne : (n.1 != k) = false := by simpa using c2
 have c2 : n.1 = k := by simpa using c2
 subst hT
 go_enter Tryd.func62, Tryd.ntmps62
 go_wp2_with fail
 refine P4.out.mono ?_
 rintro e w1 ⟨rfl, m, rfl⟩
 have H1 := zA (And.intro (HH.out.drewN m) (zN (zX g W) m))
 clear HH P4
 generalize W.drewN m = w1 at H1 ⊢
 go_wp2_with fail
 refine (P2.out w1 H1.out.1).mono ?_
 rintro e w2 ⟨rfl, h2, hk2, hb2⟩
 have H2 := zA (And.intro h2 (H1.out.2.trans hb2))
 clear h2 hk2 hb2 P2 H1
 go_wp2_with fail
 refine (P3.out w2 H2.out.1 c3).mono ?_
 rintro e w3 ⟨rfl, hb3⟩
 exact ⟨rfl, rfl, H2.out.2.trans hb3⟩
end Go.Proofs.YtdbfgfgbjheibaaDoor.Given
end

section
/- Printed by a program of this session (wip/pg.py, over the print of the kit): functions, their Lean twins, and the proofs that the calls come to them; each under the conditions that it names. -/
namespace Go.Proofs.YtdbfgfgbjheibaaDoor.PCod

open Go.RowKit Go.Proofs.YtdbfgfgbjheibaaDoorW.PrintWords Go.Proofs.YtdbfgfgbjheibaaDoorW.PrintLast Go.Proofs.YtdbfgfgbjheibaaDoorW.PrintMore
attribute [local go_sem] max2_int min2_int max_two min_two max_three min_three max_four min_four   -- for this text's walks alone
set_option linter.unusedVariables false
set_option linter.unusedSimpArgs false

/-! ### r12_Shape: function 111 -/
mutual
def r12_Shape.j0 : Nat → Int → Bool → Option (Int × Int)
 | 0, _, _ => none
 | k + 1, x0, x10 => if x10 = true then (some (0, 0)) else ((some (([10, 1, 2, 2, 3, 3, 2, 2] : List Int) : List Int)).bind fun y101 => (if x0 < 8 then (if x0 = 0 then (some (10, 10)) else (if 0 ≤ x0 then (if x0 < (y101.length : Int) then (some (rd y101 x0, 0)) else (none)) else (none))) else (if x0 < 26 then (some (4, 0)) else (if x0 = 26 then (some (4, 4)) else (if x0 < 30 then (r12_Shape.j1 k x0 true) else (r12_Shape.j1 k x0 (x0 == 34)))))))
def r12_Shape.j1 : Nat → Int → Bool → Option (Int × Int)
 | 0, _, _ => none
 | k + 1, x0, x29 => if x29 = true then (some (0, 0)) else (if x0 < 32 then (some (5, 10)) else (if x0 = 32 then (some (6, 10)) else (if x0 = 33 then (some (7, 0)) else (if x0 = 36 then (some (8, 0)) else (some (8, 9))))))
end
def r12_Shape.f (k : Nat) (a0 : Int) : Option (Int × Int) := if a0 < 0 then (r12_Shape.j0 k a0 true) else (r12_Shape.j0 k a0 (decide (a0 > 37)))
theorem r12_Shape.mono_l : ∀ k, (∀ y0 y1, LeO (r12_Shape.j0 k y0 y1) (r12_Shape.j0 (k + 1) y0 y1)) ∧ (∀ y0 y1, LeO (r12_Shape.j1 k y0 y1) (r12_Shape.j1 (k + 1) y0 y1))
 | 0 => ⟨fun _ _ r h => by simp [r12_Shape.j0] at h, fun _ _ r h => by simp [r12_Shape.j1] at h⟩
 | k + 1 => by
  obtain ⟨ih0, ih1⟩ := r12_Shape.mono_l k
  refine ⟨?_, ?_⟩
  ·intro y0 y1
   unfold r12_Shape.j0
   repeat' first
   | (with_reducible exact ih0 _ _)
   | (with_reducible exact ih1 _ _)
   | (with_reducible exact LeO.refl _)
   | (with_reducible exact LeO.none _)
   | (with_reducible refine LeO.ite ?_ ?_)
   | (with_reducible refine LeO.bind ?_ (fun _ => ?_))
   | exact ih0 _ _
   | exact ih1 _ _
   | exact LeO.none _
   | refine LeO.ite ?_ ?_
   | refine LeO.bind ?_ (fun _ => ?_)
  ·intro y0 y1
   unfold r12_Shape.j1
   repeat' first
   | (with_reducible exact ih0 _ _)
   | (with_reducible exact ih1 _ _)
   | (with_reducible exact LeO.refl _)
   | (with_reducible exact LeO.none _)
   | (with_reducible refine LeO.ite ?_ ?_)
   | (with_reducible refine LeO.bind ?_ (fun _ => ?_))
   | exact ih0 _ _
   | exact ih1 _ _
   | exact LeO.none _
   | refine LeO.ite ?_ ?_
   | refine LeO.bind ?_ (fun _ => ?_)
theorem r12_Shape.mono : ∀ a0 k, LeO (r12_Shape.f k a0) (r12_Shape.f (k + 1) a0) := by
 intro a0 k
 obtain ⟨ih0, ih1⟩ := r12_Shape.mono_l k
 unfold r12_Shape.f
 repeat' first
   | (with_reducible exact ih0 _ _)
   | (with_reducible exact ih1 _ _)
   | (with_reducible exact LeO.refl _)
   | (with_reducible exact LeO.none _)
   | (with_reducible refine LeO.ite ?_ ?_)
   | (with_reducible refine LeO.bind ?_ (fun _ => ?_))
   | exact ih0 _ _
   | exact ih1 _ _
   | exact LeO.none _
   | refine LeO.ite ?_ ?_
   | refine LeO.bind ?_ (fun _ => ?_)
set_option maxHeartbeats 8000000 in
set_option maxRecDepth 100000 in
theorem r12_Shape.calls (k : Nat) (a0 : Int) (r1 : Int) (r2 : Int) (w : World) (h : r12_Shape.f k a0 = some (r1, r2)) :
  Calls Tryd.prog 111 #[.int .i64 a0] w fun e w' => e = .returned (.tuple #[.int .i64 r1, .int .i64 r2]) ∧ Below w.heap.size w w' := by
 have HB := zA (zX w.heap.size w)
 have H : (if a0 < 0 then (r12_Shape.j0 k a0 true) else (r12_Shape.j0 k a0 (decide (a0 > 37)))) = some (r1, r2) := h
 clear h
 have HC2 := zA H
 clear H
 go_enter Tryd.func111, Tryd.ntmps111
 go_upto_region 1 with (fail)
 go_cut [10] (fun v10 wc => ∃ (kq : Nat) (x10_1 : Bool), v10 = .bool x10_1 ∧ Aside0 (r12_Shape.j0 kq a0 x10_1 = some (r1, r2)) ∧ Aside0 (kq ≤ k) ∧ Aside0 (Below w.heap.size w wc))
 case first =>
  have H := HC2.out
  clear HC2
  by_cases c3 : a0 < 0
  ·rw [if_pos c3] at H
   have c3b0 : decide (a0 < 0) = true := decide_eq_true c3
   clear c3
   (first | rw [c3b0] | (simp only [i64_w, i32_w]; rw [c3b0]) | skip)
   have H' := zA H
   clear H
   go_wp2
   go_meet
   case rel => exact ⟨_, (true), (by first | rfl | (simp; done) | (simp [*]; done)), H', ⟨by first | omega | exact z5 _⟩, ⟨by repeat (first | (with_reducible first | exact HB.out | apply zB | apply zN | apply below_drew1) | exact HB.out)⟩⟩
  ·rw [if_neg c3] at H
   have c3b0 : decide (a0 < 0) = false := decide_eq_false c3
   clear c3
   (first | rw [c3b0] | (simp only [i64_w, i32_w]; rw [c3b0]) | skip)
   have H' := zA H
   clear H
   go_wp2
   go_meet
   case rel => exact ⟨_, (decide (a0 > 37)), (by first | rfl | (simp; done) | (simp [*]; done)), H', ⟨by first | omega | exact z5 _⟩, ⟨by repeat (first | (with_reducible first | exact HB.out | apply zB | apply zN | apply below_drew1) | exact HB.out)⟩⟩
 case rest =>
  clear HC2
  try clear c1
  try clear p2
  try clear c3
  try clear c3b0
  obtain ⟨kq, x10_1, rfl, HA, HJ1, HB⟩ := hcut
  cases kq with
  | zero => exact absurd HA.out (by simp [r12_Shape.j0])
  | succ kj1 =>
   have H := HA.out
   clear HA
   simp only [r12_Shape.j0] at H
   by_cases c4 : x10_1 = true
   ·subst c4
    have H1 : (some (0, 0)) = some (r1, r2) := by rw [if_pos rfl] at H; exact H
    clear H
    have H := H1
    clear H1
    simp only [Option.some.injEq, Prod.mk.injEq] at H
    obtain ⟨rfl, rfl⟩ := H
    go_wp2
    go_ret2
    exact ⟨by first | rfl | (simp [errW_none, errW_some] <;> rfl) | (simp [*, errW_none, errW_some] <;> rfl), by repeat (first | (with_reducible first | exact HB.out | apply zB | apply zN | apply below_drew1) | exact HB.out)⟩
   ·replace c4 := Bool.eq_false_iff.mpr c4
    subst c4
    have H1 : ((some (([10, 1, 2, 2, 3, 3, 2, 2] : List Int) : List Int)).bind fun y101 => (if a0 < 8 then (if a0 = 0 then (some (10, 10)) else (if 0 ≤ a0 then (if a0 < (y101.length : Int) then (some (rd y101 a0, 0)) else (none)) else (none))) else (if a0 < 26 then (some (4, 0)) else (if a0 = 26 then (some (4, 4)) else (if a0 < 30 then (r12_Shape.j1 kj1 a0 true) else (r12_Shape.j1 kj1 a0 (a0 == 34))))))) = some (r1, r2) := by rw [if_neg (show ¬ (false = true) by decide)] at H; exact H
    clear H
    have H := H1
    clear H1
    obtain ⟨y101, hy101⟩ : ∃ y_ : List Int, y_ = (([10, 1, 2, 2, 3, 3, 2, 2] : List Int)) := ⟨_, rfl⟩
    replace H : (if a0 < 8 then (if a0 = 0 then (some (10, 10)) else (if 0 ≤ a0 then (if a0 < (y101.length : Int) then (some (rd y101 a0, 0)) else (none)) else (none))) else (if a0 < 26 then (some (4, 0)) else (if a0 = 26 then (some (4, 4)) else (if a0 < 30 then (r12_Shape.j1 kj1 a0 true) else (r12_Shape.j1 kj1 a0 (a0 == 34)))))) = some (r1, r2) := by first | (rw [hy101]; with_reducible exact H) | (have H2_ := (zP _ _).symm.trans H; rw [hy101]; with_reducible exact H2_) | (have H2_ := (zP _ _).symm.trans H; with_reducible exact H2_) | with_reducible exact H | (rw [hy101]; exact H) | exact H
    have Ny101 := zA hy101
    clear hy101
    by_cases c5 : a0 < 8
    ·rw [if_pos c5] at H
     have c5b0 : decide (a0 < 8) = true := decide_eq_true c5
     clear c5
     by_cases c6 : a0 = 0
     ·rw [if_pos c6] at H
      have c6b0 : (a0 == 0) = true := beq_iff_eq.mpr c6
      have c6b1 : (a0 != 0) = false := bne_eq_false_iff_eq.mpr c6
      clear c6
      simp only [Option.some.injEq, Prod.mk.injEq] at H
      obtain ⟨rfl, rfl⟩ := H
      go_wp2_with (first | ((with_reducible refine gate_dst (N := 11) rfl ?_); refine Kd.R_lit (Kd.int .i64) _ 3 ?hg (N := 11) ?hd (xs := ([10, 1, 2, 2, 3, 3, 2, 2] : List Int)) (inner := [.int .i64 10, .int .i64 1, .int .i64 2, .int .i64 2, .int .i64 3, .int .i64 3, .int .i64 2, .int .i64 2]) (ok := fun _ => True) (okp := fun _ => True) ?hr ?hp (fun _ hk => hk) trivial (zX _ _) (z5 _) (by simp) ?_; (case hd => rfl); (case hg => rfl); (case hr => first | (go_simp; done) | (go_simp; rfl)); (case hp => exact (Reps.one (show Kd.M (Kd.int .i64) _ _ _ 10 [.int .i64 10] from rfl) (Reps.one (show Kd.M (Kd.int .i64) _ _ _ 1 [.int .i64 1] from rfl) (Reps.one (show Kd.M (Kd.int .i64) _ _ _ 2 [.int .i64 2] from rfl) (Reps.one (show Kd.M (Kd.int .i64) _ _ _ 2 [.int .i64 2] from rfl) (Reps.one (show Kd.M (Kd.int .i64) _ _ _ 3 [.int .i64 3] from rfl) (Reps.one (show Kd.M (Kd.int .i64) _ _ _ 3 [.int .i64 3] from rfl) (Reps.one (show Kd.M (Kd.int .i64) _ _ _ 2 [.int .i64 2] from rfl) (Reps.one (show Kd.M (Kd.int .i64) _ _ _ 2 [.int .i64 2] from rfl) (Reps.none _ _)))))))))); intro v102 w7 ho8 hb hg_ hnew_; clear hg_ hnew_; (first | rw [← Ny101.out] at ho8 | (simp only [Int.reduceToNat] at ho8; rw [← Ny101.out] at ho8)); have HO103 := zA (Kd.R_lower ho8 (below_size (by repeat (first | (with_reducible first | exact HB.out | apply zB | apply zN | apply below_drew1) | exact HB.out)))); replace HB := zA (below_step (by repeat (first | (with_reducible first | exact HB.out | apply zB | apply zN | apply below_drew1) | exact HB.out)) hb); clear hb ho8))
      go_ret2
      exact ⟨by first | rfl | (simp [errW_none, errW_some] <;> rfl) | (simp [*, errW_none, errW_some] <;> rfl), by repeat (first | (with_reducible first | exact HB.out | apply zB | apply zN | apply below_drew1) | exact HB.out)⟩
     ·rw [if_neg c6] at H
      have c6b0 : (a0 == 0) = false := beq_eq_false_iff_ne.mpr c6
      have c6b1 : (a0 != 0) = true := bne_iff_ne.mpr c6
      by_cases c9 : 0 ≤ a0
      ·rw [if_pos c9] at H
       have c9b0 : decide (0 ≤ a0) = true := decide_eq_true c9
       clear c9
       by_cases c10 : a0 < (y101.length : Int)
       ·rw [if_pos c10] at H
        have c10b0 : decide (a0 < (y101.length : Int)) = true := decide_eq_true c10
        clear c10
        simp only [Option.some.injEq, Prod.mk.injEq] at H
        obtain ⟨rfl, rfl⟩ := H
        go_wp2_with (first | ((with_reducible refine gate_dst (N := 11) rfl ?_); refine Kd.R_lit (Kd.int .i64) _ 3 ?hg (N := 11) ?hd (xs := ([10, 1, 2, 2, 3, 3, 2, 2] : List Int)) (inner := [.int .i64 10, .int .i64 1, .int .i64 2, .int .i64 2, .int .i64 3, .int .i64 3, .int .i64 2, .int .i64 2]) (ok := fun _ => True) (okp := fun _ => True) ?hr ?hp (fun _ hk => hk) trivial (zX _ _) (z5 _) (by simp) ?_; (case hd => rfl); (case hg => rfl); (case hr => first | (go_simp; done) | (go_simp; rfl)); (case hp => exact (Reps.one (show Kd.M (Kd.int .i64) _ _ _ 10 [.int .i64 10] from rfl) (Reps.one (show Kd.M (Kd.int .i64) _ _ _ 1 [.int .i64 1] from rfl) (Reps.one (show Kd.M (Kd.int .i64) _ _ _ 2 [.int .i64 2] from rfl) (Reps.one (show Kd.M (Kd.int .i64) _ _ _ 2 [.int .i64 2] from rfl) (Reps.one (show Kd.M (Kd.int .i64) _ _ _ 3 [.int .i64 3] from rfl) (Reps.one (show Kd.M (Kd.int .i64) _ _ _ 3 [.int .i64 3] from rfl) (Reps.one (show Kd.M (Kd.int .i64) _ _ _ 2 [.int .i64 2] from rfl) (Reps.one (show Kd.M (Kd.int .i64) _ _ _ 2 [.int .i64 2] from rfl) (Reps.none _ _)))))))))); intro v102 w11 ho12 hb hg_ hnew_; clear hg_ hnew_; (first | rw [← Ny101.out] at ho12 | (simp only [Int.reduceToNat] at ho12; rw [← Ny101.out] at ho12)); have HO103 := zA (Kd.R_lower ho12 (below_size (by repeat (first | (with_reducible first | exact HB.out | apply zB | apply zN | apply below_drew1) | exact HB.out)))); replace HB := zA (below_step (by repeat (first | (with_reducible first | exact HB.out | apply zB | apply zN | apply below_drew1) | exact HB.out)) hb); clear hb ho12; obtain ⟨Ao13, co13, eo13⟩ := Kd.R_slice HO103.out; subst eo13; have p104 : 0 ≤ (a0 : Int) := zO (by first | (with_reducible assumption) | assumption); have q104 : a0 < (y101.length : Int) := zO (by first | (with_reducible assumption) | assumption); obtain ⟨ad104, e104, hx104_0⟩ := Kd.at_int (Kd.R_reads' HO103.out).2.2 a0 p104 q104; cases e104; replace p104 := eq_true p104; replace q104 := eq_true q104))
        go_ret2
        exact ⟨by first | rfl | (simp [errW_none, errW_some] <;> rfl) | (simp [*, errW_none, errW_some] <;> rfl), by repeat (first | (with_reducible first | exact HB.out | apply zB | apply zN | apply below_drew1) | exact HB.out)⟩
       ·rw [if_neg c10] at H
        exact absurd H (by simp)
      ·rw [if_neg c9] at H
       exact absurd H (by simp)
    ·rw [if_neg c5] at H
     have c5b0 : decide (a0 < 8) = false := decide_eq_false c5
     clear c5
     by_cases c14 : a0 < 26
     ·rw [if_pos c14] at H
      have c14b0 : decide (a0 < 26) = true := decide_eq_true c14
      clear c14
      simp only [Option.some.injEq, Prod.mk.injEq] at H
      obtain ⟨rfl, rfl⟩ := H
      go_wp2_with (first | ((with_reducible refine gate_dst (N := 11) rfl ?_); refine Kd.R_lit (Kd.int .i64) _ 3 ?hg (N := 11) ?hd (xs := ([10, 1, 2, 2, 3, 3, 2, 2] : List Int)) (inner := [.int .i64 10, .int .i64 1, .int .i64 2, .int .i64 2, .int .i64 3, .int .i64 3, .int .i64 2, .int .i64 2]) (ok := fun _ => True) (okp := fun _ => True) ?hr ?hp (fun _ hk => hk) trivial (zX _ _) (z5 _) (by simp) ?_; (case hd => rfl); (case hg => rfl); (case hr => first | (go_simp; done) | (go_simp; rfl)); (case hp => exact (Reps.one (show Kd.M (Kd.int .i64) _ _ _ 10 [.int .i64 10] from rfl) (Reps.one (show Kd.M (Kd.int .i64) _ _ _ 1 [.int .i64 1] from rfl) (Reps.one (show Kd.M (Kd.int .i64) _ _ _ 2 [.int .i64 2] from rfl) (Reps.one (show Kd.M (Kd.int .i64) _ _ _ 2 [.int .i64 2] from rfl) (Reps.one (show Kd.M (Kd.int .i64) _ _ _ 3 [.int .i64 3] from rfl) (Reps.one (show Kd.M (Kd.int .i64) _ _ _ 3 [.int .i64 3] from rfl) (Reps.one (show Kd.M (Kd.int .i64) _ _ _ 2 [.int .i64 2] from rfl) (Reps.one (show Kd.M (Kd.int .i64) _ _ _ 2 [.int .i64 2] from rfl) (Reps.none _ _)))))))))); intro v102 w15 ho16 hb hg_ hnew_; clear hg_ hnew_; (first | rw [← Ny101.out] at ho16 | (simp only [Int.reduceToNat] at ho16; rw [← Ny101.out] at ho16)); have HO103 := zA (Kd.R_lower ho16 (below_size (by repeat (first | (with_reducible first | exact HB.out | apply zB | apply zN | apply below_drew1) | exact HB.out)))); replace HB := zA (below_step (by repeat (first | (with_reducible first | exact HB.out | apply zB | apply zN | apply below_drew1) | exact HB.out)) hb); clear hb ho16))
      go_ret2
      exact ⟨by first | rfl | (simp [errW_none, errW_some] <;> rfl) | (simp [*, errW_none, errW_some] <;> rfl), by repeat (first | (with_reducible first | exact HB.out | apply zB | apply zN | apply below_drew1) | exact HB.out)⟩
     ·rw [if_neg c14] at H
      have c14b0 : decide (a0 < 26) = false := decide_eq_false c14
      clear c14
      by_cases c17 : a0 = 26
      ·rw [if_pos c17] at H
       have c17b0 : (a0 == 26) = true := beq_iff_eq.mpr c17
       have c17b1 : (a0 != 26) = false := bne_eq_false_iff_eq.mpr c17
       clear c17
       simp only [Option.some.injEq, Prod.mk.injEq] at H
       obtain ⟨rfl, rfl⟩ := H
       go_wp2_with (first | ((with_reducible refine gate_dst (N := 11) rfl ?_); refine Kd.R_lit (Kd.int .i64) _ 3 ?hg (N := 11) ?hd (xs := ([10, 1, 2, 2, 3, 3, 2, 2] : List Int)) (inner := [.int .i64 10, .int .i64 1, .int .i64 2, .int .i64 2, .int .i64 3, .int .i64 3, .int .i64 2, .int .i64 2]) (ok := fun _ => True) (okp := fun _ => True) ?hr ?hp (fun _ hk => hk) trivial (zX _ _) (z5 _) (by simp) ?_; (case hd => rfl); (case hg => rfl); (case hr => first | (go_simp; done) | (go_simp; rfl)); (case hp => exact (Reps.one (show Kd.M (Kd.int .i64) _ _ _ 10 [.int .i64 10] from rfl) (Reps.one (show Kd.M (Kd.int .i64) _ _ _ 1 [.int .i64 1] from rfl) (Reps.one (show Kd.M (Kd.int .i64) _ _ _ 2 [.int .i64 2] from rfl) (Reps.one (show Kd.M (Kd.int .i64) _ _ _ 2 [.int .i64 2] from rfl) (Reps.one (show Kd.M (Kd.int .i64) _ _ _ 3 [.int .i64 3] from rfl) (Reps.one (show Kd.M (Kd.int .i64) _ _ _ 3 [.int .i64 3] from rfl) (Reps.one (show Kd.M (Kd.int .i64) _ _ _ 2 [.int .i64 2] from rfl) (Reps.one (show Kd.M (Kd.int .i64) _ _ _ 2 [.int .i64 2] from rfl) (Reps.none _ _)))))))))); intro v102 w18 ho19 hb hg_ hnew_; clear hg_ hnew_; (first | rw [← Ny101.out] at ho19 | (simp only [Int.reduceToNat] at ho19; rw [← Ny101.out] at ho19)); have HO103 := zA (Kd.R_lower ho19 (below_size (by repeat (first | (with_reducible first | exact HB.out | apply zB | apply zN | apply below_drew1) | exact HB.out)))); replace HB := zA (below_step (by repeat (first | (with_reducible first | exact HB.out | apply zB | apply zN | apply below_drew1) | exact HB.out)) hb); clear hb ho19))
       go_ret2
       exact ⟨by first | rfl | (simp [errW_none, errW_some] <;> rfl) | (simp [*, errW_none, errW_some] <;> rfl), by repeat (first | (with_reducible first | exact HB.out | apply zB | apply zN | apply below_drew1) | exact HB.out)⟩
      ·rw [if_neg c17] at H
       have c17b0 : (a0 == 26) = false := beq_eq_false_iff_ne.mpr c17
       have c17b1 : (a0 != 26) = true := bne_iff_ne.mpr c17
       have HC20 := zA H
       clear H
       go_upto_region 12 with (first | ((with_reducible refine gate_dst (N := 11) rfl ?_); refine Kd.R_lit (Kd.int .i64) _ 3 ?hg (N := 11) ?hd (xs := ([10, 1, 2, 2, 3, 3, 2, 2] : List Int)) (inner := [.int .i64 10, .int .i64 1, .int .i64 2, .int .i64 2, .int .i64 3, .int .i64 3, .int .i64 2, .int .i64 2]) (ok := fun _ => True) (okp := fun _ => True) ?hr ?hp (fun _ hk => hk) trivial (zX _ _) (z5 _) (by simp) ?_; (case hd => rfl); (case hg => rfl); (case hr => first | (go_simp; done) | (go_simp; rfl)); (case hp => exact (Reps.one (show Kd.M (Kd.int .i64) _ _ _ 10 [.int .i64 10] from rfl) (Reps.one (show Kd.M (Kd.int .i64) _ _ _ 1 [.int .i64 1] from rfl) (Reps.one (show Kd.M (Kd.int .i64) _ _ _ 2 [.int .i64 2] from rfl) (Reps.one (show Kd.M (Kd.int .i64) _ _ _ 2 [.int .i64 2] from rfl) (Reps.one (show Kd.M (Kd.int .i64) _ _ _ 3 [.int .i64 3] from rfl) (Reps.one (show Kd.M (Kd.int .i64) _ _ _ 3 [.int .i64 3] from rfl) (Reps.one (show Kd.M (Kd.int .i64) _ _ _ 2 [.int .i64 2] from rfl) (Reps.one (show Kd.M (Kd.int .i64) _ _ _ 2 [.int .i64 2] from rfl) (Reps.none _ _)))))))))); intro v102 w21 ho22 hb hg_ hnew_; clear hg_ hnew_; (first | rw [← Ny101.out] at ho22 | (simp only [Int.reduceToNat] at ho22; rw [← Ny101.out] at ho22)); have HO103 := zA (Kd.R_lower ho22 (below_size (by repeat (first | (with_reducible first | exact HB.out | apply zB | apply zN | apply below_drew1) | exact HB.out)))); replace HB := zA (below_step (by repeat (first | (with_reducible first | exact HB.out | apply zB | apply zN | apply below_drew1) | exact HB.out)) hb); clear hb ho22))
       (try simp only [Act.put, zY, List.set_cons_zero, z2])
       go_cut [29] (fun v29 wc => ∃ (kq : Nat) (x29_19 : Bool), v29 = .bool x29_19 ∧ Aside0 (r12_Shape.j1 kq a0 x29_19 = some (r1, r2)) ∧ Aside0 (kq ≤ kj1) ∧ Aside0 (Below w.heap.size w wc))
       case first =>
        have H := HC20.out
        clear HC20
        by_cases c23 : a0 < 30
        ·rw [if_pos c23] at H
         have c23b0 : decide (a0 < 30) = true := decide_eq_true c23
         clear c23
         (first | rw [c23b0] | (simp only [i64_w, i32_w]; rw [c23b0]) | skip)
         have H' := zA H
         clear H
         go_wp2
         go_meet
         case rel => exact ⟨_, (true), (by first | rfl | (simp; done) | (simp [*]; done)), H', ⟨by have := HJ1.out; first | omega | exact z5 _⟩, ⟨by repeat (first | (with_reducible first | exact HB.out | apply zB | apply zN | apply below_drew1) | exact HB.out)⟩⟩
        ·rw [if_neg c23] at H
         have c23b0 : decide (a0 < 30) = false := decide_eq_false c23
         clear c23
         (first | rw [c23b0] | (simp only [i64_w, i32_w]; rw [c23b0]) | skip)
         have H' := zA H
         clear H
         go_wp2
         go_meet
         case rel => exact ⟨_, ((a0 == 34)), (by first | rfl | (simp; done) | (simp [*]; done)), H', ⟨by have := HJ1.out; first | omega | exact z5 _⟩, ⟨by repeat (first | (with_reducible first | exact HB.out | apply zB | apply zN | apply below_drew1) | exact HB.out)⟩⟩
       case rest =>
        clear HC20
        try clear c1
        try clear p1
        try clear q1
        try clear hx1
        try clear c2
        try clear p2
        try clear c3
        try clear c3b0
        try clear c4
        try clear c5
        try clear c5b0
        try clear c6
        try clear c6b0
        try clear c6b1
        try clear c9
        try clear c9b0
        try clear c10
        try clear c10b0
        try clear p10
        try clear q10
        try clear hx10
        try clear c11
        try clear c14
        try clear c14b0
        try clear c17
        try clear c17b0
        try clear c17b1
        try clear c23
        try clear c23b0
        try clear hx104_0
        try clear p104
        try clear p2
        try clear q104
        obtain ⟨kq, x29_19, rfl, HA, HJ19, HB⟩ := hcut
        cases kq with
        | zero => exact absurd HA.out (by simp [r12_Shape.j1])
        | succ kj19 =>
         have H := HA.out
         clear HA
         simp only [r12_Shape.j1] at H
         by_cases c24 : x29_19 = true
         ·subst c24
          have H1 : (some (0, 0)) = some (r1, r2) := by rw [if_pos rfl] at H; exact H
          clear H
          have H := H1
          clear H1
          simp only [Option.some.injEq, Prod.mk.injEq] at H
          obtain ⟨rfl, rfl⟩ := H
          go_wp2
          go_ret2
          exact ⟨by first | rfl | (simp [errW_none, errW_some] <;> rfl) | (simp [*, errW_none, errW_some] <;> rfl), by repeat (first | (with_reducible first | exact HB.out | apply zB | apply zN | apply below_drew1) | exact HB.out)⟩
         ·replace c24 := Bool.eq_false_iff.mpr c24
          subst c24
          have H1 : (if a0 < 32 then (some (5, 10)) else (if a0 = 32 then (some (6, 10)) else (if a0 = 33 then (some (7, 0)) else (if a0 = 36 then (some (8, 0)) else (some (8, 9)))))) = some (r1, r2) := by rw [if_neg (show ¬ (false = true) by decide)] at H; exact H
          clear H
          have H := H1
          clear H1
          by_cases c25 : a0 < 32
          ·rw [if_pos c25] at H
           have c25b0 : decide (a0 < 32) = true := decide_eq_true c25
           clear c25
           simp only [Option.some.injEq, Prod.mk.injEq] at H
           obtain ⟨rfl, rfl⟩ := H
           go_wp2
           go_ret2
           exact ⟨by first | rfl | (simp [errW_none, errW_some] <;> rfl) | (simp [*, errW_none, errW_some] <;> rfl), by repeat (first | (with_reducible first | exact HB.out | apply zB | apply zN | apply below_drew1) | exact HB.out)⟩
          ·rw [if_neg c25] at H
           have c25b0 : decide (a0 < 32) = false := decide_eq_false c25
           clear c25
           by_cases c26 : a0 = 32
           ·rw [if_pos c26] at H
            have c26b0 : (a0 == 32) = true := beq_iff_eq.mpr c26
            have c26b1 : (a0 != 32) = false := bne_eq_false_iff_eq.mpr c26
            clear c26
            simp only [Option.some.injEq, Prod.mk.injEq] at H
            obtain ⟨rfl, rfl⟩ := H
            go_wp2
            go_ret2
            exact ⟨by first | rfl | (simp [errW_none, errW_some] <;> rfl) | (simp [*, errW_none, errW_some] <;> rfl), by repeat (first | (with_reducible first | exact HB.out | apply zB | apply zN | apply below_drew1) | exact HB.out)⟩
           ·rw [if_neg c26] at H
            have c26b0 : (a0 == 32) = false := beq_eq_false_iff_ne.mpr c26
            have c26b1 : (a0 != 32) = true := bne_iff_ne.mpr c26
            by_cases c27 : a0 = 33
            ·rw [if_pos c27] at H
             have c27b0 : (a0 == 33) = true := beq_iff_eq.mpr c27
             have c27b1 : (a0 != 33) = false := bne_eq_false_iff_eq.mpr c27
             clear c27
             simp only [Option.some.injEq, Prod.mk.injEq] at H
             obtain ⟨rfl, rfl⟩ := H
             go_wp2
             go_ret2
             exact ⟨by first | rfl | (simp [errW_none, errW_some] <;> rfl) | (simp [*, errW_none, errW_some] <;> rfl), by repeat (first | (with_reducible first | exact HB.out | apply zB | apply zN | apply below_drew1) | exact HB.out)⟩
            ·rw [if_neg c27] at H
             have c27b0 : (a0 == 33) = false := beq_eq_false_iff_ne.mpr c27
             have c27b1 : (a0 != 33) = true := bne_iff_ne.mpr c27
             by_cases c28 : a0 = 36
             ·rw [if_pos c28] at H
              have c28b0 : (a0 == 36) = true := beq_iff_eq.mpr c28
              have c28b1 : (a0 != 36) = false := bne_eq_false_iff_eq.mpr c28
              clear c28
              simp only [Option.some.injEq, Prod.mk.injEq] at H
              obtain ⟨rfl, rfl⟩ := H
              go_wp2
              go_ret2
              exact ⟨by first | rfl | (simp [errW_none, errW_some] <;> rfl) | (simp [*, errW_none, errW_some] <;> rfl), by repeat (first | (with_reducible first | exact HB.out | apply zB | apply zN | apply below_drew1) | exact HB.out)⟩
             ·rw [if_neg c28] at H
              have c28b0 : (a0 == 36) = false := beq_eq_false_iff_ne.mpr c28
              have c28b1 : (a0 != 36) = true := bne_iff_ne.mpr c28
              simp only [Option.some.injEq, Prod.mk.injEq] at H
              obtain ⟨rfl, rfl⟩ := H
              go_wp2
              go_ret2
              exact ⟨by first | rfl | (simp [errW_none, errW_some] <;> rfl) | (simp [*, errW_none, errW_some] <;> rfl), by repeat (first | (with_reducible first | exact HB.out | apply zB | apply zN | apply below_drew1) | exact HB.out)⟩

/-! ### r12_may: function 112 -/
def r12_may.f (a0 : Int) (a1 : Int) : Option (Bool) := if a0 = 0 then (some true) else (if a1 = 0 then (some false) else (if a0 > 0 then (some (decide (a0 < 65536))) else (some false)))
set_option maxHeartbeats 8000000 in
set_option maxRecDepth 100000 in
theorem r12_may.calls (a0 : Int) (a1 : Int) (r : Bool) (w : World) (h : r12_may.f a0 a1 = some r) :
  Calls Tryd.prog 112 #[.int .i64 a0, .int .i64 a1] w fun e w' => e = .returned (.bool r) ∧ Drawn0 w w' := by
 have H : (if a0 = 0 then (some true) else (if a1 = 0 then (some false) else (if a0 > 0 then (some (decide (a0 < 65536))) else (some false)))) = some r := h
 clear h
 by_cases c3 : a0 = 0
 ·rw [if_pos c3] at H
  have c3b0 : (a0 == 0) = true := beq_iff_eq.mpr c3
  have c3b1 : (a0 != 0) = false := bne_eq_false_iff_eq.mpr c3
  clear c3
  obtain rfl := zJ H
  go_enter Tryd.func112, Tryd.ntmps112
  go_wp2
  go_ret
  exact ⟨by first | rfl | (simp; done) | (simp [*]; done), by repeat (first | exact z4 _ | apply z3)⟩
 ·rw [if_neg c3] at H
  have c3b0 : (a0 == 0) = false := beq_eq_false_iff_ne.mpr c3
  have c3b1 : (a0 != 0) = true := bne_iff_ne.mpr c3
  by_cases c4 : a1 = 0
  ·rw [if_pos c4] at H
   have c4b0 : (a1 == 0) = true := beq_iff_eq.mpr c4
   have c4b1 : (a1 != 0) = false := bne_eq_false_iff_eq.mpr c4
   clear c4
   obtain rfl := zJ H
   go_enter Tryd.func112, Tryd.ntmps112
   go_wp2
   go_ret
   exact ⟨by first | rfl | (simp; done) | (simp [*]; done), by repeat (first | exact z4 _ | apply z3)⟩
  ·rw [if_neg c4] at H
   have c4b0 : (a1 == 0) = false := beq_eq_false_iff_ne.mpr c4
   have c4b1 : (a1 != 0) = true := bne_iff_ne.mpr c4
   by_cases c5 : a0 > 0
   ·rw [if_pos c5] at H
    have c5b0 : decide (0 < a0) = true := decide_eq_true c5
    clear c5
    obtain rfl := zJ H
    go_enter Tryd.func112, Tryd.ntmps112
    go_wp2
    go_ret
    exact ⟨by first | rfl | (simp; done) | (simp [*]; done), by repeat (first | exact z4 _ | apply z3)⟩
   ·rw [if_neg c5] at H
    have c5b0 : decide (0 < a0) = false := decide_eq_false c5
    clear c5
    obtain rfl := zJ H
    go_enter Tryd.func112, Tryd.ntmps112
    go_wp2
    go_ret
    exact ⟨by first | rfl | (simp; done) | (simp [*]; done), by repeat (first | exact z4 _ | apply z3)⟩

/-! ### r12_Right: function 98 -/
def r12_Right.f (k : Nat) (a0_0 : Int) (a0_1 : Int) (a0_2 : Int) : Option (Bool) := (r12_Shape.f k a0_0).bind fun bt106 => (if a0_0 ≥ 0 then (if a0_0 ≤ 37 then ((r12_may.f a0_1 bt106.1).bind fun t108 => (if t108 = true then ((r12_may.f a0_2 bt106.2).bind fun t109 => (some t109)) else (some false))) else (some false)) else (some false))
set_option maxHeartbeats 8000000 in
set_option maxRecDepth 100000 in
theorem r12_Right.calls (k : Nat) (a0_0 : Int) (a0_1 : Int) (a0_2 : Int) (r : Bool) (w : World) (h : r12_Right.f k a0_0 a0_1 a0_2 = some r) :
  Calls Tryd.prog 98 #[.agg #[.int .i64 a0_0, .int .i64 a0_1, .int .i64 a0_2]] w fun e w' => e = .returned (.bool r) ∧ Below w.heap.size w w' := by
 have hu109 := Tryd.underlying109
 have HB := zA (zX w.heap.size w)
 have H : ((r12_Shape.f k a0_0).bind fun bt106 => (if a0_0 ≥ 0 then (if a0_0 ≤ 37 then ((r12_may.f a0_1 bt106.1).bind fun t108 => (if t108 = true then ((r12_may.f a0_2 bt106.2).bind fun t109 => (some t109)) else (some false))) else (some false)) else (some false))) = some r := h
 clear h
 replace H := Option.bind_eq_some_iff.mp H
 obtain ⟨⟨t106, t107⟩, A20, H⟩ := H
 replace H : (if a0_0 ≥ 0 then (if a0_0 ≤ 37 then ((r12_may.f a0_1 t106).bind fun t108 => (if t108 = true then ((r12_may.f a0_2 t107).bind fun t109 => (some t109)) else (some false))) else (some false)) else (some false)) = some r := H
 have A2 := zA A20
 clear A20
 by_cases c3 : a0_0 ≥ 0
 ·rw [if_pos c3] at H
  have c3b0 : decide (0 ≤ a0_0) = true := decide_eq_true c3
  clear c3
  by_cases c4 : a0_0 ≤ 37
  ·rw [if_pos c4] at H
   have c4b0 : decide (a0_0 ≤ 37) = true := decide_eq_true c4
   clear c4
   replace H := Option.bind_eq_some_iff.mp H
   obtain ⟨t108, A50, H⟩ := H
   replace H : (if t108 = true then ((r12_may.f a0_2 t107).bind fun t109 => (some t109)) else (some false)) = some r := H
   have A5 := zA A50
   clear A50
   by_cases c6 : t108 = true
   ·subst c6
    have H1 : ((r12_may.f a0_2 t107).bind fun t109 => (some t109)) = some r := by rw [if_pos rfl] at H; exact H
    clear H
    have H := H1
    clear H1
    replace H := Option.bind_eq_some_iff.mp H
    obtain ⟨t109, A70, H⟩ := H
    replace H : (some t109) = some r := H
    have A7 := zA A70
    clear A70
    obtain rfl := zJ H
    go_enter Tryd.func98, Tryd.ntmps98
    go_wp2_with (first | ((with_reducible refine gate_dst (N := 1) rfl ?_); refine box_event ?hg (N := 1) ?hd (cs := #[.int .i64 a0_0, .int .i64 a0_1, .int .i64 a0_2]) (t := 109) ?hr ?_; (case hd => rfl); (case hg => rfl); (case hr => first | (go_simp; done) | (go_simp; rfl)); intro gb105 hg w8 hbox hb; have BK105 := zA (hbox); have GW105 := zA ((by rw [hg]; exact (below_size (by repeat (first | (with_reducible first | exact HB.out | apply zB | apply zN | apply below_drew1) | exact HB.out))) : w.heap.size ≤ gb105)); have GE105 := GW105; replace HB := zA (below_step (by repeat (first | (with_reducible first | exact HB.out | apply zB | apply zN | apply below_drew1) | exact HB.out)) hb); clear hb hbox hg; have hcz9_0 : w8.cell? ⟨gb105, 0, none⟩ = some (.int .i64 a0_0) := (zC BK105.out 0).trans rfl; have hcz9_1 : w8.cell? ⟨gb105, 1, none⟩ = some (.int .i64 a0_1) := (zC BK105.out 1).trans rfl; have hcz9_2 : w8.cell? ⟨gb105, 2, none⟩ = some (.int .i64 a0_2) := (zC BK105.out 2).trans rfl; have hfz9_0 := zF BK105.out 0; have hfz9_1 := zF BK105.out 1; have hfz9_2 := zF BK105.out 2) | ((with_reducible refine gate_callee (f := 111) rfl ?_); refine goesL_ (some 8) rfl rfl Tryd.func111 (by kernel_rfl) rfl #[.int .i64 a0_0] rfl (by (try simp only [zm, zc, zn]); first | done | rfl | (simp only [zd, zt]; rfl)) ?_; (with_reducible refine (r12_Shape.calls k a0_0 t106 t107 _ A2.out).mono ?_); rintro e w10 ⟨rfl, hb⟩; refine ⟨_, rfl, ?_⟩; replace BK105 := zA (zQ (g := gb105) (o := .cells #[.int .i64 a0_0, .int .i64 a0_1, .int .i64 a0_2] 109 (0, 0)) (by (with_reducible repeat (first | refine zG ?_ _ | refine zH ?_)); exact BK105.out) hb); replace HB := zA (below_step (by repeat (first | (with_reducible first | exact HB.out | apply zB | apply zN | apply below_drew1 | refine zE ?_ GE105.out) | exact HB.out)) hb); (try clear hb); (try clear hb2); (try clear hk); (try clear hi); have hcz11_0 : w10.cell? ⟨gb105, 0, none⟩ = some (.int .i64 a0_0) := (zC BK105.out 0).trans rfl; have hcz11_1 : w10.cell? ⟨gb105, 1, none⟩ = some (.int .i64 a0_1) := (zC BK105.out 1).trans rfl; have hcz11_2 : w10.cell? ⟨gb105, 2, none⟩ = some (.int .i64 a0_2) := (zC BK105.out 2).trans rfl; have hfz11_0 := zF BK105.out 0; have hfz11_1 := zF BK105.out 1; have hfz11_2 := zF BK105.out 2) | (go_at_call 112; (with_reducible refine (r12_may.calls a0_1 t106 true _ A5.out).mono ?_); rintro e w' ⟨rfl, ⟨nd, rfl⟩⟩) | (go_at_call 112; (with_reducible refine (r12_may.calls a0_2 t107 t109 _ A7.out).mono ?_); rintro e w' ⟨rfl, ⟨nd, rfl⟩⟩))
    go_ret
    exact ⟨by first | rfl | (simp [errW_none, errW_some] <;> rfl) | (simp [*, errW_none, errW_some] <;> rfl), by repeat (first | (with_reducible first | exact HB.out | apply zB | apply zN | apply below_drew1 | refine zE ?_ GE105.out) | exact HB.out)⟩
   ·replace c6 := Bool.eq_false_iff.mpr c6
    subst c6
    have H1 : (some false) = some r := by rw [if_neg (show ¬ (false = true) by decide)] at H; exact H
    clear H
    have H := H1
    clear H1
    obtain rfl := zJ H
    go_enter Tryd.func98, Tryd.ntmps98
    go_wp2_with (first | ((with_reducible refine gate_dst (N := 1) rfl ?_); refine box_event ?hg (N := 1) ?hd (cs := #[.int .i64 a0_0, .int .i64 a0_1, .int .i64 a0_2]) (t := 109) ?hr ?_; (case hd => rfl); (case hg => rfl); (case hr => first | (go_simp; done) | (go_simp; rfl)); intro gb105 hg w12 hbox hb; have BK105 := zA (hbox); have GW105 := zA ((by rw [hg]; exact (below_size (by repeat (first | (with_reducible first | exact HB.out | apply zB | apply zN | apply below_drew1) | exact HB.out))) : w.heap.size ≤ gb105)); have GE105 := GW105; replace HB := zA (below_step (by repeat (first | (with_reducible first | exact HB.out | apply zB | apply zN | apply below_drew1) | exact HB.out)) hb); clear hb hbox hg; have hcz13_0 : w12.cell? ⟨gb105, 0, none⟩ = some (.int .i64 a0_0) := (zC BK105.out 0).trans rfl; have hcz13_1 : w12.cell? ⟨gb105, 1, none⟩ = some (.int .i64 a0_1) := (zC BK105.out 1).trans rfl; have hcz13_2 : w12.cell? ⟨gb105, 2, none⟩ = some (.int .i64 a0_2) := (zC BK105.out 2).trans rfl; have hfz13_0 := zF BK105.out 0; have hfz13_1 := zF BK105.out 1; have hfz13_2 := zF BK105.out 2) | ((with_reducible refine gate_callee (f := 111) rfl ?_); refine goesL_ (some 8) rfl rfl Tryd.func111 (by kernel_rfl) rfl #[.int .i64 a0_0] rfl (by (try simp only [zm, zc, zn]); first | done | rfl | (simp only [zd, zt]; rfl)) ?_; (with_reducible refine (r12_Shape.calls k a0_0 t106 t107 _ A2.out).mono ?_); rintro e w14 ⟨rfl, hb⟩; refine ⟨_, rfl, ?_⟩; replace BK105 := zA (zQ (g := gb105) (o := .cells #[.int .i64 a0_0, .int .i64 a0_1, .int .i64 a0_2] 109 (0, 0)) (by (with_reducible repeat (first | refine zG ?_ _ | refine zH ?_)); exact BK105.out) hb); replace HB := zA (below_step (by repeat (first | (with_reducible first | exact HB.out | apply zB | apply zN | apply below_drew1 | refine zE ?_ GE105.out) | exact HB.out)) hb); (try clear hb); (try clear hb2); (try clear hk); (try clear hi); have hcz15_0 : w14.cell? ⟨gb105, 0, none⟩ = some (.int .i64 a0_0) := (zC BK105.out 0).trans rfl; have hcz15_1 : w14.cell? ⟨gb105, 1, none⟩ = some (.int .i64 a0_1) := (zC BK105.out 1).trans rfl; have hcz15_2 : w14.cell? ⟨gb105, 2, none⟩ = some (.int .i64 a0_2) := (zC BK105.out 2).trans rfl; have hfz15_0 := zF BK105.out 0; have hfz15_1 := zF BK105.out 1; have hfz15_2 := zF BK105.out 2) | (go_at_call 112; (with_reducible refine (r12_may.calls a0_1 t106 false _ A5.out).mono ?_); rintro e w' ⟨rfl, ⟨nd, rfl⟩⟩))
    go_ret
    exact ⟨by first | rfl | (simp [errW_none, errW_some] <;> rfl) | (simp [*, errW_none, errW_some] <;> rfl), by repeat (first | (with_reducible first | exact HB.out | apply zB | apply zN | apply below_drew1 | refine zE ?_ GE105.out) | exact HB.out)⟩
  ·rw [if_neg c4] at H
   have c4b0 : decide (a0_0 ≤ 37) = false := decide_eq_false c4
   clear c4
   obtain rfl := zJ H
   go_enter Tryd.func98, Tryd.ntmps98
   go_wp2_with (first | ((with_reducible refine gate_dst (N := 1) rfl ?_); refine box_event ?hg (N := 1) ?hd (cs := #[.int .i64 a0_0, .int .i64 a0_1, .int .i64 a0_2]) (t := 109) ?hr ?_; (case hd => rfl); (case hg => rfl); (case hr => first | (go_simp; done) | (go_simp; rfl)); intro gb105 hg w16 hbox hb; have BK105 := zA (hbox); have GW105 := zA ((by rw [hg]; exact (below_size (by repeat (first | (with_reducible first | exact HB.out | apply zB | apply zN | apply below_drew1) | exact HB.out))) : w.heap.size ≤ gb105)); have GE105 := GW105; replace HB := zA (below_step (by repeat (first | (with_reducible first | exact HB.out | apply zB | apply zN | apply below_drew1) | exact HB.out)) hb); clear hb hbox hg; have hcz17_0 : w16.cell? ⟨gb105, 0, none⟩ = some (.int .i64 a0_0) := (zC BK105.out 0).trans rfl; have hcz17_1 : w16.cell? ⟨gb105, 1, none⟩ = some (.int .i64 a0_1) := (zC BK105.out 1).trans rfl; have hcz17_2 : w16.cell? ⟨gb105, 2, none⟩ = some (.int .i64 a0_2) := (zC BK105.out 2).trans rfl; have hfz17_0 := zF BK105.out 0; have hfz17_1 := zF BK105.out 1; have hfz17_2 := zF BK105.out 2) | ((with_reducible refine gate_callee (f := 111) rfl ?_); refine goesL_ (some 8) rfl rfl Tryd.func111 (by kernel_rfl) rfl #[.int .i64 a0_0] rfl (by (try simp only [zm, zc, zn]); first | done | rfl | (simp only [zd, zt]; rfl)) ?_; (with_reducible refine (r12_Shape.calls k a0_0 t106 t107 _ A2.out).mono ?_); rintro e w18 ⟨rfl, hb⟩; refine ⟨_, rfl, ?_⟩; replace BK105 := zA (zQ (g := gb105) (o := .cells #[.int .i64 a0_0, .int .i64 a0_1, .int .i64 a0_2] 109 (0, 0)) (by (with_reducible repeat (first | refine zG ?_ _ | refine zH ?_)); exact BK105.out) hb); replace HB := zA (below_step (by repeat (first | (with_reducible first | exact HB.out | apply zB | apply zN | apply below_drew1 | refine zE ?_ GE105.out) | exact HB.out)) hb); (try clear hb); (try clear hb2); (try clear hk); (try clear hi); have hcz19_0 : w18.cell? ⟨gb105, 0, none⟩ = some (.int .i64 a0_0) := (zC BK105.out 0).trans rfl; have hcz19_1 : w18.cell? ⟨gb105, 1, none⟩ = some (.int .i64 a0_1) := (zC BK105.out 1).trans rfl; have hcz19_2 : w18.cell? ⟨gb105, 2, none⟩ = some (.int .i64 a0_2) := (zC BK105.out 2).trans rfl; have hfz19_0 := zF BK105.out 0; have hfz19_1 := zF BK105.out 1; have hfz19_2 := zF BK105.out 2))
   go_ret
   exact ⟨by first | rfl | (simp [errW_none, errW_some] <;> rfl) | (simp [*, errW_none, errW_some] <;> rfl), by repeat (first | (with_reducible first | exact HB.out | apply zB | apply zN | apply below_drew1 | refine zE ?_ GE105.out) | exact HB.out)⟩
 ·rw [if_neg c3] at H
  have c3b0 : decide (0 ≤ a0_0) = false := decide_eq_false c3
  clear c3
  obtain rfl := zJ H
  go_enter Tryd.func98, Tryd.ntmps98
  go_wp2_with (first | ((with_reducible refine gate_dst (N := 1) rfl ?_); refine box_event ?hg (N := 1) ?hd (cs := #[.int .i64 a0_0, .int .i64 a0_1, .int .i64 a0_2]) (t := 109) ?hr ?_; (case hd => rfl); (case hg => rfl); (case hr => first | (go_simp; done) | (go_simp; rfl)); intro gb105 hg w20 hbox hb; have BK105 := zA (hbox); have GW105 := zA ((by rw [hg]; exact (below_size (by repeat (first | (with_reducible first | exact HB.out | apply zB | apply zN | apply below_drew1) | exact HB.out))) : w.heap.size ≤ gb105)); have GE105 := GW105; replace HB := zA (below_step (by repeat (first | (with_reducible first | exact HB.out | apply zB | apply zN | apply below_drew1) | exact HB.out)) hb); clear hb hbox hg; have hcz21_0 : w20.cell? ⟨gb105, 0, none⟩ = some (.int .i64 a0_0) := (zC BK105.out 0).trans rfl; have hcz21_1 : w20.cell? ⟨gb105, 1, none⟩ = some (.int .i64 a0_1) := (zC BK105.out 1).trans rfl; have hcz21_2 : w20.cell? ⟨gb105, 2, none⟩ = some (.int .i64 a0_2) := (zC BK105.out 2).trans rfl; have hfz21_0 := zF BK105.out 0; have hfz21_1 := zF BK105.out 1; have hfz21_2 := zF BK105.out 2) | ((with_reducible refine gate_callee (f := 111) rfl ?_); refine goesL_ (some 8) rfl rfl Tryd.func111 (by kernel_rfl) rfl #[.int .i64 a0_0] rfl (by (try simp only [zm, zc, zn]); first | done | rfl | (simp only [zd, zt]; rfl)) ?_; (with_reducible refine (r12_Shape.calls k a0_0 t106 t107 _ A2.out).mono ?_); rintro e w22 ⟨rfl, hb⟩; refine ⟨_, rfl, ?_⟩; replace BK105 := zA (zQ (g := gb105) (o := .cells #[.int .i64 a0_0, .int .i64 a0_1, .int .i64 a0_2] 109 (0, 0)) (by (with_reducible repeat (first | refine zG ?_ _ | refine zH ?_)); exact BK105.out) hb); replace HB := zA (below_step (by repeat (first | (with_reducible first | exact HB.out | apply zB | apply zN | apply below_drew1 | refine zE ?_ GE105.out) | exact HB.out)) hb); (try clear hb); (try clear hb2); (try clear hk); (try clear hi); have hcz23_0 : w22.cell? ⟨gb105, 0, none⟩ = some (.int .i64 a0_0) := (zC BK105.out 0).trans rfl; have hcz23_1 : w22.cell? ⟨gb105, 1, none⟩ = some (.int .i64 a0_1) := (zC BK105.out 1).trans rfl; have hcz23_2 : w22.cell? ⟨gb105, 2, none⟩ = some (.int .i64 a0_2) := (zC BK105.out 2).trans rfl; have hfz23_0 := zF BK105.out 0; have hfz23_1 := zF BK105.out 1; have hfz23_2 := zF BK105.out 2))
  go_ret
  exact ⟨by first | rfl | (simp [errW_none, errW_some] <;> rfl) | (simp [*, errW_none, errW_some] <;> rfl), by repeat (first | (with_reducible first | exact HB.out | apply zB | apply zN | apply below_drew1 | refine zE ?_ GE105.out) | exact HB.out)⟩

end Go.Proofs.YtdbfgfgbjheibaaDoor.PCod
end
