/- What an instruction takes and leaves, plainly: the document's answer is the program's. -/
import Derived.Test.YthdlocigijiobaaDoorZStackTakesab
import Derived.Test.YthdlocigijiobaaDoorZStackTakesac
import Derived.Test.YthdlocigijiobaaDoorZStackTakesae
import Derived.Test.YthdlocigijiobaaDoorZStackTakesag
import Derived.Test.YthdlocigijiobaaDoorZStackTakesah
import Derived.Test.YthdlocigijiobaaDoorZStackTakesai
import Derived.Test.YthdlocigijiobaaDoorZStackTakesaj
section
/- Printed by a program of this session (wip/pg.py, over the print of the kit): functions, their Lean twins, and the proofs that the calls come to them; each under the conditions that it names. -/
namespace Go.Proofs.YthdlocigijiobaaDoor.PSk
open Go.Proofs.YthdlocigijiobaaDoor.Given
open Go.RowKit Go.Proofs.YthdlocigijiobaaDoorW.PrintWords Go.Proofs.YthdlocigijiobaaDoorW.PrintLast Go.Proofs.YthdlocigijiobaaDoorW.PrintMore
attribute [local go_sem] max2_int min2_int max_two min_two max_three min_three max_four min_four   -- for this text's walks alone
set_option linter.unusedVariables false
set_option linter.unusedSimpArgs false

/-! ### ladderbackref15_Ints: function 12 -/
def ladderbackref15_Ints.l0 : Nat → List Int → List Int → Int → Option (Bool)
 | 0, _, _, _ => none
 | k + 1, x0, x1, x5 => if x5 < (x0.length : Int) then (if 0 ≤ x5 then (if x5 < (x1.length : Int) then (if (rd x0 x5) = (rd x1 x5) then (ladderbackref15_Ints.l0 k x0 x1 (wrap64 (x5 + 1))) else (some false)) else (none)) else (none)) else (some true)
def ladderbackref15_Ints.f (k : Nat) (l0 : List Int) (l1 : List Int) : Option (Bool) := if (l0.length : Int) = (l1.length : Int) then (ladderbackref15_Ints.l0 k l0 l1 0) else (some false)
set_option maxHeartbeats 8000000 in
set_option maxRecDepth 100000 in
theorem ladderbackref15_Ints.calls (k : Nat) (A0 : Option Addr) (c0 : Nat) (l0 : List Int) (A1 : Option Addr) (c1 : Nat) (l1 : List Int) (r : Bool) (w : World) (hr0 : Kd.C (Kd.int .i64) w A0 l0.length l0) (hc0 : l0.length ≤ c0) (hr1 : Kd.C (Kd.int .i64) w A1 l1.length l1) (hc1 : l1.length ≤ c1) (h : ladderbackref15_Ints.f k l0 l1 = some r) :
  Calls Tryd.prog 12 #[.slice A0 l0.length c0, .slice A1 l1.length c1] w fun e w' => e = .returned (.bool r) ∧ Drawn0 w w' := by
 have HR0 := Aside0.mk hr0
 have HC0 := Aside0.mk hc0
 clear hr0 hc0
 have HR1 := Aside0.mk hr1
 have HC1 := Aside0.mk hc1
 clear hr1 hc1
 have H : (if (l0.length : Int) = (l1.length : Int) then (ladderbackref15_Ints.l0 k l0 l1 0) else (some false)) = some r := h
 clear h
 by_cases c3 : (l0.length : Int) = (l1.length : Int)
 ·rw [if_pos c3] at H
  have c3b0 : ((l0.length : Int) == (l1.length : Int)) = true := beq_iff_eq.mpr c3
  have c3b1 : ((l0.length : Int) != (l1.length : Int)) = false := bne_eq_false_iff_eq.mpr c3
  have c3b2 : (l0.length == l1.length) = true := by first | simpa using c3 | (simp at c3 ⊢; omega)
  clear c3
  have H' := Aside0.mk H
  clear H
  go_enter Tryd.func12, Tryd.ntmps12
  go_wp2
  repeat (go_quiet (fail); try go_wp2)
  go_loopg [5] k (fun kq v5 w' => ∃ (x5_1 : Int), v5 = .int .i64 x5_1 ∧ Aside0 (ladderbackref15_Ints.l0 kq l0 l1 x5_1 = some r) ∧ Aside0 (kq ≤ k) ∧ Drawn0 w w')
  case atStart => exact ⟨(0), (by first | rfl | (simp; done) | (simp [*]; done)), H', ⟨Nat.le_refl _⟩, by repeat (first | exact Drawn0.refl _ | apply Drawn0.step)⟩
  case round =>
   clear H'
   try clear c1
   try clear p2
   try clear c3
   try clear c3b0
   try clear c3b1
   try clear c3b2
   obtain ⟨x5_1, rfl, HA, HK1, ⟨m1, rfl⟩⟩ := hrel
   cases gk with
   | zero => exact absurd HA.out (by simp [ladderbackref15_Ints.l0])
   | succ k1 =>
    have H := HA.out
    clear HA
    simp only [ladderbackref15_Ints.l0] at H
    by_cases c4 : x5_1 < (l0.length : Int)
    ·rw [if_pos c4] at H
     have c4b0 : decide (x5_1 < (l0.length : Int)) = true := decide_eq_true c4
     clear c4
     by_cases c5 : 0 ≤ x5_1
     ·rw [if_pos c5] at H
      have c5b0 : decide (0 ≤ x5_1) = true := decide_eq_true c5
      clear c5
      by_cases c6 : x5_1 < (l1.length : Int)
      ·rw [if_pos c6] at H
       have c6b0 : decide (x5_1 < (l1.length : Int)) = true := decide_eq_true c6
       clear c6
       by_cases c7 : (rd l0 x5_1) = (rd l1 x5_1)
       ·rw [if_pos c7] at H
        have c7b0 : ((rd l0 x5_1) == (rd l1 x5_1)) = true := beq_iff_eq.mpr c7
        have c7b1 : ((rd l0 x5_1) != (rd l1 x5_1)) = false := bne_eq_false_iff_eq.mpr c7
        clear c7
        have H' := Aside0.mk H
        clear H
        have p414 : 0 ≤ (x5_1 : Int) := of_decide_eq_true (by first | (with_reducible assumption) | assumption)
        have q414 : x5_1 < (l0.length : Int) := of_decide_eq_true (by first | (with_reducible assumption) | assumption)
        obtain ⟨ad414, e414, hx414_0⟩ := Kd.at_int HR0.out x5_1 p414 q414
        cases e414
        replace p414 := eq_true p414
        replace q414 := eq_true q414
        have p415 : 0 ≤ (x5_1 : Int) := of_decide_eq_true (by first | (with_reducible assumption) | assumption)
        have q415 : x5_1 < (l1.length : Int) := of_decide_eq_true (by first | (with_reducible assumption) | assumption)
        obtain ⟨ad415, e415, hx415_0⟩ := Kd.at_int HR1.out x5_1 p415 q415
        cases e415
        replace p415 := eq_true p415
        replace q415 := eq_true q415
        go_wp2
        repeat (go_quiet (fail); try go_wp2)
        go_roundg k1
        case measure => have := HK1.out; omega
        case rel => exact ⟨(wrap64 (x5_1 + 1)), (by first | rfl | (simp; done) | (simp [*]; done)), H', ⟨by have := HK1.out; omega⟩, by repeat (first | exact Drawn0.refl _ | apply Drawn0.step)⟩
       ·rw [if_neg c7] at H
        have c7b0 : ((rd l0 x5_1) == (rd l1 x5_1)) = false := beq_eq_false_iff_ne.mpr c7
        have c7b1 : ((rd l0 x5_1) != (rd l1 x5_1)) = true := bne_iff_ne.mpr c7
        obtain rfl := Option.some.inj H
        have p414 : 0 ≤ (x5_1 : Int) := of_decide_eq_true (by first | (with_reducible assumption) | assumption)
        have q414 : x5_1 < (l0.length : Int) := of_decide_eq_true (by first | (with_reducible assumption) | assumption)
        obtain ⟨ad414, e414, hx414_0⟩ := Kd.at_int HR0.out x5_1 p414 q414
        cases e414
        replace p414 := eq_true p414
        replace q414 := eq_true q414
        have p415 : 0 ≤ (x5_1 : Int) := of_decide_eq_true (by first | (with_reducible assumption) | assumption)
        have q415 : x5_1 < (l1.length : Int) := of_decide_eq_true (by first | (with_reducible assumption) | assumption)
        obtain ⟨ad415, e415, hx415_0⟩ := Kd.at_int HR1.out x5_1 p415 q415
        cases e415
        replace p415 := eq_true p415
        replace q415 := eq_true q415
        go_wp2
        repeat (go_quiet (fail); try go_wp2)
        go_ret
        exact ⟨by first | rfl | (simp; done) | (simp [*]; done), by repeat (first | exact Drawn0.refl _ | apply Drawn0.step)⟩
      ·rw [if_neg c6] at H
       exact absurd H (by simp)
     ·rw [if_neg c5] at H
      exact absurd H (by simp)
    ·rw [if_neg c4] at H
     have c4b0 : decide (x5_1 < (l0.length : Int)) = false := decide_eq_false c4
     clear c4
     obtain rfl := Option.some.inj H
     go_wp2
     repeat (go_quiet (fail); try go_wp2)
     go_ret
     exact ⟨by first | rfl | (simp; done) | (simp [*]; done), by repeat (first | exact Drawn0.refl _ | apply Drawn0.step)⟩
 ·rw [if_neg c3] at H
  have c3b0 : ((l0.length : Int) == (l1.length : Int)) = false := beq_eq_false_iff_ne.mpr c3
  have c3b1 : ((l0.length : Int) != (l1.length : Int)) = true := bne_iff_ne.mpr c3
  have c3b2 : (l0.length == l1.length) = false := by first | simpa using c3 | (simp at c3 ⊢; omega)
  obtain rfl := Option.some.inj H
  go_enter Tryd.func12, Tryd.ntmps12
  go_wp2
  repeat (go_quiet (fail); try go_wp2)
  go_ret
  exact ⟨by first | rfl | (simp; done) | (simp [*]; done), by repeat (first | exact Drawn0.refl _ | apply Drawn0.step)⟩

/-! ### stack_Takes: function 13 -/
def stack_Takes.f (k : Nat) (l0_0 : List (S35)) (l0_1 : List (S37)) (l0_2 : List (S39)) (l0_3 : List (S43)) (a1 : Int) (a2_0 : Int) (a2_1 : Int) (a2_2 : Int) : Option (List Int) := (refs_One.f k l0_0 l0_1 l0_2 l0_3 a1 a2_0 a2_1 a2_2).bind fun t432 => (if t432 = 0 then ((stack_effect.f l0_0 l0_1 l0_2 l0_3 a1 a2_0 a2_1 a2_2).bind fun bt433 => (some bt433.1)) else (some ([] : List Int)))
set_option maxHeartbeats 8000000 in
set_option maxRecDepth 100000 in
theorem stack_Takes.calls (k : Nat) (A0_0 : Option Addr) (c0_0 : Nat) (l0_0 : List (S35)) (A0_1 : Option Addr) (c0_1 : Nat) (l0_1 : List (S37)) (A0_2 : Option Addr) (c0_2 : Nat) (l0_2 : List (S39)) (A0_3 : Option Addr) (c0_3 : Nat) (l0_3 : List (S43)) (a1 : Int) (a2_0 : Int) (a2_1 : Int) (a2_2 : Int) (r : List Int) (w : World) (hr0_0 : Kd.C k35 w A0_0 l0_0.length l0_0) (hc0_0 : l0_0.length ≤ c0_0) (hr0_1 : Kd.C k37 w A0_1 l0_1.length l0_1) (hc0_1 : l0_1.length ≤ c0_1) (hr0_2 : Kd.C k39 w A0_2 l0_2.length l0_2) (hc0_2 : l0_2.length ≤ c0_2) (hr0_3 : Kd.C k43 w A0_3 l0_3.length l0_3) (hc0_3 : l0_3.length ≤ c0_3) (h : stack_Takes.f k l0_0 l0_1 l0_2 l0_3 a1 a2_0 a2_1 a2_2 = some r) (hL_ : LaidAll w) :
  Calls Tryd.prog 13 #[.agg #[.slice A0_0 l0_0.length c0_0, .slice A0_1 l0_1.length c0_1, .slice A0_2 l0_2.length c0_2, .slice A0_3 l0_3.length c0_3], .int .i64 a1, .agg #[.int .i64 a2_0, .int .i64 a2_1, .int .i64 a2_2]] w fun e w' => ∃ v0_ : Value, e = .returned (v0_) ∧ Kd.R (Kd.int .i64) 3 w' w.heap.size (fun _ => True) v0_ r ∧ Below w.heap.size w w' := by
 have HL_ := Aside0.mk hL_
 clear hL_
 have hu27 := Tryd.underlying27
 have hu29 := Tryd.underlying29
 have HR0_0 := Aside0.mk hr0_0
 have HC0_0 := Aside0.mk hc0_0
 clear hr0_0 hc0_0
 have HR0_1 := Aside0.mk hr0_1
 have HC0_1 := Aside0.mk hc0_1
 clear hr0_1 hc0_1
 have HR0_2 := Aside0.mk hr0_2
 have HC0_2 := Aside0.mk hc0_2
 clear hr0_2 hc0_2
 have HR0_3 := Aside0.mk hr0_3
 have HC0_3 := Aside0.mk hc0_3
 clear hr0_3 hc0_3
 have HB := Aside0.mk (Below.refl w.heap.size w)
 have H : ((refs_One.f k l0_0 l0_1 l0_2 l0_3 a1 a2_0 a2_1 a2_2).bind fun t432 => (if t432 = 0 then ((stack_effect.f l0_0 l0_1 l0_2 l0_3 a1 a2_0 a2_1 a2_2).bind fun bt433 => (some bt433.1)) else (some ([] : List Int)))) = some r := h
 clear h
 replace H := Option.bind_eq_some_iff.mp H
 obtain ⟨t432, A40, H⟩ := H
 replace H : (if t432 = 0 then ((stack_effect.f l0_0 l0_1 l0_2 l0_3 a1 a2_0 a2_1 a2_2).bind fun bt433 => (some bt433.1)) else (some ([] : List Int))) = some r := H
 have A4 := Aside0.mk A40
 clear A40
 by_cases c5 : t432 = 0
 ·rw [if_pos c5] at H
  have c5b0 : (t432 == 0) = true := beq_iff_eq.mpr c5
  have c5b1 : (t432 != 0) = false := bne_eq_false_iff_eq.mpr c5
  clear c5
  replace H := Option.bind_eq_some_iff.mp H
  obtain ⟨⟨t433, t436⟩, A60, H⟩ := H
  replace H : (some t433) = some r := H
  have A6 := Aside0.mk A60
  clear A60
  obtain rfl := Option.some.inj H
  go_enter Tryd.func13, Tryd.ntmps13
  go_wp2_with (first | ((with_reducible refine gate_dst (N := 3) rfl ?_); refine box_event ?hg (N := 3) ?hd (cs := #[.slice A0_0 l0_0.length c0_0, .slice A0_1 l0_1.length c0_1, .slice A0_2 l0_2.length c0_2, .slice A0_3 l0_3.length c0_3]) (t := 27) ?hr ?_; (case hd => rfl); (case hg => rfl); (case hr => first | (go_simp; done) | (go_simp; rfl)); intro gb430 hg w7 hbox hb; have n0_ := Aside0.mk (below_step (by repeat (first | (with_reducible first | exact HB.out | apply below_alloc | apply pw_below_drewN | apply below_drew1) | exact HB.out)) hb); have n1_ := Aside0.mk (hbox); have n2_ := Aside0.mk ((by rw [hg]; exact (below_size (by repeat (first | (with_reducible first | exact HB.out | apply below_alloc | apply pw_below_drewN | apply below_drew1) | exact HB.out))) : w.heap.size ≤ gb430)); have n3_ := Aside0.mk ((by rw [hg]; exact (below_size (by repeat (first | (with_reducible first | exact HB.out | apply below_alloc | apply pw_below_drewN | apply below_drew1) | exact HB.out))) : w.heap.size ≤ gb430)); clear HB; have HB := n0_; have BK430 := n1_; have GW430 := n2_; have GE430 := n3_; clear n0_ n1_ n2_ n3_; clear hb hbox hg) | ((with_reducible refine gate_dst (N := 5) rfl ?_); refine box_event ?hg (N := 5) ?hd (cs := #[.int .i64 a2_0, .int .i64 a2_1, .int .i64 a2_2]) (t := 29) ?hr ?_; (case hd => rfl); (case hg => rfl); (case hr => first | (go_simp; done) | (go_simp; rfl)); intro gb431 hg w8 hbox hb; have n0_ := Aside0.mk (blk_below (g := gb430) (o := .cells #[.slice A0_0 l0_0.length c0_0, .slice A0_1 l0_1.length c0_1, .slice A0_2 l0_2.length c0_2, .slice A0_3 l0_3.length c0_3] 27 (0, 0)) (by (with_reducible repeat (first | refine blk_drewN ?_ _ | refine blk_drew ?_ | refine blk_alloc ?_ _)); exact BK430.out) hb); have n1_ := Aside0.mk (below_step (by repeat (first | (with_reducible first | exact HB.out | apply below_alloc | apply pw_below_drewN | apply below_drew1 | refine below_set ?_ GE430.out) | exact HB.out)) hb); have n2_ := Aside0.mk (hbox); have n3_ := Aside0.mk ((by rw [hg]; exact (below_size (by repeat (first | (with_reducible first | exact HB.out | apply below_alloc | apply pw_below_drewN | apply below_drew1 | refine below_set ?_ GE430.out) | exact HB.out))) : w.heap.size ≤ gb431)); have n4_ := Aside0.mk ((by rw [hg]; exact (below_size (by repeat (first | (with_reducible first | exact HB.out | apply below_alloc | apply pw_below_drewN | apply below_drew1 | refine below_set ?_ GE430.out) | exact HB.out))) : w.heap.size ≤ gb431)); have n5_ := Aside0.mk ((by rw [hg]; exact Nat.ne_of_lt (blk_lt (g := gb430) (o := .cells #[.slice A0_0 l0_0.length c0_0, .slice A0_1 l0_1.length c0_1, .slice A0_2 l0_2.length c0_2, .slice A0_3 l0_3.length c0_3] 27 (0, 0)) (by (with_reducible repeat (first | refine blk_drewN ?_ _ | refine blk_drew ?_ | refine blk_alloc ?_ _)); exact BK430.out)) : gb430 ≠ gb431)); have n6_ := Aside0.mk ((by rw [hg]; exact Nat.ne_of_gt (blk_lt (g := gb430) (o := .cells #[.slice A0_0 l0_0.length c0_0, .slice A0_1 l0_1.length c0_1, .slice A0_2 l0_2.length c0_2, .slice A0_3 l0_3.length c0_3] 27 (0, 0)) (by (with_reducible repeat (first | refine blk_drewN ?_ _ | refine blk_drew ?_ | refine blk_alloc ?_ _)); exact BK430.out)) : gb431 ≠ gb430)); clear BK430; clear HB; have BK430 := n0_; have HB := n1_; have BK431 := n2_; have GW431 := n3_; have GE431 := n4_; have NB430_431 := n5_; have NB431_430 := n6_; clear n0_ n1_ n2_ n3_ n4_ n5_ n6_; clear hb hbox hg; have hnb9 := NB430_431.out; have hnc9 := NB431_430.out; have hcz10_0 : w8.cell? ⟨gb430, 0, none⟩ = some (.slice A0_0 l0_0.length c0_0) := (blk_cell BK430.out 0).trans rfl; have hcz10_1 : w8.cell? ⟨gb430, 1, none⟩ = some (.slice A0_1 l0_1.length c0_1) := (blk_cell BK430.out 1).trans rfl; have hcz10_2 : w8.cell? ⟨gb430, 2, none⟩ = some (.slice A0_2 l0_2.length c0_2) := (blk_cell BK430.out 2).trans rfl; have hcz10_3 : w8.cell? ⟨gb430, 3, none⟩ = some (.slice A0_3 l0_3.length c0_3) := (blk_cell BK430.out 3).trans rfl; have hfz10_0 := blk_frozen BK430.out 0; have hfz10_1 := blk_frozen BK430.out 1; have hfz10_2 := blk_frozen BK430.out 2; have hfz10_3 := blk_frozen BK430.out 3; have hcz11_0 : w8.cell? ⟨gb431, 0, none⟩ = some (.int .i64 a2_0) := (blk_cell BK431.out 0).trans rfl; have hcz11_1 : w8.cell? ⟨gb431, 1, none⟩ = some (.int .i64 a2_1) := (blk_cell BK431.out 1).trans rfl; have hcz11_2 : w8.cell? ⟨gb431, 2, none⟩ = some (.int .i64 a2_2) := (blk_cell BK431.out 2).trans rfl; have hfz11_0 := blk_frozen BK431.out 0; have hfz11_1 := blk_frozen BK431.out 1; have hfz11_2 := blk_frozen BK431.out 2) | ((with_reducible refine gate_callee (f := 7) rfl ?_); refine goesL_ (some 12) rfl rfl Tryd.func7 (by kernel_rfl) rfl #[.agg #[.slice A0_0 l0_0.length c0_0, .slice A0_1 l0_1.length c0_1, .slice A0_2 l0_2.length c0_2, .slice A0_3 l0_3.length c0_3], .int .i64 a1, .agg #[.int .i64 a2_0, .int .i64 a2_1, .int .i64 a2_2]] rfl (by (try simp only [List.map_toArray, List.map_cons, List.map_nil]); first | done | rfl | (simp only [List.length_drop, List.length_take]; rfl)) ?_; (with_reducible refine (refs_One.calls k _ _ l0_0 _ _ l0_1 _ _ l0_2 _ _ l0_3 a1 a2_0 a2_1 a2_2 t432 _ ?side1 ?side2 ?side3 ?side4 ?side5 ?side6 ?side7 ?side8 A4.out (LaidAll.below HL_.out (by repeat (first | (with_reducible first | exact HB.out | apply below_alloc | apply pw_below_drewN | apply below_drew1 | refine below_set ?_ GE430.out | refine below_set ?_ GE431.out) | exact HB.out)))).mono ?_); (case side1 => repeat (first | exact (Kd.C_below HR0_0.out HB.out) | (with_reducible refine Kd.C_alloc ?_ _) | (with_reducible refine Kd.C_drewN ?_ _) | (with_reducible refine Kd.C_drew ?_))); (case side2 => exact HC0_0.out); (case side3 => repeat (first | exact (Kd.C_below HR0_1.out HB.out) | (with_reducible refine Kd.C_alloc ?_ _) | (with_reducible refine Kd.C_drewN ?_ _) | (with_reducible refine Kd.C_drew ?_))); (case side4 => exact HC0_1.out); (case side5 => repeat (first | exact (Kd.C_below HR0_2.out HB.out) | (with_reducible refine Kd.C_alloc ?_ _) | (with_reducible refine Kd.C_drewN ?_ _) | (with_reducible refine Kd.C_drew ?_))); (case side6 => exact HC0_2.out); (case side7 => repeat (first | exact (Kd.C_below HR0_3.out HB.out) | (with_reducible refine Kd.C_alloc ?_ _) | (with_reducible refine Kd.C_drewN ?_ _) | (with_reducible refine Kd.C_drew ?_))); (case side8 => exact HC0_3.out); rintro e w12 ⟨rfl, hb⟩; refine ⟨_, rfl, ?_⟩; have n0_ := Aside0.mk (blk_below (g := gb430) (o := .cells #[.slice A0_0 l0_0.length c0_0, .slice A0_1 l0_1.length c0_1, .slice A0_2 l0_2.length c0_2, .slice A0_3 l0_3.length c0_3] 27 (0, 0)) (by (with_reducible repeat (first | refine blk_drewN ?_ _ | refine blk_drew ?_ | refine blk_alloc ?_ _)); exact BK430.out) hb); have n1_ := Aside0.mk (blk_below (g := gb431) (o := .cells #[.int .i64 a2_0, .int .i64 a2_1, .int .i64 a2_2] 29 (0, 0)) (by (with_reducible repeat (first | refine blk_drewN ?_ _ | refine blk_drew ?_ | refine blk_alloc ?_ _)); exact BK431.out) hb); have n2_ := Aside0.mk (below_step (by repeat (first | (with_reducible first | exact HB.out | apply below_alloc | apply pw_below_drewN | apply below_drew1 | refine below_set ?_ GE430.out | refine below_set ?_ GE431.out) | exact HB.out)) hb); clear BK430; clear BK431; clear HB; have BK430 := n0_; have BK431 := n1_; have HB := n2_; clear n0_ n1_ n2_; (try clear hb); (try clear hb2); (try clear hk); (try clear hi); have hcz13_0 : w12.cell? ⟨gb430, 0, none⟩ = some (.slice A0_0 l0_0.length c0_0) := (blk_cell BK430.out 0).trans rfl; have hcz13_1 : w12.cell? ⟨gb430, 1, none⟩ = some (.slice A0_1 l0_1.length c0_1) := (blk_cell BK430.out 1).trans rfl; have hcz13_2 : w12.cell? ⟨gb430, 2, none⟩ = some (.slice A0_2 l0_2.length c0_2) := (blk_cell BK430.out 2).trans rfl; have hcz13_3 : w12.cell? ⟨gb430, 3, none⟩ = some (.slice A0_3 l0_3.length c0_3) := (blk_cell BK430.out 3).trans rfl; have hfz13_0 := blk_frozen BK430.out 0; have hfz13_1 := blk_frozen BK430.out 1; have hfz13_2 := blk_frozen BK430.out 2; have hfz13_3 := blk_frozen BK430.out 3; have hcz14_0 : w12.cell? ⟨gb431, 0, none⟩ = some (.int .i64 a2_0) := (blk_cell BK431.out 0).trans rfl; have hcz14_1 : w12.cell? ⟨gb431, 1, none⟩ = some (.int .i64 a2_1) := (blk_cell BK431.out 1).trans rfl; have hcz14_2 : w12.cell? ⟨gb431, 2, none⟩ = some (.int .i64 a2_2) := (blk_cell BK431.out 2).trans rfl; have hfz14_0 := blk_frozen BK431.out 0; have hfz14_1 := blk_frozen BK431.out 1; have hfz14_2 := blk_frozen BK431.out 2) | ((with_reducible refine gate_callee (f := 22) rfl ?_); refine goesL_ (some 18) rfl rfl Tryd.func22 (by kernel_rfl) rfl #[.agg #[.slice A0_0 l0_0.length c0_0, .slice A0_1 l0_1.length c0_1, .slice A0_2 l0_2.length c0_2, .slice A0_3 l0_3.length c0_3], .int .i64 a1, .agg #[.int .i64 a2_0, .int .i64 a2_1, .int .i64 a2_2]] rfl (by (try simp only [List.map_toArray, List.map_cons, List.map_nil]); first | done | rfl | (simp only [List.length_drop, List.length_take]; rfl)) ?_; (with_reducible refine (stack_effect.calls _ _ l0_0 _ _ l0_1 _ _ l0_2 _ _ l0_3 a1 a2_0 a2_1 a2_2 t433 t436 _ ?side1 ?side2 ?side3 ?side4 ?side5 ?side6 ?side7 ?side8 A6.out (LaidAll.below HL_.out (by repeat (first | (with_reducible first | exact HB.out | apply below_alloc | apply pw_below_drewN | apply below_drew1 | refine below_set ?_ GE430.out | refine below_set ?_ GE431.out) | exact HB.out)))).mono ?_); (case side1 => repeat (first | exact (Kd.C_below HR0_0.out HB.out) | (with_reducible refine Kd.C_alloc ?_ _) | (with_reducible refine Kd.C_drewN ?_ _) | (with_reducible refine Kd.C_drew ?_))); (case side2 => exact HC0_0.out); (case side3 => repeat (first | exact (Kd.C_below HR0_1.out HB.out) | (with_reducible refine Kd.C_alloc ?_ _) | (with_reducible refine Kd.C_drewN ?_ _) | (with_reducible refine Kd.C_drew ?_))); (case side4 => exact HC0_1.out); (case side5 => repeat (first | exact (Kd.C_below HR0_2.out HB.out) | (with_reducible refine Kd.C_alloc ?_ _) | (with_reducible refine Kd.C_drewN ?_ _) | (with_reducible refine Kd.C_drew ?_))); (case side6 => exact HC0_2.out); (case side7 => repeat (first | exact (Kd.C_below HR0_3.out HB.out) | (with_reducible refine Kd.C_alloc ?_ _) | (with_reducible refine Kd.C_drewN ?_ _) | (with_reducible refine Kd.C_drew ?_))); (case side8 => exact HC0_3.out); rintro e w15 ⟨v434, v437, rfl, ho0, ho1, hb⟩; refine ⟨_, rfl, ?_⟩; have n0_ := Aside0.mk (Kd.R_lower ho0 (below_size (by repeat (first | (with_reducible first | exact HB.out | apply below_alloc | apply pw_below_drewN | apply below_drew1 | refine below_set ?_ GE430.out | refine below_set ?_ GE431.out) | exact HB.out)))); have n1_ := Aside0.mk (Kd.R_lower ho1 (below_size (by repeat (first | (with_reducible first | exact HB.out | apply below_alloc | apply pw_below_drewN | apply below_drew1 | refine below_set ?_ GE430.out | refine below_set ?_ GE431.out) | exact HB.out)))); have n2_ := Aside0.mk (blk_below (g := gb430) (o := .cells #[.slice A0_0 l0_0.length c0_0, .slice A0_1 l0_1.length c0_1, .slice A0_2 l0_2.length c0_2, .slice A0_3 l0_3.length c0_3] 27 (0, 0)) (by (with_reducible repeat (first | refine blk_drewN ?_ _ | refine blk_drew ?_ | refine blk_alloc ?_ _)); exact BK430.out) hb); have n3_ := Aside0.mk (blk_below (g := gb431) (o := .cells #[.int .i64 a2_0, .int .i64 a2_1, .int .i64 a2_2] 29 (0, 0)) (by (with_reducible repeat (first | refine blk_drewN ?_ _ | refine blk_drew ?_ | refine blk_alloc ?_ _)); exact BK431.out) hb); have n4_ := Aside0.mk (below_step (by repeat (first | (with_reducible first | exact HB.out | apply below_alloc | apply pw_below_drewN | apply below_drew1 | refine below_set ?_ GE430.out | refine below_set ?_ GE431.out) | exact HB.out)) hb); clear BK430; clear BK431; clear HB; have HO435 := n0_; have HO438 := n1_; have BK430 := n2_; have BK431 := n3_; have HB := n4_; clear n0_ n1_ n2_ n3_ n4_; (try clear hb); (try clear hb2); (try clear hk); (try clear hi); (try clear ho0); (try clear ho1)))
  go_ret
  exact ⟨_, by first | rfl | (simp [errW_none, errW_some] <;> rfl) | (simp [*, errW_none, errW_some] <;> rfl), by (with_reducible repeat (first | apply Kd.R_alloc | apply Kd.R_drewN | apply Kd.R_drew)); exact Kd.R_mono HO435.out (fun _ hk => trivial), by repeat (first | (with_reducible first | exact HB.out | apply below_alloc | apply pw_below_drewN | apply below_drew1 | refine below_set ?_ GE430.out | refine below_set ?_ GE431.out) | exact HB.out)⟩
 ·rw [if_neg c5] at H
  have c5b0 : (t432 == 0) = false := beq_eq_false_iff_ne.mpr c5
  have c5b1 : (t432 != 0) = true := bne_iff_ne.mpr c5
  obtain rfl := Option.some.inj H
  go_enter Tryd.func13, Tryd.ntmps13
  go_wp2_with (first | ((with_reducible refine gate_dst (N := 3) rfl ?_); refine box_event ?hg (N := 3) ?hd (cs := #[.slice A0_0 l0_0.length c0_0, .slice A0_1 l0_1.length c0_1, .slice A0_2 l0_2.length c0_2, .slice A0_3 l0_3.length c0_3]) (t := 27) ?hr ?_; (case hd => rfl); (case hg => rfl); (case hr => first | (go_simp; done) | (go_simp; rfl)); intro gb430 hg w16 hbox hb; have n0_ := Aside0.mk (below_step (by repeat (first | (with_reducible first | exact HB.out | apply below_alloc | apply pw_below_drewN | apply below_drew1) | exact HB.out)) hb); have n1_ := Aside0.mk (hbox); have n2_ := Aside0.mk ((by rw [hg]; exact (below_size (by repeat (first | (with_reducible first | exact HB.out | apply below_alloc | apply pw_below_drewN | apply below_drew1) | exact HB.out))) : w.heap.size ≤ gb430)); have n3_ := Aside0.mk ((by rw [hg]; exact (below_size (by repeat (first | (with_reducible first | exact HB.out | apply below_alloc | apply pw_below_drewN | apply below_drew1) | exact HB.out))) : w.heap.size ≤ gb430)); clear HB; have HB := n0_; have BK430 := n1_; have GW430 := n2_; have GE430 := n3_; clear n0_ n1_ n2_ n3_; clear hb hbox hg) | ((with_reducible refine gate_dst (N := 5) rfl ?_); refine box_event ?hg (N := 5) ?hd (cs := #[.int .i64 a2_0, .int .i64 a2_1, .int .i64 a2_2]) (t := 29) ?hr ?_; (case hd => rfl); (case hg => rfl); (case hr => first | (go_simp; done) | (go_simp; rfl)); intro gb431 hg w17 hbox hb; have n0_ := Aside0.mk (blk_below (g := gb430) (o := .cells #[.slice A0_0 l0_0.length c0_0, .slice A0_1 l0_1.length c0_1, .slice A0_2 l0_2.length c0_2, .slice A0_3 l0_3.length c0_3] 27 (0, 0)) (by (with_reducible repeat (first | refine blk_drewN ?_ _ | refine blk_drew ?_ | refine blk_alloc ?_ _)); exact BK430.out) hb); have n1_ := Aside0.mk (below_step (by repeat (first | (with_reducible first | exact HB.out | apply below_alloc | apply pw_below_drewN | apply below_drew1 | refine below_set ?_ GE430.out) | exact HB.out)) hb); have n2_ := Aside0.mk (hbox); have n3_ := Aside0.mk ((by rw [hg]; exact (below_size (by repeat (first | (with_reducible first | exact HB.out | apply below_alloc | apply pw_below_drewN | apply below_drew1 | refine below_set ?_ GE430.out) | exact HB.out))) : w.heap.size ≤ gb431)); have n4_ := Aside0.mk ((by rw [hg]; exact (below_size (by repeat (first | (with_reducible first | exact HB.out | apply below_alloc | apply pw_below_drewN | apply below_drew1 | refine below_set ?_ GE430.out) | exact HB.out))) : w.heap.size ≤ gb431)); have n5_ := Aside0.mk ((by rw [hg]; exact Nat.ne_of_lt (blk_lt (g := gb430) (o := .cells #[.slice A0_0 l0_0.length c0_0, .slice A0_1 l0_1.length c0_1, .slice A0_2 l0_2.length c0_2, .slice A0_3 l0_3.length c0_3] 27 (0, 0)) (by (with_reducible repeat (first | refine blk_drewN ?_ _ | refine blk_drew ?_ | refine blk_alloc ?_ _)); exact BK430.out)) : gb430 ≠ gb431)); have n6_ := Aside0.mk ((by rw [hg]; exact Nat.ne_of_gt (blk_lt (g := gb430) (o := .cells #[.slice A0_0 l0_0.length c0_0, .slice A0_1 l0_1.length c0_1, .slice A0_2 l0_2.length c0_2, .slice A0_3 l0_3.length c0_3] 27 (0, 0)) (by (with_reducible repeat (first | refine blk_drewN ?_ _ | refine blk_drew ?_ | refine blk_alloc ?_ _)); exact BK430.out)) : gb431 ≠ gb430)); clear BK430; clear HB; have BK430 := n0_; have HB := n1_; have BK431 := n2_; have GW431 := n3_; have GE431 := n4_; have NB430_431 := n5_; have NB431_430 := n6_; clear n0_ n1_ n2_ n3_ n4_ n5_ n6_; clear hb hbox hg; have hnb18 := NB430_431.out; have hnc18 := NB431_430.out; have hcz19_0 : w17.cell? ⟨gb430, 0, none⟩ = some (.slice A0_0 l0_0.length c0_0) := (blk_cell BK430.out 0).trans rfl; have hcz19_1 : w17.cell? ⟨gb430, 1, none⟩ = some (.slice A0_1 l0_1.length c0_1) := (blk_cell BK430.out 1).trans rfl; have hcz19_2 : w17.cell? ⟨gb430, 2, none⟩ = some (.slice A0_2 l0_2.length c0_2) := (blk_cell BK430.out 2).trans rfl; have hcz19_3 : w17.cell? ⟨gb430, 3, none⟩ = some (.slice A0_3 l0_3.length c0_3) := (blk_cell BK430.out 3).trans rfl; have hfz19_0 := blk_frozen BK430.out 0; have hfz19_1 := blk_frozen BK430.out 1; have hfz19_2 := blk_frozen BK430.out 2; have hfz19_3 := blk_frozen BK430.out 3; have hcz20_0 : w17.cell? ⟨gb431, 0, none⟩ = some (.int .i64 a2_0) := (blk_cell BK431.out 0).trans rfl; have hcz20_1 : w17.cell? ⟨gb431, 1, none⟩ = some (.int .i64 a2_1) := (blk_cell BK431.out 1).trans rfl; have hcz20_2 : w17.cell? ⟨gb431, 2, none⟩ = some (.int .i64 a2_2) := (blk_cell BK431.out 2).trans rfl; have hfz20_0 := blk_frozen BK431.out 0; have hfz20_1 := blk_frozen BK431.out 1; have hfz20_2 := blk_frozen BK431.out 2) | ((with_reducible refine gate_callee (f := 7) rfl ?_); refine goesL_ (some 12) rfl rfl Tryd.func7 (by kernel_rfl) rfl #[.agg #[.slice A0_0 l0_0.length c0_0, .slice A0_1 l0_1.length c0_1, .slice A0_2 l0_2.length c0_2, .slice A0_3 l0_3.length c0_3], .int .i64 a1, .agg #[.int .i64 a2_0, .int .i64 a2_1, .int .i64 a2_2]] rfl (by (try simp only [List.map_toArray, List.map_cons, List.map_nil]); first | done | rfl | (simp only [List.length_drop, List.length_take]; rfl)) ?_; (with_reducible refine (refs_One.calls k _ _ l0_0 _ _ l0_1 _ _ l0_2 _ _ l0_3 a1 a2_0 a2_1 a2_2 t432 _ ?side1 ?side2 ?side3 ?side4 ?side5 ?side6 ?side7 ?side8 A4.out (LaidAll.below HL_.out (by repeat (first | (with_reducible first | exact HB.out | apply below_alloc | apply pw_below_drewN | apply below_drew1 | refine below_set ?_ GE430.out | refine below_set ?_ GE431.out) | exact HB.out)))).mono ?_); (case side1 => repeat (first | exact (Kd.C_below HR0_0.out HB.out) | (with_reducible refine Kd.C_alloc ?_ _) | (with_reducible refine Kd.C_drewN ?_ _) | (with_reducible refine Kd.C_drew ?_))); (case side2 => exact HC0_0.out); (case side3 => repeat (first | exact (Kd.C_below HR0_1.out HB.out) | (with_reducible refine Kd.C_alloc ?_ _) | (with_reducible refine Kd.C_drewN ?_ _) | (with_reducible refine Kd.C_drew ?_))); (case side4 => exact HC0_1.out); (case side5 => repeat (first | exact (Kd.C_below HR0_2.out HB.out) | (with_reducible refine Kd.C_alloc ?_ _) | (with_reducible refine Kd.C_drewN ?_ _) | (with_reducible refine Kd.C_drew ?_))); (case side6 => exact HC0_2.out); (case side7 => repeat (first | exact (Kd.C_below HR0_3.out HB.out) | (with_reducible refine Kd.C_alloc ?_ _) | (with_reducible refine Kd.C_drewN ?_ _) | (with_reducible refine Kd.C_drew ?_))); (case side8 => exact HC0_3.out); rintro e w21 ⟨rfl, hb⟩; refine ⟨_, rfl, ?_⟩; have n0_ := Aside0.mk (blk_below (g := gb430) (o := .cells #[.slice A0_0 l0_0.length c0_0, .slice A0_1 l0_1.length c0_1, .slice A0_2 l0_2.length c0_2, .slice A0_3 l0_3.length c0_3] 27 (0, 0)) (by (with_reducible repeat (first | refine blk_drewN ?_ _ | refine blk_drew ?_ | refine blk_alloc ?_ _)); exact BK430.out) hb); have n1_ := Aside0.mk (blk_below (g := gb431) (o := .cells #[.int .i64 a2_0, .int .i64 a2_1, .int .i64 a2_2] 29 (0, 0)) (by (with_reducible repeat (first | refine blk_drewN ?_ _ | refine blk_drew ?_ | refine blk_alloc ?_ _)); exact BK431.out) hb); have n2_ := Aside0.mk (below_step (by repeat (first | (with_reducible first | exact HB.out | apply below_alloc | apply pw_below_drewN | apply below_drew1 | refine below_set ?_ GE430.out | refine below_set ?_ GE431.out) | exact HB.out)) hb); clear BK430; clear BK431; clear HB; have BK430 := n0_; have BK431 := n1_; have HB := n2_; clear n0_ n1_ n2_; (try clear hb); (try clear hb2); (try clear hk); (try clear hi)))
  go_ret
  exact ⟨_, by first | rfl | (simp [errW_none, errW_some] <;> rfl) | (simp [*, errW_none, errW_some] <;> rfl), by first | exact Kd.R_nil _ _ _ _ _ | exact Kd.N_nil _ _ _ _ _ | exact Kd.V_nil _ _ _ _ _ | exact Kd.Q_nil _ _ _ _ _ | exact Kd.S_nil _ _ _ _ _, by repeat (first | (with_reducible first | exact HB.out | apply below_alloc | apply pw_below_drewN | apply below_drew1 | refine below_set ?_ GE430.out | refine below_set ?_ GE431.out) | exact HB.out)⟩

/-! ### stack_Leaves: function 14 -/
def stack_Leaves.f (k : Nat) (l0_0 : List (S35)) (l0_1 : List (S37)) (l0_2 : List (S39)) (l0_3 : List (S43)) (a1 : Int) (a2_0 : Int) (a2_1 : Int) (a2_2 : Int) : Option (List Int) := (refs_One.f k l0_0 l0_1 l0_2 l0_3 a1 a2_0 a2_1 a2_2).bind fun t441 => (if t441 = 0 then ((stack_effect.f l0_0 l0_1 l0_2 l0_3 a1 a2_0 a2_1 a2_2).bind fun bt442 => (some bt442.2)) else (some ([] : List Int)))
set_option maxHeartbeats 8000000 in
set_option maxRecDepth 100000 in
theorem stack_Leaves.calls (k : Nat) (A0_0 : Option Addr) (c0_0 : Nat) (l0_0 : List (S35)) (A0_1 : Option Addr) (c0_1 : Nat) (l0_1 : List (S37)) (A0_2 : Option Addr) (c0_2 : Nat) (l0_2 : List (S39)) (A0_3 : Option Addr) (c0_3 : Nat) (l0_3 : List (S43)) (a1 : Int) (a2_0 : Int) (a2_1 : Int) (a2_2 : Int) (r : List Int) (w : World) (hr0_0 : Kd.C k35 w A0_0 l0_0.length l0_0) (hc0_0 : l0_0.length ≤ c0_0) (hr0_1 : Kd.C k37 w A0_1 l0_1.length l0_1) (hc0_1 : l0_1.length ≤ c0_1) (hr0_2 : Kd.C k39 w A0_2 l0_2.length l0_2) (hc0_2 : l0_2.length ≤ c0_2) (hr0_3 : Kd.C k43 w A0_3 l0_3.length l0_3) (hc0_3 : l0_3.length ≤ c0_3) (h : stack_Leaves.f k l0_0 l0_1 l0_2 l0_3 a1 a2_0 a2_1 a2_2 = some r) (hL_ : LaidAll w) :
  Calls Tryd.prog 14 #[.agg #[.slice A0_0 l0_0.length c0_0, .slice A0_1 l0_1.length c0_1, .slice A0_2 l0_2.length c0_2, .slice A0_3 l0_3.length c0_3], .int .i64 a1, .agg #[.int .i64 a2_0, .int .i64 a2_1, .int .i64 a2_2]] w fun e w' => ∃ v0_ : Value, e = .returned (v0_) ∧ Kd.R (Kd.int .i64) 3 w' w.heap.size (fun _ => True) v0_ r ∧ Below w.heap.size w w' := by
 have HL_ := Aside0.mk hL_
 clear hL_
 have hu27 := Tryd.underlying27
 have hu29 := Tryd.underlying29
 have HR0_0 := Aside0.mk hr0_0
 have HC0_0 := Aside0.mk hc0_0
 clear hr0_0 hc0_0
 have HR0_1 := Aside0.mk hr0_1
 have HC0_1 := Aside0.mk hc0_1
 clear hr0_1 hc0_1
 have HR0_2 := Aside0.mk hr0_2
 have HC0_2 := Aside0.mk hc0_2
 clear hr0_2 hc0_2
 have HR0_3 := Aside0.mk hr0_3
 have HC0_3 := Aside0.mk hc0_3
 clear hr0_3 hc0_3
 have HB := Aside0.mk (Below.refl w.heap.size w)
 have H : ((refs_One.f k l0_0 l0_1 l0_2 l0_3 a1 a2_0 a2_1 a2_2).bind fun t441 => (if t441 = 0 then ((stack_effect.f l0_0 l0_1 l0_2 l0_3 a1 a2_0 a2_1 a2_2).bind fun bt442 => (some bt442.2)) else (some ([] : List Int)))) = some r := h
 clear h
 replace H := Option.bind_eq_some_iff.mp H
 obtain ⟨t441, A40, H⟩ := H
 replace H : (if t441 = 0 then ((stack_effect.f l0_0 l0_1 l0_2 l0_3 a1 a2_0 a2_1 a2_2).bind fun bt442 => (some bt442.2)) else (some ([] : List Int))) = some r := H
 have A4 := Aside0.mk A40
 clear A40
 by_cases c5 : t441 = 0
 ·rw [if_pos c5] at H
  have c5b0 : (t441 == 0) = true := beq_iff_eq.mpr c5
  have c5b1 : (t441 != 0) = false := bne_eq_false_iff_eq.mpr c5
  clear c5
  replace H := Option.bind_eq_some_iff.mp H
  obtain ⟨⟨t442, t445⟩, A60, H⟩ := H
  replace H : (some t445) = some r := H
  have A6 := Aside0.mk A60
  clear A60
  obtain rfl := Option.some.inj H
  go_enter Tryd.func14, Tryd.ntmps14
  go_wp2_with (first | ((with_reducible refine gate_dst (N := 3) rfl ?_); refine box_event ?hg (N := 3) ?hd (cs := #[.slice A0_0 l0_0.length c0_0, .slice A0_1 l0_1.length c0_1, .slice A0_2 l0_2.length c0_2, .slice A0_3 l0_3.length c0_3]) (t := 27) ?hr ?_; (case hd => rfl); (case hg => rfl); (case hr => first | (go_simp; done) | (go_simp; rfl)); intro gb439 hg w7 hbox hb; have n0_ := Aside0.mk (below_step (by repeat (first | (with_reducible first | exact HB.out | apply below_alloc | apply pw_below_drewN | apply below_drew1) | exact HB.out)) hb); have n1_ := Aside0.mk (hbox); have n2_ := Aside0.mk ((by rw [hg]; exact (below_size (by repeat (first | (with_reducible first | exact HB.out | apply below_alloc | apply pw_below_drewN | apply below_drew1) | exact HB.out))) : w.heap.size ≤ gb439)); have n3_ := Aside0.mk ((by rw [hg]; exact (below_size (by repeat (first | (with_reducible first | exact HB.out | apply below_alloc | apply pw_below_drewN | apply below_drew1) | exact HB.out))) : w.heap.size ≤ gb439)); clear HB; have HB := n0_; have BK439 := n1_; have GW439 := n2_; have GE439 := n3_; clear n0_ n1_ n2_ n3_; clear hb hbox hg) | ((with_reducible refine gate_dst (N := 5) rfl ?_); refine box_event ?hg (N := 5) ?hd (cs := #[.int .i64 a2_0, .int .i64 a2_1, .int .i64 a2_2]) (t := 29) ?hr ?_; (case hd => rfl); (case hg => rfl); (case hr => first | (go_simp; done) | (go_simp; rfl)); intro gb440 hg w8 hbox hb; have n0_ := Aside0.mk (blk_below (g := gb439) (o := .cells #[.slice A0_0 l0_0.length c0_0, .slice A0_1 l0_1.length c0_1, .slice A0_2 l0_2.length c0_2, .slice A0_3 l0_3.length c0_3] 27 (0, 0)) (by (with_reducible repeat (first | refine blk_drewN ?_ _ | refine blk_drew ?_ | refine blk_alloc ?_ _)); exact BK439.out) hb); have n1_ := Aside0.mk (below_step (by repeat (first | (with_reducible first | exact HB.out | apply below_alloc | apply pw_below_drewN | apply below_drew1 | refine below_set ?_ GE439.out) | exact HB.out)) hb); have n2_ := Aside0.mk (hbox); have n3_ := Aside0.mk ((by rw [hg]; exact (below_size (by repeat (first | (with_reducible first | exact HB.out | apply below_alloc | apply pw_below_drewN | apply below_drew1 | refine below_set ?_ GE439.out) | exact HB.out))) : w.heap.size ≤ gb440)); have n4_ := Aside0.mk ((by rw [hg]; exact (below_size (by repeat (first | (with_reducible first | exact HB.out | apply below_alloc | apply pw_below_drewN | apply below_drew1 | refine below_set ?_ GE439.out) | exact HB.out))) : w.heap.size ≤ gb440)); have n5_ := Aside0.mk ((by rw [hg]; exact Nat.ne_of_lt (blk_lt (g := gb439) (o := .cells #[.slice A0_0 l0_0.length c0_0, .slice A0_1 l0_1.length c0_1, .slice A0_2 l0_2.length c0_2, .slice A0_3 l0_3.length c0_3] 27 (0, 0)) (by (with_reducible repeat (first | refine blk_drewN ?_ _ | refine blk_drew ?_ | refine blk_alloc ?_ _)); exact BK439.out)) : gb439 ≠ gb440)); have n6_ := Aside0.mk ((by rw [hg]; exact Nat.ne_of_gt (blk_lt (g := gb439) (o := .cells #[.slice A0_0 l0_0.length c0_0, .slice A0_1 l0_1.length c0_1, .slice A0_2 l0_2.length c0_2, .slice A0_3 l0_3.length c0_3] 27 (0, 0)) (by (with_reducible repeat (first | refine blk_drewN ?_ _ | refine blk_drew ?_ | refine blk_alloc ?_ _)); exact BK439.out)) : gb440 ≠ gb439)); clear BK439; clear HB; have BK439 := n0_; have HB := n1_; have BK440 := n2_; have GW440 := n3_; have GE440 := n4_; have NB439_440 := n5_; have NB440_439 := n6_; clear n0_ n1_ n2_ n3_ n4_ n5_ n6_; clear hb hbox hg; have hnb9 := NB439_440.out; have hnc9 := NB440_439.out; have hcz10_0 : w8.cell? ⟨gb439, 0, none⟩ = some (.slice A0_0 l0_0.length c0_0) := (blk_cell BK439.out 0).trans rfl; have hcz10_1 : w8.cell? ⟨gb439, 1, none⟩ = some (.slice A0_1 l0_1.length c0_1) := (blk_cell BK439.out 1).trans rfl; have hcz10_2 : w8.cell? ⟨gb439, 2, none⟩ = some (.slice A0_2 l0_2.length c0_2) := (blk_cell BK439.out 2).trans rfl; have hcz10_3 : w8.cell? ⟨gb439, 3, none⟩ = some (.slice A0_3 l0_3.length c0_3) := (blk_cell BK439.out 3).trans rfl; have hfz10_0 := blk_frozen BK439.out 0; have hfz10_1 := blk_frozen BK439.out 1; have hfz10_2 := blk_frozen BK439.out 2; have hfz10_3 := blk_frozen BK439.out 3; have hcz11_0 : w8.cell? ⟨gb440, 0, none⟩ = some (.int .i64 a2_0) := (blk_cell BK440.out 0).trans rfl; have hcz11_1 : w8.cell? ⟨gb440, 1, none⟩ = some (.int .i64 a2_1) := (blk_cell BK440.out 1).trans rfl; have hcz11_2 : w8.cell? ⟨gb440, 2, none⟩ = some (.int .i64 a2_2) := (blk_cell BK440.out 2).trans rfl; have hfz11_0 := blk_frozen BK440.out 0; have hfz11_1 := blk_frozen BK440.out 1; have hfz11_2 := blk_frozen BK440.out 2) | ((with_reducible refine gate_callee (f := 7) rfl ?_); refine goesL_ (some 12) rfl rfl Tryd.func7 (by kernel_rfl) rfl #[.agg #[.slice A0_0 l0_0.length c0_0, .slice A0_1 l0_1.length c0_1, .slice A0_2 l0_2.length c0_2, .slice A0_3 l0_3.length c0_3], .int .i64 a1, .agg #[.int .i64 a2_0, .int .i64 a2_1, .int .i64 a2_2]] rfl (by (try simp only [List.map_toArray, List.map_cons, List.map_nil]); first | done | rfl | (simp only [List.length_drop, List.length_take]; rfl)) ?_; (with_reducible refine (refs_One.calls k _ _ l0_0 _ _ l0_1 _ _ l0_2 _ _ l0_3 a1 a2_0 a2_1 a2_2 t441 _ ?side1 ?side2 ?side3 ?side4 ?side5 ?side6 ?side7 ?side8 A4.out (LaidAll.below HL_.out (by repeat (first | (with_reducible first | exact HB.out | apply below_alloc | apply pw_below_drewN | apply below_drew1 | refine below_set ?_ GE439.out | refine below_set ?_ GE440.out) | exact HB.out)))).mono ?_); (case side1 => repeat (first | exact (Kd.C_below HR0_0.out HB.out) | (with_reducible refine Kd.C_alloc ?_ _) | (with_reducible refine Kd.C_drewN ?_ _) | (with_reducible refine Kd.C_drew ?_))); (case side2 => exact HC0_0.out); (case side3 => repeat (first | exact (Kd.C_below HR0_1.out HB.out) | (with_reducible refine Kd.C_alloc ?_ _) | (with_reducible refine Kd.C_drewN ?_ _) | (with_reducible refine Kd.C_drew ?_))); (case side4 => exact HC0_1.out); (case side5 => repeat (first | exact (Kd.C_below HR0_2.out HB.out) | (with_reducible refine Kd.C_alloc ?_ _) | (with_reducible refine Kd.C_drewN ?_ _) | (with_reducible refine Kd.C_drew ?_))); (case side6 => exact HC0_2.out); (case side7 => repeat (first | exact (Kd.C_below HR0_3.out HB.out) | (with_reducible refine Kd.C_alloc ?_ _) | (with_reducible refine Kd.C_drewN ?_ _) | (with_reducible refine Kd.C_drew ?_))); (case side8 => exact HC0_3.out); rintro e w12 ⟨rfl, hb⟩; refine ⟨_, rfl, ?_⟩; have n0_ := Aside0.mk (blk_below (g := gb439) (o := .cells #[.slice A0_0 l0_0.length c0_0, .slice A0_1 l0_1.length c0_1, .slice A0_2 l0_2.length c0_2, .slice A0_3 l0_3.length c0_3] 27 (0, 0)) (by (with_reducible repeat (first | refine blk_drewN ?_ _ | refine blk_drew ?_ | refine blk_alloc ?_ _)); exact BK439.out) hb); have n1_ := Aside0.mk (blk_below (g := gb440) (o := .cells #[.int .i64 a2_0, .int .i64 a2_1, .int .i64 a2_2] 29 (0, 0)) (by (with_reducible repeat (first | refine blk_drewN ?_ _ | refine blk_drew ?_ | refine blk_alloc ?_ _)); exact BK440.out) hb); have n2_ := Aside0.mk (below_step (by repeat (first | (with_reducible first | exact HB.out | apply below_alloc | apply pw_below_drewN | apply below_drew1 | refine below_set ?_ GE439.out | refine below_set ?_ GE440.out) | exact HB.out)) hb); clear BK439; clear BK440; clear HB; have BK439 := n0_; have BK440 := n1_; have HB := n2_; clear n0_ n1_ n2_; (try clear hb); (try clear hb2); (try clear hk); (try clear hi); have hcz13_0 : w12.cell? ⟨gb439, 0, none⟩ = some (.slice A0_0 l0_0.length c0_0) := (blk_cell BK439.out 0).trans rfl; have hcz13_1 : w12.cell? ⟨gb439, 1, none⟩ = some (.slice A0_1 l0_1.length c0_1) := (blk_cell BK439.out 1).trans rfl; have hcz13_2 : w12.cell? ⟨gb439, 2, none⟩ = some (.slice A0_2 l0_2.length c0_2) := (blk_cell BK439.out 2).trans rfl; have hcz13_3 : w12.cell? ⟨gb439, 3, none⟩ = some (.slice A0_3 l0_3.length c0_3) := (blk_cell BK439.out 3).trans rfl; have hfz13_0 := blk_frozen BK439.out 0; have hfz13_1 := blk_frozen BK439.out 1; have hfz13_2 := blk_frozen BK439.out 2; have hfz13_3 := blk_frozen BK439.out 3; have hcz14_0 : w12.cell? ⟨gb440, 0, none⟩ = some (.int .i64 a2_0) := (blk_cell BK440.out 0).trans rfl; have hcz14_1 : w12.cell? ⟨gb440, 1, none⟩ = some (.int .i64 a2_1) := (blk_cell BK440.out 1).trans rfl; have hcz14_2 : w12.cell? ⟨gb440, 2, none⟩ = some (.int .i64 a2_2) := (blk_cell BK440.out 2).trans rfl; have hfz14_0 := blk_frozen BK440.out 0; have hfz14_1 := blk_frozen BK440.out 1; have hfz14_2 := blk_frozen BK440.out 2) | ((with_reducible refine gate_callee (f := 22) rfl ?_); refine goesL_ (some 18) rfl rfl Tryd.func22 (by kernel_rfl) rfl #[.agg #[.slice A0_0 l0_0.length c0_0, .slice A0_1 l0_1.length c0_1, .slice A0_2 l0_2.length c0_2, .slice A0_3 l0_3.length c0_3], .int .i64 a1, .agg #[.int .i64 a2_0, .int .i64 a2_1, .int .i64 a2_2]] rfl (by (try simp only [List.map_toArray, List.map_cons, List.map_nil]); first | done | rfl | (simp only [List.length_drop, List.length_take]; rfl)) ?_; (with_reducible refine (stack_effect.calls _ _ l0_0 _ _ l0_1 _ _ l0_2 _ _ l0_3 a1 a2_0 a2_1 a2_2 t442 t445 _ ?side1 ?side2 ?side3 ?side4 ?side5 ?side6 ?side7 ?side8 A6.out (LaidAll.below HL_.out (by repeat (first | (with_reducible first | exact HB.out | apply below_alloc | apply pw_below_drewN | apply below_drew1 | refine below_set ?_ GE439.out | refine below_set ?_ GE440.out) | exact HB.out)))).mono ?_); (case side1 => repeat (first | exact (Kd.C_below HR0_0.out HB.out) | (with_reducible refine Kd.C_alloc ?_ _) | (with_reducible refine Kd.C_drewN ?_ _) | (with_reducible refine Kd.C_drew ?_))); (case side2 => exact HC0_0.out); (case side3 => repeat (first | exact (Kd.C_below HR0_1.out HB.out) | (with_reducible refine Kd.C_alloc ?_ _) | (with_reducible refine Kd.C_drewN ?_ _) | (with_reducible refine Kd.C_drew ?_))); (case side4 => exact HC0_1.out); (case side5 => repeat (first | exact (Kd.C_below HR0_2.out HB.out) | (with_reducible refine Kd.C_alloc ?_ _) | (with_reducible refine Kd.C_drewN ?_ _) | (with_reducible refine Kd.C_drew ?_))); (case side6 => exact HC0_2.out); (case side7 => repeat (first | exact (Kd.C_below HR0_3.out HB.out) | (with_reducible refine Kd.C_alloc ?_ _) | (with_reducible refine Kd.C_drewN ?_ _) | (with_reducible refine Kd.C_drew ?_))); (case side8 => exact HC0_3.out); rintro e w15 ⟨v443, v446, rfl, ho0, ho1, hb⟩; refine ⟨_, rfl, ?_⟩; have n0_ := Aside0.mk (Kd.R_lower ho0 (below_size (by repeat (first | (with_reducible first | exact HB.out | apply below_alloc | apply pw_below_drewN | apply below_drew1 | refine below_set ?_ GE439.out | refine below_set ?_ GE440.out) | exact HB.out)))); have n1_ := Aside0.mk (Kd.R_lower ho1 (below_size (by repeat (first | (with_reducible first | exact HB.out | apply below_alloc | apply pw_below_drewN | apply below_drew1 | refine below_set ?_ GE439.out | refine below_set ?_ GE440.out) | exact HB.out)))); have n2_ := Aside0.mk (blk_below (g := gb439) (o := .cells #[.slice A0_0 l0_0.length c0_0, .slice A0_1 l0_1.length c0_1, .slice A0_2 l0_2.length c0_2, .slice A0_3 l0_3.length c0_3] 27 (0, 0)) (by (with_reducible repeat (first | refine blk_drewN ?_ _ | refine blk_drew ?_ | refine blk_alloc ?_ _)); exact BK439.out) hb); have n3_ := Aside0.mk (blk_below (g := gb440) (o := .cells #[.int .i64 a2_0, .int .i64 a2_1, .int .i64 a2_2] 29 (0, 0)) (by (with_reducible repeat (first | refine blk_drewN ?_ _ | refine blk_drew ?_ | refine blk_alloc ?_ _)); exact BK440.out) hb); have n4_ := Aside0.mk (below_step (by repeat (first | (with_reducible first | exact HB.out | apply below_alloc | apply pw_below_drewN | apply below_drew1 | refine below_set ?_ GE439.out | refine below_set ?_ GE440.out) | exact HB.out)) hb); clear BK439; clear BK440; clear HB; have HO444 := n0_; have HO447 := n1_; have BK439 := n2_; have BK440 := n3_; have HB := n4_; clear n0_ n1_ n2_ n3_ n4_; (try clear hb); (try clear hb2); (try clear hk); (try clear hi); (try clear ho0); (try clear ho1)))
  go_ret
  exact ⟨_, by first | rfl | (simp [errW_none, errW_some] <;> rfl) | (simp [*, errW_none, errW_some] <;> rfl), by (with_reducible repeat (first | apply Kd.R_alloc | apply Kd.R_drewN | apply Kd.R_drew)); exact Kd.R_mono HO447.out (fun _ hk => trivial), by repeat (first | (with_reducible first | exact HB.out | apply below_alloc | apply pw_below_drewN | apply below_drew1 | refine below_set ?_ GE439.out | refine below_set ?_ GE440.out) | exact HB.out)⟩
 ·rw [if_neg c5] at H
  have c5b0 : (t441 == 0) = false := beq_eq_false_iff_ne.mpr c5
  have c5b1 : (t441 != 0) = true := bne_iff_ne.mpr c5
  obtain rfl := Option.some.inj H
  go_enter Tryd.func14, Tryd.ntmps14
  go_wp2_with (first | ((with_reducible refine gate_dst (N := 3) rfl ?_); refine box_event ?hg (N := 3) ?hd (cs := #[.slice A0_0 l0_0.length c0_0, .slice A0_1 l0_1.length c0_1, .slice A0_2 l0_2.length c0_2, .slice A0_3 l0_3.length c0_3]) (t := 27) ?hr ?_; (case hd => rfl); (case hg => rfl); (case hr => first | (go_simp; done) | (go_simp; rfl)); intro gb439 hg w16 hbox hb; have n0_ := Aside0.mk (below_step (by repeat (first | (with_reducible first | exact HB.out | apply below_alloc | apply pw_below_drewN | apply below_drew1) | exact HB.out)) hb); have n1_ := Aside0.mk (hbox); have n2_ := Aside0.mk ((by rw [hg]; exact (below_size (by repeat (first | (with_reducible first | exact HB.out | apply below_alloc | apply pw_below_drewN | apply below_drew1) | exact HB.out))) : w.heap.size ≤ gb439)); have n3_ := Aside0.mk ((by rw [hg]; exact (below_size (by repeat (first | (with_reducible first | exact HB.out | apply below_alloc | apply pw_below_drewN | apply below_drew1) | exact HB.out))) : w.heap.size ≤ gb439)); clear HB; have HB := n0_; have BK439 := n1_; have GW439 := n2_; have GE439 := n3_; clear n0_ n1_ n2_ n3_; clear hb hbox hg) | ((with_reducible refine gate_dst (N := 5) rfl ?_); refine box_event ?hg (N := 5) ?hd (cs := #[.int .i64 a2_0, .int .i64 a2_1, .int .i64 a2_2]) (t := 29) ?hr ?_; (case hd => rfl); (case hg => rfl); (case hr => first | (go_simp; done) | (go_simp; rfl)); intro gb440 hg w17 hbox hb; have n0_ := Aside0.mk (blk_below (g := gb439) (o := .cells #[.slice A0_0 l0_0.length c0_0, .slice A0_1 l0_1.length c0_1, .slice A0_2 l0_2.length c0_2, .slice A0_3 l0_3.length c0_3] 27 (0, 0)) (by (with_reducible repeat (first | refine blk_drewN ?_ _ | refine blk_drew ?_ | refine blk_alloc ?_ _)); exact BK439.out) hb); have n1_ := Aside0.mk (below_step (by repeat (first | (with_reducible first | exact HB.out | apply below_alloc | apply pw_below_drewN | apply below_drew1 | refine below_set ?_ GE439.out) | exact HB.out)) hb); have n2_ := Aside0.mk (hbox); have n3_ := Aside0.mk ((by rw [hg]; exact (below_size (by repeat (first | (with_reducible first | exact HB.out | apply below_alloc | apply pw_below_drewN | apply below_drew1 | refine below_set ?_ GE439.out) | exact HB.out))) : w.heap.size ≤ gb440)); have n4_ := Aside0.mk ((by rw [hg]; exact (below_size (by repeat (first | (with_reducible first | exact HB.out | apply below_alloc | apply pw_below_drewN | apply below_drew1 | refine below_set ?_ GE439.out) | exact HB.out))) : w.heap.size ≤ gb440)); have n5_ := Aside0.mk ((by rw [hg]; exact Nat.ne_of_lt (blk_lt (g := gb439) (o := .cells #[.slice A0_0 l0_0.length c0_0, .slice A0_1 l0_1.length c0_1, .slice A0_2 l0_2.length c0_2, .slice A0_3 l0_3.length c0_3] 27 (0, 0)) (by (with_reducible repeat (first | refine blk_drewN ?_ _ | refine blk_drew ?_ | refine blk_alloc ?_ _)); exact BK439.out)) : gb439 ≠ gb440)); have n6_ := Aside0.mk ((by rw [hg]; exact Nat.ne_of_gt (blk_lt (g := gb439) (o := .cells #[.slice A0_0 l0_0.length c0_0, .slice A0_1 l0_1.length c0_1, .slice A0_2 l0_2.length c0_2, .slice A0_3 l0_3.length c0_3] 27 (0, 0)) (by (with_reducible repeat (first | refine blk_drewN ?_ _ | refine blk_drew ?_ | refine blk_alloc ?_ _)); exact BK439.out)) : gb440 ≠ gb439)); clear BK439; clear HB; have BK439 := n0_; have HB := n1_; have BK440 := n2_; have GW440 := n3_; have GE440 := n4_; have NB439_440 := n5_; have NB440_439 := n6_; clear n0_ n1_ n2_ n3_ n4_ n5_ n6_; clear hb hbox hg; have hnb18 := NB439_440.out; have hnc18 := NB440_439.out; have hcz19_0 : w17.cell? ⟨gb439, 0, none⟩ = some (.slice A0_0 l0_0.length c0_0) := (blk_cell BK439.out 0).trans rfl; have hcz19_1 : w17.cell? ⟨gb439, 1, none⟩ = some (.slice A0_1 l0_1.length c0_1) := (blk_cell BK439.out 1).trans rfl; have hcz19_2 : w17.cell? ⟨gb439, 2, none⟩ = some (.slice A0_2 l0_2.length c0_2) := (blk_cell BK439.out 2).trans rfl; have hcz19_3 : w17.cell? ⟨gb439, 3, none⟩ = some (.slice A0_3 l0_3.length c0_3) := (blk_cell BK439.out 3).trans rfl; have hfz19_0 := blk_frozen BK439.out 0; have hfz19_1 := blk_frozen BK439.out 1; have hfz19_2 := blk_frozen BK439.out 2; have hfz19_3 := blk_frozen BK439.out 3; have hcz20_0 : w17.cell? ⟨gb440, 0, none⟩ = some (.int .i64 a2_0) := (blk_cell BK440.out 0).trans rfl; have hcz20_1 : w17.cell? ⟨gb440, 1, none⟩ = some (.int .i64 a2_1) := (blk_cell BK440.out 1).trans rfl; have hcz20_2 : w17.cell? ⟨gb440, 2, none⟩ = some (.int .i64 a2_2) := (blk_cell BK440.out 2).trans rfl; have hfz20_0 := blk_frozen BK440.out 0; have hfz20_1 := blk_frozen BK440.out 1; have hfz20_2 := blk_frozen BK440.out 2) | ((with_reducible refine gate_callee (f := 7) rfl ?_); refine goesL_ (some 12) rfl rfl Tryd.func7 (by kernel_rfl) rfl #[.agg #[.slice A0_0 l0_0.length c0_0, .slice A0_1 l0_1.length c0_1, .slice A0_2 l0_2.length c0_2, .slice A0_3 l0_3.length c0_3], .int .i64 a1, .agg #[.int .i64 a2_0, .int .i64 a2_1, .int .i64 a2_2]] rfl (by (try simp only [List.map_toArray, List.map_cons, List.map_nil]); first | done | rfl | (simp only [List.length_drop, List.length_take]; rfl)) ?_; (with_reducible refine (refs_One.calls k _ _ l0_0 _ _ l0_1 _ _ l0_2 _ _ l0_3 a1 a2_0 a2_1 a2_2 t441 _ ?side1 ?side2 ?side3 ?side4 ?side5 ?side6 ?side7 ?side8 A4.out (LaidAll.below HL_.out (by repeat (first | (with_reducible first | exact HB.out | apply below_alloc | apply pw_below_drewN | apply below_drew1 | refine below_set ?_ GE439.out | refine below_set ?_ GE440.out) | exact HB.out)))).mono ?_); (case side1 => repeat (first | exact (Kd.C_below HR0_0.out HB.out) | (with_reducible refine Kd.C_alloc ?_ _) | (with_reducible refine Kd.C_drewN ?_ _) | (with_reducible refine Kd.C_drew ?_))); (case side2 => exact HC0_0.out); (case side3 => repeat (first | exact (Kd.C_below HR0_1.out HB.out) | (with_reducible refine Kd.C_alloc ?_ _) | (with_reducible refine Kd.C_drewN ?_ _) | (with_reducible refine Kd.C_drew ?_))); (case side4 => exact HC0_1.out); (case side5 => repeat (first | exact (Kd.C_below HR0_2.out HB.out) | (with_reducible refine Kd.C_alloc ?_ _) | (with_reducible refine Kd.C_drewN ?_ _) | (with_reducible refine Kd.C_drew ?_))); (case side6 => exact HC0_2.out); (case side7 => repeat (first | exact (Kd.C_below HR0_3.out HB.out) | (with_reducible refine Kd.C_alloc ?_ _) | (with_reducible refine Kd.C_drewN ?_ _) | (with_reducible refine Kd.C_drew ?_))); (case side8 => exact HC0_3.out); rintro e w21 ⟨rfl, hb⟩; refine ⟨_, rfl, ?_⟩; have n0_ := Aside0.mk (blk_below (g := gb439) (o := .cells #[.slice A0_0 l0_0.length c0_0, .slice A0_1 l0_1.length c0_1, .slice A0_2 l0_2.length c0_2, .slice A0_3 l0_3.length c0_3] 27 (0, 0)) (by (with_reducible repeat (first | refine blk_drewN ?_ _ | refine blk_drew ?_ | refine blk_alloc ?_ _)); exact BK439.out) hb); have n1_ := Aside0.mk (blk_below (g := gb440) (o := .cells #[.int .i64 a2_0, .int .i64 a2_1, .int .i64 a2_2] 29 (0, 0)) (by (with_reducible repeat (first | refine blk_drewN ?_ _ | refine blk_drew ?_ | refine blk_alloc ?_ _)); exact BK440.out) hb); have n2_ := Aside0.mk (below_step (by repeat (first | (with_reducible first | exact HB.out | apply below_alloc | apply pw_below_drewN | apply below_drew1 | refine below_set ?_ GE439.out | refine below_set ?_ GE440.out) | exact HB.out)) hb); clear BK439; clear BK440; clear HB; have BK439 := n0_; have BK440 := n1_; have HB := n2_; clear n0_ n1_ n2_; (try clear hb); (try clear hb2); (try clear hk); (try clear hi)))
  go_ret
  exact ⟨_, by first | rfl | (simp [errW_none, errW_some] <;> rfl) | (simp [*, errW_none, errW_some] <;> rfl), by first | exact Kd.R_nil _ _ _ _ _ | exact Kd.N_nil _ _ _ _ _ | exact Kd.V_nil _ _ _ _ _ | exact Kd.Q_nil _ _ _ _ _ | exact Kd.S_nil _ _ _ _ _, by repeat (first | (with_reducible first | exact HB.out | apply below_alloc | apply pw_below_drewN | apply below_drew1 | refine below_set ?_ GE439.out | refine below_set ?_ GE440.out) | exact HB.out)⟩

end Go.Proofs.YthdlocigijiobaaDoor.PSk
end

section
/- One instruction's effect on a stack, plainly: what the program's stack.Step answers; what lies below plays no part. -/
namespace Go.Proofs.YthdlocigijiobaaDoor.RPure
open Go.RowKit Go.Proofs.YthdlocigijiobaaDoor.PSk Go.Proofs.YthdlocigijiobaaDoor.Given Go.Proofs.YthdlocigijiobaaDoorW.PrintWords Go.Proofs.YthdlocigijiobaaDoorW.PrintLast Go.Proofs.YthdlocigijiobaaDoorW.PrintMore
set_option linter.unusedVariables false
set_option linter.unusedSimpArgs false
theorem shape4 (n : Nat) (hn : n < 38) : shapeA (n : Int) = 4 ↔ 8 ≤ n ∧ n ≤ 26 := by
  rw [shapeA_at n hn]
  have : ∀ m : Fin 38, opA.getD m.val 0 = 4 ↔ 8 ≤ m.val ∧ m.val ≤ 26 := by decide
  exact this ⟨n, hn⟩
theorem th_is (C : LC) (V : LV) (B : LB) (U : LU) (hU : Ok U) (u x y z : Int) (hx : isOp x = true) (hu0 : 0 ≤ u) (hu1 : u < (U.length : Int)) (hy : 0 ≤ y) :
    refs_there.f C V B U (rd_T43 U u).f0 (rd_T43 U u).f1 (rd_T43 U u).f2 (rd_T43 U u).f3 (rd_T43 U u).f4 x y z = some (thereF C V B U u x y z) := by
  obtain ⟨o1, o2, o3⟩ := ok_at hU u hu0 hu1
  unfold refs_there.f
  rw [if_pos ⟨hx, hy, o1, o2⟩]
  rfl
theorem one_is (C : LC) (V : LV) (B : LB) (U : LU) (hU : Ok U) (u x y z : Int) (k : Nat) (hk : 1 ≤ k) : refs_One.f k C V B U u x y z = some (oneF C V B U u x y z) := by
  obtain ⟨k, rfl⟩ : ∃ m, k = m + 1 := ⟨k - 1, by omega⟩
  unfold refs_One.f oneF
  by_cases h0 : u < 0
  · rw [if_pos h0, if_pos (.inl h0), refs_One.j0, if_pos rfl]
  rw [if_neg h0, refs_One.j0]
  by_cases h1 : (U.length : Int) ≤ u
  · rw [if_pos (decide_eq_true h1), if_pos (.inr h1)]
  rw [if_neg (show ¬ decide (u ≥ (U.length : Int)) = true by simpa using h1), if_neg (show ¬ (u < 0 ∨ (U.length : Int) ≤ u) by omega), right_is, Option.bind_some]
  by_cases h2 : rightF x y z = true
  · have h2' := h2
    unfold rightF at h2'
    simp only [Bool.and_eq_true] at h2'
    have hop := h2'.1.1
    have hy := may_nonneg h2'.1.2
    have hx : -9223372036854775808 ≤ x ∧ x ≤ 9223372036854775807 := by
      unfold isOp at hop
      simp only [Bool.and_eq_true, decide_eq_true_eq] at hop
      omega
    rw [if_pos h2, if_pos h2, typed_is x y z hx, Option.bind_some]
    by_cases h3 : typedF x y z = true
    · rw [if_pos h3, if_pos h3, if_pos (show 0 ≤ u by omega), if_pos (show u < (U.length : Int) by omega), th_is C V B U hU u x y z hop (by omega) (by omega) hy, Option.bind_some]
      split <;> rfl
    · rw [if_neg h3, if_neg h3]
  · rw [if_neg h2, if_neg h2]
theorem one_ok {C : LC} {V : LV} {B : LB} {U : LU} {u x y z : Int} (h : oneF C V B U u x y z = 0) : 0 ≤ u ∧ u < (U.length : Int) ∧ (∃ n : Nat, x = n ∧ n < 38) ∧ 0 ≤ y ∧ 0 ≤ z ∧ thereF C V B U u x y z = true := by
  unfold oneF at h
  split at h
  · omega
  · split at h
    · rename_i h0 h2
      split at h
      · split at h
        · rename_i h3 h4
          unfold rightF isOp at h2
          simp only [Bool.and_eq_true, decide_eq_true_eq] at h2
          exact ⟨by omega, by omega, ⟨x.toNat, by omega, by omega⟩, may_nonneg h2.1.2, may_nonneg h2.2, h4⟩
        · omega
      · omega
    · omega
theorem bin_is (x : Int) (h0 : 0 ≤ x) (h1 : x < 38) : alu_Binary.f x = some (decide (8 ≤ x ∧ x ≤ 25 ∧ x ≠ 13 ∧ x ≠ 17)) := by
  unfold alu_Binary.f
  by_cases a : x ≥ 8
  · rw [if_pos a, w64 _ (by omega) (by omega)]
    by_cases b : x - 8 < 18
    · rw [if_pos b]
      by_cases c : x = 13
      · rw [if_pos c, decide_eq_false (by omega)]
      · rw [if_neg c]
        by_cases d : x = 17
        · subst d; rfl
        · rw [decide_eq_true (by omega)]; simp [d]
    · rw [if_neg b, decide_eq_false (by omega)]
  · rw [if_neg a, decide_eq_false (by omega)]
/-- The type of what an operation leaves. -/
def resF (x t : Int) : Int := if goesOf x t = true then (if 20 ≤ x ∧ x ≤ 25 then 1 else t) else 0
theorem res_is (x t : Int) (h0 : 0 ≤ x) (h1 : x < 38) : alu_Result.f x t = some (resF x t) := by
  unfold alu_Result.f alu_Goes.f resF alu_compares.f
  rw [if_pos (by omega), Option.bind_some]
  cases goesOf x t with
  | false => rfl
  | true =>
    rw [if_pos rfl, if_pos rfl]
    by_cases a : x ≥ 20
    · rw [if_pos a, Option.bind_some]
      by_cases b : x ≤ 25
      · rw [if_pos (decide_eq_true b), if_pos ⟨a, b⟩]
      · rw [if_neg (by simpa using b), if_neg (by omega)]
    · rw [if_neg a, Option.bind_some, if_neg (by decide), if_neg (by omega)]
theorem stak_is (x y z : Int) (h0 : 0 ≤ x) (h1 : x < 38) : ∃ t l, stack_typed.f x y z = some (t, l) ∧ t.length ≤ 2 ∧ l.length ≤ 2 := by
  unfold stack_typed.f
  by_cases a : x = 26
  · rw [if_pos a]; exact ⟨_, _, rfl, by simp, by simp⟩
  · rw [if_neg a]
    by_cases b : x = 18 ∨ x = 19
    · rw [if_pos b]; exact ⟨_, _, rfl, by simp, by simp⟩
    · rw [if_neg b, bin_is x h0 h1, Option.bind_some]
      split
      · rw [res_is x y h0 h1, Option.bind_some]; exact ⟨_, _, rfl, by simp, by simp⟩
      · exact ⟨_, _, rfl, by simp, by simp⟩
theorem inputs_fields (t : Int) : inputsOf t ≤ fieldsOf t := by unfold inputsOf fieldsOf; (repeat' split) <;> omega
theorem eff_some {C : LC} {V : LV} {B : LB} {U : LU} (hU : Ok U) {u x y z : Int} (h : oneF C V B U u x y z = 0) :
    ∃ t l, stack_effect.f C V B U u x y z = some (t, l) ∧ t.length ≤ 20 ∧ l.length ≤ 2 ∧ (x = 27 → t = [0]) ∧ (x = 29 → t = [0, 0]) := by
  obtain ⟨hu0, hu1, ⟨n, rfl, hn⟩, hy, hz, ht⟩ := one_ok h
  obtain ⟨o1, o2, o3⟩ := ok_at hU u hu0 hu1
  have hs := shapeA_at n hn
  have h4 := shape4 n hn
  unfold stack_effect.f
  by_cases ty : 8 ≤ n ∧ n ≤ 26
  · rw [if_pos (h4.2 ty)]
    obtain ⟨t, l, e, h1, h2⟩ := stak_is (n : Int) y z (by omega) (by omega)
    exact ⟨t, l, e, by omega, h2, fun e => by omega, fun e => by omega⟩
  rw [if_neg (fun e => ty (h4.1 e))]
  unfold thereF at ht
  rw [hs] at ht
  clear h4 h
  rcases (by omega : n = 0 ∨ n = 1 ∨ n = 2 ∨ n = 3 ∨ n = 4 ∨ n = 5 ∨ n = 6 ∨ n = 7 ∨ n = 27 ∨ n = 28 ∨ n = 29 ∨ n = 30 ∨ n = 31 ∨ n = 32 ∨ n = 33 ∨ n = 34 ∨ n = 35 ∨ n = 36 ∨ n = 37) with rfl | rfl | rfl | rfl | rfl | rfl | rfl | rfl | rfl | rfl | rfl | rfl | rfl | rfl | rfl | rfl | rfl | rfl | rfl
  all_goals (try simp [opA] at ht)
  case inr.inr.inr.inr.inr.inr.inr.inr.inr.inr.inr.inr.inr.inr.inl =>
    have hp := (ok_at hU y hy ht.2).1
    simp [hy, ht, hp]
    split <;> exact ⟨_, _, ⟨rfl, rfl⟩, by omega, by simp⟩
  case inr.inr.inr.inr.inr.inr.inr.inr.inr.inr.inr.inr.inr.inr.inr.inr.inl =>
    have := inputs_fields (rd_T39 B y).f1
    have hz2 : z < fieldsOf (rd_T39 B y).f1 := by omega
    simp [stack_field.f, hy, ht, hz, hz2]
    exact ⟨_, _, ⟨rfl, rfl⟩, by simp, by simp⟩
  all_goals simp [hy, hz, ht, hu0, hu1, o1, o2, stack_field.f]
  all_goals first | done | exact ⟨_, _, ⟨rfl, rfl⟩, by simp, by simp⟩
/-- What is left, of the types on top. -/
def topF (x : Int) (top lv : List Int) : List Int := if x = 27 then [rd top 0, rd top 0] else if x = 29 then [rd top 1, rd top 0] else lv
/-- Are the types from i on as they are wanted? -/
def mat (t top : List Int) : Int → Nat → Bool
  | _, 0 => true
  | i, m + 1 => (rd t i == 0 || rd t i == rd top i) && mat t top (i + 1) m
def stepF (x : Int) (t lv st : List Int) : List Int × Int :=
  if st.length < t.length then ([], 9) else if x = 34 ∧ 0 < st.length then ([], 9) else
  if mat t (st.drop (st.length - t.length)) 0 t.length = true then (if 32 < st.length - t.length + (topF x (st.drop (st.length - t.length)) lv).length then ([], 9) else (st.take (st.length - t.length) ++ topF x (st.drop (st.length - t.length)) lv, 0)) else ([], 10)
theorem step_l0 (st lv t top : List Int) (low : Nat) (x y z : Int) (hst : st.length ≤ 1000) (hlow : low ≤ st.length) (htop : top.length = t.length) (hlv : lv.length ≤ 20) (h27 : x = 27 → t = [0]) (h29 : x = 29 → t = [0, 0]) :
    ∀ m i k : Nat, i + m = t.length → m + 1 ≤ k → t.length ≤ 1000 → stack_Step.l0 k st lv (low : Int) top t (t.length : Int) (i : Int) x y z = some (if mat t top (i : Int) m = true then (if 32 < low + (topF x top lv).length then ([], 9) else (st.take low ++ topF x top lv, 0)) else ([], 10)) := by
  intro m
  induction m with
  | zero =>
    intro i k h1 h2 ht
    obtain ⟨k, rfl⟩ : ∃ m, k = m + 1 := ⟨k - 1, by omega⟩
    rw [mat, if_pos rfl, stack_Step.l0, if_neg (by omega)]
    have fin : ∀ l : List Int, l.length ≤ 20 → (if (wrap64 ((low : Int) + (l.length : Int))) > 32 then (some (([] : List Int), (9 : Int))) else ((some (([] : List Int) : List Int)).bind fun y166 => (if 0 ≤ (low : Int) then (if (low : Int) ≤ (st.length : Int) then (if y166.length + (st.take ((low : Int) : Int).toNat).length < 17592186044416 then ((some (y166 ++ (st.take ((low : Int) : Int).toNat) : List Int)).bind fun y170 => (if y170.length + l.length < 17592186044416 then (some ((y170 ++ l), 0)) else (none))) else (none)) else (none)) else (none)))) = some (if 32 < low + l.length then ([], 9) else (st.take low ++ l, 0)) := fun l hl => by
      rw [w64 _ (by omega) (by omega)]
      by_cases c : 32 < low + l.length
      · rw [if_pos (by omega), if_pos c]
      · rw [if_neg (by omega), if_neg c, Option.bind_some, if_pos (by omega), if_pos (by omega), Int.toNat_natCast, if_pos (by simp only [List.length_nil, List.length_take]; omega), Option.bind_some, if_pos (by simp only [List.nil_append, List.length_take]; omega), List.nil_append]
    unfold topF
    by_cases a : x = 27
    · have := h27 a; subst this
      rw [if_pos a, if_pos a, if_pos (by simp [htop]), stack_of.f, Option.bind_some]
      exact fin _ (by simp)
    · rw [if_neg a, if_neg a]
      by_cases b : x = 29
      · have := h29 b; subst this
        rw [if_pos b, if_pos b, if_pos (by simp [htop]), if_pos (by simp [htop]), stack_of.f, Option.bind_some]
        exact fin _ (by simp)
      · rw [if_neg b, if_neg b]
        exact fin _ hlv
  | succ m ih =>
    intro i k h1 h2 ht
    obtain ⟨k, rfl⟩ : ∃ m, k = m + 1 := ⟨k - 1, by omega⟩
    have hi := ih (i + 1) k (by omega) (by omega) ht
    rw [show ((i + 1 : Nat) : Int) = (i : Int) + 1 by omega] at hi
    rw [mat, stack_Step.l0, if_pos (by omega), if_pos (by omega), if_pos (by omega), w64 _ (by omega) (by omega), hi]
    by_cases a : rd t (i : Int) = 0
    · rw [if_pos a, beq_iff_eq.2 a, Bool.true_or, Bool.true_and]
    · rw [if_neg a, if_pos (by omega), beq_eq_false_iff_ne.2 a, Bool.false_or]
      by_cases b : rd t (i : Int) = rd top (i : Int)
      · rw [if_pos b, beq_iff_eq.2 b, Bool.true_and]
      · rw [if_neg b, beq_eq_false_iff_ne.2 b, Bool.false_and]; rfl
theorem step_is (C : LC) (V : LV) (B : LB) (U : LU) (hU : Ok U) (u x y z : Int) (st : List Int) (hst : st.length ≤ 1000) (k : Nat) (hk : 30 ≤ k) :
    stack_Step.f k C V B U u x y z st = some (if oneF C V B U u x y z = 0 then (match stack_effect.f C V B U u x y z with | some (t, lv) => stepF x t lv st | none => ([], 0)) else ([], oneF C V B U u x y z)) := by
  unfold stack_Step.f
  rw [one_is C V B U hU u x y z k (by omega), Option.bind_some]
  by_cases h : oneF C V B U u x y z = 0
  · rw [if_pos h, if_pos h]
    obtain ⟨t, lv, e, h1, h2, h3, h4⟩ := eff_some hU h
    rw [e, Option.bind_some]
    simp only
    rw [w64 _ (by omega) (by omega)]
    obtain ⟨k, rfl⟩ : ∃ m, k = m + 1 := ⟨k - 1, by omega⟩
    unfold stepF
    by_cases a : st.length < t.length
    · rw [if_pos (by omega), if_pos a, stack_Step.j0, if_pos rfl]
    rw [if_neg (by omega), if_neg a]
    have main : stack_Step.j0 (k + 1) st t lv ((st.length : Int) - (t.length : Int)) false x y z = some (if mat t (st.drop (st.length - t.length)) 0 t.length = true then (if 32 < st.length - t.length + (topF x (st.drop (st.length - t.length)) lv).length then ([], 9) else (st.take (st.length - t.length) ++ topF x (st.drop (st.length - t.length)) lv, 0)) else ([], 10)) := by
      rw [stack_Step.j0, if_neg (by decide), if_pos (by omega), if_pos (by omega)]
      have := step_l0 st lv t (st.drop (st.length - t.length)) (st.length - t.length) x y z hst (by omega) (by simp; omega) (by omega) h3 h4 t.length 0 k (by omega) (by omega) (by omega)
      rw [show ((st.length - t.length : Nat) : Int) = (st.length : Int) - (t.length : Int) by omega] at this
      rw [show ((st.length : Int) - (t.length : Int)).toNat = st.length - t.length by omega]
      exact this
    by_cases b : x = 34
    · rw [if_pos b]
      by_cases c : 0 < st.length
      · rw [decide_eq_true (by omega), if_pos ⟨b, c⟩, stack_Step.j0, if_pos rfl]
      · rw [decide_eq_false (by omega), if_neg (fun e => c e.2), main]
    · rw [if_neg b, if_neg (fun e => b e.1), main]
  · rw [if_neg h, if_neg h]
theorem few15 (X : S43) : ∃ b, ladderbacklaw15_Few.f X.f0 X.f1 X.f2 X.f3 X.f4 = some b ∧ (b = true → X.f1.length ≤ 20 ∧ X.f3.length ≤ 1100 ∧ X.f4.length ≤ 300) := by
  unfold ladderbacklaw15_Few.f
  by_cases h1 : (X.f0.size : Int) ≤ 300
  · rw [if_pos h1]
    by_cases h2 : (X.f1.length : Int) ≤ 20
    · rw [if_pos h2]
      by_cases h3 : (X.f3.length : Int) ≤ 1100
      · rw [if_pos h3]
        exact ⟨_, rfl, fun h => by simp at h; omega⟩
      · rw [if_neg h3]; exact ⟨_, rfl, fun h => by cases h⟩
    · rw [if_neg h2]; exact ⟨_, rfl, fun h => by cases h⟩
  · rw [if_neg h1]; exact ⟨_, rfl, fun h => by cases h⟩
theorem rd_unit_at (U : LU) (j : Nat) (h : j < U.length) : rd_T43 U (j : Int) = U[j] := by
  unfold rd_T43
  rw [Int.toNat_natCast, List.getD_eq_getElem?_getD, List.getElem?_eq_getElem h]; rfl
theorem few_l2 (C : LC) (V : LV) (B : LB) (U : LU) (hl : U.length ≤ 10) : ∀ m j : Nat, j + m = U.length → ∃ b, (∀ k, m + 1 ≤ k → ladderbacklaw16_Few.l2 k (j : Int) C V B U = some b) ∧ (b = true → ∀ i (hi : i < U.length), j ≤ i → U[i].f1.length ≤ 20 ∧ U[i].f3.length ≤ 1100 ∧ U[i].f4.length ≤ 300) := by
  intro m
  induction m with
  | zero =>
    intro j hj
    refine ⟨true, fun k hk => ?_, fun _ i hi h => by omega⟩
    obtain ⟨k, rfl⟩ : ∃ m, k = m + 1 := ⟨k - 1, by omega⟩
    rw [ladderbacklaw16_Few.l2, if_neg (by omega)]
  | succ m ih =>
    intro j hj
    have hlt : j < U.length := by omega
    obtain ⟨b1, e1, f1⟩ := few15 U[j]
    obtain ⟨b2, e2, f2⟩ := ih (j + 1) (by omega)
    refine ⟨b1 && b2, fun k hk => ?_, fun h i hi hji => ?_⟩
    · obtain ⟨k, rfl⟩ : ∃ m, k = m + 1 := ⟨k - 1, by omega⟩
      rw [ladderbacklaw16_Few.l2, if_pos (by omega), if_pos (by omega), rd_unit_at U j hlt, e1, Option.bind_some]
      cases b1 with
      | true => rw [if_pos rfl, w64 _ (by omega) (by omega)]; exact e2 k (by omega)
      | false => rfl
    · rw [Bool.and_eq_true] at h
      rcases Nat.lt_or_ge j i with h1 | h1
      · exact f2 h.2 i hi h1
      · obtain rfl : i = j := by omega
        exact f1 h.1
theorem few_l1 (C : LC) (V : LV) (B : LB) (U : LU) (hl : U.length ≤ 10) (hB : B.length ≤ 40) : ∀ m j : Nat, j + m = B.length → ∃ b, (∀ k, m + 20 ≤ k → ladderbacklaw16_Few.l1 k (j : Int) C V B U = some b) ∧ (b = true → Ok U) := by
  intro m
  induction m with
  | zero =>
    intro j hj
    obtain ⟨b, e, f⟩ := few_l2 C V B U hl U.length 0 (by omega)
    refine ⟨b, fun k hk => ?_, fun h X hX => ?_⟩
    · obtain ⟨k, rfl⟩ : ∃ m, k = m + 1 := ⟨k - 1, by omega⟩
      rw [ladderbacklaw16_Few.l1, if_neg (by omega)]
      exact e k (by omega)
    · obtain ⟨i, hi, rfl⟩ := List.getElem_of_mem hX
      exact f h i hi (Nat.zero_le _)
  | succ m ih =>
    intro j hj
    obtain ⟨b2, e2, f2⟩ := ih (j + 1) (by omega)
    by_cases hs : (((rd_T39 B (j : Int)).f0).size : Int) > 300
    · refine ⟨false, fun k hk => ?_, fun h => by cases h⟩
      obtain ⟨k, rfl⟩ : ∃ m, k = m + 1 := ⟨k - 1, by omega⟩
      rw [ladderbacklaw16_Few.l1, if_pos (by omega), if_pos (by omega), if_pos hs]
    · refine ⟨b2, fun k hk => ?_, f2⟩
      obtain ⟨k, rfl⟩ : ∃ m, k = m + 1 := ⟨k - 1, by omega⟩
      rw [ladderbacklaw16_Few.l1, if_pos (by omega), if_pos (by omega), if_neg hs, w64 _ (by omega) (by omega)]
      exact e2 k (by omega)
theorem few_l0 (C : LC) (V : LV) (B : LB) (U : LU) (hl : U.length ≤ 10) (hB : B.length ≤ 40) (hV : V.length ≤ 70) : ∀ m j : Nat, j + m = V.length → ∃ b, (∀ k, m + 70 ≤ k → ladderbacklaw16_Few.l0 k (j : Int) C V B U = some b) ∧ (b = true → Ok U) := by
  intro m
  induction m with
  | zero =>
    intro j hj
    obtain ⟨b, e, f⟩ := few_l1 C V B U hl hB B.length 0 (by omega)
    refine ⟨b, fun k hk => ?_, f⟩
    obtain ⟨k, rfl⟩ : ∃ m, k = m + 1 := ⟨k - 1, by omega⟩
    rw [ladderbacklaw16_Few.l0, if_neg (by omega)]
    exact e k (by omega)
  | succ m ih =>
    intro j hj
    obtain ⟨b2, e2, f2⟩ := ih (j + 1) (by omega)
    by_cases hs : (((rd_T37 V (j : Int)).f0).size : Int) > 300
    · refine ⟨false, fun k hk => ?_, fun h => by cases h⟩
      obtain ⟨k, rfl⟩ : ∃ m, k = m + 1 := ⟨k - 1, by omega⟩
      rw [ladderbacklaw16_Few.l0, if_pos (by omega), if_pos (by omega), if_pos hs]
    · refine ⟨b2, fun k hk => ?_, f2⟩
      obtain ⟨k, rfl⟩ : ∃ m, k = m + 1 := ⟨k - 1, by omega⟩
      rw [ladderbacklaw16_Few.l0, if_pos (by omega), if_pos (by omega), if_neg hs, w64 _ (by omega) (by omega)]
      exact e2 k (by omega)
theorem few_is (C : LC) (V : LV) (B : LB) (U : LU) : ∃ b, (∀ k, 200 ≤ k → ladderbacklaw16_Few.f k C V B U = some b) ∧ (b = true → Ok U ∧ U.length ≤ 10) := by
  have hj : ∀ k, 1 ≤ k → ladderbacklaw16_Few.j0 k true C V B U = some false := fun k hk => by
    obtain ⟨k, rfl⟩ : ∃ m, k = m + 1 := ⟨k - 1, by omega⟩
    rw [ladderbacklaw16_Few.j0, if_pos rfl]
  by_cases h1 : (C.length : Int) > 60
  · exact ⟨false, fun k hk => by unfold ladderbacklaw16_Few.f; rw [if_pos h1]; exact hj k (by omega), fun h => by cases h⟩
  by_cases h2 : (V.length : Int) > 70
  · exact ⟨false, fun k hk => by unfold ladderbacklaw16_Few.f; rw [if_neg h1, if_pos h2]; exact hj k (by omega), fun h => by cases h⟩
  by_cases h3 : (B.length : Int) > 40
  · exact ⟨false, fun k hk => by unfold ladderbacklaw16_Few.f; rw [if_neg h1, if_neg h2, if_pos h3]; exact hj k (by omega), fun h => by cases h⟩
  by_cases h4 : (U.length : Int) > 10
  · exact ⟨false, fun k hk => by unfold ladderbacklaw16_Few.f; rw [if_neg h1, if_neg h2, if_neg h3, decide_eq_true h4]; exact hj k (by omega), fun h => by cases h⟩
  obtain ⟨b, e, f⟩ := few_l0 C V B U (by omega) (by omega) (by omega) V.length 0 (by omega)
  refine ⟨b, fun k hk => ?_, fun h => ⟨f h, by omega⟩⟩
  obtain ⟨k, rfl⟩ : ∃ m, k = m + 1 := ⟨k - 1, by omega⟩
  unfold ladderbacklaw16_Few.f
  rw [if_neg h1, if_neg h2, if_neg h3, decide_eq_false h4, ladderbacklaw16_Few.j0, if_neg (by decide)]
  exact e k (by omega)
theorem ints_l0 (a : List Int) (ha : a.length ≤ 1000) : ∀ m i k : Nat, i + m = a.length → m < k → ladderbackref15_Ints.l0 k a a (i : Int) = some true := by
  intro m
  induction m with
  | zero =>
    intro i k h1 h2
    obtain ⟨k, rfl⟩ : ∃ m, k = m + 1 := ⟨k - 1, by omega⟩
    rw [ladderbackref15_Ints.l0, if_neg (by omega)]
  | succ m ih =>
    intro i k h1 h2
    obtain ⟨k, rfl⟩ : ∃ m, k = m + 1 := ⟨k - 1, by omega⟩
    have := ih (i + 1) k (by omega) (by omega)
    rw [ladderbackref15_Ints.l0, if_pos (by omega), if_pos (by omega), if_pos (by omega), if_pos rfl, w64 _ (by omega) (by omega)]
    exact this
theorem ints_is (a b : List Int) (h : a = b) (ha : a.length ≤ 1000) (k : Nat) (hk : a.length < k) : ladderbackref15_Ints.f k a b = some true := by
  subst h
  unfold ladderbackref15_Ints.f
  rw [if_pos rfl]
  exact ints_l0 a ha a.length 0 k (by omega) hk
theorem awake_at (k : Nat) (hk : 30 ≤ k) : ladderbacklaw19_awake.f k = some true := by
  unfold ladderbacklaw19_awake.f
  rw [if_pos (by decide), step_is [] [] [] (List.replicate 1 z43) (fun X hX => by rw [List.eq_of_mem_replicate hX]; decide) 0 22 2 0 [6, 2, 2] (by decide) k hk]
  decide +kernel
end Go.Proofs.YthdlocigijiobaaDoor.RPure
end

section
/- Printed by a program of this session (wip/pg.py, over the print of the kit): functions, their Lean twins, and the proofs that the calls come to them; each under the conditions that it names. -/
namespace Go.Proofs.YthdlocigijiobaaDoor.PSk
open Go.Proofs.YthdlocigijiobaaDoor.Given
open Go.RowKit Go.Proofs.YthdlocigijiobaaDoorW.PrintWords Go.Proofs.YthdlocigijiobaaDoorW.PrintLast Go.Proofs.YthdlocigijiobaaDoorW.PrintMore
attribute [local go_sem] max2_int min2_int max_two min_two max_three min_three max_four min_four   -- for this text's walks alone
set_option linter.unusedVariables false
set_option linter.unusedSimpArgs false

/-! ### ladderbackref07_Result: function 28 -/
def ladderbackref07_Result.f (k : Nat) (a0 : Int) (a1 : Int) : Option (Int) := (ladderbackref07_Goes.f k a0 a1).bind fun t328 => (if t328 = true then (if a0 ≥ 20 then (some 1) else (some a1)) else (some 0))
set_option maxHeartbeats 8000000 in
set_option maxRecDepth 100000 in
theorem ladderbackref07_Result.calls (k : Nat) (a0 : Int) (a1 : Int) (r : Int) (w : World) (h : ladderbackref07_Result.f k a0 a1 = some r) :
  Calls Tryd.prog 28 #[.int .i64 a0, .int .i64 a1] w fun e w' => e = .returned (.int .i64 r) ∧ Drawn0 w w' := by
 have H : ((ladderbackref07_Goes.f k a0 a1).bind fun t328 => (if t328 = true then (if a0 ≥ 20 then (some 1) else (some a1)) else (some 0))) = some r := h
 clear h
 replace H := Option.bind_eq_some_iff.mp H
 obtain ⟨t328, A30, H⟩ := H
 replace H : (if t328 = true then (if a0 ≥ 20 then (some 1) else (some a1)) else (some 0)) = some r := H
 have A3 := Aside0.mk A30
 clear A30
 by_cases c4 : t328 = true
 ·subst c4
  have H1 : (if a0 ≥ 20 then (some 1) else (some a1)) = some r := by rw [if_pos rfl] at H; exact H
  clear H
  have H := H1
  clear H1
  by_cases c5 : a0 ≥ 20
  ·rw [if_pos c5] at H
   have c5b0 : decide (20 ≤ a0) = true := decide_eq_true c5
   clear c5
   obtain rfl := Option.some.inj H
   go_enter Tryd.func28, Tryd.ntmps28
   go_wp2_with (first | ((with_reducible refine gate_callee (f := 25) rfl ?_); refine goesL_ (some 7) rfl rfl Tryd.func25 (by kernel_rfl) rfl #[.int .i64 a0, .int .i64 a1] rfl (by (try simp only [List.map_toArray, List.map_cons, List.map_nil]); first | done | rfl | (simp only [List.length_drop, List.length_take]; rfl)) ?_; (with_reducible refine (ladderbackref07_Goes.calls k a0 a1 true _ A3.out).mono ?_); rintro e w' ⟨rfl, ⟨nd, rfl⟩⟩; refine ⟨_, rfl, ?_⟩))
   go_ret
   exact ⟨by first | rfl | (simp; done) | (simp [*]; done), by repeat (first | exact Drawn0.refl _ | apply Drawn0.step)⟩
  ·rw [if_neg c5] at H
   have c5b0 : decide (20 ≤ a0) = false := decide_eq_false c5
   clear c5
   obtain rfl := Option.some.inj H
   go_enter Tryd.func28, Tryd.ntmps28
   go_wp2_with (first | ((with_reducible refine gate_callee (f := 25) rfl ?_); refine goesL_ (some 7) rfl rfl Tryd.func25 (by kernel_rfl) rfl #[.int .i64 a0, .int .i64 a1] rfl (by (try simp only [List.map_toArray, List.map_cons, List.map_nil]); first | done | rfl | (simp only [List.length_drop, List.length_take]; rfl)) ?_; (with_reducible refine (ladderbackref07_Goes.calls k a0 a1 true _ A3.out).mono ?_); rintro e w' ⟨rfl, ⟨nd, rfl⟩⟩; refine ⟨_, rfl, ?_⟩))
   go_ret
   exact ⟨by first | rfl | (simp; done) | (simp [*]; done), by repeat (first | exact Drawn0.refl _ | apply Drawn0.step)⟩
 ·replace c4 := Bool.eq_false_iff.mpr c4
  subst c4
  have H1 : (some 0) = some r := by rw [if_neg (show ¬ (false = true) by decide)] at H; exact H
  clear H
  have H := H1
  clear H1
  obtain rfl := Option.some.inj H
  go_enter Tryd.func28, Tryd.ntmps28
  go_wp2_with (first | ((with_reducible refine gate_callee (f := 25) rfl ?_); refine goesL_ (some 7) rfl rfl Tryd.func25 (by kernel_rfl) rfl #[.int .i64 a0, .int .i64 a1] rfl (by (try simp only [List.map_toArray, List.map_cons, List.map_nil]); first | done | rfl | (simp only [List.length_drop, List.length_take]; rfl)) ?_; (with_reducible refine (ladderbackref07_Goes.calls k a0 a1 false _ A3.out).mono ?_); rintro e w' ⟨rfl, ⟨nd, rfl⟩⟩; refine ⟨_, rfl, ?_⟩))
  go_ret
  exact ⟨by first | rfl | (simp; done) | (simp [*]; done), by repeat (first | exact Drawn0.refl _ | apply Drawn0.step)⟩

end Go.Proofs.YthdlocigijiobaaDoor.PSk
end

section
/- What an instruction takes and leaves, plainly: the document's answer is the program's. -/
namespace Go.Proofs.YthdlocigijiobaaDoor.RPure
open Go.RowKit Go.Proofs.YthdlocigijiobaaDoor.PSk Go.Proofs.YthdlocigijiobaaDoor.Given Go.Proofs.YthdlocigijiobaaDoorW.PrintWords Go.Proofs.YthdlocigijiobaaDoorW.PrintLast Go.Proofs.YthdlocigijiobaaDoorW.PrintMore
set_option linter.unusedVariables false
set_option linter.unusedSimpArgs false
theorem one_typed {C : LC} {V : LV} {B : LB} {U : LU} {u x y z : Int} (h : oneF C V B U u x y z = 0) : typedF x y z = true := by
  unfold oneF at h
  split at h
  · omega
  · split at h
    · split at h
      · assumption
      · omega
    · omega
theorem one_goes {C : LC} {V : LV} {B : LB} {U : LU} {u y z : Int} {n : Nat} (h : oneF C V B U u (n : Int) y z = 0) (h8 : 8 ≤ n) (h25 : n ≤ 25) : goesOf (n : Int) y = true := by
  have := one_typed h
  unfold typedF at this
  rw [if_neg (by omega), if_pos ((shape4 n (by omega)).2 ⟨h8, by omega⟩)] at this
  exact this
/-- An operation with a type. -/
def tyT (n : Nat) (y : Int) : List Int := if n = 13 ∨ n = 17 then [y] else if n = 18 ∨ n = 19 then [y, 2] else [y, y]
theorem typed_ref (n : Nat) (y z : Int) (h8 : 8 ≤ n) (h25 : n ≤ 25) (hg : goesOf (n : Int) y = true) : stack_typed.f (n : Int) y z = some (tyT n y, [if 20 ≤ n then 1 else y]) := by
  unfold stack_typed.f tyT
  rw [if_neg (by omega)]
  by_cases b : n = 18 ∨ n = 19
  · rw [if_pos (by omega), if_neg (by omega), if_pos b, if_neg (by omega)]
  · rw [if_neg (by omega), bin_is (n : Int) (by omega) (by omega), Option.bind_some]
    by_cases c : n = 13 ∨ n = 17
    · rw [if_neg (by simp; omega), if_pos c, if_neg (by omega)]
    · rw [if_pos (by simp; omega), res_is (n : Int) y (by omega) (by omega), Option.bind_some, if_neg c, if_neg b]
      unfold resF
      rw [if_pos hg]
      by_cases d : 20 ≤ n
      · rw [if_pos (by omega), if_pos d]
      · rw [if_neg (by omega), if_neg d]
theorem result_ref (n : Nat) (y : Int) (h8 : 8 ≤ n) (h25 : n ≤ 25) (hg : goesOf (n : Int) y = true) (k : Nat) (hk : 8 ≤ k) : ladderbackref07_Result.f k (n : Int) y = some (if 20 ≤ n then 1 else y) := by
  unfold ladderbackref07_Result.f
  rw [rgoes (n : Int) y k hk (by omega) (by omega), Option.bind_some, if_pos hg]
  by_cases d : 20 ≤ n
  · rw [if_pos (by omega), if_pos d]
  · rw [if_neg (by omega), if_neg d]
/-- The same, over whole numbers. -/
def tyI (x y : Int) : List Int := if x = 13 ∨ x = 17 then [y] else if x = 18 ∨ x = 19 then [y, 2] else [y, y]
theorem eff_ty {C : LC} {V : LV} {B : LB} {U : LU} {u x y z : Int} (h : oneF C V B U u x y z = 0) (h8 : 8 ≤ x) (h25 : x ≤ 25) : stack_effect.f C V B U u x y z = some (tyI x y, [if 20 ≤ x then 1 else y]) := by
  obtain ⟨n, rfl⟩ := Int.eq_ofNat_of_zero_le (show 0 ≤ x by omega)
  have hg := one_goes h (by omega) (by omega)
  unfold stack_effect.f
  rw [if_pos ((shape4 n (by omega)).2 ⟨by omega, by omega⟩), typed_ref n y z (by omega) (by omega) hg]
  unfold tyT tyI
  congr 2
  · by_cases a : n = 13 ∨ n = 17
    · rw [if_pos a, if_pos (by omega)]
    · rw [if_neg a, if_neg (show ¬ ((n : Int) = 13 ∨ (n : Int) = 17) by omega)]
      by_cases b : n = 18 ∨ n = 19
      · rw [if_pos b, if_pos (by omega)]
      · rw [if_neg b, if_neg (by omega)]
  · by_cases d : 20 ≤ n
    · rw [if_pos d, if_pos (by omega)]
    · rw [if_neg d, if_neg (by omega)]
theorem result_ty {C : LC} {V : LV} {B : LB} {U : LU} {u x y z : Int} (h : oneF C V B U u x y z = 0) (h8 : 8 ≤ x) (h25 : x ≤ 25) : ladderbackref07_Result.f 8 x y = some (if 20 ≤ x then 1 else y) := by
  obtain ⟨n, rfl⟩ := Int.eq_ofNat_of_zero_le (show 0 ≤ x by omega)
  rw [result_ref n y (by omega) (by omega) (one_goes h (by omega) (by omega)) 8 (by omega)]
  by_cases d : 20 ≤ n
  · rw [if_pos d, if_pos (by omega)]
  · rw [if_neg d, if_neg (by omega)]
theorem eff_call {C : LC} {V : LV} {B : LB} {U : LU} {u y z : Int} {r1 r2 : List Int} (h : stack_effect.f C V B U u 33 y z = some (r1, r2)) : (0 ≤ y ∧ y < (U.length : Int)) ∧ (rd_T43 U y).f1 = r1 ∧ (if (rd_T43 U y).f2 = 0 then [] else [(rd_T43 U y).f2]) = r2 := by
  unfold stack_effect.f at h
  rw [if_neg (fun e => by have := (shape4 33 (by omega)).1 e; omega)] at h
  simp at h
  obtain ⟨h0, h1, h2⟩ := h
  exact ⟨⟨h0.1, h0.2.1⟩, h1, h2⟩
theorem eff_nil1 {C : LC} {V : LV} {B : LB} {U : LU} {u x y z : Int} {r1 r2 : List Int} (h : stack_effect.f C V B U u x y z = some (r1, r2)) (hx : x = 0 ∨ x = 1 ∨ x = 2 ∨ x = 4 ∨ x = 30 ∨ x = 34 ∨ x = 36 ∨ x = 37) : r1 = [] := by
  unfold stack_effect.f at h
  rcases hx with rfl | rfl | rfl | rfl | rfl | rfl | rfl | rfl
  all_goals rw [if_neg (by decide)] at h
  all_goals simp at h
  all_goals first | exact h.1 | exact h.2.1 | (obtain ⟨t, _, h1⟩ := Option.bind_eq_some_iff.1 h; cases h1; rfl) | simp_all
theorem eff_nil2 {C : LC} {V : LV} {B : LB} {U : LU} {u x y z : Int} {r1 r2 : List Int} (h : stack_effect.f C V B U u x y z = some (r1, r2)) (hx : x = 0 ∨ x = 3 ∨ x = 5 ∨ x = 7 ∨ x = 28 ∨ x = 30 ∨ x = 31 ∨ x = 32 ∨ x = 34 ∨ x = 35 ∨ x = 36) : r2 = [] := by
  unfold stack_effect.f at h
  rcases hx with rfl | rfl | rfl | rfl | rfl | rfl | rfl | rfl | rfl | rfl | rfl
  all_goals rw [if_neg (by decide)] at h
  all_goals simp at h
  all_goals first | exact h.2 | exact h.2.2 | (obtain ⟨t, _, h1⟩ := Option.bind_eq_some_iff.1 h; cases h1; rfl) | simp_all
end Go.Proofs.YthdlocigijiobaaDoor.RPure
end
