/- ref17.Tables, walked by hand: whether any variables and blocks are right. -/
import Derived.Test.YtamajfcjcfkkjaaZStateFitsab
import Derived.Test.YtamajfcjcfkkjaaZStateFitsaf
section
/- Printed by a program of this session (wip/pg.py, over the print of the kit): functions, their Lean twins, and the proofs that the calls come to them; each under the conditions that it names. -/
namespace Go.Proofs.Ytamajfcjcfkkjaa.PSt
open Go.RowKit Go.Proofs.YtamajfcjcfkkjaaW.PrintWords Go.Proofs.YtamajfcjcfkkjaaW.PrintLast Go.Proofs.YtamajfcjcfkkjaaW.PrintMore
attribute [local go_sem] max2_int min2_int max_two min_two max_three min_three max_four min_four   -- for this text's walks alone
set_option linter.unusedVariables false
set_option linter.unusedSimpArgs false

/-! ### ladderbackref23_Fits: function 26 -/
mutual
def ladderbackref23_Fits.j0 : Nat → List (S60) → Bool → List (List Int) → List (S69) → Int → Int → Option (Bool)
  | 0, _, _, _, _, _, _ => none
  | k + 1, x0, x42, x284000, x284001, x284002, x284003 => if x42 = true then (some false) else (ladderbackref23_Fits.l0 k x0 0 x284000 x284001 x284002 x284003)
def ladderbackref23_Fits.l0 : Nat → List (S60) → Int → List (List Int) → List (S69) → Int → Int → Option (Bool)
  | 0, _, _, _, _, _, _ => none
  | k + 1, x0, x7, x284000, x284001, x284002, x284003 => if x7 < (x0.length : Int) then (if 0 ≤ x7 then (if x7 < (x284000.length : Int) then (if ((rd_L1 x284000 x7).length : Int) = ((rd_T60 x0 x7).f2) then (ladderbackref23_Fits.l1 k x0 x7 0 x284000 x284001 x284002 x284003) else (some false)) else (none)) else (none)) else (some true)
def ladderbackref23_Fits.l1 : Nat → List (S60) → Int → Int → List (List Int) → List (S69) → Int → Int → Option (Bool)
  | 0, _, _, _, _, _, _, _ => none
  | k + 1, x0, x7, x8, x284000, x284001, x284002, x284003 => if 0 ≤ x7 then (if x7 < (x284000.length : Int) then (if x8 < ((rd_L1 x284000 x7).length : Int) then (if x7 < (x0.length : Int) then ((ladderbackref01_Right.f ((rd_T60 x0 x7).f1)).bind fun t288 => (if t288 = true then (if 0 ≤ x8 then ((ladderbackref01_In.f ((rd_T60 x0 x7).f1) (rd (rd_L1 x284000 x7) x8)).bind fun t292 => (if t292 = true then (ladderbackref23_Fits.l1 k x0 x7 (wrap64 (x8 + 1)) x284000 x284001 x284002 x284003) else (some false))) else (none)) else (some false))) else (none)) else (ladderbackref23_Fits.l0 k x0 (wrap64 (x7 + 1)) x284000 x284001 x284002 x284003)) else (none)) else (none)
end
def ladderbackref23_Fits.f (k : Nat) (l0 : List (S60)) (l1 : List (S62)) (l2_0 : List (List Int)) (l2_1 : List (S69)) (a2_2 : Int) (a2_3 : Int) : Option (Bool) := if (l2_0.length : Int) = (l0.length : Int) then (if (l2_1.length : Int) = (l1.length : Int) then (if a2_2 < 0 then (ladderbackref23_Fits.j0 k l0 true l2_0 l2_1 a2_2 a2_3) else (if a2_2 > 1099511627776 then (ladderbackref23_Fits.j0 k l0 true l2_0 l2_1 a2_2 a2_3) else (if a2_3 < 0 then (ladderbackref23_Fits.j0 k l0 true l2_0 l2_1 a2_2 a2_3) else (ladderbackref23_Fits.j0 k l0 (decide (a2_3 > 3)) l2_0 l2_1 a2_2 a2_3)))) else (ladderbackref23_Fits.j0 k l0 true l2_0 l2_1 a2_2 a2_3)) else (ladderbackref23_Fits.j0 k l0 true l2_0 l2_1 a2_2 a2_3)
set_option maxHeartbeats 8000000 in
set_option maxRecDepth 100000 in
theorem ladderbackref23_Fits.calls (k : Nat) (A0 : Option Addr) (c0 : Nat) (l0 : List (S60)) (A1 : Option Addr) (c1 : Nat) (l1 : List (S62)) (A2_0 : Option Addr) (c2_0 : Nat) (l2_0 : List (List Int)) (A2_1 : Option Addr) (c2_1 : Nat) (l2_1 : List (S69)) (a2_2 : Int) (a2_3 : Int) (r : Bool) (w : World) (hr0 : Kd.C k60 w A0 l0.length l0) (hc0 : l0.length ≤ c0) (hr1 : Kd.C k62 w A1 l1.length l1) (hc1 : l1.length ≤ c1) (hr2_0 : Kd.C (Kd.slice 3 (Kd.int .i64)) w A2_0 l2_0.length l2_0) (hc2_0 : l2_0.length ≤ c2_0) (hr2_1 : Kd.C k69 w A2_1 l2_1.length l2_1) (hc2_1 : l2_1.length ≤ c2_1) (h : ladderbackref23_Fits.f k l0 l1 l2_0 l2_1 a2_2 a2_3 = some r) :
    Calls Try.prog 26 #[.slice A0 l0.length c0, .slice A1 l1.length c1, .agg #[.slice A2_0 l2_0.length c2_0, .slice A2_1 l2_1.length c2_1, .int .i64 a2_2, .int .i64 a2_3]] w fun e w' => e = .returned (.bool r) ∧ Below w.heap.size w w' := by
  have hu31 := Try.underlying31
  have HR0 := Aside0.mk hr0
  have HC0 := Aside0.mk hc0
  clear hr0 hc0
  have HR1 := Aside0.mk hr1
  have HC1 := Aside0.mk hc1
  clear hr1 hc1
  have HR2_0 := Aside0.mk hr2_0
  have HC2_0 := Aside0.mk hc2_0
  clear hr2_0 hc2_0
  have HR2_1 := Aside0.mk hr2_1
  have HC2_1 := Aside0.mk hc2_1
  clear hr2_1 hc2_1
  have HB := Aside0.mk (Below.refl w.heap.size w)
  have H : (if (l2_0.length : Int) = (l0.length : Int) then (if (l2_1.length : Int) = (l1.length : Int) then (if a2_2 < 0 then (ladderbackref23_Fits.j0 k l0 true l2_0 l2_1 a2_2 a2_3) else (if a2_2 > 1099511627776 then (ladderbackref23_Fits.j0 k l0 true l2_0 l2_1 a2_2 a2_3) else (if a2_3 < 0 then (ladderbackref23_Fits.j0 k l0 true l2_0 l2_1 a2_2 a2_3) else (ladderbackref23_Fits.j0 k l0 (decide (a2_3 > 3)) l2_0 l2_1 a2_2 a2_3)))) else (ladderbackref23_Fits.j0 k l0 true l2_0 l2_1 a2_2 a2_3)) else (ladderbackref23_Fits.j0 k l0 true l2_0 l2_1 a2_2 a2_3)) = some r := h
  clear h
  have HC4 := Aside0.mk H
  clear H
  go_enter Try.func26, Try.ntmps26
  go_upto_region 1 with (first | ((with_reducible refine gate_dst (N := 5) rfl ?_); (try (refine gate_guard (by rfl) ?_; dsimp only)); refine box_event ?hg (N := 5) ?hd (cs := #[.slice A2_0 l2_0.length c2_0, .slice A2_1 l2_1.length c2_1, .int .i64 a2_2, .int .i64 a2_3]) (t := 31) ?hr ?_; (case hd => rfl); (case hg => rfl); (case hr => first | (go_simp; done) | (go_simp; rfl)); intro gb283 hg w5 hbox hb; have n0_ := Aside0.mk (below_step (by repeat (first | (with_reducible first | exact HB.out | apply below_alloc | apply pw_below_drewN | apply below_drew1) | exact HB.out)) hb); have n1_ := Aside0.mk (hbox); have n2_ := Aside0.mk ((by rw [hg]; exact (below_size (by repeat (first | (with_reducible first | exact HB.out | apply below_alloc | apply pw_below_drewN | apply below_drew1) | exact HB.out))) : w.heap.size ≤ gb283)); have n3_ := Aside0.mk ((by rw [hg]; exact (below_size (by repeat (first | (with_reducible first | exact HB.out | apply below_alloc | apply pw_below_drewN | apply below_drew1) | exact HB.out))) : w.heap.size ≤ gb283)); clear HB; have HB := n0_; have BK283 := n1_; have GW283 := n2_; have GE283 := n3_; clear n0_ n1_ n2_ n3_; clear hb hbox hg))
  repeat (go_quiet (first | ((with_reducible refine gate_dst (N := 5) rfl ?_); (try (refine gate_guard (by rfl) ?_; dsimp only)); refine box_event ?hg (N := 5) ?hd (cs := #[.slice A2_0 l2_0.length c2_0, .slice A2_1 l2_1.length c2_1, .int .i64 a2_2, .int .i64 a2_3]) (t := 31) ?hr ?_; (case hd => rfl); (case hg => rfl); (case hr => first | (go_simp; done) | (go_simp; rfl)); intro gb283 hg w5 hbox hb; have n0_ := Aside0.mk (below_step (by repeat (first | (with_reducible first | exact HB.out | apply below_alloc | apply pw_below_drewN | apply below_drew1) | exact HB.out)) hb); have n1_ := Aside0.mk (hbox); have n2_ := Aside0.mk ((by rw [hg]; exact (below_size (by repeat (first | (with_reducible first | exact HB.out | apply below_alloc | apply pw_below_drewN | apply below_drew1) | exact HB.out))) : w.heap.size ≤ gb283)); have n3_ := Aside0.mk ((by rw [hg]; exact (below_size (by repeat (first | (with_reducible first | exact HB.out | apply below_alloc | apply pw_below_drewN | apply below_drew1) | exact HB.out))) : w.heap.size ≤ gb283)); clear HB; have HB := n0_; have BK283 := n1_; have GW283 := n2_; have GE283 := n3_; clear n0_ n1_ n2_ n3_; clear hb hbox hg)); go_upto_region 1 with (first | ((with_reducible refine gate_dst (N := 5) rfl ?_); (try (refine gate_guard (by rfl) ?_; dsimp only)); refine box_event ?hg (N := 5) ?hd (cs := #[.slice A2_0 l2_0.length c2_0, .slice A2_1 l2_1.length c2_1, .int .i64 a2_2, .int .i64 a2_3]) (t := 31) ?hr ?_; (case hd => rfl); (case hg => rfl); (case hr => first | (go_simp; done) | (go_simp; rfl)); intro gb283 hg w5 hbox hb; have n0_ := Aside0.mk (below_step (by repeat (first | (with_reducible first | exact HB.out | apply below_alloc | apply pw_below_drewN | apply below_drew1) | exact HB.out)) hb); have n1_ := Aside0.mk (hbox); have n2_ := Aside0.mk ((by rw [hg]; exact (below_size (by repeat (first | (with_reducible first | exact HB.out | apply below_alloc | apply pw_below_drewN | apply below_drew1) | exact HB.out))) : w.heap.size ≤ gb283)); have n3_ := Aside0.mk ((by rw [hg]; exact (below_size (by repeat (first | (with_reducible first | exact HB.out | apply below_alloc | apply pw_below_drewN | apply below_drew1) | exact HB.out))) : w.heap.size ≤ gb283)); clear HB; have HB := n0_; have BK283 := n1_; have GW283 := n2_; have GE283 := n3_; clear n0_ n1_ n2_ n3_; clear hb hbox hg)))
  (try simp only [Act.put, List.setIfInBounds_toArray, List.set_cons_zero, List.set_cons_succ])
  go_cut [42] (fun v42 wc => ∃ (kq : Nat) (x42_3 : Bool), v42 = .bool x42_3 ∧ Aside0 (ladderbackref23_Fits.j0 kq l0 x42_3 l2_0 l2_1 a2_2 a2_3 = some r) ∧ Aside0 (kq ≤ k) ∧ Aside0 (wc.heap[gb283]? = some (.cells #[(.slice A2_0 l2_0.length c2_0), (.slice A2_1 l2_1.length c2_1), .int .i64 a2_2, .int .i64 a2_3] 31 (0, 0))) ∧ Aside0 (Below w.heap.size w wc))
  case first =>
    have H := HC4.out
    clear HC4
    by_cases c6 : (l2_0.length : Int) = (l0.length : Int)
    · rw [if_pos c6] at H
      have c6b0 : ((l2_0.length : Int) == (l0.length : Int)) = true := beq_iff_eq.mpr c6
      have c6b1 : ((l2_0.length : Int) != (l0.length : Int)) = false := bne_eq_false_iff_eq.mpr c6
      have c6b2 : (l2_0.length == l0.length) = true := by first | simpa using c6 | (simp at c6 ⊢; omega)
      clear c6
      (first | rw [c6b0] | (simp only [i64_w, i32_w]; rw [c6b0]) | skip)
      by_cases c7 : (l2_1.length : Int) = (l1.length : Int)
      · rw [if_pos c7] at H
        have c7b0 : ((l2_1.length : Int) == (l1.length : Int)) = true := beq_iff_eq.mpr c7
        have c7b1 : ((l2_1.length : Int) != (l1.length : Int)) = false := bne_eq_false_iff_eq.mpr c7
        have c7b2 : (l2_1.length == l1.length) = true := by first | simpa using c7 | (simp at c7 ⊢; omega)
        clear c7
        by_cases c8 : a2_2 < 0
        · rw [if_pos c8] at H
          have c8b0 : decide (a2_2 < 0) = true := decide_eq_true c8
          clear c8
          have H' := Aside0.mk H
          clear H
          have hcz9_0 : w5.cell? ⟨gb283, 0, none⟩ = some (.slice A2_0 l2_0.length c2_0) := (blk_cell BK283.out 0).trans rfl
          have hcz9_1 : w5.cell? ⟨gb283, 1, none⟩ = some (.slice A2_1 l2_1.length c2_1) := (blk_cell BK283.out 1).trans rfl
          have hcz9_2 : w5.cell? ⟨gb283, 2, none⟩ = some (.int .i64 a2_2) := (blk_cell BK283.out 2).trans rfl
          have hcz9_3 : w5.cell? ⟨gb283, 3, none⟩ = some (.int .i64 a2_3) := (blk_cell BK283.out 3).trans rfl
          have hfz9_0 := blk_frozen BK283.out 0
          have hfz9_1 := blk_frozen BK283.out 1
          have hfz9_2 := blk_frozen BK283.out 2
          have hfz9_3 := blk_frozen BK283.out 3
          go_wp2
          repeat (go_quiet (fail); try go_wp2)
          go_meet
          case rel => exact ⟨_, (true), (by first | rfl | (simp; done) | (simp [*]; done)), H', ⟨by first | omega | exact Nat.le_refl _⟩, ⟨by (with_reducible repeat (first | refine blk_drewN ?_ _ | refine blk_drew ?_ | refine blk_alloc ?_ _)); exact BK283.out⟩, ⟨by repeat (first | (with_reducible first | exact HB.out | apply below_alloc | apply pw_below_drewN | apply below_drew1 | refine below_set ?_ GE283.out) | exact HB.out)⟩⟩
        · rw [if_neg c8] at H
          have c8b0 : decide (a2_2 < 0) = false := decide_eq_false c8
          clear c8
          by_cases c10 : a2_2 > 1099511627776
          · rw [if_pos c10] at H
            have c10b0 : decide (1099511627776 < a2_2) = true := decide_eq_true c10
            clear c10
            have H' := Aside0.mk H
            clear H
            have hcz11_0 : w5.cell? ⟨gb283, 0, none⟩ = some (.slice A2_0 l2_0.length c2_0) := (blk_cell BK283.out 0).trans rfl
            have hcz11_1 : w5.cell? ⟨gb283, 1, none⟩ = some (.slice A2_1 l2_1.length c2_1) := (blk_cell BK283.out 1).trans rfl
            have hcz11_2 : w5.cell? ⟨gb283, 2, none⟩ = some (.int .i64 a2_2) := (blk_cell BK283.out 2).trans rfl
            have hcz11_3 : w5.cell? ⟨gb283, 3, none⟩ = some (.int .i64 a2_3) := (blk_cell BK283.out 3).trans rfl
            have hfz11_0 := blk_frozen BK283.out 0
            have hfz11_1 := blk_frozen BK283.out 1
            have hfz11_2 := blk_frozen BK283.out 2
            have hfz11_3 := blk_frozen BK283.out 3
            go_wp2
            repeat (go_quiet (fail); try go_wp2)
            go_meet
            case rel => exact ⟨_, (true), (by first | rfl | (simp; done) | (simp [*]; done)), H', ⟨by first | omega | exact Nat.le_refl _⟩, ⟨by (with_reducible repeat (first | refine blk_drewN ?_ _ | refine blk_drew ?_ | refine blk_alloc ?_ _)); exact BK283.out⟩, ⟨by repeat (first | (with_reducible first | exact HB.out | apply below_alloc | apply pw_below_drewN | apply below_drew1 | refine below_set ?_ GE283.out) | exact HB.out)⟩⟩
          · rw [if_neg c10] at H
            have c10b0 : decide (1099511627776 < a2_2) = false := decide_eq_false c10
            clear c10
            by_cases c12 : a2_3 < 0
            · rw [if_pos c12] at H
              have c12b0 : decide (a2_3 < 0) = true := decide_eq_true c12
              clear c12
              have H' := Aside0.mk H
              clear H
              have hcz13_0 : w5.cell? ⟨gb283, 0, none⟩ = some (.slice A2_0 l2_0.length c2_0) := (blk_cell BK283.out 0).trans rfl
              have hcz13_1 : w5.cell? ⟨gb283, 1, none⟩ = some (.slice A2_1 l2_1.length c2_1) := (blk_cell BK283.out 1).trans rfl
              have hcz13_2 : w5.cell? ⟨gb283, 2, none⟩ = some (.int .i64 a2_2) := (blk_cell BK283.out 2).trans rfl
              have hcz13_3 : w5.cell? ⟨gb283, 3, none⟩ = some (.int .i64 a2_3) := (blk_cell BK283.out 3).trans rfl
              have hfz13_0 := blk_frozen BK283.out 0
              have hfz13_1 := blk_frozen BK283.out 1
              have hfz13_2 := blk_frozen BK283.out 2
              have hfz13_3 := blk_frozen BK283.out 3
              go_wp2
              repeat (go_quiet (fail); try go_wp2)
              go_meet
              case rel => exact ⟨_, (true), (by first | rfl | (simp; done) | (simp [*]; done)), H', ⟨by first | omega | exact Nat.le_refl _⟩, ⟨by (with_reducible repeat (first | refine blk_drewN ?_ _ | refine blk_drew ?_ | refine blk_alloc ?_ _)); exact BK283.out⟩, ⟨by repeat (first | (with_reducible first | exact HB.out | apply below_alloc | apply pw_below_drewN | apply below_drew1 | refine below_set ?_ GE283.out) | exact HB.out)⟩⟩
            · rw [if_neg c12] at H
              have c12b0 : decide (a2_3 < 0) = false := decide_eq_false c12
              clear c12
              have H' := Aside0.mk H
              clear H
              have hcz14_0 : w5.cell? ⟨gb283, 0, none⟩ = some (.slice A2_0 l2_0.length c2_0) := (blk_cell BK283.out 0).trans rfl
              have hcz14_1 : w5.cell? ⟨gb283, 1, none⟩ = some (.slice A2_1 l2_1.length c2_1) := (blk_cell BK283.out 1).trans rfl
              have hcz14_2 : w5.cell? ⟨gb283, 2, none⟩ = some (.int .i64 a2_2) := (blk_cell BK283.out 2).trans rfl
              have hcz14_3 : w5.cell? ⟨gb283, 3, none⟩ = some (.int .i64 a2_3) := (blk_cell BK283.out 3).trans rfl
              have hfz14_0 := blk_frozen BK283.out 0
              have hfz14_1 := blk_frozen BK283.out 1
              have hfz14_2 := blk_frozen BK283.out 2
              have hfz14_3 := blk_frozen BK283.out 3
              go_wp2
              repeat (go_quiet (fail); try go_wp2)
              go_meet
              case rel => exact ⟨_, (decide (a2_3 > 3)), (by first | rfl | (simp; done) | (simp [*]; done)), H', ⟨by first | omega | exact Nat.le_refl _⟩, ⟨by (with_reducible repeat (first | refine blk_drewN ?_ _ | refine blk_drew ?_ | refine blk_alloc ?_ _)); exact BK283.out⟩, ⟨by repeat (first | (with_reducible first | exact HB.out | apply below_alloc | apply pw_below_drewN | apply below_drew1 | refine below_set ?_ GE283.out) | exact HB.out)⟩⟩
      · rw [if_neg c7] at H
        have c7b0 : ((l2_1.length : Int) == (l1.length : Int)) = false := beq_eq_false_iff_ne.mpr c7
        have c7b1 : ((l2_1.length : Int) != (l1.length : Int)) = true := bne_iff_ne.mpr c7
        have c7b2 : (l2_1.length == l1.length) = false := by first | simpa using c7 | (simp at c7 ⊢; omega)
        have H' := Aside0.mk H
        clear H
        have hcz15_0 : w5.cell? ⟨gb283, 0, none⟩ = some (.slice A2_0 l2_0.length c2_0) := (blk_cell BK283.out 0).trans rfl
        have hcz15_1 : w5.cell? ⟨gb283, 1, none⟩ = some (.slice A2_1 l2_1.length c2_1) := (blk_cell BK283.out 1).trans rfl
        have hcz15_2 : w5.cell? ⟨gb283, 2, none⟩ = some (.int .i64 a2_2) := (blk_cell BK283.out 2).trans rfl
        have hcz15_3 : w5.cell? ⟨gb283, 3, none⟩ = some (.int .i64 a2_3) := (blk_cell BK283.out 3).trans rfl
        have hfz15_0 := blk_frozen BK283.out 0
        have hfz15_1 := blk_frozen BK283.out 1
        have hfz15_2 := blk_frozen BK283.out 2
        have hfz15_3 := blk_frozen BK283.out 3
        go_wp2
        repeat (go_quiet (fail); try go_wp2)
        go_meet
        case rel => exact ⟨_, (true), (by first | rfl | (simp; done) | (simp [*]; done)), H', ⟨by first | omega | exact Nat.le_refl _⟩, ⟨by (with_reducible repeat (first | refine blk_drewN ?_ _ | refine blk_drew ?_ | refine blk_alloc ?_ _)); exact BK283.out⟩, ⟨by repeat (first | (with_reducible first | exact HB.out | apply below_alloc | apply pw_below_drewN | apply below_drew1 | refine below_set ?_ GE283.out) | exact HB.out)⟩⟩
    · rw [if_neg c6] at H
      have c6b0 : ((l2_0.length : Int) == (l0.length : Int)) = false := beq_eq_false_iff_ne.mpr c6
      have c6b1 : ((l2_0.length : Int) != (l0.length : Int)) = true := bne_iff_ne.mpr c6
      have c6b2 : (l2_0.length == l0.length) = false := by first | simpa using c6 | (simp at c6 ⊢; omega)
      (first | rw [c6b0] | (simp only [i64_w, i32_w]; rw [c6b0]) | skip)
      have H' := Aside0.mk H
      clear H
      have hcz16_0 : w5.cell? ⟨gb283, 0, none⟩ = some (.slice A2_0 l2_0.length c2_0) := (blk_cell BK283.out 0).trans rfl
      have hcz16_1 : w5.cell? ⟨gb283, 1, none⟩ = some (.slice A2_1 l2_1.length c2_1) := (blk_cell BK283.out 1).trans rfl
      have hcz16_2 : w5.cell? ⟨gb283, 2, none⟩ = some (.int .i64 a2_2) := (blk_cell BK283.out 2).trans rfl
      have hcz16_3 : w5.cell? ⟨gb283, 3, none⟩ = some (.int .i64 a2_3) := (blk_cell BK283.out 3).trans rfl
      have hfz16_0 := blk_frozen BK283.out 0
      have hfz16_1 := blk_frozen BK283.out 1
      have hfz16_2 := blk_frozen BK283.out 2
      have hfz16_3 := blk_frozen BK283.out 3
      go_wp2
      repeat (go_quiet (fail); try go_wp2)
      go_meet
      case rel => exact ⟨_, (true), (by first | rfl | (simp; done) | (simp [*]; done)), H', ⟨by first | omega | exact Nat.le_refl _⟩, ⟨by (with_reducible repeat (first | refine blk_drewN ?_ _ | refine blk_drew ?_ | refine blk_alloc ?_ _)); exact BK283.out⟩, ⟨by repeat (first | (with_reducible first | exact HB.out | apply below_alloc | apply pw_below_drewN | apply below_drew1 | refine below_set ?_ GE283.out) | exact HB.out)⟩⟩
  case rest =>
    clear HC4
    try clear c1
    try clear c2
    try clear p2
    try clear c6
    try clear c6b0
    try clear c6b1
    try clear c6b2
    try clear c7
    try clear c7b0
    try clear c7b1
    try clear c7b2
    try clear c8
    try clear c8b0
    try clear c10
    try clear c10b0
    try clear c12
    try clear c12b0
    try clear hcz11_0
    try clear hcz11_1
    try clear hcz11_2
    try clear hcz11_3
    try clear hcz13_0
    try clear hcz13_1
    try clear hcz13_2
    try clear hcz13_3
    try clear hcz14_0
    try clear hcz14_1
    try clear hcz14_2
    try clear hcz14_3
    try clear hcz15_0
    try clear hcz15_1
    try clear hcz15_2
    try clear hcz15_3
    try clear hcz16_0
    try clear hcz16_1
    try clear hcz16_2
    try clear hcz16_3
    try clear hcz9_0
    try clear hcz9_1
    try clear hcz9_2
    try clear hcz9_3
    try clear hfz11_0
    try clear hfz11_1
    try clear hfz11_2
    try clear hfz11_3
    try clear hfz13_0
    try clear hfz13_1
    try clear hfz13_2
    try clear hfz13_3
    try clear hfz14_0
    try clear hfz14_1
    try clear hfz14_2
    try clear hfz14_3
    try clear hfz15_0
    try clear hfz15_1
    try clear hfz15_2
    try clear hfz15_3
    try clear hfz16_0
    try clear hfz16_1
    try clear hfz16_2
    try clear hfz16_3
    try clear hfz9_0
    try clear hfz9_1
    try clear hfz9_2
    try clear hfz9_3
    obtain ⟨kq, x42_3, rfl, HA, HJ3, BK283, HB⟩ := hcut
    cases kq with
    | zero => exact absurd HA.out (by simp [ladderbackref23_Fits.j0])
    | succ kj3 =>
      have H := HA.out
      clear HA
      simp only [ladderbackref23_Fits.j0] at H
      by_cases c17 : x42_3 = true
      · subst c17
        have H1 : (some false) = some r := by rw [if_pos rfl] at H; exact H
        clear H
        have H := H1
        clear H1
        obtain rfl := Option.some.inj H
        go_wp2
        repeat (go_quiet (fail); try go_wp2)
        go_ret
        exact ⟨by first | rfl | (simp [errW_none, errW_some] <;> rfl) | (simp [*, errW_none, errW_some] <;> rfl), by repeat (first | (with_reducible first | exact HB.out | apply below_alloc | apply pw_below_drewN | apply below_drew1 | refine below_set ?_ GE283.out) | exact HB.out)⟩
      · replace c17 := Bool.eq_false_iff.mpr c17
        subst c17
        have H1 : (ladderbackref23_Fits.l0 kj3 l0 0 l2_0 l2_1 a2_2 a2_3) = some r := by rw [if_neg (show ¬ (false = true) by decide)] at H; exact H
        clear H
        have H := H1
        clear H1
        have H' := Aside0.mk H
        clear H
        go_wp2
        repeat (go_quiet (fail); try go_wp2)
        go_loopg [7] kj3 (fun kq v7 w' => ∃ (x7_2 : Int), v7 = .int .i64 x7_2 ∧ Aside0 (ladderbackref23_Fits.l0 kq l0 x7_2 l2_0 l2_1 a2_2 a2_3 = some r) ∧ Aside0 (kq ≤ kj3) ∧ Aside0 (w'.heap[gb283]? = some (.cells #[(.slice A2_0 l2_0.length c2_0), (.slice A2_1 l2_1.length c2_1), .int .i64 a2_2, .int .i64 a2_3] 31 (0, 0))) ∧ Aside0 (Below w.heap.size w w'))
        case atStart => exact ⟨(0), (by first | rfl | (simp; done) | (simp [*]; done)), H', ⟨Nat.le_refl _⟩, ⟨by (with_reducible repeat (first | refine blk_drewN ?_ _ | refine blk_drew ?_ | refine blk_alloc ?_ _)); exact BK283.out⟩, ⟨by repeat (first | (with_reducible first | exact HB.out | apply below_alloc | apply pw_below_drewN | apply below_drew1 | refine below_set ?_ GE283.out) | exact HB.out)⟩⟩
        case round =>
          clear H'
          try clear c1
          try clear c2
          try clear p2
          try clear c6
          try clear c6b0
          try clear c6b1
          try clear c6b2
          try clear c7
          try clear c7b0
          try clear c7b1
          try clear c7b2
          try clear c8
          try clear c8b0
          try clear c10
          try clear c10b0
          try clear c12
          try clear c12b0
          try clear c17
          try clear hcz11_0
          try clear hcz11_1
          try clear hcz11_2
          try clear hcz11_3
          try clear hcz13_0
          try clear hcz13_1
          try clear hcz13_2
          try clear hcz13_3
          try clear hcz14_0
          try clear hcz14_1
          try clear hcz14_2
          try clear hcz14_3
          try clear hcz15_0
          try clear hcz15_1
          try clear hcz15_2
          try clear hcz15_3
          try clear hcz16_0
          try clear hcz16_1
          try clear hcz16_2
          try clear hcz16_3
          try clear hcz9_0
          try clear hcz9_1
          try clear hcz9_2
          try clear hcz9_3
          try clear hfz11_0
          try clear hfz11_1
          try clear hfz11_2
          try clear hfz11_3
          try clear hfz13_0
          try clear hfz13_1
          try clear hfz13_2
          try clear hfz13_3
          try clear hfz14_0
          try clear hfz14_1
          try clear hfz14_2
          try clear hfz14_3
          try clear hfz15_0
          try clear hfz15_1
          try clear hfz15_2
          try clear hfz15_3
          try clear hfz16_0
          try clear hfz16_1
          try clear hfz16_2
          try clear hfz16_3
          try clear hfz9_0
          try clear hfz9_1
          try clear hfz9_2
          try clear hfz9_3
          try clear p2
          obtain ⟨x7_2, rfl, HA, HK2, BK283, HB⟩ := hrel
          cases gk with
          | zero => exact absurd HA.out (by simp [ladderbackref23_Fits.l0])
          | succ k2 =>
            have H := HA.out
            clear HA
            simp only [ladderbackref23_Fits.l0] at H
            by_cases c18 : x7_2 < (l0.length : Int)
            · rw [if_pos c18] at H
              have c18b0 : decide (x7_2 < (l0.length : Int)) = true := decide_eq_true c18
              clear c18
              by_cases c19 : 0 ≤ x7_2
              · rw [if_pos c19] at H
                have c19b0 : decide (0 ≤ x7_2) = true := decide_eq_true c19
                clear c19
                by_cases c20 : x7_2 < (l2_0.length : Int)
                · rw [if_pos c20] at H
                  have c20b0 : decide (x7_2 < (l2_0.length : Int)) = true := decide_eq_true c20
                  clear c20
                  by_cases c21 : ((rd_L1 l2_0 x7_2).length : Int) = ((rd_T60 l0 x7_2).f2)
                  · rw [if_pos c21] at H
                    have c21b0 : (((rd_L1 l2_0 x7_2).length : Int) == ((rd_T60 l0 x7_2).f2)) = true := beq_iff_eq.mpr c21
                    have c21b1 : (((rd_L1 l2_0 x7_2).length : Int) != ((rd_T60 l0 x7_2).f2)) = false := bne_eq_false_iff_eq.mpr c21
                    clear c21
                    have H' := Aside0.mk H
                    clear H
                    have hcz22_0 : wr.cell? ⟨gb283, 0, none⟩ = some (.slice A2_0 l2_0.length c2_0) := (blk_cell BK283.out 0).trans rfl
                    have hcz22_1 : wr.cell? ⟨gb283, 1, none⟩ = some (.slice A2_1 l2_1.length c2_1) := (blk_cell BK283.out 1).trans rfl
                    have hcz22_2 : wr.cell? ⟨gb283, 2, none⟩ = some (.int .i64 a2_2) := (blk_cell BK283.out 2).trans rfl
                    have hcz22_3 : wr.cell? ⟨gb283, 3, none⟩ = some (.int .i64 a2_3) := (blk_cell BK283.out 3).trans rfl
                    have hfz22_0 := blk_frozen BK283.out 0
                    have hfz22_1 := blk_frozen BK283.out 1
                    have hfz22_2 := blk_frozen BK283.out 2
                    have hfz22_3 := blk_frozen BK283.out 3
                    have p284 : 0 ≤ (x7_2 : Int) := of_decide_eq_true (by first | (with_reducible assumption) | assumption)
                    have q284 : x7_2 < (l2_0.length : Int) := of_decide_eq_true (by first | (with_reducible assumption) | assumption)
                    obtain ⟨ad284, A284_0, c284_0, e284, hx284_0, hl284_0, hi284_0⟩ := at_L1 HR2_0.out x7_2 p284 q284; have hk284_0 := Aside0.mk hx284_0
                    cases e284
                    replace hx284_0 := (HB.out.cell (World.block_lt_of_cell? w _ hx284_0)).trans hx284_0
                    have HR284_0 := Aside0.mk hi284_0
                    have HC284_0 := Aside0.mk hl284_0
                    clear hi284_0 hl284_0
                    replace p284 := eq_true p284
                    replace q284 := eq_true q284
                    have p285 : 0 ≤ (x7_2 : Int) := of_decide_eq_true (by first | (with_reducible assumption) | assumption)
                    have q285 : x7_2 < (l0.length : Int) := of_decide_eq_true (by first | (with_reducible assumption) | assumption)
                    obtain ⟨ad285, e285, hx285_0, hx285_1, hx285_2, hx285_3, hx285_4⟩ := at_T60 HR0.out x7_2 p285 q285
                    cases e285
                    replace hx285_0 := (HB.out.cell (World.block_lt_of_cell? w _ hx285_0)).trans hx285_0
                    replace hx285_1 := (HB.out.cell (World.block_lt_of_cell? w _ hx285_1)).trans hx285_1
                    replace hx285_2 := (HB.out.cell (World.block_lt_of_cell? w _ hx285_2)).trans hx285_2
                    replace hx285_3 := (HB.out.cell (World.block_lt_of_cell? w _ hx285_3)).trans hx285_3
                    replace hx285_4 := (HB.out.cell (World.block_lt_of_cell? w _ hx285_4)).trans hx285_4
                    replace p285 := eq_true p285
                    replace q285 := eq_true q285
                    go_wp2
                    repeat (go_quiet (fail); try go_wp2)
                    go_loopg [8] k2 (fun kq v8 w' => ∃ (x8_3 : Int), v8 = .int .i64 x8_3 ∧ Aside0 (ladderbackref23_Fits.l1 kq l0 x7_2 x8_3 l2_0 l2_1 a2_2 a2_3 = some r) ∧ Aside0 (kq ≤ k2) ∧ Aside0 (w'.heap[gb283]? = some (.cells #[(.slice (some ad284) l2_0.length c2_0), (.slice A2_1 l2_1.length c2_1), .int .i64 a2_2, .int .i64 a2_3] 31 (0, 0))) ∧ Aside0 (Below w.heap.size w w'))
                    case atStart => exact ⟨(0), (by first | rfl | (simp; done) | (simp [*]; done)), H', ⟨Nat.le_refl _⟩, ⟨by (with_reducible repeat (first | refine blk_drewN ?_ _ | refine blk_drew ?_ | refine blk_alloc ?_ _)); exact BK283.out⟩, ⟨by repeat (first | (with_reducible first | exact HB.out | apply below_alloc | apply pw_below_drewN | apply below_drew1 | refine below_set ?_ GE283.out) | exact HB.out)⟩⟩
                    case round =>
                      clear H'
                      try clear c1
                      try clear c2
                      try clear p2
                      try clear q2
                      try clear hx2
                      try clear c6
                      try clear c6b0
                      try clear c6b1
                      try clear c6b2
                      try clear c7
                      try clear c7b0
                      try clear c7b1
                      try clear c7b2
                      try clear c8
                      try clear c8b0
                      try clear c10
                      try clear c10b0
                      try clear c12
                      try clear c12b0
                      try clear c17
                      try clear c18
                      try clear c18b0
                      try clear c19
                      try clear c19b0
                      try clear c20
                      try clear c20b0
                      try clear c21
                      try clear c21b0
                      try clear c21b1
                      try clear hcz11_0
                      try clear hcz11_1
                      try clear hcz11_2
                      try clear hcz11_3
                      try clear hcz13_0
                      try clear hcz13_1
                      try clear hcz13_2
                      try clear hcz13_3
                      try clear hcz14_0
                      try clear hcz14_1
                      try clear hcz14_2
                      try clear hcz14_3
                      try clear hcz15_0
                      try clear hcz15_1
                      try clear hcz15_2
                      try clear hcz15_3
                      try clear hcz16_0
                      try clear hcz16_1
                      try clear hcz16_2
                      try clear hcz16_3
                      try clear hcz22_0
                      try clear hcz22_1
                      try clear hcz22_2
                      try clear hcz22_3
                      try clear hcz9_0
                      try clear hcz9_1
                      try clear hcz9_2
                      try clear hcz9_3
                      try clear hfz11_0
                      try clear hfz11_1
                      try clear hfz11_2
                      try clear hfz11_3
                      try clear hfz13_0
                      try clear hfz13_1
                      try clear hfz13_2
                      try clear hfz13_3
                      try clear hfz14_0
                      try clear hfz14_1
                      try clear hfz14_2
                      try clear hfz14_3
                      try clear hfz15_0
                      try clear hfz15_1
                      try clear hfz15_2
                      try clear hfz15_3
                      try clear hfz16_0
                      try clear hfz16_1
                      try clear hfz16_2
                      try clear hfz16_3
                      try clear hfz22_0
                      try clear hfz22_1
                      try clear hfz22_2
                      try clear hfz22_3
                      try clear hfz9_0
                      try clear hfz9_1
                      try clear hfz9_2
                      try clear hfz9_3
                      try clear hx284_0
                      try clear hx285_0
                      try clear hx285_1
                      try clear hx285_2
                      try clear hx285_3
                      try clear hx285_4
                      try clear p2
                      try clear p284
                      try clear p285
                      try clear q284
                      try clear q285
                      obtain ⟨x8_3, rfl, HA, HK3, BK283, HB⟩ := hrel
                      cases gk with
                      | zero => exact absurd HA.out (by simp [ladderbackref23_Fits.l1])
                      | succ k3 =>
                        have H := HA.out
                        clear HA
                        simp only [ladderbackref23_Fits.l1] at H
                        by_cases c23 : 0 ≤ x7_2
                        · rw [if_pos c23] at H
                          have c23b0 : decide (0 ≤ x7_2) = true := decide_eq_true c23
                          clear c23
                          by_cases c24 : x7_2 < (l2_0.length : Int)
                          · rw [if_pos c24] at H
                            have c24b0 : decide (x7_2 < (l2_0.length : Int)) = true := decide_eq_true c24
                            clear c24
                            by_cases c25 : x8_3 < ((rd_L1 l2_0 x7_2).length : Int)
                            · rw [if_pos c25] at H
                              have c25b0 : decide (x8_3 < ((rd_L1 l2_0 x7_2).length : Int)) = true := decide_eq_true c25
                              clear c25
                              by_cases c26 : x7_2 < (l0.length : Int)
                              · rw [if_pos c26] at H
                                have c26b0 : decide (x7_2 < (l0.length : Int)) = true := decide_eq_true c26
                                clear c26
                                replace H := Option.bind_eq_some_iff.mp H
                                obtain ⟨t288, A270, H⟩ := H
                                replace H : (if t288 = true then (if 0 ≤ x8_3 then ((ladderbackref01_In.f ((rd_T60 l0 x7_2).f1) (rd (rd_L1 l2_0 x7_2) x8_3)).bind fun t292 => (if t292 = true then (ladderbackref23_Fits.l1 k3 l0 x7_2 (wrap64 (x8_3 + 1)) l2_0 l2_1 a2_2 a2_3) else (some false))) else (none)) else (some false)) = some r := H
                                have A27 := Aside0.mk A270
                                clear A270
                                by_cases c28 : t288 = true
                                · subst c28
                                  have H1 : (if 0 ≤ x8_3 then ((ladderbackref01_In.f ((rd_T60 l0 x7_2).f1) (rd (rd_L1 l2_0 x7_2) x8_3)).bind fun t292 => (if t292 = true then (ladderbackref23_Fits.l1 k3 l0 x7_2 (wrap64 (x8_3 + 1)) l2_0 l2_1 a2_2 a2_3) else (some false))) else (none)) = some r := by rw [if_pos rfl] at H; exact H
                                  clear H
                                  have H := H1
                                  clear H1
                                  by_cases c29 : 0 ≤ x8_3
                                  · rw [if_pos c29] at H
                                    have c29b0 : decide (0 ≤ x8_3) = true := decide_eq_true c29
                                    clear c29
                                    replace H := Option.bind_eq_some_iff.mp H
                                    obtain ⟨t292, A300, H⟩ := H
                                    replace H : (if t292 = true then (ladderbackref23_Fits.l1 k3 l0 x7_2 (wrap64 (x8_3 + 1)) l2_0 l2_1 a2_2 a2_3) else (some false)) = some r := H
                                    have A30 := Aside0.mk A300
                                    clear A300
                                    by_cases c31 : t292 = true
                                    · subst c31
                                      have H1 : (ladderbackref23_Fits.l1 k3 l0 x7_2 (wrap64 (x8_3 + 1)) l2_0 l2_1 a2_2 a2_3) = some r := by rw [if_pos rfl] at H; exact H
                                      clear H
                                      have H := H1
                                      clear H1
                                      have H' := Aside0.mk H
                                      clear H
                                      have hcz32_0 : wr.cell? ⟨gb283, 0, none⟩ = some (.slice (some ad284) l2_0.length c2_0) := (blk_cell BK283.out 0).trans rfl
                                      have hcz32_1 : wr.cell? ⟨gb283, 1, none⟩ = some (.slice A2_1 l2_1.length c2_1) := (blk_cell BK283.out 1).trans rfl
                                      have hcz32_2 : wr.cell? ⟨gb283, 2, none⟩ = some (.int .i64 a2_2) := (blk_cell BK283.out 2).trans rfl
                                      have hcz32_3 : wr.cell? ⟨gb283, 3, none⟩ = some (.int .i64 a2_3) := (blk_cell BK283.out 3).trans rfl
                                      have hfz32_0 := blk_frozen BK283.out 0
                                      have hfz32_1 := blk_frozen BK283.out 1
                                      have hfz32_2 := blk_frozen BK283.out 2
                                      have hfz32_3 := blk_frozen BK283.out 3
                                      have p286 : 0 ≤ (x7_2 : Int) := of_decide_eq_true (by first | (with_reducible assumption) | assumption)
                                      have q286 : x7_2 < (l2_0.length : Int) := of_decide_eq_true (by first | (with_reducible assumption) | assumption)
                                      obtain ⟨ad286, A286_0, c286_0, e286, hx286_0, hl286_0, hi286_0⟩ := at_L1 HR2_0.out x7_2 p286 q286
                                      obtain rfl : ad284 = ad286 := (by injection e286); have z_ := hk284_0.out.symm.trans hx286_0; injection z_ with z_; injection z_ with z1_ _ z2_; subst z1_ z2_
                                      replace hx286_0 := (HB.out.cell (World.block_lt_of_cell? w _ hx286_0)).trans hx286_0
                                      have HR286_0 := Aside0.mk hi286_0
                                      have HC286_0 := Aside0.mk hl286_0
                                      clear hi286_0 hl286_0
                                      replace p286 := eq_true p286
                                      replace q286 := eq_true q286
                                      have p287 : 0 ≤ (x7_2 : Int) := of_decide_eq_true (by first | (with_reducible assumption) | assumption)
                                      have q287 : x7_2 < (l0.length : Int) := of_decide_eq_true (by first | (with_reducible assumption) | assumption)
                                      obtain ⟨ad287, e287, hx287_0, hx287_1, hx287_2, hx287_3, hx287_4⟩ := at_T60 HR0.out x7_2 p287 q287
                                      obtain rfl : ad285 = ad287 := (by injection e287)
                                      replace hx287_0 := (HB.out.cell (World.block_lt_of_cell? w _ hx287_0)).trans hx287_0
                                      replace hx287_1 := (HB.out.cell (World.block_lt_of_cell? w _ hx287_1)).trans hx287_1
                                      replace hx287_2 := (HB.out.cell (World.block_lt_of_cell? w _ hx287_2)).trans hx287_2
                                      replace hx287_3 := (HB.out.cell (World.block_lt_of_cell? w _ hx287_3)).trans hx287_3
                                      replace hx287_4 := (HB.out.cell (World.block_lt_of_cell? w _ hx287_4)).trans hx287_4
                                      replace p287 := eq_true p287
                                      replace q287 := eq_true q287
                                      go_wp2_with (first | (go_at_call 39; (with_reducible refine (ladderbackref01_Right.calls ((rd_T60 l0 x7_2).f1) true _ A27.out).mono ?_); rintro e w' ⟨rfl, ⟨nd, rfl⟩⟩; (try first | exact ⟨rfl, _, World.drewN_drewN _ _ _⟩ | exact ⟨rfl, _, Eq.trans (World.drewN_drewN _ _ _) (congrArg (World.drewN _) (Nat.add_assoc _ _ _))⟩); have p289 : 0 ≤ (x7_2 : Int) := of_decide_eq_true (by first | (with_reducible assumption) | assumption); have q289 : x7_2 < (l0.length : Int) := of_decide_eq_true (by first | (with_reducible assumption) | assumption); obtain ⟨ad289, e289, hx289_0, hx289_1, hx289_2, hx289_3, hx289_4⟩ := at_T60 HR0.out x7_2 p289 q289; obtain rfl : ad285 = ad289 := (by injection e289); replace hx289_0 := (HB.out.cell (World.block_lt_of_cell? w _ hx289_0)).trans hx289_0; replace hx289_1 := (HB.out.cell (World.block_lt_of_cell? w _ hx289_1)).trans hx289_1; replace hx289_2 := (HB.out.cell (World.block_lt_of_cell? w _ hx289_2)).trans hx289_2; replace hx289_3 := (HB.out.cell (World.block_lt_of_cell? w _ hx289_3)).trans hx289_3; replace hx289_4 := (HB.out.cell (World.block_lt_of_cell? w _ hx289_4)).trans hx289_4; replace p289 := eq_true p289; replace q289 := eq_true q289; have p290 : 0 ≤ (x7_2 : Int) := of_decide_eq_true (by first | (with_reducible assumption) | assumption); have q290 : x7_2 < (l2_0.length : Int) := of_decide_eq_true (by first | (with_reducible assumption) | assumption); obtain ⟨ad290, A290_0, c290_0, e290, hx290_0, hl290_0, hi290_0⟩ := at_L1 HR2_0.out x7_2 p290 q290; obtain rfl : ad284 = ad290 := (by injection e290); replace hx290_0 := (HB.out.cell (World.block_lt_of_cell? w _ hx290_0)).trans hx290_0; have HR290_0 := Aside0.mk hi290_0; have HC290_0 := Aside0.mk hl290_0; clear hi290_0 hl290_0; replace p290 := eq_true p290; replace q290 := eq_true q290; have ea_ := Option.some.inj (hx286_0.symm.trans hx290_0); injection ea_ with ea_ en_ ec_; subst ea_; subst ec_; clear en_; have p291 : 0 ≤ (x8_3 : Int) := of_decide_eq_true (by first | (with_reducible assumption) | assumption); have q291 : x8_3 < ((rd_L1 l2_0 x7_2).length : Int) := of_decide_eq_true (by first | (with_reducible assumption) | assumption); obtain ⟨ad291, e291, hx291_0⟩ := Kd.at_int HR290_0.out x8_3 p291 q291; cases e291; replace hx291_0 := (HB.out.cell (World.block_lt_of_cell? w _ hx291_0)).trans hx291_0; replace p291 := eq_true p291; replace q291 := eq_true q291) | (go_at_call 40; (with_reducible refine (ladderbackref01_In.calls ((rd_T60 l0 x7_2).f1) (rd (rd_L1 l2_0 x7_2) x8_3) true _ A30.out).mono ?_); rintro e w' ⟨rfl, ⟨nd, rfl⟩⟩; (try first | exact ⟨rfl, _, World.drewN_drewN _ _ _⟩ | exact ⟨rfl, _, Eq.trans (World.drewN_drewN _ _ _) (congrArg (World.drewN _) (Nat.add_assoc _ _ _))⟩)))
                                      repeat (go_quiet (first | (go_at_call 39; (with_reducible refine (ladderbackref01_Right.calls ((rd_T60 l0 x7_2).f1) true _ A27.out).mono ?_); rintro e w' ⟨rfl, ⟨nd, rfl⟩⟩; (try first | exact ⟨rfl, _, World.drewN_drewN _ _ _⟩ | exact ⟨rfl, _, Eq.trans (World.drewN_drewN _ _ _) (congrArg (World.drewN _) (Nat.add_assoc _ _ _))⟩); have p289 : 0 ≤ (x7_2 : Int) := of_decide_eq_true (by first | (with_reducible assumption) | assumption); have q289 : x7_2 < (l0.length : Int) := of_decide_eq_true (by first | (with_reducible assumption) | assumption); obtain ⟨ad289, e289, hx289_0, hx289_1, hx289_2, hx289_3, hx289_4⟩ := at_T60 HR0.out x7_2 p289 q289; obtain rfl : ad285 = ad289 := (by injection e289); replace hx289_0 := (HB.out.cell (World.block_lt_of_cell? w _ hx289_0)).trans hx289_0; replace hx289_1 := (HB.out.cell (World.block_lt_of_cell? w _ hx289_1)).trans hx289_1; replace hx289_2 := (HB.out.cell (World.block_lt_of_cell? w _ hx289_2)).trans hx289_2; replace hx289_3 := (HB.out.cell (World.block_lt_of_cell? w _ hx289_3)).trans hx289_3; replace hx289_4 := (HB.out.cell (World.block_lt_of_cell? w _ hx289_4)).trans hx289_4; replace p289 := eq_true p289; replace q289 := eq_true q289; have p290 : 0 ≤ (x7_2 : Int) := of_decide_eq_true (by first | (with_reducible assumption) | assumption); have q290 : x7_2 < (l2_0.length : Int) := of_decide_eq_true (by first | (with_reducible assumption) | assumption); obtain ⟨ad290, A290_0, c290_0, e290, hx290_0, hl290_0, hi290_0⟩ := at_L1 HR2_0.out x7_2 p290 q290; obtain rfl : ad284 = ad290 := (by injection e290); replace hx290_0 := (HB.out.cell (World.block_lt_of_cell? w _ hx290_0)).trans hx290_0; have HR290_0 := Aside0.mk hi290_0; have HC290_0 := Aside0.mk hl290_0; clear hi290_0 hl290_0; replace p290 := eq_true p290; replace q290 := eq_true q290; have ea_ := Option.some.inj (hx286_0.symm.trans hx290_0); injection ea_ with ea_ en_ ec_; subst ea_; subst ec_; clear en_; have p291 : 0 ≤ (x8_3 : Int) := of_decide_eq_true (by first | (with_reducible assumption) | assumption); have q291 : x8_3 < ((rd_L1 l2_0 x7_2).length : Int) := of_decide_eq_true (by first | (with_reducible assumption) | assumption); obtain ⟨ad291, e291, hx291_0⟩ := Kd.at_int HR290_0.out x8_3 p291 q291; cases e291; replace hx291_0 := (HB.out.cell (World.block_lt_of_cell? w _ hx291_0)).trans hx291_0; replace p291 := eq_true p291; replace q291 := eq_true q291) | (go_at_call 40; (with_reducible refine (ladderbackref01_In.calls ((rd_T60 l0 x7_2).f1) (rd (rd_L1 l2_0 x7_2) x8_3) true _ A30.out).mono ?_); rintro e w' ⟨rfl, ⟨nd, rfl⟩⟩; (try first | exact ⟨rfl, _, World.drewN_drewN _ _ _⟩ | exact ⟨rfl, _, Eq.trans (World.drewN_drewN _ _ _) (congrArg (World.drewN _) (Nat.add_assoc _ _ _))⟩))); try go_wp2_with (first | (go_at_call 39; (with_reducible refine (ladderbackref01_Right.calls ((rd_T60 l0 x7_2).f1) true _ A27.out).mono ?_); rintro e w' ⟨rfl, ⟨nd, rfl⟩⟩; (try first | exact ⟨rfl, _, World.drewN_drewN _ _ _⟩ | exact ⟨rfl, _, Eq.trans (World.drewN_drewN _ _ _) (congrArg (World.drewN _) (Nat.add_assoc _ _ _))⟩); have p289 : 0 ≤ (x7_2 : Int) := of_decide_eq_true (by first | (with_reducible assumption) | assumption); have q289 : x7_2 < (l0.length : Int) := of_decide_eq_true (by first | (with_reducible assumption) | assumption); obtain ⟨ad289, e289, hx289_0, hx289_1, hx289_2, hx289_3, hx289_4⟩ := at_T60 HR0.out x7_2 p289 q289; obtain rfl : ad285 = ad289 := (by injection e289); replace hx289_0 := (HB.out.cell (World.block_lt_of_cell? w _ hx289_0)).trans hx289_0; replace hx289_1 := (HB.out.cell (World.block_lt_of_cell? w _ hx289_1)).trans hx289_1; replace hx289_2 := (HB.out.cell (World.block_lt_of_cell? w _ hx289_2)).trans hx289_2; replace hx289_3 := (HB.out.cell (World.block_lt_of_cell? w _ hx289_3)).trans hx289_3; replace hx289_4 := (HB.out.cell (World.block_lt_of_cell? w _ hx289_4)).trans hx289_4; replace p289 := eq_true p289; replace q289 := eq_true q289; have p290 : 0 ≤ (x7_2 : Int) := of_decide_eq_true (by first | (with_reducible assumption) | assumption); have q290 : x7_2 < (l2_0.length : Int) := of_decide_eq_true (by first | (with_reducible assumption) | assumption); obtain ⟨ad290, A290_0, c290_0, e290, hx290_0, hl290_0, hi290_0⟩ := at_L1 HR2_0.out x7_2 p290 q290; obtain rfl : ad284 = ad290 := (by injection e290); replace hx290_0 := (HB.out.cell (World.block_lt_of_cell? w _ hx290_0)).trans hx290_0; have HR290_0 := Aside0.mk hi290_0; have HC290_0 := Aside0.mk hl290_0; clear hi290_0 hl290_0; replace p290 := eq_true p290; replace q290 := eq_true q290; have ea_ := Option.some.inj (hx286_0.symm.trans hx290_0); injection ea_ with ea_ en_ ec_; subst ea_; subst ec_; clear en_; have p291 : 0 ≤ (x8_3 : Int) := of_decide_eq_true (by first | (with_reducible assumption) | assumption); have q291 : x8_3 < ((rd_L1 l2_0 x7_2).length : Int) := of_decide_eq_true (by first | (with_reducible assumption) | assumption); obtain ⟨ad291, e291, hx291_0⟩ := Kd.at_int HR290_0.out x8_3 p291 q291; cases e291; replace hx291_0 := (HB.out.cell (World.block_lt_of_cell? w _ hx291_0)).trans hx291_0; replace p291 := eq_true p291; replace q291 := eq_true q291) | (go_at_call 40; (with_reducible refine (ladderbackref01_In.calls ((rd_T60 l0 x7_2).f1) (rd (rd_L1 l2_0 x7_2) x8_3) true _ A30.out).mono ?_); rintro e w' ⟨rfl, ⟨nd, rfl⟩⟩; (try first | exact ⟨rfl, _, World.drewN_drewN _ _ _⟩ | exact ⟨rfl, _, Eq.trans (World.drewN_drewN _ _ _) (congrArg (World.drewN _) (Nat.add_assoc _ _ _))⟩))))
                                      go_roundg k3
                                      case measure => have := HJ3.out; have := HK2.out; have := HK3.out; omega
                                      case rel => exact ⟨(wrap64 (x8_3 + 1)), (by first | rfl | (simp; done) | (simp [*]; done)), H', ⟨by have := HJ3.out; have := HK2.out; have := HK3.out; omega⟩, ⟨by (with_reducible repeat (first | refine blk_drewN ?_ _ | refine blk_drew ?_ | refine blk_alloc ?_ _)); exact BK283.out⟩, ⟨by repeat (first | (with_reducible first | exact HB.out | apply below_alloc | apply pw_below_drewN | apply below_drew1 | refine below_set ?_ GE283.out) | exact HB.out)⟩⟩
                                    · replace c31 := Bool.eq_false_iff.mpr c31
                                      subst c31
                                      have H1 : (some false) = some r := by rw [if_neg (show ¬ (false = true) by decide)] at H; exact H
                                      clear H
                                      have H := H1
                                      clear H1
                                      obtain rfl := Option.some.inj H
                                      have hcz33_0 : wr.cell? ⟨gb283, 0, none⟩ = some (.slice (some ad284) l2_0.length c2_0) := (blk_cell BK283.out 0).trans rfl
                                      have hcz33_1 : wr.cell? ⟨gb283, 1, none⟩ = some (.slice A2_1 l2_1.length c2_1) := (blk_cell BK283.out 1).trans rfl
                                      have hcz33_2 : wr.cell? ⟨gb283, 2, none⟩ = some (.int .i64 a2_2) := (blk_cell BK283.out 2).trans rfl
                                      have hcz33_3 : wr.cell? ⟨gb283, 3, none⟩ = some (.int .i64 a2_3) := (blk_cell BK283.out 3).trans rfl
                                      have hfz33_0 := blk_frozen BK283.out 0
                                      have hfz33_1 := blk_frozen BK283.out 1
                                      have hfz33_2 := blk_frozen BK283.out 2
                                      have hfz33_3 := blk_frozen BK283.out 3
                                      have p286 : 0 ≤ (x7_2 : Int) := of_decide_eq_true (by first | (with_reducible assumption) | assumption)
                                      have q286 : x7_2 < (l2_0.length : Int) := of_decide_eq_true (by first | (with_reducible assumption) | assumption)
                                      obtain ⟨ad286, A286_0, c286_0, e286, hx286_0, hl286_0, hi286_0⟩ := at_L1 HR2_0.out x7_2 p286 q286
                                      obtain rfl : ad284 = ad286 := (by injection e286); have z_ := hk284_0.out.symm.trans hx286_0; injection z_ with z_; injection z_ with z1_ _ z2_; subst z1_ z2_
                                      replace hx286_0 := (HB.out.cell (World.block_lt_of_cell? w _ hx286_0)).trans hx286_0
                                      have HR286_0 := Aside0.mk hi286_0
                                      have HC286_0 := Aside0.mk hl286_0
                                      clear hi286_0 hl286_0
                                      replace p286 := eq_true p286
                                      replace q286 := eq_true q286
                                      have p287 : 0 ≤ (x7_2 : Int) := of_decide_eq_true (by first | (with_reducible assumption) | assumption)
                                      have q287 : x7_2 < (l0.length : Int) := of_decide_eq_true (by first | (with_reducible assumption) | assumption)
                                      obtain ⟨ad287, e287, hx287_0, hx287_1, hx287_2, hx287_3, hx287_4⟩ := at_T60 HR0.out x7_2 p287 q287
                                      obtain rfl : ad285 = ad287 := (by injection e287)
                                      replace hx287_0 := (HB.out.cell (World.block_lt_of_cell? w _ hx287_0)).trans hx287_0
                                      replace hx287_1 := (HB.out.cell (World.block_lt_of_cell? w _ hx287_1)).trans hx287_1
                                      replace hx287_2 := (HB.out.cell (World.block_lt_of_cell? w _ hx287_2)).trans hx287_2
                                      replace hx287_3 := (HB.out.cell (World.block_lt_of_cell? w _ hx287_3)).trans hx287_3
                                      replace hx287_4 := (HB.out.cell (World.block_lt_of_cell? w _ hx287_4)).trans hx287_4
                                      replace p287 := eq_true p287
                                      replace q287 := eq_true q287
                                      go_wp2_with (first | (go_at_call 39; (with_reducible refine (ladderbackref01_Right.calls ((rd_T60 l0 x7_2).f1) true _ A27.out).mono ?_); rintro e w' ⟨rfl, ⟨nd, rfl⟩⟩; (try first | exact ⟨rfl, _, World.drewN_drewN _ _ _⟩ | exact ⟨rfl, _, Eq.trans (World.drewN_drewN _ _ _) (congrArg (World.drewN _) (Nat.add_assoc _ _ _))⟩); have p289 : 0 ≤ (x7_2 : Int) := of_decide_eq_true (by first | (with_reducible assumption) | assumption); have q289 : x7_2 < (l0.length : Int) := of_decide_eq_true (by first | (with_reducible assumption) | assumption); obtain ⟨ad289, e289, hx289_0, hx289_1, hx289_2, hx289_3, hx289_4⟩ := at_T60 HR0.out x7_2 p289 q289; obtain rfl : ad285 = ad289 := (by injection e289); replace hx289_0 := (HB.out.cell (World.block_lt_of_cell? w _ hx289_0)).trans hx289_0; replace hx289_1 := (HB.out.cell (World.block_lt_of_cell? w _ hx289_1)).trans hx289_1; replace hx289_2 := (HB.out.cell (World.block_lt_of_cell? w _ hx289_2)).trans hx289_2; replace hx289_3 := (HB.out.cell (World.block_lt_of_cell? w _ hx289_3)).trans hx289_3; replace hx289_4 := (HB.out.cell (World.block_lt_of_cell? w _ hx289_4)).trans hx289_4; replace p289 := eq_true p289; replace q289 := eq_true q289; have p290 : 0 ≤ (x7_2 : Int) := of_decide_eq_true (by first | (with_reducible assumption) | assumption); have q290 : x7_2 < (l2_0.length : Int) := of_decide_eq_true (by first | (with_reducible assumption) | assumption); obtain ⟨ad290, A290_0, c290_0, e290, hx290_0, hl290_0, hi290_0⟩ := at_L1 HR2_0.out x7_2 p290 q290; obtain rfl : ad284 = ad290 := (by injection e290); replace hx290_0 := (HB.out.cell (World.block_lt_of_cell? w _ hx290_0)).trans hx290_0; have HR290_0 := Aside0.mk hi290_0; have HC290_0 := Aside0.mk hl290_0; clear hi290_0 hl290_0; replace p290 := eq_true p290; replace q290 := eq_true q290; have ea_ := Option.some.inj (hx286_0.symm.trans hx290_0); injection ea_ with ea_ en_ ec_; subst ea_; subst ec_; clear en_; have p291 : 0 ≤ (x8_3 : Int) := of_decide_eq_true (by first | (with_reducible assumption) | assumption); have q291 : x8_3 < ((rd_L1 l2_0 x7_2).length : Int) := of_decide_eq_true (by first | (with_reducible assumption) | assumption); obtain ⟨ad291, e291, hx291_0⟩ := Kd.at_int HR290_0.out x8_3 p291 q291; cases e291; replace hx291_0 := (HB.out.cell (World.block_lt_of_cell? w _ hx291_0)).trans hx291_0; replace p291 := eq_true p291; replace q291 := eq_true q291) | (go_at_call 40; (with_reducible refine (ladderbackref01_In.calls ((rd_T60 l0 x7_2).f1) (rd (rd_L1 l2_0 x7_2) x8_3) false _ A30.out).mono ?_); rintro e w' ⟨rfl, ⟨nd, rfl⟩⟩; (try first | exact ⟨rfl, _, World.drewN_drewN _ _ _⟩ | exact ⟨rfl, _, Eq.trans (World.drewN_drewN _ _ _) (congrArg (World.drewN _) (Nat.add_assoc _ _ _))⟩)))
                                      repeat (go_quiet (first | (go_at_call 39; (with_reducible refine (ladderbackref01_Right.calls ((rd_T60 l0 x7_2).f1) true _ A27.out).mono ?_); rintro e w' ⟨rfl, ⟨nd, rfl⟩⟩; (try first | exact ⟨rfl, _, World.drewN_drewN _ _ _⟩ | exact ⟨rfl, _, Eq.trans (World.drewN_drewN _ _ _) (congrArg (World.drewN _) (Nat.add_assoc _ _ _))⟩); have p289 : 0 ≤ (x7_2 : Int) := of_decide_eq_true (by first | (with_reducible assumption) | assumption); have q289 : x7_2 < (l0.length : Int) := of_decide_eq_true (by first | (with_reducible assumption) | assumption); obtain ⟨ad289, e289, hx289_0, hx289_1, hx289_2, hx289_3, hx289_4⟩ := at_T60 HR0.out x7_2 p289 q289; obtain rfl : ad285 = ad289 := (by injection e289); replace hx289_0 := (HB.out.cell (World.block_lt_of_cell? w _ hx289_0)).trans hx289_0; replace hx289_1 := (HB.out.cell (World.block_lt_of_cell? w _ hx289_1)).trans hx289_1; replace hx289_2 := (HB.out.cell (World.block_lt_of_cell? w _ hx289_2)).trans hx289_2; replace hx289_3 := (HB.out.cell (World.block_lt_of_cell? w _ hx289_3)).trans hx289_3; replace hx289_4 := (HB.out.cell (World.block_lt_of_cell? w _ hx289_4)).trans hx289_4; replace p289 := eq_true p289; replace q289 := eq_true q289; have p290 : 0 ≤ (x7_2 : Int) := of_decide_eq_true (by first | (with_reducible assumption) | assumption); have q290 : x7_2 < (l2_0.length : Int) := of_decide_eq_true (by first | (with_reducible assumption) | assumption); obtain ⟨ad290, A290_0, c290_0, e290, hx290_0, hl290_0, hi290_0⟩ := at_L1 HR2_0.out x7_2 p290 q290; obtain rfl : ad284 = ad290 := (by injection e290); replace hx290_0 := (HB.out.cell (World.block_lt_of_cell? w _ hx290_0)).trans hx290_0; have HR290_0 := Aside0.mk hi290_0; have HC290_0 := Aside0.mk hl290_0; clear hi290_0 hl290_0; replace p290 := eq_true p290; replace q290 := eq_true q290; have ea_ := Option.some.inj (hx286_0.symm.trans hx290_0); injection ea_ with ea_ en_ ec_; subst ea_; subst ec_; clear en_; have p291 : 0 ≤ (x8_3 : Int) := of_decide_eq_true (by first | (with_reducible assumption) | assumption); have q291 : x8_3 < ((rd_L1 l2_0 x7_2).length : Int) := of_decide_eq_true (by first | (with_reducible assumption) | assumption); obtain ⟨ad291, e291, hx291_0⟩ := Kd.at_int HR290_0.out x8_3 p291 q291; cases e291; replace hx291_0 := (HB.out.cell (World.block_lt_of_cell? w _ hx291_0)).trans hx291_0; replace p291 := eq_true p291; replace q291 := eq_true q291) | (go_at_call 40; (with_reducible refine (ladderbackref01_In.calls ((rd_T60 l0 x7_2).f1) (rd (rd_L1 l2_0 x7_2) x8_3) false _ A30.out).mono ?_); rintro e w' ⟨rfl, ⟨nd, rfl⟩⟩; (try first | exact ⟨rfl, _, World.drewN_drewN _ _ _⟩ | exact ⟨rfl, _, Eq.trans (World.drewN_drewN _ _ _) (congrArg (World.drewN _) (Nat.add_assoc _ _ _))⟩))); try go_wp2_with (first | (go_at_call 39; (with_reducible refine (ladderbackref01_Right.calls ((rd_T60 l0 x7_2).f1) true _ A27.out).mono ?_); rintro e w' ⟨rfl, ⟨nd, rfl⟩⟩; (try first | exact ⟨rfl, _, World.drewN_drewN _ _ _⟩ | exact ⟨rfl, _, Eq.trans (World.drewN_drewN _ _ _) (congrArg (World.drewN _) (Nat.add_assoc _ _ _))⟩); have p289 : 0 ≤ (x7_2 : Int) := of_decide_eq_true (by first | (with_reducible assumption) | assumption); have q289 : x7_2 < (l0.length : Int) := of_decide_eq_true (by first | (with_reducible assumption) | assumption); obtain ⟨ad289, e289, hx289_0, hx289_1, hx289_2, hx289_3, hx289_4⟩ := at_T60 HR0.out x7_2 p289 q289; obtain rfl : ad285 = ad289 := (by injection e289); replace hx289_0 := (HB.out.cell (World.block_lt_of_cell? w _ hx289_0)).trans hx289_0; replace hx289_1 := (HB.out.cell (World.block_lt_of_cell? w _ hx289_1)).trans hx289_1; replace hx289_2 := (HB.out.cell (World.block_lt_of_cell? w _ hx289_2)).trans hx289_2; replace hx289_3 := (HB.out.cell (World.block_lt_of_cell? w _ hx289_3)).trans hx289_3; replace hx289_4 := (HB.out.cell (World.block_lt_of_cell? w _ hx289_4)).trans hx289_4; replace p289 := eq_true p289; replace q289 := eq_true q289; have p290 : 0 ≤ (x7_2 : Int) := of_decide_eq_true (by first | (with_reducible assumption) | assumption); have q290 : x7_2 < (l2_0.length : Int) := of_decide_eq_true (by first | (with_reducible assumption) | assumption); obtain ⟨ad290, A290_0, c290_0, e290, hx290_0, hl290_0, hi290_0⟩ := at_L1 HR2_0.out x7_2 p290 q290; obtain rfl : ad284 = ad290 := (by injection e290); replace hx290_0 := (HB.out.cell (World.block_lt_of_cell? w _ hx290_0)).trans hx290_0; have HR290_0 := Aside0.mk hi290_0; have HC290_0 := Aside0.mk hl290_0; clear hi290_0 hl290_0; replace p290 := eq_true p290; replace q290 := eq_true q290; have ea_ := Option.some.inj (hx286_0.symm.trans hx290_0); injection ea_ with ea_ en_ ec_; subst ea_; subst ec_; clear en_; have p291 : 0 ≤ (x8_3 : Int) := of_decide_eq_true (by first | (with_reducible assumption) | assumption); have q291 : x8_3 < ((rd_L1 l2_0 x7_2).length : Int) := of_decide_eq_true (by first | (with_reducible assumption) | assumption); obtain ⟨ad291, e291, hx291_0⟩ := Kd.at_int HR290_0.out x8_3 p291 q291; cases e291; replace hx291_0 := (HB.out.cell (World.block_lt_of_cell? w _ hx291_0)).trans hx291_0; replace p291 := eq_true p291; replace q291 := eq_true q291) | (go_at_call 40; (with_reducible refine (ladderbackref01_In.calls ((rd_T60 l0 x7_2).f1) (rd (rd_L1 l2_0 x7_2) x8_3) false _ A30.out).mono ?_); rintro e w' ⟨rfl, ⟨nd, rfl⟩⟩; (try first | exact ⟨rfl, _, World.drewN_drewN _ _ _⟩ | exact ⟨rfl, _, Eq.trans (World.drewN_drewN _ _ _) (congrArg (World.drewN _) (Nat.add_assoc _ _ _))⟩))))
                                      go_ret
                                      exact ⟨by first | rfl | (simp [errW_none, errW_some] <;> rfl) | (simp [*, errW_none, errW_some] <;> rfl), by repeat (first | (with_reducible first | exact HB.out | apply below_alloc | apply pw_below_drewN | apply below_drew1 | refine below_set ?_ GE283.out) | exact HB.out)⟩
                                  · rw [if_neg c29] at H
                                    exact absurd H (by simp)
                                · replace c28 := Bool.eq_false_iff.mpr c28
                                  subst c28
                                  have H1 : (some false) = some r := by rw [if_neg (show ¬ (false = true) by decide)] at H; exact H
                                  clear H
                                  have H := H1
                                  clear H1
                                  obtain rfl := Option.some.inj H
                                  have hcz34_0 : wr.cell? ⟨gb283, 0, none⟩ = some (.slice (some ad284) l2_0.length c2_0) := (blk_cell BK283.out 0).trans rfl
                                  have hcz34_1 : wr.cell? ⟨gb283, 1, none⟩ = some (.slice A2_1 l2_1.length c2_1) := (blk_cell BK283.out 1).trans rfl
                                  have hcz34_2 : wr.cell? ⟨gb283, 2, none⟩ = some (.int .i64 a2_2) := (blk_cell BK283.out 2).trans rfl
                                  have hcz34_3 : wr.cell? ⟨gb283, 3, none⟩ = some (.int .i64 a2_3) := (blk_cell BK283.out 3).trans rfl
                                  have hfz34_0 := blk_frozen BK283.out 0
                                  have hfz34_1 := blk_frozen BK283.out 1
                                  have hfz34_2 := blk_frozen BK283.out 2
                                  have hfz34_3 := blk_frozen BK283.out 3
                                  have p286 : 0 ≤ (x7_2 : Int) := of_decide_eq_true (by first | (with_reducible assumption) | assumption)
                                  have q286 : x7_2 < (l2_0.length : Int) := of_decide_eq_true (by first | (with_reducible assumption) | assumption)
                                  obtain ⟨ad286, A286_0, c286_0, e286, hx286_0, hl286_0, hi286_0⟩ := at_L1 HR2_0.out x7_2 p286 q286
                                  obtain rfl : ad284 = ad286 := (by injection e286); have z_ := hk284_0.out.symm.trans hx286_0; injection z_ with z_; injection z_ with z1_ _ z2_; subst z1_ z2_
                                  replace hx286_0 := (HB.out.cell (World.block_lt_of_cell? w _ hx286_0)).trans hx286_0
                                  have HR286_0 := Aside0.mk hi286_0
                                  have HC286_0 := Aside0.mk hl286_0
                                  clear hi286_0 hl286_0
                                  replace p286 := eq_true p286
                                  replace q286 := eq_true q286
                                  have p287 : 0 ≤ (x7_2 : Int) := of_decide_eq_true (by first | (with_reducible assumption) | assumption)
                                  have q287 : x7_2 < (l0.length : Int) := of_decide_eq_true (by first | (with_reducible assumption) | assumption)
                                  obtain ⟨ad287, e287, hx287_0, hx287_1, hx287_2, hx287_3, hx287_4⟩ := at_T60 HR0.out x7_2 p287 q287
                                  obtain rfl : ad285 = ad287 := (by injection e287)
                                  replace hx287_0 := (HB.out.cell (World.block_lt_of_cell? w _ hx287_0)).trans hx287_0
                                  replace hx287_1 := (HB.out.cell (World.block_lt_of_cell? w _ hx287_1)).trans hx287_1
                                  replace hx287_2 := (HB.out.cell (World.block_lt_of_cell? w _ hx287_2)).trans hx287_2
                                  replace hx287_3 := (HB.out.cell (World.block_lt_of_cell? w _ hx287_3)).trans hx287_3
                                  replace hx287_4 := (HB.out.cell (World.block_lt_of_cell? w _ hx287_4)).trans hx287_4
                                  replace p287 := eq_true p287
                                  replace q287 := eq_true q287
                                  go_wp2_with (first | (go_at_call 39; (with_reducible refine (ladderbackref01_Right.calls ((rd_T60 l0 x7_2).f1) false _ A27.out).mono ?_); rintro e w' ⟨rfl, ⟨nd, rfl⟩⟩; (try first | exact ⟨rfl, _, World.drewN_drewN _ _ _⟩ | exact ⟨rfl, _, Eq.trans (World.drewN_drewN _ _ _) (congrArg (World.drewN _) (Nat.add_assoc _ _ _))⟩)))
                                  repeat (go_quiet (first | (go_at_call 39; (with_reducible refine (ladderbackref01_Right.calls ((rd_T60 l0 x7_2).f1) false _ A27.out).mono ?_); rintro e w' ⟨rfl, ⟨nd, rfl⟩⟩; (try first | exact ⟨rfl, _, World.drewN_drewN _ _ _⟩ | exact ⟨rfl, _, Eq.trans (World.drewN_drewN _ _ _) (congrArg (World.drewN _) (Nat.add_assoc _ _ _))⟩))); try go_wp2_with (first | (go_at_call 39; (with_reducible refine (ladderbackref01_Right.calls ((rd_T60 l0 x7_2).f1) false _ A27.out).mono ?_); rintro e w' ⟨rfl, ⟨nd, rfl⟩⟩; (try first | exact ⟨rfl, _, World.drewN_drewN _ _ _⟩ | exact ⟨rfl, _, Eq.trans (World.drewN_drewN _ _ _) (congrArg (World.drewN _) (Nat.add_assoc _ _ _))⟩))))
                                  go_ret
                                  exact ⟨by first | rfl | (simp [errW_none, errW_some] <;> rfl) | (simp [*, errW_none, errW_some] <;> rfl), by repeat (first | (with_reducible first | exact HB.out | apply below_alloc | apply pw_below_drewN | apply below_drew1 | refine below_set ?_ GE283.out) | exact HB.out)⟩
                              · rw [if_neg c26] at H
                                exact absurd H (by simp)
                            · rw [if_neg c25] at H
                              have c25b0 : decide (x8_3 < ((rd_L1 l2_0 x7_2).length : Int)) = false := decide_eq_false c25
                              clear c25
                              have H' := Aside0.mk H
                              clear H
                              have hcz35_0 : wr.cell? ⟨gb283, 0, none⟩ = some (.slice (some ad284) l2_0.length c2_0) := (blk_cell BK283.out 0).trans rfl
                              have hcz35_1 : wr.cell? ⟨gb283, 1, none⟩ = some (.slice A2_1 l2_1.length c2_1) := (blk_cell BK283.out 1).trans rfl
                              have hcz35_2 : wr.cell? ⟨gb283, 2, none⟩ = some (.int .i64 a2_2) := (blk_cell BK283.out 2).trans rfl
                              have hcz35_3 : wr.cell? ⟨gb283, 3, none⟩ = some (.int .i64 a2_3) := (blk_cell BK283.out 3).trans rfl
                              have hfz35_0 := blk_frozen BK283.out 0
                              have hfz35_1 := blk_frozen BK283.out 1
                              have hfz35_2 := blk_frozen BK283.out 2
                              have hfz35_3 := blk_frozen BK283.out 3
                              have p286 : 0 ≤ (x7_2 : Int) := of_decide_eq_true (by first | (with_reducible assumption) | assumption)
                              have q286 : x7_2 < (l2_0.length : Int) := of_decide_eq_true (by first | (with_reducible assumption) | assumption)
                              obtain ⟨ad286, A286_0, c286_0, e286, hx286_0, hl286_0, hi286_0⟩ := at_L1 HR2_0.out x7_2 p286 q286
                              obtain rfl : ad284 = ad286 := (by injection e286); have z_ := hk284_0.out.symm.trans hx286_0; injection z_ with z_; injection z_ with z1_ _ z2_; subst z1_ z2_
                              replace hx286_0 := (HB.out.cell (World.block_lt_of_cell? w _ hx286_0)).trans hx286_0
                              have HR286_0 := Aside0.mk hi286_0
                              have HC286_0 := Aside0.mk hl286_0
                              clear hi286_0 hl286_0
                              replace p286 := eq_true p286
                              replace q286 := eq_true q286
                              go_wp2
                              repeat (go_quiet (fail); try go_wp2)
                              go_roundg k3
                              case measure => have := HJ3.out; have := HK2.out; have := HK3.out; omega
                              case rel => exact ⟨(wrap64 (x7_2 + 1)), (by first | rfl | (simp; done) | (simp [*]; done)), H', ⟨by have := HJ3.out; have := HK2.out; have := HK3.out; omega⟩, ⟨by (with_reducible repeat (first | refine blk_drewN ?_ _ | refine blk_drew ?_ | refine blk_alloc ?_ _)); exact BK283.out⟩, ⟨by repeat (first | (with_reducible first | exact HB.out | apply below_alloc | apply pw_below_drewN | apply below_drew1 | refine below_set ?_ GE283.out) | exact HB.out)⟩⟩
                          · rw [if_neg c24] at H
                            exact absurd H (by simp)
                        · rw [if_neg c23] at H
                          exact absurd H (by simp)
                  · rw [if_neg c21] at H
                    have c21b0 : (((rd_L1 l2_0 x7_2).length : Int) == ((rd_T60 l0 x7_2).f2)) = false := beq_eq_false_iff_ne.mpr c21
                    have c21b1 : (((rd_L1 l2_0 x7_2).length : Int) != ((rd_T60 l0 x7_2).f2)) = true := bne_iff_ne.mpr c21
                    obtain rfl := Option.some.inj H
                    have hcz36_0 : wr.cell? ⟨gb283, 0, none⟩ = some (.slice A2_0 l2_0.length c2_0) := (blk_cell BK283.out 0).trans rfl
                    have hcz36_1 : wr.cell? ⟨gb283, 1, none⟩ = some (.slice A2_1 l2_1.length c2_1) := (blk_cell BK283.out 1).trans rfl
                    have hcz36_2 : wr.cell? ⟨gb283, 2, none⟩ = some (.int .i64 a2_2) := (blk_cell BK283.out 2).trans rfl
                    have hcz36_3 : wr.cell? ⟨gb283, 3, none⟩ = some (.int .i64 a2_3) := (blk_cell BK283.out 3).trans rfl
                    have hfz36_0 := blk_frozen BK283.out 0
                    have hfz36_1 := blk_frozen BK283.out 1
                    have hfz36_2 := blk_frozen BK283.out 2
                    have hfz36_3 := blk_frozen BK283.out 3
                    have p284 : 0 ≤ (x7_2 : Int) := of_decide_eq_true (by first | (with_reducible assumption) | assumption)
                    have q284 : x7_2 < (l2_0.length : Int) := of_decide_eq_true (by first | (with_reducible assumption) | assumption)
                    obtain ⟨ad284, A284_0, c284_0, e284, hx284_0, hl284_0, hi284_0⟩ := at_L1 HR2_0.out x7_2 p284 q284; have hk284_0 := Aside0.mk hx284_0
                    cases e284
                    replace hx284_0 := (HB.out.cell (World.block_lt_of_cell? w _ hx284_0)).trans hx284_0
                    have HR284_0 := Aside0.mk hi284_0
                    have HC284_0 := Aside0.mk hl284_0
                    clear hi284_0 hl284_0
                    replace p284 := eq_true p284
                    replace q284 := eq_true q284
                    have p285 : 0 ≤ (x7_2 : Int) := of_decide_eq_true (by first | (with_reducible assumption) | assumption)
                    have q285 : x7_2 < (l0.length : Int) := of_decide_eq_true (by first | (with_reducible assumption) | assumption)
                    obtain ⟨ad285, e285, hx285_0, hx285_1, hx285_2, hx285_3, hx285_4⟩ := at_T60 HR0.out x7_2 p285 q285
                    cases e285
                    replace hx285_0 := (HB.out.cell (World.block_lt_of_cell? w _ hx285_0)).trans hx285_0
                    replace hx285_1 := (HB.out.cell (World.block_lt_of_cell? w _ hx285_1)).trans hx285_1
                    replace hx285_2 := (HB.out.cell (World.block_lt_of_cell? w _ hx285_2)).trans hx285_2
                    replace hx285_3 := (HB.out.cell (World.block_lt_of_cell? w _ hx285_3)).trans hx285_3
                    replace hx285_4 := (HB.out.cell (World.block_lt_of_cell? w _ hx285_4)).trans hx285_4
                    replace p285 := eq_true p285
                    replace q285 := eq_true q285
                    go_wp2
                    repeat (go_quiet (fail); try go_wp2)
                    go_ret
                    exact ⟨by first | rfl | (simp [errW_none, errW_some] <;> rfl) | (simp [*, errW_none, errW_some] <;> rfl), by repeat (first | (with_reducible first | exact HB.out | apply below_alloc | apply pw_below_drewN | apply below_drew1 | refine below_set ?_ GE283.out) | exact HB.out)⟩
                · rw [if_neg c20] at H
                  exact absurd H (by simp)
              · rw [if_neg c19] at H
                exact absurd H (by simp)
            · rw [if_neg c18] at H
              have c18b0 : decide (x7_2 < (l0.length : Int)) = false := decide_eq_false c18
              clear c18
              obtain rfl := Option.some.inj H
              go_wp2
              repeat (go_quiet (fail); try go_wp2)
              go_ret
              exact ⟨by first | rfl | (simp [errW_none, errW_some] <;> rfl) | (simp [*, errW_none, errW_some] <;> rfl), by repeat (first | (with_reducible first | exact HB.out | apply below_alloc | apply pw_below_drewN | apply below_drew1 | refine below_set ?_ GE283.out) | exact HB.out)⟩

end Go.Proofs.Ytamajfcjcfkkjaa.PSt
end

section
/- ref17.Tables, walked by hand: whether any variables and blocks are right. -/
namespace Go.Proofs.Ytamajfcjcfkkjaa.Given
open Go Go.RowKit Go.Proofs.Ytamajfcjcfkkjaa.PSt Go.Proofs.Ytamajfcjcfkkjaa.RPure Go.Proofs.YtamajfcjcfkkjaaW.PrintWords Go.Proofs.YtamajfcjcfkkjaaW.PrintLast Go.Proofs.YtamajfcjcfkkjaaW.PrintMore
set_option linter.unusedVariables false
set_option linter.unusedSimpArgs false
def goodV (x : S60) : Bool := decide (1 ≤ x.f1 ∧ x.f1 ≤ 6) && inF x.f1 x.f4 && decide (1 ≤ x.f2 ∧ x.f2 ≤ 16 ∧ 0 ≤ x.f3 ∧ x.f3 ≤ 2)
def goodB (x : S62) : Bool := decide (1 ≤ x.f1 ∧ x.f1 ≤ 8)
def tabF (v : List S60) (b : List S62) : Int := if 64 < v.length ∨ 32 < b.length then 5 else if v.all goodV = true then (if b.all goodB = true then 0 else 10) else 10
theorem all_not {α : Type} {p : α → Bool} {l : List α} {j : Nat} (h : j < l.length) (hp : p l[j] = false) : l.all p = false := by
  rw [Bool.eq_false_iff]; intro e
  rw [List.all_eq_true] at e
  rw [e _ (List.getElem_mem h)] at hp; cases hp
theorem all_upto {α : Type} {p : α → Bool} {l : List α} {n : Nat} (hn : l.length = n) (h : ∀ k (hk : k < l.length), k < n → p l[k] = true) : l.all p = true := by
  rw [List.all_eq_true]; intro x hx
  obtain ⟨j, hj, rfl⟩ := List.getElem_of_mem hx
  exact h j hj (by omega)
theorem rd_v (v : List S60) (i : Nat) (h : i < v.length) : rd_T60 v (i : Int) = v[i] := by unfold rd_T60; rw [Int.toNat_natCast, List.getD_eq_getElem?_getD, List.getElem?_eq_getElem h]; rfl
theorem rd_b (v : List S62) (i : Nat) (h : i < v.length) : rd_T62 v (i : Int) = v[i] := by unfold rd_T62; rw [Int.toNat_natCast, List.getD_eq_getElem?_getD, List.getElem?_eq_getElem h]; rfl
theorem D_below {w wr : World} (h : Drawn0 w wr) : Below w.heap.size w wr := by obtain ⟨m, rfl⟩ := h; exact pw_below_drewN (Below.refl _ _) m
theorem D_step {w wr : World} (h : Drawn0 w wr) (n : Nat) : Drawn0 w (wr.drewN n) := by obtain ⟨m, rfl⟩ := h; exact ⟨_, World.drewN_drewN _ _ _⟩
set_option maxHeartbeats 8000000 in
set_option maxRecDepth 100000 in
theorem tables_w (A0 A1 : Option Addr) (c0 c1 : Nat) (v : List S60) (b : List S62) (w : World) (g0 : Kd.C k60 w A0 v.length v) (g1 : Kd.C k62 w A1 b.length b) :
    Calls Try.prog 27 #[.slice A0 v.length c0, .slice A1 b.length c1] w fun e w' => e = .returned (.int .i64 (tabF v b)) ∧ Drawn0 w w' := by
  by_cases s1 : 64 < v.length
  · rw [show tabF v b = 5 from if_pos (.inl s1)]
    have d1 : decide ((v.length : Int) > 64) = true := decide_eq_true (by omega)
    go_enter Try.func27, Try.ntmps27
    go_wp2_with fail
    go_ret
    exact ⟨rfl, Drawn0.refl _⟩
  by_cases s2 : 32 < b.length
  · rw [show tabF v b = 5 from if_pos (.inr s2)]
    have d1 : decide ((v.length : Int) > 64) = false := decide_eq_false (by omega)
    have d2 : decide ((b.length : Int) > 32) = true := decide_eq_true (by omega)
    go_enter Try.func27, Try.ntmps27
    go_wp2_with fail
    go_ret
    exact ⟨rfl, Drawn0.refl _⟩
  obtain ⟨N, hN⟩ : ∃ N, v.length = N := ⟨_, rfl⟩
  obtain ⟨M, hM⟩ : ∃ M, b.length = M := ⟨_, rfl⟩
  have hT : tabF v b = if v.all goodV = true then (if b.all goodB = true then 0 else 10) else 10 := if_neg (by omega)
  rw [hN] at g0 s1 ⊢
  rw [hM] at g1 s2 ⊢
  have d1 : decide ((N : Int) > 64) = false := decide_eq_false (by omega)
  have d2 : decide ((M : Int) > 32) = false := decide_eq_false (by omega)
  have HN := Aside0.mk hN
  have HM := Aside0.mk hM
  have HT := Aside0.mk hT
  have G0 := Aside0.mk g0
  have G1 := Aside0.mk g1
  clear g0 g1 hN hM hT
  generalize tabF v b = R at HT ⊢
  go_enter Try.func27, Try.ntmps27
  go_wp2_with fail
  clear d1 d2
  go_loopw [5] (fun x wr => ∃ j : Nat, j ≤ N ∧ x = .int .i64 j ∧ Aside0 (∀ k (hk : k < v.length), k < j → goodV v[k] = true) ∧ Aside0 (Drawn0 w wr)) (fun x _ => N - (intOf x).toNat)
  case atStart => exact ⟨0, Nat.zero_le _, rfl, ⟨fun k hk h => by omega⟩, ⟨Drawn0.refl _⟩⟩
  case round =>
    obtain ⟨j, hj, rfl, HE, HD⟩ := hrel
    by_cases hlt : j < N
    · have hlv : j < v.length := by have := HN.out; omega
      obtain ⟨ad, rfl, k0, k1, k2, k3, k4⟩ := at_T60 (Kd.C_below G0.out (D_below HD.out)) (j : Int) (by omega) (by omega)
      rw [Int.toNat_natCast] at k0 k1 k2 k3 k4
      rw [rd_v v j hlv] at k0 k1 k2 k3 k4
      have HG := Aside0.mk (show goodV v[j] = goodV v[j] from rfl)
      obtain ⟨x, hx⟩ : ∃ x, x = v[j] := ⟨_, rfl⟩
      rw [← hx] at k0 k1 k2 k3 k4
      have HX := Aside0.mk hx
      clear hx
      have RI := fun W => ladderbackref01_Right.calls x.f1 _ W (rright_is x.f1)
      have IN := fun W => ladderbackref01_In.calls x.f1 x.f4 _ W (rin_is x.f1 x.f4)
      by_cases c1 : 1 ≤ x.f1 ∧ x.f1 ≤ 6
      rotate_left
      · skip
        rw [decide_eq_false c1] at RI
        have hb : goodV x = false := by
          rw [Bool.eq_false_iff]; intro e; unfold goodV at e; simp only [Bool.and_eq_true, decide_eq_true_eq] at e; first | exact c1 e.1.1 | exact c2 e.1.2 | omega
        have hr : R = 10 := by rw [HT.out, all_not hlv (by rw [← HX.out]; exact hb)]; rfl
        clear hb c1
        have RI := Aside0.mk RI
        have IN := Aside0.mk IN
        go_wp2_with fail; repeat (go_quiet (first | (go_at_call 39; (with_reducible refine (RI.out _).mono ?_); rintro e w' ⟨rfl, ⟨nd, rfl⟩⟩; (try first | exact ⟨rfl, _, World.drewN_drewN _ _ _⟩ | exact ⟨rfl, _, Eq.trans (World.drewN_drewN _ _ _) (congrArg (World.drewN _) (Nat.add_assoc _ _ _))⟩)) | (go_at_call 40; (with_reducible refine (IN.out _).mono ?_); rintro e w' ⟨rfl, ⟨nd, rfl⟩⟩; (try first | exact ⟨rfl, _, World.drewN_drewN _ _ _⟩ | exact ⟨rfl, _, Eq.trans (World.drewN_drewN _ _ _) (congrArg (World.drewN _) (Nat.add_assoc _ _ _))⟩))); try go_wp2)
        go_ret
        rw [hr]
        exact ⟨rfl, (by first | exact HD.out | exact D_step HD.out _)⟩
      have c1s := c1
      rw [decide_eq_true c1] at RI
      clear c1
      by_cases c2 : inF x.f1 x.f4 = true
      rotate_left
      · skip
        rw [(Bool.eq_false_iff).2 c2] at IN
        have hb : goodV x = false := by
          rw [Bool.eq_false_iff]; intro e; unfold goodV at e; simp only [Bool.and_eq_true, decide_eq_true_eq] at e; first | exact c1 e.1.1 | exact c2 e.1.2 | omega
        have hr : R = 10 := by rw [HT.out, all_not hlv (by rw [← HX.out]; exact hb)]; rfl
        clear hb c2
        have RI := Aside0.mk RI
        have IN := Aside0.mk IN
        go_wp2_with fail; repeat (go_quiet (first | (go_at_call 39; (with_reducible refine (RI.out _).mono ?_); rintro e w' ⟨rfl, ⟨nd, rfl⟩⟩; (try first | exact ⟨rfl, _, World.drewN_drewN _ _ _⟩ | exact ⟨rfl, _, Eq.trans (World.drewN_drewN _ _ _) (congrArg (World.drewN _) (Nat.add_assoc _ _ _))⟩)) | (go_at_call 40; (with_reducible refine (IN.out _).mono ?_); rintro e w' ⟨rfl, ⟨nd, rfl⟩⟩; (try first | exact ⟨rfl, _, World.drewN_drewN _ _ _⟩ | exact ⟨rfl, _, Eq.trans (World.drewN_drewN _ _ _) (congrArg (World.drewN _) (Nat.add_assoc _ _ _))⟩))); try go_wp2)
        go_ret
        rw [hr]
        exact ⟨rfl, (by first | exact HD.out | exact D_step HD.out _)⟩
      rw [c2] at IN
      by_cases c3 : 1 ≤ x.f2
      rotate_left
      · skip
        have dc3 : decide (x.f2 < 1) = true := decide_eq_true (by omega)
        have hb : goodV x = false := by
          rw [Bool.eq_false_iff]; intro e; unfold goodV at e; simp only [Bool.and_eq_true, decide_eq_true_eq] at e; first | exact c1 e.1.1 | exact c2 e.1.2 | omega
        have hr : R = 10 := by rw [HT.out, all_not hlv (by rw [← HX.out]; exact hb)]; rfl
        clear hb c3
        have RI := Aside0.mk RI
        have IN := Aside0.mk IN
        go_wp2_with fail; repeat (go_quiet (first | (go_at_call 39; (with_reducible refine (RI.out _).mono ?_); rintro e w' ⟨rfl, ⟨nd, rfl⟩⟩; (try first | exact ⟨rfl, _, World.drewN_drewN _ _ _⟩ | exact ⟨rfl, _, Eq.trans (World.drewN_drewN _ _ _) (congrArg (World.drewN _) (Nat.add_assoc _ _ _))⟩)) | (go_at_call 40; (with_reducible refine (IN.out _).mono ?_); rintro e w' ⟨rfl, ⟨nd, rfl⟩⟩; (try first | exact ⟨rfl, _, World.drewN_drewN _ _ _⟩ | exact ⟨rfl, _, Eq.trans (World.drewN_drewN _ _ _) (congrArg (World.drewN _) (Nat.add_assoc _ _ _))⟩))); try go_wp2)
        go_ret
        rw [hr]
        exact ⟨rfl, (by first | exact HD.out | exact D_step HD.out _)⟩
      have dc3 : decide (x.f2 < 1) = false := decide_eq_false (by omega)
      by_cases c4 : x.f2 ≤ 16
      rotate_left
      · skip
        have dc4 : decide (x.f2 > 16) = true := decide_eq_true (by omega)
        have hb : goodV x = false := by
          rw [Bool.eq_false_iff]; intro e; unfold goodV at e; simp only [Bool.and_eq_true, decide_eq_true_eq] at e; first | exact c1 e.1.1 | exact c2 e.1.2 | omega
        have hr : R = 10 := by rw [HT.out, all_not hlv (by rw [← HX.out]; exact hb)]; rfl
        clear hb c4
        have RI := Aside0.mk RI
        have IN := Aside0.mk IN
        go_wp2_with fail; repeat (go_quiet (first | (go_at_call 39; (with_reducible refine (RI.out _).mono ?_); rintro e w' ⟨rfl, ⟨nd, rfl⟩⟩; (try first | exact ⟨rfl, _, World.drewN_drewN _ _ _⟩ | exact ⟨rfl, _, Eq.trans (World.drewN_drewN _ _ _) (congrArg (World.drewN _) (Nat.add_assoc _ _ _))⟩)) | (go_at_call 40; (with_reducible refine (IN.out _).mono ?_); rintro e w' ⟨rfl, ⟨nd, rfl⟩⟩; (try first | exact ⟨rfl, _, World.drewN_drewN _ _ _⟩ | exact ⟨rfl, _, Eq.trans (World.drewN_drewN _ _ _) (congrArg (World.drewN _) (Nat.add_assoc _ _ _))⟩))); try go_wp2)
        go_ret
        rw [hr]
        exact ⟨rfl, (by first | exact HD.out | exact D_step HD.out _)⟩
      have dc4 : decide (x.f2 > 16) = false := decide_eq_false (by omega)
      by_cases c5 : 0 ≤ x.f3
      rotate_left
      · skip
        have dc5 : decide (x.f3 < 0) = true := decide_eq_true (by omega)
        have hb : goodV x = false := by
          rw [Bool.eq_false_iff]; intro e; unfold goodV at e; simp only [Bool.and_eq_true, decide_eq_true_eq] at e; first | exact c1 e.1.1 | exact c2 e.1.2 | omega
        have hr : R = 10 := by rw [HT.out, all_not hlv (by rw [← HX.out]; exact hb)]; rfl
        clear hb c5
        have RI := Aside0.mk RI
        have IN := Aside0.mk IN
        go_wp2_with fail; repeat (go_quiet (first | (go_at_call 39; (with_reducible refine (RI.out _).mono ?_); rintro e w' ⟨rfl, ⟨nd, rfl⟩⟩; (try first | exact ⟨rfl, _, World.drewN_drewN _ _ _⟩ | exact ⟨rfl, _, Eq.trans (World.drewN_drewN _ _ _) (congrArg (World.drewN _) (Nat.add_assoc _ _ _))⟩)) | (go_at_call 40; (with_reducible refine (IN.out _).mono ?_); rintro e w' ⟨rfl, ⟨nd, rfl⟩⟩; (try first | exact ⟨rfl, _, World.drewN_drewN _ _ _⟩ | exact ⟨rfl, _, Eq.trans (World.drewN_drewN _ _ _) (congrArg (World.drewN _) (Nat.add_assoc _ _ _))⟩))); try go_wp2)
        go_ret
        rw [hr]
        exact ⟨rfl, (by first | exact HD.out | exact D_step HD.out _)⟩
      have dc5 : decide (x.f3 < 0) = false := decide_eq_false (by omega)
      by_cases c6 : x.f3 ≤ 2
      rotate_left
      · skip
        have dc6 : decide (x.f3 > 2) = true := decide_eq_true (by omega)
        have hb : goodV x = false := by
          rw [Bool.eq_false_iff]; intro e; unfold goodV at e; simp only [Bool.and_eq_true, decide_eq_true_eq] at e; first | exact c1 e.1.1 | exact c2 e.1.2 | omega
        have hr : R = 10 := by rw [HT.out, all_not hlv (by rw [← HX.out]; exact hb)]; rfl
        clear hb c6
        have RI := Aside0.mk RI
        have IN := Aside0.mk IN
        go_wp2_with fail; repeat (go_quiet (first | (go_at_call 39; (with_reducible refine (RI.out _).mono ?_); rintro e w' ⟨rfl, ⟨nd, rfl⟩⟩; (try first | exact ⟨rfl, _, World.drewN_drewN _ _ _⟩ | exact ⟨rfl, _, Eq.trans (World.drewN_drewN _ _ _) (congrArg (World.drewN _) (Nat.add_assoc _ _ _))⟩)) | (go_at_call 40; (with_reducible refine (IN.out _).mono ?_); rintro e w' ⟨rfl, ⟨nd, rfl⟩⟩; (try first | exact ⟨rfl, _, World.drewN_drewN _ _ _⟩ | exact ⟨rfl, _, Eq.trans (World.drewN_drewN _ _ _) (congrArg (World.drewN _) (Nat.add_assoc _ _ _))⟩))); try go_wp2)
        go_ret
        rw [hr]
        exact ⟨rfl, (by first | exact HD.out | exact D_step HD.out _)⟩
      have dc6 : decide (x.f3 > 2) = false := decide_eq_false (by omega)
      have hg : goodV x = true := by unfold goodV; rw [decide_eq_true c1s, c2, decide_eq_true ⟨c3, c4, c5, c6⟩]; rfl
      clear c1s c2 c3 c4 c5 c6
      have RI := Aside0.mk RI
      have IN := Aside0.mk IN
      have HGX := Aside0.mk hg
      clear hg
      go_wp2_with fail; repeat (go_quiet (first | (go_at_call 39; (with_reducible refine (RI.out _).mono ?_); rintro e w' ⟨rfl, ⟨nd, rfl⟩⟩; (try first | exact ⟨rfl, _, World.drewN_drewN _ _ _⟩ | exact ⟨rfl, _, Eq.trans (World.drewN_drewN _ _ _) (congrArg (World.drewN _) (Nat.add_assoc _ _ _))⟩)) | (go_at_call 40; (with_reducible refine (IN.out _).mono ?_); rintro e w' ⟨rfl, ⟨nd, rfl⟩⟩; (try first | exact ⟨rfl, _, World.drewN_drewN _ _ _⟩ | exact ⟨rfl, _, Eq.trans (World.drewN_drewN _ _ _) (congrArg (World.drewN _) (Nat.add_assoc _ _ _))⟩))); try go_wp2)
      refine ⟨⟨j + 1, by omega, rfl, ⟨fun k hk h => ?_⟩, ⟨(by first | exact HD.out | exact D_step HD.out _)⟩⟩, by simp [intOf]; omega⟩
      rcases (by omega : k < j ∨ k = j) with h2 | rfl
      · exact HE.out k hk h2
      · rw [← HX.out]; exact HGX.out
    · have hgv : v.all goodV = true := all_upto HN.out (fun k hk h => HE.out k hk (by omega))
      have hT : R = if b.all goodB = true then 0 else 10 := by rw [HT.out, if_pos hgv]
      have HT := Aside0.mk hT
      clear hgv hT
      go_wp2_with fail
      go_loopw [6] (fun x wr => ∃ j : Nat, j ≤ M ∧ x = .int .i64 j ∧ Aside0 (∀ k (hk : k < b.length), k < j → goodB b[k] = true) ∧ Aside0 (Drawn0 w wr)) (fun x _ => M - (intOf x).toNat)
      case atStart => exact ⟨0, Nat.zero_le _, rfl, ⟨fun k hk h => by omega⟩, HD⟩
      case round =>
        clear HE HD
        obtain ⟨j, hj, rfl, HE, HD⟩ := hrel
        by_cases hlt : j < M
        · have hlv : j < b.length := by have := HM.out; omega
          obtain ⟨ad, rfl, k0, k1⟩ := at_T62 (Kd.C_below G1.out (D_below HD.out)) (j : Int) (by omega) (by omega)
          rw [Int.toNat_natCast] at k0 k1
          rw [rd_b b j hlv] at k0 k1
          obtain ⟨x, hx⟩ : ∃ x, x = b[j] := ⟨_, rfl⟩
          rw [← hx] at k0 k1
          have HX := Aside0.mk hx
          clear hx
          by_cases c1 : x.f1 < 1
          · have d1 : decide (x.f1 < 1) = true := decide_eq_true c1
            have hb : goodB x = false := decide_eq_false (by omega)
            have hr : R = 10 := by rw [HT.out, all_not hlv (by rw [← HX.out]; exact hb)]; rfl
            clear hb c1
            go_wp2_with fail
            go_ret
            rw [hr]
            exact ⟨rfl, (by first | exact HD.out | exact D_step HD.out _)⟩
          by_cases c2 : x.f1 > 8
          · have d1 : decide (x.f1 < 1) = false := decide_eq_false c1
            have d2 : decide (x.f1 > 8) = true := decide_eq_true c2
            have hb : goodB x = false := decide_eq_false (by omega)
            have hr : R = 10 := by rw [HT.out, all_not hlv (by rw [← HX.out]; exact hb)]; rfl
            clear hb c1 c2
            go_wp2_with fail
            go_ret
            rw [hr]
            exact ⟨rfl, (by first | exact HD.out | exact D_step HD.out _)⟩
          have d1 : decide (x.f1 < 1) = false := decide_eq_false c1
          have d2 : decide (x.f1 > 8) = false := decide_eq_false c2
          have HGX := Aside0.mk (show goodB x = true from decide_eq_true (by omega))
          clear c1 c2
          go_wp2_with fail
          refine ⟨⟨j + 1, by omega, rfl, ⟨fun k hk h => ?_⟩, ⟨(by first | exact HD.out | exact D_step HD.out _)⟩⟩, by simp [intOf]; omega⟩
          rcases (by omega : k < j ∨ k = j) with h2 | rfl
          · exact HE.out k hk h2
          · rw [← HX.out]; exact HGX.out
        · have hr : R = 0 := by rw [HT.out, if_pos (all_upto HM.out (fun k hk h => HE.out k hk (by omega)))]
          go_wp2_with fail
          go_ret
          rw [hr]
          exact ⟨rfl, (by first | exact HD.out | exact D_step HD.out _)⟩
def ladderbackref17_Tables.f (v : List S60) (b : List S62) : Option Int := some (tabF v b)
theorem ladderbackref17_Tables.calls (A0 : Option Addr) (c0 : Nat) (l0 : List S60) (A1 : Option Addr) (c1 : Nat) (l1 : List S62) (r : Int) (w : World) (hr0 : Kd.C k60 w A0 l0.length l0) (hc0 : l0.length ≤ c0) (hr1 : Kd.C k62 w A1 l1.length l1) (hc1 : l1.length ≤ c1) (h : ladderbackref17_Tables.f l0 l1 = some r) :
    Calls Try.prog 27 #[.slice A0 l0.length c0, .slice A1 l1.length c1] w fun e w' => e = .returned (.int .i64 r) ∧ Drawn0 w w' := by
  obtain rfl := Option.some.inj h
  exact tables_w A0 A1 c0 c1 l0 l1 w hr0 hr1
end Go.Proofs.Ytamajfcjcfkkjaa.Given
end
