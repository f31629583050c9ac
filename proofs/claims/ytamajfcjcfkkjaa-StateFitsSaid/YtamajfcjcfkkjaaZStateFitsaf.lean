/- Whether a number is a value of a type, as the program and the document tell it. -/
import Derived.Test.YtamajfcjcfkkjaaZStateFitsab
import Derived.Test.YtamajfcjcfkkjaaZStateFitsae
section
/- Printed by a program of this session (wip/pg.py, over the print of the kit): functions, their Lean twins, and the proofs that the calls come to them; each under the conditions that it names. -/
namespace Go.Proofs.Ytamajfcjcfkkjaa.PSt
open Go.RowKit Go.Proofs.YtamajfcjcfkkjaaW.PrintWords Go.Proofs.YtamajfcjcfkkjaaW.PrintLast Go.Proofs.YtamajfcjcfkkjaaW.PrintMore
attribute [local go_sem] max2_int min2_int max_two min_two max_three min_three max_four min_four   -- for this text's walks alone
set_option linter.unusedVariables false
set_option linter.unusedSimpArgs false

/-! ### state_Fits: function 25 -/
mutual
def state_Fits.j0 : Nat → List (S60) → Bool → List (List Int) → List (S69) → Int → Int → Option (Bool)
  | 0, _, _, _, _, _, _ => none
  | k + 1, x0, x44, x274000, x274001, x274002, x274003 => if x44 = true then (some false) else (state_Fits.l0 k x0 (x0.length : Int) 0 x274000 x274001 x274002 x274003)
def state_Fits.l0 : Nat → List (S60) → Int → Int → List (List Int) → List (S69) → Int → Int → Option (Bool)
  | 0, _, _, _, _, _, _, _ => none
  | k + 1, x45, x46, x47, x274000, x274001, x274002, x274003 => if x47 < x46 then (if 0 ≤ x47 then (if x47 < (x45.length : Int) then (if x47 < (x274000.length : Int) then (if ((rd_L1 x274000 x47).length : Int) = ((rd_T60 x45 x47).f2) then (state_Fits.l1 k x45 x46 x47 (rd_L1 x274000 x47) ((rd_L1 x274000 x47).length : Int) 0 x274000 x274001 x274002 x274003 ((rd_T60 x45 x47).f0) ((rd_T60 x45 x47).f1) ((rd_T60 x45 x47).f2) ((rd_T60 x45 x47).f3) ((rd_T60 x45 x47).f4)) else (some false)) else (none)) else (none)) else (none)) else (some true)
def state_Fits.l1 : Nat → List (S60) → Int → Int → List Int → Int → Int → List (List Int) → List (S69) → Int → Int → ByteArray → Int → Int → Int → Int → Option (Bool)
  | 0, _, _, _, _, _, _, _, _, _, _, _, _, _, _, _ => none
  | k + 1, x45, x46, x47, x65, x66, x67, x274000, x274001, x274002, x274003, x276000, x276001, x276002, x276003, x276004 => if x67 < x66 then (if 0 ≤ x67 then (if x67 < (x65.length : Int) then ((kind_In.f x276001 (rd x65 x67)).bind fun t279 => (if t279 = true then (state_Fits.l1 k x45 x46 x47 x65 x66 (wrap64 (x67 + 1)) x274000 x274001 x274002 x274003 x276000 x276001 x276002 x276003 x276004) else (some false))) else (none)) else (none)) else (state_Fits.l0 k x45 x46 (wrap64 (x47 + 1)) x274000 x274001 x274002 x274003)
end
def state_Fits.f (k : Nat) (l0 : List (S60)) (l1 : List (S62)) (l2_0 : List (List Int)) (l2_1 : List (S69)) (a2_2 : Int) (a2_3 : Int) : Option (Bool) := if (l2_0.length : Int) = (l0.length : Int) then (if (l2_1.length : Int) = (l1.length : Int) then (if a2_2 < 0 then (state_Fits.j0 k l0 true l2_0 l2_1 a2_2 a2_3) else (if a2_2 > 1099511627776 then (state_Fits.j0 k l0 true l2_0 l2_1 a2_2 a2_3) else (if a2_3 < 0 then (state_Fits.j0 k l0 true l2_0 l2_1 a2_2 a2_3) else (state_Fits.j0 k l0 (decide (a2_3 > 3)) l2_0 l2_1 a2_2 a2_3)))) else (state_Fits.j0 k l0 true l2_0 l2_1 a2_2 a2_3)) else (state_Fits.j0 k l0 true l2_0 l2_1 a2_2 a2_3)
set_option maxHeartbeats 8000000 in
set_option maxRecDepth 100000 in
theorem state_Fits.calls (k : Nat) (A0 : Option Addr) (c0 : Nat) (l0 : List (S60)) (A1 : Option Addr) (c1 : Nat) (l1 : List (S62)) (A2_0 : Option Addr) (c2_0 : Nat) (l2_0 : List (List Int)) (A2_1 : Option Addr) (c2_1 : Nat) (l2_1 : List (S69)) (a2_2 : Int) (a2_3 : Int) (r : Bool) (w : World) (hr0 : Kd.C k60 w A0 l0.length l0) (hc0 : l0.length ≤ c0) (hr1 : Kd.C k62 w A1 l1.length l1) (hc1 : l1.length ≤ c1) (hr2_0 : Kd.C (Kd.slice 3 (Kd.int .i64)) w A2_0 l2_0.length l2_0) (hc2_0 : l2_0.length ≤ c2_0) (hr2_1 : Kd.C k69 w A2_1 l2_1.length l2_1) (hc2_1 : l2_1.length ≤ c2_1) (h : state_Fits.f k l0 l1 l2_0 l2_1 a2_2 a2_3 = some r) :
    Calls Try.prog 25 #[.slice A0 l0.length c0, .slice A1 l1.length c1, .agg #[.slice A2_0 l2_0.length c2_0, .slice A2_1 l2_1.length c2_1, .int .i64 a2_2, .int .i64 a2_3]] w fun e w' => e = .returned (.bool r) ∧ Below w.heap.size w w' := by
  have hu31 := Try.underlying31
  have hu60 := Try.underlying60
  have HR0 := Aside0.mk hr0
  have HC0 := Aside0.mk hc0
  clear hr0 hc0
  have HR1 := Aside0.mk hr1
  have HC1 := Aside0.mk hc1
  clear hr1 hc1
  have HR2_0 := Aside0.mk hr2_0
  have HC2_0 := Aside0.mk hc2_0
  clear hr2_0 hc2_0
  have HR2_1 := Aside0.mk hr2_1
  have HC2_1 := Aside0.mk hc2_1
  clear hr2_1 hc2_1
  have HB := Aside0.mk (Below.refl w.heap.size w)
  have H : (if (l2_0.length : Int) = (l0.length : Int) then (if (l2_1.length : Int) = (l1.length : Int) then (if a2_2 < 0 then (state_Fits.j0 k l0 true l2_0 l2_1 a2_2 a2_3) else (if a2_2 > 1099511627776 then (state_Fits.j0 k l0 true l2_0 l2_1 a2_2 a2_3) else (if a2_3 < 0 then (state_Fits.j0 k l0 true l2_0 l2_1 a2_2 a2_3) else (state_Fits.j0 k l0 (decide (a2_3 > 3)) l2_0 l2_1 a2_2 a2_3)))) else (state_Fits.j0 k l0 true l2_0 l2_1 a2_2 a2_3)) else (state_Fits.j0 k l0 true l2_0 l2_1 a2_2 a2_3)) = some r := h
  clear h
  have HC4 := Aside0.mk H
  clear H
  go_enter Try.func25, Try.ntmps25
  go_upto_region 1 with (first | ((with_reducible refine gate_dst (N := 5) rfl ?_); (try (refine gate_guard (by rfl) ?_; dsimp only)); refine box_event ?hg (N := 5) ?hd (cs := #[.slice A2_0 l2_0.length c2_0, .slice A2_1 l2_1.length c2_1, .int .i64 a2_2, .int .i64 a2_3]) (t := 31) ?hr ?_; (case hd => rfl); (case hg => rfl); (case hr => first | (go_simp; done) | (go_simp; rfl)); intro gb273 hg w5 hbox hb; have n0_ := Aside0.mk (below_step (by repeat (first | (with_reducible first | exact HB.out | apply below_alloc | apply pw_below_drewN | apply below_drew1) | exact HB.out)) hb); have n1_ := Aside0.mk (hbox); have n2_ := Aside0.mk ((by rw [hg]; exact (below_size (by repeat (first | (with_reducible first | exact HB.out | apply below_alloc | apply pw_below_drewN | apply below_drew1) | exact HB.out))) : w.heap.size ≤ gb273)); have n3_ := Aside0.mk ((by rw [hg]; exact (below_size (by repeat (first | (with_reducible first | exact HB.out | apply below_alloc | apply pw_below_drewN | apply below_drew1) | exact HB.out))) : w.heap.size ≤ gb273)); clear HB; have HB := n0_; have BK273 := n1_; have GW273 := n2_; have GE273 := n3_; clear n0_ n1_ n2_ n3_; clear hb hbox hg))
  repeat (go_quiet (first | ((with_reducible refine gate_dst (N := 5) rfl ?_); (try (refine gate_guard (by rfl) ?_; dsimp only)); refine box_event ?hg (N := 5) ?hd (cs := #[.slice A2_0 l2_0.length c2_0, .slice A2_1 l2_1.length c2_1, .int .i64 a2_2, .int .i64 a2_3]) (t := 31) ?hr ?_; (case hd => rfl); (case hg => rfl); (case hr => first | (go_simp; done) | (go_simp; rfl)); intro gb273 hg w5 hbox hb; have n0_ := Aside0.mk (below_step (by repeat (first | (with_reducible first | exact HB.out | apply below_alloc | apply pw_below_drewN | apply below_drew1) | exact HB.out)) hb); have n1_ := Aside0.mk (hbox); have n2_ := Aside0.mk ((by rw [hg]; exact (below_size (by repeat (first | (with_reducible first | exact HB.out | apply below_alloc | apply pw_below_drewN | apply below_drew1) | exact HB.out))) : w.heap.size ≤ gb273)); have n3_ := Aside0.mk ((by rw [hg]; exact (below_size (by repeat (first | (with_reducible first | exact HB.out | apply below_alloc | apply pw_below_drewN | apply below_drew1) | exact HB.out))) : w.heap.size ≤ gb273)); clear HB; have HB := n0_; have BK273 := n1_; have GW273 := n2_; have GE273 := n3_; clear n0_ n1_ n2_ n3_; clear hb hbox hg)); go_upto_region 1 with (first | ((with_reducible refine gate_dst (N := 5) rfl ?_); (try (refine gate_guard (by rfl) ?_; dsimp only)); refine box_event ?hg (N := 5) ?hd (cs := #[.slice A2_0 l2_0.length c2_0, .slice A2_1 l2_1.length c2_1, .int .i64 a2_2, .int .i64 a2_3]) (t := 31) ?hr ?_; (case hd => rfl); (case hg => rfl); (case hr => first | (go_simp; done) | (go_simp; rfl)); intro gb273 hg w5 hbox hb; have n0_ := Aside0.mk (below_step (by repeat (first | (with_reducible first | exact HB.out | apply below_alloc | apply pw_below_drewN | apply below_drew1) | exact HB.out)) hb); have n1_ := Aside0.mk (hbox); have n2_ := Aside0.mk ((by rw [hg]; exact (below_size (by repeat (first | (with_reducible first | exact HB.out | apply below_alloc | apply pw_below_drewN | apply below_drew1) | exact HB.out))) : w.heap.size ≤ gb273)); have n3_ := Aside0.mk ((by rw [hg]; exact (below_size (by repeat (first | (with_reducible first | exact HB.out | apply below_alloc | apply pw_below_drewN | apply below_drew1) | exact HB.out))) : w.heap.size ≤ gb273)); clear HB; have HB := n0_; have BK273 := n1_; have GW273 := n2_; have GE273 := n3_; clear n0_ n1_ n2_ n3_; clear hb hbox hg)))
  (try simp only [Act.put, List.setIfInBounds_toArray, List.set_cons_zero, List.set_cons_succ])
  go_cut [44] (fun v44 wc => ∃ (kq : Nat) (x44_3 : Bool), v44 = .bool x44_3 ∧ Aside0 (state_Fits.j0 kq l0 x44_3 l2_0 l2_1 a2_2 a2_3 = some r) ∧ Aside0 (kq ≤ k) ∧ Aside0 (wc.heap[gb273]? = some (.cells #[(.slice A2_0 l2_0.length c2_0), (.slice A2_1 l2_1.length c2_1), .int .i64 a2_2, .int .i64 a2_3] 31 (0, 0))) ∧ Aside0 (Below w.heap.size w wc))
  case first =>
    have H := HC4.out
    clear HC4
    by_cases c6 : (l2_0.length : Int) = (l0.length : Int)
    · rw [if_pos c6] at H
      have c6b0 : ((l2_0.length : Int) == (l0.length : Int)) = true := beq_iff_eq.mpr c6
      have c6b1 : ((l2_0.length : Int) != (l0.length : Int)) = false := bne_eq_false_iff_eq.mpr c6
      have c6b2 : (l2_0.length == l0.length) = true := by first | simpa using c6 | (simp at c6 ⊢; omega)
      clear c6
      (first | rw [c6b0] | (simp only [i64_w, i32_w]; rw [c6b0]) | skip)
      by_cases c7 : (l2_1.length : Int) = (l1.length : Int)
      · rw [if_pos c7] at H
        have c7b0 : ((l2_1.length : Int) == (l1.length : Int)) = true := beq_iff_eq.mpr c7
        have c7b1 : ((l2_1.length : Int) != (l1.length : Int)) = false := bne_eq_false_iff_eq.mpr c7
        have c7b2 : (l2_1.length == l1.length) = true := by first | simpa using c7 | (simp at c7 ⊢; omega)
        clear c7
        by_cases c8 : a2_2 < 0
        · rw [if_pos c8] at H
          have c8b0 : decide (a2_2 < 0) = true := decide_eq_true c8
          clear c8
          have H' := Aside0.mk H
          clear H
          have hcz9_0 : w5.cell? ⟨gb273, 0, none⟩ = some (.slice A2_0 l2_0.length c2_0) := (blk_cell BK273.out 0).trans rfl
          have hcz9_1 : w5.cell? ⟨gb273, 1, none⟩ = some (.slice A2_1 l2_1.length c2_1) := (blk_cell BK273.out 1).trans rfl
          have hcz9_2 : w5.cell? ⟨gb273, 2, none⟩ = some (.int .i64 a2_2) := (blk_cell BK273.out 2).trans rfl
          have hcz9_3 : w5.cell? ⟨gb273, 3, none⟩ = some (.int .i64 a2_3) := (blk_cell BK273.out 3).trans rfl
          have hfz9_0 := blk_frozen BK273.out 0
          have hfz9_1 := blk_frozen BK273.out 1
          have hfz9_2 := blk_frozen BK273.out 2
          have hfz9_3 := blk_frozen BK273.out 3
          go_wp2
          repeat (go_quiet (fail); try go_wp2)
          go_meet
          case rel => exact ⟨_, (true), (by first | rfl | (simp; done) | (simp [*]; done)), H', ⟨by first | omega | exact Nat.le_refl _⟩, ⟨by (with_reducible repeat (first | refine blk_drewN ?_ _ | refine blk_drew ?_ | refine blk_alloc ?_ _)); exact BK273.out⟩, ⟨by repeat (first | (with_reducible first | exact HB.out | apply below_alloc | apply pw_below_drewN | apply below_drew1 | refine below_set ?_ GE273.out) | exact HB.out)⟩⟩
        · rw [if_neg c8] at H
          have c8b0 : decide (a2_2 < 0) = false := decide_eq_false c8
          clear c8
          by_cases c10 : a2_2 > 1099511627776
          · rw [if_pos c10] at H
            have c10b0 : decide (1099511627776 < a2_2) = true := decide_eq_true c10
            clear c10
            have H' := Aside0.mk H
            clear H
            have hcz11_0 : w5.cell? ⟨gb273, 0, none⟩ = some (.slice A2_0 l2_0.length c2_0) := (blk_cell BK273.out 0).trans rfl
            have hcz11_1 : w5.cell? ⟨gb273, 1, none⟩ = some (.slice A2_1 l2_1.length c2_1) := (blk_cell BK273.out 1).trans rfl
            have hcz11_2 : w5.cell? ⟨gb273, 2, none⟩ = some (.int .i64 a2_2) := (blk_cell BK273.out 2).trans rfl
            have hcz11_3 : w5.cell? ⟨gb273, 3, none⟩ = some (.int .i64 a2_3) := (blk_cell BK273.out 3).trans rfl
            have hfz11_0 := blk_frozen BK273.out 0
            have hfz11_1 := blk_frozen BK273.out 1
            have hfz11_2 := blk_frozen BK273.out 2
            have hfz11_3 := blk_frozen BK273.out 3
            go_wp2
            repeat (go_quiet (fail); try go_wp2)
            go_meet
            case rel => exact ⟨_, (true), (by first | rfl | (simp; done) | (simp [*]; done)), H', ⟨by first | omega | exact Nat.le_refl _⟩, ⟨by (with_reducible repeat (first | refine blk_drewN ?_ _ | refine blk_drew ?_ | refine blk_alloc ?_ _)); exact BK273.out⟩, ⟨by repeat (first | (with_reducible first | exact HB.out | apply below_alloc | apply pw_below_drewN | apply below_drew1 | refine below_set ?_ GE273.out) | exact HB.out)⟩⟩
          · rw [if_neg c10] at H
            have c10b0 : decide (1099511627776 < a2_2) = false := decide_eq_false c10
            clear c10
            by_cases c12 : a2_3 < 0
            · rw [if_pos c12] at H
              have c12b0 : decide (a2_3 < 0) = true := decide_eq_true c12
              clear c12
              have H' := Aside0.mk H
              clear H
              have hcz13_0 : w5.cell? ⟨gb273, 0, none⟩ = some (.slice A2_0 l2_0.length c2_0) := (blk_cell BK273.out 0).trans rfl
              have hcz13_1 : w5.cell? ⟨gb273, 1, none⟩ = some (.slice A2_1 l2_1.length c2_1) := (blk_cell BK273.out 1).trans rfl
              have hcz13_2 : w5.cell? ⟨gb273, 2, none⟩ = some (.int .i64 a2_2) := (blk_cell BK273.out 2).trans rfl
              have hcz13_3 : w5.cell? ⟨gb273, 3, none⟩ = some (.int .i64 a2_3) := (blk_cell BK273.out 3).trans rfl
              have hfz13_0 := blk_frozen BK273.out 0
              have hfz13_1 := blk_frozen BK273.out 1
              have hfz13_2 := blk_frozen BK273.out 2
              have hfz13_3 := blk_frozen BK273.out 3
              go_wp2
              repeat (go_quiet (fail); try go_wp2)
              go_meet
              case rel => exact ⟨_, (true), (by first | rfl | (simp; done) | (simp [*]; done)), H', ⟨by first | omega | exact Nat.le_refl _⟩, ⟨by (with_reducible repeat (first | refine blk_drewN ?_ _ | refine blk_drew ?_ | refine blk_alloc ?_ _)); exact BK273.out⟩, ⟨by repeat (first | (with_reducible first | exact HB.out | apply below_alloc | apply pw_below_drewN | apply below_drew1 | refine below_set ?_ GE273.out) | exact HB.out)⟩⟩
            · rw [if_neg c12] at H
              have c12b0 : decide (a2_3 < 0) = false := decide_eq_false c12
              clear c12
              have H' := Aside0.mk H
              clear H
              have hcz14_0 : w5.cell? ⟨gb273, 0, none⟩ = some (.slice A2_0 l2_0.length c2_0) := (blk_cell BK273.out 0).trans rfl
              have hcz14_1 : w5.cell? ⟨gb273, 1, none⟩ = some (.slice A2_1 l2_1.length c2_1) := (blk_cell BK273.out 1).trans rfl
              have hcz14_2 : w5.cell? ⟨gb273, 2, none⟩ = some (.int .i64 a2_2) := (blk_cell BK273.out 2).trans rfl
              have hcz14_3 : w5.cell? ⟨gb273, 3, none⟩ = some (.int .i64 a2_3) := (blk_cell BK273.out 3).trans rfl
              have hfz14_0 := blk_frozen BK273.out 0
              have hfz14_1 := blk_frozen BK273.out 1
              have hfz14_2 := blk_frozen BK273.out 2
              have hfz14_3 := blk_frozen BK273.out 3
              go_wp2
              repeat (go_quiet (fail); try go_wp2)
              go_meet
              case rel => exact ⟨_, (decide (a2_3 > 3)), (by first | rfl | (simp; done) | (simp [*]; done)), H', ⟨by first | omega | exact Nat.le_refl _⟩, ⟨by (with_reducible repeat (first | refine blk_drewN ?_ _ | refine blk_drew ?_ | refine blk_alloc ?_ _)); exact BK273.out⟩, ⟨by repeat (first | (with_reducible first | exact HB.out | apply below_alloc | apply pw_below_drewN | apply below_drew1 | refine below_set ?_ GE273.out) | exact HB.out)⟩⟩
      · rw [if_neg c7] at H
        have c7b0 : ((l2_1.length : Int) == (l1.length : Int)) = false := beq_eq_false_iff_ne.mpr c7
        have c7b1 : ((l2_1.length : Int) != (l1.length : Int)) = true := bne_iff_ne.mpr c7
        have c7b2 : (l2_1.length == l1.length) = false := by first | simpa using c7 | (simp at c7 ⊢; omega)
        have H' := Aside0.mk H
        clear H
        have hcz15_0 : w5.cell? ⟨gb273, 0, none⟩ = some (.slice A2_0 l2_0.length c2_0) := (blk_cell BK273.out 0).trans rfl
        have hcz15_1 : w5.cell? ⟨gb273, 1, none⟩ = some (.slice A2_1 l2_1.length c2_1) := (blk_cell BK273.out 1).trans rfl
        have hcz15_2 : w5.cell? ⟨gb273, 2, none⟩ = some (.int .i64 a2_2) := (blk_cell BK273.out 2).trans rfl
        have hcz15_3 : w5.cell? ⟨gb273, 3, none⟩ = some (.int .i64 a2_3) := (blk_cell BK273.out 3).trans rfl
        have hfz15_0 := blk_frozen BK273.out 0
        have hfz15_1 := blk_frozen BK273.out 1
        have hfz15_2 := blk_frozen BK273.out 2
        have hfz15_3 := blk_frozen BK273.out 3
        go_wp2
        repeat (go_quiet (fail); try go_wp2)
        go_meet
        case rel => exact ⟨_, (true), (by first | rfl | (simp; done) | (simp [*]; done)), H', ⟨by first | omega | exact Nat.le_refl _⟩, ⟨by (with_reducible repeat (first | refine blk_drewN ?_ _ | refine blk_drew ?_ | refine blk_alloc ?_ _)); exact BK273.out⟩, ⟨by repeat (first | (with_reducible first | exact HB.out | apply below_alloc | apply pw_below_drewN | apply below_drew1 | refine below_set ?_ GE273.out) | exact HB.out)⟩⟩
    · rw [if_neg c6] at H
      have c6b0 : ((l2_0.length : Int) == (l0.length : Int)) = false := beq_eq_false_iff_ne.mpr c6
      have c6b1 : ((l2_0.length : Int) != (l0.length : Int)) = true := bne_iff_ne.mpr c6
      have c6b2 : (l2_0.length == l0.length) = false := by first | simpa using c6 | (simp at c6 ⊢; omega)
      (first | rw [c6b0] | (simp only [i64_w, i32_w]; rw [c6b0]) | skip)
      have H' := Aside0.mk H
      clear H
      have hcz16_0 : w5.cell? ⟨gb273, 0, none⟩ = some (.slice A2_0 l2_0.length c2_0) := (blk_cell BK273.out 0).trans rfl
      have hcz16_1 : w5.cell? ⟨gb273, 1, none⟩ = some (.slice A2_1 l2_1.length c2_1) := (blk_cell BK273.out 1).trans rfl
      have hcz16_2 : w5.cell? ⟨gb273, 2, none⟩ = some (.int .i64 a2_2) := (blk_cell BK273.out 2).trans rfl
      have hcz16_3 : w5.cell? ⟨gb273, 3, none⟩ = some (.int .i64 a2_3) := (blk_cell BK273.out 3).trans rfl
      have hfz16_0 := blk_frozen BK273.out 0
      have hfz16_1 := blk_frozen BK273.out 1
      have hfz16_2 := blk_frozen BK273.out 2
      have hfz16_3 := blk_frozen BK273.out 3
      go_wp2
      repeat (go_quiet (fail); try go_wp2)
      go_meet
      case rel => exact ⟨_, (true), (by first | rfl | (simp; done) | (simp [*]; done)), H', ⟨by first | omega | exact Nat.le_refl _⟩, ⟨by (with_reducible repeat (first | refine blk_drewN ?_ _ | refine blk_drew ?_ | refine blk_alloc ?_ _)); exact BK273.out⟩, ⟨by repeat (first | (with_reducible first | exact HB.out | apply below_alloc | apply pw_below_drewN | apply below_drew1 | refine below_set ?_ GE273.out) | exact HB.out)⟩⟩
  case rest =>
    clear HC4
    try clear c1
    try clear c2
    try clear p2
    try clear c6
    try clear c6b0
    try clear c6b1
    try clear c6b2
    try clear c7
    try clear c7b0
    try clear c7b1
    try clear c7b2
    try clear c8
    try clear c8b0
    try clear c10
    try clear c10b0
    try clear c12
    try clear c12b0
    try clear hcz11_0
    try clear hcz11_1
    try clear hcz11_2
    try clear hcz11_3
    try clear hcz13_0
    try clear hcz13_1
    try clear hcz13_2
    try clear hcz13_3
    try clear hcz14_0
    try clear hcz14_1
    try clear hcz14_2
    try clear hcz14_3
    try clear hcz15_0
    try clear hcz15_1
    try clear hcz15_2
    try clear hcz15_3
    try clear hcz16_0
    try clear hcz16_1
    try clear hcz16_2
    try clear hcz16_3
    try clear hcz9_0
    try clear hcz9_1
    try clear hcz9_2
    try clear hcz9_3
    try clear hfz11_0
    try clear hfz11_1
    try clear hfz11_2
    try clear hfz11_3
    try clear hfz13_0
    try clear hfz13_1
    try clear hfz13_2
    try clear hfz13_3
    try clear hfz14_0
    try clear hfz14_1
    try clear hfz14_2
    try clear hfz14_3
    try clear hfz15_0
    try clear hfz15_1
    try clear hfz15_2
    try clear hfz15_3
    try clear hfz16_0
    try clear hfz16_1
    try clear hfz16_2
    try clear hfz16_3
    try clear hfz9_0
    try clear hfz9_1
    try clear hfz9_2
    try clear hfz9_3
    obtain ⟨kq, x44_3, rfl, HA, HJ3, BK273, HB⟩ := hcut
    cases kq with
    | zero => exact absurd HA.out (by simp [state_Fits.j0])
    | succ kj3 =>
      have H := HA.out
      clear HA
      simp only [state_Fits.j0] at H
      by_cases c17 : x44_3 = true
      · subst c17
        have H1 : (some false) = some r := by rw [if_pos rfl] at H; exact H
        clear H
        have H := H1
        clear H1
        obtain rfl := Option.some.inj H
        go_wp2
        repeat (go_quiet (fail); try go_wp2)
        go_ret
        exact ⟨by first | rfl | (simp [errW_none, errW_some] <;> rfl) | (simp [*, errW_none, errW_some] <;> rfl), by repeat (first | (with_reducible first | exact HB.out | apply below_alloc | apply pw_below_drewN | apply below_drew1 | refine below_set ?_ GE273.out) | exact HB.out)⟩
      · replace c17 := Bool.eq_false_iff.mpr c17
        subst c17
        have H1 : (state_Fits.l0 kj3 l0 (l0.length : Int) 0 l2_0 l2_1 a2_2 a2_3) = some r := by rw [if_neg (show ¬ (false = true) by decide)] at H; exact H
        clear H
        have H := H1
        clear H1
        have H' := Aside0.mk H
        clear H
        go_wp2
        repeat (go_quiet (fail); try go_wp2)
        go_loopg [47] kj3 (fun kq v47 w' => ∃ (x47_2 : Int), v47 = .int .i64 x47_2 ∧ Aside0 (state_Fits.l0 kq l0 (l0.length : Int) x47_2 l2_0 l2_1 a2_2 a2_3 = some r) ∧ Aside0 (kq ≤ kj3) ∧ Aside0 (w'.heap[gb273]? = some (.cells #[(.slice A2_0 l2_0.length c2_0), (.slice A2_1 l2_1.length c2_1), .int .i64 a2_2, .int .i64 a2_3] 31 (0, 0))) ∧ Aside0 (Below w.heap.size w w'))
        case atStart => exact ⟨(0), (by first | rfl | (simp; done) | (simp [*]; done)), H', ⟨Nat.le_refl _⟩, ⟨by (with_reducible repeat (first | refine blk_drewN ?_ _ | refine blk_drew ?_ | refine blk_alloc ?_ _)); exact BK273.out⟩, ⟨by repeat (first | (with_reducible first | exact HB.out | apply below_alloc | apply pw_below_drewN | apply below_drew1 | refine below_set ?_ GE273.out) | exact HB.out)⟩⟩
        case round =>
          clear H'
          try clear c1
          try clear c2
          try clear p2
          try clear c6
          try clear c6b0
          try clear c6b1
          try clear c6b2
          try clear c7
          try clear c7b0
          try clear c7b1
          try clear c7b2
          try clear c8
          try clear c8b0
          try clear c10
          try clear c10b0
          try clear c12
          try clear c12b0
          try clear c17
          try clear hcz11_0
          try clear hcz11_1
          try clear hcz11_2
          try clear hcz11_3
          try clear hcz13_0
          try clear hcz13_1
          try clear hcz13_2
          try clear hcz13_3
          try clear hcz14_0
          try clear hcz14_1
          try clear hcz14_2
          try clear hcz14_3
          try clear hcz15_0
          try clear hcz15_1
          try clear hcz15_2
          try clear hcz15_3
          try clear hcz16_0
          try clear hcz16_1
          try clear hcz16_2
          try clear hcz16_3
          try clear hcz9_0
          try clear hcz9_1
          try clear hcz9_2
          try clear hcz9_3
          try clear hfz11_0
          try clear hfz11_1
          try clear hfz11_2
          try clear hfz11_3
          try clear hfz13_0
          try clear hfz13_1
          try clear hfz13_2
          try clear hfz13_3
          try clear hfz14_0
          try clear hfz14_1
          try clear hfz14_2
          try clear hfz14_3
          try clear hfz15_0
          try clear hfz15_1
          try clear hfz15_2
          try clear hfz15_3
          try clear hfz16_0
          try clear hfz16_1
          try clear hfz16_2
          try clear hfz16_3
          try clear hfz9_0
          try clear hfz9_1
          try clear hfz9_2
          try clear hfz9_3
          try clear p2
          obtain ⟨x47_2, rfl, HA, HK2, BK273, HB⟩ := hrel
          cases gk with
          | zero => exact absurd HA.out (by simp [state_Fits.l0])
          | succ k2 =>
            have H := HA.out
            clear HA
            simp only [state_Fits.l0] at H
            by_cases c18 : x47_2 < (l0.length : Int)
            · rw [if_pos c18] at H
              have c18b0 : decide (x47_2 < (l0.length : Int)) = true := decide_eq_true c18
              clear c18
              by_cases c19 : 0 ≤ x47_2
              · rw [if_pos c19] at H
                have c19b0 : decide (0 ≤ x47_2) = true := decide_eq_true c19
                clear c19
                by_cases c20 : x47_2 < (l0.length : Int)
                · rw [if_pos c20] at H
                  have c20b0 : decide (x47_2 < (l0.length : Int)) = true := decide_eq_true c20
                  clear c20
                  by_cases c21 : x47_2 < (l2_0.length : Int)
                  · rw [if_pos c21] at H
                    have c21b0 : decide (x47_2 < (l2_0.length : Int)) = true := decide_eq_true c21
                    clear c21
                    by_cases c22 : ((rd_L1 l2_0 x47_2).length : Int) = ((rd_T60 l0 x47_2).f2)
                    · rw [if_pos c22] at H
                      have c22b0 : (((rd_L1 l2_0 x47_2).length : Int) == ((rd_T60 l0 x47_2).f2)) = true := beq_iff_eq.mpr c22
                      have c22b1 : (((rd_L1 l2_0 x47_2).length : Int) != ((rd_T60 l0 x47_2).f2)) = false := bne_eq_false_iff_eq.mpr c22
                      clear c22
                      have H' := Aside0.mk H
                      clear H
                      have p274 : 0 ≤ (x47_2 : Int) := of_decide_eq_true (by first | (with_reducible assumption) | assumption)
                      have q274 : x47_2 < (l0.length : Int) := of_decide_eq_true (by first | (with_reducible assumption) | assumption)
                      obtain ⟨ad274, e274, hx274_0, hx274_1, hx274_2, hx274_3, hx274_4⟩ := at_T60 HR0.out x47_2 p274 q274
                      cases e274
                      replace hx274_0 := (HB.out.cell (World.block_lt_of_cell? w _ hx274_0)).trans hx274_0
                      replace hx274_1 := (HB.out.cell (World.block_lt_of_cell? w _ hx274_1)).trans hx274_1
                      replace hx274_2 := (HB.out.cell (World.block_lt_of_cell? w _ hx274_2)).trans hx274_2
                      replace hx274_3 := (HB.out.cell (World.block_lt_of_cell? w _ hx274_3)).trans hx274_3
                      replace hx274_4 := (HB.out.cell (World.block_lt_of_cell? w _ hx274_4)).trans hx274_4
                      replace p274 := eq_true p274
                      replace q274 := eq_true q274
                      go_wp2_with (first | ((with_reducible refine gate_dst (N := 8) rfl ?_); (try (refine gate_guard (by rfl) ?_; dsimp only)); refine box_event ?hg (N := 8) ?hd (cs := #[.string (⟨#[]⟩ : ByteArray), .int .i64 0, .int .i64 0, .int .i64 0, .int .i64 0]) (t := 60) ?hr ?_; (case hd => rfl); (case hg => rfl); (case hr => first | (go_simp; done) | (go_simp; rfl)); intro gb275 hg w23 hbox hb; have n0_ := Aside0.mk (blk_below (g := gb273) (o := .cells #[.slice A2_0 l2_0.length c2_0, .slice A2_1 l2_1.length c2_1, .int .i64 a2_2, .int .i64 a2_3] 31 (0, 0)) (by (with_reducible repeat (first | refine blk_drewN ?_ _ | refine blk_drew ?_ | refine blk_alloc ?_ _)); exact BK273.out) hb); have n1_ := Aside0.mk (below_step (by repeat (first | (with_reducible first | exact HB.out | apply below_alloc | apply pw_below_drewN | apply below_drew1 | refine below_set ?_ GE273.out) | exact HB.out)) hb); have n2_ := Aside0.mk (hbox); have n3_ := Aside0.mk ((by rw [hg]; exact (below_size (by repeat (first | (with_reducible first | exact HB.out | apply below_alloc | apply pw_below_drewN | apply below_drew1 | refine below_set ?_ GE273.out) | exact HB.out))) : w.heap.size ≤ gb275)); have n4_ := Aside0.mk ((by rw [hg]; exact (below_size (by repeat (first | (with_reducible first | exact HB.out | apply below_alloc | apply pw_below_drewN | apply below_drew1 | refine below_set ?_ GE273.out) | exact HB.out))) : w.heap.size ≤ gb275)); have n5_ := Aside0.mk ((by rw [hg]; exact Nat.ne_of_lt (blk_lt (g := gb273) (o := .cells #[.slice A2_0 l2_0.length c2_0, .slice A2_1 l2_1.length c2_1, .int .i64 a2_2, .int .i64 a2_3] 31 (0, 0)) (by (with_reducible repeat (first | refine blk_drewN ?_ _ | refine blk_drew ?_ | refine blk_alloc ?_ _)); exact BK273.out)) : gb273 ≠ gb275)); have n6_ := Aside0.mk ((by rw [hg]; exact Nat.ne_of_gt (blk_lt (g := gb273) (o := .cells #[.slice A2_0 l2_0.length c2_0, .slice A2_1 l2_1.length c2_1, .int .i64 a2_2, .int .i64 a2_3] 31 (0, 0)) (by (with_reducible repeat (first | refine blk_drewN ?_ _ | refine blk_drew ?_ | refine blk_alloc ?_ _)); exact BK273.out)) : gb275 ≠ gb273)); clear BK273; clear HB; have BK273 := n0_; have HB := n1_; have BK275 := n2_; have GW275 := n3_; have GE275 := n4_; have NB273_275 := n5_; have NB275_273 := n6_; clear n0_ n1_ n2_ n3_ n4_ n5_ n6_; clear hb hbox hg; have hnb24 := NB275_273.out; have hnc24 := NB273_275.out; have hcz25_0 : w23.cell? ⟨gb275, 0, none⟩ = some (.string (⟨#[]⟩ : ByteArray)) := (blk_cell BK275.out 0).trans rfl; have hcz25_1 : w23.cell? ⟨gb275, 1, none⟩ = some (.int .i64 0) := (blk_cell BK275.out 1).trans rfl; have hcz25_2 : w23.cell? ⟨gb275, 2, none⟩ = some (.int .i64 0) := (blk_cell BK275.out 2).trans rfl; have hcz25_3 : w23.cell? ⟨gb275, 3, none⟩ = some (.int .i64 0) := (blk_cell BK275.out 3).trans rfl; have hcz25_4 : w23.cell? ⟨gb275, 4, none⟩ = some (.int .i64 0) := (blk_cell BK275.out 4).trans rfl; have hfz25_0 := blk_frozen BK275.out 0; have hfz25_1 := blk_frozen BK275.out 1; have hfz25_2 := blk_frozen BK275.out 2; have hfz25_3 := blk_frozen BK275.out 3; have hfz25_4 := blk_frozen BK275.out 4; have hcz26_0 : w23.cell? ⟨gb273, 0, none⟩ = some (.slice A2_0 l2_0.length c2_0) := (blk_cell BK273.out 0).trans rfl; have hcz26_1 : w23.cell? ⟨gb273, 1, none⟩ = some (.slice A2_1 l2_1.length c2_1) := (blk_cell BK273.out 1).trans rfl; have hcz26_2 : w23.cell? ⟨gb273, 2, none⟩ = some (.int .i64 a2_2) := (blk_cell BK273.out 2).trans rfl; have hcz26_3 : w23.cell? ⟨gb273, 3, none⟩ = some (.int .i64 a2_3) := (blk_cell BK273.out 3).trans rfl; have hfz26_0 := blk_frozen BK273.out 0; have hfz26_1 := blk_frozen BK273.out 1; have hfz26_2 := blk_frozen BK273.out 2; have hfz26_3 := blk_frozen BK273.out 3; have p276 : 0 ≤ (x47_2 : Int) := of_decide_eq_true (by first | (with_reducible assumption) | assumption); have q276 : x47_2 < (l2_0.length : Int) := of_decide_eq_true (by first | (with_reducible assumption) | assumption); obtain ⟨ad276, A276_0, c276_0, e276, hx276_0, hl276_0, hi276_0⟩ := at_L1 HR2_0.out x47_2 p276 q276; have hk276_0 := Aside0.mk hx276_0; cases e276; have hn276_0 : ad276.block ≠ gb275 := Nat.ne_of_lt (Nat.lt_of_lt_of_le (by have := World.block_lt_of_cell? _ _ hx276_0; first | rwa [add_block] at this | exact this) GW275.out); have hn276_1 : ad276.block ≠ gb275 := Nat.ne_of_lt (Nat.lt_of_lt_of_le (by have := World.block_lt_of_cell? _ _ hx276_0; first | rwa [add_block] at this | exact this) GW275.out); have hn276_2 : ad276.block ≠ gb275 := Nat.ne_of_lt (Nat.lt_of_lt_of_le (by have := World.block_lt_of_cell? _ _ hx276_0; first | rwa [add_block] at this | exact this) GW275.out); have hn276_3 : ad276.block ≠ gb275 := Nat.ne_of_lt (Nat.lt_of_lt_of_le (by have := World.block_lt_of_cell? _ _ hx276_0; first | rwa [add_block] at this | exact this) GW275.out); have hn276_4 : ad276.block ≠ gb275 := Nat.ne_of_lt (Nat.lt_of_lt_of_le (by have := World.block_lt_of_cell? _ _ hx276_0; first | rwa [add_block] at this | exact this) GW275.out); replace hx276_0 := (HB.out.cell (World.block_lt_of_cell? w _ hx276_0)).trans hx276_0; have HR276_0 := Aside0.mk hi276_0; have HC276_0 := Aside0.mk hl276_0; clear hi276_0 hl276_0; replace hx276_0 := (cell_far (p := ⟨gb275, 0, none⟩) (by first | (rw [add_block]; exact hn276_0) | (show (Addr.add _ _).block ≠ _; rw [add_block]; exact hn276_0) | exact hn276_0) (.string ((rd_T60 l0 x47_2).f0))).trans hx276_0; replace hx276_0 := (cell_far (p := ⟨gb275, 1, none⟩) (by first | (rw [add_block]; exact hn276_1) | (show (Addr.add _ _).block ≠ _; rw [add_block]; exact hn276_1) | exact hn276_1) (.int .i64 ((rd_T60 l0 x47_2).f1))).trans hx276_0; replace hx276_0 := (cell_far (p := ⟨gb275, 2, none⟩) (by first | (rw [add_block]; exact hn276_2) | (show (Addr.add _ _).block ≠ _; rw [add_block]; exact hn276_2) | exact hn276_2) (.int .i64 ((rd_T60 l0 x47_2).f2))).trans hx276_0; replace hx276_0 := (cell_far (p := ⟨gb275, 3, none⟩) (by first | (rw [add_block]; exact hn276_3) | (show (Addr.add _ _).block ≠ _; rw [add_block]; exact hn276_3) | exact hn276_3) (.int .i64 ((rd_T60 l0 x47_2).f3))).trans hx276_0; replace hx276_0 := (cell_far (p := ⟨gb275, 4, none⟩) (by first | (rw [add_block]; exact hn276_4) | (show (Addr.add _ _).block ≠ _; rw [add_block]; exact hn276_4) | exact hn276_4) (.int .i64 ((rd_T60 l0 x47_2).f4))).trans hx276_0; (try have hy276_0 := fun (n_ : Nat) => (show (((((((w23.drewN n_).setCell ⟨gb275, 0, none⟩ (.string ((rd_T60 l0 x47_2).f0))).setCell ⟨gb275, 1, none⟩ (.int .i64 ((rd_T60 l0 x47_2).f1))).setCell ⟨gb275, 2, none⟩ (.int .i64 ((rd_T60 l0 x47_2).f2))).setCell ⟨gb275, 3, none⟩ (.int .i64 ((rd_T60 l0 x47_2).f3))).setCell ⟨gb275, 4, none⟩ (.int .i64 ((rd_T60 l0 x47_2).f4)))).cell? _ = some _ from hx276_0)); clear hn276_0; clear hn276_1; clear hn276_2; clear hn276_3; clear hn276_4; replace p276 := eq_true p276; replace q276 := eq_true q276; have p277 : 0 ≤ (x47_2 : Int) := of_decide_eq_true (by first | (with_reducible assumption) | assumption); have q277 : x47_2 < (l2_0.length : Int) := of_decide_eq_true (by first | (with_reducible assumption) | assumption); obtain ⟨ad277, A277_0, c277_0, e277, hx277_0, hl277_0, hi277_0⟩ := at_L1 HR2_0.out x47_2 p277 q277; obtain rfl : ad276 = ad277 := (by injection e277); have z_ := hk276_0.out.symm.trans hx277_0; injection z_ with z_; injection z_ with z1_ _ z2_; subst z1_ z2_; have hn277_0 : ad276.block ≠ gb275 := Nat.ne_of_lt (Nat.lt_of_lt_of_le (by have := World.block_lt_of_cell? _ _ hx277_0; first | rwa [add_block] at this | exact this) GW275.out); have hn277_1 : ad276.block ≠ gb275 := Nat.ne_of_lt (Nat.lt_of_lt_of_le (by have := World.block_lt_of_cell? _ _ hx277_0; first | rwa [add_block] at this | exact this) GW275.out); have hn277_2 : ad276.block ≠ gb275 := Nat.ne_of_lt (Nat.lt_of_lt_of_le (by have := World.block_lt_of_cell? _ _ hx277_0; first | rwa [add_block] at this | exact this) GW275.out); have hn277_3 : ad276.block ≠ gb275 := Nat.ne_of_lt (Nat.lt_of_lt_of_le (by have := World.block_lt_of_cell? _ _ hx277_0; first | rwa [add_block] at this | exact this) GW275.out); have hn277_4 : ad276.block ≠ gb275 := Nat.ne_of_lt (Nat.lt_of_lt_of_le (by have := World.block_lt_of_cell? _ _ hx277_0; first | rwa [add_block] at this | exact this) GW275.out); replace hx277_0 := (HB.out.cell (World.block_lt_of_cell? w _ hx277_0)).trans hx277_0; have HR277_0 := Aside0.mk hi277_0; have HC277_0 := Aside0.mk hl277_0; clear hi277_0 hl277_0; replace hx277_0 := (cell_far (p := ⟨gb275, 0, none⟩) (by first | (rw [add_block]; exact hn277_0) | (show (Addr.add _ _).block ≠ _; rw [add_block]; exact hn277_0) | exact hn277_0) (.string ((rd_T60 l0 x47_2).f0))).trans hx277_0; replace hx277_0 := (cell_far (p := ⟨gb275, 1, none⟩) (by first | (rw [add_block]; exact hn277_1) | (show (Addr.add _ _).block ≠ _; rw [add_block]; exact hn277_1) | exact hn277_1) (.int .i64 ((rd_T60 l0 x47_2).f1))).trans hx277_0; replace hx277_0 := (cell_far (p := ⟨gb275, 2, none⟩) (by first | (rw [add_block]; exact hn277_2) | (show (Addr.add _ _).block ≠ _; rw [add_block]; exact hn277_2) | exact hn277_2) (.int .i64 ((rd_T60 l0 x47_2).f2))).trans hx277_0; replace hx277_0 := (cell_far (p := ⟨gb275, 3, none⟩) (by first | (rw [add_block]; exact hn277_3) | (show (Addr.add _ _).block ≠ _; rw [add_block]; exact hn277_3) | exact hn277_3) (.int .i64 ((rd_T60 l0 x47_2).f3))).trans hx277_0; replace hx277_0 := (cell_far (p := ⟨gb275, 4, none⟩) (by first | (rw [add_block]; exact hn277_4) | (show (Addr.add _ _).block ≠ _; rw [add_block]; exact hn277_4) | exact hn277_4) (.int .i64 ((rd_T60 l0 x47_2).f4))).trans hx277_0; (try have hy277_0 := fun (n_ : Nat) => (show (((((((w23.drewN n_).setCell ⟨gb275, 0, none⟩ (.string ((rd_T60 l0 x47_2).f0))).setCell ⟨gb275, 1, none⟩ (.int .i64 ((rd_T60 l0 x47_2).f1))).setCell ⟨gb275, 2, none⟩ (.int .i64 ((rd_T60 l0 x47_2).f2))).setCell ⟨gb275, 3, none⟩ (.int .i64 ((rd_T60 l0 x47_2).f3))).setCell ⟨gb275, 4, none⟩ (.int .i64 ((rd_T60 l0 x47_2).f4)))).cell? _ = some _ from hx277_0)); clear hn277_0; clear hn277_1; clear hn277_2; clear hn277_3; clear hn277_4; replace p277 := eq_true p277; replace q277 := eq_true q277))
                      repeat (go_quiet (first | ((with_reducible refine gate_dst (N := 8) rfl ?_); (try (refine gate_guard (by rfl) ?_; dsimp only)); refine box_event ?hg (N := 8) ?hd (cs := #[.string (⟨#[]⟩ : ByteArray), .int .i64 0, .int .i64 0, .int .i64 0, .int .i64 0]) (t := 60) ?hr ?_; (case hd => rfl); (case hg => rfl); (case hr => first | (go_simp; done) | (go_simp; rfl)); intro gb275 hg w23 hbox hb; have n0_ := Aside0.mk (blk_below (g := gb273) (o := .cells #[.slice A2_0 l2_0.length c2_0, .slice A2_1 l2_1.length c2_1, .int .i64 a2_2, .int .i64 a2_3] 31 (0, 0)) (by (with_reducible repeat (first | refine blk_drewN ?_ _ | refine blk_drew ?_ | refine blk_alloc ?_ _)); exact BK273.out) hb); have n1_ := Aside0.mk (below_step (by repeat (first | (with_reducible first | exact HB.out | apply below_alloc | apply pw_below_drewN | apply below_drew1 | refine below_set ?_ GE273.out) | exact HB.out)) hb); have n2_ := Aside0.mk (hbox); have n3_ := Aside0.mk ((by rw [hg]; exact (below_size (by repeat (first | (with_reducible first | exact HB.out | apply below_alloc | apply pw_below_drewN | apply below_drew1 | refine below_set ?_ GE273.out) | exact HB.out))) : w.heap.size ≤ gb275)); have n4_ := Aside0.mk ((by rw [hg]; exact (below_size (by repeat (first | (with_reducible first | exact HB.out | apply below_alloc | apply pw_below_drewN | apply below_drew1 | refine below_set ?_ GE273.out) | exact HB.out))) : w.heap.size ≤ gb275)); have n5_ := Aside0.mk ((by rw [hg]; exact Nat.ne_of_lt (blk_lt (g := gb273) (o := .cells #[.slice A2_0 l2_0.length c2_0, .slice A2_1 l2_1.length c2_1, .int .i64 a2_2, .int .i64 a2_3] 31 (0, 0)) (by (with_reducible repeat (first | refine blk_drewN ?_ _ | refine blk_drew ?_ | refine blk_alloc ?_ _)); exact BK273.out)) : gb273 ≠ gb275)); have n6_ := Aside0.mk ((by rw [hg]; exact Nat.ne_of_gt (blk_lt (g := gb273) (o := .cells #[.slice A2_0 l2_0.length c2_0, .slice A2_1 l2_1.length c2_1, .int .i64 a2_2, .int .i64 a2_3] 31 (0, 0)) (by (with_reducible repeat (first | refine blk_drewN ?_ _ | refine blk_drew ?_ | refine blk_alloc ?_ _)); exact BK273.out)) : gb275 ≠ gb273)); clear BK273; clear HB; have BK273 := n0_; have HB := n1_; have BK275 := n2_; have GW275 := n3_; have GE275 := n4_; have NB273_275 := n5_; have NB275_273 := n6_; clear n0_ n1_ n2_ n3_ n4_ n5_ n6_; clear hb hbox hg; have hnb24 := NB275_273.out; have hnc24 := NB273_275.out; have hcz25_0 : w23.cell? ⟨gb275, 0, none⟩ = some (.string (⟨#[]⟩ : ByteArray)) := (blk_cell BK275.out 0).trans rfl; have hcz25_1 : w23.cell? ⟨gb275, 1, none⟩ = some (.int .i64 0) := (blk_cell BK275.out 1).trans rfl; have hcz25_2 : w23.cell? ⟨gb275, 2, none⟩ = some (.int .i64 0) := (blk_cell BK275.out 2).trans rfl; have hcz25_3 : w23.cell? ⟨gb275, 3, none⟩ = some (.int .i64 0) := (blk_cell BK275.out 3).trans rfl; have hcz25_4 : w23.cell? ⟨gb275, 4, none⟩ = some (.int .i64 0) := (blk_cell BK275.out 4).trans rfl; have hfz25_0 := blk_frozen BK275.out 0; have hfz25_1 := blk_frozen BK275.out 1; have hfz25_2 := blk_frozen BK275.out 2; have hfz25_3 := blk_frozen BK275.out 3; have hfz25_4 := blk_frozen BK275.out 4; have hcz26_0 : w23.cell? ⟨gb273, 0, none⟩ = some (.slice A2_0 l2_0.length c2_0) := (blk_cell BK273.out 0).trans rfl; have hcz26_1 : w23.cell? ⟨gb273, 1, none⟩ = some (.slice A2_1 l2_1.length c2_1) := (blk_cell BK273.out 1).trans rfl; have hcz26_2 : w23.cell? ⟨gb273, 2, none⟩ = some (.int .i64 a2_2) := (blk_cell BK273.out 2).trans rfl; have hcz26_3 : w23.cell? ⟨gb273, 3, none⟩ = some (.int .i64 a2_3) := (blk_cell BK273.out 3).trans rfl; have hfz26_0 := blk_frozen BK273.out 0; have hfz26_1 := blk_frozen BK273.out 1; have hfz26_2 := blk_frozen BK273.out 2; have hfz26_3 := blk_frozen BK273.out 3; have p276 : 0 ≤ (x47_2 : Int) := of_decide_eq_true (by first | (with_reducible assumption) | assumption); have q276 : x47_2 < (l2_0.length : Int) := of_decide_eq_true (by first | (with_reducible assumption) | assumption); obtain ⟨ad276, A276_0, c276_0, e276, hx276_0, hl276_0, hi276_0⟩ := at_L1 HR2_0.out x47_2 p276 q276; have hk276_0 := Aside0.mk hx276_0; cases e276; have hn276_0 : ad276.block ≠ gb275 := Nat.ne_of_lt (Nat.lt_of_lt_of_le (by have := World.block_lt_of_cell? _ _ hx276_0; first | rwa [add_block] at this | exact this) GW275.out); have hn276_1 : ad276.block ≠ gb275 := Nat.ne_of_lt (Nat.lt_of_lt_of_le (by have := World.block_lt_of_cell? _ _ hx276_0; first | rwa [add_block] at this | exact this) GW275.out); have hn276_2 : ad276.block ≠ gb275 := Nat.ne_of_lt (Nat.lt_of_lt_of_le (by have := World.block_lt_of_cell? _ _ hx276_0; first | rwa [add_block] at this | exact this) GW275.out); have hn276_3 : ad276.block ≠ gb275 := Nat.ne_of_lt (Nat.lt_of_lt_of_le (by have := World.block_lt_of_cell? _ _ hx276_0; first | rwa [add_block] at this | exact this) GW275.out); have hn276_4 : ad276.block ≠ gb275 := Nat.ne_of_lt (Nat.lt_of_lt_of_le (by have := World.block_lt_of_cell? _ _ hx276_0; first | rwa [add_block] at this | exact this) GW275.out); replace hx276_0 := (HB.out.cell (World.block_lt_of_cell? w _ hx276_0)).trans hx276_0; have HR276_0 := Aside0.mk hi276_0; have HC276_0 := Aside0.mk hl276_0; clear hi276_0 hl276_0; replace hx276_0 := (cell_far (p := ⟨gb275, 0, none⟩) (by first | (rw [add_block]; exact hn276_0) | (show (Addr.add _ _).block ≠ _; rw [add_block]; exact hn276_0) | exact hn276_0) (.string ((rd_T60 l0 x47_2).f0))).trans hx276_0; replace hx276_0 := (cell_far (p := ⟨gb275, 1, none⟩) (by first | (rw [add_block]; exact hn276_1) | (show (Addr.add _ _).block ≠ _; rw [add_block]; exact hn276_1) | exact hn276_1) (.int .i64 ((rd_T60 l0 x47_2).f1))).trans hx276_0; replace hx276_0 := (cell_far (p := ⟨gb275, 2, none⟩) (by first | (rw [add_block]; exact hn276_2) | (show (Addr.add _ _).block ≠ _; rw [add_block]; exact hn276_2) | exact hn276_2) (.int .i64 ((rd_T60 l0 x47_2).f2))).trans hx276_0; replace hx276_0 := (cell_far (p := ⟨gb275, 3, none⟩) (by first | (rw [add_block]; exact hn276_3) | (show (Addr.add _ _).block ≠ _; rw [add_block]; exact hn276_3) | exact hn276_3) (.int .i64 ((rd_T60 l0 x47_2).f3))).trans hx276_0; replace hx276_0 := (cell_far (p := ⟨gb275, 4, none⟩) (by first | (rw [add_block]; exact hn276_4) | (show (Addr.add _ _).block ≠ _; rw [add_block]; exact hn276_4) | exact hn276_4) (.int .i64 ((rd_T60 l0 x47_2).f4))).trans hx276_0; (try have hy276_0 := fun (n_ : Nat) => (show (((((((w23.drewN n_).setCell ⟨gb275, 0, none⟩ (.string ((rd_T60 l0 x47_2).f0))).setCell ⟨gb275, 1, none⟩ (.int .i64 ((rd_T60 l0 x47_2).f1))).setCell ⟨gb275, 2, none⟩ (.int .i64 ((rd_T60 l0 x47_2).f2))).setCell ⟨gb275, 3, none⟩ (.int .i64 ((rd_T60 l0 x47_2).f3))).setCell ⟨gb275, 4, none⟩ (.int .i64 ((rd_T60 l0 x47_2).f4)))).cell? _ = some _ from hx276_0)); clear hn276_0; clear hn276_1; clear hn276_2; clear hn276_3; clear hn276_4; replace p276 := eq_true p276; replace q276 := eq_true q276; have p277 : 0 ≤ (x47_2 : Int) := of_decide_eq_true (by first | (with_reducible assumption) | assumption); have q277 : x47_2 < (l2_0.length : Int) := of_decide_eq_true (by first | (with_reducible assumption) | assumption); obtain ⟨ad277, A277_0, c277_0, e277, hx277_0, hl277_0, hi277_0⟩ := at_L1 HR2_0.out x47_2 p277 q277; obtain rfl : ad276 = ad277 := (by injection e277); have z_ := hk276_0.out.symm.trans hx277_0; injection z_ with z_; injection z_ with z1_ _ z2_; subst z1_ z2_; have hn277_0 : ad276.block ≠ gb275 := Nat.ne_of_lt (Nat.lt_of_lt_of_le (by have := World.block_lt_of_cell? _ _ hx277_0; first | rwa [add_block] at this | exact this) GW275.out); have hn277_1 : ad276.block ≠ gb275 := Nat.ne_of_lt (Nat.lt_of_lt_of_le (by have := World.block_lt_of_cell? _ _ hx277_0; first | rwa [add_block] at this | exact this) GW275.out); have hn277_2 : ad276.block ≠ gb275 := Nat.ne_of_lt (Nat.lt_of_lt_of_le (by have := World.block_lt_of_cell? _ _ hx277_0; first | rwa [add_block] at this | exact this) GW275.out); have hn277_3 : ad276.block ≠ gb275 := Nat.ne_of_lt (Nat.lt_of_lt_of_le (by have := World.block_lt_of_cell? _ _ hx277_0; first | rwa [add_block] at this | exact this) GW275.out); have hn277_4 : ad276.block ≠ gb275 := Nat.ne_of_lt (Nat.lt_of_lt_of_le (by have := World.block_lt_of_cell? _ _ hx277_0; first | rwa [add_block] at this | exact this) GW275.out); replace hx277_0 := (HB.out.cell (World.block_lt_of_cell? w _ hx277_0)).trans hx277_0; have HR277_0 := Aside0.mk hi277_0; have HC277_0 := Aside0.mk hl277_0; clear hi277_0 hl277_0; replace hx277_0 := (cell_far (p := ⟨gb275, 0, none⟩) (by first | (rw [add_block]; exact hn277_0) | (show (Addr.add _ _).block ≠ _; rw [add_block]; exact hn277_0) | exact hn277_0) (.string ((rd_T60 l0 x47_2).f0))).trans hx277_0; replace hx277_0 := (cell_far (p := ⟨gb275, 1, none⟩) (by first | (rw [add_block]; exact hn277_1) | (show (Addr.add _ _).block ≠ _; rw [add_block]; exact hn277_1) | exact hn277_1) (.int .i64 ((rd_T60 l0 x47_2).f1))).trans hx277_0; replace hx277_0 := (cell_far (p := ⟨gb275, 2, none⟩) (by first | (rw [add_block]; exact hn277_2) | (show (Addr.add _ _).block ≠ _; rw [add_block]; exact hn277_2) | exact hn277_2) (.int .i64 ((rd_T60 l0 x47_2).f2))).trans hx277_0; replace hx277_0 := (cell_far (p := ⟨gb275, 3, none⟩) (by first | (rw [add_block]; exact hn277_3) | (show (Addr.add _ _).block ≠ _; rw [add_block]; exact hn277_3) | exact hn277_3) (.int .i64 ((rd_T60 l0 x47_2).f3))).trans hx277_0; replace hx277_0 := (cell_far (p := ⟨gb275, 4, none⟩) (by first | (rw [add_block]; exact hn277_4) | (show (Addr.add _ _).block ≠ _; rw [add_block]; exact hn277_4) | exact hn277_4) (.int .i64 ((rd_T60 l0 x47_2).f4))).trans hx277_0; (try have hy277_0 := fun (n_ : Nat) => (show (((((((w23.drewN n_).setCell ⟨gb275, 0, none⟩ (.string ((rd_T60 l0 x47_2).f0))).setCell ⟨gb275, 1, none⟩ (.int .i64 ((rd_T60 l0 x47_2).f1))).setCell ⟨gb275, 2, none⟩ (.int .i64 ((rd_T60 l0 x47_2).f2))).setCell ⟨gb275, 3, none⟩ (.int .i64 ((rd_T60 l0 x47_2).f3))).setCell ⟨gb275, 4, none⟩ (.int .i64 ((rd_T60 l0 x47_2).f4)))).cell? _ = some _ from hx277_0)); clear hn277_0; clear hn277_1; clear hn277_2; clear hn277_3; clear hn277_4; replace p277 := eq_true p277; replace q277 := eq_true q277)); try go_wp2_with (first | ((with_reducible refine gate_dst (N := 8) rfl ?_); (try (refine gate_guard (by rfl) ?_; dsimp only)); refine box_event ?hg (N := 8) ?hd (cs := #[.string (⟨#[]⟩ : ByteArray), .int .i64 0, .int .i64 0, .int .i64 0, .int .i64 0]) (t := 60) ?hr ?_; (case hd => rfl); (case hg => rfl); (case hr => first | (go_simp; done) | (go_simp; rfl)); intro gb275 hg w23 hbox hb; have n0_ := Aside0.mk (blk_below (g := gb273) (o := .cells #[.slice A2_0 l2_0.length c2_0, .slice A2_1 l2_1.length c2_1, .int .i64 a2_2, .int .i64 a2_3] 31 (0, 0)) (by (with_reducible repeat (first | refine blk_drewN ?_ _ | refine blk_drew ?_ | refine blk_alloc ?_ _)); exact BK273.out) hb); have n1_ := Aside0.mk (below_step (by repeat (first | (with_reducible first | exact HB.out | apply below_alloc | apply pw_below_drewN | apply below_drew1 | refine below_set ?_ GE273.out) | exact HB.out)) hb); have n2_ := Aside0.mk (hbox); have n3_ := Aside0.mk ((by rw [hg]; exact (below_size (by repeat (first | (with_reducible first | exact HB.out | apply below_alloc | apply pw_below_drewN | apply below_drew1 | refine below_set ?_ GE273.out) | exact HB.out))) : w.heap.size ≤ gb275)); have n4_ := Aside0.mk ((by rw [hg]; exact (below_size (by repeat (first | (with_reducible first | exact HB.out | apply below_alloc | apply pw_below_drewN | apply below_drew1 | refine below_set ?_ GE273.out) | exact HB.out))) : w.heap.size ≤ gb275)); have n5_ := Aside0.mk ((by rw [hg]; exact Nat.ne_of_lt (blk_lt (g := gb273) (o := .cells #[.slice A2_0 l2_0.length c2_0, .slice A2_1 l2_1.length c2_1, .int .i64 a2_2, .int .i64 a2_3] 31 (0, 0)) (by (with_reducible repeat (first | refine blk_drewN ?_ _ | refine blk_drew ?_ | refine blk_alloc ?_ _)); exact BK273.out)) : gb273 ≠ gb275)); have n6_ := Aside0.mk ((by rw [hg]; exact Nat.ne_of_gt (blk_lt (g := gb273) (o := .cells #[.slice A2_0 l2_0.length c2_0, .slice A2_1 l2_1.length c2_1, .int .i64 a2_2, .int .i64 a2_3] 31 (0, 0)) (by (with_reducible repeat (first | refine blk_drewN ?_ _ | refine blk_drew ?_ | refine blk_alloc ?_ _)); exact BK273.out)) : gb275 ≠ gb273)); clear BK273; clear HB; have BK273 := n0_; have HB := n1_; have BK275 := n2_; have GW275 := n3_; have GE275 := n4_; have NB273_275 := n5_; have NB275_273 := n6_; clear n0_ n1_ n2_ n3_ n4_ n5_ n6_; clear hb hbox hg; have hnb24 := NB275_273.out; have hnc24 := NB273_275.out; have hcz25_0 : w23.cell? ⟨gb275, 0, none⟩ = some (.string (⟨#[]⟩ : ByteArray)) := (blk_cell BK275.out 0).trans rfl; have hcz25_1 : w23.cell? ⟨gb275, 1, none⟩ = some (.int .i64 0) := (blk_cell BK275.out 1).trans rfl; have hcz25_2 : w23.cell? ⟨gb275, 2, none⟩ = some (.int .i64 0) := (blk_cell BK275.out 2).trans rfl; have hcz25_3 : w23.cell? ⟨gb275, 3, none⟩ = some (.int .i64 0) := (blk_cell BK275.out 3).trans rfl; have hcz25_4 : w23.cell? ⟨gb275, 4, none⟩ = some (.int .i64 0) := (blk_cell BK275.out 4).trans rfl; have hfz25_0 := blk_frozen BK275.out 0; have hfz25_1 := blk_frozen BK275.out 1; have hfz25_2 := blk_frozen BK275.out 2; have hfz25_3 := blk_frozen BK275.out 3; have hfz25_4 := blk_frozen BK275.out 4; have hcz26_0 : w23.cell? ⟨gb273, 0, none⟩ = some (.slice A2_0 l2_0.length c2_0) := (blk_cell BK273.out 0).trans rfl; have hcz26_1 : w23.cell? ⟨gb273, 1, none⟩ = some (.slice A2_1 l2_1.length c2_1) := (blk_cell BK273.out 1).trans rfl; have hcz26_2 : w23.cell? ⟨gb273, 2, none⟩ = some (.int .i64 a2_2) := (blk_cell BK273.out 2).trans rfl; have hcz26_3 : w23.cell? ⟨gb273, 3, none⟩ = some (.int .i64 a2_3) := (blk_cell BK273.out 3).trans rfl; have hfz26_0 := blk_frozen BK273.out 0; have hfz26_1 := blk_frozen BK273.out 1; have hfz26_2 := blk_frozen BK273.out 2; have hfz26_3 := blk_frozen BK273.out 3; have p276 : 0 ≤ (x47_2 : Int) := of_decide_eq_true (by first | (with_reducible assumption) | assumption); have q276 : x47_2 < (l2_0.length : Int) := of_decide_eq_true (by first | (with_reducible assumption) | assumption); obtain ⟨ad276, A276_0, c276_0, e276, hx276_0, hl276_0, hi276_0⟩ := at_L1 HR2_0.out x47_2 p276 q276; have hk276_0 := Aside0.mk hx276_0; cases e276; have hn276_0 : ad276.block ≠ gb275 := Nat.ne_of_lt (Nat.lt_of_lt_of_le (by have := World.block_lt_of_cell? _ _ hx276_0; first | rwa [add_block] at this | exact this) GW275.out); have hn276_1 : ad276.block ≠ gb275 := Nat.ne_of_lt (Nat.lt_of_lt_of_le (by have := World.block_lt_of_cell? _ _ hx276_0; first | rwa [add_block] at this | exact this) GW275.out); have hn276_2 : ad276.block ≠ gb275 := Nat.ne_of_lt (Nat.lt_of_lt_of_le (by have := World.block_lt_of_cell? _ _ hx276_0; first | rwa [add_block] at this | exact this) GW275.out); have hn276_3 : ad276.block ≠ gb275 := Nat.ne_of_lt (Nat.lt_of_lt_of_le (by have := World.block_lt_of_cell? _ _ hx276_0; first | rwa [add_block] at this | exact this) GW275.out); have hn276_4 : ad276.block ≠ gb275 := Nat.ne_of_lt (Nat.lt_of_lt_of_le (by have := World.block_lt_of_cell? _ _ hx276_0; first | rwa [add_block] at this | exact this) GW275.out); replace hx276_0 := (HB.out.cell (World.block_lt_of_cell? w _ hx276_0)).trans hx276_0; have HR276_0 := Aside0.mk hi276_0; have HC276_0 := Aside0.mk hl276_0; clear hi276_0 hl276_0; replace hx276_0 := (cell_far (p := ⟨gb275, 0, none⟩) (by first | (rw [add_block]; exact hn276_0) | (show (Addr.add _ _).block ≠ _; rw [add_block]; exact hn276_0) | exact hn276_0) (.string ((rd_T60 l0 x47_2).f0))).trans hx276_0; replace hx276_0 := (cell_far (p := ⟨gb275, 1, none⟩) (by first | (rw [add_block]; exact hn276_1) | (show (Addr.add _ _).block ≠ _; rw [add_block]; exact hn276_1) | exact hn276_1) (.int .i64 ((rd_T60 l0 x47_2).f1))).trans hx276_0; replace hx276_0 := (cell_far (p := ⟨gb275, 2, none⟩) (by first | (rw [add_block]; exact hn276_2) | (show (Addr.add _ _).block ≠ _; rw [add_block]; exact hn276_2) | exact hn276_2) (.int .i64 ((rd_T60 l0 x47_2).f2))).trans hx276_0; replace hx276_0 := (cell_far (p := ⟨gb275, 3, none⟩) (by first | (rw [add_block]; exact hn276_3) | (show (Addr.add _ _).block ≠ _; rw [add_block]; exact hn276_3) | exact hn276_3) (.int .i64 ((rd_T60 l0 x47_2).f3))).trans hx276_0; replace hx276_0 := (cell_far (p := ⟨gb275, 4, none⟩) (by first | (rw [add_block]; exact hn276_4) | (show (Addr.add _ _).block ≠ _; rw [add_block]; exact hn276_4) | exact hn276_4) (.int .i64 ((rd_T60 l0 x47_2).f4))).trans hx276_0; (try have hy276_0 := fun (n_ : Nat) => (show (((((((w23.drewN n_).setCell ⟨gb275, 0, none⟩ (.string ((rd_T60 l0 x47_2).f0))).setCell ⟨gb275, 1, none⟩ (.int .i64 ((rd_T60 l0 x47_2).f1))).setCell ⟨gb275, 2, none⟩ (.int .i64 ((rd_T60 l0 x47_2).f2))).setCell ⟨gb275, 3, none⟩ (.int .i64 ((rd_T60 l0 x47_2).f3))).setCell ⟨gb275, 4, none⟩ (.int .i64 ((rd_T60 l0 x47_2).f4)))).cell? _ = some _ from hx276_0)); clear hn276_0; clear hn276_1; clear hn276_2; clear hn276_3; clear hn276_4; replace p276 := eq_true p276; replace q276 := eq_true q276; have p277 : 0 ≤ (x47_2 : Int) := of_decide_eq_true (by first | (with_reducible assumption) | assumption); have q277 : x47_2 < (l2_0.length : Int) := of_decide_eq_true (by first | (with_reducible assumption) | assumption); obtain ⟨ad277, A277_0, c277_0, e277, hx277_0, hl277_0, hi277_0⟩ := at_L1 HR2_0.out x47_2 p277 q277; obtain rfl : ad276 = ad277 := (by injection e277); have z_ := hk276_0.out.symm.trans hx277_0; injection z_ with z_; injection z_ with z1_ _ z2_; subst z1_ z2_; have hn277_0 : ad276.block ≠ gb275 := Nat.ne_of_lt (Nat.lt_of_lt_of_le (by have := World.block_lt_of_cell? _ _ hx277_0; first | rwa [add_block] at this | exact this) GW275.out); have hn277_1 : ad276.block ≠ gb275 := Nat.ne_of_lt (Nat.lt_of_lt_of_le (by have := World.block_lt_of_cell? _ _ hx277_0; first | rwa [add_block] at this | exact this) GW275.out); have hn277_2 : ad276.block ≠ gb275 := Nat.ne_of_lt (Nat.lt_of_lt_of_le (by have := World.block_lt_of_cell? _ _ hx277_0; first | rwa [add_block] at this | exact this) GW275.out); have hn277_3 : ad276.block ≠ gb275 := Nat.ne_of_lt (Nat.lt_of_lt_of_le (by have := World.block_lt_of_cell? _ _ hx277_0; first | rwa [add_block] at this | exact this) GW275.out); have hn277_4 : ad276.block ≠ gb275 := Nat.ne_of_lt (Nat.lt_of_lt_of_le (by have := World.block_lt_of_cell? _ _ hx277_0; first | rwa [add_block] at this | exact this) GW275.out); replace hx277_0 := (HB.out.cell (World.block_lt_of_cell? w _ hx277_0)).trans hx277_0; have HR277_0 := Aside0.mk hi277_0; have HC277_0 := Aside0.mk hl277_0; clear hi277_0 hl277_0; replace hx277_0 := (cell_far (p := ⟨gb275, 0, none⟩) (by first | (rw [add_block]; exact hn277_0) | (show (Addr.add _ _).block ≠ _; rw [add_block]; exact hn277_0) | exact hn277_0) (.string ((rd_T60 l0 x47_2).f0))).trans hx277_0; replace hx277_0 := (cell_far (p := ⟨gb275, 1, none⟩) (by first | (rw [add_block]; exact hn277_1) | (show (Addr.add _ _).block ≠ _; rw [add_block]; exact hn277_1) | exact hn277_1) (.int .i64 ((rd_T60 l0 x47_2).f1))).trans hx277_0; replace hx277_0 := (cell_far (p := ⟨gb275, 2, none⟩) (by first | (rw [add_block]; exact hn277_2) | (show (Addr.add _ _).block ≠ _; rw [add_block]; exact hn277_2) | exact hn277_2) (.int .i64 ((rd_T60 l0 x47_2).f2))).trans hx277_0; replace hx277_0 := (cell_far (p := ⟨gb275, 3, none⟩) (by first | (rw [add_block]; exact hn277_3) | (show (Addr.add _ _).block ≠ _; rw [add_block]; exact hn277_3) | exact hn277_3) (.int .i64 ((rd_T60 l0 x47_2).f3))).trans hx277_0; replace hx277_0 := (cell_far (p := ⟨gb275, 4, none⟩) (by first | (rw [add_block]; exact hn277_4) | (show (Addr.add _ _).block ≠ _; rw [add_block]; exact hn277_4) | exact hn277_4) (.int .i64 ((rd_T60 l0 x47_2).f4))).trans hx277_0; (try have hy277_0 := fun (n_ : Nat) => (show (((((((w23.drewN n_).setCell ⟨gb275, 0, none⟩ (.string ((rd_T60 l0 x47_2).f0))).setCell ⟨gb275, 1, none⟩ (.int .i64 ((rd_T60 l0 x47_2).f1))).setCell ⟨gb275, 2, none⟩ (.int .i64 ((rd_T60 l0 x47_2).f2))).setCell ⟨gb275, 3, none⟩ (.int .i64 ((rd_T60 l0 x47_2).f3))).setCell ⟨gb275, 4, none⟩ (.int .i64 ((rd_T60 l0 x47_2).f4)))).cell? _ = some _ from hx277_0)); clear hn277_0; clear hn277_1; clear hn277_2; clear hn277_3; clear hn277_4; replace p277 := eq_true p277; replace q277 := eq_true q277)))
                      go_loopg [67] k2 (fun kq v67 w' => ∃ (x67_3 : Int), v67 = .int .i64 x67_3 ∧ Aside0 (state_Fits.l1 kq l0 (l0.length : Int) x47_2 (rd_L1 l2_0 x47_2) ((rd_L1 l2_0 x47_2).length : Int) x67_3 l2_0 l2_1 a2_2 a2_3 ((rd_T60 l0 x47_2).f0) ((rd_T60 l0 x47_2).f1) ((rd_T60 l0 x47_2).f2) ((rd_T60 l0 x47_2).f3) ((rd_T60 l0 x47_2).f4) = some r) ∧ Aside0 (kq ≤ k2) ∧ Aside0 (w'.heap[gb273]? = some (.cells #[(.slice (some ad276) l2_0.length c2_0), (.slice A2_1 l2_1.length c2_1), .int .i64 a2_2, .int .i64 a2_3] 31 (0, 0))) ∧ Aside0 (w'.heap[gb275]? = some (.cells #[.string ((rd_T60 l0 x47_2).f0), .int .i64 ((rd_T60 l0 x47_2).f1), .int .i64 ((rd_T60 l0 x47_2).f2), .int .i64 ((rd_T60 l0 x47_2).f3), .int .i64 ((rd_T60 l0 x47_2).f4)] 60 (0, 0))) ∧ Aside0 (Below w.heap.size w w'))
                      case atStart => exact ⟨(0), (by first | rfl | (simp; done) | (simp [*]; done)), H', ⟨Nat.le_refl _⟩, ⟨by (with_reducible repeat (first | refine blk_drewN ?_ _ | refine blk_drew ?_ | refine blk_alloc ?_ _)); refine blk_far ?_ NB273_275.out _; (with_reducible repeat (first | refine blk_drewN ?_ _ | refine blk_drew ?_ | refine blk_alloc ?_ _)); refine blk_far ?_ NB273_275.out _; (with_reducible repeat (first | refine blk_drewN ?_ _ | refine blk_drew ?_ | refine blk_alloc ?_ _)); refine blk_far ?_ NB273_275.out _; (with_reducible repeat (first | refine blk_drewN ?_ _ | refine blk_drew ?_ | refine blk_alloc ?_ _)); refine blk_far ?_ NB273_275.out _; (with_reducible repeat (first | refine blk_drewN ?_ _ | refine blk_drew ?_ | refine blk_alloc ?_ _)); refine blk_far ?_ NB273_275.out _; (with_reducible repeat (first | refine blk_drewN ?_ _ | refine blk_drew ?_ | refine blk_alloc ?_ _)); exact BK273.out⟩, ⟨by (with_reducible repeat (first | refine blk_drewN ?_ _ | refine blk_drew ?_ | refine blk_alloc ?_ _)); refine blk_put (cs := #[.string ((rd_T60 l0 x47_2).f0), .int .i64 ((rd_T60 l0 x47_2).f1), .int .i64 ((rd_T60 l0 x47_2).f2), .int .i64 ((rd_T60 l0 x47_2).f3), .int .i64 0]) ?_ 4 _ rfl; (with_reducible repeat (first | refine blk_drewN ?_ _ | refine blk_drew ?_ | refine blk_alloc ?_ _)); refine blk_put (cs := #[.string ((rd_T60 l0 x47_2).f0), .int .i64 ((rd_T60 l0 x47_2).f1), .int .i64 ((rd_T60 l0 x47_2).f2), .int .i64 0, .int .i64 0]) ?_ 3 _ rfl; (with_reducible repeat (first | refine blk_drewN ?_ _ | refine blk_drew ?_ | refine blk_alloc ?_ _)); refine blk_put (cs := #[.string ((rd_T60 l0 x47_2).f0), .int .i64 ((rd_T60 l0 x47_2).f1), .int .i64 0, .int .i64 0, .int .i64 0]) ?_ 2 _ rfl; (with_reducible repeat (first | refine blk_drewN ?_ _ | refine blk_drew ?_ | refine blk_alloc ?_ _)); refine blk_put (cs := #[.string ((rd_T60 l0 x47_2).f0), .int .i64 0, .int .i64 0, .int .i64 0, .int .i64 0]) ?_ 1 _ rfl; (with_reducible repeat (first | refine blk_drewN ?_ _ | refine blk_drew ?_ | refine blk_alloc ?_ _)); refine blk_put (cs := #[.string (⟨#[]⟩ : ByteArray), .int .i64 0, .int .i64 0, .int .i64 0, .int .i64 0]) ?_ 0 _ rfl; (with_reducible repeat (first | refine blk_drewN ?_ _ | refine blk_drew ?_ | refine blk_alloc ?_ _)); exact BK275.out⟩, ⟨by repeat (first | (with_reducible first | exact HB.out | apply below_alloc | apply pw_below_drewN | apply below_drew1 | refine below_set ?_ GE273.out | refine below_set ?_ GE275.out) | exact HB.out)⟩⟩
                      case round =>
                        clear H'
                        try clear c1
                        try clear c2
                        try clear p2
                        try clear q2
                        try clear hx2
                        try clear c6
                        try clear c6b0
                        try clear c6b1
                        try clear c6b2
                        try clear c7
                        try clear c7b0
                        try clear c7b1
                        try clear c7b2
                        try clear c8
                        try clear c8b0
                        try clear c10
                        try clear c10b0
                        try clear c12
                        try clear c12b0
                        try clear c17
                        try clear c18
                        try clear c18b0
                        try clear c19
                        try clear c19b0
                        try clear c20
                        try clear c20b0
                        try clear c21
                        try clear c21b0
                        try clear c22
                        try clear c22b0
                        try clear c22b1
                        try clear c24
                        try clear c25
                        try clear hcz11_0
                        try clear hcz11_1
                        try clear hcz11_2
                        try clear hcz11_3
                        try clear hcz13_0
                        try clear hcz13_1
                        try clear hcz13_2
                        try clear hcz13_3
                        try clear hcz14_0
                        try clear hcz14_1
                        try clear hcz14_2
                        try clear hcz14_3
                        try clear hcz15_0
                        try clear hcz15_1
                        try clear hcz15_2
                        try clear hcz15_3
                        try clear hcz16_0
                        try clear hcz16_1
                        try clear hcz16_2
                        try clear hcz16_3
                        try clear hcz25_0
                        try clear hcz25_1
                        try clear hcz25_2
                        try clear hcz25_3
                        try clear hcz25_4
                        try clear hcz26_0
                        try clear hcz26_1
                        try clear hcz26_2
                        try clear hcz26_3
                        try clear hcz9_0
                        try clear hcz9_1
                        try clear hcz9_2
                        try clear hcz9_3
                        try clear hfz11_0
                        try clear hfz11_1
                        try clear hfz11_2
                        try clear hfz11_3
                        try clear hfz13_0
                        try clear hfz13_1
                        try clear hfz13_2
                        try clear hfz13_3
                        try clear hfz14_0
                        try clear hfz14_1
                        try clear hfz14_2
                        try clear hfz14_3
                        try clear hfz15_0
                        try clear hfz15_1
                        try clear hfz15_2
                        try clear hfz15_3
                        try clear hfz16_0
                        try clear hfz16_1
                        try clear hfz16_2
                        try clear hfz16_3
                        try clear hfz25_0
                        try clear hfz25_1
                        try clear hfz25_2
                        try clear hfz25_3
                        try clear hfz25_4
                        try clear hfz26_0
                        try clear hfz26_1
                        try clear hfz26_2
                        try clear hfz26_3
                        try clear hfz9_0
                        try clear hfz9_1
                        try clear hfz9_2
                        try clear hfz9_3
                        try clear hx274_0
                        try clear hx274_1
                        try clear hx274_2
                        try clear hx274_3
                        try clear hx274_4
                        try clear hx276_0
                        try clear hx277_0
                        try clear p2
                        try clear p274
                        try clear p276
                        try clear p277
                        try clear q274
                        try clear q276
                        try clear q277
                        obtain ⟨x67_3, rfl, HA, HK3, BK273, BK275, HB⟩ := hrel
                        cases gk with
                        | zero => exact absurd HA.out (by simp [state_Fits.l1])
                        | succ k3 =>
                          have H := HA.out
                          clear HA
                          simp only [state_Fits.l1] at H
                          by_cases c27 : x67_3 < ((rd_L1 l2_0 x47_2).length : Int)
                          · rw [if_pos c27] at H
                            have c27b0 : decide (x67_3 < ((rd_L1 l2_0 x47_2).length : Int)) = true := decide_eq_true c27
                            clear c27
                            by_cases c28 : 0 ≤ x67_3
                            · rw [if_pos c28] at H
                              have c28b0 : decide (0 ≤ x67_3) = true := decide_eq_true c28
                              clear c28
                              by_cases c29 : x67_3 < ((rd_L1 l2_0 x47_2).length : Int)
                              · rw [if_pos c29] at H
                                have c29b0 : decide (x67_3 < ((rd_L1 l2_0 x47_2).length : Int)) = true := decide_eq_true c29
                                clear c29
                                replace H := Option.bind_eq_some_iff.mp H
                                obtain ⟨t279, A300, H⟩ := H
                                replace H : (if t279 = true then (state_Fits.l1 k3 l0 (l0.length : Int) x47_2 (rd_L1 l2_0 x47_2) ((rd_L1 l2_0 x47_2).length : Int) (wrap64 (x67_3 + 1)) l2_0 l2_1 a2_2 a2_3 ((rd_T60 l0 x47_2).f0) ((rd_T60 l0 x47_2).f1) ((rd_T60 l0 x47_2).f2) ((rd_T60 l0 x47_2).f3) ((rd_T60 l0 x47_2).f4)) else (some false)) = some r := H
                                have A30 := Aside0.mk A300
                                clear A300
                                by_cases c31 : t279 = true
                                · subst c31
                                  have H1 : (state_Fits.l1 k3 l0 (l0.length : Int) x47_2 (rd_L1 l2_0 x47_2) ((rd_L1 l2_0 x47_2).length : Int) (wrap64 (x67_3 + 1)) l2_0 l2_1 a2_2 a2_3 ((rd_T60 l0 x47_2).f0) ((rd_T60 l0 x47_2).f1) ((rd_T60 l0 x47_2).f2) ((rd_T60 l0 x47_2).f3) ((rd_T60 l0 x47_2).f4)) = some r := by rw [if_pos rfl] at H; exact H
                                  clear H
                                  have H := H1
                                  clear H1
                                  have H' := Aside0.mk H
                                  clear H
                                  have p278 : 0 ≤ (x67_3 : Int) := of_decide_eq_true (by first | (with_reducible assumption) | assumption)
                                  have q278 : x67_3 < ((rd_L1 l2_0 x47_2).length : Int) := of_decide_eq_true (by first | (with_reducible assumption) | assumption)
                                  obtain ⟨ad278, e278, hx278_0⟩ := Kd.at_int HR277_0.out x67_3 p278 q278
                                  cases e278
                                  replace hx278_0 := (HB.out.cell (World.block_lt_of_cell? w _ hx278_0)).trans hx278_0
                                  replace p278 := eq_true p278
                                  replace q278 := eq_true q278
                                  have hnb32 := NB275_273.out
                                  have hnc32 := NB273_275.out
                                  have hcz33_0 : wr.cell? ⟨gb275, 0, none⟩ = some (.string ((rd_T60 l0 x47_2).f0)) := (blk_cell BK275.out 0).trans rfl
                                  have hcz33_1 : wr.cell? ⟨gb275, 1, none⟩ = some (.int .i64 ((rd_T60 l0 x47_2).f1)) := (blk_cell BK275.out 1).trans rfl
                                  have hcz33_2 : wr.cell? ⟨gb275, 2, none⟩ = some (.int .i64 ((rd_T60 l0 x47_2).f2)) := (blk_cell BK275.out 2).trans rfl
                                  have hcz33_3 : wr.cell? ⟨gb275, 3, none⟩ = some (.int .i64 ((rd_T60 l0 x47_2).f3)) := (blk_cell BK275.out 3).trans rfl
                                  have hcz33_4 : wr.cell? ⟨gb275, 4, none⟩ = some (.int .i64 ((rd_T60 l0 x47_2).f4)) := (blk_cell BK275.out 4).trans rfl
                                  have hfz33_0 := blk_frozen BK275.out 0
                                  have hfz33_1 := blk_frozen BK275.out 1
                                  have hfz33_2 := blk_frozen BK275.out 2
                                  have hfz33_3 := blk_frozen BK275.out 3
                                  have hfz33_4 := blk_frozen BK275.out 4
                                  go_wp2_with (first | (go_at_call 38; (with_reducible refine (kind_In.calls ((rd_T60 l0 x47_2).f1) (rd (rd_L1 l2_0 x47_2) x67_3) true _ A30.out).mono ?_); rintro e w' ⟨rfl, ⟨nd, rfl⟩⟩; (try first | exact ⟨rfl, _, World.drewN_drewN _ _ _⟩ | exact ⟨rfl, _, Eq.trans (World.drewN_drewN _ _ _) (congrArg (World.drewN _) (Nat.add_assoc _ _ _))⟩)))
                                  repeat (go_quiet (first | (go_at_call 38; (with_reducible refine (kind_In.calls ((rd_T60 l0 x47_2).f1) (rd (rd_L1 l2_0 x47_2) x67_3) true _ A30.out).mono ?_); rintro e w' ⟨rfl, ⟨nd, rfl⟩⟩; (try first | exact ⟨rfl, _, World.drewN_drewN _ _ _⟩ | exact ⟨rfl, _, Eq.trans (World.drewN_drewN _ _ _) (congrArg (World.drewN _) (Nat.add_assoc _ _ _))⟩))); try go_wp2_with (first | (go_at_call 38; (with_reducible refine (kind_In.calls ((rd_T60 l0 x47_2).f1) (rd (rd_L1 l2_0 x47_2) x67_3) true _ A30.out).mono ?_); rintro e w' ⟨rfl, ⟨nd, rfl⟩⟩; (try first | exact ⟨rfl, _, World.drewN_drewN _ _ _⟩ | exact ⟨rfl, _, Eq.trans (World.drewN_drewN _ _ _) (congrArg (World.drewN _) (Nat.add_assoc _ _ _))⟩))))
                                  go_roundg k3
                                  case measure => have := HJ3.out; have := HK2.out; have := HK3.out; omega
                                  case rel => exact ⟨(wrap64 (x67_3 + 1)), (by first | rfl | (simp; done) | (simp [*]; done)), H', ⟨by have := HJ3.out; have := HK2.out; have := HK3.out; omega⟩, ⟨by (with_reducible repeat (first | refine blk_drewN ?_ _ | refine blk_drew ?_ | refine blk_alloc ?_ _)); exact BK273.out⟩, ⟨by (with_reducible repeat (first | refine blk_drewN ?_ _ | refine blk_drew ?_ | refine blk_alloc ?_ _)); exact BK275.out⟩, ⟨by repeat (first | (with_reducible first | exact HB.out | apply below_alloc | apply pw_below_drewN | apply below_drew1 | refine below_set ?_ GE273.out | refine below_set ?_ GE275.out) | exact HB.out)⟩⟩
                                · replace c31 := Bool.eq_false_iff.mpr c31
                                  subst c31
                                  have H1 : (some false) = some r := by rw [if_neg (show ¬ (false = true) by decide)] at H; exact H
                                  clear H
                                  have H := H1
                                  clear H1
                                  obtain rfl := Option.some.inj H
                                  have p278 : 0 ≤ (x67_3 : Int) := of_decide_eq_true (by first | (with_reducible assumption) | assumption)
                                  have q278 : x67_3 < ((rd_L1 l2_0 x47_2).length : Int) := of_decide_eq_true (by first | (with_reducible assumption) | assumption)
                                  obtain ⟨ad278, e278, hx278_0⟩ := Kd.at_int HR277_0.out x67_3 p278 q278
                                  cases e278
                                  replace hx278_0 := (HB.out.cell (World.block_lt_of_cell? w _ hx278_0)).trans hx278_0
                                  replace p278 := eq_true p278
                                  replace q278 := eq_true q278
                                  have hnb34 := NB275_273.out
                                  have hnc34 := NB273_275.out
                                  have hcz35_0 : wr.cell? ⟨gb275, 0, none⟩ = some (.string ((rd_T60 l0 x47_2).f0)) := (blk_cell BK275.out 0).trans rfl
                                  have hcz35_1 : wr.cell? ⟨gb275, 1, none⟩ = some (.int .i64 ((rd_T60 l0 x47_2).f1)) := (blk_cell BK275.out 1).trans rfl
                                  have hcz35_2 : wr.cell? ⟨gb275, 2, none⟩ = some (.int .i64 ((rd_T60 l0 x47_2).f2)) := (blk_cell BK275.out 2).trans rfl
                                  have hcz35_3 : wr.cell? ⟨gb275, 3, none⟩ = some (.int .i64 ((rd_T60 l0 x47_2).f3)) := (blk_cell BK275.out 3).trans rfl
                                  have hcz35_4 : wr.cell? ⟨gb275, 4, none⟩ = some (.int .i64 ((rd_T60 l0 x47_2).f4)) := (blk_cell BK275.out 4).trans rfl
                                  have hfz35_0 := blk_frozen BK275.out 0
                                  have hfz35_1 := blk_frozen BK275.out 1
                                  have hfz35_2 := blk_frozen BK275.out 2
                                  have hfz35_3 := blk_frozen BK275.out 3
                                  have hfz35_4 := blk_frozen BK275.out 4
                                  go_wp2_with (first | (go_at_call 38; (with_reducible refine (kind_In.calls ((rd_T60 l0 x47_2).f1) (rd (rd_L1 l2_0 x47_2) x67_3) false _ A30.out).mono ?_); rintro e w' ⟨rfl, ⟨nd, rfl⟩⟩; (try first | exact ⟨rfl, _, World.drewN_drewN _ _ _⟩ | exact ⟨rfl, _, Eq.trans (World.drewN_drewN _ _ _) (congrArg (World.drewN _) (Nat.add_assoc _ _ _))⟩)))
                                  repeat (go_quiet (first | (go_at_call 38; (with_reducible refine (kind_In.calls ((rd_T60 l0 x47_2).f1) (rd (rd_L1 l2_0 x47_2) x67_3) false _ A30.out).mono ?_); rintro e w' ⟨rfl, ⟨nd, rfl⟩⟩; (try first | exact ⟨rfl, _, World.drewN_drewN _ _ _⟩ | exact ⟨rfl, _, Eq.trans (World.drewN_drewN _ _ _) (congrArg (World.drewN _) (Nat.add_assoc _ _ _))⟩))); try go_wp2_with (first | (go_at_call 38; (with_reducible refine (kind_In.calls ((rd_T60 l0 x47_2).f1) (rd (rd_L1 l2_0 x47_2) x67_3) false _ A30.out).mono ?_); rintro e w' ⟨rfl, ⟨nd, rfl⟩⟩; (try first | exact ⟨rfl, _, World.drewN_drewN _ _ _⟩ | exact ⟨rfl, _, Eq.trans (World.drewN_drewN _ _ _) (congrArg (World.drewN _) (Nat.add_assoc _ _ _))⟩))))
                                  go_ret
                                  exact ⟨by first | rfl | (simp [errW_none, errW_some] <;> rfl) | (simp [*, errW_none, errW_some] <;> rfl), by repeat (first | (with_reducible first | exact HB.out | apply below_alloc | apply pw_below_drewN | apply below_drew1 | refine below_set ?_ GE273.out | refine below_set ?_ GE275.out) | exact HB.out)⟩
                              · rw [if_neg c29] at H
                                exact absurd H (by simp)
                            · rw [if_neg c28] at H
                              exact absurd H (by simp)
                          · rw [if_neg c27] at H
                            have c27b0 : decide (x67_3 < ((rd_L1 l2_0 x47_2).length : Int)) = false := decide_eq_false c27
                            clear c27
                            have H' := Aside0.mk H
                            clear H
                            go_wp2
                            repeat (go_quiet (fail); try go_wp2)
                            go_roundg k3
                            case measure => have := HJ3.out; have := HK2.out; have := HK3.out; omega
                            case rel => exact ⟨(wrap64 (x47_2 + 1)), (by first | rfl | (simp; done) | (simp [*]; done)), H', ⟨by have := HJ3.out; have := HK2.out; have := HK3.out; omega⟩, ⟨by (with_reducible repeat (first | refine blk_drewN ?_ _ | refine blk_drew ?_ | refine blk_alloc ?_ _)); exact BK273.out⟩, ⟨by repeat (first | (with_reducible first | exact HB.out | apply below_alloc | apply pw_below_drewN | apply below_drew1 | refine below_set ?_ GE273.out | refine below_set ?_ GE275.out) | exact HB.out)⟩⟩
                    · rw [if_neg c22] at H
                      have c22b0 : (((rd_L1 l2_0 x47_2).length : Int) == ((rd_T60 l0 x47_2).f2)) = false := beq_eq_false_iff_ne.mpr c22
                      have c22b1 : (((rd_L1 l2_0 x47_2).length : Int) != ((rd_T60 l0 x47_2).f2)) = true := bne_iff_ne.mpr c22
                      obtain rfl := Option.some.inj H
                      have p274 : 0 ≤ (x47_2 : Int) := of_decide_eq_true (by first | (with_reducible assumption) | assumption)
                      have q274 : x47_2 < (l0.length : Int) := of_decide_eq_true (by first | (with_reducible assumption) | assumption)
                      obtain ⟨ad274, e274, hx274_0, hx274_1, hx274_2, hx274_3, hx274_4⟩ := at_T60 HR0.out x47_2 p274 q274
                      cases e274
                      replace hx274_0 := (HB.out.cell (World.block_lt_of_cell? w _ hx274_0)).trans hx274_0
                      replace hx274_1 := (HB.out.cell (World.block_lt_of_cell? w _ hx274_1)).trans hx274_1
                      replace hx274_2 := (HB.out.cell (World.block_lt_of_cell? w _ hx274_2)).trans hx274_2
                      replace hx274_3 := (HB.out.cell (World.block_lt_of_cell? w _ hx274_3)).trans hx274_3
                      replace hx274_4 := (HB.out.cell (World.block_lt_of_cell? w _ hx274_4)).trans hx274_4
                      replace p274 := eq_true p274
                      replace q274 := eq_true q274
                      go_wp2_with (first | ((with_reducible refine gate_dst (N := 8) rfl ?_); (try (refine gate_guard (by rfl) ?_; dsimp only)); refine box_event ?hg (N := 8) ?hd (cs := #[.string (⟨#[]⟩ : ByteArray), .int .i64 0, .int .i64 0, .int .i64 0, .int .i64 0]) (t := 60) ?hr ?_; (case hd => rfl); (case hg => rfl); (case hr => first | (go_simp; done) | (go_simp; rfl)); intro gb275 hg w36 hbox hb; have n0_ := Aside0.mk (blk_below (g := gb273) (o := .cells #[.slice A2_0 l2_0.length c2_0, .slice A2_1 l2_1.length c2_1, .int .i64 a2_2, .int .i64 a2_3] 31 (0, 0)) (by (with_reducible repeat (first | refine blk_drewN ?_ _ | refine blk_drew ?_ | refine blk_alloc ?_ _)); exact BK273.out) hb); have n1_ := Aside0.mk (below_step (by repeat (first | (with_reducible first | exact HB.out | apply below_alloc | apply pw_below_drewN | apply below_drew1 | refine below_set ?_ GE273.out) | exact HB.out)) hb); have n2_ := Aside0.mk (hbox); have n3_ := Aside0.mk ((by rw [hg]; exact (below_size (by repeat (first | (with_reducible first | exact HB.out | apply below_alloc | apply pw_below_drewN | apply below_drew1 | refine below_set ?_ GE273.out) | exact HB.out))) : w.heap.size ≤ gb275)); have n4_ := Aside0.mk ((by rw [hg]; exact (below_size (by repeat (first | (with_reducible first | exact HB.out | apply below_alloc | apply pw_below_drewN | apply below_drew1 | refine below_set ?_ GE273.out) | exact HB.out))) : w.heap.size ≤ gb275)); have n5_ := Aside0.mk ((by rw [hg]; exact Nat.ne_of_lt (blk_lt (g := gb273) (o := .cells #[.slice A2_0 l2_0.length c2_0, .slice A2_1 l2_1.length c2_1, .int .i64 a2_2, .int .i64 a2_3] 31 (0, 0)) (by (with_reducible repeat (first | refine blk_drewN ?_ _ | refine blk_drew ?_ | refine blk_alloc ?_ _)); exact BK273.out)) : gb273 ≠ gb275)); have n6_ := Aside0.mk ((by rw [hg]; exact Nat.ne_of_gt (blk_lt (g := gb273) (o := .cells #[.slice A2_0 l2_0.length c2_0, .slice A2_1 l2_1.length c2_1, .int .i64 a2_2, .int .i64 a2_3] 31 (0, 0)) (by (with_reducible repeat (first | refine blk_drewN ?_ _ | refine blk_drew ?_ | refine blk_alloc ?_ _)); exact BK273.out)) : gb275 ≠ gb273)); clear BK273; clear HB; have BK273 := n0_; have HB := n1_; have BK275 := n2_; have GW275 := n3_; have GE275 := n4_; have NB273_275 := n5_; have NB275_273 := n6_; clear n0_ n1_ n2_ n3_ n4_ n5_ n6_; clear hb hbox hg; have hnb37 := NB275_273.out; have hnc37 := NB273_275.out; have hcz38_0 : w36.cell? ⟨gb275, 0, none⟩ = some (.string (⟨#[]⟩ : ByteArray)) := (blk_cell BK275.out 0).trans rfl; have hcz38_1 : w36.cell? ⟨gb275, 1, none⟩ = some (.int .i64 0) := (blk_cell BK275.out 1).trans rfl; have hcz38_2 : w36.cell? ⟨gb275, 2, none⟩ = some (.int .i64 0) := (blk_cell BK275.out 2).trans rfl; have hcz38_3 : w36.cell? ⟨gb275, 3, none⟩ = some (.int .i64 0) := (blk_cell BK275.out 3).trans rfl; have hcz38_4 : w36.cell? ⟨gb275, 4, none⟩ = some (.int .i64 0) := (blk_cell BK275.out 4).trans rfl; have hfz38_0 := blk_frozen BK275.out 0; have hfz38_1 := blk_frozen BK275.out 1; have hfz38_2 := blk_frozen BK275.out 2; have hfz38_3 := blk_frozen BK275.out 3; have hfz38_4 := blk_frozen BK275.out 4; have hcz39_0 : w36.cell? ⟨gb273, 0, none⟩ = some (.slice A2_0 l2_0.length c2_0) := (blk_cell BK273.out 0).trans rfl; have hcz39_1 : w36.cell? ⟨gb273, 1, none⟩ = some (.slice A2_1 l2_1.length c2_1) := (blk_cell BK273.out 1).trans rfl; have hcz39_2 : w36.cell? ⟨gb273, 2, none⟩ = some (.int .i64 a2_2) := (blk_cell BK273.out 2).trans rfl; have hcz39_3 : w36.cell? ⟨gb273, 3, none⟩ = some (.int .i64 a2_3) := (blk_cell BK273.out 3).trans rfl; have hfz39_0 := blk_frozen BK273.out 0; have hfz39_1 := blk_frozen BK273.out 1; have hfz39_2 := blk_frozen BK273.out 2; have hfz39_3 := blk_frozen BK273.out 3; have p276 : 0 ≤ (x47_2 : Int) := of_decide_eq_true (by first | (with_reducible assumption) | assumption); have q276 : x47_2 < (l2_0.length : Int) := of_decide_eq_true (by first | (with_reducible assumption) | assumption); obtain ⟨ad276, A276_0, c276_0, e276, hx276_0, hl276_0, hi276_0⟩ := at_L1 HR2_0.out x47_2 p276 q276; have hk276_0 := Aside0.mk hx276_0; cases e276; have hn276_0 : ad276.block ≠ gb275 := Nat.ne_of_lt (Nat.lt_of_lt_of_le (by have := World.block_lt_of_cell? _ _ hx276_0; first | rwa [add_block] at this | exact this) GW275.out); have hn276_1 : ad276.block ≠ gb275 := Nat.ne_of_lt (Nat.lt_of_lt_of_le (by have := World.block_lt_of_cell? _ _ hx276_0; first | rwa [add_block] at this | exact this) GW275.out); have hn276_2 : ad276.block ≠ gb275 := Nat.ne_of_lt (Nat.lt_of_lt_of_le (by have := World.block_lt_of_cell? _ _ hx276_0; first | rwa [add_block] at this | exact this) GW275.out); have hn276_3 : ad276.block ≠ gb275 := Nat.ne_of_lt (Nat.lt_of_lt_of_le (by have := World.block_lt_of_cell? _ _ hx276_0; first | rwa [add_block] at this | exact this) GW275.out); have hn276_4 : ad276.block ≠ gb275 := Nat.ne_of_lt (Nat.lt_of_lt_of_le (by have := World.block_lt_of_cell? _ _ hx276_0; first | rwa [add_block] at this | exact this) GW275.out); replace hx276_0 := (HB.out.cell (World.block_lt_of_cell? w _ hx276_0)).trans hx276_0; have HR276_0 := Aside0.mk hi276_0; have HC276_0 := Aside0.mk hl276_0; clear hi276_0 hl276_0; replace hx276_0 := (cell_far (p := ⟨gb275, 0, none⟩) (by first | (rw [add_block]; exact hn276_0) | (show (Addr.add _ _).block ≠ _; rw [add_block]; exact hn276_0) | exact hn276_0) (.string ((rd_T60 l0 x47_2).f0))).trans hx276_0; replace hx276_0 := (cell_far (p := ⟨gb275, 1, none⟩) (by first | (rw [add_block]; exact hn276_1) | (show (Addr.add _ _).block ≠ _; rw [add_block]; exact hn276_1) | exact hn276_1) (.int .i64 ((rd_T60 l0 x47_2).f1))).trans hx276_0; replace hx276_0 := (cell_far (p := ⟨gb275, 2, none⟩) (by first | (rw [add_block]; exact hn276_2) | (show (Addr.add _ _).block ≠ _; rw [add_block]; exact hn276_2) | exact hn276_2) (.int .i64 ((rd_T60 l0 x47_2).f2))).trans hx276_0; replace hx276_0 := (cell_far (p := ⟨gb275, 3, none⟩) (by first | (rw [add_block]; exact hn276_3) | (show (Addr.add _ _).block ≠ _; rw [add_block]; exact hn276_3) | exact hn276_3) (.int .i64 ((rd_T60 l0 x47_2).f3))).trans hx276_0; replace hx276_0 := (cell_far (p := ⟨gb275, 4, none⟩) (by first | (rw [add_block]; exact hn276_4) | (show (Addr.add _ _).block ≠ _; rw [add_block]; exact hn276_4) | exact hn276_4) (.int .i64 ((rd_T60 l0 x47_2).f4))).trans hx276_0; (try have hy276_0 := fun (n_ : Nat) => (show (((((((w36.drewN n_).setCell ⟨gb275, 0, none⟩ (.string ((rd_T60 l0 x47_2).f0))).setCell ⟨gb275, 1, none⟩ (.int .i64 ((rd_T60 l0 x47_2).f1))).setCell ⟨gb275, 2, none⟩ (.int .i64 ((rd_T60 l0 x47_2).f2))).setCell ⟨gb275, 3, none⟩ (.int .i64 ((rd_T60 l0 x47_2).f3))).setCell ⟨gb275, 4, none⟩ (.int .i64 ((rd_T60 l0 x47_2).f4)))).cell? _ = some _ from hx276_0)); clear hn276_0; clear hn276_1; clear hn276_2; clear hn276_3; clear hn276_4; replace p276 := eq_true p276; replace q276 := eq_true q276))
                      repeat (go_quiet (first | ((with_reducible refine gate_dst (N := 8) rfl ?_); (try (refine gate_guard (by rfl) ?_; dsimp only)); refine box_event ?hg (N := 8) ?hd (cs := #[.string (⟨#[]⟩ : ByteArray), .int .i64 0, .int .i64 0, .int .i64 0, .int .i64 0]) (t := 60) ?hr ?_; (case hd => rfl); (case hg => rfl); (case hr => first | (go_simp; done) | (go_simp; rfl)); intro gb275 hg w36 hbox hb; have n0_ := Aside0.mk (blk_below (g := gb273) (o := .cells #[.slice A2_0 l2_0.length c2_0, .slice A2_1 l2_1.length c2_1, .int .i64 a2_2, .int .i64 a2_3] 31 (0, 0)) (by (with_reducible repeat (first | refine blk_drewN ?_ _ | refine blk_drew ?_ | refine blk_alloc ?_ _)); exact BK273.out) hb); have n1_ := Aside0.mk (below_step (by repeat (first | (with_reducible first | exact HB.out | apply below_alloc | apply pw_below_drewN | apply below_drew1 | refine below_set ?_ GE273.out) | exact HB.out)) hb); have n2_ := Aside0.mk (hbox); have n3_ := Aside0.mk ((by rw [hg]; exact (below_size (by repeat (first | (with_reducible first | exact HB.out | apply below_alloc | apply pw_below_drewN | apply below_drew1 | refine below_set ?_ GE273.out) | exact HB.out))) : w.heap.size ≤ gb275)); have n4_ := Aside0.mk ((by rw [hg]; exact (below_size (by repeat (first | (with_reducible first | exact HB.out | apply below_alloc | apply pw_below_drewN | apply below_drew1 | refine below_set ?_ GE273.out) | exact HB.out))) : w.heap.size ≤ gb275)); have n5_ := Aside0.mk ((by rw [hg]; exact Nat.ne_of_lt (blk_lt (g := gb273) (o := .cells #[.slice A2_0 l2_0.length c2_0, .slice A2_1 l2_1.length c2_1, .int .i64 a2_2, .int .i64 a2_3] 31 (0, 0)) (by (with_reducible repeat (first | refine blk_drewN ?_ _ | refine blk_drew ?_ | refine blk_alloc ?_ _)); exact BK273.out)) : gb273 ≠ gb275)); have n6_ := Aside0.mk ((by rw [hg]; exact Nat.ne_of_gt (blk_lt (g := gb273) (o := .cells #[.slice A2_0 l2_0.length c2_0, .slice A2_1 l2_1.length c2_1, .int .i64 a2_2, .int .i64 a2_3] 31 (0, 0)) (by (with_reducible repeat (first | refine blk_drewN ?_ _ | refine blk_drew ?_ | refine blk_alloc ?_ _)); exact BK273.out)) : gb275 ≠ gb273)); clear BK273; clear HB; have BK273 := n0_; have HB := n1_; have BK275 := n2_; have GW275 := n3_; have GE275 := n4_; have NB273_275 := n5_; have NB275_273 := n6_; clear n0_ n1_ n2_ n3_ n4_ n5_ n6_; clear hb hbox hg; have hnb37 := NB275_273.out; have hnc37 := NB273_275.out; have hcz38_0 : w36.cell? ⟨gb275, 0, none⟩ = some (.string (⟨#[]⟩ : ByteArray)) := (blk_cell BK275.out 0).trans rfl; have hcz38_1 : w36.cell? ⟨gb275, 1, none⟩ = some (.int .i64 0) := (blk_cell BK275.out 1).trans rfl; have hcz38_2 : w36.cell? ⟨gb275, 2, none⟩ = some (.int .i64 0) := (blk_cell BK275.out 2).trans rfl; have hcz38_3 : w36.cell? ⟨gb275, 3, none⟩ = some (.int .i64 0) := (blk_cell BK275.out 3).trans rfl; have hcz38_4 : w36.cell? ⟨gb275, 4, none⟩ = some (.int .i64 0) := (blk_cell BK275.out 4).trans rfl; have hfz38_0 := blk_frozen BK275.out 0; have hfz38_1 := blk_frozen BK275.out 1; have hfz38_2 := blk_frozen BK275.out 2; have hfz38_3 := blk_frozen BK275.out 3; have hfz38_4 := blk_frozen BK275.out 4; have hcz39_0 : w36.cell? ⟨gb273, 0, none⟩ = some (.slice A2_0 l2_0.length c2_0) := (blk_cell BK273.out 0).trans rfl; have hcz39_1 : w36.cell? ⟨gb273, 1, none⟩ = some (.slice A2_1 l2_1.length c2_1) := (blk_cell BK273.out 1).trans rfl; have hcz39_2 : w36.cell? ⟨gb273, 2, none⟩ = some (.int .i64 a2_2) := (blk_cell BK273.out 2).trans rfl; have hcz39_3 : w36.cell? ⟨gb273, 3, none⟩ = some (.int .i64 a2_3) := (blk_cell BK273.out 3).trans rfl; have hfz39_0 := blk_frozen BK273.out 0; have hfz39_1 := blk_frozen BK273.out 1; have hfz39_2 := blk_frozen BK273.out 2; have hfz39_3 := blk_frozen BK273.out 3; have p276 : 0 ≤ (x47_2 : Int) := of_decide_eq_true (by first | (with_reducible assumption) | assumption); have q276 : x47_2 < (l2_0.length : Int) := of_decide_eq_true (by first | (with_reducible assumption) | assumption); obtain ⟨ad276, A276_0, c276_0, e276, hx276_0, hl276_0, hi276_0⟩ := at_L1 HR2_0.out x47_2 p276 q276; have hk276_0 := Aside0.mk hx276_0; cases e276; have hn276_0 : ad276.block ≠ gb275 := Nat.ne_of_lt (Nat.lt_of_lt_of_le (by have := World.block_lt_of_cell? _ _ hx276_0; first | rwa [add_block] at this | exact this) GW275.out); have hn276_1 : ad276.block ≠ gb275 := Nat.ne_of_lt (Nat.lt_of_lt_of_le (by have := World.block_lt_of_cell? _ _ hx276_0; first | rwa [add_block] at this | exact this) GW275.out); have hn276_2 : ad276.block ≠ gb275 := Nat.ne_of_lt (Nat.lt_of_lt_of_le (by have := World.block_lt_of_cell? _ _ hx276_0; first | rwa [add_block] at this | exact this) GW275.out); have hn276_3 : ad276.block ≠ gb275 := Nat.ne_of_lt (Nat.lt_of_lt_of_le (by have := World.block_lt_of_cell? _ _ hx276_0; first | rwa [add_block] at this | exact this) GW275.out); have hn276_4 : ad276.block ≠ gb275 := Nat.ne_of_lt (Nat.lt_of_lt_of_le (by have := World.block_lt_of_cell? _ _ hx276_0; first | rwa [add_block] at this | exact this) GW275.out); replace hx276_0 := (HB.out.cell (World.block_lt_of_cell? w _ hx276_0)).trans hx276_0; have HR276_0 := Aside0.mk hi276_0; have HC276_0 := Aside0.mk hl276_0; clear hi276_0 hl276_0; replace hx276_0 := (cell_far (p := ⟨gb275, 0, none⟩) (by first | (rw [add_block]; exact hn276_0) | (show (Addr.add _ _).block ≠ _; rw [add_block]; exact hn276_0) | exact hn276_0) (.string ((rd_T60 l0 x47_2).f0))).trans hx276_0; replace hx276_0 := (cell_far (p := ⟨gb275, 1, none⟩) (by first | (rw [add_block]; exact hn276_1) | (show (Addr.add _ _).block ≠ _; rw [add_block]; exact hn276_1) | exact hn276_1) (.int .i64 ((rd_T60 l0 x47_2).f1))).trans hx276_0; replace hx276_0 := (cell_far (p := ⟨gb275, 2, none⟩) (by first | (rw [add_block]; exact hn276_2) | (show (Addr.add _ _).block ≠ _; rw [add_block]; exact hn276_2) | exact hn276_2) (.int .i64 ((rd_T60 l0 x47_2).f2))).trans hx276_0; replace hx276_0 := (cell_far (p := ⟨gb275, 3, none⟩) (by first | (rw [add_block]; exact hn276_3) | (show (Addr.add _ _).block ≠ _; rw [add_block]; exact hn276_3) | exact hn276_3) (.int .i64 ((rd_T60 l0 x47_2).f3))).trans hx276_0; replace hx276_0 := (cell_far (p := ⟨gb275, 4, none⟩) (by first | (rw [add_block]; exact hn276_4) | (show (Addr.add _ _).block ≠ _; rw [add_block]; exact hn276_4) | exact hn276_4) (.int .i64 ((rd_T60 l0 x47_2).f4))).trans hx276_0; (try have hy276_0 := fun (n_ : Nat) => (show (((((((w36.drewN n_).setCell ⟨gb275, 0, none⟩ (.string ((rd_T60 l0 x47_2).f0))).setCell ⟨gb275, 1, none⟩ (.int .i64 ((rd_T60 l0 x47_2).f1))).setCell ⟨gb275, 2, none⟩ (.int .i64 ((rd_T60 l0 x47_2).f2))).setCell ⟨gb275, 3, none⟩ (.int .i64 ((rd_T60 l0 x47_2).f3))).setCell ⟨gb275, 4, none⟩ (.int .i64 ((rd_T60 l0 x47_2).f4)))).cell? _ = some _ from hx276_0)); clear hn276_0; clear hn276_1; clear hn276_2; clear hn276_3; clear hn276_4; replace p276 := eq_true p276; replace q276 := eq_true q276)); try go_wp2_with (first | ((with_reducible refine gate_dst (N := 8) rfl ?_); (try (refine gate_guard (by rfl) ?_; dsimp only)); refine box_event ?hg (N := 8) ?hd (cs := #[.string (⟨#[]⟩ : ByteArray), .int .i64 0, .int .i64 0, .int .i64 0, .int .i64 0]) (t := 60) ?hr ?_; (case hd => rfl); (case hg => rfl); (case hr => first | (go_simp; done) | (go_simp; rfl)); intro gb275 hg w36 hbox hb; have n0_ := Aside0.mk (blk_below (g := gb273) (o := .cells #[.slice A2_0 l2_0.length c2_0, .slice A2_1 l2_1.length c2_1, .int .i64 a2_2, .int .i64 a2_3] 31 (0, 0)) (by (with_reducible repeat (first | refine blk_drewN ?_ _ | refine blk_drew ?_ | refine blk_alloc ?_ _)); exact BK273.out) hb); have n1_ := Aside0.mk (below_step (by repeat (first | (with_reducible first | exact HB.out | apply below_alloc | apply pw_below_drewN | apply below_drew1 | refine below_set ?_ GE273.out) | exact HB.out)) hb); have n2_ := Aside0.mk (hbox); have n3_ := Aside0.mk ((by rw [hg]; exact (below_size (by repeat (first | (with_reducible first | exact HB.out | apply below_alloc | apply pw_below_drewN | apply below_drew1 | refine below_set ?_ GE273.out) | exact HB.out))) : w.heap.size ≤ gb275)); have n4_ := Aside0.mk ((by rw [hg]; exact (below_size (by repeat (first | (with_reducible first | exact HB.out | apply below_alloc | apply pw_below_drewN | apply below_drew1 | refine below_set ?_ GE273.out) | exact HB.out))) : w.heap.size ≤ gb275)); have n5_ := Aside0.mk ((by rw [hg]; exact Nat.ne_of_lt (blk_lt (g := gb273) (o := .cells #[.slice A2_0 l2_0.length c2_0, .slice A2_1 l2_1.length c2_1, .int .i64 a2_2, .int .i64 a2_3] 31 (0, 0)) (by (with_reducible repeat (first | refine blk_drewN ?_ _ | refine blk_drew ?_ | refine blk_alloc ?_ _)); exact BK273.out)) : gb273 ≠ gb275)); have n6_ := Aside0.mk ((by rw [hg]; exact Nat.ne_of_gt (blk_lt (g := gb273) (o := .cells #[.slice A2_0 l2_0.length c2_0, .slice A2_1 l2_1.length c2_1, .int .i64 a2_2, .int .i64 a2_3] 31 (0, 0)) (by (with_reducible repeat (first | refine blk_drewN ?_ _ | refine blk_drew ?_ | refine blk_alloc ?_ _)); exact BK273.out)) : gb275 ≠ gb273)); clear BK273; clear HB; have BK273 := n0_; have HB := n1_; have BK275 := n2_; have GW275 := n3_; have GE275 := n4_; have NB273_275 := n5_; have NB275_273 := n6_; clear n0_ n1_ n2_ n3_ n4_ n5_ n6_; clear hb hbox hg; have hnb37 := NB275_273.out; have hnc37 := NB273_275.out; have hcz38_0 : w36.cell? ⟨gb275, 0, none⟩ = some (.string (⟨#[]⟩ : ByteArray)) := (blk_cell BK275.out 0).trans rfl; have hcz38_1 : w36.cell? ⟨gb275, 1, none⟩ = some (.int .i64 0) := (blk_cell BK275.out 1).trans rfl; have hcz38_2 : w36.cell? ⟨gb275, 2, none⟩ = some (.int .i64 0) := (blk_cell BK275.out 2).trans rfl; have hcz38_3 : w36.cell? ⟨gb275, 3, none⟩ = some (.int .i64 0) := (blk_cell BK275.out 3).trans rfl; have hcz38_4 : w36.cell? ⟨gb275, 4, none⟩ = some (.int .i64 0) := (blk_cell BK275.out 4).trans rfl; have hfz38_0 := blk_frozen BK275.out 0; have hfz38_1 := blk_frozen BK275.out 1; have hfz38_2 := blk_frozen BK275.out 2; have hfz38_3 := blk_frozen BK275.out 3; have hfz38_4 := blk_frozen BK275.out 4; have hcz39_0 : w36.cell? ⟨gb273, 0, none⟩ = some (.slice A2_0 l2_0.length c2_0) := (blk_cell BK273.out 0).trans rfl; have hcz39_1 : w36.cell? ⟨gb273, 1, none⟩ = some (.slice A2_1 l2_1.length c2_1) := (blk_cell BK273.out 1).trans rfl; have hcz39_2 : w36.cell? ⟨gb273, 2, none⟩ = some (.int .i64 a2_2) := (blk_cell BK273.out 2).trans rfl; have hcz39_3 : w36.cell? ⟨gb273, 3, none⟩ = some (.int .i64 a2_3) := (blk_cell BK273.out 3).trans rfl; have hfz39_0 := blk_frozen BK273.out 0; have hfz39_1 := blk_frozen BK273.out 1; have hfz39_2 := blk_frozen BK273.out 2; have hfz39_3 := blk_frozen BK273.out 3; have p276 : 0 ≤ (x47_2 : Int) := of_decide_eq_true (by first | (with_reducible assumption) | assumption); have q276 : x47_2 < (l2_0.length : Int) := of_decide_eq_true (by first | (with_reducible assumption) | assumption); obtain ⟨ad276, A276_0, c276_0, e276, hx276_0, hl276_0, hi276_0⟩ := at_L1 HR2_0.out x47_2 p276 q276; have hk276_0 := Aside0.mk hx276_0; cases e276; have hn276_0 : ad276.block ≠ gb275 := Nat.ne_of_lt (Nat.lt_of_lt_of_le (by have := World.block_lt_of_cell? _ _ hx276_0; first | rwa [add_block] at this | exact this) GW275.out); have hn276_1 : ad276.block ≠ gb275 := Nat.ne_of_lt (Nat.lt_of_lt_of_le (by have := World.block_lt_of_cell? _ _ hx276_0; first | rwa [add_block] at this | exact this) GW275.out); have hn276_2 : ad276.block ≠ gb275 := Nat.ne_of_lt (Nat.lt_of_lt_of_le (by have := World.block_lt_of_cell? _ _ hx276_0; first | rwa [add_block] at this | exact this) GW275.out); have hn276_3 : ad276.block ≠ gb275 := Nat.ne_of_lt (Nat.lt_of_lt_of_le (by have := World.block_lt_of_cell? _ _ hx276_0; first | rwa [add_block] at this | exact this) GW275.out); have hn276_4 : ad276.block ≠ gb275 := Nat.ne_of_lt (Nat.lt_of_lt_of_le (by have := World.block_lt_of_cell? _ _ hx276_0; first | rwa [add_block] at this | exact this) GW275.out); replace hx276_0 := (HB.out.cell (World.block_lt_of_cell? w _ hx276_0)).trans hx276_0; have HR276_0 := Aside0.mk hi276_0; have HC276_0 := Aside0.mk hl276_0; clear hi276_0 hl276_0; replace hx276_0 := (cell_far (p := ⟨gb275, 0, none⟩) (by first | (rw [add_block]; exact hn276_0) | (show (Addr.add _ _).block ≠ _; rw [add_block]; exact hn276_0) | exact hn276_0) (.string ((rd_T60 l0 x47_2).f0))).trans hx276_0; replace hx276_0 := (cell_far (p := ⟨gb275, 1, none⟩) (by first | (rw [add_block]; exact hn276_1) | (show (Addr.add _ _).block ≠ _; rw [add_block]; exact hn276_1) | exact hn276_1) (.int .i64 ((rd_T60 l0 x47_2).f1))).trans hx276_0; replace hx276_0 := (cell_far (p := ⟨gb275, 2, none⟩) (by first | (rw [add_block]; exact hn276_2) | (show (Addr.add _ _).block ≠ _; rw [add_block]; exact hn276_2) | exact hn276_2) (.int .i64 ((rd_T60 l0 x47_2).f2))).trans hx276_0; replace hx276_0 := (cell_far (p := ⟨gb275, 3, none⟩) (by first | (rw [add_block]; exact hn276_3) | (show (Addr.add _ _).block ≠ _; rw [add_block]; exact hn276_3) | exact hn276_3) (.int .i64 ((rd_T60 l0 x47_2).f3))).trans hx276_0; replace hx276_0 := (cell_far (p := ⟨gb275, 4, none⟩) (by first | (rw [add_block]; exact hn276_4) | (show (Addr.add _ _).block ≠ _; rw [add_block]; exact hn276_4) | exact hn276_4) (.int .i64 ((rd_T60 l0 x47_2).f4))).trans hx276_0; (try have hy276_0 := fun (n_ : Nat) => (show (((((((w36.drewN n_).setCell ⟨gb275, 0, none⟩ (.string ((rd_T60 l0 x47_2).f0))).setCell ⟨gb275, 1, none⟩ (.int .i64 ((rd_T60 l0 x47_2).f1))).setCell ⟨gb275, 2, none⟩ (.int .i64 ((rd_T60 l0 x47_2).f2))).setCell ⟨gb275, 3, none⟩ (.int .i64 ((rd_T60 l0 x47_2).f3))).setCell ⟨gb275, 4, none⟩ (.int .i64 ((rd_T60 l0 x47_2).f4)))).cell? _ = some _ from hx276_0)); clear hn276_0; clear hn276_1; clear hn276_2; clear hn276_3; clear hn276_4; replace p276 := eq_true p276; replace q276 := eq_true q276)))
                      go_ret
                      exact ⟨by first | rfl | (simp [errW_none, errW_some] <;> rfl) | (simp [*, errW_none, errW_some] <;> rfl), by repeat (first | (with_reducible first | exact HB.out | apply below_alloc | apply pw_below_drewN | apply below_drew1 | refine below_set ?_ GE273.out | refine below_set ?_ GE275.out) | exact HB.out)⟩
                  · rw [if_neg c21] at H
                    exact absurd H (by simp)
                · rw [if_neg c20] at H
                  exact absurd H (by simp)
              · rw [if_neg c19] at H
                exact absurd H (by simp)
            · rw [if_neg c18] at H
              have c18b0 : decide (x47_2 < (l0.length : Int)) = false := decide_eq_false c18
              clear c18
              obtain rfl := Option.some.inj H
              go_wp2
              repeat (go_quiet (fail); try go_wp2)
              go_ret
              exact ⟨by first | rfl | (simp [errW_none, errW_some] <;> rfl) | (simp [*, errW_none, errW_some] <;> rfl), by repeat (first | (with_reducible first | exact HB.out | apply below_alloc | apply pw_below_drewN | apply below_drew1 | refine below_set ?_ GE273.out) | exact HB.out)⟩

/-! ### ladderbackref01_Right: function 39 -/
def ladderbackref01_Right.f (a0 : Int) : Option (Bool) := if a0 > 0 then (some (decide (a0 < 7))) else (some false)
set_option maxHeartbeats 8000000 in
set_option maxRecDepth 100000 in
theorem ladderbackref01_Right.calls (a0 : Int) (r : Bool) (w : World) (h : ladderbackref01_Right.f a0 = some r) :
    Calls Try.prog 39 #[.int .i64 a0] w fun e w' => e = .returned (.bool r) ∧ Drawn0 w w' := by
  have H : (if a0 > 0 then (some (decide (a0 < 7))) else (some false)) = some r := h
  clear h
  by_cases c2 : a0 > 0
  · rw [if_pos c2] at H
    have c2b0 : decide (0 < a0) = true := decide_eq_true c2
    clear c2
    obtain rfl := Option.some.inj H
    go_enter Try.func39, Try.ntmps39
    go_wp2
    go_ret
    exact ⟨by first | rfl | (simp; done) | (simp [*]; done), by repeat (first | exact Drawn0.refl _ | apply Drawn0.step)⟩
  · rw [if_neg c2] at H
    have c2b0 : decide (0 < a0) = false := decide_eq_false c2
    clear c2
    obtain rfl := Option.some.inj H
    go_enter Try.func39, Try.ntmps39
    go_wp2
    go_ret
    exact ⟨by first | rfl | (simp; done) | (simp [*]; done), by repeat (first | exact Drawn0.refl _ | apply Drawn0.step)⟩

/-! ### ladderbackref01_High: function 44 -/
def ladderbackref01_High.f (a0 : Int) : Option (Int) := if a0 = 1 then (some 1) else (if a0 = 2 then (some 32767) else (if a0 = 3 then (some 2147483647) else (if a0 = 4 then (some 65535) else (some 4294967295))))
set_option maxHeartbeats 8000000 in
set_option maxRecDepth 100000 in
theorem ladderbackref01_High.calls (a0 : Int) (r : Int) (w : World) (h : ladderbackref01_High.f a0 = some r) :
    Calls Try.prog 44 #[.int .i64 a0] w fun e w' => e = .returned (.int .i64 r) ∧ Drawn0 w w' := by
  have H : (if a0 = 1 then (some 1) else (if a0 = 2 then (some 32767) else (if a0 = 3 then (some 2147483647) else (if a0 = 4 then (some 65535) else (some 4294967295))))) = some r := h
  clear h
  by_cases c2 : a0 = 1
  · rw [if_pos c2] at H
    have c2b0 : (a0 == 1) = true := beq_iff_eq.mpr c2
    have c2b1 : (a0 != 1) = false := bne_eq_false_iff_eq.mpr c2
    clear c2
    obtain rfl := Option.some.inj H
    go_enter Try.func44, Try.ntmps44
    go_wp2
    go_ret
    exact ⟨by first | rfl | (simp; done) | (simp [*]; done), by repeat (first | exact Drawn0.refl _ | apply Drawn0.step)⟩
  · rw [if_neg c2] at H
    have c2b0 : (a0 == 1) = false := beq_eq_false_iff_ne.mpr c2
    have c2b1 : (a0 != 1) = true := bne_iff_ne.mpr c2
    by_cases c3 : a0 = 2
    · rw [if_pos c3] at H
      have c3b0 : (a0 == 2) = true := beq_iff_eq.mpr c3
      have c3b1 : (a0 != 2) = false := bne_eq_false_iff_eq.mpr c3
      clear c3
      obtain rfl := Option.some.inj H
      go_enter Try.func44, Try.ntmps44
      go_wp2
      go_ret
      exact ⟨by first | rfl | (simp; done) | (simp [*]; done), by repeat (first | exact Drawn0.refl _ | apply Drawn0.step)⟩
    · rw [if_neg c3] at H
      have c3b0 : (a0 == 2) = false := beq_eq_false_iff_ne.mpr c3
      have c3b1 : (a0 != 2) = true := bne_iff_ne.mpr c3
      by_cases c4 : a0 = 3
      · rw [if_pos c4] at H
        have c4b0 : (a0 == 3) = true := beq_iff_eq.mpr c4
        have c4b1 : (a0 != 3) = false := bne_eq_false_iff_eq.mpr c4
        clear c4
        obtain rfl := Option.some.inj H
        go_enter Try.func44, Try.ntmps44
        go_wp2
        go_ret
        exact ⟨by first | rfl | (simp; done) | (simp [*]; done), by repeat (first | exact Drawn0.refl _ | apply Drawn0.step)⟩
      · rw [if_neg c4] at H
        have c4b0 : (a0 == 3) = false := beq_eq_false_iff_ne.mpr c4
        have c4b1 : (a0 != 3) = true := bne_iff_ne.mpr c4
        by_cases c5 : a0 = 4
        · rw [if_pos c5] at H
          have c5b0 : (a0 == 4) = true := beq_iff_eq.mpr c5
          have c5b1 : (a0 != 4) = false := bne_eq_false_iff_eq.mpr c5
          clear c5
          obtain rfl := Option.some.inj H
          go_enter Try.func44, Try.ntmps44
          go_wp2
          go_ret
          exact ⟨by first | rfl | (simp; done) | (simp [*]; done), by repeat (first | exact Drawn0.refl _ | apply Drawn0.step)⟩
        · rw [if_neg c5] at H
          have c5b0 : (a0 == 4) = false := beq_eq_false_iff_ne.mpr c5
          have c5b1 : (a0 != 4) = true := bne_iff_ne.mpr c5
          obtain rfl := Option.some.inj H
          go_enter Try.func44, Try.ntmps44
          go_wp2
          go_ret
          exact ⟨by first | rfl | (simp; done) | (simp [*]; done), by repeat (first | exact Drawn0.refl _ | apply Drawn0.step)⟩

/-! ### ladderbackref01_Low: function 45 -/
def ladderbackref01_Low.f (a0 : Int) : Option (Int) := if a0 = 2 then (some (-32768)) else (if a0 = 3 then (some (-2147483648)) else (some 0))
set_option maxHeartbeats 8000000 in
set_option maxRecDepth 100000 in
theorem ladderbackref01_Low.calls (a0 : Int) (r : Int) (w : World) (h : ladderbackref01_Low.f a0 = some r) :
    Calls Try.prog 45 #[.int .i64 a0] w fun e w' => e = .returned (.int .i64 r) ∧ Drawn0 w w' := by
  have H : (if a0 = 2 then (some (-32768)) else (if a0 = 3 then (some (-2147483648)) else (some 0))) = some r := h
  clear h
  by_cases c2 : a0 = 2
  · rw [if_pos c2] at H
    have c2b0 : (a0 == 2) = true := beq_iff_eq.mpr c2
    have c2b1 : (a0 != 2) = false := bne_eq_false_iff_eq.mpr c2
    clear c2
    obtain rfl := Option.some.inj H
    go_enter Try.func45, Try.ntmps45
    go_wp2
    go_ret
    exact ⟨by first | rfl | (simp; done) | (simp [*]; done), by repeat (first | exact Drawn0.refl _ | apply Drawn0.step)⟩
  · rw [if_neg c2] at H
    have c2b0 : (a0 == 2) = false := beq_eq_false_iff_ne.mpr c2
    have c2b1 : (a0 != 2) = true := bne_iff_ne.mpr c2
    by_cases c3 : a0 = 3
    · rw [if_pos c3] at H
      have c3b0 : (a0 == 3) = true := beq_iff_eq.mpr c3
      have c3b1 : (a0 != 3) = false := bne_eq_false_iff_eq.mpr c3
      clear c3
      obtain rfl := Option.some.inj H
      go_enter Try.func45, Try.ntmps45
      go_wp2
      go_ret
      exact ⟨by first | rfl | (simp; done) | (simp [*]; done), by repeat (first | exact Drawn0.refl _ | apply Drawn0.step)⟩
    · rw [if_neg c3] at H
      have c3b0 : (a0 == 3) = false := beq_eq_false_iff_ne.mpr c3
      have c3b1 : (a0 != 3) = true := bne_iff_ne.mpr c3
      obtain rfl := Option.some.inj H
      go_enter Try.func45, Try.ntmps45
      go_wp2
      go_ret
      exact ⟨by first | rfl | (simp; done) | (simp [*]; done), by repeat (first | exact Drawn0.refl _ | apply Drawn0.step)⟩

/-! ### ladderbackref01_In: function 40 -/
def ladderbackref01_In.f (a0 : Int) (a1 : Int) : Option (Bool) := if a0 = 6 then (some true) else ((ladderbackref01_Right.f a0).bind fun t280 => (if t280 = true then ((ladderbackref01_Low.f a0).bind fun t281 => (if a1 ≥ t281 then ((ladderbackref01_High.f a0).bind fun t282 => (some (decide (a1 ≤ t282)))) else (some false))) else (some false)))
set_option maxHeartbeats 8000000 in
set_option maxRecDepth 100000 in
theorem ladderbackref01_In.calls (a0 : Int) (a1 : Int) (r : Bool) (w : World) (h : ladderbackref01_In.f a0 a1 = some r) :
    Calls Try.prog 40 #[.int .i64 a0, .int .i64 a1] w fun e w' => e = .returned (.bool r) ∧ Drawn0 w w' := by
  have H : (if a0 = 6 then (some true) else ((ladderbackref01_Right.f a0).bind fun t280 => (if t280 = true then ((ladderbackref01_Low.f a0).bind fun t281 => (if a1 ≥ t281 then ((ladderbackref01_High.f a0).bind fun t282 => (some (decide (a1 ≤ t282)))) else (some false))) else (some false)))) = some r := h
  clear h
  by_cases c3 : a0 = 6
  · rw [if_pos c3] at H
    have c3b0 : (a0 == 6) = true := beq_iff_eq.mpr c3
    have c3b1 : (a0 != 6) = false := bne_eq_false_iff_eq.mpr c3
    clear c3
    obtain rfl := Option.some.inj H
    go_enter Try.func40, Try.ntmps40
    go_wp2
    go_ret
    exact ⟨by first | rfl | (simp; done) | (simp [*]; done), by repeat (first | exact Drawn0.refl _ | apply Drawn0.step)⟩
  · rw [if_neg c3] at H
    have c3b0 : (a0 == 6) = false := beq_eq_false_iff_ne.mpr c3
    have c3b1 : (a0 != 6) = true := bne_iff_ne.mpr c3
    replace H := Option.bind_eq_some_iff.mp H
    obtain ⟨t280, A40, H⟩ := H
    replace H : (if t280 = true then ((ladderbackref01_Low.f a0).bind fun t281 => (if a1 ≥ t281 then ((ladderbackref01_High.f a0).bind fun t282 => (some (decide (a1 ≤ t282)))) else (some false))) else (some false)) = some r := H
    have A4 := Aside0.mk A40
    clear A40
    by_cases c5 : t280 = true
    · subst c5
      have H1 : ((ladderbackref01_Low.f a0).bind fun t281 => (if a1 ≥ t281 then ((ladderbackref01_High.f a0).bind fun t282 => (some (decide (a1 ≤ t282)))) else (some false))) = some r := by rw [if_pos rfl] at H; exact H
      clear H
      have H := H1
      clear H1
      replace H := Option.bind_eq_some_iff.mp H
      obtain ⟨t281, A60, H⟩ := H
      replace H : (if a1 ≥ t281 then ((ladderbackref01_High.f a0).bind fun t282 => (some (decide (a1 ≤ t282)))) else (some false)) = some r := H
      have A6 := Aside0.mk A60
      clear A60
      by_cases c7 : a1 ≥ t281
      · rw [if_pos c7] at H
        have c7b0 : decide (t281 ≤ a1) = true := decide_eq_true c7
        clear c7
        replace H := Option.bind_eq_some_iff.mp H
        obtain ⟨t282, A80, H⟩ := H
        replace H : (some (decide (a1 ≤ t282))) = some r := H
        have A8 := Aside0.mk A80
        clear A80
        obtain rfl := Option.some.inj H
        go_enter Try.func40, Try.ntmps40
        go_wp2_with (first | ((with_reducible refine gate_callee (f := 39) rfl ?_); refine goesL_ (some 8) rfl rfl Try.func39 (by kernel_rfl) rfl #[.int .i64 a0] rfl (by (try simp only [List.map_toArray, List.map_cons, List.map_nil]); first | done | rfl | (simp only [List.length_drop, List.length_take]; rfl)) ?_; (with_reducible refine (ladderbackref01_Right.calls a0 true _ A4.out).mono ?_); rintro e w' ⟨rfl, ⟨nd, rfl⟩⟩; refine ⟨_, rfl, ?_⟩) | (go_at_call 45; (with_reducible refine (ladderbackref01_Low.calls a0 t281 _ A6.out).mono ?_); rintro e w' ⟨rfl, ⟨nd, rfl⟩⟩) | (go_at_call 44; (with_reducible refine (ladderbackref01_High.calls a0 t282 _ A8.out).mono ?_); rintro e w' ⟨rfl, ⟨nd, rfl⟩⟩))
        go_ret
        exact ⟨by first | rfl | (simp; done) | (simp [*]; done), by repeat (first | exact Drawn0.refl _ | apply Drawn0.step)⟩
      · rw [if_neg c7] at H
        have c7b0 : decide (t281 ≤ a1) = false := decide_eq_false c7
        clear c7
        obtain rfl := Option.some.inj H
        go_enter Try.func40, Try.ntmps40
        go_wp2_with (first | ((with_reducible refine gate_callee (f := 39) rfl ?_); refine goesL_ (some 8) rfl rfl Try.func39 (by kernel_rfl) rfl #[.int .i64 a0] rfl (by (try simp only [List.map_toArray, List.map_cons, List.map_nil]); first | done | rfl | (simp only [List.length_drop, List.length_take]; rfl)) ?_; (with_reducible refine (ladderbackref01_Right.calls a0 true _ A4.out).mono ?_); rintro e w' ⟨rfl, ⟨nd, rfl⟩⟩; refine ⟨_, rfl, ?_⟩) | (go_at_call 45; (with_reducible refine (ladderbackref01_Low.calls a0 t281 _ A6.out).mono ?_); rintro e w' ⟨rfl, ⟨nd, rfl⟩⟩))
        go_ret
        exact ⟨by first | rfl | (simp; done) | (simp [*]; done), by repeat (first | exact Drawn0.refl _ | apply Drawn0.step)⟩
    · replace c5 := Bool.eq_false_iff.mpr c5
      subst c5
      have H1 : (some false) = some r := by rw [if_neg (show ¬ (false = true) by decide)] at H; exact H
      clear H
      have H := H1
      clear H1
      obtain rfl := Option.some.inj H
      go_enter Try.func40, Try.ntmps40
      go_wp2_with (first | ((with_reducible refine gate_callee (f := 39) rfl ?_); refine goesL_ (some 8) rfl rfl Try.func39 (by kernel_rfl) rfl #[.int .i64 a0] rfl (by (try simp only [List.map_toArray, List.map_cons, List.map_nil]); first | done | rfl | (simp only [List.length_drop, List.length_take]; rfl)) ?_; (with_reducible refine (ladderbackref01_Right.calls a0 false _ A4.out).mono ?_); rintro e w' ⟨rfl, ⟨nd, rfl⟩⟩; refine ⟨_, rfl, ?_⟩))
      go_ret
      exact ⟨by first | rfl | (simp; done) | (simp [*]; done), by repeat (first | exact Drawn0.refl _ | apply Drawn0.step)⟩

end Go.Proofs.Ytamajfcjcfkkjaa.PSt
end

section
/- Whether a number is a value of a type, as the program and the document tell it. -/
namespace Go.Proofs.Ytamajfcjcfkkjaa.RPure
open Go.RowKit Go.Proofs.Ytamajfcjcfkkjaa.PSt Go.Proofs.YtamajfcjcfkkjaaW.PrintWords Go.Proofs.YtamajfcjcfkkjaaW.PrintLast Go.Proofs.YtamajfcjcfkkjaaW.PrintMore
set_option linter.unusedVariables false
set_option linter.unusedSimpArgs false
/-- Is n a value of type t? -/
def inF (t n : Int) : Bool :=
  if t = 1 then decide (0 ≤ n ∧ n ≤ 1) else if t = 2 then decide (-32768 ≤ n ∧ n ≤ 32767) else if t = 3 then decide (-2147483648 ≤ n ∧ n ≤ 2147483647) else
  if t = 4 then decide (0 ≤ n ∧ n ≤ 65535) else if t = 5 then decide (0 ≤ n ∧ n ≤ 4294967295) else decide (t = 6)
theorem kin_is (t n : Int) : kind_In.f t n = some (inF t n) := by
  unfold kind_In.f kind_Right.f inF
  by_cases h : 1 ≤ t ∧ t ≤ 6
  · rw [if_pos h.1, decide_eq_true h.2, Option.bind_some, if_pos rfl]
    unfold kind_Wrap.f
    rcases (by omega : t = 1 ∨ t = 2 ∨ t = 3 ∨ t = 4 ∨ t = 5 ∨ t = 6) with rfl | rfl | rfl | rfl | rfl | rfl
    · rw [if_pos rfl, if_pos rfl]
      by_cases hn : n = 0
      · subst hn; rfl
      · rw [if_neg hn, Option.bind_some]
        congr 1
        rw [Bool.eq_iff_iff, beq_iff_eq, decide_eq_true_eq]
        omega
    all_goals simp only [reduceCtorEq, if_true, if_false, Option.bind_some, Option.some.injEq, show ((2 : Int) = 1) = False by decide, show ((3 : Int) = 1) = False by decide, show ((3 : Int) = 2) = False by decide, show ((4 : Int) = 1) = False by decide, show ((4 : Int) = 2) = False by decide, show ((4 : Int) = 3) = False by decide, show ((5 : Int) = 1) = False by decide, show ((5 : Int) = 2) = False by decide, show ((5 : Int) = 3) = False by decide, show ((5 : Int) = 4) = False by decide, show ((6 : Int) = 1) = False by decide, show ((6 : Int) = 2) = False by decide, show ((6 : Int) = 3) = False by decide, show ((6 : Int) = 4) = False by decide, show ((6 : Int) = 5) = False by decide]
    all_goals rw [Bool.eq_iff_iff, beq_iff_eq, decide_eq_true_eq]
    · have e : IntKind.i16.wrap n = (if 32768 ≤ n % 65536 then n % 65536 - 65536 else n % 65536) := by simp [IntKind.wrap, IntKind.signed, IntKind.bits]
      rw [e]; unfold wrap64; split <;> omega
    · unfold wrap32 wrap64; omega
    · have e : IntKind.u16.wrap n = n % 65536 := by simp [IntKind.wrap, IntKind.signed, IntKind.bits]
      rw [e]; unfold wrap64; omega
    · omega
    · simp
  · by_cases h1 : t ≥ 1
    · rw [if_pos h1, decide_eq_false (by omega), Option.bind_some, if_neg (by decide), if_neg (by omega), if_neg (by omega), if_neg (by omega), if_neg (by omega), if_neg (by omega), decide_eq_false (by omega)]
    · rw [if_neg h1, Option.bind_some, if_neg (by decide), if_neg (by omega), if_neg (by omega), if_neg (by omega), if_neg (by omega), if_neg (by omega), decide_eq_false (by omega)]
theorem rright_is (t : Int) : ladderbackref01_Right.f t = some (decide (1 ≤ t ∧ t ≤ 6)) := by
  unfold ladderbackref01_Right.f
  by_cases h : t > 0
  · rw [if_pos h]; congr 1; rw [Bool.eq_iff_iff]; simp; omega
  · rw [if_neg h]; congr 1; rw [Bool.eq_iff_iff]; simp; omega
theorem rin_is (t n : Int) : ladderbackref01_In.f t n = some (inF t n) := by
  unfold ladderbackref01_In.f inF
  rw [rright_is, Option.bind_some]
  by_cases h6 : t = 6
  · subst h6; rfl
  · rw [if_neg h6]
    by_cases h : 1 ≤ t ∧ t ≤ 6
    · rw [if_pos (decide_eq_true h)]
      unfold ladderbackref01_Low.f ladderbackref01_High.f
      rcases (by omega : t = 1 ∨ t = 2 ∨ t = 3 ∨ t = 4 ∨ t = 5) with rfl | rfl | rfl | rfl | rfl
      all_goals simp only [reduceCtorEq, if_true, if_false, Option.bind_some, show ((2 : Int) = 1) = False by decide, show ((1 : Int) = 2) = False by decide, show ((1 : Int) = 3) = False by decide, show ((3 : Int) = 1) = False by decide, show ((3 : Int) = 2) = False by decide, show ((4 : Int) = 1) = False by decide, show ((4 : Int) = 2) = False by decide, show ((4 : Int) = 3) = False by decide, show ((5 : Int) = 1) = False by decide, show ((5 : Int) = 2) = False by decide, show ((5 : Int) = 3) = False by decide, show ((5 : Int) = 4) = False by decide]
      all_goals
        split
        · congr 1; rw [Bool.eq_iff_iff]; simp; omega
        · congr 1; rw [Bool.eq_iff_iff]; simp; omega
    · rw [if_neg (by simpa using h), if_neg (by omega), if_neg (by omega), if_neg (by omega), if_neg (by omega), if_neg (by omega), decide_eq_false h6]
end Go.Proofs.Ytamajfcjcfkkjaa.RPure
end
