/- Printed by a program of this session (wip/pg.py, over the print of the kit): functions, their Lean twins, and the proofs that the calls come to them; each under the conditions that it names. -/
import Derived.Test.YtmcgllcoadbnpaaDoorZRefsOneab
import Derived.Test.YtmcgllcoadbnpaaDoorZRefsOneaf
import Derived.Test.YtmcgllcoadbnpaaDoorZRefsOneag
/- Printed by a program of this session (wip/pg.py, over the print of the kit): functions, their Lean twins, and the proofs that the calls come to them; each under the conditions that it names. -/
namespace Go.Proofs.YtmcgllcoadbnpaaDoor.PRf
open Go.Proofs.YtmcgllcoadbnpaaDoor.Given
open Go.RowKit Go.Proofs.YtmcgllcoadbnpaaDoorW.PrintWords Go.Proofs.YtmcgllcoadbnpaaDoorW.PrintLast Go.Proofs.YtmcgllcoadbnpaaDoorW.PrintMore
attribute [local go_sem] max2_int min2_int max_two min_two max_three min_three max_four min_four   -- for this text's walks alone
set_option linter.unusedVariables false
set_option linter.unusedSimpArgs false

/-! ### ladderbackref18_One: function 14 -/
mutual
def ladderbackref18_One.j0 : Nat → Int → Bool → List (S35) → List (S37) → List (S39) → List (S43) → Int → Int → Int → Option (Int)
 | 0, _, _, _, _, _, _, _, _, _ => none
 | k + 1, x1, x19, x220000, x220001, x220002, x220003, x221000, x221001, x221002 => if x19 = true then (some 15) else ((ladderbackref12_Right.f k x221000 x221001 x221002).bind fun t221 => (if t221 = true then (if x221000 ≥ 8 then (if x221000 ≤ 25 then ((ladderbackref07_Goes.f k x221000 x221001).bind fun t222 => (if t222 = true then (if x221000 = 26 then (if x221001 < 1 then (ladderbackref18_One.j1 k x1 true x220000 x220001 x220002 x220003 x221000 x221001 x221002) else (if x221001 > 6 then (ladderbackref18_One.j1 k x1 true x220000 x220001 x220002 x220003 x221000 x221001 x221002) else (if x221002 < 1 then (ladderbackref18_One.j1 k x1 true x220000 x220001 x220002 x220003 x221000 x221001 x221002) else (ladderbackref18_One.j1 k x1 (decide (x221002 > 6)) x220000 x220001 x220002 x220003 x221000 x221001 x221002)))) else (ladderbackref18_One.j1 k x1 false x220000 x220001 x220002 x220003 x221000 x221001 x221002)) else (ladderbackref18_One.j1 k x1 true x220000 x220001 x220002 x220003 x221000 x221001 x221002))) else (if x221000 = 26 then (if x221001 < 1 then (ladderbackref18_One.j1 k x1 true x220000 x220001 x220002 x220003 x221000 x221001 x221002) else (if x221001 > 6 then (ladderbackref18_One.j1 k x1 true x220000 x220001 x220002 x220003 x221000 x221001 x221002) else (if x221002 < 1 then (ladderbackref18_One.j1 k x1 true x220000 x220001 x220002 x220003 x221000 x221001 x221002) else (ladderbackref18_One.j1 k x1 (decide (x221002 > 6)) x220000 x220001 x220002 x220003 x221000 x221001 x221002)))) else (ladderbackref18_One.j1 k x1 false x220000 x220001 x220002 x220003 x221000 x221001 x221002))) else (if x221000 = 26 then (if x221001 < 1 then (ladderbackref18_One.j1 k x1 true x220000 x220001 x220002 x220003 x221000 x221001 x221002) else (if x221001 > 6 then (ladderbackref18_One.j1 k x1 true x220000 x220001 x220002 x220003 x221000 x221001 x221002) else (if x221002 < 1 then (ladderbackref18_One.j1 k x1 true x220000 x220001 x220002 x220003 x221000 x221001 x221002) else (ladderbackref18_One.j1 k x1 (decide (x221002 > 6)) x220000 x220001 x220002 x220003 x221000 x221001 x221002)))) else (ladderbackref18_One.j1 k x1 false x220000 x220001 x220002 x220003 x221000 x221001 x221002))) else (some 7)))
def ladderbackref18_One.j1 : Nat → Int → Bool → List (S35) → List (S37) → List (S39) → List (S43) → Int → Int → Int → Option (Int)
 | 0, _, _, _, _, _, _, _, _, _ => none
 | k + 1, x1, x63, x220000, x220001, x220002, x220003, x221000, x221001, x221002 => if x63 = true then (some 10) else (if x221000 = 1 then (if (x221001 < (x220000.length : Int)) then (some 0) else (some 8)) else (if x221000 = 2 then (ladderbackref18_One.j2 k x1 x221000 (x221000 == 2) x220000 x220001 x220002 x220003 x221000 x221001 x221002) else (ladderbackref18_One.j2 k x1 x221000 (x221000 == 3) x220000 x220001 x220002 x220003 x221000 x221001 x221002)))
def ladderbackref18_One.j2 : Nat → Int → Int → Bool → List (S35) → List (S37) → List (S39) → List (S43) → Int → Int → Int → Option (Int)
 | 0, _, _, _, _, _, _, _, _, _, _ => none
 | k + 1, x1, x65, x74, x220000, x220001, x220002, x220003, x221000, x221001, x221002 => if x74 = true then (if x221001 < (x220001.length : Int) then (if 0 ≤ x221001 then (if (((rd_T37 x220001 x221001).f2) < 2) then (some 0) else (some 8)) else (none)) else (some 8)) else (if x65 = 4 then (ladderbackref18_One.j3 k x1 x65 (x65 == 4) x220000 x220001 x220002 x220003 x221000 x221001 x221002) else (ladderbackref18_One.j3 k x1 x65 (x65 == 5) x220000 x220001 x220002 x220003 x221000 x221001 x221002))
def ladderbackref18_One.j3 : Nat → Int → Int → Bool → List (S35) → List (S37) → List (S39) → List (S43) → Int → Int → Int → Option (Int)
 | 0, _, _, _, _, _, _, _, _, _, _ => none
 | k + 1, x1, x65, x93, x220000, x220001, x220002, x220003, x221000, x221001, x221002 => if x93 = true then (if 0 ≤ x1 then (if x1 < (x220003.length : Int) then ((ladderbackref15_Slots.f k ((rd_T43 x220003 x1).f0) ((rd_T43 x220003 x1).f1) ((rd_T43 x220003 x1).f2) ((rd_T43 x220003 x1).f3) ((rd_T43 x220003 x1).f4)).bind fun t225 => (if (x221001 < (t225.length : Int)) then (some 0) else (some 8))) else (none)) else (none)) else (if x65 = 6 then (ladderbackref18_One.j4 k x65 (x65 == 6) x220000 x220001 x220002 x220003 x221000 x221001 x221002) else (ladderbackref18_One.j4 k x65 (x65 == 7) x220000 x220001 x220002 x220003 x221000 x221001 x221002))
def ladderbackref18_One.j4 : Nat → Int → Bool → List (S35) → List (S37) → List (S39) → List (S43) → Int → Int → Int → Option (Int)
 | 0, _, _, _, _, _, _, _, _, _ => none
 | k + 1, x65, x106, x220000, x220001, x220002, x220003, x221000, x221001, x221002 => if x106 = true then (if x221001 < (x220001.length : Int) then (if 0 ≤ x221001 then (if (((rd_T37 x220001 x221001).f2) ≥ 2) then (some 0) else (some 8)) else (none)) else (some 8)) else (if x65 = 33 then (if x221001 > 0 then (if (x221001 < (x220003.length : Int)) then (some 0) else (some 8)) else (some 8)) else (if x65 = 35 then (ladderbackref18_One.j5 k (x65 == 35) x220000 x220001 x220002 x220003 x221000 x221001 x221002) else (if x65 = 36 then (ladderbackref18_One.j5 k (x65 == 36) x220000 x220001 x220002 x220003 x221000 x221001 x221002) else (ladderbackref18_One.j5 k (x65 == 37) x220000 x220001 x220002 x220003 x221000 x221001 x221002))))
def ladderbackref18_One.j5 : Nat → Bool → List (S35) → List (S37) → List (S39) → List (S43) → Int → Int → Int → Option (Int)
 | 0, _, _, _, _, _, _, _, _ => none
 | k + 1, x138, x220000, x220001, x220002, x220003, x221000, x221001, x221002 => if x138 = true then (if x221001 < (x220002.length : Int) then (ladderbackref18_One.j6 k (decide (x221001 < (x220002.length : Int))) (x221000 != 36) x220000 x220001 x220002 x220003 x221000 x221001 x221002) else (ladderbackref18_One.j6 k (decide (x221001 < (x220002.length : Int))) false x220000 x220001 x220002 x220003 x221000 x221001 x221002)) else (some 0)
def ladderbackref18_One.j6 : Nat → Bool → Bool → List (S35) → List (S37) → List (S39) → List (S43) → Int → Int → Int → Option (Int)
 | 0, _, _, _, _, _, _, _, _, _ => none
 | k + 1, x7, x153, x220000, x220001, x220002, x220003, x221000, x221001, x221002 => if x153 = true then (if 0 ≤ x221001 then (if x221001 < (x220002.length : Int) then ((ladderbackref11_Fields.f k ((rd_T39 x220002 x221001).f1)).bind fun bt230 => (if x221000 = 35 then (if x221002 < bt230.2.2 then (some 0) else (if x221000 = 37 then (if (x221002 < (bt230.1.length : Int)) then (some 0) else (some 8)) else (some 8))) else (if x221000 = 37 then (if (x221002 < (bt230.1.length : Int)) then (some 0) else (some 8)) else (some 8)))) else (none)) else (none)) else (if x7 = true then (some 0) else (some 8))
end
def ladderbackref18_One.f (k : Nat) (l0_0 : List (S35)) (l0_1 : List (S37)) (l0_2 : List (S39)) (l0_3 : List (S43)) (a1 : Int) (a2_0 : Int) (a2_1 : Int) (a2_2 : Int) : Option (Int) := if a1 < 0 then (ladderbackref18_One.j0 k a1 true l0_0 l0_1 l0_2 l0_3 a2_0 a2_1 a2_2) else (ladderbackref18_One.j0 k a1 (decide (a1 ≥ (l0_3.length : Int))) l0_0 l0_1 l0_2 l0_3 a2_0 a2_1 a2_2)
def ladderbackref18_One.T17 : Bool × List (List Nat × List Nat) := (true, [([], []), ([0], [0]), ([], []), ([2], [2]), ([], []), ([3, 4], [3, 4]), ([5], [5]), ([6], [6]), ([7], [7]), ([1, 8], [1, 8]), ([9, 7, 0, 1, 2, 3, 4, 5, 6, 7, 8, 9], [9])])
def ladderbackref18_One.B17 : List Nat := [0, 1, 0, 4, 0, 28, 60, 124, 252, 511, 1023]
theorem ladderbackref18_One.tab17 : rtab .any (opsOf Tryd.f14 17) = ladderbackref18_One.T17 := by kernel_rfl
theorem ladderbackref18_One.bits17 : waitsOk ladderbackref18_One.T17.2 ladderbackref18_One.B17 = true := by kernel_rfl
set_option maxHeartbeats 8000000 in
set_option maxRecDepth 100000 in
theorem ladderbackref18_One.calls (k : Nat) (A0_0 : Option Addr) (c0_0 : Nat) (l0_0 : List (S35)) (A0_1 : Option Addr) (c0_1 : Nat) (l0_1 : List (S37)) (A0_2 : Option Addr) (c0_2 : Nat) (l0_2 : List (S39)) (A0_3 : Option Addr) (c0_3 : Nat) (l0_3 : List (S43)) (a1 : Int) (a2_0 : Int) (a2_1 : Int) (a2_2 : Int) (r : Int) (w : World) (hr0_0 : Kd.C k35 w A0_0 l0_0.length l0_0) (hc0_0 : l0_0.length ≤ c0_0) (hr0_1 : Kd.C k37 w A0_1 l0_1.length l0_1) (hc0_1 : l0_1.length ≤ c0_1) (hr0_2 : Kd.C k39 w A0_2 l0_2.length l0_2) (hc0_2 : l0_2.length ≤ c0_2) (hr0_3 : Kd.C k43 w A0_3 l0_3.length l0_3) (hc0_3 : l0_3.length ≤ c0_3) (h : ladderbackref18_One.f k l0_0 l0_1 l0_2 l0_3 a1 a2_0 a2_1 a2_2 = some r) :
  Calls Tryd.prog 14 #[.agg #[.slice A0_0 l0_0.length c0_0, .slice A0_1 l0_1.length c0_1, .slice A0_2 l0_2.length c0_2, .slice A0_3 l0_3.length c0_3], .int .i64 a1, .agg #[.int .i64 a2_0, .int .i64 a2_1, .int .i64 a2_2]] w fun e w' => e = .returned (.int .i64 r) ∧ Below w.heap.size w w' := by
 have hu27 := Tryd.underlying27
 have hu29 := Tryd.underlying29
 have hu43 := Tryd.underlying43
 have HR0_0 := Aside0.mk hr0_0
 have HC0_0 := Aside0.mk hc0_0
 clear hr0_0 hc0_0
 have HR0_1 := Aside0.mk hr0_1
 have HC0_1 := Aside0.mk hc0_1
 clear hr0_1 hc0_1
 have HR0_2 := Aside0.mk hr0_2
 have HC0_2 := Aside0.mk hc0_2
 clear hr0_2 hc0_2
 have HR0_3 := Aside0.mk hr0_3
 have HC0_3 := Aside0.mk hc0_3
 clear hr0_3 hc0_3
 have HB := Aside0.mk (Below.refl w.heap.size w)
 have H : (if a1 < 0 then (ladderbackref18_One.j0 k a1 true l0_0 l0_1 l0_2 l0_3 a2_0 a2_1 a2_2) else (ladderbackref18_One.j0 k a1 (decide (a1 ≥ (l0_3.length : Int))) l0_0 l0_1 l0_2 l0_3 a2_0 a2_1 a2_2)) = some r := h
 clear h
 have HC4 := Aside0.mk H
 clear H
 go_enter Tryd.func14, Tryd.ntmps14
 go_upto_region 1 with (first | ((with_reducible refine gate_dst (N := 3) rfl ?_); (try (refine gate_guard (by rfl) ?_; dsimp only)); refine box_event ?hg (N := 3) ?hd (cs := #[.slice A0_0 l0_0.length c0_0, .slice A0_1 l0_1.length c0_1, .slice A0_2 l0_2.length c0_2, .slice A0_3 l0_3.length c0_3]) (t := 27) ?hr ?_; (case hd => rfl); (case hg => rfl); (case hr => first | (go_simp; done) | (go_simp; rfl)); intro gb219 hg w5 hbox hb; have n0_ := Aside0.mk (below_step (by repeat (first | (with_reducible first | exact HB.out | apply below_alloc | apply pw_below_drewN | apply below_drew1) | exact HB.out)) hb); have n1_ := Aside0.mk (hbox); have n2_ := Aside0.mk ((by rw [hg]; exact (below_size (by repeat (first | (with_reducible first | exact HB.out | apply below_alloc | apply pw_below_drewN | apply below_drew1) | exact HB.out))) : w.heap.size ≤ gb219)); have n3_ := Aside0.mk ((by rw [hg]; exact (below_size (by repeat (first | (with_reducible first | exact HB.out | apply below_alloc | apply pw_below_drewN | apply below_drew1) | exact HB.out))) : w.heap.size ≤ gb219)); clear HB; have HB := n0_; have BK219 := n1_; have GW219 := n2_; have GE219 := n3_; clear n0_ n1_ n2_ n3_; clear hb hbox hg) | ((with_reducible refine gate_dst (N := 5) rfl ?_); (try (refine gate_guard (by rfl) ?_; dsimp only)); refine box_event ?hg (N := 5) ?hd (cs := #[.int .i64 a2_0, .int .i64 a2_1, .int .i64 a2_2]) (t := 29) ?hr ?_; (case hd => rfl); (case hg => rfl); (case hr => first | (go_simp; done) | (go_simp; rfl)); intro gb220 hg w6 hbox hb; have n0_ := Aside0.mk (blk_below (g := gb219) (o := .cells #[.slice A0_0 l0_0.length c0_0, .slice A0_1 l0_1.length c0_1, .slice A0_2 l0_2.length c0_2, .slice A0_3 l0_3.length c0_3] 27 (0, 0)) (by (with_reducible repeat (first | refine blk_drewN ?_ _ | refine blk_drew ?_ | refine blk_alloc ?_ _)); exact BK219.out) hb); have n1_ := Aside0.mk (below_step (by repeat (first | (with_reducible first | exact HB.out | apply below_alloc | apply pw_below_drewN | apply below_drew1 | refine below_set ?_ GE219.out) | exact HB.out)) hb); have n2_ := Aside0.mk (hbox); have n3_ := Aside0.mk ((by rw [hg]; exact (below_size (by repeat (first | (with_reducible first | exact HB.out | apply below_alloc | apply pw_below_drewN | apply below_drew1 | refine below_set ?_ GE219.out) | exact HB.out))) : w.heap.size ≤ gb220)); have n4_ := Aside0.mk ((by rw [hg]; exact (below_size (by repeat (first | (with_reducible first | exact HB.out | apply below_alloc | apply pw_below_drewN | apply below_drew1 | refine below_set ?_ GE219.out) | exact HB.out))) : w.heap.size ≤ gb220)); have n5_ := Aside0.mk ((by rw [hg]; exact Nat.ne_of_lt (blk_lt (g := gb219) (o := .cells #[.slice A0_0 l0_0.length c0_0, .slice A0_1 l0_1.length c0_1, .slice A0_2 l0_2.length c0_2, .slice A0_3 l0_3.length c0_3] 27 (0, 0)) (by (with_reducible repeat (first | refine blk_drewN ?_ _ | refine blk_drew ?_ | refine blk_alloc ?_ _)); exact BK219.out)) : gb219 ≠ gb220)); have n6_ := Aside0.mk ((by rw [hg]; exact Nat.ne_of_gt (blk_lt (g := gb219) (o := .cells #[.slice A0_0 l0_0.length c0_0, .slice A0_1 l0_1.length c0_1, .slice A0_2 l0_2.length c0_2, .slice A0_3 l0_3.length c0_3] 27 (0, 0)) (by (with_reducible repeat (first | refine blk_drewN ?_ _ | refine blk_drew ?_ | refine blk_alloc ?_ _)); exact BK219.out)) : gb220 ≠ gb219)); clear BK219; clear HB; have BK219 := n0_; have HB := n1_; have BK220 := n2_; have GW220 := n3_; have GE220 := n4_; have NB219_220 := n5_; have NB220_219 := n6_; clear n0_ n1_ n2_ n3_ n4_ n5_ n6_; clear hb hbox hg))
 (try simp only [Act.put, List.setIfInBounds_toArray, List.set_cons_zero, List.set_cons_succ])
 go_cut [19] (fun v19 wc => ∃ (kq : Nat) (x19_3 : Bool), v19 = .bool x19_3 ∧ Aside0 (ladderbackref18_One.j0 kq a1 x19_3 l0_0 l0_1 l0_2 l0_3 a2_0 a2_1 a2_2 = some r) ∧ Aside0 (kq ≤ k) ∧ Aside0 (wc.heap[gb219]? = some (.cells #[(.slice A0_0 l0_0.length c0_0), (.slice A0_1 l0_1.length c0_1), (.slice A0_2 l0_2.length c0_2), (.slice A0_3 l0_3.length c0_3)] 27 (0, 0))) ∧ Aside0 (wc.heap[gb220]? = some (.cells #[.int .i64 a2_0, .int .i64 a2_1, .int .i64 a2_2] 29 (0, 0))) ∧ Aside0 (Below w.heap.size w wc))
 case first =>
  have H := HC4.out
  clear HC4
  by_cases c7 : a1 < 0
  ·rw [if_pos c7] at H
   have c7b0 : decide (a1 < 0) = true := decide_eq_true c7
   clear c7
   (first | rw [c7b0] | (simp only [i64_w, i32_w]; rw [c7b0]) | skip)
   as_aux_lemma =>
    have H' := Aside0.mk H
    clear H
    go_wp2
    go_meet
    case rel => exact ⟨_, (true), (by first | rfl | (simp; done) | (simp [*]; done)), H', ⟨by first | omega | exact Nat.le_refl _⟩, ⟨by (with_reducible repeat (first | refine blk_drewN ?_ _ | refine blk_drew ?_ | refine blk_alloc ?_ _)); exact BK219.out⟩, ⟨by (with_reducible repeat (first | refine blk_drewN ?_ _ | refine blk_drew ?_ | refine blk_alloc ?_ _)); exact BK220.out⟩, ⟨by repeat (first | (with_reducible first | exact HB.out | apply below_alloc | apply pw_below_drewN | apply below_drew1 | refine below_set ?_ GE219.out | refine below_set ?_ GE220.out) | exact HB.out)⟩⟩
  ·rw [if_neg c7] at H
   have c7b0 : decide (a1 < 0) = false := decide_eq_false c7
   clear c7
   (first | rw [c7b0] | (simp only [i64_w, i32_w]; rw [c7b0]) | skip)
   as_aux_lemma =>
    have H' := Aside0.mk H
    clear H
    have hnb8 := NB219_220.out
    have hnc8 := NB220_219.out
    have hcz9_0 : w6.cell? ⟨gb219, 0, none⟩ = some (.slice A0_0 l0_0.length c0_0) := (blk_cell BK219.out 0).trans rfl
    have hcz9_1 : w6.cell? ⟨gb219, 1, none⟩ = some (.slice A0_1 l0_1.length c0_1) := (blk_cell BK219.out 1).trans rfl
    have hcz9_2 : w6.cell? ⟨gb219, 2, none⟩ = some (.slice A0_2 l0_2.length c0_2) := (blk_cell BK219.out 2).trans rfl
    have hcz9_3 : w6.cell? ⟨gb219, 3, none⟩ = some (.slice A0_3 l0_3.length c0_3) := (blk_cell BK219.out 3).trans rfl
    have hfz9_0 := blk_frozen BK219.out 0
    have hfz9_1 := blk_frozen BK219.out 1
    have hfz9_2 := blk_frozen BK219.out 2
    have hfz9_3 := blk_frozen BK219.out 3
    go_wp2
    go_meet
    case rel => exact ⟨_, (decide (a1 ≥ (l0_3.length : Int))), (by first | rfl | (simp; done) | (simp [*]; done)), H', ⟨by first | omega | exact Nat.le_refl _⟩, ⟨by (with_reducible repeat (first | refine blk_drewN ?_ _ | refine blk_drew ?_ | refine blk_alloc ?_ _)); exact BK219.out⟩, ⟨by (with_reducible repeat (first | refine blk_drewN ?_ _ | refine blk_drew ?_ | refine blk_alloc ?_ _)); exact BK220.out⟩, ⟨by repeat (first | (with_reducible first | exact HB.out | apply below_alloc | apply pw_below_drewN | apply below_drew1 | refine below_set ?_ GE219.out | refine below_set ?_ GE220.out) | exact HB.out)⟩⟩
 case rest =>
  clear HC4
  try clear c1
  try clear p2
  try clear c7
  try clear c7b0
  try clear c8
  try clear hcz9_0
  try clear hcz9_1
  try clear hcz9_2
  try clear hcz9_3
  try clear hfz9_0
  try clear hfz9_1
  try clear hfz9_2
  try clear hfz9_3
  obtain ⟨kq, x19_3, rfl, HA, HJ3, BK219, BK220, HB⟩ := hcut
  cases kq with
  | zero => exact absurd HA.out (by simp [ladderbackref18_One.j0])
  | succ kj3 =>
   have H := HA.out
   clear HA
   simp only [ladderbackref18_One.j0] at H
   by_cases c10 : x19_3 = true
   ·subst c10
    have H1 : (some 15) = some r := by rw [if_pos rfl] at H; exact H
    clear H
    have H := H1
    clear H1
    as_aux_lemma =>
     obtain rfl := Option.some.inj H
     go_wp2
     go_ret
     exact ⟨by first | rfl | (simp [errW_none, errW_some] <;> rfl) | (simp [*, errW_none, errW_some] <;> rfl), by repeat (first | (with_reducible first | exact HB.out | apply below_alloc | apply pw_below_drewN | apply below_drew1 | refine below_set ?_ GE219.out | refine below_set ?_ GE220.out) | exact HB.out)⟩
   ·replace c10 := Bool.eq_false_iff.mpr c10
    subst c10
    have H1 : ((ladderbackref12_Right.f kj3 a2_0 a2_1 a2_2).bind fun t221 => (if t221 = true then (if a2_0 ≥ 8 then (if a2_0 ≤ 25 then ((ladderbackref07_Goes.f kj3 a2_0 a2_1).bind fun t222 => (if t222 = true then (if a2_0 = 26 then (if a2_1 < 1 then (ladderbackref18_One.j1 kj3 a1 true l0_0 l0_1 l0_2 l0_3 a2_0 a2_1 a2_2) else (if a2_1 > 6 then (ladderbackref18_One.j1 kj3 a1 true l0_0 l0_1 l0_2 l0_3 a2_0 a2_1 a2_2) else (if a2_2 < 1 then (ladderbackref18_One.j1 kj3 a1 true l0_0 l0_1 l0_2 l0_3 a2_0 a2_1 a2_2) else (ladderbackref18_One.j1 kj3 a1 (decide (a2_2 > 6)) l0_0 l0_1 l0_2 l0_3 a2_0 a2_1 a2_2)))) else (ladderbackref18_One.j1 kj3 a1 false l0_0 l0_1 l0_2 l0_3 a2_0 a2_1 a2_2)) else (ladderbackref18_One.j1 kj3 a1 true l0_0 l0_1 l0_2 l0_3 a2_0 a2_1 a2_2))) else (if a2_0 = 26 then (if a2_1 < 1 then (ladderbackref18_One.j1 kj3 a1 true l0_0 l0_1 l0_2 l0_3 a2_0 a2_1 a2_2) else (if a2_1 > 6 then (ladderbackref18_One.j1 kj3 a1 true l0_0 l0_1 l0_2 l0_3 a2_0 a2_1 a2_2) else (if a2_2 < 1 then (ladderbackref18_One.j1 kj3 a1 true l0_0 l0_1 l0_2 l0_3 a2_0 a2_1 a2_2) else (ladderbackref18_One.j1 kj3 a1 (decide (a2_2 > 6)) l0_0 l0_1 l0_2 l0_3 a2_0 a2_1 a2_2)))) else (ladderbackref18_One.j1 kj3 a1 false l0_0 l0_1 l0_2 l0_3 a2_0 a2_1 a2_2))) else (if a2_0 = 26 then (if a2_1 < 1 then (ladderbackref18_One.j1 kj3 a1 true l0_0 l0_1 l0_2 l0_3 a2_0 a2_1 a2_2) else (if a2_1 > 6 then (ladderbackref18_One.j1 kj3 a1 true l0_0 l0_1 l0_2 l0_3 a2_0 a2_1 a2_2) else (if a2_2 < 1 then (ladderbackref18_One.j1 kj3 a1 true l0_0 l0_1 l0_2 l0_3 a2_0 a2_1 a2_2) else (ladderbackref18_One.j1 kj3 a1 (decide (a2_2 > 6)) l0_0 l0_1 l0_2 l0_3 a2_0 a2_1 a2_2)))) else (ladderbackref18_One.j1 kj3 a1 false l0_0 l0_1 l0_2 l0_3 a2_0 a2_1 a2_2))) else (some 7))) = some r := by rw [if_neg (show ¬ (false = true) by decide)] at H; exact H
    clear H
    have H := H1
    clear H1
    replace H := Option.bind_eq_some_iff.mp H
    obtain ⟨t221, A110, H⟩ := H
    replace H : (if t221 = true then (if a2_0 ≥ 8 then (if a2_0 ≤ 25 then ((ladderbackref07_Goes.f kj3 a2_0 a2_1).bind fun t222 => (if t222 = true then (if a2_0 = 26 then (if a2_1 < 1 then (ladderbackref18_One.j1 kj3 a1 true l0_0 l0_1 l0_2 l0_3 a2_0 a2_1 a2_2) else (if a2_1 > 6 then (ladderbackref18_One.j1 kj3 a1 true l0_0 l0_1 l0_2 l0_3 a2_0 a2_1 a2_2) else (if a2_2 < 1 then (ladderbackref18_One.j1 kj3 a1 true l0_0 l0_1 l0_2 l0_3 a2_0 a2_1 a2_2) else (ladderbackref18_One.j1 kj3 a1 (decide (a2_2 > 6)) l0_0 l0_1 l0_2 l0_3 a2_0 a2_1 a2_2)))) else (ladderbackref18_One.j1 kj3 a1 false l0_0 l0_1 l0_2 l0_3 a2_0 a2_1 a2_2)) else (ladderbackref18_One.j1 kj3 a1 true l0_0 l0_1 l0_2 l0_3 a2_0 a2_1 a2_2))) else (if a2_0 = 26 then (if a2_1 < 1 then (ladderbackref18_One.j1 kj3 a1 true l0_0 l0_1 l0_2 l0_3 a2_0 a2_1 a2_2) else (if a2_1 > 6 then (ladderbackref18_One.j1 kj3 a1 true l0_0 l0_1 l0_2 l0_3 a2_0 a2_1 a2_2) else (if a2_2 < 1 then (ladderbackref18_One.j1 kj3 a1 true l0_0 l0_1 l0_2 l0_3 a2_0 a2_1 a2_2) else (ladderbackref18_One.j1 kj3 a1 (decide (a2_2 > 6)) l0_0 l0_1 l0_2 l0_3 a2_0 a2_1 a2_2)))) else (ladderbackref18_One.j1 kj3 a1 false l0_0 l0_1 l0_2 l0_3 a2_0 a2_1 a2_2))) else (if a2_0 = 26 then (if a2_1 < 1 then (ladderbackref18_One.j1 kj3 a1 true l0_0 l0_1 l0_2 l0_3 a2_0 a2_1 a2_2) else (if a2_1 > 6 then (ladderbackref18_One.j1 kj3 a1 true l0_0 l0_1 l0_2 l0_3 a2_0 a2_1 a2_2) else (if a2_2 < 1 then (ladderbackref18_One.j1 kj3 a1 true l0_0 l0_1 l0_2 l0_3 a2_0 a2_1 a2_2) else (ladderbackref18_One.j1 kj3 a1 (decide (a2_2 > 6)) l0_0 l0_1 l0_2 l0_3 a2_0 a2_1 a2_2)))) else (ladderbackref18_One.j1 kj3 a1 false l0_0 l0_1 l0_2 l0_3 a2_0 a2_1 a2_2))) else (some 7)) = some r := H
    have A11 := Aside0.mk A110
    clear A110
    by_cases c12 : t221 = true
    ·subst c12
     have H1 : (if a2_0 ≥ 8 then (if a2_0 ≤ 25 then ((ladderbackref07_Goes.f kj3 a2_0 a2_1).bind fun t222 => (if t222 = true then (if a2_0 = 26 then (if a2_1 < 1 then (ladderbackref18_One.j1 kj3 a1 true l0_0 l0_1 l0_2 l0_3 a2_0 a2_1 a2_2) else (if a2_1 > 6 then (ladderbackref18_One.j1 kj3 a1 true l0_0 l0_1 l0_2 l0_3 a2_0 a2_1 a2_2) else (if a2_2 < 1 then (ladderbackref18_One.j1 kj3 a1 true l0_0 l0_1 l0_2 l0_3 a2_0 a2_1 a2_2) else (ladderbackref18_One.j1 kj3 a1 (decide (a2_2 > 6)) l0_0 l0_1 l0_2 l0_3 a2_0 a2_1 a2_2)))) else (ladderbackref18_One.j1 kj3 a1 false l0_0 l0_1 l0_2 l0_3 a2_0 a2_1 a2_2)) else (ladderbackref18_One.j1 kj3 a1 true l0_0 l0_1 l0_2 l0_3 a2_0 a2_1 a2_2))) else (if a2_0 = 26 then (if a2_1 < 1 then (ladderbackref18_One.j1 kj3 a1 true l0_0 l0_1 l0_2 l0_3 a2_0 a2_1 a2_2) else (if a2_1 > 6 then (ladderbackref18_One.j1 kj3 a1 true l0_0 l0_1 l0_2 l0_3 a2_0 a2_1 a2_2) else (if a2_2 < 1 then (ladderbackref18_One.j1 kj3 a1 true l0_0 l0_1 l0_2 l0_3 a2_0 a2_1 a2_2) else (ladderbackref18_One.j1 kj3 a1 (decide (a2_2 > 6)) l0_0 l0_1 l0_2 l0_3 a2_0 a2_1 a2_2)))) else (ladderbackref18_One.j1 kj3 a1 false l0_0 l0_1 l0_2 l0_3 a2_0 a2_1 a2_2))) else (if a2_0 = 26 then (if a2_1 < 1 then (ladderbackref18_One.j1 kj3 a1 true l0_0 l0_1 l0_2 l0_3 a2_0 a2_1 a2_2) else (if a2_1 > 6 then (ladderbackref18_One.j1 kj3 a1 true l0_0 l0_1 l0_2 l0_3 a2_0 a2_1 a2_2) else (if a2_2 < 1 then (ladderbackref18_One.j1 kj3 a1 true l0_0 l0_1 l0_2 l0_3 a2_0 a2_1 a2_2) else (ladderbackref18_One.j1 kj3 a1 (decide (a2_2 > 6)) l0_0 l0_1 l0_2 l0_3 a2_0 a2_1 a2_2)))) else (ladderbackref18_One.j1 kj3 a1 false l0_0 l0_1 l0_2 l0_3 a2_0 a2_1 a2_2))) = some r := by rw [if_pos rfl] at H; exact H
     clear H
     have H := H1
     clear H1
     have HC13 := Aside0.mk H
     clear H
     have hnb14 := NB220_219.out
     have hnc14 := NB219_220.out
     have hcz15_0 : wc.cell? ⟨gb220, 0, none⟩ = some (.int .i64 a2_0) := (blk_cell BK220.out 0).trans rfl
     have hcz15_1 : wc.cell? ⟨gb220, 1, none⟩ = some (.int .i64 a2_1) := (blk_cell BK220.out 1).trans rfl
     have hcz15_2 : wc.cell? ⟨gb220, 2, none⟩ = some (.int .i64 a2_2) := (blk_cell BK220.out 2).trans rfl
     have hfz15_0 := blk_frozen BK220.out 0
     have hfz15_1 := blk_frozen BK220.out 1
     have hfz15_2 := blk_frozen BK220.out 2
     go_upto_region 5 with (first | ((with_reducible refine gate_callee (f := 29) rfl ?_); refine goesL_ (some 21) rfl rfl Tryd.func29 (by kernel_rfl) rfl #[.agg #[.int .i64 a2_0, .int .i64 a2_1, .int .i64 a2_2]] rfl (by (try simp only [List.map_toArray, List.map_cons, List.map_nil]); first | done | rfl | (simp only [List.length_drop, List.length_take]; rfl)) ?_; (with_reducible refine (ladderbackref12_Right.calls kj3 a2_0 a2_1 a2_2 true _ A11.out).mono ?_); rintro e w16 ⟨rfl, hb⟩; refine ⟨_, rfl, ?_⟩; have n0_ := Aside0.mk (blk_below (g := gb219) (o := .cells #[.slice A0_0 l0_0.length c0_0, .slice A0_1 l0_1.length c0_1, .slice A0_2 l0_2.length c0_2, .slice A0_3 l0_3.length c0_3] 27 (0, 0)) (by (with_reducible repeat (first | refine blk_drewN ?_ _ | refine blk_drew ?_ | refine blk_alloc ?_ _)); exact BK219.out) hb); have n1_ := Aside0.mk (blk_below (g := gb220) (o := .cells #[.int .i64 a2_0, .int .i64 a2_1, .int .i64 a2_2] 29 (0, 0)) (by (with_reducible repeat (first | refine blk_drewN ?_ _ | refine blk_drew ?_ | refine blk_alloc ?_ _)); exact BK220.out) hb); have n2_ := Aside0.mk (below_step (by repeat (first | (with_reducible first | exact HB.out | apply below_alloc | apply pw_below_drewN | apply below_drew1 | refine below_set ?_ GE219.out | refine below_set ?_ GE220.out) | exact HB.out)) hb); clear BK219; clear BK220; clear HB; have BK219 := n0_; have BK220 := n1_; have HB := n2_; clear n0_ n1_ n2_; (try clear hb); (try clear hb2); (try clear hk); (try clear hi)))
     (try simp only [Act.put, List.setIfInBounds_toArray, List.set_cons_zero, List.set_cons_succ])
     go_cut [63] (fun v63 wc => ∃ (kq : Nat) (x63_12 : Bool), v63 = .bool x63_12 ∧ Aside0 (ladderbackref18_One.j1 kq a1 x63_12 l0_0 l0_1 l0_2 l0_3 a2_0 a2_1 a2_2 = some r) ∧ Aside0 (kq ≤ kj3) ∧ Aside0 (wc.heap[gb219]? = some (.cells #[(.slice A0_0 l0_0.length c0_0), (.slice A0_1 l0_1.length c0_1), (.slice A0_2 l0_2.length c0_2), (.slice A0_3 l0_3.length c0_3)] 27 (0, 0))) ∧ Aside0 (wc.heap[gb220]? = some (.cells #[.int .i64 a2_0, .int .i64 a2_1, .int .i64 a2_2] 29 (0, 0))) ∧ Aside0 (Below w.heap.size w wc))
     case first =>
      have H := HC13.out
      clear HC13
      by_cases c17 : a2_0 ≥ 8
      ·rw [if_pos c17] at H
       have c17b0 : decide (8 ≤ a2_0) = true := decide_eq_true c17
       clear c17
       (first | rw [c17b0] | (simp only [i64_w, i32_w]; rw [c17b0]) | skip)
       by_cases c18 : a2_0 ≤ 25
       ·rw [if_pos c18] at H
        have c18b0 : decide (a2_0 ≤ 25) = true := decide_eq_true c18
        clear c18
        replace H := Option.bind_eq_some_iff.mp H
        obtain ⟨t222, A190, H⟩ := H
        replace H : (if t222 = true then (if a2_0 = 26 then (if a2_1 < 1 then (ladderbackref18_One.j1 kj3 a1 true l0_0 l0_1 l0_2 l0_3 a2_0 a2_1 a2_2) else (if a2_1 > 6 then (ladderbackref18_One.j1 kj3 a1 true l0_0 l0_1 l0_2 l0_3 a2_0 a2_1 a2_2) else (if a2_2 < 1 then (ladderbackref18_One.j1 kj3 a1 true l0_0 l0_1 l0_2 l0_3 a2_0 a2_1 a2_2) else (ladderbackref18_One.j1 kj3 a1 (decide (a2_2 > 6)) l0_0 l0_1 l0_2 l0_3 a2_0 a2_1 a2_2)))) else (ladderbackref18_One.j1 kj3 a1 false l0_0 l0_1 l0_2 l0_3 a2_0 a2_1 a2_2)) else (ladderbackref18_One.j1 kj3 a1 true l0_0 l0_1 l0_2 l0_3 a2_0 a2_1 a2_2)) = some r := H
        have A19 := Aside0.mk A190
        clear A190
        by_cases c20 : t222 = true
        ·subst c20
         have H1 : (if a2_0 = 26 then (if a2_1 < 1 then (ladderbackref18_One.j1 kj3 a1 true l0_0 l0_1 l0_2 l0_3 a2_0 a2_1 a2_2) else (if a2_1 > 6 then (ladderbackref18_One.j1 kj3 a1 true l0_0 l0_1 l0_2 l0_3 a2_0 a2_1 a2_2) else (if a2_2 < 1 then (ladderbackref18_One.j1 kj3 a1 true l0_0 l0_1 l0_2 l0_3 a2_0 a2_1 a2_2) else (ladderbackref18_One.j1 kj3 a1 (decide (a2_2 > 6)) l0_0 l0_1 l0_2 l0_3 a2_0 a2_1 a2_2)))) else (ladderbackref18_One.j1 kj3 a1 false l0_0 l0_1 l0_2 l0_3 a2_0 a2_1 a2_2)) = some r := by rw [if_pos rfl] at H; exact H
         clear H
         have H := H1
         clear H1
         by_cases c21 : a2_0 = 26
         ·rw [if_pos c21] at H
          have c21b0 : (a2_0 == 26) = true := beq_iff_eq.mpr c21
          have c21b1 : (a2_0 != 26) = false := bne_eq_false_iff_eq.mpr c21
          clear c21
          by_cases c22 : a2_1 < 1
          ·rw [if_pos c22] at H
           have c22b0 : decide (a2_1 < 1) = true := decide_eq_true c22
           clear c22
           as_aux_lemma =>
            have H' := Aside0.mk H
            clear H
            have hnb23 := NB220_219.out
            have hnc23 := NB219_220.out
            have hcz24_0 : w16.cell? ⟨gb220, 0, none⟩ = some (.int .i64 a2_0) := (blk_cell BK220.out 0).trans rfl
            have hcz24_1 : w16.cell? ⟨gb220, 1, none⟩ = some (.int .i64 a2_1) := (blk_cell BK220.out 1).trans rfl
            have hcz24_2 : w16.cell? ⟨gb220, 2, none⟩ = some (.int .i64 a2_2) := (blk_cell BK220.out 2).trans rfl
            have hfz24_0 := blk_frozen BK220.out 0
            have hfz24_1 := blk_frozen BK220.out 1
            have hfz24_2 := blk_frozen BK220.out 2
            go_wp2_with (first | (go_at_call 30; (with_reducible refine (ladderbackref07_Goes.calls kj3 a2_0 a2_1 true _ A19.out).mono ?_); rintro e w' ⟨rfl, ⟨nd, rfl⟩⟩))
            go_meet
            case rel => exact ⟨_, (true), (by first | rfl | (simp; done) | (simp [*]; done)), H', ⟨by have := HJ3.out; first | omega | exact Nat.le_refl _⟩, ⟨by (with_reducible repeat (first | refine blk_drewN ?_ _ | refine blk_drew ?_ | refine blk_alloc ?_ _)); exact BK219.out⟩, ⟨by (with_reducible repeat (first | refine blk_drewN ?_ _ | refine blk_drew ?_ | refine blk_alloc ?_ _)); exact BK220.out⟩, ⟨by repeat (first | (with_reducible first | exact HB.out | apply below_alloc | apply pw_below_drewN | apply below_drew1 | refine below_set ?_ GE219.out | refine below_set ?_ GE220.out) | exact HB.out)⟩⟩
          ·rw [if_neg c22] at H
           have c22b0 : decide (a2_1 < 1) = false := decide_eq_false c22
           clear c22
           by_cases c25 : a2_1 > 6
           ·rw [if_pos c25] at H
            have c25b0 : decide (6 < a2_1) = true := decide_eq_true c25
            clear c25
            as_aux_lemma =>
             have H' := Aside0.mk H
             clear H
             have hnb26 := NB220_219.out
             have hnc26 := NB219_220.out
             have hcz27_0 : w16.cell? ⟨gb220, 0, none⟩ = some (.int .i64 a2_0) := (blk_cell BK220.out 0).trans rfl
             have hcz27_1 : w16.cell? ⟨gb220, 1, none⟩ = some (.int .i64 a2_1) := (blk_cell BK220.out 1).trans rfl
             have hcz27_2 : w16.cell? ⟨gb220, 2, none⟩ = some (.int .i64 a2_2) := (blk_cell BK220.out 2).trans rfl
             have hfz27_0 := blk_frozen BK220.out 0
             have hfz27_1 := blk_frozen BK220.out 1
             have hfz27_2 := blk_frozen BK220.out 2
             go_wp2_with (first | (go_at_call 30; (with_reducible refine (ladderbackref07_Goes.calls kj3 a2_0 a2_1 true _ A19.out).mono ?_); rintro e w' ⟨rfl, ⟨nd, rfl⟩⟩))
             go_meet
             case rel => exact ⟨_, (true), (by first | rfl | (simp; done) | (simp [*]; done)), H', ⟨by have := HJ3.out; first | omega | exact Nat.le_refl _⟩, ⟨by (with_reducible repeat (first | refine blk_drewN ?_ _ | refine blk_drew ?_ | refine blk_alloc ?_ _)); exact BK219.out⟩, ⟨by (with_reducible repeat (first | refine blk_drewN ?_ _ | refine blk_drew ?_ | refine blk_alloc ?_ _)); exact BK220.out⟩, ⟨by repeat (first | (with_reducible first | exact HB.out | apply below_alloc | apply pw_below_drewN | apply below_drew1 | refine below_set ?_ GE219.out | refine below_set ?_ GE220.out) | exact HB.out)⟩⟩
           ·rw [if_neg c25] at H
            have c25b0 : decide (6 < a2_1) = false := decide_eq_false c25
            clear c25
            by_cases c28 : a2_2 < 1
            ·rw [if_pos c28] at H
             have c28b0 : decide (a2_2 < 1) = true := decide_eq_true c28
             clear c28
             as_aux_lemma =>
              have H' := Aside0.mk H
              clear H
              have hnb29 := NB220_219.out
              have hnc29 := NB219_220.out
              have hcz30_0 : w16.cell? ⟨gb220, 0, none⟩ = some (.int .i64 a2_0) := (blk_cell BK220.out 0).trans rfl
              have hcz30_1 : w16.cell? ⟨gb220, 1, none⟩ = some (.int .i64 a2_1) := (blk_cell BK220.out 1).trans rfl
              have hcz30_2 : w16.cell? ⟨gb220, 2, none⟩ = some (.int .i64 a2_2) := (blk_cell BK220.out 2).trans rfl
              have hfz30_0 := blk_frozen BK220.out 0
              have hfz30_1 := blk_frozen BK220.out 1
              have hfz30_2 := blk_frozen BK220.out 2
              go_wp2_with (first | (go_at_call 30; (with_reducible refine (ladderbackref07_Goes.calls kj3 a2_0 a2_1 true _ A19.out).mono ?_); rintro e w' ⟨rfl, ⟨nd, rfl⟩⟩))
              go_meet
              case rel => exact ⟨_, (true), (by first | rfl | (simp; done) | (simp [*]; done)), H', ⟨by have := HJ3.out; first | omega | exact Nat.le_refl _⟩, ⟨by (with_reducible repeat (first | refine blk_drewN ?_ _ | refine blk_drew ?_ | refine blk_alloc ?_ _)); exact BK219.out⟩, ⟨by (with_reducible repeat (first | refine blk_drewN ?_ _ | refine blk_drew ?_ | refine blk_alloc ?_ _)); exact BK220.out⟩, ⟨by repeat (first | (with_reducible first | exact HB.out | apply below_alloc | apply pw_below_drewN | apply below_drew1 | refine below_set ?_ GE219.out | refine below_set ?_ GE220.out) | exact HB.out)⟩⟩
            ·rw [if_neg c28] at H
             have c28b0 : decide (a2_2 < 1) = false := decide_eq_false c28
             clear c28
             as_aux_lemma =>
              have H' := Aside0.mk H
              clear H
              have hnb31 := NB220_219.out
              have hnc31 := NB219_220.out
              have hcz32_0 : w16.cell? ⟨gb220, 0, none⟩ = some (.int .i64 a2_0) := (blk_cell BK220.out 0).trans rfl
              have hcz32_1 : w16.cell? ⟨gb220, 1, none⟩ = some (.int .i64 a2_1) := (blk_cell BK220.out 1).trans rfl
              have hcz32_2 : w16.cell? ⟨gb220, 2, none⟩ = some (.int .i64 a2_2) := (blk_cell BK220.out 2).trans rfl
              have hfz32_0 := blk_frozen BK220.out 0
              have hfz32_1 := blk_frozen BK220.out 1
              have hfz32_2 := blk_frozen BK220.out 2
              go_wp2_with (first | (go_at_call 30; (with_reducible refine (ladderbackref07_Goes.calls kj3 a2_0 a2_1 true _ A19.out).mono ?_); rintro e w' ⟨rfl, ⟨nd, rfl⟩⟩))
              go_meet
              case rel => exact ⟨_, (decide (a2_2 > 6)), (by first | rfl | (simp; done) | (simp [*]; done)), H', ⟨by have := HJ3.out; first | omega | exact Nat.le_refl _⟩, ⟨by (with_reducible repeat (first | refine blk_drewN ?_ _ | refine blk_drew ?_ | refine blk_alloc ?_ _)); exact BK219.out⟩, ⟨by (with_reducible repeat (first | refine blk_drewN ?_ _ | refine blk_drew ?_ | refine blk_alloc ?_ _)); exact BK220.out⟩, ⟨by repeat (first | (with_reducible first | exact HB.out | apply below_alloc | apply pw_below_drewN | apply below_drew1 | refine below_set ?_ GE219.out | refine below_set ?_ GE220.out) | exact HB.out)⟩⟩
         ·rw [if_neg c21] at H
          have c21b0 : (a2_0 == 26) = false := beq_eq_false_iff_ne.mpr c21
          have c21b1 : (a2_0 != 26) = true := bne_iff_ne.mpr c21
          as_aux_lemma =>
           have H' := Aside0.mk H
           clear H
           have hnb33 := NB220_219.out
           have hnc33 := NB219_220.out
           have hcz34_0 : w16.cell? ⟨gb220, 0, none⟩ = some (.int .i64 a2_0) := (blk_cell BK220.out 0).trans rfl
           have hcz34_1 : w16.cell? ⟨gb220, 1, none⟩ = some (.int .i64 a2_1) := (blk_cell BK220.out 1).trans rfl
           have hcz34_2 : w16.cell? ⟨gb220, 2, none⟩ = some (.int .i64 a2_2) := (blk_cell BK220.out 2).trans rfl
           have hfz34_0 := blk_frozen BK220.out 0
           have hfz34_1 := blk_frozen BK220.out 1
           have hfz34_2 := blk_frozen BK220.out 2
           go_wp2_with (first | (go_at_call 30; (with_reducible refine (ladderbackref07_Goes.calls kj3 a2_0 a2_1 true _ A19.out).mono ?_); rintro e w' ⟨rfl, ⟨nd, rfl⟩⟩))
           go_meet
           case rel => exact ⟨_, (false), (by first | rfl | (simp; done) | (simp [*]; done)), H', ⟨by have := HJ3.out; first | omega | exact Nat.le_refl _⟩, ⟨by (with_reducible repeat (first | refine blk_drewN ?_ _ | refine blk_drew ?_ | refine blk_alloc ?_ _)); exact BK219.out⟩, ⟨by (with_reducible repeat (first | refine blk_drewN ?_ _ | refine blk_drew ?_ | refine blk_alloc ?_ _)); exact BK220.out⟩, ⟨by repeat (first | (with_reducible first | exact HB.out | apply below_alloc | apply pw_below_drewN | apply below_drew1 | refine below_set ?_ GE219.out | refine below_set ?_ GE220.out) | exact HB.out)⟩⟩
        ·replace c20 := Bool.eq_false_iff.mpr c20
         subst c20
         have H1 : (ladderbackref18_One.j1 kj3 a1 true l0_0 l0_1 l0_2 l0_3 a2_0 a2_1 a2_2) = some r := by rw [if_neg (show ¬ (false = true) by decide)] at H; exact H
         clear H
         have H := H1
         clear H1
         as_aux_lemma =>
          have H' := Aside0.mk H
          clear H
          have hnb35 := NB220_219.out
          have hnc35 := NB219_220.out
          have hcz36_0 : w16.cell? ⟨gb220, 0, none⟩ = some (.int .i64 a2_0) := (blk_cell BK220.out 0).trans rfl
          have hcz36_1 : w16.cell? ⟨gb220, 1, none⟩ = some (.int .i64 a2_1) := (blk_cell BK220.out 1).trans rfl
          have hcz36_2 : w16.cell? ⟨gb220, 2, none⟩ = some (.int .i64 a2_2) := (blk_cell BK220.out 2).trans rfl
          have hfz36_0 := blk_frozen BK220.out 0
          have hfz36_1 := blk_frozen BK220.out 1
          have hfz36_2 := blk_frozen BK220.out 2
          go_wp2_with (first | (go_at_call 30; (with_reducible refine (ladderbackref07_Goes.calls kj3 a2_0 a2_1 false _ A19.out).mono ?_); rintro e w' ⟨rfl, ⟨nd, rfl⟩⟩))
          go_meet
          case rel => exact ⟨_, (true), (by first | rfl | (simp; done) | (simp [*]; done)), H', ⟨by have := HJ3.out; first | omega | exact Nat.le_refl _⟩, ⟨by (with_reducible repeat (first | refine blk_drewN ?_ _ | refine blk_drew ?_ | refine blk_alloc ?_ _)); exact BK219.out⟩, ⟨by (with_reducible repeat (first | refine blk_drewN ?_ _ | refine blk_drew ?_ | refine blk_alloc ?_ _)); exact BK220.out⟩, ⟨by repeat (first | (with_reducible first | exact HB.out | apply below_alloc | apply pw_below_drewN | apply below_drew1 | refine below_set ?_ GE219.out | refine below_set ?_ GE220.out) | exact HB.out)⟩⟩
       ·rw [if_neg c18] at H
        have c18b0 : decide (a2_0 ≤ 25) = false := decide_eq_false c18
        clear c18
        by_cases c37 : a2_0 = 26
        ·rw [if_pos c37] at H
         have c37b0 : (a2_0 == 26) = true := beq_iff_eq.mpr c37
         have c37b1 : (a2_0 != 26) = false := bne_eq_false_iff_eq.mpr c37
         clear c37
         by_cases c38 : a2_1 < 1
         ·rw [if_pos c38] at H
          have c38b0 : decide (a2_1 < 1) = true := decide_eq_true c38
          clear c38
          as_aux_lemma =>
           have H' := Aside0.mk H
           clear H
           have hnb39 := NB220_219.out
           have hnc39 := NB219_220.out
           have hcz40_0 : w16.cell? ⟨gb220, 0, none⟩ = some (.int .i64 a2_0) := (blk_cell BK220.out 0).trans rfl
           have hcz40_1 : w16.cell? ⟨gb220, 1, none⟩ = some (.int .i64 a2_1) := (blk_cell BK220.out 1).trans rfl
           have hcz40_2 : w16.cell? ⟨gb220, 2, none⟩ = some (.int .i64 a2_2) := (blk_cell BK220.out 2).trans rfl
           have hfz40_0 := blk_frozen BK220.out 0
           have hfz40_1 := blk_frozen BK220.out 1
           have hfz40_2 := blk_frozen BK220.out 2
           go_wp2
           go_meet
           case rel => exact ⟨_, (true), (by first | rfl | (simp; done) | (simp [*]; done)), H', ⟨by have := HJ3.out; first | omega | exact Nat.le_refl _⟩, ⟨by (with_reducible repeat (first | refine blk_drewN ?_ _ | refine blk_drew ?_ | refine blk_alloc ?_ _)); exact BK219.out⟩, ⟨by (with_reducible repeat (first | refine blk_drewN ?_ _ | refine blk_drew ?_ | refine blk_alloc ?_ _)); exact BK220.out⟩, ⟨by repeat (first | (with_reducible first | exact HB.out | apply below_alloc | apply pw_below_drewN | apply below_drew1 | refine below_set ?_ GE219.out | refine below_set ?_ GE220.out) | exact HB.out)⟩⟩
         ·rw [if_neg c38] at H
          have c38b0 : decide (a2_1 < 1) = false := decide_eq_false c38
          clear c38
          by_cases c41 : a2_1 > 6
          ·rw [if_pos c41] at H
           have c41b0 : decide (6 < a2_1) = true := decide_eq_true c41
           clear c41
           as_aux_lemma =>
            have H' := Aside0.mk H
            clear H
            have hnb42 := NB220_219.out
            have hnc42 := NB219_220.out
            have hcz43_0 : w16.cell? ⟨gb220, 0, none⟩ = some (.int .i64 a2_0) := (blk_cell BK220.out 0).trans rfl
            have hcz43_1 : w16.cell? ⟨gb220, 1, none⟩ = some (.int .i64 a2_1) := (blk_cell BK220.out 1).trans rfl
            have hcz43_2 : w16.cell? ⟨gb220, 2, none⟩ = some (.int .i64 a2_2) := (blk_cell BK220.out 2).trans rfl
            have hfz43_0 := blk_frozen BK220.out 0
            have hfz43_1 := blk_frozen BK220.out 1
            have hfz43_2 := blk_frozen BK220.out 2
            go_wp2
            go_meet
            case rel => exact ⟨_, (true), (by first | rfl | (simp; done) | (simp [*]; done)), H', ⟨by have := HJ3.out; first | omega | exact Nat.le_refl _⟩, ⟨by (with_reducible repeat (first | refine blk_drewN ?_ _ | refine blk_drew ?_ | refine blk_alloc ?_ _)); exact BK219.out⟩, ⟨by (with_reducible repeat (first | refine blk_drewN ?_ _ | refine blk_drew ?_ | refine blk_alloc ?_ _)); exact BK220.out⟩, ⟨by repeat (first | (with_reducible first | exact HB.out | apply below_alloc | apply pw_below_drewN | apply below_drew1 | refine below_set ?_ GE219.out | refine below_set ?_ GE220.out) | exact HB.out)⟩⟩
          ·rw [if_neg c41] at H
           have c41b0 : decide (6 < a2_1) = false := decide_eq_false c41
           clear c41
           by_cases c44 : a2_2 < 1
           ·rw [if_pos c44] at H
            have c44b0 : decide (a2_2 < 1) = true := decide_eq_true c44
            clear c44
            as_aux_lemma =>
             have H' := Aside0.mk H
             clear H
             have hnb45 := NB220_219.out
             have hnc45 := NB219_220.out
             have hcz46_0 : w16.cell? ⟨gb220, 0, none⟩ = some (.int .i64 a2_0) := (blk_cell BK220.out 0).trans rfl
             have hcz46_1 : w16.cell? ⟨gb220, 1, none⟩ = some (.int .i64 a2_1) := (blk_cell BK220.out 1).trans rfl
             have hcz46_2 : w16.cell? ⟨gb220, 2, none⟩ = some (.int .i64 a2_2) := (blk_cell BK220.out 2).trans rfl
             have hfz46_0 := blk_frozen BK220.out 0
             have hfz46_1 := blk_frozen BK220.out 1
             have hfz46_2 := blk_frozen BK220.out 2
             go_wp2
             go_meet
             case rel => exact ⟨_, (true), (by first | rfl | (simp; done) | (simp [*]; done)), H', ⟨by have := HJ3.out; first | omega | exact Nat.le_refl _⟩, ⟨by (with_reducible repeat (first | refine blk_drewN ?_ _ | refine blk_drew ?_ | refine blk_alloc ?_ _)); exact BK219.out⟩, ⟨by (with_reducible repeat (first | refine blk_drewN ?_ _ | refine blk_drew ?_ | refine blk_alloc ?_ _)); exact BK220.out⟩, ⟨by repeat (first | (with_reducible first | exact HB.out | apply below_alloc | apply pw_below_drewN | apply below_drew1 | refine below_set ?_ GE219.out | refine below_set ?_ GE220.out) | exact HB.out)⟩⟩
           ·rw [if_neg c44] at H
            have c44b0 : decide (a2_2 < 1) = false := decide_eq_false c44
            clear c44
            as_aux_lemma =>
             have H' := Aside0.mk H
             clear H
             have hnb47 := NB220_219.out
             have hnc47 := NB219_220.out
             have hcz48_0 : w16.cell? ⟨gb220, 0, none⟩ = some (.int .i64 a2_0) := (blk_cell BK220.out 0).trans rfl
             have hcz48_1 : w16.cell? ⟨gb220, 1, none⟩ = some (.int .i64 a2_1) := (blk_cell BK220.out 1).trans rfl
             have hcz48_2 : w16.cell? ⟨gb220, 2, none⟩ = some (.int .i64 a2_2) := (blk_cell BK220.out 2).trans rfl
             have hfz48_0 := blk_frozen BK220.out 0
             have hfz48_1 := blk_frozen BK220.out 1
             have hfz48_2 := blk_frozen BK220.out 2
             go_wp2
             go_meet
             case rel => exact ⟨_, (decide (a2_2 > 6)), (by first | rfl | (simp; done) | (simp [*]; done)), H', ⟨by have := HJ3.out; first | omega | exact Nat.le_refl _⟩, ⟨by (with_reducible repeat (first | refine blk_drewN ?_ _ | refine blk_drew ?_ | refine blk_alloc ?_ _)); exact BK219.out⟩, ⟨by (with_reducible repeat (first | refine blk_drewN ?_ _ | refine blk_drew ?_ | refine blk_alloc ?_ _)); exact BK220.out⟩, ⟨by repeat (first | (with_reducible first | exact HB.out | apply below_alloc | apply pw_below_drewN | apply below_drew1 | refine below_set ?_ GE219.out | refine below_set ?_ GE220.out) | exact HB.out)⟩⟩
        ·rw [if_neg c37] at H
         have c37b0 : (a2_0 == 26) = false := beq_eq_false_iff_ne.mpr c37
         have c37b1 : (a2_0 != 26) = true := bne_iff_ne.mpr c37
         as_aux_lemma =>
          have H' := Aside0.mk H
          clear H
          have hnb49 := NB220_219.out
          have hnc49 := NB219_220.out
          have hcz50_0 : w16.cell? ⟨gb220, 0, none⟩ = some (.int .i64 a2_0) := (blk_cell BK220.out 0).trans rfl
          have hcz50_1 : w16.cell? ⟨gb220, 1, none⟩ = some (.int .i64 a2_1) := (blk_cell BK220.out 1).trans rfl
          have hcz50_2 : w16.cell? ⟨gb220, 2, none⟩ = some (.int .i64 a2_2) := (blk_cell BK220.out 2).trans rfl
          have hfz50_0 := blk_frozen BK220.out 0
          have hfz50_1 := blk_frozen BK220.out 1
          have hfz50_2 := blk_frozen BK220.out 2
          go_wp2
          go_meet
          case rel => exact ⟨_, (false), (by first | rfl | (simp; done) | (simp [*]; done)), H', ⟨by have := HJ3.out; first | omega | exact Nat.le_refl _⟩, ⟨by (with_reducible repeat (first | refine blk_drewN ?_ _ | refine blk_drew ?_ | refine blk_alloc ?_ _)); exact BK219.out⟩, ⟨by (with_reducible repeat (first | refine blk_drewN ?_ _ | refine blk_drew ?_ | refine blk_alloc ?_ _)); exact BK220.out⟩, ⟨by repeat (first | (with_reducible first | exact HB.out | apply below_alloc | apply pw_below_drewN | apply below_drew1 | refine below_set ?_ GE219.out | refine below_set ?_ GE220.out) | exact HB.out)⟩⟩
      ·rw [if_neg c17] at H
       have c17b0 : decide (8 ≤ a2_0) = false := decide_eq_false c17
       clear c17
       (first | rw [c17b0] | (simp only [i64_w, i32_w]; rw [c17b0]) | skip)
       by_cases c51 : a2_0 = 26
       ·rw [if_pos c51] at H
        have c51b0 : (a2_0 == 26) = true := beq_iff_eq.mpr c51
        have c51b1 : (a2_0 != 26) = false := bne_eq_false_iff_eq.mpr c51
        clear c51
        by_cases c52 : a2_1 < 1
        ·rw [if_pos c52] at H
         have c52b0 : decide (a2_1 < 1) = true := decide_eq_true c52
         clear c52
         as_aux_lemma =>
          have H' := Aside0.mk H
          clear H
          have hnb53 := NB220_219.out
          have hnc53 := NB219_220.out
          have hcz54_0 : w16.cell? ⟨gb220, 0, none⟩ = some (.int .i64 a2_0) := (blk_cell BK220.out 0).trans rfl
          have hcz54_1 : w16.cell? ⟨gb220, 1, none⟩ = some (.int .i64 a2_1) := (blk_cell BK220.out 1).trans rfl
          have hcz54_2 : w16.cell? ⟨gb220, 2, none⟩ = some (.int .i64 a2_2) := (blk_cell BK220.out 2).trans rfl
          have hfz54_0 := blk_frozen BK220.out 0
          have hfz54_1 := blk_frozen BK220.out 1
          have hfz54_2 := blk_frozen BK220.out 2
          go_wp2
          go_meet
          case rel => exact ⟨_, (true), (by first | rfl | (simp; done) | (simp [*]; done)), H', ⟨by have := HJ3.out; first | omega | exact Nat.le_refl _⟩, ⟨by (with_reducible repeat (first | refine blk_drewN ?_ _ | refine blk_drew ?_ | refine blk_alloc ?_ _)); exact BK219.out⟩, ⟨by (with_reducible repeat (first | refine blk_drewN ?_ _ | refine blk_drew ?_ | refine blk_alloc ?_ _)); exact BK220.out⟩, ⟨by repeat (first | (with_reducible first | exact HB.out | apply below_alloc | apply pw_below_drewN | apply below_drew1 | refine below_set ?_ GE219.out | refine below_set ?_ GE220.out) | exact HB.out)⟩⟩
        ·rw [if_neg c52] at H
         have c52b0 : decide (a2_1 < 1) = false := decide_eq_false c52
         clear c52
         by_cases c55 : a2_1 > 6
         ·rw [if_pos c55] at H
          have c55b0 : decide (6 < a2_1) = true := decide_eq_true c55
          clear c55
          as_aux_lemma =>
           have H' := Aside0.mk H
           clear H
           have hnb56 := NB220_219.out
           have hnc56 := NB219_220.out
           have hcz57_0 : w16.cell? ⟨gb220, 0, none⟩ = some (.int .i64 a2_0) := (blk_cell BK220.out 0).trans rfl
           have hcz57_1 : w16.cell? ⟨gb220, 1, none⟩ = some (.int .i64 a2_1) := (blk_cell BK220.out 1).trans rfl
           have hcz57_2 : w16.cell? ⟨gb220, 2, none⟩ = some (.int .i64 a2_2) := (blk_cell BK220.out 2).trans rfl
           have hfz57_0 := blk_frozen BK220.out 0
           have hfz57_1 := blk_frozen BK220.out 1
           have hfz57_2 := blk_frozen BK220.out 2
           go_wp2
           go_meet
           case rel => exact ⟨_, (true), (by first | rfl | (simp; done) | (simp [*]; done)), H', ⟨by have := HJ3.out; first | omega | exact Nat.le_refl _⟩, ⟨by (with_reducible repeat (first | refine blk_drewN ?_ _ | refine blk_drew ?_ | refine blk_alloc ?_ _)); exact BK219.out⟩, ⟨by (with_reducible repeat (first | refine blk_drewN ?_ _ | refine blk_drew ?_ | refine blk_alloc ?_ _)); exact BK220.out⟩, ⟨by repeat (first | (with_reducible first | exact HB.out | apply below_alloc | apply pw_below_drewN | apply below_drew1 | refine below_set ?_ GE219.out | refine below_set ?_ GE220.out) | exact HB.out)⟩⟩
         ·rw [if_neg c55] at H
          have c55b0 : decide (6 < a2_1) = false := decide_eq_false c55
          clear c55
          by_cases c58 : a2_2 < 1
          ·rw [if_pos c58] at H
           have c58b0 : decide (a2_2 < 1) = true := decide_eq_true c58
           clear c58
           as_aux_lemma =>
            have H' := Aside0.mk H
            clear H
            have hnb59 := NB220_219.out
            have hnc59 := NB219_220.out
            have hcz60_0 : w16.cell? ⟨gb220, 0, none⟩ = some (.int .i64 a2_0) := (blk_cell BK220.out 0).trans rfl
            have hcz60_1 : w16.cell? ⟨gb220, 1, none⟩ = some (.int .i64 a2_1) := (blk_cell BK220.out 1).trans rfl
            have hcz60_2 : w16.cell? ⟨gb220, 2, none⟩ = some (.int .i64 a2_2) := (blk_cell BK220.out 2).trans rfl
            have hfz60_0 := blk_frozen BK220.out 0
            have hfz60_1 := blk_frozen BK220.out 1
            have hfz60_2 := blk_frozen BK220.out 2
            go_wp2
            go_meet
            case rel => exact ⟨_, (true), (by first | rfl | (simp; done) | (simp [*]; done)), H', ⟨by have := HJ3.out; first | omega | exact Nat.le_refl _⟩, ⟨by (with_reducible repeat (first | refine blk_drewN ?_ _ | refine blk_drew ?_ | refine blk_alloc ?_ _)); exact BK219.out⟩, ⟨by (with_reducible repeat (first | refine blk_drewN ?_ _ | refine blk_drew ?_ | refine blk_alloc ?_ _)); exact BK220.out⟩, ⟨by repeat (first | (with_reducible first | exact HB.out | apply below_alloc | apply pw_below_drewN | apply below_drew1 | refine below_set ?_ GE219.out | refine below_set ?_ GE220.out) | exact HB.out)⟩⟩
          ·rw [if_neg c58] at H
           have c58b0 : decide (a2_2 < 1) = false := decide_eq_false c58
           clear c58
           as_aux_lemma =>
            have H' := Aside0.mk H
            clear H
            have hnb61 := NB220_219.out
            have hnc61 := NB219_220.out
            have hcz62_0 : w16.cell? ⟨gb220, 0, none⟩ = some (.int .i64 a2_0) := (blk_cell BK220.out 0).trans rfl
            have hcz62_1 : w16.cell? ⟨gb220, 1, none⟩ = some (.int .i64 a2_1) := (blk_cell BK220.out 1).trans rfl
            have hcz62_2 : w16.cell? ⟨gb220, 2, none⟩ = some (.int .i64 a2_2) := (blk_cell BK220.out 2).trans rfl
            have hfz62_0 := blk_frozen BK220.out 0
            have hfz62_1 := blk_frozen BK220.out 1
            have hfz62_2 := blk_frozen BK220.out 2
            go_wp2
            go_meet
            case rel => exact ⟨_, (decide (a2_2 > 6)), (by first | rfl | (simp; done) | (simp [*]; done)), H', ⟨by have := HJ3.out; first | omega | exact Nat.le_refl _⟩, ⟨by (with_reducible repeat (first | refine blk_drewN ?_ _ | refine blk_drew ?_ | refine blk_alloc ?_ _)); exact BK219.out⟩, ⟨by (with_reducible repeat (first | refine blk_drewN ?_ _ | refine blk_drew ?_ | refine blk_alloc ?_ _)); exact BK220.out⟩, ⟨by repeat (first | (with_reducible first | exact HB.out | apply below_alloc | apply pw_below_drewN | apply below_drew1 | refine below_set ?_ GE219.out | refine below_set ?_ GE220.out) | exact HB.out)⟩⟩
       ·rw [if_neg c51] at H
        have c51b0 : (a2_0 == 26) = false := beq_eq_false_iff_ne.mpr c51
        have c51b1 : (a2_0 != 26) = true := bne_iff_ne.mpr c51
        as_aux_lemma =>
         have H' := Aside0.mk H
         clear H
         have hnb63 := NB220_219.out
         have hnc63 := NB219_220.out
         have hcz64_0 : w16.cell? ⟨gb220, 0, none⟩ = some (.int .i64 a2_0) := (blk_cell BK220.out 0).trans rfl
         have hcz64_1 : w16.cell? ⟨gb220, 1, none⟩ = some (.int .i64 a2_1) := (blk_cell BK220.out 1).trans rfl
         have hcz64_2 : w16.cell? ⟨gb220, 2, none⟩ = some (.int .i64 a2_2) := (blk_cell BK220.out 2).trans rfl
         have hfz64_0 := blk_frozen BK220.out 0
         have hfz64_1 := blk_frozen BK220.out 1
         have hfz64_2 := blk_frozen BK220.out 2
         go_wp2
         go_meet
         case rel => exact ⟨_, (false), (by first | rfl | (simp; done) | (simp [*]; done)), H', ⟨by have := HJ3.out; first | omega | exact Nat.le_refl _⟩, ⟨by (with_reducible repeat (first | refine blk_drewN ?_ _ | refine blk_drew ?_ | refine blk_alloc ?_ _)); exact BK219.out⟩, ⟨by (with_reducible repeat (first | refine blk_drewN ?_ _ | refine blk_drew ?_ | refine blk_alloc ?_ _)); exact BK220.out⟩, ⟨by repeat (first | (with_reducible first | exact HB.out | apply below_alloc | apply pw_below_drewN | apply below_drew1 | refine below_set ?_ GE219.out | refine below_set ?_ GE220.out) | exact HB.out)⟩⟩
     case rest =>
      clear HC13
      try clear c1
      try clear c2
      try clear p2
      try clear c3
      try clear c4
      try clear c5
      try clear c6
      try clear c7
      try clear c7b0
      try clear c8
      try clear c10
      try clear c12
      try clear c14
      try clear c17
      try clear c17b0
      try clear c18
      try clear c18b0
      try clear c20
      try clear c21
      try clear c21b0
      try clear c21b1
      try clear c22
      try clear c22b0
      try clear c23
      try clear c25
      try clear c25b0
      try clear c26
      try clear c28
      try clear c28b0
      try clear c29
      try clear c31
      try clear c33
      try clear c35
      try clear c37
      try clear c37b0
      try clear c37b1
      try clear c38
      try clear c38b0
      try clear c39
      try clear c41
      try clear c41b0
      try clear c42
      try clear c44
      try clear c44b0
      try clear c45
      try clear c47
      try clear c49
      try clear c51
      try clear c51b0
      try clear c51b1
      try clear c52
      try clear c52b0
      try clear c53
      try clear c55
      try clear c55b0
      try clear c56
      try clear c58
      try clear c58b0
      try clear c59
      try clear c61
      try clear c63
      try clear hcz15_0
      try clear hcz15_1
      try clear hcz15_2
      try clear hcz24_0
      try clear hcz24_1
      try clear hcz24_2
      try clear hcz27_0
      try clear hcz27_1
      try clear hcz27_2
      try clear hcz30_0
      try clear hcz30_1
      try clear hcz30_2
      try clear hcz32_0
      try clear hcz32_1
      try clear hcz32_2
      try clear hcz34_0
      try clear hcz34_1
      try clear hcz34_2
      try clear hcz36_0
      try clear hcz36_1
      try clear hcz36_2
      try clear hcz40_0
      try clear hcz40_1
      try clear hcz40_2
      try clear hcz43_0
      try clear hcz43_1
      try clear hcz43_2
      try clear hcz46_0
      try clear hcz46_1
      try clear hcz46_2
      try clear hcz48_0
      try clear hcz48_1
      try clear hcz48_2
      try clear hcz50_0
      try clear hcz50_1
      try clear hcz50_2
      try clear hcz54_0
      try clear hcz54_1
      try clear hcz54_2
      try clear hcz57_0
      try clear hcz57_1
      try clear hcz57_2
      try clear hcz60_0
      try clear hcz60_1
      try clear hcz60_2
      try clear hcz62_0
      try clear hcz62_1
      try clear hcz62_2
      try clear hcz64_0
      try clear hcz64_1
      try clear hcz64_2
      try clear hcz9_0
      try clear hcz9_1
      try clear hcz9_2
      try clear hcz9_3
      try clear hfz15_0
      try clear hfz15_1
      try clear hfz15_2
      try clear hfz24_0
      try clear hfz24_1
      try clear hfz24_2
      try clear hfz27_0
      try clear hfz27_1
      try clear hfz27_2
      try clear hfz30_0
      try clear hfz30_1
      try clear hfz30_2
      try clear hfz32_0
      try clear hfz32_1
      try clear hfz32_2
      try clear hfz34_0
      try clear hfz34_1
      try clear hfz34_2
      try clear hfz36_0
      try clear hfz36_1
      try clear hfz36_2
      try clear hfz40_0
      try clear hfz40_1
      try clear hfz40_2
      try clear hfz43_0
      try clear hfz43_1
      try clear hfz43_2
      try clear hfz46_0
      try clear hfz46_1
      try clear hfz46_2
      try clear hfz48_0
      try clear hfz48_1
      try clear hfz48_2
      try clear hfz50_0
      try clear hfz50_1
      try clear hfz50_2
      try clear hfz54_0
      try clear hfz54_1
      try clear hfz54_2
      try clear hfz57_0
      try clear hfz57_1
      try clear hfz57_2
      try clear hfz60_0
      try clear hfz60_1
      try clear hfz60_2
      try clear hfz62_0
      try clear hfz62_1
      try clear hfz62_2
      try clear hfz64_0
      try clear hfz64_1
      try clear hfz64_2
      try clear hfz9_0
      try clear hfz9_1
      try clear hfz9_2
      try clear hfz9_3
      try clear p2
      obtain ⟨kq, x63_12, rfl, HA, HJ12, BK219, BK220, HB⟩ := hcut
      cases kq with
      | zero => exact absurd HA.out (by simp [ladderbackref18_One.j1])
      | succ kj12 =>
       have H := HA.out
       clear HA
       simp only [ladderbackref18_One.j1] at H
       by_cases c65 : x63_12 = true
       ·subst c65
        have H1 : (some 10) = some r := by rw [if_pos rfl] at H; exact H
        clear H
        have H := H1
        clear H1
        as_aux_lemma =>
         obtain rfl := Option.some.inj H
         go_wp2
         go_ret
         exact ⟨by first | rfl | (simp [errW_none, errW_some] <;> rfl) | (simp [*, errW_none, errW_some] <;> rfl), by repeat (first | (with_reducible first | exact HB.out | apply below_alloc | apply pw_below_drewN | apply below_drew1 | refine below_set ?_ GE219.out | refine below_set ?_ GE220.out) | exact HB.out)⟩
       ·replace c65 := Bool.eq_false_iff.mpr c65
        subst c65
        have H1 : (if a2_0 = 1 then (if (a2_1 < (l0_0.length : Int)) then (some 0) else (some 8)) else (if a2_0 = 2 then (ladderbackref18_One.j2 kj12 a1 a2_0 (a2_0 == 2) l0_0 l0_1 l0_2 l0_3 a2_0 a2_1 a2_2) else (ladderbackref18_One.j2 kj12 a1 a2_0 (a2_0 == 3) l0_0 l0_1 l0_2 l0_3 a2_0 a2_1 a2_2))) = some r := by rw [if_neg (show ¬ (false = true) by decide)] at H; exact H
        clear H
        have H := H1
        clear H1
        by_cases c66 : a2_0 = 1
        ·rw [if_pos c66] at H
         have c66b0 : (a2_0 == 1) = true := beq_iff_eq.mpr c66
         have c66b1 : (a2_0 != 1) = false := bne_eq_false_iff_eq.mpr c66
         clear c66
         by_cases c67 : (a2_1 < (l0_0.length : Int))
         ·rw [if_pos c67] at H
          have c67b0 : decide (a2_1 < (l0_0.length : Int)) = true := decide_eq_true c67
          clear c67
          as_aux_lemma =>
           obtain rfl := Option.some.inj H
           have hnb68 := NB220_219.out
           have hnc68 := NB219_220.out
           have hcz69_0 : wc.cell? ⟨gb220, 0, none⟩ = some (.int .i64 a2_0) := (blk_cell BK220.out 0).trans rfl
           have hcz69_1 : wc.cell? ⟨gb220, 1, none⟩ = some (.int .i64 a2_1) := (blk_cell BK220.out 1).trans rfl
           have hcz69_2 : wc.cell? ⟨gb220, 2, none⟩ = some (.int .i64 a2_2) := (blk_cell BK220.out 2).trans rfl
           have hfz69_0 := blk_frozen BK220.out 0
           have hfz69_1 := blk_frozen BK220.out 1
           have hfz69_2 := blk_frozen BK220.out 2
           have hcz70_0 : wc.cell? ⟨gb219, 0, none⟩ = some (.slice A0_0 l0_0.length c0_0) := (blk_cell BK219.out 0).trans rfl
           have hcz70_1 : wc.cell? ⟨gb219, 1, none⟩ = some (.slice A0_1 l0_1.length c0_1) := (blk_cell BK219.out 1).trans rfl
           have hcz70_2 : wc.cell? ⟨gb219, 2, none⟩ = some (.slice A0_2 l0_2.length c0_2) := (blk_cell BK219.out 2).trans rfl
           have hcz70_3 : wc.cell? ⟨gb219, 3, none⟩ = some (.slice A0_3 l0_3.length c0_3) := (blk_cell BK219.out 3).trans rfl
           have hfz70_0 := blk_frozen BK219.out 0
           have hfz70_1 := blk_frozen BK219.out 1
           have hfz70_2 := blk_frozen BK219.out 2
           have hfz70_3 := blk_frozen BK219.out 3
           go_wp2
           go_ret
           exact ⟨by first | rfl | (simp [errW_none, errW_some] <;> rfl) | (simp [*, errW_none, errW_some] <;> rfl), by repeat (first | (with_reducible first | exact HB.out | apply below_alloc | apply pw_below_drewN | apply below_drew1 | refine below_set ?_ GE219.out | refine below_set ?_ GE220.out) | exact HB.out)⟩
         ·rw [if_neg c67] at H
          have c67b0 : decide (a2_1 < (l0_0.length : Int)) = false := decide_eq_false c67
          clear c67
          as_aux_lemma =>
           obtain rfl := Option.some.inj H
           have hnb71 := NB220_219.out
           have hnc71 := NB219_220.out
           have hcz72_0 : wc.cell? ⟨gb220, 0, none⟩ = some (.int .i64 a2_0) := (blk_cell BK220.out 0).trans rfl
           have hcz72_1 : wc.cell? ⟨gb220, 1, none⟩ = some (.int .i64 a2_1) := (blk_cell BK220.out 1).trans rfl
           have hcz72_2 : wc.cell? ⟨gb220, 2, none⟩ = some (.int .i64 a2_2) := (blk_cell BK220.out 2).trans rfl
           have hfz72_0 := blk_frozen BK220.out 0
           have hfz72_1 := blk_frozen BK220.out 1
           have hfz72_2 := blk_frozen BK220.out 2
           have hcz73_0 : wc.cell? ⟨gb219, 0, none⟩ = some (.slice A0_0 l0_0.length c0_0) := (blk_cell BK219.out 0).trans rfl
           have hcz73_1 : wc.cell? ⟨gb219, 1, none⟩ = some (.slice A0_1 l0_1.length c0_1) := (blk_cell BK219.out 1).trans rfl
           have hcz73_2 : wc.cell? ⟨gb219, 2, none⟩ = some (.slice A0_2 l0_2.length c0_2) := (blk_cell BK219.out 2).trans rfl
           have hcz73_3 : wc.cell? ⟨gb219, 3, none⟩ = some (.slice A0_3 l0_3.length c0_3) := (blk_cell BK219.out 3).trans rfl
           have hfz73_0 := blk_frozen BK219.out 0
           have hfz73_1 := blk_frozen BK219.out 1
           have hfz73_2 := blk_frozen BK219.out 2
           have hfz73_3 := blk_frozen BK219.out 3
           go_wp2
           go_ret
           exact ⟨by first | rfl | (simp [errW_none, errW_some] <;> rfl) | (simp [*, errW_none, errW_some] <;> rfl), by repeat (first | (with_reducible first | exact HB.out | apply below_alloc | apply pw_below_drewN | apply below_drew1 | refine below_set ?_ GE219.out | refine below_set ?_ GE220.out) | exact HB.out)⟩
        ·rw [if_neg c66] at H
         have c66b0 : (a2_0 == 1) = false := beq_eq_false_iff_ne.mpr c66
         have c66b1 : (a2_0 != 1) = true := bne_iff_ne.mpr c66
         have HC74 := Aside0.mk H
         clear H
         have hnb75 := NB220_219.out
         have hnc75 := NB219_220.out
         have hcz76_0 : wc.cell? ⟨gb220, 0, none⟩ = some (.int .i64 a2_0) := (blk_cell BK220.out 0).trans rfl
         have hcz76_1 : wc.cell? ⟨gb220, 1, none⟩ = some (.int .i64 a2_1) := (blk_cell BK220.out 1).trans rfl
         have hcz76_2 : wc.cell? ⟨gb220, 2, none⟩ = some (.int .i64 a2_2) := (blk_cell BK220.out 2).trans rfl
         have hfz76_0 := blk_frozen BK220.out 0
         have hfz76_1 := blk_frozen BK220.out 1
         have hfz76_2 := blk_frozen BK220.out 2
         go_upto_if 74 with (fail)
         go_cut [74] (fun v74 wc => ∃ (kq : Nat) (x74_73 : Bool), v74 = .bool x74_73 ∧ Aside0 (ladderbackref18_One.j2 kq a1 a2_0 x74_73 l0_0 l0_1 l0_2 l0_3 a2_0 a2_1 a2_2 = some r) ∧ Aside0 (kq ≤ kj12) ∧ Aside0 (wc.heap[gb219]? = some (.cells #[(.slice A0_0 l0_0.length c0_0), (.slice A0_1 l0_1.length c0_1), (.slice A0_2 l0_2.length c0_2), (.slice A0_3 l0_3.length c0_3)] 27 (0, 0))) ∧ Aside0 (wc.heap[gb220]? = some (.cells #[.int .i64 a2_0, .int .i64 a2_1, .int .i64 a2_2] 29 (0, 0))) ∧ Aside0 (Below w.heap.size w wc))
         case first =>
          have H := HC74.out
          clear HC74
          by_cases c77 : a2_0 = 2
          ·rw [if_pos c77] at H
           have c77b0 : (a2_0 == 2) = true := beq_iff_eq.mpr c77
           have c77b1 : (a2_0 != 2) = false := bne_eq_false_iff_eq.mpr c77
           clear c77
           (first | rw [c77b0] | (simp only [i64_w, i32_w]; rw [c77b0]) | skip)
           as_aux_lemma =>
            have H' := Aside0.mk H
            clear H
            go_wp2
            go_meet
            case rel => exact ⟨_, ((a2_0 == 2)), (by first | rfl | (simp; done) | (simp [*]; done)), H', ⟨by have := HJ3.out; have := HJ12.out; first | omega | exact Nat.le_refl _⟩, ⟨by (with_reducible repeat (first | refine blk_drewN ?_ _ | refine blk_drew ?_ | refine blk_alloc ?_ _)); exact BK219.out⟩, ⟨by (with_reducible repeat (first | refine blk_drewN ?_ _ | refine blk_drew ?_ | refine blk_alloc ?_ _)); exact BK220.out⟩, ⟨by repeat (first | (with_reducible first | exact HB.out | apply below_alloc | apply pw_below_drewN | apply below_drew1 | refine below_set ?_ GE219.out | refine below_set ?_ GE220.out) | exact HB.out)⟩⟩
          ·rw [if_neg c77] at H
           have c77b0 : (a2_0 == 2) = false := beq_eq_false_iff_ne.mpr c77
           have c77b1 : (a2_0 != 2) = true := bne_iff_ne.mpr c77
           (first | rw [c77b0] | (simp only [i64_w, i32_w]; rw [c77b0]) | skip)
           as_aux_lemma =>
            have H' := Aside0.mk H
            clear H
            go_wp2
            go_meet
            case rel => exact ⟨_, ((a2_0 == 3)), (by first | rfl | (simp; done) | (simp [*]; done)), H', ⟨by have := HJ3.out; have := HJ12.out; first | omega | exact Nat.le_refl _⟩, ⟨by (with_reducible repeat (first | refine blk_drewN ?_ _ | refine blk_drew ?_ | refine blk_alloc ?_ _)); exact BK219.out⟩, ⟨by (with_reducible repeat (first | refine blk_drewN ?_ _ | refine blk_drew ?_ | refine blk_alloc ?_ _)); exact BK220.out⟩, ⟨by repeat (first | (with_reducible first | exact HB.out | apply below_alloc | apply pw_below_drewN | apply below_drew1 | refine below_set ?_ GE219.out | refine below_set ?_ GE220.out) | exact HB.out)⟩⟩
         case rest =>
          clear HC74
          try clear c1
          try clear c2
          try clear p2
          try clear c3
          try clear c4
          try clear c5
          try clear c6
          try clear c7
          try clear c7b0
          try clear c8
          try clear c10
          try clear c12
          try clear c14
          try clear c17
          try clear c17b0
          try clear c18
          try clear c18b0
          try clear c20
          try clear c21
          try clear c21b0
          try clear c21b1
          try clear c22
          try clear c22b0
          try clear c23
          try clear c25
          try clear c25b0
          try clear c26
          try clear c28
          try clear c28b0
          try clear c29
          try clear c31
          try clear c33
          try clear c35
          try clear c37
          try clear c37b0
          try clear c37b1
          try clear c38
          try clear c38b0
          try clear c39
          try clear c41
          try clear c41b0
          try clear c42
          try clear c44
          try clear c44b0
          try clear c45
          try clear c47
          try clear c49
          try clear c51
          try clear c51b0
          try clear c51b1
          try clear c52
          try clear c52b0
          try clear c53
          try clear c55
          try clear c55b0
          try clear c56
          try clear c58
          try clear c58b0
          try clear c59
          try clear c61
          try clear c63
          try clear c65
          try clear c66
          try clear c66b0
          try clear c66b1
          try clear c67
          try clear c67b0
          try clear c68
          try clear c71
          try clear c75
          try clear c77
          try clear c77b0
          try clear c77b1
          try clear hcz15_0
          try clear hcz15_1
          try clear hcz15_2
          try clear hcz24_0
          try clear hcz24_1
          try clear hcz24_2
          try clear hcz27_0
          try clear hcz27_1
          try clear hcz27_2
          try clear hcz30_0
          try clear hcz30_1
          try clear hcz30_2
          try clear hcz32_0
          try clear hcz32_1
          try clear hcz32_2
          try clear hcz34_0
          try clear hcz34_1
          try clear hcz34_2
          try clear hcz36_0
          try clear hcz36_1
          try clear hcz36_2
          try clear hcz40_0
          try clear hcz40_1
          try clear hcz40_2
          try clear hcz43_0
          try clear hcz43_1
          try clear hcz43_2
          try clear hcz46_0
          try clear hcz46_1
          try clear hcz46_2
          try clear hcz48_0
          try clear hcz48_1
          try clear hcz48_2
          try clear hcz50_0
          try clear hcz50_1
          try clear hcz50_2
          try clear hcz54_0
          try clear hcz54_1
          try clear hcz54_2
          try clear hcz57_0
          try clear hcz57_1
          try clear hcz57_2
          try clear hcz60_0
          try clear hcz60_1
          try clear hcz60_2
          try clear hcz62_0
          try clear hcz62_1
          try clear hcz62_2
          try clear hcz64_0
          try clear hcz64_1
          try clear hcz64_2
          try clear hcz69_0
          try clear hcz69_1
          try clear hcz69_2
          try clear hcz70_0
          try clear hcz70_1
          try clear hcz70_2
          try clear hcz70_3
          try clear hcz72_0
          try clear hcz72_1
          try clear hcz72_2
          try clear hcz73_0
          try clear hcz73_1
          try clear hcz73_2
          try clear hcz73_3
          try clear hcz76_0
          try clear hcz76_1
          try clear hcz76_2
          try clear hcz9_0
          try clear hcz9_1
          try clear hcz9_2
          try clear hcz9_3
          try clear hfz15_0
          try clear hfz15_1
          try clear hfz15_2
          try clear hfz24_0
          try clear hfz24_1
          try clear hfz24_2
          try clear hfz27_0
          try clear hfz27_1
          try clear hfz27_2
          try clear hfz30_0
          try clear hfz30_1
          try clear hfz30_2
          try clear hfz32_0
          try clear hfz32_1
          try clear hfz32_2
          try clear hfz34_0
          try clear hfz34_1
          try clear hfz34_2
          try clear hfz36_0
          try clear hfz36_1
          try clear hfz36_2
          try clear hfz40_0
          try clear hfz40_1
          try clear hfz40_2
          try clear hfz43_0
          try clear hfz43_1
          try clear hfz43_2
          try clear hfz46_0
          try clear hfz46_1
          try clear hfz46_2
          try clear hfz48_0
          try clear hfz48_1
          try clear hfz48_2
          try clear hfz50_0
          try clear hfz50_1
          try clear hfz50_2
          try clear hfz54_0
          try clear hfz54_1
          try clear hfz54_2
          try clear hfz57_0
          try clear hfz57_1
          try clear hfz57_2
          try clear hfz60_0
          try clear hfz60_1
          try clear hfz60_2
          try clear hfz62_0
          try clear hfz62_1
          try clear hfz62_2
          try clear hfz64_0
          try clear hfz64_1
          try clear hfz64_2
          try clear hfz69_0
          try clear hfz69_1
          try clear hfz69_2
          try clear hfz70_0
          try clear hfz70_1
          try clear hfz70_2
          try clear hfz70_3
          try clear hfz72_0
          try clear hfz72_1
          try clear hfz72_2
          try clear hfz73_0
          try clear hfz73_1
          try clear hfz73_2
          try clear hfz73_3
          try clear hfz76_0
          try clear hfz76_1
          try clear hfz76_2
          try clear hfz9_0
          try clear hfz9_1
          try clear hfz9_2
          try clear hfz9_3
          try clear p2
          obtain ⟨kq, x74_73, rfl, HA, HJ73, BK219, BK220, HB⟩ := hcut
          cases kq with
          | zero => exact absurd HA.out (by simp [ladderbackref18_One.j2])
          | succ kj73 =>
           have H := HA.out
           clear HA
           simp only [ladderbackref18_One.j2] at H
           by_cases c78 : x74_73 = true
           ·subst c78
            have H1 : (if a2_1 < (l0_1.length : Int) then (if 0 ≤ a2_1 then (if (((rd_T37 l0_1 a2_1).f2) < 2) then (some 0) else (some 8)) else (none)) else (some 8)) = some r := by rw [if_pos rfl] at H; exact H
            clear H
            have H := H1
            clear H1
            by_cases c79 : a2_1 < (l0_1.length : Int)
            ·rw [if_pos c79] at H
             have c79b0 : decide (a2_1 < (l0_1.length : Int)) = true := decide_eq_true c79
             clear c79
             by_cases c80 : 0 ≤ a2_1
             ·rw [if_pos c80] at H
              have c80b0 : decide (0 ≤ a2_1) = true := decide_eq_true c80
              clear c80
              by_cases c81 : (((rd_T37 l0_1 a2_1).f2) < 2)
              ·rw [if_pos c81] at H
               have c81b0 : decide (((rd_T37 l0_1 a2_1).f2) < 2) = true := decide_eq_true c81
               clear c81
               as_aux_lemma =>
                obtain rfl := Option.some.inj H
                have hnb82 := NB220_219.out
                have hnc82 := NB219_220.out
                have hcz83_0 : wc.cell? ⟨gb220, 0, none⟩ = some (.int .i64 a2_0) := (blk_cell BK220.out 0).trans rfl
                have hcz83_1 : wc.cell? ⟨gb220, 1, none⟩ = some (.int .i64 a2_1) := (blk_cell BK220.out 1).trans rfl
                have hcz83_2 : wc.cell? ⟨gb220, 2, none⟩ = some (.int .i64 a2_2) := (blk_cell BK220.out 2).trans rfl
                have hfz83_0 := blk_frozen BK220.out 0
                have hfz83_1 := blk_frozen BK220.out 1
                have hfz83_2 := blk_frozen BK220.out 2
                have hcz84_0 : wc.cell? ⟨gb219, 0, none⟩ = some (.slice A0_0 l0_0.length c0_0) := (blk_cell BK219.out 0).trans rfl
                have hcz84_1 : wc.cell? ⟨gb219, 1, none⟩ = some (.slice A0_1 l0_1.length c0_1) := (blk_cell BK219.out 1).trans rfl
                have hcz84_2 : wc.cell? ⟨gb219, 2, none⟩ = some (.slice A0_2 l0_2.length c0_2) := (blk_cell BK219.out 2).trans rfl
                have hcz84_3 : wc.cell? ⟨gb219, 3, none⟩ = some (.slice A0_3 l0_3.length c0_3) := (blk_cell BK219.out 3).trans rfl
                have hfz84_0 := blk_frozen BK219.out 0
                have hfz84_1 := blk_frozen BK219.out 1
                have hfz84_2 := blk_frozen BK219.out 2
                have hfz84_3 := blk_frozen BK219.out 3
                have p223 : 0 ≤ (a2_1 : Int) := of_decide_eq_true (by first | (with_reducible assumption) | assumption)
                have q223 : a2_1 < (l0_1.length : Int) := of_decide_eq_true (by first | (with_reducible assumption) | assumption)
                obtain ⟨ad223, e223, hx223_0, hx223_1, hx223_2, hx223_3, hx223_4⟩ := at_T37 HR0_1.out a2_1 p223 q223
                cases e223
                replace hx223_0 := (HB.out.cell (World.block_lt_of_cell? w _ hx223_0)).trans hx223_0
                replace hx223_1 := (HB.out.cell (World.block_lt_of_cell? w _ hx223_1)).trans hx223_1
                replace hx223_2 := (HB.out.cell (World.block_lt_of_cell? w _ hx223_2)).trans hx223_2
                replace hx223_3 := (HB.out.cell (World.block_lt_of_cell? w _ hx223_3)).trans hx223_3
                replace hx223_4 := (HB.out.cell (World.block_lt_of_cell? w _ hx223_4)).trans hx223_4
                replace p223 := eq_true p223
                replace q223 := eq_true q223
                go_wp2
                go_ret
                exact ⟨by first | rfl | (simp [errW_none, errW_some] <;> rfl) | (simp [*, errW_none, errW_some] <;> rfl), by repeat (first | (with_reducible first | exact HB.out | apply below_alloc | apply pw_below_drewN | apply below_drew1 | refine below_set ?_ GE219.out | refine below_set ?_ GE220.out) | exact HB.out)⟩
              ·rw [if_neg c81] at H
               have c81b0 : decide (((rd_T37 l0_1 a2_1).f2) < 2) = false := decide_eq_false c81
               clear c81
               as_aux_lemma =>
                obtain rfl := Option.some.inj H
                have hnb85 := NB220_219.out
                have hnc85 := NB219_220.out
                have hcz86_0 : wc.cell? ⟨gb220, 0, none⟩ = some (.int .i64 a2_0) := (blk_cell BK220.out 0).trans rfl
                have hcz86_1 : wc.cell? ⟨gb220, 1, none⟩ = some (.int .i64 a2_1) := (blk_cell BK220.out 1).trans rfl
                have hcz86_2 : wc.cell? ⟨gb220, 2, none⟩ = some (.int .i64 a2_2) := (blk_cell BK220.out 2).trans rfl
                have hfz86_0 := blk_frozen BK220.out 0
                have hfz86_1 := blk_frozen BK220.out 1
                have hfz86_2 := blk_frozen BK220.out 2
                have hcz87_0 : wc.cell? ⟨gb219, 0, none⟩ = some (.slice A0_0 l0_0.length c0_0) := (blk_cell BK219.out 0).trans rfl
                have hcz87_1 : wc.cell? ⟨gb219, 1, none⟩ = some (.slice A0_1 l0_1.length c0_1) := (blk_cell BK219.out 1).trans rfl
                have hcz87_2 : wc.cell? ⟨gb219, 2, none⟩ = some (.slice A0_2 l0_2.length c0_2) := (blk_cell BK219.out 2).trans rfl
                have hcz87_3 : wc.cell? ⟨gb219, 3, none⟩ = some (.slice A0_3 l0_3.length c0_3) := (blk_cell BK219.out 3).trans rfl
                have hfz87_0 := blk_frozen BK219.out 0
                have hfz87_1 := blk_frozen BK219.out 1
                have hfz87_2 := blk_frozen BK219.out 2
                have hfz87_3 := blk_frozen BK219.out 3
                have p223 : 0 ≤ (a2_1 : Int) := of_decide_eq_true (by first | (with_reducible assumption) | assumption)
                have q223 : a2_1 < (l0_1.length : Int) := of_decide_eq_true (by first | (with_reducible assumption) | assumption)
                obtain ⟨ad223, e223, hx223_0, hx223_1, hx223_2, hx223_3, hx223_4⟩ := at_T37 HR0_1.out a2_1 p223 q223
                cases e223
                replace hx223_0 := (HB.out.cell (World.block_lt_of_cell? w _ hx223_0)).trans hx223_0
                replace hx223_1 := (HB.out.cell (World.block_lt_of_cell? w _ hx223_1)).trans hx223_1
                replace hx223_2 := (HB.out.cell (World.block_lt_of_cell? w _ hx223_2)).trans hx223_2
                replace hx223_3 := (HB.out.cell (World.block_lt_of_cell? w _ hx223_3)).trans hx223_3
                replace hx223_4 := (HB.out.cell (World.block_lt_of_cell? w _ hx223_4)).trans hx223_4
                replace p223 := eq_true p223
                replace q223 := eq_true q223
                go_wp2
                go_ret
                exact ⟨by first | rfl | (simp [errW_none, errW_some] <;> rfl) | (simp [*, errW_none, errW_some] <;> rfl), by repeat (first | (with_reducible first | exact HB.out | apply below_alloc | apply pw_below_drewN | apply below_drew1 | refine below_set ?_ GE219.out | refine below_set ?_ GE220.out) | exact HB.out)⟩
             ·rw [if_neg c80] at H
              exact absurd H (by simp)
            ·rw [if_neg c79] at H
             have c79b0 : decide (a2_1 < (l0_1.length : Int)) = false := decide_eq_false c79
             clear c79
             as_aux_lemma =>
              obtain rfl := Option.some.inj H
              have hnb88 := NB220_219.out
              have hnc88 := NB219_220.out
              have hcz89_0 : wc.cell? ⟨gb220, 0, none⟩ = some (.int .i64 a2_0) := (blk_cell BK220.out 0).trans rfl
              have hcz89_1 : wc.cell? ⟨gb220, 1, none⟩ = some (.int .i64 a2_1) := (blk_cell BK220.out 1).trans rfl
              have hcz89_2 : wc.cell? ⟨gb220, 2, none⟩ = some (.int .i64 a2_2) := (blk_cell BK220.out 2).trans rfl
              have hfz89_0 := blk_frozen BK220.out 0
              have hfz89_1 := blk_frozen BK220.out 1
              have hfz89_2 := blk_frozen BK220.out 2
              have hcz90_0 : wc.cell? ⟨gb219, 0, none⟩ = some (.slice A0_0 l0_0.length c0_0) := (blk_cell BK219.out 0).trans rfl
              have hcz90_1 : wc.cell? ⟨gb219, 1, none⟩ = some (.slice A0_1 l0_1.length c0_1) := (blk_cell BK219.out 1).trans rfl
              have hcz90_2 : wc.cell? ⟨gb219, 2, none⟩ = some (.slice A0_2 l0_2.length c0_2) := (blk_cell BK219.out 2).trans rfl
              have hcz90_3 : wc.cell? ⟨gb219, 3, none⟩ = some (.slice A0_3 l0_3.length c0_3) := (blk_cell BK219.out 3).trans rfl
              have hfz90_0 := blk_frozen BK219.out 0
              have hfz90_1 := blk_frozen BK219.out 1
              have hfz90_2 := blk_frozen BK219.out 2
              have hfz90_3 := blk_frozen BK219.out 3
              go_wp2
              go_ret
              exact ⟨by first | rfl | (simp [errW_none, errW_some] <;> rfl) | (simp [*, errW_none, errW_some] <;> rfl), by repeat (first | (with_reducible first | exact HB.out | apply below_alloc | apply pw_below_drewN | apply below_drew1 | refine below_set ?_ GE219.out | refine below_set ?_ GE220.out) | exact HB.out)⟩
           ·replace c78 := Bool.eq_false_iff.mpr c78
            subst c78
            have H1 : (if a2_0 = 4 then (ladderbackref18_One.j3 kj73 a1 a2_0 (a2_0 == 4) l0_0 l0_1 l0_2 l0_3 a2_0 a2_1 a2_2) else (ladderbackref18_One.j3 kj73 a1 a2_0 (a2_0 == 5) l0_0 l0_1 l0_2 l0_3 a2_0 a2_1 a2_2)) = some r := by rw [if_neg (show ¬ (false = true) by decide)] at H; exact H
            clear H
            have H := H1
            clear H1
            have HC91 := Aside0.mk H
            clear H
            go_upto_if 93 with (fail)
            go_cut [93] (fun v93 wc => ∃ (kq : Nat) (x93_90 : Bool), v93 = .bool x93_90 ∧ Aside0 (ladderbackref18_One.j3 kq a1 a2_0 x93_90 l0_0 l0_1 l0_2 l0_3 a2_0 a2_1 a2_2 = some r) ∧ Aside0 (kq ≤ kj73) ∧ Aside0 (wc.heap[gb219]? = some (.cells #[(.slice A0_0 l0_0.length c0_0), (.slice A0_1 l0_1.length c0_1), (.slice A0_2 l0_2.length c0_2), (.slice A0_3 l0_3.length c0_3)] 27 (0, 0))) ∧ Aside0 (wc.heap[gb220]? = some (.cells #[.int .i64 a2_0, .int .i64 a2_1, .int .i64 a2_2] 29 (0, 0))) ∧ Aside0 (Below w.heap.size w wc))
            case first =>
             have H := HC91.out
             clear HC91
             by_cases c92 : a2_0 = 4
             ·rw [if_pos c92] at H
              have c92b0 : (a2_0 == 4) = true := beq_iff_eq.mpr c92
              have c92b1 : (a2_0 != 4) = false := bne_eq_false_iff_eq.mpr c92
              clear c92
              (first | rw [c92b0] | (simp only [i64_w, i32_w]; rw [c92b0]) | skip)
              as_aux_lemma =>
               have H' := Aside0.mk H
               clear H
               go_wp2
               go_meet
               case rel => exact ⟨_, ((a2_0 == 4)), (by first | rfl | (simp; done) | (simp [*]; done)), H', ⟨by have := HJ3.out; have := HJ12.out; have := HJ73.out; first | omega | exact Nat.le_refl _⟩, ⟨by (with_reducible repeat (first | refine blk_drewN ?_ _ | refine blk_drew ?_ | refine blk_alloc ?_ _)); exact BK219.out⟩, ⟨by (with_reducible repeat (first | refine blk_drewN ?_ _ | refine blk_drew ?_ | refine blk_alloc ?_ _)); exact BK220.out⟩, ⟨by repeat (first | (with_reducible first | exact HB.out | apply below_alloc | apply pw_below_drewN | apply below_drew1 | refine below_set ?_ GE219.out | refine below_set ?_ GE220.out) | exact HB.out)⟩⟩
             ·rw [if_neg c92] at H
              have c92b0 : (a2_0 == 4) = false := beq_eq_false_iff_ne.mpr c92
              have c92b1 : (a2_0 != 4) = true := bne_iff_ne.mpr c92
              (first | rw [c92b0] | (simp only [i64_w, i32_w]; rw [c92b0]) | skip)
              as_aux_lemma =>
               have H' := Aside0.mk H
               clear H
               go_wp2
               go_meet
               case rel => exact ⟨_, ((a2_0 == 5)), (by first | rfl | (simp; done) | (simp [*]; done)), H', ⟨by have := HJ3.out; have := HJ12.out; have := HJ73.out; first | omega | exact Nat.le_refl _⟩, ⟨by (with_reducible repeat (first | refine blk_drewN ?_ _ | refine blk_drew ?_ | refine blk_alloc ?_ _)); exact BK219.out⟩, ⟨by (with_reducible repeat (first | refine blk_drewN ?_ _ | refine blk_drew ?_ | refine blk_alloc ?_ _)); exact BK220.out⟩, ⟨by repeat (first | (with_reducible first | exact HB.out | apply below_alloc | apply pw_below_drewN | apply below_drew1 | refine below_set ?_ GE219.out | refine below_set ?_ GE220.out) | exact HB.out)⟩⟩
            case rest =>
             clear HC91
             try clear c1
             try clear c2
             try clear p2
             try clear q2
             try clear hx2
             try clear c3
             try clear c4
             try clear c5
             try clear c6
             try clear c7
             try clear c7b0
             try clear c8
             try clear c9
             try clear c10
             try clear c12
             try clear c14
             try clear c17
             try clear c17b0
             try clear c18
             try clear c18b0
             try clear c20
             try clear c21
             try clear c21b0
             try clear c21b1
             try clear c22
             try clear c22b0
             try clear p22
             try clear q22
             try clear hx22
             try clear c23
             try clear c25
             try clear c25b0
             try clear c26
             try clear c28
             try clear c28b0
             try clear c29
             try clear c31
             try clear c33
             try clear c35
             try clear c37
             try clear c37b0
             try clear c37b1
             try clear c38
             try clear c38b0
             try clear c39
             try clear c41
             try clear c41b0
             try clear c42
             try clear c44
             try clear c44b0
             try clear c45
             try clear c47
             try clear c49
             try clear c51
             try clear c51b0
             try clear c51b1
             try clear c52
             try clear c52b0
             try clear c53
             try clear c55
             try clear c55b0
             try clear c56
             try clear c58
             try clear c58b0
             try clear c59
             try clear c61
             try clear c63
             try clear c65
             try clear c66
             try clear c66b0
             try clear c66b1
             try clear c67
             try clear c67b0
             try clear c68
             try clear c71
             try clear c75
             try clear c77
             try clear c77b0
             try clear c77b1
             try clear c78
             try clear c79
             try clear c79b0
             try clear c80
             try clear c80b0
             try clear c81
             try clear c81b0
             try clear c82
             try clear c85
             try clear c88
             try clear c92
             try clear c92b0
             try clear c92b1
             try clear hcz15_0
             try clear hcz15_1
             try clear hcz15_2
             try clear hcz24_0
             try clear hcz24_1
             try clear hcz24_2
             try clear hcz27_0
             try clear hcz27_1
             try clear hcz27_2
             try clear hcz30_0
             try clear hcz30_1
             try clear hcz30_2
             try clear hcz32_0
             try clear hcz32_1
             try clear hcz32_2
             try clear hcz34_0
             try clear hcz34_1
             try clear hcz34_2
             try clear hcz36_0
             try clear hcz36_1
             try clear hcz36_2
             try clear hcz40_0
             try clear hcz40_1
             try clear hcz40_2
             try clear hcz43_0
             try clear hcz43_1
             try clear hcz43_2
             try clear hcz46_0
             try clear hcz46_1
             try clear hcz46_2
             try clear hcz48_0
             try clear hcz48_1
             try clear hcz48_2
             try clear hcz50_0
             try clear hcz50_1
             try clear hcz50_2
             try clear hcz54_0
             try clear hcz54_1
             try clear hcz54_2
             try clear hcz57_0
             try clear hcz57_1
             try clear hcz57_2
             try clear hcz60_0
             try clear hcz60_1
             try clear hcz60_2
             try clear hcz62_0
             try clear hcz62_1
             try clear hcz62_2
             try clear hcz64_0
             try clear hcz64_1
             try clear hcz64_2
             try clear hcz69_0
             try clear hcz69_1
             try clear hcz69_2
             try clear hcz70_0
             try clear hcz70_1
             try clear hcz70_2
             try clear hcz70_3
             try clear hcz72_0
             try clear hcz72_1
             try clear hcz72_2
             try clear hcz73_0
             try clear hcz73_1
             try clear hcz73_2
             try clear hcz73_3
             try clear hcz76_0
             try clear hcz76_1
             try clear hcz76_2
             try clear hcz83_0
             try clear hcz83_1
             try clear hcz83_2
             try clear hcz84_0
             try clear hcz84_1
             try clear hcz84_2
             try clear hcz84_3
             try clear hcz86_0
             try clear hcz86_1
             try clear hcz86_2
             try clear hcz87_0
             try clear hcz87_1
             try clear hcz87_2
             try clear hcz87_3
             try clear hcz89_0
             try clear hcz89_1
             try clear hcz89_2
             try clear hcz90_0
             try clear hcz90_1
             try clear hcz90_2
             try clear hcz90_3
             try clear hcz9_0
             try clear hcz9_1
             try clear hcz9_2
             try clear hcz9_3
             try clear hfz15_0
             try clear hfz15_1
             try clear hfz15_2
             try clear hfz24_0
             try clear hfz24_1
             try clear hfz24_2
             try clear hfz27_0
             try clear hfz27_1
             try clear hfz27_2
             try clear hfz30_0
             try clear hfz30_1
             try clear hfz30_2
             try clear hfz32_0
             try clear hfz32_1
             try clear hfz32_2
             try clear hfz34_0
             try clear hfz34_1
             try clear hfz34_2
             try clear hfz36_0
             try clear hfz36_1
             try clear hfz36_2
             try clear hfz40_0
             try clear hfz40_1
             try clear hfz40_2
             try clear hfz43_0
             try clear hfz43_1
             try clear hfz43_2
             try clear hfz46_0
             try clear hfz46_1
             try clear hfz46_2
             try clear hfz48_0
             try clear hfz48_1
             try clear hfz48_2
             try clear hfz50_0
             try clear hfz50_1
             try clear hfz50_2
             try clear hfz54_0
             try clear hfz54_1
             try clear hfz54_2
             try clear hfz57_0
             try clear hfz57_1
             try clear hfz57_2
             try clear hfz60_0
             try clear hfz60_1
             try clear hfz60_2
             try clear hfz62_0
             try clear hfz62_1
             try clear hfz62_2
             try clear hfz64_0
             try clear hfz64_1
             try clear hfz64_2
             try clear hfz69_0
             try clear hfz69_1
             try clear hfz69_2
             try clear hfz70_0
             try clear hfz70_1
             try clear hfz70_2
             try clear hfz70_3
             try clear hfz72_0
             try clear hfz72_1
             try clear hfz72_2
             try clear hfz73_0
             try clear hfz73_1
             try clear hfz73_2
             try clear hfz73_3
             try clear hfz76_0
             try clear hfz76_1
             try clear hfz76_2
             try clear hfz83_0
             try clear hfz83_1
             try clear hfz83_2
             try clear hfz84_0
             try clear hfz84_1
             try clear hfz84_2
             try clear hfz84_3
             try clear hfz86_0
             try clear hfz86_1
             try clear hfz86_2
             try clear hfz87_0
             try clear hfz87_1
             try clear hfz87_2
             try clear hfz87_3
             try clear hfz89_0
             try clear hfz89_1
             try clear hfz89_2
             try clear hfz90_0
             try clear hfz90_1
             try clear hfz90_2
             try clear hfz90_3
             try clear hfz9_0
             try clear hfz9_1
             try clear hfz9_2
             try clear hfz9_3
             try clear hx223_0
             try clear hx223_1
             try clear hx223_2
             try clear hx223_3
             try clear hx223_4
             try clear p2
             try clear p223
             try clear q223
             obtain ⟨kq, x93_90, rfl, HA, HJ90, BK219, BK220, HB⟩ := hcut
             cases kq with
             | zero => exact absurd HA.out (by simp [ladderbackref18_One.j3])
             | succ kj90 =>
              have H := HA.out
              clear HA
              simp only [ladderbackref18_One.j3] at H
              by_cases c93 : x93_90 = true
              ·subst c93
               have H1 : (if 0 ≤ a1 then (if a1 < (l0_3.length : Int) then ((ladderbackref15_Slots.f kj90 ((rd_T43 l0_3 a1).f0) ((rd_T43 l0_3 a1).f1) ((rd_T43 l0_3 a1).f2) ((rd_T43 l0_3 a1).f3) ((rd_T43 l0_3 a1).f4)).bind fun t225 => (if (a2_1 < (t225.length : Int)) then (some 0) else (some 8))) else (none)) else (none)) = some r := by rw [if_pos rfl] at H; exact H
               clear H
               have H := H1
               clear H1
               by_cases c94 : 0 ≤ a1
               ·rw [if_pos c94] at H
                have c94b0 : decide (0 ≤ a1) = true := decide_eq_true c94
                clear c94
                by_cases c95 : a1 < (l0_3.length : Int)
                ·rw [if_pos c95] at H
                 have c95b0 : decide (a1 < (l0_3.length : Int)) = true := decide_eq_true c95
                 clear c95
                 replace H := Option.bind_eq_some_iff.mp H
                 obtain ⟨t225, A960, H⟩ := H
                 replace H : (if (a2_1 < (t225.length : Int)) then (some 0) else (some 8)) = some r := H
                 have A96 := Aside0.mk A960
                 clear A960
                 by_cases c97 : (a2_1 < (t225.length : Int))
                 ·rw [if_pos c97] at H
                  have c97b0 : decide (a2_1 < (t225.length : Int)) = true := decide_eq_true c97
                  clear c97
                  as_aux_lemma =>
                   obtain rfl := Option.some.inj H
                   try go_wp2
                   have n0_ := Aside0.mk (blk_drew BK219.out)
                   have n1_ := Aside0.mk (blk_drew BK220.out)
                   have n2_ := Aside0.mk (below_drew1 HB.out)
                   clear BK219
                   clear BK220
                   clear HB
                   have BK219 := n0_
                   have BK220 := n1_
                   have HB := n2_
                   clear n0_ n1_ n2_
                   have p224 : 0 ≤ (a1 : Int) := of_decide_eq_true (by first | (with_reducible assumption) | assumption)
                   have q224 : a1 < (l0_3.length : Int) := of_decide_eq_true (by first | (with_reducible assumption) | assumption)
                   obtain ⟨ad224, A224_1, c224_1, A224_3, c224_3, A224_4, c224_4, e224, hx224_0, hx224_1, hx224_2, hx224_3, hx224_4, hl224_1, hi224_1, hl224_3, hi224_3, hl224_4, hi224_4⟩ := at_T43 HR0_3.out a1 p224 q224
                   have hw224_4 := hx224_4
                   have hw224_3 := hx224_3
                   have hw224_2 := hx224_2
                   have hw224_1 := hx224_1
                   have hw224_0 := hx224_0
                   cases e224
                   replace hx224_0 := (HB.out.cell (World.block_lt_of_cell? w _ hx224_0)).trans hx224_0
                   replace hx224_1 := (HB.out.cell (World.block_lt_of_cell? w _ hx224_1)).trans hx224_1
                   replace hx224_2 := (HB.out.cell (World.block_lt_of_cell? w _ hx224_2)).trans hx224_2
                   replace hx224_3 := (HB.out.cell (World.block_lt_of_cell? w _ hx224_3)).trans hx224_3
                   replace hx224_4 := (HB.out.cell (World.block_lt_of_cell? w _ hx224_4)).trans hx224_4
                   have HR224_1 := Aside0.mk hi224_1
                   have HC224_1 := Aside0.mk hl224_1
                   clear hi224_1 hl224_1
                   have HR224_3 := Aside0.mk hi224_3
                   have HC224_3 := Aside0.mk hl224_3
                   clear hi224_3 hl224_3
                   have HR224_4 := Aside0.mk hi224_4
                   have HC224_4 := Aside0.mk hl224_4
                   clear hi224_4 hl224_4
                   replace p224 := eq_true p224
                   replace q224 := eq_true q224
                   refine start_ (n := 11) (S := fun w' => w'.cell? ⟨gb220, 0, none⟩ = some (.int .i64 a2_0) ∧ w'.cell? ⟨gb220, 1, none⟩ = some (.int .i64 a2_1) ∧ w'.cell? ⟨gb220, 2, none⟩ = some (.int .i64 a2_2) ∧ w'.cell? ⟨gb219, 0, none⟩ = some (.slice A0_0 l0_0.length c0_0) ∧ w'.cell? ⟨gb219, 1, none⟩ = some (.slice A0_1 l0_1.length c0_1) ∧ w'.cell? ⟨gb219, 2, none⟩ = some (.slice A0_2 l0_2.length c0_2) ∧ w'.cell? ⟨gb219, 3, none⟩ = some (.slice (some ad224) l0_3.length c0_3) ∧ w'.cell? (ad224.add ((a1).toNat * 5)) = some (.string ((rd_T43 l0_3 a1).f0)) ∧ w'.cell? ⟨(ad224.add ((a1).toNat * 5)).block, (ad224.add ((a1).toNat * 5)).off + 1, none⟩ = some (.slice A224_1 ((rd_T43 l0_3 a1).f1).length c224_1) ∧ w'.cell? ⟨(ad224.add ((a1).toNat * 5)).block, (ad224.add ((a1).toNat * 5)).off + 2, none⟩ = some (.int .i64 ((rd_T43 l0_3 a1).f2)) ∧ w'.cell? ⟨(ad224.add ((a1).toNat * 5)).block, (ad224.add ((a1).toNat * 5)).off + 3, none⟩ = some (.slice A224_3 ((rd_T43 l0_3 a1).f3).length c224_3) ∧ w'.cell? ⟨(ad224.add ((a1).toNat * 5)).block, (ad224.add ((a1).toNat * 5)).off + 4, none⟩ = some (.slice A224_4 ((rd_T43 l0_3 a1).f4).length c224_4)) (ds := []) #[false, false, false, false, false, false, false, false, false, false, false] (by kernel_rfl) rfl rfl ⟨(blk_cell BK220.out 0).trans rfl, (blk_cell BK220.out 1).trans rfl, (blk_cell BK220.out 2).trans rfl, (blk_cell BK219.out 0).trans rfl, (blk_cell BK219.out 1).trans rfl, (blk_cell BK219.out 2).trans rfl, (blk_cell BK219.out 3).trans rfl, ((HB.out.cell (World.block_lt_of_cell? w _ hw224_0)).trans hw224_0), ((HB.out.cell (World.block_lt_of_cell? w _ hw224_1)).trans hw224_1), ((HB.out.cell (World.block_lt_of_cell? w _ hw224_2)).trans hw224_2), ((HB.out.cell (World.block_lt_of_cell? w _ hw224_3)).trans hw224_3), ((HB.out.cell (World.block_lt_of_cell? w _ hw224_4)).trans hw224_4)⟩ (fun hHeld => ?_); refine with_tabW ladderbackref18_One.tab17 ladderbackref18_One.bits17 (fun HT_ HW_ => ?_)
                   generalize wc.drew = w98 at BK219 BK220 HB HR224_1 HR224_3 HR224_4 hx224_0 hx224_1 hx224_2 hx224_3 hx224_4 hHeld ⊢
                   refine pure_ (i := 0) (N := some 96) (v := ?_) (a' := ?_) #[true, false, false, false, false, false, false, false, false, false, false] rfl rfl (any_of HT_.out (by kernel_rfl)) (fun _ _ _ h => h) (Or.inl ⟨by rfl, ?_⟩) ?_ ?_
                   rotate_left
                   ·intro w'
                    go_simp
                    with_reducible rfl
                   rotate_left
                   ·simp only [Act.put, List.setIfInBounds_toArray, List.set_cons_zero, List.set_cons_succ, i64_w, i32_w]
                    rfl
                   refine pure_ (i := 2) (N := some 98) (v := ?_) (a' := ?_) #[true, false, true, false, false, false, false, false, false, false, false] rfl rfl (any_of HT_.out (by kernel_rfl)) (fun _ _ _ h => h) (Or.inl ⟨by rfl, ?_⟩) ?_ ?_
                   rotate_left
                   ·intro w'
                    go_simp
                    with_reducible rfl
                   rotate_left
                   ·simp only [Act.put, List.setIfInBounds_toArray, List.set_cons_zero, List.set_cons_succ, i64_w, i32_w]
                    rfl
                   refine pure_ (i := 4) (N := some 100) (v := ?_) (a' := ?_) #[true, false, true, false, true, false, false, false, false, false, false] rfl rfl (any_of HT_.out (by kernel_rfl)) (fun _ _ _ h => h) (Or.inl ⟨by rfl, ?_⟩) ?_ ?_
                   rotate_left
                   ·intro w'
                    go_simp
                    with_reducible rfl
                   rotate_left
                   ·simp only [Act.put, List.setIfInBounds_toArray, List.set_cons_zero, List.set_cons_succ, i64_w, i32_w]
                    rfl
                   refine take_ (i := 1) (N := some 97) (v := ?_) (a' := ?_) #[true, true, true, false, true, false, false, false, false, false, false] rfl rfl (take_ofW HT_.out HW_.out (by kernel_rfl)) (fun _ _ _ h => h) (Or.inl ⟨by rfl, ?_⟩) hHeld ?_ ?_
                   rotate_left
                   ·rintro w' ⟨s0, s1, s2, s3, s4, s5, s6, s7, s8, s9, s10, s11⟩
                    go_simp
                    with_reducible rfl
                   rotate_left
                   ·simp only [Act.put, List.setIfInBounds_toArray, List.set_cons_zero, List.set_cons_succ, i64_w, i32_w]
                    rfl
                   refine take_ (i := 3) (N := some 99) (v := ?_) (a' := ?_) #[true, true, true, true, true, false, false, false, false, false, false] rfl rfl (take_ofW HT_.out HW_.out (by kernel_rfl)) (fun _ _ _ h => h) (Or.inl ⟨by rfl, ?_⟩) hHeld ?_ ?_
                   rotate_left
                   ·rintro w' ⟨s0, s1, s2, s3, s4, s5, s6, s7, s8, s9, s10, s11⟩
                    go_simp
                    with_reducible rfl
                   rotate_left
                   ·simp only [Act.put, List.setIfInBounds_toArray, List.set_cons_zero, List.set_cons_succ, i64_w, i32_w]
                    rfl
                   refine pure_ (i := 5) (N := some 101) (v := ?_) (a' := ?_) #[true, true, true, true, true, true, false, false, false, false, false] rfl rfl (any_of HT_.out (by kernel_rfl)) (fun _ _ _ h => h) (Or.inl ⟨by rfl, ?_⟩) ?_ ?_
                   rotate_left
                   ·intro w'
                    go_simp
                    with_reducible rfl
                   rotate_left
                   ·simp only [Act.put, List.setIfInBounds_toArray, List.set_cons_zero, List.set_cons_succ, i64_w, i32_w]
                    rfl
                   refine take_ (i := 6) (N := some 102) (v := ?_) (a' := ?_) #[true, true, true, true, true, true, true, false, false, false, false] rfl rfl (take_ofW HT_.out HW_.out (by kernel_rfl)) (fun _ _ _ h => h) (Or.inl ⟨by rfl, ?_⟩) hHeld ?_ ?_
                   rotate_left
                   ·rintro w' ⟨s0, s1, s2, s3, s4, s5, s6, s7, s8, s9, s10, s11⟩
                    go_simp
                    with_reducible rfl
                   rotate_left
                   ·simp only [Act.put, List.setIfInBounds_toArray, List.set_cons_zero, List.set_cons_succ, i64_w, i32_w]
                    rfl
                   refine one_ (i := 7) (N := some 103) #[true, true, true, true, true, true, true, true, false, false, false] rfl rfl (one_of HT_.out (by kernel_rfl)) (by decide) (fun K hK => ?_)
                   refine goes_ Tryd.func31 (by kernel_rfl) rfl #[.agg #[.string ((rd_T43 l0_3 a1).f0), .slice A224_1 ((rd_T43 l0_3 a1).f1).length c224_1, .int .i64 ((rd_T43 l0_3 a1).f2), .slice A224_3 ((rd_T43 l0_3 a1).f3).length c224_3, .slice A224_4 ((rd_T43 l0_3 a1).f4).length c224_4]] (by rfl) rfl rfl (by (try simp only [List.map_toArray, List.map_cons, List.map_nil]); first | done | rfl | (simp only [List.length_drop, List.length_take]; rfl)) ?_
                   with_reducible refine (ladderbackref15_Slots.calls kj90 ((rd_T43 l0_3 a1).f0) _ _ ((rd_T43 l0_3 a1).f1) ((rd_T43 l0_3 a1).f2) _ _ ((rd_T43 l0_3 a1).f3) _ _ ((rd_T43 l0_3 a1).f4) t225 _ ?side1 ?side2 ?side3 ?side4 ?side5 ?side6 A96.out).mono ?_
                   (case side1 => repeat (first | exact (Kd.C_below HR224_1.out HB.out) | (with_reducible refine Kd.C_alloc ?_ _) | (with_reducible refine Kd.C_drewN ?_ _) | (with_reducible refine Kd.C_drew ?_)))
                   (case side2 => exact HC224_1.out)
                   (case side3 => repeat (first | exact (Kd.C_below HR224_3.out HB.out) | (with_reducible refine Kd.C_alloc ?_ _) | (with_reducible refine Kd.C_drewN ?_ _) | (with_reducible refine Kd.C_drew ?_)))
                   (case side4 => exact HC224_3.out)
                   (case side5 => repeat (first | exact (Kd.C_below HR224_4.out HB.out) | (with_reducible refine Kd.C_alloc ?_ _) | (with_reducible refine Kd.C_drewN ?_ _) | (with_reducible refine Kd.C_drew ?_)))
                   (case side6 => exact HC224_4.out)
                   rintro e w99 ⟨v226, rfl, ho0, hb⟩
                   refine ⟨_, rfl, ?_⟩
                   have n0_ := Aside0.mk (Kd.R_lower ho0 (below_size (by repeat (first | (with_reducible first | exact HB.out | apply below_alloc | apply pw_below_drewN | apply below_drew1 | refine below_set ?_ GE219.out | refine below_set ?_ GE220.out) | exact HB.out))))
                   have n1_ := Aside0.mk (blk_below (g := gb219) (o := .cells #[.slice A0_0 l0_0.length c0_0, .slice A0_1 l0_1.length c0_1, .slice A0_2 l0_2.length c0_2, .slice (some ad224) l0_3.length c0_3] 27 (0, 0)) (by (with_reducible repeat (first | refine blk_drewN ?_ _ | refine blk_drew ?_ | refine blk_alloc ?_ _)); exact BK219.out) hb)
                   have n2_ := Aside0.mk (blk_below (g := gb220) (o := .cells #[.int .i64 a2_0, .int .i64 a2_1, .int .i64 a2_2] 29 (0, 0)) (by (with_reducible repeat (first | refine blk_drewN ?_ _ | refine blk_drew ?_ | refine blk_alloc ?_ _)); exact BK220.out) hb)
                   have n3_ := Aside0.mk (below_step (by repeat (first | (with_reducible first | exact HB.out | apply below_alloc | apply pw_below_drewN | apply below_drew1 | refine below_set ?_ GE219.out | refine below_set ?_ GE220.out) | exact HB.out)) hb)
                   clear BK219
                   clear BK220
                   clear HB
                   have HO227 := n0_
                   have BK219 := n1_
                   have BK220 := n2_
                   have HB := n3_
                   clear n0_ n1_ n2_ n3_
                   (try clear hb)
                   (try clear hb2)
                   (try clear hk)
                   (try clear hi)
                   (try clear ho0)
                   obtain ⟨Ao100, co100, eo100⟩ := Kd.R_slice HO227.out
                   (first | subst eo100 | (injection eo100 with f1_ f2_ f3_; have f4_ := f1_.symm; have f5_ := f3_.symm; clear f1_ f2_ f3_; subst f4_; subst f5_))
                   refine hK.out _ _ ⟨(blk_cell BK220.out 0).trans rfl, (blk_cell BK220.out 1).trans rfl, (blk_cell BK220.out 2).trans rfl, (blk_cell BK219.out 0).trans rfl, (blk_cell BK219.out 1).trans rfl, (blk_cell BK219.out 2).trans rfl, (blk_cell BK219.out 3).trans rfl, ((HB.out.cell (World.block_lt_of_cell? w _ hw224_0)).trans hw224_0), ((HB.out.cell (World.block_lt_of_cell? w _ hw224_1)).trans hw224_1), ((HB.out.cell (World.block_lt_of_cell? w _ hw224_2)).trans hw224_2), ((HB.out.cell (World.block_lt_of_cell? w _ hw224_3)).trans hw224_3), ((HB.out.cell (World.block_lt_of_cell? w _ hw224_4)).trans hw224_4)⟩ (fun hHeld => ?_)
                   clear hK K
                   refine norm_ (a' := ?_) ?_ ?_
                   rotate_left
                   ·show Act.put _ (some 103) _ = _
                    simp only [Act.put, List.setIfInBounds_toArray, List.set_cons_zero, List.set_cons_succ, i64_w, i32_w]
                    rfl
                   refine pure_ (i := 8) (N := some 104) (v := ?_) (a' := ?_) #[true, true, true, true, true, true, true, true, true, false, false] rfl rfl (any_of HT_.out (by kernel_rfl)) (fun _ _ _ h => h) (Or.inl ⟨by rfl, ?_⟩) ?_ ?_
                   rotate_left
                   ·intro w'
                    go_simp
                    with_reducible rfl
                   rotate_left
                   ·simp only [Act.put, List.setIfInBounds_toArray, List.set_cons_zero, List.set_cons_succ, i64_w, i32_w]
                    rfl
                   refine pure_ (i := 9) (N := some 105) (v := ?_) (a' := ?_) #[true, true, true, true, true, true, true, true, true, true, false] rfl rfl (any_of HT_.out (by kernel_rfl)) (fun _ _ _ h => h) (Or.inl ⟨by rfl, ?_⟩) ?_ ?_
                   rotate_left
                   ·intro w'
                    go_simp
                    with_reducible rfl
                   rotate_left
                   ·simp only [Act.put, List.setIfInBounds_toArray, List.set_cons_zero, List.set_cons_succ, i64_w, i32_w]
                    rfl
                   refine pure_ (i := 10) (N := some 7) (v := ?_) (a' := ?_) #[true, true, true, true, true, true, true, true, true, true, true] rfl rfl (any_of HT_.out (by kernel_rfl)) (fun _ _ _ h => h) (Or.inl ⟨by rfl, ?_⟩) ?_ ?_
                   rotate_left
                   ·intro w'
                    go_simp
                    with_reducible rfl
                   rotate_left
                   ·simp only [Act.put, List.setIfInBounds_toArray, List.set_cons_zero, List.set_cons_succ, i64_w, i32_w]
                    rfl
                   refine done_ (done_of HT_.out (by kernel_rfl)) ?_
                   try go_wp2
                   go_ret
                   exact ⟨by first | rfl | (simp [errW_none, errW_some] <;> rfl) | (simp [*, errW_none, errW_some] <;> rfl), by repeat (first | (with_reducible first | exact HB.out | apply below_alloc | apply pw_below_drewN | apply below_drew1 | refine below_set ?_ GE219.out | refine below_set ?_ GE220.out) | exact HB.out)⟩
                 ·rw [if_neg c97] at H
                  have c97b0 : decide (a2_1 < (t225.length : Int)) = false := decide_eq_false c97
                  clear c97
                  as_aux_lemma =>
                   obtain rfl := Option.some.inj H
                   try go_wp2
                   have n0_ := Aside0.mk (blk_drew BK219.out)
                   have n1_ := Aside0.mk (blk_drew BK220.out)
                   have n2_ := Aside0.mk (below_drew1 HB.out)
                   clear BK219
                   clear BK220
                   clear HB
                   have BK219 := n0_
                   have BK220 := n1_
                   have HB := n2_
                   clear n0_ n1_ n2_
                   have p224 : 0 ≤ (a1 : Int) := of_decide_eq_true (by first | (with_reducible assumption) | assumption)
                   have q224 : a1 < (l0_3.length : Int) := of_decide_eq_true (by first | (with_reducible assumption) | assumption)
                   obtain ⟨ad224, A224_1, c224_1, A224_3, c224_3, A224_4, c224_4, e224, hx224_0, hx224_1, hx224_2, hx224_3, hx224_4, hl224_1, hi224_1, hl224_3, hi224_3, hl224_4, hi224_4⟩ := at_T43 HR0_3.out a1 p224 q224
                   have hw224_4 := hx224_4
                   have hw224_3 := hx224_3
                   have hw224_2 := hx224_2
                   have hw224_1 := hx224_1
                   have hw224_0 := hx224_0
                   cases e224
                   replace hx224_0 := (HB.out.cell (World.block_lt_of_cell? w _ hx224_0)).trans hx224_0
                   replace hx224_1 := (HB.out.cell (World.block_lt_of_cell? w _ hx224_1)).trans hx224_1
                   replace hx224_2 := (HB.out.cell (World.block_lt_of_cell? w _ hx224_2)).trans hx224_2
                   replace hx224_3 := (HB.out.cell (World.block_lt_of_cell? w _ hx224_3)).trans hx224_3
                   replace hx224_4 := (HB.out.cell (World.block_lt_of_cell? w _ hx224_4)).trans hx224_4
                   have HR224_1 := Aside0.mk hi224_1
                   have HC224_1 := Aside0.mk hl224_1
                   clear hi224_1 hl224_1
                   have HR224_3 := Aside0.mk hi224_3
                   have HC224_3 := Aside0.mk hl224_3
                   clear hi224_3 hl224_3
                   have HR224_4 := Aside0.mk hi224_4
                   have HC224_4 := Aside0.mk hl224_4
                   clear hi224_4 hl224_4
                   replace p224 := eq_true p224
                   replace q224 := eq_true q224
                   refine start_ (n := 11) (S := fun w' => w'.cell? ⟨gb220, 0, none⟩ = some (.int .i64 a2_0) ∧ w'.cell? ⟨gb220, 1, none⟩ = some (.int .i64 a2_1) ∧ w'.cell? ⟨gb220, 2, none⟩ = some (.int .i64 a2_2) ∧ w'.cell? ⟨gb219, 0, none⟩ = some (.slice A0_0 l0_0.length c0_0) ∧ w'.cell? ⟨gb219, 1, none⟩ = some (.slice A0_1 l0_1.length c0_1) ∧ w'.cell? ⟨gb219, 2, none⟩ = some (.slice A0_2 l0_2.length c0_2) ∧ w'.cell? ⟨gb219, 3, none⟩ = some (.slice (some ad224) l0_3.length c0_3) ∧ w'.cell? (ad224.add ((a1).toNat * 5)) = some (.string ((rd_T43 l0_3 a1).f0)) ∧ w'.cell? ⟨(ad224.add ((a1).toNat * 5)).block, (ad224.add ((a1).toNat * 5)).off + 1, none⟩ = some (.slice A224_1 ((rd_T43 l0_3 a1).f1).length c224_1) ∧ w'.cell? ⟨(ad224.add ((a1).toNat * 5)).block, (ad224.add ((a1).toNat * 5)).off + 2, none⟩ = some (.int .i64 ((rd_T43 l0_3 a1).f2)) ∧ w'.cell? ⟨(ad224.add ((a1).toNat * 5)).block, (ad224.add ((a1).toNat * 5)).off + 3, none⟩ = some (.slice A224_3 ((rd_T43 l0_3 a1).f3).length c224_3) ∧ w'.cell? ⟨(ad224.add ((a1).toNat * 5)).block, (ad224.add ((a1).toNat * 5)).off + 4, none⟩ = some (.slice A224_4 ((rd_T43 l0_3 a1).f4).length c224_4)) (ds := []) #[false, false, false, false, false, false, false, false, false, false, false] (by kernel_rfl) rfl rfl ⟨(blk_cell BK220.out 0).trans rfl, (blk_cell BK220.out 1).trans rfl, (blk_cell BK220.out 2).trans rfl, (blk_cell BK219.out 0).trans rfl, (blk_cell BK219.out 1).trans rfl, (blk_cell BK219.out 2).trans rfl, (blk_cell BK219.out 3).trans rfl, ((HB.out.cell (World.block_lt_of_cell? w _ hw224_0)).trans hw224_0), ((HB.out.cell (World.block_lt_of_cell? w _ hw224_1)).trans hw224_1), ((HB.out.cell (World.block_lt_of_cell? w _ hw224_2)).trans hw224_2), ((HB.out.cell (World.block_lt_of_cell? w _ hw224_3)).trans hw224_3), ((HB.out.cell (World.block_lt_of_cell? w _ hw224_4)).trans hw224_4)⟩ (fun hHeld => ?_); refine with_tabW ladderbackref18_One.tab17 ladderbackref18_One.bits17 (fun HT_ HW_ => ?_)
                   generalize wc.drew = w101 at BK219 BK220 HB HR224_1 HR224_3 HR224_4 hx224_0 hx224_1 hx224_2 hx224_3 hx224_4 hHeld ⊢
                   refine pure_ (i := 0) (N := some 96) (v := ?_) (a' := ?_) #[true, false, false, false, false, false, false, false, false, false, false] rfl rfl (any_of HT_.out (by kernel_rfl)) (fun _ _ _ h => h) (Or.inl ⟨by rfl, ?_⟩) ?_ ?_
                   rotate_left
                   ·intro w'
                    go_simp
                    with_reducible rfl
                   rotate_left
                   ·simp only [Act.put, List.setIfInBounds_toArray, List.set_cons_zero, List.set_cons_succ, i64_w, i32_w]
                    rfl
                   refine pure_ (i := 2) (N := some 98) (v := ?_) (a' := ?_) #[true, false, true, false, false, false, false, false, false, false, false] rfl rfl (any_of HT_.out (by kernel_rfl)) (fun _ _ _ h => h) (Or.inl ⟨by rfl, ?_⟩) ?_ ?_
                   rotate_left
                   ·intro w'
                    go_simp
                    with_reducible rfl
                   rotate_left
                   ·simp only [Act.put, List.setIfInBounds_toArray, List.set_cons_zero, List.set_cons_succ, i64_w, i32_w]
                    rfl
                   refine pure_ (i := 4) (N := some 100) (v := ?_) (a' := ?_) #[true, false, true, false, true, false, false, false, false, false, false] rfl rfl (any_of HT_.out (by kernel_rfl)) (fun _ _ _ h => h) (Or.inl ⟨by rfl, ?_⟩) ?_ ?_
                   rotate_left
                   ·intro w'
                    go_simp
                    with_reducible rfl
                   rotate_left
                   ·simp only [Act.put, List.setIfInBounds_toArray, List.set_cons_zero, List.set_cons_succ, i64_w, i32_w]
                    rfl
                   refine take_ (i := 1) (N := some 97) (v := ?_) (a' := ?_) #[true, true, true, false, true, false, false, false, false, false, false] rfl rfl (take_ofW HT_.out HW_.out (by kernel_rfl)) (fun _ _ _ h => h) (Or.inl ⟨by rfl, ?_⟩) hHeld ?_ ?_
                   rotate_left
                   ·rintro w' ⟨s0, s1, s2, s3, s4, s5, s6, s7, s8, s9, s10, s11⟩
                    go_simp
                    with_reducible rfl
                   rotate_left
                   ·simp only [Act.put, List.setIfInBounds_toArray, List.set_cons_zero, List.set_cons_succ, i64_w, i32_w]
                    rfl
                   refine take_ (i := 3) (N := some 99) (v := ?_) (a' := ?_) #[true, true, true, true, true, false, false, false, false, false, false] rfl rfl (take_ofW HT_.out HW_.out (by kernel_rfl)) (fun _ _ _ h => h) (Or.inl ⟨by rfl, ?_⟩) hHeld ?_ ?_
                   rotate_left
                   ·rintro w' ⟨s0, s1, s2, s3, s4, s5, s6, s7, s8, s9, s10, s11⟩
                    go_simp
                    with_reducible rfl
                   rotate_left
                   ·simp only [Act.put, List.setIfInBounds_toArray, List.set_cons_zero, List.set_cons_succ, i64_w, i32_w]
                    rfl
                   refine pure_ (i := 5) (N := some 101) (v := ?_) (a' := ?_) #[true, true, true, true, true, true, false, false, false, false, false] rfl rfl (any_of HT_.out (by kernel_rfl)) (fun _ _ _ h => h) (Or.inl ⟨by rfl, ?_⟩) ?_ ?_
                   rotate_left
                   ·intro w'
                    go_simp
                    with_reducible rfl
                   rotate_left
                   ·simp only [Act.put, List.setIfInBounds_toArray, List.set_cons_zero, List.set_cons_succ, i64_w, i32_w]
                    rfl
                   refine take_ (i := 6) (N := some 102) (v := ?_) (a' := ?_) #[true, true, true, true, true, true, true, false, false, false, false] rfl rfl (take_ofW HT_.out HW_.out (by kernel_rfl)) (fun _ _ _ h => h) (Or.inl ⟨by rfl, ?_⟩) hHeld ?_ ?_
                   rotate_left
                   ·rintro w' ⟨s0, s1, s2, s3, s4, s5, s6, s7, s8, s9, s10, s11⟩
                    go_simp
                    with_reducible rfl
                   rotate_left
                   ·simp only [Act.put, List.setIfInBounds_toArray, List.set_cons_zero, List.set_cons_succ, i64_w, i32_w]
                    rfl
                   refine one_ (i := 7) (N := some 103) #[true, true, true, true, true, true, true, true, false, false, false] rfl rfl (one_of HT_.out (by kernel_rfl)) (by decide) (fun K hK => ?_)
                   refine goes_ Tryd.func31 (by kernel_rfl) rfl #[.agg #[.string ((rd_T43 l0_3 a1).f0), .slice A224_1 ((rd_T43 l0_3 a1).f1).length c224_1, .int .i64 ((rd_T43 l0_3 a1).f2), .slice A224_3 ((rd_T43 l0_3 a1).f3).length c224_3, .slice A224_4 ((rd_T43 l0_3 a1).f4).length c224_4]] (by rfl) rfl rfl (by (try simp only [List.map_toArray, List.map_cons, List.map_nil]); first | done | rfl | (simp only [List.length_drop, List.length_take]; rfl)) ?_
                   with_reducible refine (ladderbackref15_Slots.calls kj90 ((rd_T43 l0_3 a1).f0) _ _ ((rd_T43 l0_3 a1).f1) ((rd_T43 l0_3 a1).f2) _ _ ((rd_T43 l0_3 a1).f3) _ _ ((rd_T43 l0_3 a1).f4) t225 _ ?side1 ?side2 ?side3 ?side4 ?side5 ?side6 A96.out).mono ?_
                   (case side1 => repeat (first | exact (Kd.C_below HR224_1.out HB.out) | (with_reducible refine Kd.C_alloc ?_ _) | (with_reducible refine Kd.C_drewN ?_ _) | (with_reducible refine Kd.C_drew ?_)))
                   (case side2 => exact HC224_1.out)
                   (case side3 => repeat (first | exact (Kd.C_below HR224_3.out HB.out) | (with_reducible refine Kd.C_alloc ?_ _) | (with_reducible refine Kd.C_drewN ?_ _) | (with_reducible refine Kd.C_drew ?_)))
                   (case side4 => exact HC224_3.out)
                   (case side5 => repeat (first | exact (Kd.C_below HR224_4.out HB.out) | (with_reducible refine Kd.C_alloc ?_ _) | (with_reducible refine Kd.C_drewN ?_ _) | (with_reducible refine Kd.C_drew ?_)))
                   (case side6 => exact HC224_4.out)
                   rintro e w102 ⟨v226, rfl, ho0, hb⟩
                   refine ⟨_, rfl, ?_⟩
                   have n0_ := Aside0.mk (Kd.R_lower ho0 (below_size (by repeat (first | (with_reducible first | exact HB.out | apply below_alloc | apply pw_below_drewN | apply below_drew1 | refine below_set ?_ GE219.out | refine below_set ?_ GE220.out) | exact HB.out))))
                   have n1_ := Aside0.mk (blk_below (g := gb219) (o := .cells #[.slice A0_0 l0_0.length c0_0, .slice A0_1 l0_1.length c0_1, .slice A0_2 l0_2.length c0_2, .slice (some ad224) l0_3.length c0_3] 27 (0, 0)) (by (with_reducible repeat (first | refine blk_drewN ?_ _ | refine blk_drew ?_ | refine blk_alloc ?_ _)); exact BK219.out) hb)
                   have n2_ := Aside0.mk (blk_below (g := gb220) (o := .cells #[.int .i64 a2_0, .int .i64 a2_1, .int .i64 a2_2] 29 (0, 0)) (by (with_reducible repeat (first | refine blk_drewN ?_ _ | refine blk_drew ?_ | refine blk_alloc ?_ _)); exact BK220.out) hb)
                   have n3_ := Aside0.mk (below_step (by repeat (first | (with_reducible first | exact HB.out | apply below_alloc | apply pw_below_drewN | apply below_drew1 | refine below_set ?_ GE219.out | refine below_set ?_ GE220.out) | exact HB.out)) hb)
                   clear BK219
                   clear BK220
                   clear HB
                   have HO227 := n0_
                   have BK219 := n1_
                   have BK220 := n2_
                   have HB := n3_
                   clear n0_ n1_ n2_ n3_
                   (try clear hb)
                   (try clear hb2)
                   (try clear hk)
                   (try clear hi)
                   (try clear ho0)
                   obtain ⟨Ao103, co103, eo103⟩ := Kd.R_slice HO227.out
                   (first | subst eo103 | (injection eo103 with f1_ f2_ f3_; have f4_ := f1_.symm; have f5_ := f3_.symm; clear f1_ f2_ f3_; subst f4_; subst f5_))
                   refine hK.out _ _ ⟨(blk_cell BK220.out 0).trans rfl, (blk_cell BK220.out 1).trans rfl, (blk_cell BK220.out 2).trans rfl, (blk_cell BK219.out 0).trans rfl, (blk_cell BK219.out 1).trans rfl, (blk_cell BK219.out 2).trans rfl, (blk_cell BK219.out 3).trans rfl, ((HB.out.cell (World.block_lt_of_cell? w _ hw224_0)).trans hw224_0), ((HB.out.cell (World.block_lt_of_cell? w _ hw224_1)).trans hw224_1), ((HB.out.cell (World.block_lt_of_cell? w _ hw224_2)).trans hw224_2), ((HB.out.cell (World.block_lt_of_cell? w _ hw224_3)).trans hw224_3), ((HB.out.cell (World.block_lt_of_cell? w _ hw224_4)).trans hw224_4)⟩ (fun hHeld => ?_)
                   clear hK K
                   refine norm_ (a' := ?_) ?_ ?_
                   rotate_left
                   ·show Act.put _ (some 103) _ = _
                    simp only [Act.put, List.setIfInBounds_toArray, List.set_cons_zero, List.set_cons_succ, i64_w, i32_w]
                    rfl
                   refine pure_ (i := 8) (N := some 104) (v := ?_) (a' := ?_) #[true, true, true, true, true, true, true, true, true, false, false] rfl rfl (any_of HT_.out (by kernel_rfl)) (fun _ _ _ h => h) (Or.inl ⟨by rfl, ?_⟩) ?_ ?_
                   rotate_left
                   ·intro w'
                    go_simp
                    with_reducible rfl
                   rotate_left
                   ·simp only [Act.put, List.setIfInBounds_toArray, List.set_cons_zero, List.set_cons_succ, i64_w, i32_w]
                    rfl
                   refine pure_ (i := 9) (N := some 105) (v := ?_) (a' := ?_) #[true, true, true, true, true, true, true, true, true, true, false] rfl rfl (any_of HT_.out (by kernel_rfl)) (fun _ _ _ h => h) (Or.inl ⟨by rfl, ?_⟩) ?_ ?_
                   rotate_left
                   ·intro w'
                    go_simp
                    with_reducible rfl
                   rotate_left
                   ·simp only [Act.put, List.setIfInBounds_toArray, List.set_cons_zero, List.set_cons_succ, i64_w, i32_w]
                    rfl
                   refine pure_ (i := 10) (N := some 7) (v := ?_) (a' := ?_) #[true, true, true, true, true, true, true, true, true, true, true] rfl rfl (any_of HT_.out (by kernel_rfl)) (fun _ _ _ h => h) (Or.inl ⟨by rfl, ?_⟩) ?_ ?_
                   rotate_left
                   ·intro w'
                    go_simp
                    with_reducible rfl
                   rotate_left
                   ·simp only [Act.put, List.setIfInBounds_toArray, List.set_cons_zero, List.set_cons_succ, i64_w, i32_w]
                    rfl
                   refine done_ (done_of HT_.out (by kernel_rfl)) ?_
                   try go_wp2
                   go_ret
                   exact ⟨by first | rfl | (simp [errW_none, errW_some] <;> rfl) | (simp [*, errW_none, errW_some] <;> rfl), by repeat (first | (with_reducible first | exact HB.out | apply below_alloc | apply pw_below_drewN | apply below_drew1 | refine below_set ?_ GE219.out | refine below_set ?_ GE220.out) | exact HB.out)⟩
                ·rw [if_neg c95] at H
                 exact absurd H (by simp)
               ·rw [if_neg c94] at H
                exact absurd H (by simp)
              ·replace c93 := Bool.eq_false_iff.mpr c93
               subst c93
               have H1 : (if a2_0 = 6 then (ladderbackref18_One.j4 kj90 a2_0 (a2_0 == 6) l0_0 l0_1 l0_2 l0_3 a2_0 a2_1 a2_2) else (ladderbackref18_One.j4 kj90 a2_0 (a2_0 == 7) l0_0 l0_1 l0_2 l0_3 a2_0 a2_1 a2_2)) = some r := by rw [if_neg (show ¬ (false = true) by decide)] at H; exact H
               clear H
               have H := H1
               clear H1
               have HC104 := Aside0.mk H
               clear H
               go_upto_if 106 with (fail)
               go_cut [106] (fun v106 wc => ∃ (kq : Nat) (x106_103 : Bool), v106 = .bool x106_103 ∧ Aside0 (ladderbackref18_One.j4 kq a2_0 x106_103 l0_0 l0_1 l0_2 l0_3 a2_0 a2_1 a2_2 = some r) ∧ Aside0 (kq ≤ kj90) ∧ Aside0 (wc.heap[gb219]? = some (.cells #[(.slice A0_0 l0_0.length c0_0), (.slice A0_1 l0_1.length c0_1), (.slice A0_2 l0_2.length c0_2), (.slice A0_3 l0_3.length c0_3)] 27 (0, 0))) ∧ Aside0 (wc.heap[gb220]? = some (.cells #[.int .i64 a2_0, .int .i64 a2_1, .int .i64 a2_2] 29 (0, 0))) ∧ Aside0 (Below w.heap.size w wc))
               case first =>
                have H := HC104.out
                clear HC104
                by_cases c105 : a2_0 = 6
                ·rw [if_pos c105] at H
                 have c105b0 : (a2_0 == 6) = true := beq_iff_eq.mpr c105
                 have c105b1 : (a2_0 != 6) = false := bne_eq_false_iff_eq.mpr c105
                 clear c105
                 (first | rw [c105b0] | (simp only [i64_w, i32_w]; rw [c105b0]) | skip)
                 as_aux_lemma =>
                  have H' := Aside0.mk H
                  clear H
                  go_wp2
                  go_meet
                  case rel => exact ⟨_, ((a2_0 == 6)), (by first | rfl | (simp; done) | (simp [*]; done)), H', ⟨by have := HJ3.out; have := HJ12.out; have := HJ73.out; have := HJ90.out; first | omega | exact Nat.le_refl _⟩, ⟨by (with_reducible repeat (first | refine blk_drewN ?_ _ | refine blk_drew ?_ | refine blk_alloc ?_ _)); exact BK219.out⟩, ⟨by (with_reducible repeat (first | refine blk_drewN ?_ _ | refine blk_drew ?_ | refine blk_alloc ?_ _)); exact BK220.out⟩, ⟨by repeat (first | (with_reducible first | exact HB.out | apply below_alloc | apply pw_below_drewN | apply below_drew1 | refine below_set ?_ GE219.out | refine below_set ?_ GE220.out) | exact HB.out)⟩⟩
                ·rw [if_neg c105] at H
                 have c105b0 : (a2_0 == 6) = false := beq_eq_false_iff_ne.mpr c105
                 have c105b1 : (a2_0 != 6) = true := bne_iff_ne.mpr c105
                 (first | rw [c105b0] | (simp only [i64_w, i32_w]; rw [c105b0]) | skip)
                 as_aux_lemma =>
                  have H' := Aside0.mk H
                  clear H
                  go_wp2
                  go_meet
                  case rel => exact ⟨_, ((a2_0 == 7)), (by first | rfl | (simp; done) | (simp [*]; done)), H', ⟨by have := HJ3.out; have := HJ12.out; have := HJ73.out; have := HJ90.out; first | omega | exact Nat.le_refl _⟩, ⟨by (with_reducible repeat (first | refine blk_drewN ?_ _ | refine blk_drew ?_ | refine blk_alloc ?_ _)); exact BK219.out⟩, ⟨by (with_reducible repeat (first | refine blk_drewN ?_ _ | refine blk_drew ?_ | refine blk_alloc ?_ _)); exact BK220.out⟩, ⟨by repeat (first | (with_reducible first | exact HB.out | apply below_alloc | apply pw_below_drewN | apply below_drew1 | refine below_set ?_ GE219.out | refine below_set ?_ GE220.out) | exact HB.out)⟩⟩
               case rest =>
                clear HC104
                try clear c1
                try clear c2
                try clear p2
                try clear q2
                try clear hx2
                try clear c3
                try clear c8
                try clear c9
                try clear c10
                try clear c22
                try clear p22
                try clear q22
                try clear hx22
                try clear c31
                try clear c80
                try clear c80b0
                try clear c81
                try clear c81b0
                try clear c82
                try clear c85
                try clear c88
                try clear c92
                try clear c92b0
                try clear c92b1
                try clear c93
                try clear c94
                try clear c94b0
                try clear c95
                try clear c95b0
                try clear c97
                try clear c97b0
                try clear c105
                try clear c105b0
                try clear c105b1
                try clear hcz15_0
                try clear hcz15_1
                try clear hcz15_2
                try clear hcz24_0
                try clear hcz24_1
                try clear hcz24_2
                try clear hcz27_0
                try clear hcz27_1
                try clear hcz27_2
                try clear hcz30_0
                try clear hcz30_1
                try clear hcz30_2
                try clear hcz32_0
                try clear hcz32_1
                try clear hcz32_2
                try clear hcz34_0
                try clear hcz34_1
                try clear hcz34_2
                try clear hcz36_0
                try clear hcz36_1
                try clear hcz36_2
                try clear hcz40_0
                try clear hcz40_1
                try clear hcz40_2
                try clear hcz43_0
                try clear hcz43_1
                try clear hcz43_2
                try clear hcz46_0
                try clear hcz46_1
                try clear hcz46_2
                try clear hcz48_0
                try clear hcz48_1
                try clear hcz48_2
                try clear hcz50_0
                try clear hcz50_1
                try clear hcz50_2
                try clear hcz54_0
                try clear hcz54_1
                try clear hcz54_2
                try clear hcz57_0
                try clear hcz57_1
                try clear hcz57_2
                try clear hcz60_0
                try clear hcz60_1
                try clear hcz60_2
                try clear hcz62_0
                try clear hcz62_1
                try clear hcz62_2
                try clear hcz64_0
                try clear hcz64_1
                try clear hcz64_2
                try clear hcz69_0
                try clear hcz69_1
                try clear hcz69_2
                try clear hcz70_0
                try clear hcz70_1
                try clear hcz70_2
                try clear hcz70_3
                try clear hcz72_0
                try clear hcz72_1
                try clear hcz72_2
                try clear hcz73_0
                try clear hcz73_1
                try clear hcz73_2
                try clear hcz73_3
                try clear hcz76_0
                try clear hcz76_1
                try clear hcz76_2
                try clear hcz83_0
                try clear hcz83_1
                try clear hcz83_2
                try clear hcz84_0
                try clear hcz84_1
                try clear hcz84_2
                try clear hcz84_3
                try clear hcz86_0
                try clear hcz86_1
                try clear hcz86_2
                try clear hcz87_0
                try clear hcz87_1
                try clear hcz87_2
                try clear hcz87_3
                try clear hcz89_0
                try clear hcz89_1
                try clear hcz89_2
                try clear hcz90_0
                try clear hcz90_1
                try clear hcz90_2
                try clear hcz90_3
                try clear hcz9_0
                try clear hcz9_1
                try clear hcz9_2
                try clear hcz9_3
                try clear hfz15_0
                try clear hfz15_1
                try clear hfz15_2
                try clear hfz24_0
                try clear hfz24_1
                try clear hfz24_2
                try clear hfz27_0
                try clear hfz27_1
                try clear hfz27_2
                try clear hfz30_0
                try clear hfz30_1
                try clear hfz30_2
                try clear hfz32_0
                try clear hfz32_1
                try clear hfz32_2
                try clear hfz34_0
                try clear hfz34_1
                try clear hfz34_2
                try clear hfz36_0
                try clear hfz36_1
                try clear hfz36_2
                try clear hfz40_0
                try clear hfz40_1
                try clear hfz40_2
                try clear hfz43_0
                try clear hfz43_1
                try clear hfz43_2
                try clear hfz46_0
                try clear hfz46_1
                try clear hfz46_2
                try clear hfz48_0
                try clear hfz48_1
                try clear hfz48_2
                try clear hfz50_0
                try clear hfz50_1
                try clear hfz50_2
                try clear hfz54_0
                try clear hfz54_1
                try clear hfz54_2
                try clear hfz57_0
                try clear hfz57_1
                try clear hfz57_2
                try clear hfz60_0
                try clear hfz60_1
                try clear hfz60_2
                try clear hfz62_0
                try clear hfz62_1
                try clear hfz62_2
                try clear hfz64_0
                try clear hfz64_1
                try clear hfz64_2
                try clear hfz69_0
                try clear hfz69_1
                try clear hfz69_2
                try clear hfz70_0
                try clear hfz70_1
                try clear hfz70_2
                try clear hfz70_3
                try clear hfz72_0
                try clear hfz72_1
                try clear hfz72_2
                try clear hfz73_0
                try clear hfz73_1
                try clear hfz73_2
                try clear hfz73_3
                try clear hfz76_0
                try clear hfz76_1
                try clear hfz76_2
                try clear hfz83_0
                try clear hfz83_1
                try clear hfz83_2
                try clear hfz84_0
                try clear hfz84_1
                try clear hfz84_2
                try clear hfz84_3
                try clear hfz86_0
                try clear hfz86_1
                try clear hfz86_2
                try clear hfz87_0
                try clear hfz87_1
                try clear hfz87_2
                try clear hfz87_3
                try clear hfz89_0
                try clear hfz89_1
                try clear hfz89_2
                try clear hfz90_0
                try clear hfz90_1
                try clear hfz90_2
                try clear hfz90_3
                try clear hfz9_0
                try clear hfz9_1
                try clear hfz9_2
                try clear hfz9_3
                try clear hx223_0
                try clear hx223_1
                try clear hx223_2
                try clear hx223_3
                try clear hx223_4
                try clear hx224_0
                try clear hx224_1
                try clear hx224_2
                try clear hx224_3
                try clear hx224_4
                try clear p2
                try clear p223
                try clear p224
                try clear q223
                try clear q224
                obtain ⟨kq, x106_103, rfl, HA, HJ103, BK219, BK220, HB⟩ := hcut
                cases kq with
                | zero => exact absurd HA.out (by simp [ladderbackref18_One.j4])
                | succ kj103 =>
                 have H := HA.out
                 clear HA
                 simp only [ladderbackref18_One.j4] at H
                 by_cases c106 : x106_103 = true
                 ·subst c106
                  have H1 : (if a2_1 < (l0_1.length : Int) then (if 0 ≤ a2_1 then (if (((rd_T37 l0_1 a2_1).f2) ≥ 2) then (some 0) else (some 8)) else (none)) else (some 8)) = some r := by rw [if_pos rfl] at H; exact H
                  clear H
                  have H := H1
                  clear H1
                  by_cases c107 : a2_1 < (l0_1.length : Int)
                  ·rw [if_pos c107] at H
                   have c107b0 : decide (a2_1 < (l0_1.length : Int)) = true := decide_eq_true c107
                   clear c107
                   by_cases c108 : 0 ≤ a2_1
                   ·rw [if_pos c108] at H
                    have c108b0 : decide (0 ≤ a2_1) = true := decide_eq_true c108
                    clear c108
                    by_cases c109 : (((rd_T37 l0_1 a2_1).f2) ≥ 2)
                    ·rw [if_pos c109] at H
                     have c109b0 : decide (2 ≤ ((rd_T37 l0_1 a2_1).f2)) = true := decide_eq_true c109
                     clear c109
                     as_aux_lemma =>
                      obtain rfl := Option.some.inj H
                      have hnb110 := NB220_219.out
                      have hnc110 := NB219_220.out
                      have hcz111_0 : wc.cell? ⟨gb220, 0, none⟩ = some (.int .i64 a2_0) := (blk_cell BK220.out 0).trans rfl
                      have hcz111_1 : wc.cell? ⟨gb220, 1, none⟩ = some (.int .i64 a2_1) := (blk_cell BK220.out 1).trans rfl
                      have hcz111_2 : wc.cell? ⟨gb220, 2, none⟩ = some (.int .i64 a2_2) := (blk_cell BK220.out 2).trans rfl
                      have hfz111_0 := blk_frozen BK220.out 0
                      have hfz111_1 := blk_frozen BK220.out 1
                      have hfz111_2 := blk_frozen BK220.out 2
                      have hcz112_0 : wc.cell? ⟨gb219, 0, none⟩ = some (.slice A0_0 l0_0.length c0_0) := (blk_cell BK219.out 0).trans rfl
                      have hcz112_1 : wc.cell? ⟨gb219, 1, none⟩ = some (.slice A0_1 l0_1.length c0_1) := (blk_cell BK219.out 1).trans rfl
                      have hcz112_2 : wc.cell? ⟨gb219, 2, none⟩ = some (.slice A0_2 l0_2.length c0_2) := (blk_cell BK219.out 2).trans rfl
                      have hcz112_3 : wc.cell? ⟨gb219, 3, none⟩ = some (.slice A0_3 l0_3.length c0_3) := (blk_cell BK219.out 3).trans rfl
                      have hfz112_0 := blk_frozen BK219.out 0
                      have hfz112_1 := blk_frozen BK219.out 1
                      have hfz112_2 := blk_frozen BK219.out 2
                      have hfz112_3 := blk_frozen BK219.out 3
                      have p228 : 0 ≤ (a2_1 : Int) := of_decide_eq_true (by first | (with_reducible assumption) | assumption)
                      have q228 : a2_1 < (l0_1.length : Int) := of_decide_eq_true (by first | (with_reducible assumption) | assumption)
                      obtain ⟨ad228, e228, hx228_0, hx228_1, hx228_2, hx228_3, hx228_4⟩ := at_T37 HR0_1.out a2_1 p228 q228
                      cases e228
                      replace hx228_0 := (HB.out.cell (World.block_lt_of_cell? w _ hx228_0)).trans hx228_0
                      replace hx228_1 := (HB.out.cell (World.block_lt_of_cell? w _ hx228_1)).trans hx228_1
                      replace hx228_2 := (HB.out.cell (World.block_lt_of_cell? w _ hx228_2)).trans hx228_2
                      replace hx228_3 := (HB.out.cell (World.block_lt_of_cell? w _ hx228_3)).trans hx228_3
                      replace hx228_4 := (HB.out.cell (World.block_lt_of_cell? w _ hx228_4)).trans hx228_4
                      replace p228 := eq_true p228
                      replace q228 := eq_true q228
                      go_wp2
                      go_ret
                      exact ⟨by first | rfl | (simp [errW_none, errW_some] <;> rfl) | (simp [*, errW_none, errW_some] <;> rfl), by repeat (first | (with_reducible first | exact HB.out | apply below_alloc | apply pw_below_drewN | apply below_drew1 | refine below_set ?_ GE219.out | refine below_set ?_ GE220.out) | exact HB.out)⟩
                    ·rw [if_neg c109] at H
                     have c109b0 : decide (2 ≤ ((rd_T37 l0_1 a2_1).f2)) = false := decide_eq_false c109
                     clear c109
                     as_aux_lemma =>
                      obtain rfl := Option.some.inj H
                      have hnb113 := NB220_219.out
                      have hnc113 := NB219_220.out
                      have hcz114_0 : wc.cell? ⟨gb220, 0, none⟩ = some (.int .i64 a2_0) := (blk_cell BK220.out 0).trans rfl
                      have hcz114_1 : wc.cell? ⟨gb220, 1, none⟩ = some (.int .i64 a2_1) := (blk_cell BK220.out 1).trans rfl
                      have hcz114_2 : wc.cell? ⟨gb220, 2, none⟩ = some (.int .i64 a2_2) := (blk_cell BK220.out 2).trans rfl
                      have hfz114_0 := blk_frozen BK220.out 0
                      have hfz114_1 := blk_frozen BK220.out 1
                      have hfz114_2 := blk_frozen BK220.out 2
                      have hcz115_0 : wc.cell? ⟨gb219, 0, none⟩ = some (.slice A0_0 l0_0.length c0_0) := (blk_cell BK219.out 0).trans rfl
                      have hcz115_1 : wc.cell? ⟨gb219, 1, none⟩ = some (.slice A0_1 l0_1.length c0_1) := (blk_cell BK219.out 1).trans rfl
                      have hcz115_2 : wc.cell? ⟨gb219, 2, none⟩ = some (.slice A0_2 l0_2.length c0_2) := (blk_cell BK219.out 2).trans rfl
                      have hcz115_3 : wc.cell? ⟨gb219, 3, none⟩ = some (.slice A0_3 l0_3.length c0_3) := (blk_cell BK219.out 3).trans rfl
                      have hfz115_0 := blk_frozen BK219.out 0
                      have hfz115_1 := blk_frozen BK219.out 1
                      have hfz115_2 := blk_frozen BK219.out 2
                      have hfz115_3 := blk_frozen BK219.out 3
                      have p228 : 0 ≤ (a2_1 : Int) := of_decide_eq_true (by first | (with_reducible assumption) | assumption)
                      have q228 : a2_1 < (l0_1.length : Int) := of_decide_eq_true (by first | (with_reducible assumption) | assumption)
                      obtain ⟨ad228, e228, hx228_0, hx228_1, hx228_2, hx228_3, hx228_4⟩ := at_T37 HR0_1.out a2_1 p228 q228
                      cases e228
                      replace hx228_0 := (HB.out.cell (World.block_lt_of_cell? w _ hx228_0)).trans hx228_0
                      replace hx228_1 := (HB.out.cell (World.block_lt_of_cell? w _ hx228_1)).trans hx228_1
                      replace hx228_2 := (HB.out.cell (World.block_lt_of_cell? w _ hx228_2)).trans hx228_2
                      replace hx228_3 := (HB.out.cell (World.block_lt_of_cell? w _ hx228_3)).trans hx228_3
                      replace hx228_4 := (HB.out.cell (World.block_lt_of_cell? w _ hx228_4)).trans hx228_4
                      replace p228 := eq_true p228
                      replace q228 := eq_true q228
                      go_wp2
                      go_ret
                      exact ⟨by first | rfl | (simp [errW_none, errW_some] <;> rfl) | (simp [*, errW_none, errW_some] <;> rfl), by repeat (first | (with_reducible first | exact HB.out | apply below_alloc | apply pw_below_drewN | apply below_drew1 | refine below_set ?_ GE219.out | refine below_set ?_ GE220.out) | exact HB.out)⟩
                   ·rw [if_neg c108] at H
                    exact absurd H (by simp)
                  ·rw [if_neg c107] at H
                   have c107b0 : decide (a2_1 < (l0_1.length : Int)) = false := decide_eq_false c107
                   clear c107
                   as_aux_lemma =>
                    obtain rfl := Option.some.inj H
                    have hnb116 := NB220_219.out
                    have hnc116 := NB219_220.out
                    have hcz117_0 : wc.cell? ⟨gb220, 0, none⟩ = some (.int .i64 a2_0) := (blk_cell BK220.out 0).trans rfl
                    have hcz117_1 : wc.cell? ⟨gb220, 1, none⟩ = some (.int .i64 a2_1) := (blk_cell BK220.out 1).trans rfl
                    have hcz117_2 : wc.cell? ⟨gb220, 2, none⟩ = some (.int .i64 a2_2) := (blk_cell BK220.out 2).trans rfl
                    have hfz117_0 := blk_frozen BK220.out 0
                    have hfz117_1 := blk_frozen BK220.out 1
                    have hfz117_2 := blk_frozen BK220.out 2
                    have hcz118_0 : wc.cell? ⟨gb219, 0, none⟩ = some (.slice A0_0 l0_0.length c0_0) := (blk_cell BK219.out 0).trans rfl
                    have hcz118_1 : wc.cell? ⟨gb219, 1, none⟩ = some (.slice A0_1 l0_1.length c0_1) := (blk_cell BK219.out 1).trans rfl
                    have hcz118_2 : wc.cell? ⟨gb219, 2, none⟩ = some (.slice A0_2 l0_2.length c0_2) := (blk_cell BK219.out 2).trans rfl
                    have hcz118_3 : wc.cell? ⟨gb219, 3, none⟩ = some (.slice A0_3 l0_3.length c0_3) := (blk_cell BK219.out 3).trans rfl
                    have hfz118_0 := blk_frozen BK219.out 0
                    have hfz118_1 := blk_frozen BK219.out 1
                    have hfz118_2 := blk_frozen BK219.out 2
                    have hfz118_3 := blk_frozen BK219.out 3
                    go_wp2
                    go_ret
                    exact ⟨by first | rfl | (simp [errW_none, errW_some] <;> rfl) | (simp [*, errW_none, errW_some] <;> rfl), by repeat (first | (with_reducible first | exact HB.out | apply below_alloc | apply pw_below_drewN | apply below_drew1 | refine below_set ?_ GE219.out | refine below_set ?_ GE220.out) | exact HB.out)⟩
                 ·replace c106 := Bool.eq_false_iff.mpr c106
                  subst c106
                  have H1 : (if a2_0 = 33 then (if a2_1 > 0 then (if (a2_1 < (l0_3.length : Int)) then (some 0) else (some 8)) else (some 8)) else (if a2_0 = 35 then (ladderbackref18_One.j5 kj103 (a2_0 == 35) l0_0 l0_1 l0_2 l0_3 a2_0 a2_1 a2_2) else (if a2_0 = 36 then (ladderbackref18_One.j5 kj103 (a2_0 == 36) l0_0 l0_1 l0_2 l0_3 a2_0 a2_1 a2_2) else (ladderbackref18_One.j5 kj103 (a2_0 == 37) l0_0 l0_1 l0_2 l0_3 a2_0 a2_1 a2_2)))) = some r := by rw [if_neg (show ¬ (false = true) by decide)] at H; exact H
                  clear H
                  have H := H1
                  clear H1
                  by_cases c119 : a2_0 = 33
                  ·rw [if_pos c119] at H
                   have c119b0 : (a2_0 == 33) = true := beq_iff_eq.mpr c119
                   have c119b1 : (a2_0 != 33) = false := bne_eq_false_iff_eq.mpr c119
                   clear c119
                   by_cases c120 : a2_1 > 0
                   ·rw [if_pos c120] at H
                    have c120b0 : decide (0 < a2_1) = true := decide_eq_true c120
                    clear c120
                    by_cases c121 : (a2_1 < (l0_3.length : Int))
                    ·rw [if_pos c121] at H
                     have c121b0 : decide (a2_1 < (l0_3.length : Int)) = true := decide_eq_true c121
                     clear c121
                     as_aux_lemma =>
                      obtain rfl := Option.some.inj H
                      have hnb122 := NB220_219.out
                      have hnc122 := NB219_220.out
                      have hcz123_0 : wc.cell? ⟨gb220, 0, none⟩ = some (.int .i64 a2_0) := (blk_cell BK220.out 0).trans rfl
                      have hcz123_1 : wc.cell? ⟨gb220, 1, none⟩ = some (.int .i64 a2_1) := (blk_cell BK220.out 1).trans rfl
                      have hcz123_2 : wc.cell? ⟨gb220, 2, none⟩ = some (.int .i64 a2_2) := (blk_cell BK220.out 2).trans rfl
                      have hfz123_0 := blk_frozen BK220.out 0
                      have hfz123_1 := blk_frozen BK220.out 1
                      have hfz123_2 := blk_frozen BK220.out 2
                      have hcz124_0 : wc.cell? ⟨gb219, 0, none⟩ = some (.slice A0_0 l0_0.length c0_0) := (blk_cell BK219.out 0).trans rfl
                      have hcz124_1 : wc.cell? ⟨gb219, 1, none⟩ = some (.slice A0_1 l0_1.length c0_1) := (blk_cell BK219.out 1).trans rfl
                      have hcz124_2 : wc.cell? ⟨gb219, 2, none⟩ = some (.slice A0_2 l0_2.length c0_2) := (blk_cell BK219.out 2).trans rfl
                      have hcz124_3 : wc.cell? ⟨gb219, 3, none⟩ = some (.slice A0_3 l0_3.length c0_3) := (blk_cell BK219.out 3).trans rfl
                      have hfz124_0 := blk_frozen BK219.out 0
                      have hfz124_1 := blk_frozen BK219.out 1
                      have hfz124_2 := blk_frozen BK219.out 2
                      have hfz124_3 := blk_frozen BK219.out 3
                      go_wp2
                      go_ret
                      exact ⟨by first | rfl | (simp [errW_none, errW_some] <;> rfl) | (simp [*, errW_none, errW_some] <;> rfl), by repeat (first | (with_reducible first | exact HB.out | apply below_alloc | apply pw_below_drewN | apply below_drew1 | refine below_set ?_ GE219.out | refine below_set ?_ GE220.out) | exact HB.out)⟩
                    ·rw [if_neg c121] at H
                     have c121b0 : decide (a2_1 < (l0_3.length : Int)) = false := decide_eq_false c121
                     clear c121
                     as_aux_lemma =>
                      obtain rfl := Option.some.inj H
                      have hnb125 := NB220_219.out
                      have hnc125 := NB219_220.out
                      have hcz126_0 : wc.cell? ⟨gb220, 0, none⟩ = some (.int .i64 a2_0) := (blk_cell BK220.out 0).trans rfl
                      have hcz126_1 : wc.cell? ⟨gb220, 1, none⟩ = some (.int .i64 a2_1) := (blk_cell BK220.out 1).trans rfl
                      have hcz126_2 : wc.cell? ⟨gb220, 2, none⟩ = some (.int .i64 a2_2) := (blk_cell BK220.out 2).trans rfl
                      have hfz126_0 := blk_frozen BK220.out 0
                      have hfz126_1 := blk_frozen BK220.out 1
                      have hfz126_2 := blk_frozen BK220.out 2
                      have hcz127_0 : wc.cell? ⟨gb219, 0, none⟩ = some (.slice A0_0 l0_0.length c0_0) := (blk_cell BK219.out 0).trans rfl
                      have hcz127_1 : wc.cell? ⟨gb219, 1, none⟩ = some (.slice A0_1 l0_1.length c0_1) := (blk_cell BK219.out 1).trans rfl
                      have hcz127_2 : wc.cell? ⟨gb219, 2, none⟩ = some (.slice A0_2 l0_2.length c0_2) := (blk_cell BK219.out 2).trans rfl
                      have hcz127_3 : wc.cell? ⟨gb219, 3, none⟩ = some (.slice A0_3 l0_3.length c0_3) := (blk_cell BK219.out 3).trans rfl
                      have hfz127_0 := blk_frozen BK219.out 0
                      have hfz127_1 := blk_frozen BK219.out 1
                      have hfz127_2 := blk_frozen BK219.out 2
                      have hfz127_3 := blk_frozen BK219.out 3
                      go_wp2
                      go_ret
                      exact ⟨by first | rfl | (simp [errW_none, errW_some] <;> rfl) | (simp [*, errW_none, errW_some] <;> rfl), by repeat (first | (with_reducible first | exact HB.out | apply below_alloc | apply pw_below_drewN | apply below_drew1 | refine below_set ?_ GE219.out | refine below_set ?_ GE220.out) | exact HB.out)⟩
                   ·rw [if_neg c120] at H
                    have c120b0 : decide (0 < a2_1) = false := decide_eq_false c120
                    clear c120
                    as_aux_lemma =>
                     obtain rfl := Option.some.inj H
                     have hnb128 := NB220_219.out
                     have hnc128 := NB219_220.out
                     have hcz129_0 : wc.cell? ⟨gb220, 0, none⟩ = some (.int .i64 a2_0) := (blk_cell BK220.out 0).trans rfl
                     have hcz129_1 : wc.cell? ⟨gb220, 1, none⟩ = some (.int .i64 a2_1) := (blk_cell BK220.out 1).trans rfl
                     have hcz129_2 : wc.cell? ⟨gb220, 2, none⟩ = some (.int .i64 a2_2) := (blk_cell BK220.out 2).trans rfl
                     have hfz129_0 := blk_frozen BK220.out 0
                     have hfz129_1 := blk_frozen BK220.out 1
                     have hfz129_2 := blk_frozen BK220.out 2
                     go_wp2
                     go_ret
                     exact ⟨by first | rfl | (simp [errW_none, errW_some] <;> rfl) | (simp [*, errW_none, errW_some] <;> rfl), by repeat (first | (with_reducible first | exact HB.out | apply below_alloc | apply pw_below_drewN | apply below_drew1 | refine below_set ?_ GE219.out | refine below_set ?_ GE220.out) | exact HB.out)⟩
                  ·rw [if_neg c119] at H
                   have c119b0 : (a2_0 == 33) = false := beq_eq_false_iff_ne.mpr c119
                   have c119b1 : (a2_0 != 33) = true := bne_iff_ne.mpr c119
                   have HC130 := Aside0.mk H
                   clear H
                   go_upto_if 138 with (fail)
                   go_cut [138] (fun v138 wc => ∃ (kq : Nat) (x138_129 : Bool), v138 = .bool x138_129 ∧ Aside0 (ladderbackref18_One.j5 kq x138_129 l0_0 l0_1 l0_2 l0_3 a2_0 a2_1 a2_2 = some r) ∧ Aside0 (kq ≤ kj103) ∧ Aside0 (wc.heap[gb219]? = some (.cells #[(.slice A0_0 l0_0.length c0_0), (.slice A0_1 l0_1.length c0_1), (.slice A0_2 l0_2.length c0_2), (.slice A0_3 l0_3.length c0_3)] 27 (0, 0))) ∧ Aside0 (wc.heap[gb220]? = some (.cells #[.int .i64 a2_0, .int .i64 a2_1, .int .i64 a2_2] 29 (0, 0))) ∧ Aside0 (Below w.heap.size w wc))
                   case first =>
                    have H := HC130.out
                    clear HC130
                    by_cases c131 : a2_0 = 35
                    ·rw [if_pos c131] at H
                     have c131b0 : (a2_0 == 35) = true := beq_iff_eq.mpr c131
                     have c131b1 : (a2_0 != 35) = false := bne_eq_false_iff_eq.mpr c131
                     clear c131
                     (first | rw [c131b0] | (simp only [i64_w, i32_w]; rw [c131b0]) | skip)
                     as_aux_lemma =>
                      have H' := Aside0.mk H
                      clear H
                      go_wp2
                      go_meet
                      case rel => exact ⟨_, ((a2_0 == 35)), (by first | rfl | (simp; done) | (simp [*]; done)), H', ⟨by have := HJ3.out; have := HJ12.out; have := HJ73.out; have := HJ90.out; have := HJ103.out; first | omega | exact Nat.le_refl _⟩, ⟨by (with_reducible repeat (first | refine blk_drewN ?_ _ | refine blk_drew ?_ | refine blk_alloc ?_ _)); exact BK219.out⟩, ⟨by (with_reducible repeat (first | refine blk_drewN ?_ _ | refine blk_drew ?_ | refine blk_alloc ?_ _)); exact BK220.out⟩, ⟨by repeat (first | (with_reducible first | exact HB.out | apply below_alloc | apply pw_below_drewN | apply below_drew1 | refine below_set ?_ GE219.out | refine below_set ?_ GE220.out) | exact HB.out)⟩⟩
                    ·rw [if_neg c131] at H
                     have c131b0 : (a2_0 == 35) = false := beq_eq_false_iff_ne.mpr c131
                     have c131b1 : (a2_0 != 35) = true := bne_iff_ne.mpr c131
                     (first | rw [c131b0] | (simp only [i64_w, i32_w]; rw [c131b0]) | skip)
                     by_cases c132 : a2_0 = 36
                     ·rw [if_pos c132] at H
                      have c132b0 : (a2_0 == 36) = true := beq_iff_eq.mpr c132
                      have c132b1 : (a2_0 != 36) = false := bne_eq_false_iff_eq.mpr c132
                      clear c132
                      as_aux_lemma =>
                       have H' := Aside0.mk H
                       clear H
                       go_wp2
                       go_meet
                       case rel => exact ⟨_, ((a2_0 == 36)), (by first | rfl | (simp; done) | (simp [*]; done)), H', ⟨by have := HJ3.out; have := HJ12.out; have := HJ73.out; have := HJ90.out; have := HJ103.out; first | omega | exact Nat.le_refl _⟩, ⟨by (with_reducible repeat (first | refine blk_drewN ?_ _ | refine blk_drew ?_ | refine blk_alloc ?_ _)); exact BK219.out⟩, ⟨by (with_reducible repeat (first | refine blk_drewN ?_ _ | refine blk_drew ?_ | refine blk_alloc ?_ _)); exact BK220.out⟩, ⟨by repeat (first | (with_reducible first | exact HB.out | apply below_alloc | apply pw_below_drewN | apply below_drew1 | refine below_set ?_ GE219.out | refine below_set ?_ GE220.out) | exact HB.out)⟩⟩
                     ·rw [if_neg c132] at H
                      have c132b0 : (a2_0 == 36) = false := beq_eq_false_iff_ne.mpr c132
                      have c132b1 : (a2_0 != 36) = true := bne_iff_ne.mpr c132
                      as_aux_lemma =>
                       have H' := Aside0.mk H
                       clear H
                       go_wp2
                       go_meet
                       case rel => exact ⟨_, ((a2_0 == 37)), (by first | rfl | (simp; done) | (simp [*]; done)), H', ⟨by have := HJ3.out; have := HJ12.out; have := HJ73.out; have := HJ90.out; have := HJ103.out; first | omega | exact Nat.le_refl _⟩, ⟨by (with_reducible repeat (first | refine blk_drewN ?_ _ | refine blk_drew ?_ | refine blk_alloc ?_ _)); exact BK219.out⟩, ⟨by (with_reducible repeat (first | refine blk_drewN ?_ _ | refine blk_drew ?_ | refine blk_alloc ?_ _)); exact BK220.out⟩, ⟨by repeat (first | (with_reducible first | exact HB.out | apply below_alloc | apply pw_below_drewN | apply below_drew1 | refine below_set ?_ GE219.out | refine below_set ?_ GE220.out) | exact HB.out)⟩⟩
                   case rest =>
                    clear HC130
                    try clear c1
                    try clear c2
                    try clear p2
                    try clear q2
                    try clear hx2
                    try clear c3
                    try clear c8
                    try clear c9
                    try clear c10
                    try clear c11
                    try clear c12
                    try clear c13
                    try clear c22
                    try clear p22
                    try clear q22
                    try clear hx22
                    try clear c31
                    try clear c80
                    try clear c80b0
                    try clear c81
                    try clear c81b0
                    try clear c82
                    try clear c85
                    try clear c88
                    try clear c92
                    try clear c92b0
                    try clear c92b1
                    try clear c93
                    try clear c94
                    try clear c94b0
                    try clear c95
                    try clear c95b0
                    try clear c97
                    try clear c97b0
                    try clear c105
                    try clear c105b0
                    try clear c105b1
                    try clear c106
                    try clear c107
                    try clear c107b0
                    try clear c108
                    try clear c108b0
                    try clear c109
                    try clear c109b0
                    try clear c110
                    try clear c113
                    try clear c116
                    try clear c119
                    try clear c119b0
                    try clear c119b1
                    try clear c120
                    try clear c120b0
                    try clear c121
                    try clear c121b0
                    try clear c122
                    try clear c125
                    try clear c128
                    try clear c131
                    try clear c131b0
                    try clear c131b1
                    try clear c132
                    try clear c132b0
                    try clear c132b1
                    try clear hcz111_0
                    try clear hcz111_1
                    try clear hcz111_2
                    try clear hcz112_0
                    try clear hcz112_1
                    try clear hcz112_2
                    try clear hcz112_3
                    try clear hcz114_0
                    try clear hcz114_1
                    try clear hcz114_2
                    try clear hcz115_0
                    try clear hcz115_1
                    try clear hcz115_2
                    try clear hcz115_3
                    try clear hcz117_0
                    try clear hcz117_1
                    try clear hcz117_2
                    try clear hcz118_0
                    try clear hcz118_1
                    try clear hcz118_2
                    try clear hcz118_3
                    try clear hcz123_0
                    try clear hcz123_1
                    try clear hcz123_2
                    try clear hcz124_0
                    try clear hcz124_1
                    try clear hcz124_2
                    try clear hcz124_3
                    try clear hcz126_0
                    try clear hcz126_1
                    try clear hcz126_2
                    try clear hcz127_0
                    try clear hcz127_1
                    try clear hcz127_2
                    try clear hcz127_3
                    try clear hcz129_0
                    try clear hcz129_1
                    try clear hcz129_2
                    try clear hcz15_0
                    try clear hcz15_1
                    try clear hcz15_2
                    try clear hcz24_0
                    try clear hcz24_1
                    try clear hcz24_2
                    try clear hcz27_0
                    try clear hcz27_1
                    try clear hcz27_2
                    try clear hcz30_0
                    try clear hcz30_1
                    try clear hcz30_2
                    try clear hcz32_0
                    try clear hcz32_1
                    try clear hcz32_2
                    try clear hcz34_0
                    try clear hcz34_1
                    try clear hcz34_2
                    try clear hcz36_0
                    try clear hcz36_1
                    try clear hcz36_2
                    try clear hcz40_0
                    try clear hcz40_1
                    try clear hcz40_2
                    try clear hcz43_0
                    try clear hcz43_1
                    try clear hcz43_2
                    try clear hcz46_0
                    try clear hcz46_1
                    try clear hcz46_2
                    try clear hcz48_0
                    try clear hcz48_1
                    try clear hcz48_2
                    try clear hcz50_0
                    try clear hcz50_1
                    try clear hcz50_2
                    try clear hcz54_0
                    try clear hcz54_1
                    try clear hcz54_2
                    try clear hcz57_0
                    try clear hcz57_1
                    try clear hcz57_2
                    try clear hcz60_0
                    try clear hcz60_1
                    try clear hcz60_2
                    try clear hcz62_0
                    try clear hcz62_1
                    try clear hcz62_2
                    try clear hcz64_0
                    try clear hcz64_1
                    try clear hcz64_2
                    try clear hcz69_0
                    try clear hcz69_1
                    try clear hcz69_2
                    try clear hcz70_0
                    try clear hcz70_1
                    try clear hcz70_2
                    try clear hcz70_3
                    try clear hcz72_0
                    try clear hcz72_1
                    try clear hcz72_2
                    try clear hcz73_0
                    try clear hcz73_1
                    try clear hcz73_2
                    try clear hcz73_3
                    try clear hcz76_0
                    try clear hcz76_1
                    try clear hcz76_2
                    try clear hcz83_0
                    try clear hcz83_1
                    try clear hcz83_2
                    try clear hcz84_0
                    try clear hcz84_1
                    try clear hcz84_2
                    try clear hcz84_3
                    try clear hcz86_0
                    try clear hcz86_1
                    try clear hcz86_2
                    try clear hcz87_0
                    try clear hcz87_1
                    try clear hcz87_2
                    try clear hcz87_3
                    try clear hcz89_0
                    try clear hcz89_1
                    try clear hcz89_2
                    try clear hcz90_0
                    try clear hcz90_1
                    try clear hcz90_2
                    try clear hcz90_3
                    try clear hcz9_0
                    try clear hcz9_1
                    try clear hcz9_2
                    try clear hcz9_3
                    try clear hfz111_0
                    try clear hfz111_1
                    try clear hfz111_2
                    try clear hfz112_0
                    try clear hfz112_1
                    try clear hfz112_2
                    try clear hfz112_3
                    try clear hfz114_0
                    try clear hfz114_1
                    try clear hfz114_2
                    try clear hfz115_0
                    try clear hfz115_1
                    try clear hfz115_2
                    try clear hfz115_3
                    try clear hfz117_0
                    try clear hfz117_1
                    try clear hfz117_2
                    try clear hfz118_0
                    try clear hfz118_1
                    try clear hfz118_2
                    try clear hfz118_3
                    try clear hfz123_0
                    try clear hfz123_1
                    try clear hfz123_2
                    try clear hfz124_0
                    try clear hfz124_1
                    try clear hfz124_2
                    try clear hfz124_3
                    try clear hfz126_0
                    try clear hfz126_1
                    try clear hfz126_2
                    try clear hfz127_0
                    try clear hfz127_1
                    try clear hfz127_2
                    try clear hfz127_3
                    try clear hfz129_0
                    try clear hfz129_1
                    try clear hfz129_2
                    try clear hfz15_0
                    try clear hfz15_1
                    try clear hfz15_2
                    try clear hfz24_0
                    try clear hfz24_1
                    try clear hfz24_2
                    try clear hfz27_0
                    try clear hfz27_1
                    try clear hfz27_2
                    try clear hfz30_0
                    try clear hfz30_1
                    try clear hfz30_2
                    try clear hfz32_0
                    try clear hfz32_1
                    try clear hfz32_2
                    try clear hfz34_0
                    try clear hfz34_1
                    try clear hfz34_2
                    try clear hfz36_0
                    try clear hfz36_1
                    try clear hfz36_2
                    try clear hfz40_0
                    try clear hfz40_1
                    try clear hfz40_2
                    try clear hfz43_0
                    try clear hfz43_1
                    try clear hfz43_2
                    try clear hfz46_0
                    try clear hfz46_1
                    try clear hfz46_2
                    try clear hfz48_0
                    try clear hfz48_1
                    try clear hfz48_2
                    try clear hfz50_0
                    try clear hfz50_1
                    try clear hfz50_2
                    try clear hfz54_0
                    try clear hfz54_1
                    try clear hfz54_2
                    try clear hfz57_0
                    try clear hfz57_1
                    try clear hfz57_2
                    try clear hfz60_0
                    try clear hfz60_1
                    try clear hfz60_2
                    try clear hfz62_0
                    try clear hfz62_1
                    try clear hfz62_2
                    try clear hfz64_0
                    try clear hfz64_1
                    try clear hfz64_2
                    try clear hfz69_0
                    try clear hfz69_1
                    try clear hfz69_2
                    try clear hfz70_0
                    try clear hfz70_1
                    try clear hfz70_2
                    try clear hfz70_3
                    try clear hfz72_0
                    try clear hfz72_1
                    try clear hfz72_2
                    try clear hfz73_0
                    try clear hfz73_1
                    try clear hfz73_2
                    try clear hfz73_3
                    try clear hfz76_0
                    try clear hfz76_1
                    try clear hfz76_2
                    try clear hfz83_0
                    try clear hfz83_1
                    try clear hfz83_2
                    try clear hfz84_0
                    try clear hfz84_1
                    try clear hfz84_2
                    try clear hfz84_3
                    try clear hfz86_0
                    try clear hfz86_1
                    try clear hfz86_2
                    try clear hfz87_0
                    try clear hfz87_1
                    try clear hfz87_2
                    try clear hfz87_3
                    try clear hfz89_0
                    try clear hfz89_1
                    try clear hfz89_2
                    try clear hfz90_0
                    try clear hfz90_1
                    try clear hfz90_2
                    try clear hfz90_3
                    try clear hfz9_0
                    try clear hfz9_1
                    try clear hfz9_2
                    try clear hfz9_3
                    try clear hx223_0
                    try clear hx223_1
                    try clear hx223_2
                    try clear hx223_3
                    try clear hx223_4
                    try clear hx224_0
                    try clear hx224_1
                    try clear hx224_2
                    try clear hx224_3
                    try clear hx224_4
                    try clear hx228_0
                    try clear hx228_1
                    try clear hx228_2
                    try clear hx228_3
                    try clear hx228_4
                    try clear p2
                    try clear p22
                    try clear p223
                    try clear p224
                    try clear p228
                    try clear q2
                    try clear q22
                    try clear q223
                    try clear q224
                    try clear q228
                    obtain ⟨kq, x138_129, rfl, HA, HJ129, BK219, BK220, HB⟩ := hcut
                    cases kq with
                    | zero => exact absurd HA.out (by simp [ladderbackref18_One.j5])
                    | succ kj129 =>
                     have H := HA.out
                     clear HA
                     simp only [ladderbackref18_One.j5] at H
                     by_cases c133 : x138_129 = true
                     ·subst c133
                      have H1 : (if a2_1 < (l0_2.length : Int) then (ladderbackref18_One.j6 kj129 (decide (a2_1 < (l0_2.length : Int))) (a2_0 != 36) l0_0 l0_1 l0_2 l0_3 a2_0 a2_1 a2_2) else (ladderbackref18_One.j6 kj129 (decide (a2_1 < (l0_2.length : Int))) false l0_0 l0_1 l0_2 l0_3 a2_0 a2_1 a2_2)) = some r := by rw [if_pos rfl] at H; exact H
                      clear H
                      have H := H1
                      clear H1
                      have HC134 := Aside0.mk H
                      clear H
                      have hnb135 := NB220_219.out
                      have hnc135 := NB219_220.out
                      have hcz136_0 : wc.cell? ⟨gb220, 0, none⟩ = some (.int .i64 a2_0) := (blk_cell BK220.out 0).trans rfl
                      have hcz136_1 : wc.cell? ⟨gb220, 1, none⟩ = some (.int .i64 a2_1) := (blk_cell BK220.out 1).trans rfl
                      have hcz136_2 : wc.cell? ⟨gb220, 2, none⟩ = some (.int .i64 a2_2) := (blk_cell BK220.out 2).trans rfl
                      have hfz136_0 := blk_frozen BK220.out 0
                      have hfz136_1 := blk_frozen BK220.out 1
                      have hfz136_2 := blk_frozen BK220.out 2
                      have hcz137_0 : wc.cell? ⟨gb219, 0, none⟩ = some (.slice A0_0 l0_0.length c0_0) := (blk_cell BK219.out 0).trans rfl
                      have hcz137_1 : wc.cell? ⟨gb219, 1, none⟩ = some (.slice A0_1 l0_1.length c0_1) := (blk_cell BK219.out 1).trans rfl
                      have hcz137_2 : wc.cell? ⟨gb219, 2, none⟩ = some (.slice A0_2 l0_2.length c0_2) := (blk_cell BK219.out 2).trans rfl
                      have hcz137_3 : wc.cell? ⟨gb219, 3, none⟩ = some (.slice A0_3 l0_3.length c0_3) := (blk_cell BK219.out 3).trans rfl
                      have hfz137_0 := blk_frozen BK219.out 0
                      have hfz137_1 := blk_frozen BK219.out 1
                      have hfz137_2 := blk_frozen BK219.out 2
                      have hfz137_3 := blk_frozen BK219.out 3
                      go_upto_region 27 with (fail)
                      go_cut [7, 153] (fun v7_ v153 wc => ∃ (kq : Nat) (x153_133 : Bool), (v7_ = .bool (decide (a2_1 < (l0_2.length : Int))) ∧ v153 = .bool x153_133) ∧ Aside0 (ladderbackref18_One.j6 kq (decide (a2_1 < (l0_2.length : Int))) x153_133 l0_0 l0_1 l0_2 l0_3 a2_0 a2_1 a2_2 = some r) ∧ Aside0 (kq ≤ kj129) ∧ Aside0 (wc.heap[gb219]? = some (.cells #[(.slice A0_0 l0_0.length c0_0), (.slice A0_1 l0_1.length c0_1), (.slice A0_2 l0_2.length c0_2), (.slice A0_3 l0_3.length c0_3)] 27 (0, 0))) ∧ Aside0 (wc.heap[gb220]? = some (.cells #[.int .i64 a2_0, .int .i64 a2_1, .int .i64 a2_2] 29 (0, 0))) ∧ Aside0 (Below w.heap.size w wc))
                      case first =>
                       have H := HC134.out
                       clear HC134
                       by_cases c138 : a2_1 < (l0_2.length : Int)
                       ·rw [if_pos c138] at H
                        have c138b0 : decide (a2_1 < (l0_2.length : Int)) = true := decide_eq_true c138
                        clear c138
                        (first | rw [c138b0] | (simp only [i64_w, i32_w]; rw [c138b0]) | skip)
                        as_aux_lemma =>
                         have H' := Aside0.mk H
                         clear H
                         have hnb139 := NB220_219.out
                         have hnc139 := NB219_220.out
                         have hcz140_0 : wc.cell? ⟨gb220, 0, none⟩ = some (.int .i64 a2_0) := (blk_cell BK220.out 0).trans rfl
                         have hcz140_1 : wc.cell? ⟨gb220, 1, none⟩ = some (.int .i64 a2_1) := (blk_cell BK220.out 1).trans rfl
                         have hcz140_2 : wc.cell? ⟨gb220, 2, none⟩ = some (.int .i64 a2_2) := (blk_cell BK220.out 2).trans rfl
                         have hfz140_0 := blk_frozen BK220.out 0
                         have hfz140_1 := blk_frozen BK220.out 1
                         have hfz140_2 := blk_frozen BK220.out 2
                         go_wp2
                         go_meet
                         case rel => exact ⟨_, ((a2_0 != 36)), (by first | rfl | (simp; done) | (simp [*]; done)), H', ⟨by have := HJ3.out; have := HJ12.out; have := HJ73.out; have := HJ90.out; have := HJ103.out; have := HJ129.out; first | omega | exact Nat.le_refl _⟩, ⟨by (with_reducible repeat (first | refine blk_drewN ?_ _ | refine blk_drew ?_ | refine blk_alloc ?_ _)); exact BK219.out⟩, ⟨by (with_reducible repeat (first | refine blk_drewN ?_ _ | refine blk_drew ?_ | refine blk_alloc ?_ _)); exact BK220.out⟩, ⟨by repeat (first | (with_reducible first | exact HB.out | apply below_alloc | apply pw_below_drewN | apply below_drew1 | refine below_set ?_ GE219.out | refine below_set ?_ GE220.out) | exact HB.out)⟩⟩
                       ·rw [if_neg c138] at H
                        have c138b0 : decide (a2_1 < (l0_2.length : Int)) = false := decide_eq_false c138
                        clear c138
                        (first | rw [c138b0] | (simp only [i64_w, i32_w]; rw [c138b0]) | skip)
                        as_aux_lemma =>
                         have H' := Aside0.mk H
                         clear H
                         go_wp2
                         go_meet
                         case rel => exact ⟨_, (false), (by first | rfl | (simp; done) | (simp [*]; done)), H', ⟨by have := HJ3.out; have := HJ12.out; have := HJ73.out; have := HJ90.out; have := HJ103.out; have := HJ129.out; first | omega | exact Nat.le_refl _⟩, ⟨by (with_reducible repeat (first | refine blk_drewN ?_ _ | refine blk_drew ?_ | refine blk_alloc ?_ _)); exact BK219.out⟩, ⟨by (with_reducible repeat (first | refine blk_drewN ?_ _ | refine blk_drew ?_ | refine blk_alloc ?_ _)); exact BK220.out⟩, ⟨by repeat (first | (with_reducible first | exact HB.out | apply below_alloc | apply pw_below_drewN | apply below_drew1 | refine below_set ?_ GE219.out | refine below_set ?_ GE220.out) | exact HB.out)⟩⟩
                      case rest =>
                       clear HC134
                       try clear c1
                       try clear c2
                       try clear p2
                       try clear q2
                       try clear hx2
                       try clear c3
                       try clear c8
                       try clear c9
                       try clear c10
                       try clear c11
                       try clear c12
                       try clear c13
                       try clear c22
                       try clear p22
                       try clear q22
                       try clear hx22
                       try clear c31
                       try clear c80
                       try clear c80b0
                       try clear c81
                       try clear c81b0
                       try clear c82
                       try clear c85
                       try clear c88
                       try clear c92
                       try clear c92b0
                       try clear c92b1
                       try clear c93
                       try clear c94
                       try clear c94b0
                       try clear c95
                       try clear c95b0
                       try clear c97
                       try clear c97b0
                       try clear c105
                       try clear c105b0
                       try clear c105b1
                       try clear c106
                       try clear c107
                       try clear c107b0
                       try clear c108
                       try clear c108b0
                       try clear c109
                       try clear c109b0
                       try clear c110
                       try clear c113
                       try clear c116
                       try clear c119
                       try clear c119b0
                       try clear c119b1
                       try clear c120
                       try clear c120b0
                       try clear c121
                       try clear c121b0
                       try clear c122
                       try clear c125
                       try clear c128
                       try clear c131
                       try clear c131b0
                       try clear c131b1
                       try clear c132
                       try clear c132b0
                       try clear c132b1
                       try clear c133
                       try clear c135
                       try clear c138
                       try clear c138b0
                       try clear c139
                       try clear hcz111_0
                       try clear hcz111_1
                       try clear hcz111_2
                       try clear hcz112_0
                       try clear hcz112_1
                       try clear hcz112_2
                       try clear hcz112_3
                       try clear hcz114_0
                       try clear hcz114_1
                       try clear hcz114_2
                       try clear hcz115_0
                       try clear hcz115_1
                       try clear hcz115_2
                       try clear hcz115_3
                       try clear hcz117_0
                       try clear hcz117_1
                       try clear hcz117_2
                       try clear hcz118_0
                       try clear hcz118_1
                       try clear hcz118_2
                       try clear hcz118_3
                       try clear hcz123_0
                       try clear hcz123_1
                       try clear hcz123_2
                       try clear hcz124_0
                       try clear hcz124_1
                       try clear hcz124_2
                       try clear hcz124_3
                       try clear hcz126_0
                       try clear hcz126_1
                       try clear hcz126_2
                       try clear hcz127_0
                       try clear hcz127_1
                       try clear hcz127_2
                       try clear hcz127_3
                       try clear hcz129_0
                       try clear hcz129_1
                       try clear hcz129_2
                       try clear hcz136_0
                       try clear hcz136_1
                       try clear hcz136_2
                       try clear hcz137_0
                       try clear hcz137_1
                       try clear hcz137_2
                       try clear hcz137_3
                       try clear hcz140_0
                       try clear hcz140_1
                       try clear hcz140_2
                       try clear hcz15_0
                       try clear hcz15_1
                       try clear hcz15_2
                       try clear hcz24_0
                       try clear hcz24_1
                       try clear hcz24_2
                       try clear hcz27_0
                       try clear hcz27_1
                       try clear hcz27_2
                       try clear hcz30_0
                       try clear hcz30_1
                       try clear hcz30_2
                       try clear hcz32_0
                       try clear hcz32_1
                       try clear hcz32_2
                       try clear hcz34_0
                       try clear hcz34_1
                       try clear hcz34_2
                       try clear hcz36_0
                       try clear hcz36_1
                       try clear hcz36_2
                       try clear hcz40_0
                       try clear hcz40_1
                       try clear hcz40_2
                       try clear hcz43_0
                       try clear hcz43_1
                       try clear hcz43_2
                       try clear hcz46_0
                       try clear hcz46_1
                       try clear hcz46_2
                       try clear hcz48_0
                       try clear hcz48_1
                       try clear hcz48_2
                       try clear hcz50_0
                       try clear hcz50_1
                       try clear hcz50_2
                       try clear hcz54_0
                       try clear hcz54_1
                       try clear hcz54_2
                       try clear hcz57_0
                       try clear hcz57_1
                       try clear hcz57_2
                       try clear hcz60_0
                       try clear hcz60_1
                       try clear hcz60_2
                       try clear hcz62_0
                       try clear hcz62_1
                       try clear hcz62_2
                       try clear hcz64_0
                       try clear hcz64_1
                       try clear hcz64_2
                       try clear hcz69_0
                       try clear hcz69_1
                       try clear hcz69_2
                       try clear hcz70_0
                       try clear hcz70_1
                       try clear hcz70_2
                       try clear hcz70_3
                       try clear hcz72_0
                       try clear hcz72_1
                       try clear hcz72_2
                       try clear hcz73_0
                       try clear hcz73_1
                       try clear hcz73_2
                       try clear hcz73_3
                       try clear hcz76_0
                       try clear hcz76_1
                       try clear hcz76_2
                       try clear hcz83_0
                       try clear hcz83_1
                       try clear hcz83_2
                       try clear hcz84_0
                       try clear hcz84_1
                       try clear hcz84_2
                       try clear hcz84_3
                       try clear hcz86_0
                       try clear hcz86_1
                       try clear hcz86_2
                       try clear hcz87_0
                       try clear hcz87_1
                       try clear hcz87_2
                       try clear hcz87_3
                       try clear hcz89_0
                       try clear hcz89_1
                       try clear hcz89_2
                       try clear hcz90_0
                       try clear hcz90_1
                       try clear hcz90_2
                       try clear hcz90_3
                       try clear hcz9_0
                       try clear hcz9_1
                       try clear hcz9_2
                       try clear hcz9_3
                       try clear hfz111_0
                       try clear hfz111_1
                       try clear hfz111_2
                       try clear hfz112_0
                       try clear hfz112_1
                       try clear hfz112_2
                       try clear hfz112_3
                       try clear hfz114_0
                       try clear hfz114_1
                       try clear hfz114_2
                       try clear hfz115_0
                       try clear hfz115_1
                       try clear hfz115_2
                       try clear hfz115_3
                       try clear hfz117_0
                       try clear hfz117_1
                       try clear hfz117_2
                       try clear hfz118_0
                       try clear hfz118_1
                       try clear hfz118_2
                       try clear hfz118_3
                       try clear hfz123_0
                       try clear hfz123_1
                       try clear hfz123_2
                       try clear hfz124_0
                       try clear hfz124_1
                       try clear hfz124_2
                       try clear hfz124_3
                       try clear hfz126_0
                       try clear hfz126_1
                       try clear hfz126_2
                       try clear hfz127_0
                       try clear hfz127_1
                       try clear hfz127_2
                       try clear hfz127_3
                       try clear hfz129_0
                       try clear hfz129_1
                       try clear hfz129_2
                       try clear hfz136_0
                       try clear hfz136_1
                       try clear hfz136_2
                       try clear hfz137_0
                       try clear hfz137_1
                       try clear hfz137_2
                       try clear hfz137_3
                       try clear hfz140_0
                       try clear hfz140_1
                       try clear hfz140_2
                       try clear hfz15_0
                       try clear hfz15_1
                       try clear hfz15_2
                       try clear hfz24_0
                       try clear hfz24_1
                       try clear hfz24_2
                       try clear hfz27_0
                       try clear hfz27_1
                       try clear hfz27_2
                       try clear hfz30_0
                       try clear hfz30_1
                       try clear hfz30_2
                       try clear hfz32_0
                       try clear hfz32_1
                       try clear hfz32_2
                       try clear hfz34_0
                       try clear hfz34_1
                       try clear hfz34_2
                       try clear hfz36_0
                       try clear hfz36_1
                       try clear hfz36_2
                       try clear hfz40_0
                       try clear hfz40_1
                       try clear hfz40_2
                       try clear hfz43_0
                       try clear hfz43_1
                       try clear hfz43_2
                       try clear hfz46_0
                       try clear hfz46_1
                       try clear hfz46_2
                       try clear hfz48_0
                       try clear hfz48_1
                       try clear hfz48_2
                       try clear hfz50_0
                       try clear hfz50_1
                       try clear hfz50_2
                       try clear hfz54_0
                       try clear hfz54_1
                       try clear hfz54_2
                       try clear hfz57_0
                       try clear hfz57_1
                       try clear hfz57_2
                       try clear hfz60_0
                       try clear hfz60_1
                       try clear hfz60_2
                       try clear hfz62_0
                       try clear hfz62_1
                       try clear hfz62_2
                       try clear hfz64_0
                       try clear hfz64_1
                       try clear hfz64_2
                       try clear hfz69_0
                       try clear hfz69_1
                       try clear hfz69_2
                       try clear hfz70_0
                       try clear hfz70_1
                       try clear hfz70_2
                       try clear hfz70_3
                       try clear hfz72_0
                       try clear hfz72_1
                       try clear hfz72_2
                       try clear hfz73_0
                       try clear hfz73_1
                       try clear hfz73_2
                       try clear hfz73_3
                       try clear hfz76_0
                       try clear hfz76_1
                       try clear hfz76_2
                       try clear hfz83_0
                       try clear hfz83_1
                       try clear hfz83_2
                       try clear hfz84_0
                       try clear hfz84_1
                       try clear hfz84_2
                       try clear hfz84_3
                       try clear hfz86_0
                       try clear hfz86_1
                       try clear hfz86_2
                       try clear hfz87_0
                       try clear hfz87_1
                       try clear hfz87_2
                       try clear hfz87_3
                       try clear hfz89_0
                       try clear hfz89_1
                       try clear hfz89_2
                       try clear hfz90_0
                       try clear hfz90_1
                       try clear hfz90_2
                       try clear hfz90_3
                       try clear hfz9_0
                       try clear hfz9_1
                       try clear hfz9_2
                       try clear hfz9_3
                       try clear hx223_0
                       try clear hx223_1
                       try clear hx223_2
                       try clear hx223_3
                       try clear hx223_4
                       try clear hx224_0
                       try clear hx224_1
                       try clear hx224_2
                       try clear hx224_3
                       try clear hx224_4
                       try clear hx228_0
                       try clear hx228_1
                       try clear hx228_2
                       try clear hx228_3
                       try clear hx228_4
                       try clear p2
                       try clear p22
                       try clear p223
                       try clear p224
                       try clear p228
                       try clear q2
                       try clear q22
                       try clear q223
                       try clear q224
                       try clear q228
                       obtain ⟨kq, x153_133, ⟨rfl, rfl⟩, HA, HJ133, BK219, BK220, HB⟩ := hcut
                       cases kq with
                       | zero => exact absurd HA.out (by simp [ladderbackref18_One.j6])
                       | succ kj133 =>
                        have H := HA.out
                        clear HA
                        simp only [ladderbackref18_One.j6] at H
                        by_cases c141 : x153_133 = true
                        ·subst c141
                         have H1 : (if 0 ≤ a2_1 then (if a2_1 < (l0_2.length : Int) then ((ladderbackref11_Fields.f kj133 ((rd_T39 l0_2 a2_1).f1)).bind fun bt230 => (if a2_0 = 35 then (if a2_2 < bt230.2.2 then (some 0) else (if a2_0 = 37 then (if (a2_2 < (bt230.1.length : Int)) then (some 0) else (some 8)) else (some 8))) else (if a2_0 = 37 then (if (a2_2 < (bt230.1.length : Int)) then (some 0) else (some 8)) else (some 8)))) else (none)) else (none)) = some r := by rw [if_pos rfl] at H; exact H
                         clear H
                         have H := H1
                         clear H1
                         by_cases c142 : 0 ≤ a2_1
                         ·rw [if_pos c142] at H
                          have c142b0 : decide (0 ≤ a2_1) = true := decide_eq_true c142
                          clear c142
                          by_cases c143 : a2_1 < (l0_2.length : Int)
                          ·rw [if_pos c143] at H
                           have c143b0 : decide (a2_1 < (l0_2.length : Int)) = true := decide_eq_true c143
                           clear c143
                           replace H := Option.bind_eq_some_iff.mp H
                           obtain ⟨⟨t230, t231, t232⟩, A1440, H⟩ := H
                           replace H : (if a2_0 = 35 then (if a2_2 < t232 then (some 0) else (if a2_0 = 37 then (if (a2_2 < (t230.length : Int)) then (some 0) else (some 8)) else (some 8))) else (if a2_0 = 37 then (if (a2_2 < (t230.length : Int)) then (some 0) else (some 8)) else (some 8))) = some r := H
                           have A144 := Aside0.mk A1440
                           clear A1440
                           by_cases c145 : a2_0 = 35
                           ·rw [if_pos c145] at H
                            have c145b0 : (a2_0 == 35) = true := beq_iff_eq.mpr c145
                            have c145b1 : (a2_0 != 35) = false := bne_eq_false_iff_eq.mpr c145
                            clear c145
                            by_cases c146 : a2_2 < t232
                            ·rw [if_pos c146] at H
                             have c146b0 : decide (a2_2 < t232) = true := decide_eq_true c146
                             clear c146
                             as_aux_lemma =>
                              obtain rfl := Option.some.inj H
                              have hnb147 := NB219_220.out
                              have hnc147 := NB220_219.out
                              have hcz148_0 : wc.cell? ⟨gb219, 0, none⟩ = some (.slice A0_0 l0_0.length c0_0) := (blk_cell BK219.out 0).trans rfl
                              have hcz148_1 : wc.cell? ⟨gb219, 1, none⟩ = some (.slice A0_1 l0_1.length c0_1) := (blk_cell BK219.out 1).trans rfl
                              have hcz148_2 : wc.cell? ⟨gb219, 2, none⟩ = some (.slice A0_2 l0_2.length c0_2) := (blk_cell BK219.out 2).trans rfl
                              have hcz148_3 : wc.cell? ⟨gb219, 3, none⟩ = some (.slice A0_3 l0_3.length c0_3) := (blk_cell BK219.out 3).trans rfl
                              have hfz148_0 := blk_frozen BK219.out 0
                              have hfz148_1 := blk_frozen BK219.out 1
                              have hfz148_2 := blk_frozen BK219.out 2
                              have hfz148_3 := blk_frozen BK219.out 3
                              have hcz149_0 : wc.cell? ⟨gb220, 0, none⟩ = some (.int .i64 a2_0) := (blk_cell BK220.out 0).trans rfl
                              have hcz149_1 : wc.cell? ⟨gb220, 1, none⟩ = some (.int .i64 a2_1) := (blk_cell BK220.out 1).trans rfl
                              have hcz149_2 : wc.cell? ⟨gb220, 2, none⟩ = some (.int .i64 a2_2) := (blk_cell BK220.out 2).trans rfl
                              have hfz149_0 := blk_frozen BK220.out 0
                              have hfz149_1 := blk_frozen BK220.out 1
                              have hfz149_2 := blk_frozen BK220.out 2
                              have p229 : 0 ≤ (a2_1 : Int) := of_decide_eq_true (by first | (with_reducible assumption) | assumption)
                              have q229 : a2_1 < (l0_2.length : Int) := of_decide_eq_true (by first | (with_reducible assumption) | assumption)
                              obtain ⟨ad229, e229, hx229_0, hx229_1⟩ := at_T39 HR0_2.out a2_1 p229 q229
                              cases e229
                              replace hx229_0 := (HB.out.cell (World.block_lt_of_cell? w _ hx229_0)).trans hx229_0
                              replace hx229_1 := (HB.out.cell (World.block_lt_of_cell? w _ hx229_1)).trans hx229_1
                              replace p229 := eq_true p229
                              replace q229 := eq_true q229
                              go_wp2_with (first | ((with_reducible refine gate_callee (f := 32) rfl ?_); refine goesL_ (some 162) rfl rfl Tryd.func32 (by kernel_rfl) rfl #[.int .i64 ((rd_T39 l0_2 a2_1).f1)] rfl (by (try simp only [List.map_toArray, List.map_cons, List.map_nil]); first | done | rfl | (simp only [List.length_drop, List.length_take]; rfl)) ?_; (with_reducible refine (ladderbackref11_Fields.calls kj133 ((rd_T39 l0_2 a2_1).f1) t230 t231 t232 _ A144.out).mono ?_); rintro e w150 ⟨v233, v235, rfl, ho0, ho1, hb⟩; refine ⟨_, rfl, ?_⟩; have n0_ := Aside0.mk (Kd.R_lower ho0 (below_size (by repeat (first | (with_reducible first | exact HB.out | apply below_alloc | apply pw_below_drewN | apply below_drew1 | refine below_set ?_ GE219.out | refine below_set ?_ GE220.out) | exact HB.out)))); have n1_ := Aside0.mk (Kd.R_lower ho1 (below_size (by repeat (first | (with_reducible first | exact HB.out | apply below_alloc | apply pw_below_drewN | apply below_drew1 | refine below_set ?_ GE219.out | refine below_set ?_ GE220.out) | exact HB.out)))); have n2_ := Aside0.mk (blk_below (g := gb219) (o := .cells #[.slice A0_0 l0_0.length c0_0, .slice A0_1 l0_1.length c0_1, .slice (some ad229) l0_2.length c0_2, .slice A0_3 l0_3.length c0_3] 27 (0, 0)) (by (with_reducible repeat (first | refine blk_drewN ?_ _ | refine blk_drew ?_ | refine blk_alloc ?_ _)); exact BK219.out) hb); have n3_ := Aside0.mk (blk_below (g := gb220) (o := .cells #[.int .i64 a2_0, .int .i64 a2_1, .int .i64 a2_2] 29 (0, 0)) (by (with_reducible repeat (first | refine blk_drewN ?_ _ | refine blk_drew ?_ | refine blk_alloc ?_ _)); exact BK220.out) hb); have n4_ := Aside0.mk (below_step (by repeat (first | (with_reducible first | exact HB.out | apply below_alloc | apply pw_below_drewN | apply below_drew1 | refine below_set ?_ GE219.out | refine below_set ?_ GE220.out) | exact HB.out)) hb); clear BK219; clear BK220; clear HB; have HO234 := n0_; have HO236 := n1_; have BK219 := n2_; have BK220 := n3_; have HB := n4_; clear n0_ n1_ n2_ n3_ n4_; (try clear hb); (try clear hb2); (try clear hk); (try clear hi); (try clear ho0); (try clear ho1); have hcz151_0 : w150.cell? ⟨gb220, 0, none⟩ = some (.int .i64 a2_0) := (blk_cell BK220.out 0).trans rfl; have hcz151_1 : w150.cell? ⟨gb220, 1, none⟩ = some (.int .i64 a2_1) := (blk_cell BK220.out 1).trans rfl; have hcz151_2 : w150.cell? ⟨gb220, 2, none⟩ = some (.int .i64 a2_2) := (blk_cell BK220.out 2).trans rfl; have hfz151_0 := blk_frozen BK220.out 0; have hfz151_1 := blk_frozen BK220.out 1; have hfz151_2 := blk_frozen BK220.out 2))
                              go_ret
                              exact ⟨by first | rfl | (simp [errW_none, errW_some] <;> rfl) | (simp [*, errW_none, errW_some] <;> rfl), by repeat (first | (with_reducible first | exact HB.out | apply below_alloc | apply pw_below_drewN | apply below_drew1 | refine below_set ?_ GE219.out | refine below_set ?_ GE220.out) | exact HB.out)⟩
                            ·rw [if_neg c146] at H
                             have c146b0 : decide (a2_2 < t232) = false := decide_eq_false c146
                             clear c146
                             by_cases c152 : a2_0 = 37
                             ·rw [if_pos c152] at H
                              have c152b0 : (a2_0 == 37) = true := beq_iff_eq.mpr c152
                              have c152b1 : (a2_0 != 37) = false := bne_eq_false_iff_eq.mpr c152
                              clear c152
                              by_cases c153 : (a2_2 < (t230.length : Int))
                              ·rw [if_pos c153] at H
                               have c153b0 : decide (a2_2 < (t230.length : Int)) = true := decide_eq_true c153
                               clear c153
                               as_aux_lemma =>
                                obtain rfl := Option.some.inj H
                                have hnb154 := NB219_220.out
                                have hnc154 := NB220_219.out
                                have hcz155_0 : wc.cell? ⟨gb219, 0, none⟩ = some (.slice A0_0 l0_0.length c0_0) := (blk_cell BK219.out 0).trans rfl
                                have hcz155_1 : wc.cell? ⟨gb219, 1, none⟩ = some (.slice A0_1 l0_1.length c0_1) := (blk_cell BK219.out 1).trans rfl
                                have hcz155_2 : wc.cell? ⟨gb219, 2, none⟩ = some (.slice A0_2 l0_2.length c0_2) := (blk_cell BK219.out 2).trans rfl
                                have hcz155_3 : wc.cell? ⟨gb219, 3, none⟩ = some (.slice A0_3 l0_3.length c0_3) := (blk_cell BK219.out 3).trans rfl
                                have hfz155_0 := blk_frozen BK219.out 0
                                have hfz155_1 := blk_frozen BK219.out 1
                                have hfz155_2 := blk_frozen BK219.out 2
                                have hfz155_3 := blk_frozen BK219.out 3
                                have hcz156_0 : wc.cell? ⟨gb220, 0, none⟩ = some (.int .i64 a2_0) := (blk_cell BK220.out 0).trans rfl
                                have hcz156_1 : wc.cell? ⟨gb220, 1, none⟩ = some (.int .i64 a2_1) := (blk_cell BK220.out 1).trans rfl
                                have hcz156_2 : wc.cell? ⟨gb220, 2, none⟩ = some (.int .i64 a2_2) := (blk_cell BK220.out 2).trans rfl
                                have hfz156_0 := blk_frozen BK220.out 0
                                have hfz156_1 := blk_frozen BK220.out 1
                                have hfz156_2 := blk_frozen BK220.out 2
                                have p229 : 0 ≤ (a2_1 : Int) := of_decide_eq_true (by first | (with_reducible assumption) | assumption)
                                have q229 : a2_1 < (l0_2.length : Int) := of_decide_eq_true (by first | (with_reducible assumption) | assumption)
                                obtain ⟨ad229, e229, hx229_0, hx229_1⟩ := at_T39 HR0_2.out a2_1 p229 q229
                                cases e229
                                replace hx229_0 := (HB.out.cell (World.block_lt_of_cell? w _ hx229_0)).trans hx229_0
                                replace hx229_1 := (HB.out.cell (World.block_lt_of_cell? w _ hx229_1)).trans hx229_1
                                replace p229 := eq_true p229
                                replace q229 := eq_true q229
                                go_wp2_with (first | ((with_reducible refine gate_callee (f := 32) rfl ?_); refine goesL_ (some 162) rfl rfl Tryd.func32 (by kernel_rfl) rfl #[.int .i64 ((rd_T39 l0_2 a2_1).f1)] rfl (by (try simp only [List.map_toArray, List.map_cons, List.map_nil]); first | done | rfl | (simp only [List.length_drop, List.length_take]; rfl)) ?_; (with_reducible refine (ladderbackref11_Fields.calls kj133 ((rd_T39 l0_2 a2_1).f1) t230 t231 t232 _ A144.out).mono ?_); rintro e w157 ⟨v233, v235, rfl, ho0, ho1, hb⟩; refine ⟨_, rfl, ?_⟩; have n0_ := Aside0.mk (Kd.R_lower ho0 (below_size (by repeat (first | (with_reducible first | exact HB.out | apply below_alloc | apply pw_below_drewN | apply below_drew1 | refine below_set ?_ GE219.out | refine below_set ?_ GE220.out) | exact HB.out)))); have n1_ := Aside0.mk (Kd.R_lower ho1 (below_size (by repeat (first | (with_reducible first | exact HB.out | apply below_alloc | apply pw_below_drewN | apply below_drew1 | refine below_set ?_ GE219.out | refine below_set ?_ GE220.out) | exact HB.out)))); have n2_ := Aside0.mk (blk_below (g := gb219) (o := .cells #[.slice A0_0 l0_0.length c0_0, .slice A0_1 l0_1.length c0_1, .slice (some ad229) l0_2.length c0_2, .slice A0_3 l0_3.length c0_3] 27 (0, 0)) (by (with_reducible repeat (first | refine blk_drewN ?_ _ | refine blk_drew ?_ | refine blk_alloc ?_ _)); exact BK219.out) hb); have n3_ := Aside0.mk (blk_below (g := gb220) (o := .cells #[.int .i64 a2_0, .int .i64 a2_1, .int .i64 a2_2] 29 (0, 0)) (by (with_reducible repeat (first | refine blk_drewN ?_ _ | refine blk_drew ?_ | refine blk_alloc ?_ _)); exact BK220.out) hb); have n4_ := Aside0.mk (below_step (by repeat (first | (with_reducible first | exact HB.out | apply below_alloc | apply pw_below_drewN | apply below_drew1 | refine below_set ?_ GE219.out | refine below_set ?_ GE220.out) | exact HB.out)) hb); clear BK219; clear BK220; clear HB; have HO234 := n0_; have HO236 := n1_; have BK219 := n2_; have BK220 := n3_; have HB := n4_; clear n0_ n1_ n2_ n3_ n4_; (try clear hb); (try clear hb2); (try clear hk); (try clear hi); (try clear ho0); (try clear ho1); have hcz158_0 : w157.cell? ⟨gb220, 0, none⟩ = some (.int .i64 a2_0) := (blk_cell BK220.out 0).trans rfl; have hcz158_1 : w157.cell? ⟨gb220, 1, none⟩ = some (.int .i64 a2_1) := (blk_cell BK220.out 1).trans rfl; have hcz158_2 : w157.cell? ⟨gb220, 2, none⟩ = some (.int .i64 a2_2) := (blk_cell BK220.out 2).trans rfl; have hfz158_0 := blk_frozen BK220.out 0; have hfz158_1 := blk_frozen BK220.out 1; have hfz158_2 := blk_frozen BK220.out 2; obtain ⟨Ao159, co159, eo159⟩ := Kd.R_slice HO234.out; subst eo159))
                                go_ret
                                exact ⟨by first | rfl | (simp [errW_none, errW_some] <;> rfl) | (simp [*, errW_none, errW_some] <;> rfl), by repeat (first | (with_reducible first | exact HB.out | apply below_alloc | apply pw_below_drewN | apply below_drew1 | refine below_set ?_ GE219.out | refine below_set ?_ GE220.out) | exact HB.out)⟩
                              ·rw [if_neg c153] at H
                               have c153b0 : decide (a2_2 < (t230.length : Int)) = false := decide_eq_false c153
                               clear c153
                               as_aux_lemma =>
                                obtain rfl := Option.some.inj H
                                have hnb160 := NB219_220.out
                                have hnc160 := NB220_219.out
                                have hcz161_0 : wc.cell? ⟨gb219, 0, none⟩ = some (.slice A0_0 l0_0.length c0_0) := (blk_cell BK219.out 0).trans rfl
                                have hcz161_1 : wc.cell? ⟨gb219, 1, none⟩ = some (.slice A0_1 l0_1.length c0_1) := (blk_cell BK219.out 1).trans rfl
                                have hcz161_2 : wc.cell? ⟨gb219, 2, none⟩ = some (.slice A0_2 l0_2.length c0_2) := (blk_cell BK219.out 2).trans rfl
                                have hcz161_3 : wc.cell? ⟨gb219, 3, none⟩ = some (.slice A0_3 l0_3.length c0_3) := (blk_cell BK219.out 3).trans rfl
                                have hfz161_0 := blk_frozen BK219.out 0
                                have hfz161_1 := blk_frozen BK219.out 1
                                have hfz161_2 := blk_frozen BK219.out 2
                                have hfz161_3 := blk_frozen BK219.out 3
                                have hcz162_0 : wc.cell? ⟨gb220, 0, none⟩ = some (.int .i64 a2_0) := (blk_cell BK220.out 0).trans rfl
                                have hcz162_1 : wc.cell? ⟨gb220, 1, none⟩ = some (.int .i64 a2_1) := (blk_cell BK220.out 1).trans rfl
                                have hcz162_2 : wc.cell? ⟨gb220, 2, none⟩ = some (.int .i64 a2_2) := (blk_cell BK220.out 2).trans rfl
                                have hfz162_0 := blk_frozen BK220.out 0
                                have hfz162_1 := blk_frozen BK220.out 1
                                have hfz162_2 := blk_frozen BK220.out 2
                                have p229 : 0 ≤ (a2_1 : Int) := of_decide_eq_true (by first | (with_reducible assumption) | assumption)
                                have q229 : a2_1 < (l0_2.length : Int) := of_decide_eq_true (by first | (with_reducible assumption) | assumption)
                                obtain ⟨ad229, e229, hx229_0, hx229_1⟩ := at_T39 HR0_2.out a2_1 p229 q229
                                cases e229
                                replace hx229_0 := (HB.out.cell (World.block_lt_of_cell? w _ hx229_0)).trans hx229_0
                                replace hx229_1 := (HB.out.cell (World.block_lt_of_cell? w _ hx229_1)).trans hx229_1
                                replace p229 := eq_true p229
                                replace q229 := eq_true q229
                                go_wp2_with (first | ((with_reducible refine gate_callee (f := 32) rfl ?_); refine goesL_ (some 162) rfl rfl Tryd.func32 (by kernel_rfl) rfl #[.int .i64 ((rd_T39 l0_2 a2_1).f1)] rfl (by (try simp only [List.map_toArray, List.map_cons, List.map_nil]); first | done | rfl | (simp only [List.length_drop, List.length_take]; rfl)) ?_; (with_reducible refine (ladderbackref11_Fields.calls kj133 ((rd_T39 l0_2 a2_1).f1) t230 t231 t232 _ A144.out).mono ?_); rintro e w163 ⟨v233, v235, rfl, ho0, ho1, hb⟩; refine ⟨_, rfl, ?_⟩; have n0_ := Aside0.mk (Kd.R_lower ho0 (below_size (by repeat (first | (with_reducible first | exact HB.out | apply below_alloc | apply pw_below_drewN | apply below_drew1 | refine below_set ?_ GE219.out | refine below_set ?_ GE220.out) | exact HB.out)))); have n1_ := Aside0.mk (Kd.R_lower ho1 (below_size (by repeat (first | (with_reducible first | exact HB.out | apply below_alloc | apply pw_below_drewN | apply below_drew1 | refine below_set ?_ GE219.out | refine below_set ?_ GE220.out) | exact HB.out)))); have n2_ := Aside0.mk (blk_below (g := gb219) (o := .cells #[.slice A0_0 l0_0.length c0_0, .slice A0_1 l0_1.length c0_1, .slice (some ad229) l0_2.length c0_2, .slice A0_3 l0_3.length c0_3] 27 (0, 0)) (by (with_reducible repeat (first | refine blk_drewN ?_ _ | refine blk_drew ?_ | refine blk_alloc ?_ _)); exact BK219.out) hb); have n3_ := Aside0.mk (blk_below (g := gb220) (o := .cells #[.int .i64 a2_0, .int .i64 a2_1, .int .i64 a2_2] 29 (0, 0)) (by (with_reducible repeat (first | refine blk_drewN ?_ _ | refine blk_drew ?_ | refine blk_alloc ?_ _)); exact BK220.out) hb); have n4_ := Aside0.mk (below_step (by repeat (first | (with_reducible first | exact HB.out | apply below_alloc | apply pw_below_drewN | apply below_drew1 | refine below_set ?_ GE219.out | refine below_set ?_ GE220.out) | exact HB.out)) hb); clear BK219; clear BK220; clear HB; have HO234 := n0_; have HO236 := n1_; have BK219 := n2_; have BK220 := n3_; have HB := n4_; clear n0_ n1_ n2_ n3_ n4_; (try clear hb); (try clear hb2); (try clear hk); (try clear hi); (try clear ho0); (try clear ho1); have hcz164_0 : w163.cell? ⟨gb220, 0, none⟩ = some (.int .i64 a2_0) := (blk_cell BK220.out 0).trans rfl; have hcz164_1 : w163.cell? ⟨gb220, 1, none⟩ = some (.int .i64 a2_1) := (blk_cell BK220.out 1).trans rfl; have hcz164_2 : w163.cell? ⟨gb220, 2, none⟩ = some (.int .i64 a2_2) := (blk_cell BK220.out 2).trans rfl; have hfz164_0 := blk_frozen BK220.out 0; have hfz164_1 := blk_frozen BK220.out 1; have hfz164_2 := blk_frozen BK220.out 2; obtain ⟨Ao165, co165, eo165⟩ := Kd.R_slice HO234.out; subst eo165))
                                go_ret
                                exact ⟨by first | rfl | (simp [errW_none, errW_some] <;> rfl) | (simp [*, errW_none, errW_some] <;> rfl), by repeat (first | (with_reducible first | exact HB.out | apply below_alloc | apply pw_below_drewN | apply below_drew1 | refine below_set ?_ GE219.out | refine below_set ?_ GE220.out) | exact HB.out)⟩
                             ·rw [if_neg c152] at H
                              have c152b0 : (a2_0 == 37) = false := beq_eq_false_iff_ne.mpr c152
                              have c152b1 : (a2_0 != 37) = true := bne_iff_ne.mpr c152
                              as_aux_lemma =>
                               obtain rfl := Option.some.inj H
                               have hnb166 := NB219_220.out
                               have hnc166 := NB220_219.out
                               have hcz167_0 : wc.cell? ⟨gb219, 0, none⟩ = some (.slice A0_0 l0_0.length c0_0) := (blk_cell BK219.out 0).trans rfl
                               have hcz167_1 : wc.cell? ⟨gb219, 1, none⟩ = some (.slice A0_1 l0_1.length c0_1) := (blk_cell BK219.out 1).trans rfl
                               have hcz167_2 : wc.cell? ⟨gb219, 2, none⟩ = some (.slice A0_2 l0_2.length c0_2) := (blk_cell BK219.out 2).trans rfl
                               have hcz167_3 : wc.cell? ⟨gb219, 3, none⟩ = some (.slice A0_3 l0_3.length c0_3) := (blk_cell BK219.out 3).trans rfl
                               have hfz167_0 := blk_frozen BK219.out 0
                               have hfz167_1 := blk_frozen BK219.out 1
                               have hfz167_2 := blk_frozen BK219.out 2
                               have hfz167_3 := blk_frozen BK219.out 3
                               have hcz168_0 : wc.cell? ⟨gb220, 0, none⟩ = some (.int .i64 a2_0) := (blk_cell BK220.out 0).trans rfl
                               have hcz168_1 : wc.cell? ⟨gb220, 1, none⟩ = some (.int .i64 a2_1) := (blk_cell BK220.out 1).trans rfl
                               have hcz168_2 : wc.cell? ⟨gb220, 2, none⟩ = some (.int .i64 a2_2) := (blk_cell BK220.out 2).trans rfl
                               have hfz168_0 := blk_frozen BK220.out 0
                               have hfz168_1 := blk_frozen BK220.out 1
                               have hfz168_2 := blk_frozen BK220.out 2
                               have p229 : 0 ≤ (a2_1 : Int) := of_decide_eq_true (by first | (with_reducible assumption) | assumption)
                               have q229 : a2_1 < (l0_2.length : Int) := of_decide_eq_true (by first | (with_reducible assumption) | assumption)
                               obtain ⟨ad229, e229, hx229_0, hx229_1⟩ := at_T39 HR0_2.out a2_1 p229 q229
                               cases e229
                               replace hx229_0 := (HB.out.cell (World.block_lt_of_cell? w _ hx229_0)).trans hx229_0
                               replace hx229_1 := (HB.out.cell (World.block_lt_of_cell? w _ hx229_1)).trans hx229_1
                               replace p229 := eq_true p229
                               replace q229 := eq_true q229
                               go_wp2_with (first | ((with_reducible refine gate_callee (f := 32) rfl ?_); refine goesL_ (some 162) rfl rfl Tryd.func32 (by kernel_rfl) rfl #[.int .i64 ((rd_T39 l0_2 a2_1).f1)] rfl (by (try simp only [List.map_toArray, List.map_cons, List.map_nil]); first | done | rfl | (simp only [List.length_drop, List.length_take]; rfl)) ?_; (with_reducible refine (ladderbackref11_Fields.calls kj133 ((rd_T39 l0_2 a2_1).f1) t230 t231 t232 _ A144.out).mono ?_); rintro e w169 ⟨v233, v235, rfl, ho0, ho1, hb⟩; refine ⟨_, rfl, ?_⟩; have n0_ := Aside0.mk (Kd.R_lower ho0 (below_size (by repeat (first | (with_reducible first | exact HB.out | apply below_alloc | apply pw_below_drewN | apply below_drew1 | refine below_set ?_ GE219.out | refine below_set ?_ GE220.out) | exact HB.out)))); have n1_ := Aside0.mk (Kd.R_lower ho1 (below_size (by repeat (first | (with_reducible first | exact HB.out | apply below_alloc | apply pw_below_drewN | apply below_drew1 | refine below_set ?_ GE219.out | refine below_set ?_ GE220.out) | exact HB.out)))); have n2_ := Aside0.mk (blk_below (g := gb219) (o := .cells #[.slice A0_0 l0_0.length c0_0, .slice A0_1 l0_1.length c0_1, .slice (some ad229) l0_2.length c0_2, .slice A0_3 l0_3.length c0_3] 27 (0, 0)) (by (with_reducible repeat (first | refine blk_drewN ?_ _ | refine blk_drew ?_ | refine blk_alloc ?_ _)); exact BK219.out) hb); have n3_ := Aside0.mk (blk_below (g := gb220) (o := .cells #[.int .i64 a2_0, .int .i64 a2_1, .int .i64 a2_2] 29 (0, 0)) (by (with_reducible repeat (first | refine blk_drewN ?_ _ | refine blk_drew ?_ | refine blk_alloc ?_ _)); exact BK220.out) hb); have n4_ := Aside0.mk (below_step (by repeat (first | (with_reducible first | exact HB.out | apply below_alloc | apply pw_below_drewN | apply below_drew1 | refine below_set ?_ GE219.out | refine below_set ?_ GE220.out) | exact HB.out)) hb); clear BK219; clear BK220; clear HB; have HO234 := n0_; have HO236 := n1_; have BK219 := n2_; have BK220 := n3_; have HB := n4_; clear n0_ n1_ n2_ n3_ n4_; (try clear hb); (try clear hb2); (try clear hk); (try clear hi); (try clear ho0); (try clear ho1); have hcz170_0 : w169.cell? ⟨gb220, 0, none⟩ = some (.int .i64 a2_0) := (blk_cell BK220.out 0).trans rfl; have hcz170_1 : w169.cell? ⟨gb220, 1, none⟩ = some (.int .i64 a2_1) := (blk_cell BK220.out 1).trans rfl; have hcz170_2 : w169.cell? ⟨gb220, 2, none⟩ = some (.int .i64 a2_2) := (blk_cell BK220.out 2).trans rfl; have hfz170_0 := blk_frozen BK220.out 0; have hfz170_1 := blk_frozen BK220.out 1; have hfz170_2 := blk_frozen BK220.out 2))
                               go_ret
                               exact ⟨by first | rfl | (simp [errW_none, errW_some] <;> rfl) | (simp [*, errW_none, errW_some] <;> rfl), by repeat (first | (with_reducible first | exact HB.out | apply below_alloc | apply pw_below_drewN | apply below_drew1 | refine below_set ?_ GE219.out | refine below_set ?_ GE220.out) | exact HB.out)⟩
                           ·rw [if_neg c145] at H
                            have c145b0 : (a2_0 == 35) = false := beq_eq_false_iff_ne.mpr c145
                            have c145b1 : (a2_0 != 35) = true := bne_iff_ne.mpr c145
                            by_cases c171 : a2_0 = 37
                            ·rw [if_pos c171] at H
                             have c171b0 : (a2_0 == 37) = true := beq_iff_eq.mpr c171
                             have c171b1 : (a2_0 != 37) = false := bne_eq_false_iff_eq.mpr c171
                             clear c171
                             by_cases c172 : (a2_2 < (t230.length : Int))
                             ·rw [if_pos c172] at H
                              have c172b0 : decide (a2_2 < (t230.length : Int)) = true := decide_eq_true c172
                              clear c172
                              as_aux_lemma =>
                               obtain rfl := Option.some.inj H
                               have hnb173 := NB219_220.out
                               have hnc173 := NB220_219.out
                               have hcz174_0 : wc.cell? ⟨gb219, 0, none⟩ = some (.slice A0_0 l0_0.length c0_0) := (blk_cell BK219.out 0).trans rfl
                               have hcz174_1 : wc.cell? ⟨gb219, 1, none⟩ = some (.slice A0_1 l0_1.length c0_1) := (blk_cell BK219.out 1).trans rfl
                               have hcz174_2 : wc.cell? ⟨gb219, 2, none⟩ = some (.slice A0_2 l0_2.length c0_2) := (blk_cell BK219.out 2).trans rfl
                               have hcz174_3 : wc.cell? ⟨gb219, 3, none⟩ = some (.slice A0_3 l0_3.length c0_3) := (blk_cell BK219.out 3).trans rfl
                               have hfz174_0 := blk_frozen BK219.out 0
                               have hfz174_1 := blk_frozen BK219.out 1
                               have hfz174_2 := blk_frozen BK219.out 2
                               have hfz174_3 := blk_frozen BK219.out 3
                               have hcz175_0 : wc.cell? ⟨gb220, 0, none⟩ = some (.int .i64 a2_0) := (blk_cell BK220.out 0).trans rfl
                               have hcz175_1 : wc.cell? ⟨gb220, 1, none⟩ = some (.int .i64 a2_1) := (blk_cell BK220.out 1).trans rfl
                               have hcz175_2 : wc.cell? ⟨gb220, 2, none⟩ = some (.int .i64 a2_2) := (blk_cell BK220.out 2).trans rfl
                               have hfz175_0 := blk_frozen BK220.out 0
                               have hfz175_1 := blk_frozen BK220.out 1
                               have hfz175_2 := blk_frozen BK220.out 2
                               have p229 : 0 ≤ (a2_1 : Int) := of_decide_eq_true (by first | (with_reducible assumption) | assumption)
                               have q229 : a2_1 < (l0_2.length : Int) := of_decide_eq_true (by first | (with_reducible assumption) | assumption)
                               obtain ⟨ad229, e229, hx229_0, hx229_1⟩ := at_T39 HR0_2.out a2_1 p229 q229
                               cases e229
                               replace hx229_0 := (HB.out.cell (World.block_lt_of_cell? w _ hx229_0)).trans hx229_0
                               replace hx229_1 := (HB.out.cell (World.block_lt_of_cell? w _ hx229_1)).trans hx229_1
                               replace p229 := eq_true p229
                               replace q229 := eq_true q229
                               go_wp2_with (first | ((with_reducible refine gate_callee (f := 32) rfl ?_); refine goesL_ (some 162) rfl rfl Tryd.func32 (by kernel_rfl) rfl #[.int .i64 ((rd_T39 l0_2 a2_1).f1)] rfl (by (try simp only [List.map_toArray, List.map_cons, List.map_nil]); first | done | rfl | (simp only [List.length_drop, List.length_take]; rfl)) ?_; (with_reducible refine (ladderbackref11_Fields.calls kj133 ((rd_T39 l0_2 a2_1).f1) t230 t231 t232 _ A144.out).mono ?_); rintro e w176 ⟨v233, v235, rfl, ho0, ho1, hb⟩; refine ⟨_, rfl, ?_⟩; have n0_ := Aside0.mk (Kd.R_lower ho0 (below_size (by repeat (first | (with_reducible first | exact HB.out | apply below_alloc | apply pw_below_drewN | apply below_drew1 | refine below_set ?_ GE219.out | refine below_set ?_ GE220.out) | exact HB.out)))); have n1_ := Aside0.mk (Kd.R_lower ho1 (below_size (by repeat (first | (with_reducible first | exact HB.out | apply below_alloc | apply pw_below_drewN | apply below_drew1 | refine below_set ?_ GE219.out | refine below_set ?_ GE220.out) | exact HB.out)))); have n2_ := Aside0.mk (blk_below (g := gb219) (o := .cells #[.slice A0_0 l0_0.length c0_0, .slice A0_1 l0_1.length c0_1, .slice (some ad229) l0_2.length c0_2, .slice A0_3 l0_3.length c0_3] 27 (0, 0)) (by (with_reducible repeat (first | refine blk_drewN ?_ _ | refine blk_drew ?_ | refine blk_alloc ?_ _)); exact BK219.out) hb); have n3_ := Aside0.mk (blk_below (g := gb220) (o := .cells #[.int .i64 a2_0, .int .i64 a2_1, .int .i64 a2_2] 29 (0, 0)) (by (with_reducible repeat (first | refine blk_drewN ?_ _ | refine blk_drew ?_ | refine blk_alloc ?_ _)); exact BK220.out) hb); have n4_ := Aside0.mk (below_step (by repeat (first | (with_reducible first | exact HB.out | apply below_alloc | apply pw_below_drewN | apply below_drew1 | refine below_set ?_ GE219.out | refine below_set ?_ GE220.out) | exact HB.out)) hb); clear BK219; clear BK220; clear HB; have HO234 := n0_; have HO236 := n1_; have BK219 := n2_; have BK220 := n3_; have HB := n4_; clear n0_ n1_ n2_ n3_ n4_; (try clear hb); (try clear hb2); (try clear hk); (try clear hi); (try clear ho0); (try clear ho1); have hcz177_0 : w176.cell? ⟨gb220, 0, none⟩ = some (.int .i64 a2_0) := (blk_cell BK220.out 0).trans rfl; have hcz177_1 : w176.cell? ⟨gb220, 1, none⟩ = some (.int .i64 a2_1) := (blk_cell BK220.out 1).trans rfl; have hcz177_2 : w176.cell? ⟨gb220, 2, none⟩ = some (.int .i64 a2_2) := (blk_cell BK220.out 2).trans rfl; have hfz177_0 := blk_frozen BK220.out 0; have hfz177_1 := blk_frozen BK220.out 1; have hfz177_2 := blk_frozen BK220.out 2; obtain ⟨Ao178, co178, eo178⟩ := Kd.R_slice HO234.out; subst eo178))
                               go_ret
                               exact ⟨by first | rfl | (simp [errW_none, errW_some] <;> rfl) | (simp [*, errW_none, errW_some] <;> rfl), by repeat (first | (with_reducible first | exact HB.out | apply below_alloc | apply pw_below_drewN | apply below_drew1 | refine below_set ?_ GE219.out | refine below_set ?_ GE220.out) | exact HB.out)⟩
                             ·rw [if_neg c172] at H
                              have c172b0 : decide (a2_2 < (t230.length : Int)) = false := decide_eq_false c172
                              clear c172
                              as_aux_lemma =>
                               obtain rfl := Option.some.inj H
                               have hnb179 := NB219_220.out
                               have hnc179 := NB220_219.out
                               have hcz180_0 : wc.cell? ⟨gb219, 0, none⟩ = some (.slice A0_0 l0_0.length c0_0) := (blk_cell BK219.out 0).trans rfl
                               have hcz180_1 : wc.cell? ⟨gb219, 1, none⟩ = some (.slice A0_1 l0_1.length c0_1) := (blk_cell BK219.out 1).trans rfl
                               have hcz180_2 : wc.cell? ⟨gb219, 2, none⟩ = some (.slice A0_2 l0_2.length c0_2) := (blk_cell BK219.out 2).trans rfl
                               have hcz180_3 : wc.cell? ⟨gb219, 3, none⟩ = some (.slice A0_3 l0_3.length c0_3) := (blk_cell BK219.out 3).trans rfl
                               have hfz180_0 := blk_frozen BK219.out 0
                               have hfz180_1 := blk_frozen BK219.out 1
                               have hfz180_2 := blk_frozen BK219.out 2
                               have hfz180_3 := blk_frozen BK219.out 3
                               have hcz181_0 : wc.cell? ⟨gb220, 0, none⟩ = some (.int .i64 a2_0) := (blk_cell BK220.out 0).trans rfl
                               have hcz181_1 : wc.cell? ⟨gb220, 1, none⟩ = some (.int .i64 a2_1) := (blk_cell BK220.out 1).trans rfl
                               have hcz181_2 : wc.cell? ⟨gb220, 2, none⟩ = some (.int .i64 a2_2) := (blk_cell BK220.out 2).trans rfl
                               have hfz181_0 := blk_frozen BK220.out 0
                               have hfz181_1 := blk_frozen BK220.out 1
                               have hfz181_2 := blk_frozen BK220.out 2
                               have p229 : 0 ≤ (a2_1 : Int) := of_decide_eq_true (by first | (with_reducible assumption) | assumption)
                               have q229 : a2_1 < (l0_2.length : Int) := of_decide_eq_true (by first | (with_reducible assumption) | assumption)
                               obtain ⟨ad229, e229, hx229_0, hx229_1⟩ := at_T39 HR0_2.out a2_1 p229 q229
                               cases e229
                               replace hx229_0 := (HB.out.cell (World.block_lt_of_cell? w _ hx229_0)).trans hx229_0
                               replace hx229_1 := (HB.out.cell (World.block_lt_of_cell? w _ hx229_1)).trans hx229_1
                               replace p229 := eq_true p229
                               replace q229 := eq_true q229
                               go_wp2_with (first | ((with_reducible refine gate_callee (f := 32) rfl ?_); refine goesL_ (some 162) rfl rfl Tryd.func32 (by kernel_rfl) rfl #[.int .i64 ((rd_T39 l0_2 a2_1).f1)] rfl (by (try simp only [List.map_toArray, List.map_cons, List.map_nil]); first | done | rfl | (simp only [List.length_drop, List.length_take]; rfl)) ?_; (with_reducible refine (ladderbackref11_Fields.calls kj133 ((rd_T39 l0_2 a2_1).f1) t230 t231 t232 _ A144.out).mono ?_); rintro e w182 ⟨v233, v235, rfl, ho0, ho1, hb⟩; refine ⟨_, rfl, ?_⟩; have n0_ := Aside0.mk (Kd.R_lower ho0 (below_size (by repeat (first | (with_reducible first | exact HB.out | apply below_alloc | apply pw_below_drewN | apply below_drew1 | refine below_set ?_ GE219.out | refine below_set ?_ GE220.out) | exact HB.out)))); have n1_ := Aside0.mk (Kd.R_lower ho1 (below_size (by repeat (first | (with_reducible first | exact HB.out | apply below_alloc | apply pw_below_drewN | apply below_drew1 | refine below_set ?_ GE219.out | refine below_set ?_ GE220.out) | exact HB.out)))); have n2_ := Aside0.mk (blk_below (g := gb219) (o := .cells #[.slice A0_0 l0_0.length c0_0, .slice A0_1 l0_1.length c0_1, .slice (some ad229) l0_2.length c0_2, .slice A0_3 l0_3.length c0_3] 27 (0, 0)) (by (with_reducible repeat (first | refine blk_drewN ?_ _ | refine blk_drew ?_ | refine blk_alloc ?_ _)); exact BK219.out) hb); have n3_ := Aside0.mk (blk_below (g := gb220) (o := .cells #[.int .i64 a2_0, .int .i64 a2_1, .int .i64 a2_2] 29 (0, 0)) (by (with_reducible repeat (first | refine blk_drewN ?_ _ | refine blk_drew ?_ | refine blk_alloc ?_ _)); exact BK220.out) hb); have n4_ := Aside0.mk (below_step (by repeat (first | (with_reducible first | exact HB.out | apply below_alloc | apply pw_below_drewN | apply below_drew1 | refine below_set ?_ GE219.out | refine below_set ?_ GE220.out) | exact HB.out)) hb); clear BK219; clear BK220; clear HB; have HO234 := n0_; have HO236 := n1_; have BK219 := n2_; have BK220 := n3_; have HB := n4_; clear n0_ n1_ n2_ n3_ n4_; (try clear hb); (try clear hb2); (try clear hk); (try clear hi); (try clear ho0); (try clear ho1); have hcz183_0 : w182.cell? ⟨gb220, 0, none⟩ = some (.int .i64 a2_0) := (blk_cell BK220.out 0).trans rfl; have hcz183_1 : w182.cell? ⟨gb220, 1, none⟩ = some (.int .i64 a2_1) := (blk_cell BK220.out 1).trans rfl; have hcz183_2 : w182.cell? ⟨gb220, 2, none⟩ = some (.int .i64 a2_2) := (blk_cell BK220.out 2).trans rfl; have hfz183_0 := blk_frozen BK220.out 0; have hfz183_1 := blk_frozen BK220.out 1; have hfz183_2 := blk_frozen BK220.out 2; obtain ⟨Ao184, co184, eo184⟩ := Kd.R_slice HO234.out; subst eo184))
                               go_ret
                               exact ⟨by first | rfl | (simp [errW_none, errW_some] <;> rfl) | (simp [*, errW_none, errW_some] <;> rfl), by repeat (first | (with_reducible first | exact HB.out | apply below_alloc | apply pw_below_drewN | apply below_drew1 | refine below_set ?_ GE219.out | refine below_set ?_ GE220.out) | exact HB.out)⟩
                            ·rw [if_neg c171] at H
                             have c171b0 : (a2_0 == 37) = false := beq_eq_false_iff_ne.mpr c171
                             have c171b1 : (a2_0 != 37) = true := bne_iff_ne.mpr c171
                             as_aux_lemma =>
                              obtain rfl := Option.some.inj H
                              have hnb185 := NB219_220.out
                              have hnc185 := NB220_219.out
                              have hcz186_0 : wc.cell? ⟨gb219, 0, none⟩ = some (.slice A0_0 l0_0.length c0_0) := (blk_cell BK219.out 0).trans rfl
                              have hcz186_1 : wc.cell? ⟨gb219, 1, none⟩ = some (.slice A0_1 l0_1.length c0_1) := (blk_cell BK219.out 1).trans rfl
                              have hcz186_2 : wc.cell? ⟨gb219, 2, none⟩ = some (.slice A0_2 l0_2.length c0_2) := (blk_cell BK219.out 2).trans rfl
                              have hcz186_3 : wc.cell? ⟨gb219, 3, none⟩ = some (.slice A0_3 l0_3.length c0_3) := (blk_cell BK219.out 3).trans rfl
                              have hfz186_0 := blk_frozen BK219.out 0
                              have hfz186_1 := blk_frozen BK219.out 1
                              have hfz186_2 := blk_frozen BK219.out 2
                              have hfz186_3 := blk_frozen BK219.out 3
                              have hcz187_0 : wc.cell? ⟨gb220, 0, none⟩ = some (.int .i64 a2_0) := (blk_cell BK220.out 0).trans rfl
                              have hcz187_1 : wc.cell? ⟨gb220, 1, none⟩ = some (.int .i64 a2_1) := (blk_cell BK220.out 1).trans rfl
                              have hcz187_2 : wc.cell? ⟨gb220, 2, none⟩ = some (.int .i64 a2_2) := (blk_cell BK220.out 2).trans rfl
                              have hfz187_0 := blk_frozen BK220.out 0
                              have hfz187_1 := blk_frozen BK220.out 1
                              have hfz187_2 := blk_frozen BK220.out 2
                              have p229 : 0 ≤ (a2_1 : Int) := of_decide_eq_true (by first | (with_reducible assumption) | assumption)
                              have q229 : a2_1 < (l0_2.length : Int) := of_decide_eq_true (by first | (with_reducible assumption) | assumption)
                              obtain ⟨ad229, e229, hx229_0, hx229_1⟩ := at_T39 HR0_2.out a2_1 p229 q229
                              cases e229
                              replace hx229_0 := (HB.out.cell (World.block_lt_of_cell? w _ hx229_0)).trans hx229_0
                              replace hx229_1 := (HB.out.cell (World.block_lt_of_cell? w _ hx229_1)).trans hx229_1
                              replace p229 := eq_true p229
                              replace q229 := eq_true q229
                              go_wp2_with (first | ((with_reducible refine gate_callee (f := 32) rfl ?_); refine goesL_ (some 162) rfl rfl Tryd.func32 (by kernel_rfl) rfl #[.int .i64 ((rd_T39 l0_2 a2_1).f1)] rfl (by (try simp only [List.map_toArray, List.map_cons, List.map_nil]); first | done | rfl | (simp only [List.length_drop, List.length_take]; rfl)) ?_; (with_reducible refine (ladderbackref11_Fields.calls kj133 ((rd_T39 l0_2 a2_1).f1) t230 t231 t232 _ A144.out).mono ?_); rintro e w188 ⟨v233, v235, rfl, ho0, ho1, hb⟩; refine ⟨_, rfl, ?_⟩; have n0_ := Aside0.mk (Kd.R_lower ho0 (below_size (by repeat (first | (with_reducible first | exact HB.out | apply below_alloc | apply pw_below_drewN | apply below_drew1 | refine below_set ?_ GE219.out | refine below_set ?_ GE220.out) | exact HB.out)))); have n1_ := Aside0.mk (Kd.R_lower ho1 (below_size (by repeat (first | (with_reducible first | exact HB.out | apply below_alloc | apply pw_below_drewN | apply below_drew1 | refine below_set ?_ GE219.out | refine below_set ?_ GE220.out) | exact HB.out)))); have n2_ := Aside0.mk (blk_below (g := gb219) (o := .cells #[.slice A0_0 l0_0.length c0_0, .slice A0_1 l0_1.length c0_1, .slice (some ad229) l0_2.length c0_2, .slice A0_3 l0_3.length c0_3] 27 (0, 0)) (by (with_reducible repeat (first | refine blk_drewN ?_ _ | refine blk_drew ?_ | refine blk_alloc ?_ _)); exact BK219.out) hb); have n3_ := Aside0.mk (blk_below (g := gb220) (o := .cells #[.int .i64 a2_0, .int .i64 a2_1, .int .i64 a2_2] 29 (0, 0)) (by (with_reducible repeat (first | refine blk_drewN ?_ _ | refine blk_drew ?_ | refine blk_alloc ?_ _)); exact BK220.out) hb); have n4_ := Aside0.mk (below_step (by repeat (first | (with_reducible first | exact HB.out | apply below_alloc | apply pw_below_drewN | apply below_drew1 | refine below_set ?_ GE219.out | refine below_set ?_ GE220.out) | exact HB.out)) hb); clear BK219; clear BK220; clear HB; have HO234 := n0_; have HO236 := n1_; have BK219 := n2_; have BK220 := n3_; have HB := n4_; clear n0_ n1_ n2_ n3_ n4_; (try clear hb); (try clear hb2); (try clear hk); (try clear hi); (try clear ho0); (try clear ho1); have hcz189_0 : w188.cell? ⟨gb220, 0, none⟩ = some (.int .i64 a2_0) := (blk_cell BK220.out 0).trans rfl; have hcz189_1 : w188.cell? ⟨gb220, 1, none⟩ = some (.int .i64 a2_1) := (blk_cell BK220.out 1).trans rfl; have hcz189_2 : w188.cell? ⟨gb220, 2, none⟩ = some (.int .i64 a2_2) := (blk_cell BK220.out 2).trans rfl; have hfz189_0 := blk_frozen BK220.out 0; have hfz189_1 := blk_frozen BK220.out 1; have hfz189_2 := blk_frozen BK220.out 2))
                              go_ret
                              exact ⟨by first | rfl | (simp [errW_none, errW_some] <;> rfl) | (simp [*, errW_none, errW_some] <;> rfl), by repeat (first | (with_reducible first | exact HB.out | apply below_alloc | apply pw_below_drewN | apply below_drew1 | refine below_set ?_ GE219.out | refine below_set ?_ GE220.out) | exact HB.out)⟩
                          ·rw [if_neg c143] at H
                           exact absurd H (by simp)
                         ·rw [if_neg c142] at H
                          exact absurd H (by simp)
                        ·replace c141 := Bool.eq_false_iff.mpr c141
                         subst c141
                         have H1 : (if (decide (a2_1 < (l0_2.length : Int))) = true then (some 0) else (some 8)) = some r := by rw [if_neg (show ¬ (false = true) by decide)] at H; exact H
                         clear H
                         have H := H1
                         clear H1
                         by_cases c190 : (decide (a2_1 < (l0_2.length : Int))) = true
                         ·rw [if_pos c190] at H
                          have c190b0 : (decide (a2_1 < (l0_2.length : Int))) = true := c190
                          clear c190
                          as_aux_lemma =>
                           obtain rfl := Option.some.inj H
                           go_wp2
                           go_ret
                           exact ⟨by first | rfl | (simp [errW_none, errW_some] <;> rfl) | (simp [*, errW_none, errW_some] <;> rfl), by repeat (first | (with_reducible first | exact HB.out | apply below_alloc | apply pw_below_drewN | apply below_drew1 | refine below_set ?_ GE219.out | refine below_set ?_ GE220.out) | exact HB.out)⟩
                         ·rw [if_neg c190] at H
                          have c190b0 : (decide (a2_1 < (l0_2.length : Int))) = false := by simpa using c190
                          clear c190
                          as_aux_lemma =>
                           obtain rfl := Option.some.inj H
                           go_wp2
                           go_ret
                           exact ⟨by first | rfl | (simp [errW_none, errW_some] <;> rfl) | (simp [*, errW_none, errW_some] <;> rfl), by repeat (first | (with_reducible first | exact HB.out | apply below_alloc | apply pw_below_drewN | apply below_drew1 | refine below_set ?_ GE219.out | refine below_set ?_ GE220.out) | exact HB.out)⟩
                     ·replace c133 := Bool.eq_false_iff.mpr c133
                      subst c133
                      have H1 : (some 0) = some r := by rw [if_neg (show ¬ (false = true) by decide)] at H; exact H
                      clear H
                      have H := H1
                      clear H1
                      as_aux_lemma =>
                       obtain rfl := Option.some.inj H
                       go_wp2
                       go_ret
                       exact ⟨by first | rfl | (simp [errW_none, errW_some] <;> rfl) | (simp [*, errW_none, errW_some] <;> rfl), by repeat (first | (with_reducible first | exact HB.out | apply below_alloc | apply pw_below_drewN | apply below_drew1 | refine below_set ?_ GE219.out | refine below_set ?_ GE220.out) | exact HB.out)⟩
    ·replace c12 := Bool.eq_false_iff.mpr c12
     subst c12
     have H1 : (some 7) = some r := by rw [if_neg (show ¬ (false = true) by decide)] at H; exact H
     clear H
     have H := H1
     clear H1
     as_aux_lemma =>
      obtain rfl := Option.some.inj H
      have hnb191 := NB220_219.out
      have hnc191 := NB219_220.out
      have hcz192_0 : wc.cell? ⟨gb220, 0, none⟩ = some (.int .i64 a2_0) := (blk_cell BK220.out 0).trans rfl
      have hcz192_1 : wc.cell? ⟨gb220, 1, none⟩ = some (.int .i64 a2_1) := (blk_cell BK220.out 1).trans rfl
      have hcz192_2 : wc.cell? ⟨gb220, 2, none⟩ = some (.int .i64 a2_2) := (blk_cell BK220.out 2).trans rfl
      have hfz192_0 := blk_frozen BK220.out 0
      have hfz192_1 := blk_frozen BK220.out 1
      have hfz192_2 := blk_frozen BK220.out 2
      go_wp2_with (first | ((with_reducible refine gate_callee (f := 29) rfl ?_); refine goesL_ (some 21) rfl rfl Tryd.func29 (by kernel_rfl) rfl #[.agg #[.int .i64 a2_0, .int .i64 a2_1, .int .i64 a2_2]] rfl (by (try simp only [List.map_toArray, List.map_cons, List.map_nil]); first | done | rfl | (simp only [List.length_drop, List.length_take]; rfl)) ?_; (with_reducible refine (ladderbackref12_Right.calls kj3 a2_0 a2_1 a2_2 false _ A11.out).mono ?_); rintro e w193 ⟨rfl, hb⟩; refine ⟨_, rfl, ?_⟩; have n0_ := Aside0.mk (blk_below (g := gb219) (o := .cells #[.slice A0_0 l0_0.length c0_0, .slice A0_1 l0_1.length c0_1, .slice A0_2 l0_2.length c0_2, .slice A0_3 l0_3.length c0_3] 27 (0, 0)) (by (with_reducible repeat (first | refine blk_drewN ?_ _ | refine blk_drew ?_ | refine blk_alloc ?_ _)); exact BK219.out) hb); have n1_ := Aside0.mk (blk_below (g := gb220) (o := .cells #[.int .i64 a2_0, .int .i64 a2_1, .int .i64 a2_2] 29 (0, 0)) (by (with_reducible repeat (first | refine blk_drewN ?_ _ | refine blk_drew ?_ | refine blk_alloc ?_ _)); exact BK220.out) hb); have n2_ := Aside0.mk (below_step (by repeat (first | (with_reducible first | exact HB.out | apply below_alloc | apply pw_below_drewN | apply below_drew1 | refine below_set ?_ GE219.out | refine below_set ?_ GE220.out) | exact HB.out)) hb); clear BK219; clear BK220; clear HB; have BK219 := n0_; have BK220 := n1_; have HB := n2_; clear n0_ n1_ n2_; (try clear hb); (try clear hb2); (try clear hk); (try clear hi)))
      go_ret
      exact ⟨by first | rfl | (simp [errW_none, errW_some] <;> rfl) | (simp [*, errW_none, errW_some] <;> rfl), by repeat (first | (with_reducible first | exact HB.out | apply below_alloc | apply pw_below_drewN | apply below_drew1 | refine below_set ?_ GE219.out | refine below_set ?_ GE220.out) | exact HB.out)⟩

end Go.Proofs.YtmcgllcoadbnpaaDoor.PRf
