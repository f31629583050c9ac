/- Printed by a program of this session (wip/pg.py, over the print of the kit): functions, their Lean twins, and the proofs that the calls come to them; each under the conditions that it names. -/
import Derived.Test.YtamajfcjcfkkjaaZCycleBeginsac
import Derived.Test.YtamajfcjcfkkjaaZCycleBeginsah
/- Printed by a program of this session (wip/pg.py, over the print of the kit): functions, their Lean twins, and the proofs that the calls come to them; each under the conditions that it names. -/
namespace Go.Proofs.Ytamajfcjcfkkjaa.PSt
open Go.RowKit Go.Proofs.YtamajfcjcfkkjaaW.PrintWords Go.Proofs.YtamajfcjcfkkjaaW.PrintLast Go.Proofs.YtamajfcjcfkkjaaW.PrintMore
attribute [local go_sem] max2_int min2_int max_two min_two max_three min_three max_four min_four   -- for this text's walks alone
set_option linter.unusedVariables false
set_option linter.unusedSimpArgs false

/-! ### ladderbackref24_Begin: function 14 -/
mutual
def ladderbackref24_Begin.j0 : Nat → List (S60) → List Int → Int → List (List Int) → List (S69) → Int → Int → List (List Int) → List (S69) → Int → Int → Option ((List (List Int)) × (List (S69)) × Int × Int)
  | 0, _, _, _, _, _, _, _, _, _, _, _ => none
  | k + 1, x0, x2, x3, x394000, x394001, x394002, x394003, x404000, x404001, x404002, x404003 => if x3 > 1099511627776 then (ladderbackref24_Begin.j1 k x0 x2 1099511627776 x394000 x394001 x394002 x394003 x404000 x404001 x404002 x404003) else (ladderbackref24_Begin.j1 k x0 x2 x3 x394000 x394001 x394002 x394003 x404000 x404001 x404002 x404003)
def ladderbackref24_Begin.j1 : Nat → List (S60) → List Int → Int → List (List Int) → List (S69) → Int → Int → List (List Int) → List (S69) → Int → Int → Option ((List (List Int)) × (List (S69)) × Int × Int)
  | 0, _, _, _, _, _, _, _, _, _, _, _ => none
  | k + 1, x0, x2, x3, x394000, x394001, x394002, x394003, x404000, x404001, x404002, x404003 => if x404002 > (wrap64 (1099511627776 - x3)) then (ladderbackref24_Begin.j2 k x0 x2 x394000 x394001 x394002 x394003 x404000 x404001 1099511627776 x404003) else (ladderbackref24_Begin.j2 k x0 x2 x394000 x394001 x394002 x394003 x404000 x404001 (wrap64 (x404002 + x3)) x404003)
def ladderbackref24_Begin.j2 : Nat → List (S60) → List Int → List (List Int) → List (S69) → Int → Int → List (List Int) → List (S69) → Int → Int → Option ((List (List Int)) × (List (S69)) × Int × Int)
  | 0, _, _, _, _, _, _, _, _, _, _ => none
  | k + 1, x0, x2, x394000, x394001, x394002, x394003, x404000, x404001, x404002, x404003 => ladderbackref24_Begin.l0 k x0 x2 0 0 x394000 x394001 x394002 x394003 x404000 x404001 x404002 x404003
def ladderbackref24_Begin.l0 : Nat → List (S60) → List Int → Int → Int → List (List Int) → List (S69) → Int → Int → List (List Int) → List (S69) → Int → Int → Option ((List (List Int)) × (List (S69)) × Int × Int)
  | 0, _, _, _, _, _, _, _, _, _, _, _, _ => none
  | k + 1, x0, x2, x10, x11, x394000, x394001, x394002, x394003, x404000, x404001, x404002, x404003 => if x11 < (x0.length : Int) then (ladderbackref24_Begin.j4 k x0 x2 x10 x11 (decide (x11 < (x394000.length : Int))) x394000 x394001 x394002 x394003 x404000 x404001 x404002 x404003) else (ladderbackref24_Begin.j4 k x0 x2 x10 x11 false x394000 x394001 x394002 x394003 x404000 x404001 x404002 x404003)
def ladderbackref24_Begin.j4 : Nat → List (S60) → List Int → Int → Int → Bool → List (List Int) → List (S69) → Int → Int → List (List Int) → List (S69) → Int → Int → Option ((List (List Int)) × (List (S69)) × Int × Int)
  | 0, _, _, _, _, _, _, _, _, _, _, _, _, _ => none
  | k + 1, x0, x2, x10, x11, x40, x394000, x394001, x394002, x394003, x404000, x404001, x404002, x404003 => if x40 = true then (ladderbackref24_Begin.l1 k x0 x2 x10 x11 0 x394000 x394001 x394002 x394003 x404000 x404001 x404002 x404003) else (some (x404000, x404001, x404002, x404003))
def ladderbackref24_Begin.l1 : Nat → List (S60) → List Int → Int → Int → Int → List (List Int) → List (S69) → Int → Int → List (List Int) → List (S69) → Int → Int → Option ((List (List Int)) × (List (S69)) × Int × Int)
  | 0, _, _, _, _, _, _, _, _, _, _, _, _, _ => none
  | k + 1, x0, x2, x10, x11, x12, x394000, x394001, x394002, x394003, x404000, x404001, x404002, x404003 => if 0 ≤ x11 then (if x11 < (x394000.length : Int) then (if x12 < ((rd_L1 x394000 x11).length : Int) then (if x11 < (x0.length : Int) then (ladderbackref24_Begin.j6 k x0 x2 x10 x11 x12 (((rd_T60 x0 x11).f3) == 1) x394000 x394001 x394002 x394003 x404000 x404001 x404002 x404003) else (none)) else (ladderbackref24_Begin.j6 k x0 x2 x10 x11 x12 false x394000 x394001 x394002 x394003 x404000 x404001 x404002 x404003)) else (none)) else (none)
def ladderbackref24_Begin.j6 : Nat → List (S60) → List Int → Int → Int → Int → Bool → List (List Int) → List (S69) → Int → Int → List (List Int) → List (S69) → Int → Int → Option ((List (List Int)) × (List (S69)) × Int × Int)
  | 0, _, _, _, _, _, _, _, _, _, _, _, _, _, _ => none
  | k + 1, x0, x2, x10, x11, x12, x58, x394000, x394001, x394002, x394003, x404000, x404001, x404002, x404003 => if x58 = true then (if 0 ≤ x11 then (if x11 < (x404000.length : Int) then (if 0 ≤ x12 then (if x12 < ((rd_L1 x404000 x11).length : Int) then ((some (x404000.set (x11 : Int).toNat ((rd_L1 x404000 x11).set (x12 : Int).toNat 0) : List (List Int))).bind fun y409 => (if x10 < (x2.length : Int) then (if x11 < (x0.length : Int) then (if 0 ≤ x10 then ((ladderbackref01_Wrap.f ((rd_T60 x0 x11).f1) (rd x2 x10)).bind fun t413 => (if x12 < ((rd_L1 y409 x11).length : Int) then (ladderbackref24_Begin.l1 k x0 x2 (wrap64 (x10 + 1)) x11 (wrap64 (x12 + 1)) x394000 x394001 x394002 x394003 (y409.set (x11 : Int).toNat ((rd_L1 y409 x11).set (x12 : Int).toNat t413)) x404001 x404002 x404003) else (none))) else (none)) else (none)) else (ladderbackref24_Begin.l1 k x0 x2 (wrap64 (x10 + 1)) x11 (wrap64 (x12 + 1)) x394000 x394001 x394002 x394003 y409 x404001 x404002 x404003))) else (none)) else (none)) else (none)) else (none)) else (ladderbackref24_Begin.l0 k x0 x2 x10 (wrap64 (x11 + 1)) x394000 x394001 x394002 x394003 x404000 x404001 x404002 x404003)
end
def ladderbackref24_Begin.f (k : Nat) (l0 : List (S60)) (l1_0 : List (List Int)) (l1_1 : List (S69)) (a1_2 : Int) (a1_3 : Int) (l2 : List Int) (a3 : Int) : Option ((List (List Int)) × (List (S69)) × Int × Int) := (ladderbackref23_Clone.f k l1_0 l1_1 a1_2 a1_3).bind fun bt395 => (if a3 < 0 then (ladderbackref24_Begin.j0 k l0 l2 0 l1_0 l1_1 a1_2 a1_3 bt395.1 bt395.2.1 bt395.2.2.1 bt395.2.2.2) else (ladderbackref24_Begin.j0 k l0 l2 a3 l1_0 l1_1 a1_2 a1_3 bt395.1 bt395.2.1 bt395.2.2.1 bt395.2.2.2))
def ladderbackref24_Begin.T18 : Bool × List (List Nat × List Nat) := (true, [([], []), ([0], [0]), ([], []), ([1, 2], [1, 2]), ([3], [3]), ([], []), ([], []), ([], []), ([6, 7], [6, 7]), ([8], [8]), ([9], [9]), ([], []), ([], []), ([11, 12], [11, 12]), ([13], [13]), ([10, 14], [10, 14]), ([4, 5, 0, 1, 2, 3, 4, 5, 6, 7, 8, 9, 10, 11, 12, 13, 14, 15], [4, 5]), ([16, 15, 15, 0, 1, 2, 3, 4, 5, 6, 7, 8, 9, 10, 11, 12, 13, 14, 15], [15, 16])])
def ladderbackref24_Begin.B18 : List Nat := [0, 1, 0, 7, 15, 0, 0, 0, 192, 448, 960, 0, 0, 6144, 14336, 32704, 65535, 131071]
theorem ladderbackref24_Begin.tab18 : rtab .any (opsOf Try.f14 18) = ladderbackref24_Begin.T18 := by kernel_rfl
theorem ladderbackref24_Begin.bits18 : waitsOk ladderbackref24_Begin.T18.2 ladderbackref24_Begin.B18 = true := by kernel_rfl
set_option maxHeartbeats 8000000 in
set_option maxRecDepth 100000 in
theorem ladderbackref24_Begin.calls (k : Nat) (A0 : Option Addr) (c0 : Nat) (l0 : List (S60)) (A1_0 : Option Addr) (c1_0 : Nat) (l1_0 : List (List Int)) (A1_1 : Option Addr) (c1_1 : Nat) (l1_1 : List (S69)) (a1_2 : Int) (a1_3 : Int) (A2 : Option Addr) (c2 : Nat) (l2 : List Int) (a3 : Int) (r1 : List (List Int)) (r2 : List (S69)) (r3 : Int) (r4 : Int) (w : World) (hr0 : Kd.C k60 w A0 l0.length l0) (hc0 : l0.length ≤ c0) (hr1_0 : Kd.C (Kd.slice 3 (Kd.int .i64)) w A1_0 l1_0.length l1_0) (hc1_0 : l1_0.length ≤ c1_0) (hr1_1 : Kd.C k69 w A1_1 l1_1.length l1_1) (hc1_1 : l1_1.length ≤ c1_1) (hr2 : Kd.C (Kd.int .i64) w A2 l2.length l2) (hc2 : l2.length ≤ c2) (h : ladderbackref24_Begin.f k l0 l1_0 l1_1 a1_2 a1_3 l2 a3 = some (r1, r2, r3, r4)) :
    Calls Try.prog 14 #[.slice A0 l0.length c0, .agg #[.slice A1_0 l1_0.length c1_0, .slice A1_1 l1_1.length c1_1, .int .i64 a1_2, .int .i64 a1_3], .slice A2 l2.length c2, .int .i64 a3] w fun e w' => ∃ v0_ v1_ : Value, e = .returned (.agg #[v0_, v1_, .int .i64 r3, .int .i64 r4]) ∧ Kd.S (Kd.slice 3 (Kd.int .i64)) 32 w' w.heap.size (fun _ => True) v0_ r1 ∧ Kd.R k69 69 w' w.heap.size (fun _ => True) v1_ r2 ∧ Below w.heap.size w w' := by
  have hu31 := Try.underlying31
  have HR0 := Aside0.mk hr0
  have HC0 := Aside0.mk hc0
  clear hr0 hc0
  have HR1_0 := Aside0.mk hr1_0
  have HC1_0 := Aside0.mk hc1_0
  clear hr1_0 hc1_0
  have HR1_1 := Aside0.mk hr1_1
  have HC1_1 := Aside0.mk hc1_1
  clear hr1_1 hc1_1
  have HR2 := Aside0.mk hr2
  have HC2 := Aside0.mk hc2
  clear hr2 hc2
  have HB := Aside0.mk (Below.refl w.heap.size w)
  have H : ((ladderbackref23_Clone.f k l1_0 l1_1 a1_2 a1_3).bind fun bt395 => (if a3 < 0 then (ladderbackref24_Begin.j0 k l0 l2 0 l1_0 l1_1 a1_2 a1_3 bt395.1 bt395.2.1 bt395.2.2.1 bt395.2.2.2) else (ladderbackref24_Begin.j0 k l0 l2 a3 l1_0 l1_1 a1_2 a1_3 bt395.1 bt395.2.1 bt395.2.2.1 bt395.2.2.2))) = some (r1, r2, r3, r4) := h
  clear h
  replace H := Option.bind_eq_some_iff.mp H
  obtain ⟨⟨t395, t398, t401, t402⟩, A50, H⟩ := H
  replace H : (if a3 < 0 then (ladderbackref24_Begin.j0 k l0 l2 0 l1_0 l1_1 a1_2 a1_3 t395 t398 t401 t402) else (ladderbackref24_Begin.j0 k l0 l2 a3 l1_0 l1_1 a1_2 a1_3 t395 t398 t401 t402)) = some (r1, r2, r3, r4) := H
  have A5 := Aside0.mk A50
  clear A50
  have HC6 := Aside0.mk H
  clear H
  go_enter Try.func14, Try.ntmps14
  go_upto_if 16 with (first | ((with_reducible refine gate_dst (N := 5) rfl ?_); (try (refine gate_guard (by rfl) ?_; dsimp only)); refine box_event ?hg (N := 5) ?hd (cs := #[.slice A1_0 l1_0.length c1_0, .slice A1_1 l1_1.length c1_1, .int .i64 a1_2, .int .i64 a1_3]) (t := 31) ?hr ?_; (case hd => rfl); (case hg => rfl); (case hr => first | (go_simp; done) | (go_simp; rfl)); intro gb393 hg w7 hbox hb; have n0_ := Aside0.mk (below_step (by repeat (first | (with_reducible first | exact HB.out | apply below_alloc | apply pw_below_drewN | apply below_drew1) | exact HB.out)) hb); have n1_ := Aside0.mk (hbox); have n2_ := Aside0.mk ((by rw [hg]; exact (below_size (by repeat (first | (with_reducible first | exact HB.out | apply below_alloc | apply pw_below_drewN | apply below_drew1) | exact HB.out))) : w.heap.size ≤ gb393)); have n3_ := Aside0.mk ((by rw [hg]; exact (below_size (by repeat (first | (with_reducible first | exact HB.out | apply below_alloc | apply pw_below_drewN | apply below_drew1) | exact HB.out))) : w.heap.size ≤ gb393)); clear HB; have HB := n0_; have BK393 := n1_; have GW393 := n2_; have GE393 := n3_; clear n0_ n1_ n2_ n3_; clear hb hbox hg) | ((with_reducible refine gate_dst (N := 8) rfl ?_); (try (refine gate_guard (by rfl) ?_; dsimp only)); refine box_event ?hg (N := 8) ?hd (cs := #[.slice none 0 0, .slice none 0 0, .int .i64 0, .int .i64 0]) (t := 31) ?hr ?_; (case hd => rfl); (case hg => rfl); (case hr => first | (go_simp; done) | (go_simp; rfl)); intro gb394 hg w8 hbox hb; have n0_ := Aside0.mk (blk_below (g := gb393) (o := .cells #[.slice A1_0 l1_0.length c1_0, .slice A1_1 l1_1.length c1_1, .int .i64 a1_2, .int .i64 a1_3] 31 (0, 0)) (by (with_reducible repeat (first | refine blk_drewN ?_ _ | refine blk_drew ?_ | refine blk_alloc ?_ _)); exact BK393.out) hb); have n1_ := Aside0.mk (below_step (by repeat (first | (with_reducible first | exact HB.out | apply below_alloc | apply pw_below_drewN | apply below_drew1 | refine below_set ?_ GE393.out) | exact HB.out)) hb); have n2_ := Aside0.mk (hbox); have n3_ := Aside0.mk ((by rw [hg]; exact (below_size (by repeat (first | (with_reducible first | exact HB.out | apply below_alloc | apply pw_below_drewN | apply below_drew1 | refine below_set ?_ GE393.out) | exact HB.out))) : w.heap.size ≤ gb394)); have n4_ := Aside0.mk ((by rw [hg]; exact (below_size (by repeat (first | (with_reducible first | exact HB.out | apply below_alloc | apply pw_below_drewN | apply below_drew1 | refine below_set ?_ GE393.out) | exact HB.out))) : w.heap.size ≤ gb394)); have n5_ := Aside0.mk ((by rw [hg]; exact Nat.ne_of_lt (blk_lt (g := gb393) (o := .cells #[.slice A1_0 l1_0.length c1_0, .slice A1_1 l1_1.length c1_1, .int .i64 a1_2, .int .i64 a1_3] 31 (0, 0)) (by (with_reducible repeat (first | refine blk_drewN ?_ _ | refine blk_drew ?_ | refine blk_alloc ?_ _)); exact BK393.out)) : gb393 ≠ gb394)); have n6_ := Aside0.mk ((by rw [hg]; exact Nat.ne_of_gt (blk_lt (g := gb393) (o := .cells #[.slice A1_0 l1_0.length c1_0, .slice A1_1 l1_1.length c1_1, .int .i64 a1_2, .int .i64 a1_3] 31 (0, 0)) (by (with_reducible repeat (first | refine blk_drewN ?_ _ | refine blk_drew ?_ | refine blk_alloc ?_ _)); exact BK393.out)) : gb394 ≠ gb393)); clear BK393; clear HB; have BK393 := n0_; have HB := n1_; have BK394 := n2_; have GW394 := n3_; have GE394 := n4_; have NB393_394 := n5_; have NB394_393 := n6_; clear n0_ n1_ n2_ n3_ n4_ n5_ n6_; clear hb hbox hg; have hnb9 := NB393_394.out; have hnc9 := NB394_393.out; have hcz10_0 : w8.cell? ⟨gb393, 0, none⟩ = some (.slice A1_0 l1_0.length c1_0) := (blk_cell BK393.out 0).trans rfl; have hcz10_1 : w8.cell? ⟨gb393, 1, none⟩ = some (.slice A1_1 l1_1.length c1_1) := (blk_cell BK393.out 1).trans rfl; have hcz10_2 : w8.cell? ⟨gb393, 2, none⟩ = some (.int .i64 a1_2) := (blk_cell BK393.out 2).trans rfl; have hcz10_3 : w8.cell? ⟨gb393, 3, none⟩ = some (.int .i64 a1_3) := (blk_cell BK393.out 3).trans rfl; have hfz10_0 := blk_frozen BK393.out 0; have hfz10_1 := blk_frozen BK393.out 1; have hfz10_2 := blk_frozen BK393.out 2; have hfz10_3 := blk_frozen BK393.out 3) | ((with_reducible refine gate_callee (f := 11) rfl ?_); refine goesL_ (some 14) rfl rfl Try.func11 (by kernel_rfl) rfl #[.agg #[.slice A1_0 l1_0.length c1_0, .slice A1_1 l1_1.length c1_1, .int .i64 a1_2, .int .i64 a1_3]] rfl (by (try simp only [List.map_toArray, List.map_cons, List.map_nil]); first | done | rfl | (simp only [List.length_drop, List.length_take]; rfl)) ?_; (with_reducible refine (ladderbackref23_Clone.calls k _ _ l1_0 _ _ l1_1 a1_2 a1_3 t395 t398 t401 t402 _ ?side1 ?side2 ?side3 ?side4 A5.out).mono ?_); (case side1 => repeat (first | exact (Kd.C_below HR1_0.out HB.out) | (with_reducible refine Kd.C_alloc ?_ _) | (with_reducible refine Kd.C_drewN ?_ _) | (with_reducible refine Kd.C_drew ?_))); (case side2 => exact HC1_0.out); (case side3 => repeat (first | exact (Kd.C_below HR1_1.out HB.out) | (with_reducible refine Kd.C_alloc ?_ _) | (with_reducible refine Kd.C_drewN ?_ _) | (with_reducible refine Kd.C_drew ?_))); (case side4 => exact HC1_1.out); rintro e w11 ⟨v396, v399, rfl, ho0, ho1, hb⟩; refine ⟨_, rfl, ?_⟩; have n0_ := Aside0.mk (Kd.S_lower ho0 (below_size (by repeat (first | (with_reducible first | exact HB.out | apply below_alloc | apply pw_below_drewN | apply below_drew1 | refine below_set ?_ GE393.out | refine below_set ?_ GE394.out) | exact HB.out)))); have n1_ := Aside0.mk (Kd.R_lower ho1 (below_size (by repeat (first | (with_reducible first | exact HB.out | apply below_alloc | apply pw_below_drewN | apply below_drew1 | refine below_set ?_ GE393.out | refine below_set ?_ GE394.out) | exact HB.out)))); have n2_ := Aside0.mk (blk_below (g := gb393) (o := .cells #[.slice A1_0 l1_0.length c1_0, .slice A1_1 l1_1.length c1_1, .int .i64 a1_2, .int .i64 a1_3] 31 (0, 0)) (by (with_reducible repeat (first | refine blk_drewN ?_ _ | refine blk_drew ?_ | refine blk_alloc ?_ _)); exact BK393.out) hb); have n3_ := Aside0.mk (blk_below (g := gb394) (o := .cells #[.slice none 0 0, .slice none 0 0, .int .i64 0, .int .i64 0] 31 (0, 0)) (by (with_reducible repeat (first | refine blk_drewN ?_ _ | refine blk_drew ?_ | refine blk_alloc ?_ _)); exact BK394.out) hb); have n4_ := Aside0.mk (below_step (by repeat (first | (with_reducible first | exact HB.out | apply below_alloc | apply pw_below_drewN | apply below_drew1 | refine below_set ?_ GE393.out | refine below_set ?_ GE394.out) | exact HB.out)) hb); clear BK393; clear BK394; clear HB; have HO397 := n0_; have HO400 := n1_; have BK393 := n2_; have BK394 := n3_; have HB := n4_; clear n0_ n1_ n2_ n3_ n4_; (try clear hb); (try clear hb2); (try clear hk); (try clear hi); (try clear ho0); (try clear ho1)) | ((with_reducible refine gate_dst (N := 9) rfl ?_); (try (refine gate_guard (by rfl) ?_; dsimp only)); refine box_event ?hg (N := 9) ?hd (cs := #[.slice none 0 0, .slice none 0 0, .int .i64 0, .int .i64 0]) (t := 31) ?hr ?_; (case hd => rfl); (case hg => rfl); (case hr => first | (go_simp; done) | (go_simp; rfl)); intro gb403 hg w12 hbox hb; have n0_ := Aside0.mk (Kd.S_below (by (with_reducible repeat (first | apply Kd.S_alloc | apply Kd.S_drewN | apply Kd.S_drew)); exact HO397.out) hb); have n1_ := Aside0.mk (Kd.R_below (by (with_reducible repeat (first | apply Kd.R_alloc | apply Kd.R_drewN | apply Kd.R_drew)); exact HO400.out) hb); have n2_ := Aside0.mk (blk_below (g := gb393) (o := .cells #[.slice A1_0 l1_0.length c1_0, .slice A1_1 l1_1.length c1_1, .int .i64 a1_2, .int .i64 a1_3] 31 (0, 0)) (by (with_reducible repeat (first | refine blk_drewN ?_ _ | refine blk_drew ?_ | refine blk_alloc ?_ _)); exact BK393.out) hb); have n3_ := Aside0.mk (blk_below (g := gb394) (o := .cells #[.slice none 0 0, .slice none 0 0, .int .i64 0, .int .i64 0] 31 (0, 0)) (by (with_reducible repeat (first | refine blk_drewN ?_ _ | refine blk_drew ?_ | refine blk_alloc ?_ _)); exact BK394.out) hb); have n4_ := Aside0.mk (below_step (by repeat (first | (with_reducible first | exact HB.out | apply below_alloc | apply pw_below_drewN | apply below_drew1 | refine below_set ?_ GE393.out | refine below_set ?_ GE394.out) | exact HB.out)) hb); have n5_ := Aside0.mk (hbox); have n6_ := Aside0.mk ((by rw [hg]; exact (below_size (by repeat (first | (with_reducible first | exact HB.out | apply below_alloc | apply pw_below_drewN | apply below_drew1 | refine below_set ?_ GE393.out | refine below_set ?_ GE394.out) | exact HB.out))) : w.heap.size ≤ gb403)); have n7_ := Aside0.mk ((by rw [hg]; exact (below_size (by repeat (first | (with_reducible first | exact HB.out | apply below_alloc | apply pw_below_drewN | apply below_drew1 | refine below_set ?_ GE393.out | refine below_set ?_ GE394.out) | exact HB.out))) : w.heap.size ≤ gb403)); have n8_ := Aside0.mk ((by rw [hg]; exact Nat.ne_of_lt (blk_lt (g := gb393) (o := .cells #[.slice A1_0 l1_0.length c1_0, .slice A1_1 l1_1.length c1_1, .int .i64 a1_2, .int .i64 a1_3] 31 (0, 0)) (by (with_reducible repeat (first | refine blk_drewN ?_ _ | refine blk_drew ?_ | refine blk_alloc ?_ _)); exact BK393.out)) : gb393 ≠ gb403)); have n9_ := Aside0.mk ((by rw [hg]; exact Nat.ne_of_gt (blk_lt (g := gb393) (o := .cells #[.slice A1_0 l1_0.length c1_0, .slice A1_1 l1_1.length c1_1, .int .i64 a1_2, .int .i64 a1_3] 31 (0, 0)) (by (with_reducible repeat (first | refine blk_drewN ?_ _ | refine blk_drew ?_ | refine blk_alloc ?_ _)); exact BK393.out)) : gb403 ≠ gb393)); have n10_ := Aside0.mk ((by rw [hg]; exact Nat.ne_of_lt (blk_lt (g := gb394) (o := .cells #[.slice none 0 0, .slice none 0 0, .int .i64 0, .int .i64 0] 31 (0, 0)) (by (with_reducible repeat (first | refine blk_drewN ?_ _ | refine blk_drew ?_ | refine blk_alloc ?_ _)); exact BK394.out)) : gb394 ≠ gb403)); have n11_ := Aside0.mk ((by rw [hg]; exact Nat.ne_of_gt (blk_lt (g := gb394) (o := .cells #[.slice none 0 0, .slice none 0 0, .int .i64 0, .int .i64 0] 31 (0, 0)) (by (with_reducible repeat (first | refine blk_drewN ?_ _ | refine blk_drew ?_ | refine blk_alloc ?_ _)); exact BK394.out)) : gb403 ≠ gb394)); clear HO397; clear HO400; clear BK393; clear BK394; clear HB; have HO397 := n0_; have HO400 := n1_; have BK393 := n2_; have BK394 := n3_; have HB := n4_; have BK403 := n5_; have GW403 := n6_; have GE403 := n7_; have NB393_403 := n8_; have NB403_393 := n9_; have NB394_403 := n10_; have NB403_394 := n11_; clear n0_ n1_ n2_ n3_ n4_ n5_ n6_ n7_ n8_ n9_ n10_ n11_; clear hb hbox hg; obtain ⟨Ao13, co13, eo13⟩ := Kd.S_slice HO397.out; subst eo13; have hnb14 := NB403_393.out; have hnc14 := NB393_403.out; have hnb15 := NB403_394.out; have hnc15 := NB394_403.out; have hcz16_0 : w12.cell? ⟨gb403, 0, none⟩ = some (.slice none 0 0) := (blk_cell BK403.out 0).trans rfl; have hcz16_1 : w12.cell? ⟨gb403, 1, none⟩ = some (.slice none 0 0) := (blk_cell BK403.out 1).trans rfl; have hcz16_2 : w12.cell? ⟨gb403, 2, none⟩ = some (.int .i64 0) := (blk_cell BK403.out 2).trans rfl; have hcz16_3 : w12.cell? ⟨gb403, 3, none⟩ = some (.int .i64 0) := (blk_cell BK403.out 3).trans rfl; have hfz16_0 := blk_frozen BK403.out 0; have hfz16_1 := blk_frozen BK403.out 1; have hfz16_2 := blk_frozen BK403.out 2; have hfz16_3 := blk_frozen BK403.out 3; obtain ⟨Ao17, co17, eo17⟩ := Kd.R_slice HO400.out; subst eo17))
  (try simp only [Act.put, List.setIfInBounds_toArray, List.set_cons_zero, List.set_cons_succ])
  go_cut [3] (fun v3 wc => ∃ (kq : Nat) (x3_5 : Int), v3 = .int .i64 x3_5 ∧ Aside0 (ladderbackref24_Begin.j0 kq l0 l2 x3_5 l1_0 l1_1 a1_2 a1_3 t395 t398 t401 t402 = some (r1, r2, r3, r4)) ∧ Aside0 (kq ≤ k) ∧ Aside0 (Kd.S (Kd.slice 3 (Kd.int .i64)) 32 wc w.heap.size (fun _ => True) (.slice Ao13 t395.length co13) t395) ∧ Aside0 (Kd.R k69 69 wc w.heap.size (fun _ => True) (.slice Ao17 t398.length co17) t398) ∧ Aside0 (wc.heap[gb393]? = some (.cells #[(.slice A1_0 l1_0.length c1_0), (.slice A1_1 l1_1.length c1_1), .int .i64 a1_2, .int .i64 a1_3] 31 (0, 0))) ∧ Aside0 (wc.heap[gb394]? = some (.cells #[(.slice none 0 0), (.slice none 0 0), .int .i64 0, .int .i64 0] 31 (0, 0))) ∧ Aside0 (wc.heap[gb403]? = some (.cells #[(.slice Ao13 t395.length co13), (.slice Ao17 t398.length co17), .int .i64 t401, .int .i64 t402] 31 (0, 0))) ∧ Aside0 (Below w.heap.size w wc))
  case first =>
    have H := HC6.out
    clear HC6
    by_cases c18 : a3 < 0
    · rw [if_pos c18] at H
      have c18b0 : decide (a3 < 0) = true := decide_eq_true c18
      clear c18
      (first | rw [c18b0] | (simp only [i64_w, i32_w]; rw [c18b0]) | skip)
      have H' := Aside0.mk H
      clear H
      go_wp2
      go_meet
      case rel => exact ⟨_, (0), (by first | rfl | (simp; done) | (simp [*]; done)), H', ⟨by first | omega | exact Nat.le_refl _⟩, ⟨by (with_reducible repeat (first | apply Kd.S_alloc | apply Kd.S_drewN | apply Kd.S_drew)); exact Kd.S_mono (Kd.S_far (p := ⟨gb403, 3, none⟩) (Kd.S_far (p := ⟨gb403, 2, none⟩) (Kd.S_far (p := ⟨gb403, 1, none⟩) (Kd.S_far (p := ⟨gb403, 0, none⟩) (Kd.S_types HO397.out BK403.out (by decide)) (fun _ hk => hk.2) (.slice Ao13 t395.length co13)) (fun _ hk => hk.2) (.slice Ao17 t398.length co17)) (fun _ hk => hk.2) (.int .i64 t401)) (fun _ hk => hk.2) (.int .i64 t402)) (fun _ hk => trivial)⟩, ⟨by (with_reducible repeat (first | apply Kd.R_alloc | apply Kd.R_drewN | apply Kd.R_drew)); exact Kd.R_mono (Kd.R_far (p := ⟨gb403, 3, none⟩) (Kd.R_far (p := ⟨gb403, 2, none⟩) (Kd.R_far (p := ⟨gb403, 1, none⟩) (Kd.R_far (p := ⟨gb403, 0, none⟩) (Kd.R_types HO400.out BK403.out (by decide)) (fun _ hk => hk.2) (.slice Ao13 t395.length co13)) (fun _ hk => hk.2) (.slice Ao17 t398.length co17)) (fun _ hk => hk.2) (.int .i64 t401)) (fun _ hk => hk.2) (.int .i64 t402)) (fun _ hk => trivial)⟩, ⟨by (with_reducible repeat (first | refine blk_drewN ?_ _ | refine blk_drew ?_ | refine blk_alloc ?_ _)); refine blk_far ?_ NB393_403.out _; (with_reducible repeat (first | refine blk_drewN ?_ _ | refine blk_drew ?_ | refine blk_alloc ?_ _)); refine blk_far ?_ NB393_403.out _; (with_reducible repeat (first | refine blk_drewN ?_ _ | refine blk_drew ?_ | refine blk_alloc ?_ _)); refine blk_far ?_ NB393_403.out _; (with_reducible repeat (first | refine blk_drewN ?_ _ | refine blk_drew ?_ | refine blk_alloc ?_ _)); refine blk_far ?_ NB393_403.out _; (with_reducible repeat (first | refine blk_drewN ?_ _ | refine blk_drew ?_ | refine blk_alloc ?_ _)); exact BK393.out⟩, ⟨by (with_reducible repeat (first | refine blk_drewN ?_ _ | refine blk_drew ?_ | refine blk_alloc ?_ _)); refine blk_far ?_ NB394_403.out _; (with_reducible repeat (first | refine blk_drewN ?_ _ | refine blk_drew ?_ | refine blk_alloc ?_ _)); refine blk_far ?_ NB394_403.out _; (with_reducible repeat (first | refine blk_drewN ?_ _ | refine blk_drew ?_ | refine blk_alloc ?_ _)); refine blk_far ?_ NB394_403.out _; (with_reducible repeat (first | refine blk_drewN ?_ _ | refine blk_drew ?_ | refine blk_alloc ?_ _)); refine blk_far ?_ NB394_403.out _; (with_reducible repeat (first | refine blk_drewN ?_ _ | refine blk_drew ?_ | refine blk_alloc ?_ _)); exact BK394.out⟩, ⟨by (with_reducible repeat (first | refine blk_drewN ?_ _ | refine blk_drew ?_ | refine blk_alloc ?_ _)); refine blk_put (cs := #[.slice Ao13 t395.length co13, .slice Ao17 t398.length co17, .int .i64 t401, .int .i64 0]) ?_ 3 _ rfl; (with_reducible repeat (first | refine blk_drewN ?_ _ | refine blk_drew ?_ | refine blk_alloc ?_ _)); refine blk_put (cs := #[.slice Ao13 t395.length co13, .slice Ao17 t398.length co17, .int .i64 0, .int .i64 0]) ?_ 2 _ rfl; (with_reducible repeat (first | refine blk_drewN ?_ _ | refine blk_drew ?_ | refine blk_alloc ?_ _)); refine blk_put (cs := #[.slice Ao13 t395.length co13, .slice none 0 0, .int .i64 0, .int .i64 0]) ?_ 1 _ rfl; (with_reducible repeat (first | refine blk_drewN ?_ _ | refine blk_drew ?_ | refine blk_alloc ?_ _)); refine blk_put (cs := #[.slice none 0 0, .slice none 0 0, .int .i64 0, .int .i64 0]) ?_ 0 _ rfl; (with_reducible repeat (first | refine blk_drewN ?_ _ | refine blk_drew ?_ | refine blk_alloc ?_ _)); exact BK403.out⟩, ⟨by repeat (first | (with_reducible first | exact HB.out | apply below_alloc | apply pw_below_drewN | apply below_drew1 | refine below_set ?_ GE393.out | refine below_set ?_ GE394.out | refine below_set ?_ GE403.out) | exact HB.out)⟩⟩
    · rw [if_neg c18] at H
      have c18b0 : decide (a3 < 0) = false := decide_eq_false c18
      clear c18
      (first | rw [c18b0] | (simp only [i64_w, i32_w]; rw [c18b0]) | skip)
      have H' := Aside0.mk H
      clear H
      go_wp2
      go_meet
      case rel => exact ⟨_, (a3), (by first | rfl | (simp; done) | (simp [*]; done)), H', ⟨by first | omega | exact Nat.le_refl _⟩, ⟨by (with_reducible repeat (first | apply Kd.S_alloc | apply Kd.S_drewN | apply Kd.S_drew)); exact Kd.S_mono (Kd.S_far (p := ⟨gb403, 3, none⟩) (Kd.S_far (p := ⟨gb403, 2, none⟩) (Kd.S_far (p := ⟨gb403, 1, none⟩) (Kd.S_far (p := ⟨gb403, 0, none⟩) (Kd.S_types HO397.out BK403.out (by decide)) (fun _ hk => hk.2) (.slice Ao13 t395.length co13)) (fun _ hk => hk.2) (.slice Ao17 t398.length co17)) (fun _ hk => hk.2) (.int .i64 t401)) (fun _ hk => hk.2) (.int .i64 t402)) (fun _ hk => trivial)⟩, ⟨by (with_reducible repeat (first | apply Kd.R_alloc | apply Kd.R_drewN | apply Kd.R_drew)); exact Kd.R_mono (Kd.R_far (p := ⟨gb403, 3, none⟩) (Kd.R_far (p := ⟨gb403, 2, none⟩) (Kd.R_far (p := ⟨gb403, 1, none⟩) (Kd.R_far (p := ⟨gb403, 0, none⟩) (Kd.R_types HO400.out BK403.out (by decide)) (fun _ hk => hk.2) (.slice Ao13 t395.length co13)) (fun _ hk => hk.2) (.slice Ao17 t398.length co17)) (fun _ hk => hk.2) (.int .i64 t401)) (fun _ hk => hk.2) (.int .i64 t402)) (fun _ hk => trivial)⟩, ⟨by (with_reducible repeat (first | refine blk_drewN ?_ _ | refine blk_drew ?_ | refine blk_alloc ?_ _)); refine blk_far ?_ NB393_403.out _; (with_reducible repeat (first | refine blk_drewN ?_ _ | refine blk_drew ?_ | refine blk_alloc ?_ _)); refine blk_far ?_ NB393_403.out _; (with_reducible repeat (first | refine blk_drewN ?_ _ | refine blk_drew ?_ | refine blk_alloc ?_ _)); refine blk_far ?_ NB393_403.out _; (with_reducible repeat (first | refine blk_drewN ?_ _ | refine blk_drew ?_ | refine blk_alloc ?_ _)); refine blk_far ?_ NB393_403.out _; (with_reducible repeat (first | refine blk_drewN ?_ _ | refine blk_drew ?_ | refine blk_alloc ?_ _)); exact BK393.out⟩, ⟨by (with_reducible repeat (first | refine blk_drewN ?_ _ | refine blk_drew ?_ | refine blk_alloc ?_ _)); refine blk_far ?_ NB394_403.out _; (with_reducible repeat (first | refine blk_drewN ?_ _ | refine blk_drew ?_ | refine blk_alloc ?_ _)); refine blk_far ?_ NB394_403.out _; (with_reducible repeat (first | refine blk_drewN ?_ _ | refine blk_drew ?_ | refine blk_alloc ?_ _)); refine blk_far ?_ NB394_403.out _; (with_reducible repeat (first | refine blk_drewN ?_ _ | refine blk_drew ?_ | refine blk_alloc ?_ _)); refine blk_far ?_ NB394_403.out _; (with_reducible repeat (first | refine blk_drewN ?_ _ | refine blk_drew ?_ | refine blk_alloc ?_ _)); exact BK394.out⟩, ⟨by (with_reducible repeat (first | refine blk_drewN ?_ _ | refine blk_drew ?_ | refine blk_alloc ?_ _)); refine blk_put (cs := #[.slice Ao13 t395.length co13, .slice Ao17 t398.length co17, .int .i64 t401, .int .i64 0]) ?_ 3 _ rfl; (with_reducible repeat (first | refine blk_drewN ?_ _ | refine blk_drew ?_ | refine blk_alloc ?_ _)); refine blk_put (cs := #[.slice Ao13 t395.length co13, .slice Ao17 t398.length co17, .int .i64 0, .int .i64 0]) ?_ 2 _ rfl; (with_reducible repeat (first | refine blk_drewN ?_ _ | refine blk_drew ?_ | refine blk_alloc ?_ _)); refine blk_put (cs := #[.slice Ao13 t395.length co13, .slice none 0 0, .int .i64 0, .int .i64 0]) ?_ 1 _ rfl; (with_reducible repeat (first | refine blk_drewN ?_ _ | refine blk_drew ?_ | refine blk_alloc ?_ _)); refine blk_put (cs := #[.slice none 0 0, .slice none 0 0, .int .i64 0, .int .i64 0]) ?_ 0 _ rfl; (with_reducible repeat (first | refine blk_drewN ?_ _ | refine blk_drew ?_ | refine blk_alloc ?_ _)); exact BK403.out⟩, ⟨by repeat (first | (with_reducible first | exact HB.out | apply below_alloc | apply pw_below_drewN | apply below_drew1 | refine below_set ?_ GE393.out | refine below_set ?_ GE394.out | refine below_set ?_ GE403.out) | exact HB.out)⟩⟩
  case rest =>
    clear HC6
    try clear c1
    try clear c2
    try clear p2
    try clear c9
    try clear c11
    try clear c14
    try clear c15
    try clear c18
    try clear c18b0
    try clear hcz10_0
    try clear hcz10_1
    try clear hcz10_2
    try clear hcz10_3
    try clear hcz16_0
    try clear hcz16_1
    try clear hcz16_2
    try clear hcz16_3
    try clear hfz10_0
    try clear hfz10_1
    try clear hfz10_2
    try clear hfz10_3
    try clear hfz16_0
    try clear hfz16_1
    try clear hfz16_2
    try clear hfz16_3
    obtain ⟨kq, x3_5, rfl, HA, HJ5, HO_404000, HO_404001, BK393, BK394, BK403, HB⟩ := hcut
    cases kq with
    | zero => exact absurd HA.out (by simp [ladderbackref24_Begin.j0])
    | succ kj5 =>
      have H := HA.out
      clear HA
      simp only [ladderbackref24_Begin.j0] at H
      have HC19 := Aside0.mk H
      clear H
      go_upto_if 18 with (fail)
      go_cut [3] (fun v3 wc => ∃ (kq : Nat) (x3_18 : Int), v3 = .int .i64 x3_18 ∧ Aside0 (ladderbackref24_Begin.j1 kq l0 l2 x3_18 l1_0 l1_1 a1_2 a1_3 t395 t398 t401 t402 = some (r1, r2, r3, r4)) ∧ Aside0 (kq ≤ kj5) ∧ Aside0 (Kd.S (Kd.slice 3 (Kd.int .i64)) 32 wc w.heap.size (fun _ => True) (.slice Ao13 t395.length co13) t395) ∧ Aside0 (Kd.R k69 69 wc w.heap.size (fun _ => True) (.slice Ao17 t398.length co17) t398) ∧ Aside0 (wc.heap[gb393]? = some (.cells #[(.slice A1_0 l1_0.length c1_0), (.slice A1_1 l1_1.length c1_1), .int .i64 a1_2, .int .i64 a1_3] 31 (0, 0))) ∧ Aside0 (wc.heap[gb394]? = some (.cells #[(.slice none 0 0), (.slice none 0 0), .int .i64 0, .int .i64 0] 31 (0, 0))) ∧ Aside0 (wc.heap[gb403]? = some (.cells #[(.slice Ao13 t395.length co13), (.slice Ao17 t398.length co17), .int .i64 t401, .int .i64 t402] 31 (0, 0))) ∧ Aside0 (Below w.heap.size w wc))
      case first =>
        have H := HC19.out
        clear HC19
        by_cases c20 : x3_5 > 1099511627776
        · rw [if_pos c20] at H
          have c20b0 : decide (1099511627776 < x3_5) = true := decide_eq_true c20
          clear c20
          (first | rw [c20b0] | (simp only [i64_w, i32_w]; rw [c20b0]) | skip)
          have H' := Aside0.mk H
          clear H
          go_wp2
          go_meet
          case rel => exact ⟨_, (1099511627776), (by first | rfl | (simp; done) | (simp [*]; done)), H', ⟨by have := HJ5.out; first | omega | exact Nat.le_refl _⟩, ⟨by (with_reducible repeat (first | apply Kd.S_alloc | apply Kd.S_drewN | apply Kd.S_drew)); exact HO_404000.out⟩, ⟨by (with_reducible repeat (first | apply Kd.R_alloc | apply Kd.R_drewN | apply Kd.R_drew)); exact HO_404001.out⟩, ⟨by (with_reducible repeat (first | refine blk_drewN ?_ _ | refine blk_drew ?_ | refine blk_alloc ?_ _)); exact BK393.out⟩, ⟨by (with_reducible repeat (first | refine blk_drewN ?_ _ | refine blk_drew ?_ | refine blk_alloc ?_ _)); exact BK394.out⟩, ⟨by (with_reducible repeat (first | refine blk_drewN ?_ _ | refine blk_drew ?_ | refine blk_alloc ?_ _)); exact BK403.out⟩, ⟨by repeat (first | (with_reducible first | exact HB.out | apply below_alloc | apply pw_below_drewN | apply below_drew1 | refine below_set ?_ GE393.out | refine below_set ?_ GE394.out | refine below_set ?_ GE403.out) | exact HB.out)⟩⟩
        · rw [if_neg c20] at H
          have c20b0 : decide (1099511627776 < x3_5) = false := decide_eq_false c20
          clear c20
          (first | rw [c20b0] | (simp only [i64_w, i32_w]; rw [c20b0]) | skip)
          have H' := Aside0.mk H
          clear H
          go_wp2
          go_meet
          case rel => exact ⟨_, (x3_5), (by first | rfl | (simp; done) | (simp [*]; done)), H', ⟨by have := HJ5.out; first | omega | exact Nat.le_refl _⟩, ⟨by (with_reducible repeat (first | apply Kd.S_alloc | apply Kd.S_drewN | apply Kd.S_drew)); exact HO_404000.out⟩, ⟨by (with_reducible repeat (first | apply Kd.R_alloc | apply Kd.R_drewN | apply Kd.R_drew)); exact HO_404001.out⟩, ⟨by (with_reducible repeat (first | refine blk_drewN ?_ _ | refine blk_drew ?_ | refine blk_alloc ?_ _)); exact BK393.out⟩, ⟨by (with_reducible repeat (first | refine blk_drewN ?_ _ | refine blk_drew ?_ | refine blk_alloc ?_ _)); exact BK394.out⟩, ⟨by (with_reducible repeat (first | refine blk_drewN ?_ _ | refine blk_drew ?_ | refine blk_alloc ?_ _)); exact BK403.out⟩, ⟨by repeat (first | (with_reducible first | exact HB.out | apply below_alloc | apply pw_below_drewN | apply below_drew1 | refine below_set ?_ GE393.out | refine below_set ?_ GE394.out | refine below_set ?_ GE403.out) | exact HB.out)⟩⟩
      case rest =>
        clear HC19
        try clear c1
        try clear c2
        try clear p2
        try clear c9
        try clear c11
        try clear c14
        try clear c15
        try clear c18
        try clear c18b0
        try clear c20
        try clear c20b0
        try clear hcz10_0
        try clear hcz10_1
        try clear hcz10_2
        try clear hcz10_3
        try clear hcz16_0
        try clear hcz16_1
        try clear hcz16_2
        try clear hcz16_3
        try clear hfz10_0
        try clear hfz10_1
        try clear hfz10_2
        try clear hfz10_3
        try clear hfz16_0
        try clear hfz16_1
        try clear hfz16_2
        try clear hfz16_3
        try clear p2
        obtain ⟨kq, x3_18, rfl, HA, HJ18, HO_404000, HO_404001, BK393, BK394, BK403, HB⟩ := hcut
        cases kq with
        | zero => exact absurd HA.out (by simp [ladderbackref24_Begin.j1])
        | succ kj18 =>
          have H := HA.out
          clear HA
          simp only [ladderbackref24_Begin.j1] at H
          have HC21 := Aside0.mk H
          clear H
          have hnb22 := NB403_393.out
          have hnc22 := NB393_403.out
          have hnb23 := NB403_394.out
          have hnc23 := NB394_403.out
          have hcz24_0 : wc.cell? ⟨gb403, 0, none⟩ = some (.slice Ao13 t395.length co13) := (blk_cell BK403.out 0).trans rfl
          have hcz24_1 : wc.cell? ⟨gb403, 1, none⟩ = some (.slice Ao17 t398.length co17) := (blk_cell BK403.out 1).trans rfl
          have hcz24_2 : wc.cell? ⟨gb403, 2, none⟩ = some (.int .i64 t401) := (blk_cell BK403.out 2).trans rfl
          have hcz24_3 : wc.cell? ⟨gb403, 3, none⟩ = some (.int .i64 t402) := (blk_cell BK403.out 3).trans rfl
          have hfz24_0 := blk_frozen BK403.out 0
          have hfz24_1 := blk_frozen BK403.out 1
          have hfz24_2 := blk_frozen BK403.out 2
          have hfz24_3 := blk_frozen BK403.out 3
          go_upto_if 23 with (fail)
          go_cut [] (fun wc => ∃ (kq : Nat) (x404002_20 : Int), Aside0 (ladderbackref24_Begin.j2 kq l0 l2 l1_0 l1_1 a1_2 a1_3 t395 t398 x404002_20 t402 = some (r1, r2, r3, r4)) ∧ Aside0 (kq ≤ kj18) ∧ Aside0 (Kd.S (Kd.slice 3 (Kd.int .i64)) 32 wc w.heap.size (fun _ => True) (.slice Ao13 t395.length co13) t395) ∧ Aside0 (Kd.R k69 69 wc w.heap.size (fun _ => True) (.slice Ao17 t398.length co17) t398) ∧ Aside0 (wc.heap[gb393]? = some (.cells #[(.slice A1_0 l1_0.length c1_0), (.slice A1_1 l1_1.length c1_1), .int .i64 a1_2, .int .i64 a1_3] 31 (0, 0))) ∧ Aside0 (wc.heap[gb394]? = some (.cells #[(.slice none 0 0), (.slice none 0 0), .int .i64 0, .int .i64 0] 31 (0, 0))) ∧ Aside0 (wc.heap[gb403]? = some (.cells #[(.slice Ao13 t395.length co13), (.slice Ao17 t398.length co17), .int .i64 x404002_20, .int .i64 t402] 31 (0, 0))) ∧ Aside0 (Below w.heap.size w wc))
          case first =>
            have H := HC21.out
            clear HC21
            by_cases c25 : t401 > (wrap64 (1099511627776 - x3_18))
            · rw [if_pos c25] at H
              have c25b0 : decide ((wrap64 (1099511627776 - x3_18)) < t401) = true := decide_eq_true c25
              clear c25
              (first | rw [c25b0] | (simp only [i64_w, i32_w]; rw [c25b0]) | skip)
              have H' := Aside0.mk H
              clear H
              have hnb26 := NB403_393.out
              have hnc26 := NB393_403.out
              have hnb27 := NB403_394.out
              have hnc27 := NB394_403.out
              have hcz28_0 : wc.cell? ⟨gb403, 0, none⟩ = some (.slice Ao13 t395.length co13) := (blk_cell BK403.out 0).trans rfl
              have hcz28_1 : wc.cell? ⟨gb403, 1, none⟩ = some (.slice Ao17 t398.length co17) := (blk_cell BK403.out 1).trans rfl
              have hcz28_2 : wc.cell? ⟨gb403, 2, none⟩ = some (.int .i64 t401) := (blk_cell BK403.out 2).trans rfl
              have hcz28_3 : wc.cell? ⟨gb403, 3, none⟩ = some (.int .i64 t402) := (blk_cell BK403.out 3).trans rfl
              have hfz28_0 := blk_frozen BK403.out 0
              have hfz28_1 := blk_frozen BK403.out 1
              have hfz28_2 := blk_frozen BK403.out 2
              have hfz28_3 := blk_frozen BK403.out 3
              go_wp2
              go_meet
              case rel => exact ⟨_, (1099511627776), H', ⟨by have := HJ5.out; have := HJ18.out; first | omega | exact Nat.le_refl _⟩, ⟨by (with_reducible repeat (first | apply Kd.S_alloc | apply Kd.S_drewN | apply Kd.S_drew)); exact Kd.S_mono (Kd.S_far (p := ⟨gb403, 2, none⟩) (Kd.S_types HO_404000.out BK403.out (by decide)) (fun _ hk => hk.2) (.int .i64 1099511627776)) (fun _ hk => trivial)⟩, ⟨by (with_reducible repeat (first | apply Kd.R_alloc | apply Kd.R_drewN | apply Kd.R_drew)); exact Kd.R_mono (Kd.R_far (p := ⟨gb403, 2, none⟩) (Kd.R_types HO_404001.out BK403.out (by decide)) (fun _ hk => hk.2) (.int .i64 1099511627776)) (fun _ hk => trivial)⟩, ⟨by (with_reducible repeat (first | refine blk_drewN ?_ _ | refine blk_drew ?_ | refine blk_alloc ?_ _)); refine blk_far ?_ NB393_403.out _; (with_reducible repeat (first | refine blk_drewN ?_ _ | refine blk_drew ?_ | refine blk_alloc ?_ _)); exact BK393.out⟩, ⟨by (with_reducible repeat (first | refine blk_drewN ?_ _ | refine blk_drew ?_ | refine blk_alloc ?_ _)); refine blk_far ?_ NB394_403.out _; (with_reducible repeat (first | refine blk_drewN ?_ _ | refine blk_drew ?_ | refine blk_alloc ?_ _)); exact BK394.out⟩, ⟨by (with_reducible repeat (first | refine blk_drewN ?_ _ | refine blk_drew ?_ | refine blk_alloc ?_ _)); refine blk_put (cs := #[.slice Ao13 t395.length co13, .slice Ao17 t398.length co17, .int .i64 t401, .int .i64 t402]) ?_ 2 _ rfl; (with_reducible repeat (first | refine blk_drewN ?_ _ | refine blk_drew ?_ | refine blk_alloc ?_ _)); exact BK403.out⟩, ⟨by repeat (first | (with_reducible first | exact HB.out | apply below_alloc | apply pw_below_drewN | apply below_drew1 | refine below_set ?_ GE393.out | refine below_set ?_ GE394.out | refine below_set ?_ GE403.out) | exact HB.out)⟩⟩
            · rw [if_neg c25] at H
              have c25b0 : decide ((wrap64 (1099511627776 - x3_18)) < t401) = false := decide_eq_false c25
              clear c25
              (first | rw [c25b0] | (simp only [i64_w, i32_w]; rw [c25b0]) | skip)
              have H' := Aside0.mk H
              clear H
              have hnb29 := NB403_393.out
              have hnc29 := NB393_403.out
              have hnb30 := NB403_394.out
              have hnc30 := NB394_403.out
              have hcz31_0 : wc.cell? ⟨gb403, 0, none⟩ = some (.slice Ao13 t395.length co13) := (blk_cell BK403.out 0).trans rfl
              have hcz31_1 : wc.cell? ⟨gb403, 1, none⟩ = some (.slice Ao17 t398.length co17) := (blk_cell BK403.out 1).trans rfl
              have hcz31_2 : wc.cell? ⟨gb403, 2, none⟩ = some (.int .i64 t401) := (blk_cell BK403.out 2).trans rfl
              have hcz31_3 : wc.cell? ⟨gb403, 3, none⟩ = some (.int .i64 t402) := (blk_cell BK403.out 3).trans rfl
              have hfz31_0 := blk_frozen BK403.out 0
              have hfz31_1 := blk_frozen BK403.out 1
              have hfz31_2 := blk_frozen BK403.out 2
              have hfz31_3 := blk_frozen BK403.out 3
              go_wp2
              go_meet
              case rel => exact ⟨_, (wrap64 (t401 + x3_18)), H', ⟨by have := HJ5.out; have := HJ18.out; first | omega | exact Nat.le_refl _⟩, ⟨by (with_reducible repeat (first | apply Kd.S_alloc | apply Kd.S_drewN | apply Kd.S_drew)); exact Kd.S_mono (Kd.S_far (p := ⟨gb403, 2, none⟩) (Kd.S_types HO_404000.out BK403.out (by decide)) (fun _ hk => hk.2) (.int .i64 (wrap64 (t401 + x3_18)))) (fun _ hk => trivial)⟩, ⟨by (with_reducible repeat (first | apply Kd.R_alloc | apply Kd.R_drewN | apply Kd.R_drew)); exact Kd.R_mono (Kd.R_far (p := ⟨gb403, 2, none⟩) (Kd.R_types HO_404001.out BK403.out (by decide)) (fun _ hk => hk.2) (.int .i64 (wrap64 (t401 + x3_18)))) (fun _ hk => trivial)⟩, ⟨by (with_reducible repeat (first | refine blk_drewN ?_ _ | refine blk_drew ?_ | refine blk_alloc ?_ _)); refine blk_far ?_ NB393_403.out _; (with_reducible repeat (first | refine blk_drewN ?_ _ | refine blk_drew ?_ | refine blk_alloc ?_ _)); exact BK393.out⟩, ⟨by (with_reducible repeat (first | refine blk_drewN ?_ _ | refine blk_drew ?_ | refine blk_alloc ?_ _)); refine blk_far ?_ NB394_403.out _; (with_reducible repeat (first | refine blk_drewN ?_ _ | refine blk_drew ?_ | refine blk_alloc ?_ _)); exact BK394.out⟩, ⟨by (with_reducible repeat (first | refine blk_drewN ?_ _ | refine blk_drew ?_ | refine blk_alloc ?_ _)); refine blk_put (cs := #[.slice Ao13 t395.length co13, .slice Ao17 t398.length co17, .int .i64 t401, .int .i64 t402]) ?_ 2 _ rfl; (with_reducible repeat (first | refine blk_drewN ?_ _ | refine blk_drew ?_ | refine blk_alloc ?_ _)); exact BK403.out⟩, ⟨by repeat (first | (with_reducible first | exact HB.out | apply below_alloc | apply pw_below_drewN | apply below_drew1 | refine below_set ?_ GE393.out | refine below_set ?_ GE394.out | refine below_set ?_ GE403.out) | exact HB.out)⟩⟩
          case rest =>
            clear HC21
            try clear c1
            try clear c2
            try clear p2
            try clear c3
            try clear p6
            try clear c9
            try clear c11
            try clear c14
            try clear c15
            try clear c18
            try clear c18b0
            try clear c20
            try clear c20b0
            try clear c22
            try clear c23
            try clear c25
            try clear c25b0
            try clear c26
            try clear c27
            try clear c29
            try clear c30
            try clear hcz10_0
            try clear hcz10_1
            try clear hcz10_2
            try clear hcz10_3
            try clear hcz16_0
            try clear hcz16_1
            try clear hcz16_2
            try clear hcz16_3
            try clear hcz24_0
            try clear hcz24_1
            try clear hcz24_2
            try clear hcz24_3
            try clear hcz28_0
            try clear hcz28_1
            try clear hcz28_2
            try clear hcz28_3
            try clear hcz31_0
            try clear hcz31_1
            try clear hcz31_2
            try clear hcz31_3
            try clear hfz10_0
            try clear hfz10_1
            try clear hfz10_2
            try clear hfz10_3
            try clear hfz16_0
            try clear hfz16_1
            try clear hfz16_2
            try clear hfz16_3
            try clear hfz24_0
            try clear hfz24_1
            try clear hfz24_2
            try clear hfz24_3
            try clear hfz28_0
            try clear hfz28_1
            try clear hfz28_2
            try clear hfz28_3
            try clear hfz31_0
            try clear hfz31_1
            try clear hfz31_2
            try clear hfz31_3
            try clear p2
            obtain ⟨kq, x404002_20, HA, HJ20, HO_404000, HO_404001, BK393, BK394, BK403, HB⟩ := hcut
            cases kq with
            | zero => exact absurd HA.out (by simp [ladderbackref24_Begin.j2])
            | succ kj20 =>
              have H := HA.out
              clear HA
              simp only [ladderbackref24_Begin.j2] at H
              have H' := Aside0.mk H
              clear H
              go_wp2
              go_loopg [10, 11] kj20 (fun kq v10 v11 w' => ∃ (x10_4 : Int) (x11_4 : Int) (x404000_4 : List (List Int)) (u404000 : Value), v10 = .int .i64 x10_4 ∧ v11 = .int .i64 x11_4 ∧ Aside0 (ladderbackref24_Begin.l0 kq l0 l2 x10_4 x11_4 l1_0 l1_1 a1_2 a1_3 x404000_4 t398 x404002_20 t402 = some (r1, r2, r3, r4)) ∧ Aside0 (kq ≤ kj20) ∧ Aside0 (Kd.S (Kd.slice 3 (Kd.int .i64)) 32 w' w.heap.size (fun _ => True) u404000 x404000_4) ∧ Aside0 (Kd.R k69 69 w' w.heap.size (fun _ => True) (.slice Ao17 t398.length co17) t398) ∧ Aside0 (w'.heap[gb393]? = some (.cells #[(.slice A1_0 l1_0.length c1_0), (.slice A1_1 l1_1.length c1_1), .int .i64 a1_2, .int .i64 a1_3] 31 (0, 0))) ∧ Aside0 (w'.heap[gb394]? = some (.cells #[(.slice none 0 0), (.slice none 0 0), .int .i64 0, .int .i64 0] 31 (0, 0))) ∧ Aside0 (w'.heap[gb403]? = some (.cells #[u404000, (.slice Ao17 t398.length co17), .int .i64 x404002_20, .int .i64 t402] 31 (0, 0))) ∧ Aside0 (Below w.heap.size w w'))
              case atStart => exact ⟨(0), (0), (t395), (.slice Ao13 t395.length co13), (by first | rfl | (simp; done) | (simp [*]; done)), (by first | rfl | (simp; done) | (simp [*]; done)), H', ⟨Nat.le_refl _⟩, ⟨by (with_reducible repeat (first | apply Kd.S_alloc | apply Kd.S_drewN | apply Kd.S_drew)); exact HO_404000.out⟩, ⟨by (with_reducible repeat (first | apply Kd.R_alloc | apply Kd.R_drewN | apply Kd.R_drew)); exact HO_404001.out⟩, ⟨by (with_reducible repeat (first | refine blk_drewN ?_ _ | refine blk_drew ?_ | refine blk_alloc ?_ _)); exact BK393.out⟩, ⟨by (with_reducible repeat (first | refine blk_drewN ?_ _ | refine blk_drew ?_ | refine blk_alloc ?_ _)); exact BK394.out⟩, ⟨by (with_reducible repeat (first | refine blk_drewN ?_ _ | refine blk_drew ?_ | refine blk_alloc ?_ _)); exact BK403.out⟩, ⟨by repeat (first | (with_reducible first | exact HB.out | apply below_alloc | apply pw_below_drewN | apply below_drew1 | refine below_set ?_ GE393.out | refine below_set ?_ GE394.out | refine below_set ?_ GE403.out) | exact HB.out)⟩⟩
              case round =>
                clear H'
                try clear c1
                try clear c2
                try clear p2
                try clear c3
                try clear p6
                try clear c9
                try clear c11
                try clear c14
                try clear c15
                try clear c18
                try clear c18b0
                try clear c20
                try clear c20b0
                try clear c22
                try clear c23
                try clear c25
                try clear c25b0
                try clear c26
                try clear c27
                try clear c29
                try clear c30
                try clear hcz10_0
                try clear hcz10_1
                try clear hcz10_2
                try clear hcz10_3
                try clear hcz16_0
                try clear hcz16_1
                try clear hcz16_2
                try clear hcz16_3
                try clear hcz24_0
                try clear hcz24_1
                try clear hcz24_2
                try clear hcz24_3
                try clear hcz28_0
                try clear hcz28_1
                try clear hcz28_2
                try clear hcz28_3
                try clear hcz31_0
                try clear hcz31_1
                try clear hcz31_2
                try clear hcz31_3
                try clear hfz10_0
                try clear hfz10_1
                try clear hfz10_2
                try clear hfz10_3
                try clear hfz16_0
                try clear hfz16_1
                try clear hfz16_2
                try clear hfz16_3
                try clear hfz24_0
                try clear hfz24_1
                try clear hfz24_2
                try clear hfz24_3
                try clear hfz28_0
                try clear hfz28_1
                try clear hfz28_2
                try clear hfz28_3
                try clear hfz31_0
                try clear hfz31_1
                try clear hfz31_2
                try clear hfz31_3
                try clear p2
                try clear p6
                obtain ⟨x10_4, x11_4, x404000_4, u404000, rfl, rfl, HA, HK4, HO_404000, HO_404001, BK393, BK394, BK403, HB⟩ := hrel
                cases gk with
                | zero => exact absurd HA.out (by simp [ladderbackref24_Begin.l0])
                | succ k4 =>
                  have H := HA.out
                  clear HA
                  simp only [ladderbackref24_Begin.l0] at H
                  have HC32 := Aside0.mk H
                  clear H
                  go_upto_region 11 with (fail)
                  go_cut [40] (fun v40 wc => ∃ (kq : Nat) (x40_31 : Bool), v40 = .bool x40_31 ∧ Aside0 (ladderbackref24_Begin.j4 kq l0 l2 x10_4 x11_4 x40_31 l1_0 l1_1 a1_2 a1_3 x404000_4 t398 x404002_20 t402 = some (r1, r2, r3, r4)) ∧ Aside0 (kq ≤ k4) ∧ Aside0 (Kd.S (Kd.slice 3 (Kd.int .i64)) 32 wc w.heap.size (fun _ => True) u404000 x404000_4) ∧ Aside0 (Kd.R k69 69 wc w.heap.size (fun _ => True) (.slice Ao17 t398.length co17) t398) ∧ Aside0 (wc.heap[gb393]? = some (.cells #[(.slice A1_0 l1_0.length c1_0), (.slice A1_1 l1_1.length c1_1), .int .i64 a1_2, .int .i64 a1_3] 31 (0, 0))) ∧ Aside0 (wc.heap[gb394]? = some (.cells #[(.slice none 0 0), (.slice none 0 0), .int .i64 0, .int .i64 0] 31 (0, 0))) ∧ Aside0 (wc.heap[gb403]? = some (.cells #[u404000, (.slice Ao17 t398.length co17), .int .i64 x404002_20, .int .i64 t402] 31 (0, 0))) ∧ Aside0 (Below w.heap.size w wc))
                  case first =>
                    have H := HC32.out
                    clear HC32
                    by_cases c33 : x11_4 < (l0.length : Int)
                    · rw [if_pos c33] at H
                      have c33b0 : decide (x11_4 < (l0.length : Int)) = true := decide_eq_true c33
                      clear c33
                      (first | rw [c33b0] | (simp only [i64_w, i32_w]; rw [c33b0]) | skip)
                      have H' := Aside0.mk H
                      clear H
                      have hnb34 := NB393_394.out
                      have hnc34 := NB394_393.out
                      have hnb35 := NB393_403.out
                      have hnc35 := NB403_393.out
                      have hcz36_0 : wr.cell? ⟨gb393, 0, none⟩ = some (.slice A1_0 l1_0.length c1_0) := (blk_cell BK393.out 0).trans rfl
                      have hcz36_1 : wr.cell? ⟨gb393, 1, none⟩ = some (.slice A1_1 l1_1.length c1_1) := (blk_cell BK393.out 1).trans rfl
                      have hcz36_2 : wr.cell? ⟨gb393, 2, none⟩ = some (.int .i64 a1_2) := (blk_cell BK393.out 2).trans rfl
                      have hcz36_3 : wr.cell? ⟨gb393, 3, none⟩ = some (.int .i64 a1_3) := (blk_cell BK393.out 3).trans rfl
                      have hfz36_0 := blk_frozen BK393.out 0
                      have hfz36_1 := blk_frozen BK393.out 1
                      have hfz36_2 := blk_frozen BK393.out 2
                      have hfz36_3 := blk_frozen BK393.out 3
                      go_wp2
                      go_meet
                      case rel => exact ⟨_, (decide (x11_4 < (l1_0.length : Int))), (by first | rfl | (simp; done) | (simp [*]; done)), H', ⟨by have := HJ5.out; have := HJ18.out; have := HJ20.out; have := HK4.out; first | omega | exact Nat.le_refl _⟩, ⟨by (with_reducible repeat (first | apply Kd.S_alloc | apply Kd.S_drewN | apply Kd.S_drew)); exact HO_404000.out⟩, ⟨by (with_reducible repeat (first | apply Kd.R_alloc | apply Kd.R_drewN | apply Kd.R_drew)); exact HO_404001.out⟩, ⟨by (with_reducible repeat (first | refine blk_drewN ?_ _ | refine blk_drew ?_ | refine blk_alloc ?_ _)); exact BK393.out⟩, ⟨by (with_reducible repeat (first | refine blk_drewN ?_ _ | refine blk_drew ?_ | refine blk_alloc ?_ _)); exact BK394.out⟩, ⟨by (with_reducible repeat (first | refine blk_drewN ?_ _ | refine blk_drew ?_ | refine blk_alloc ?_ _)); exact BK403.out⟩, ⟨by repeat (first | (with_reducible first | exact HB.out | apply below_alloc | apply pw_below_drewN | apply below_drew1 | refine below_set ?_ GE393.out | refine below_set ?_ GE394.out | refine below_set ?_ GE403.out) | exact HB.out)⟩⟩
                    · rw [if_neg c33] at H
                      have c33b0 : decide (x11_4 < (l0.length : Int)) = false := decide_eq_false c33
                      clear c33
                      (first | rw [c33b0] | (simp only [i64_w, i32_w]; rw [c33b0]) | skip)
                      have H' := Aside0.mk H
                      clear H
                      go_wp2
                      go_meet
                      case rel => exact ⟨_, (false), (by first | rfl | (simp; done) | (simp [*]; done)), H', ⟨by have := HJ5.out; have := HJ18.out; have := HJ20.out; have := HK4.out; first | omega | exact Nat.le_refl _⟩, ⟨by (with_reducible repeat (first | apply Kd.S_alloc | apply Kd.S_drewN | apply Kd.S_drew)); exact HO_404000.out⟩, ⟨by (with_reducible repeat (first | apply Kd.R_alloc | apply Kd.R_drewN | apply Kd.R_drew)); exact HO_404001.out⟩, ⟨by (with_reducible repeat (first | refine blk_drewN ?_ _ | refine blk_drew ?_ | refine blk_alloc ?_ _)); exact BK393.out⟩, ⟨by (with_reducible repeat (first | refine blk_drewN ?_ _ | refine blk_drew ?_ | refine blk_alloc ?_ _)); exact BK394.out⟩, ⟨by (with_reducible repeat (first | refine blk_drewN ?_ _ | refine blk_drew ?_ | refine blk_alloc ?_ _)); exact BK403.out⟩, ⟨by repeat (first | (with_reducible first | exact HB.out | apply below_alloc | apply pw_below_drewN | apply below_drew1 | refine below_set ?_ GE393.out | refine below_set ?_ GE394.out | refine below_set ?_ GE403.out) | exact HB.out)⟩⟩
                  case rest =>
                    clear HC32
                    try clear c1
                    try clear c2
                    try clear p2
                    try clear c3
                    try clear p6
                    try clear c9
                    try clear c11
                    try clear c14
                    try clear c15
                    try clear c18
                    try clear c18b0
                    try clear c20
                    try clear c20b0
                    try clear c22
                    try clear c23
                    try clear c25
                    try clear c25b0
                    try clear c26
                    try clear c27
                    try clear c29
                    try clear c30
                    try clear c33
                    try clear c33b0
                    try clear c34
                    try clear c35
                    try clear hcz10_0
                    try clear hcz10_1
                    try clear hcz10_2
                    try clear hcz10_3
                    try clear hcz16_0
                    try clear hcz16_1
                    try clear hcz16_2
                    try clear hcz16_3
                    try clear hcz24_0
                    try clear hcz24_1
                    try clear hcz24_2
                    try clear hcz24_3
                    try clear hcz28_0
                    try clear hcz28_1
                    try clear hcz28_2
                    try clear hcz28_3
                    try clear hcz31_0
                    try clear hcz31_1
                    try clear hcz31_2
                    try clear hcz31_3
                    try clear hcz36_0
                    try clear hcz36_1
                    try clear hcz36_2
                    try clear hcz36_3
                    try clear hfz10_0
                    try clear hfz10_1
                    try clear hfz10_2
                    try clear hfz10_3
                    try clear hfz16_0
                    try clear hfz16_1
                    try clear hfz16_2
                    try clear hfz16_3
                    try clear hfz24_0
                    try clear hfz24_1
                    try clear hfz24_2
                    try clear hfz24_3
                    try clear hfz28_0
                    try clear hfz28_1
                    try clear hfz28_2
                    try clear hfz28_3
                    try clear hfz31_0
                    try clear hfz31_1
                    try clear hfz31_2
                    try clear hfz31_3
                    try clear hfz36_0
                    try clear hfz36_1
                    try clear hfz36_2
                    try clear hfz36_3
                    try clear p2
                    try clear p6
                    obtain ⟨kq, x40_31, rfl, HA, HJ31, HO_404000, HO_404001, BK393, BK394, BK403, HB⟩ := hcut
                    cases kq with
                    | zero => exact absurd HA.out (by simp [ladderbackref24_Begin.j4])
                    | succ kj31 =>
                      have H := HA.out
                      clear HA
                      simp only [ladderbackref24_Begin.j4] at H
                      by_cases c37 : x40_31 = true
                      · subst c37
                        have H1 : (ladderbackref24_Begin.l1 kj31 l0 l2 x10_4 x11_4 0 l1_0 l1_1 a1_2 a1_3 x404000_4 t398 x404002_20 t402) = some (r1, r2, r3, r4) := by rw [if_pos rfl] at H; exact H
                        clear H
                        have H := H1
                        clear H1
                        have H' := Aside0.mk H
                        clear H
                        go_wp2
                        go_loopg [10, 12] kj31 (fun kq v10 v12 w' => ∃ (x10_6 : Int) (x12_6 : Int) (x404000_6 : List (List Int)) (u404000 : Value), v10 = .int .i64 x10_6 ∧ v12 = .int .i64 x12_6 ∧ Aside0 (ladderbackref24_Begin.l1 kq l0 l2 x10_6 x11_4 x12_6 l1_0 l1_1 a1_2 a1_3 x404000_6 t398 x404002_20 t402 = some (r1, r2, r3, r4)) ∧ Aside0 (kq ≤ kj31) ∧ Aside0 (Kd.S (Kd.slice 3 (Kd.int .i64)) 32 w' w.heap.size (fun _ => True) u404000 x404000_6) ∧ Aside0 (Kd.R k69 69 w' w.heap.size (fun _ => True) (.slice Ao17 t398.length co17) t398) ∧ Aside0 (w'.heap[gb393]? = some (.cells #[(.slice A1_0 l1_0.length c1_0), (.slice A1_1 l1_1.length c1_1), .int .i64 a1_2, .int .i64 a1_3] 31 (0, 0))) ∧ Aside0 (w'.heap[gb394]? = some (.cells #[(.slice none 0 0), (.slice none 0 0), .int .i64 0, .int .i64 0] 31 (0, 0))) ∧ Aside0 (w'.heap[gb403]? = some (.cells #[u404000, (.slice Ao17 t398.length co17), .int .i64 x404002_20, .int .i64 t402] 31 (0, 0))) ∧ Aside0 (Below w.heap.size w w'))
                        case atStart => exact ⟨(x10_4), (0), (x404000_4), (u404000), (by first | rfl | (simp; done) | (simp [*]; done)), (by first | rfl | (simp; done) | (simp [*]; done)), H', ⟨Nat.le_refl _⟩, ⟨by (with_reducible repeat (first | apply Kd.S_alloc | apply Kd.S_drewN | apply Kd.S_drew)); exact HO_404000.out⟩, ⟨by (with_reducible repeat (first | apply Kd.R_alloc | apply Kd.R_drewN | apply Kd.R_drew)); exact HO_404001.out⟩, ⟨by (with_reducible repeat (first | refine blk_drewN ?_ _ | refine blk_drew ?_ | refine blk_alloc ?_ _)); exact BK393.out⟩, ⟨by (with_reducible repeat (first | refine blk_drewN ?_ _ | refine blk_drew ?_ | refine blk_alloc ?_ _)); exact BK394.out⟩, ⟨by (with_reducible repeat (first | refine blk_drewN ?_ _ | refine blk_drew ?_ | refine blk_alloc ?_ _)); exact BK403.out⟩, ⟨by repeat (first | (with_reducible first | exact HB.out | apply below_alloc | apply pw_below_drewN | apply below_drew1 | refine below_set ?_ GE393.out | refine below_set ?_ GE394.out | refine below_set ?_ GE403.out) | exact HB.out)⟩⟩
                        case round =>
                          clear H'
                          try clear c1
                          try clear c2
                          try clear p2
                          try clear c3
                          try clear p6
                          try clear c9
                          try clear c11
                          try clear c14
                          try clear c15
                          try clear c18
                          try clear c18b0
                          try clear c20
                          try clear c20b0
                          try clear c22
                          try clear c23
                          try clear c25
                          try clear c25b0
                          try clear c26
                          try clear c27
                          try clear c29
                          try clear c30
                          try clear c33
                          try clear c33b0
                          try clear c34
                          try clear c35
                          try clear c37
                          try clear hcz10_0
                          try clear hcz10_1
                          try clear hcz10_2
                          try clear hcz10_3
                          try clear hcz16_0
                          try clear hcz16_1
                          try clear hcz16_2
                          try clear hcz16_3
                          try clear hcz24_0
                          try clear hcz24_1
                          try clear hcz24_2
                          try clear hcz24_3
                          try clear hcz28_0
                          try clear hcz28_1
                          try clear hcz28_2
                          try clear hcz28_3
                          try clear hcz31_0
                          try clear hcz31_1
                          try clear hcz31_2
                          try clear hcz31_3
                          try clear hcz36_0
                          try clear hcz36_1
                          try clear hcz36_2
                          try clear hcz36_3
                          try clear hfz10_0
                          try clear hfz10_1
                          try clear hfz10_2
                          try clear hfz10_3
                          try clear hfz16_0
                          try clear hfz16_1
                          try clear hfz16_2
                          try clear hfz16_3
                          try clear hfz24_0
                          try clear hfz24_1
                          try clear hfz24_2
                          try clear hfz24_3
                          try clear hfz28_0
                          try clear hfz28_1
                          try clear hfz28_2
                          try clear hfz28_3
                          try clear hfz31_0
                          try clear hfz31_1
                          try clear hfz31_2
                          try clear hfz31_3
                          try clear hfz36_0
                          try clear hfz36_1
                          try clear hfz36_2
                          try clear hfz36_3
                          try clear p2
                          try clear p6
                          obtain ⟨x10_6, x12_6, x404000_6, u404000, rfl, rfl, HA, HK6, HO_404000, HO_404001, BK393, BK394, BK403, HB⟩ := hrel
                          cases gk with
                          | zero => exact absurd HA.out (by simp [ladderbackref24_Begin.l1])
                          | succ k6 =>
                            have H := HA.out
                            clear HA
                            simp only [ladderbackref24_Begin.l1] at H
                            have HC38 := Aside0.mk H
                            clear H
                            go_upto_region 14 with (fail)
                            go_cut [58] (fun v58 wc => ∃ (kq : Nat) (x58_37 : Bool), v58 = .bool x58_37 ∧ Aside0 (ladderbackref24_Begin.j6 kq l0 l2 x10_6 x11_4 x12_6 x58_37 l1_0 l1_1 a1_2 a1_3 x404000_6 t398 x404002_20 t402 = some (r1, r2, r3, r4)) ∧ Aside0 (kq ≤ k6) ∧ Aside0 (Kd.S (Kd.slice 3 (Kd.int .i64)) 32 wc w.heap.size (fun _ => True) u404000 x404000_6) ∧ Aside0 (Kd.R k69 69 wc w.heap.size (fun _ => True) (.slice Ao17 t398.length co17) t398) ∧ Aside0 (wc.heap[gb393]? = some (.cells #[(.slice A1_0 l1_0.length c1_0), (.slice A1_1 l1_1.length c1_1), .int .i64 a1_2, .int .i64 a1_3] 31 (0, 0))) ∧ Aside0 (wc.heap[gb394]? = some (.cells #[(.slice none 0 0), (.slice none 0 0), .int .i64 0, .int .i64 0] 31 (0, 0))) ∧ Aside0 (wc.heap[gb403]? = some (.cells #[u404000, (.slice Ao17 t398.length co17), .int .i64 x404002_20, .int .i64 t402] 31 (0, 0))) ∧ Aside0 (Below w.heap.size w wc))
                            case first =>
                              have H := HC38.out
                              clear HC38
                              by_cases c39 : 0 ≤ x11_4
                              · rw [if_pos c39] at H
                                have c39b0 : decide (0 ≤ x11_4) = true := decide_eq_true c39
                                clear c39
                                (first | rw [c39b0] | (simp only [i64_w, i32_w]; rw [c39b0]) | skip)
                                by_cases c40 : x11_4 < (l1_0.length : Int)
                                · rw [if_pos c40] at H
                                  have c40b0 : decide (x11_4 < (l1_0.length : Int)) = true := decide_eq_true c40
                                  clear c40
                                  by_cases c41 : x12_6 < ((rd_L1 l1_0 x11_4).length : Int)
                                  · rw [if_pos c41] at H
                                    have c41b0 : decide (x12_6 < ((rd_L1 l1_0 x11_4).length : Int)) = true := decide_eq_true c41
                                    clear c41
                                    by_cases c42 : x11_4 < (l0.length : Int)
                                    · rw [if_pos c42] at H
                                      have c42b0 : decide (x11_4 < (l0.length : Int)) = true := decide_eq_true c42
                                      clear c42
                                      have H' := Aside0.mk H
                                      clear H
                                      have hnb43 := NB393_394.out
                                      have hnc43 := NB394_393.out
                                      have hnb44 := NB393_403.out
                                      have hnc44 := NB403_393.out
                                      have hcz45_0 : wr.cell? ⟨gb393, 0, none⟩ = some (.slice A1_0 l1_0.length c1_0) := (blk_cell BK393.out 0).trans rfl
                                      have hcz45_1 : wr.cell? ⟨gb393, 1, none⟩ = some (.slice A1_1 l1_1.length c1_1) := (blk_cell BK393.out 1).trans rfl
                                      have hcz45_2 : wr.cell? ⟨gb393, 2, none⟩ = some (.int .i64 a1_2) := (blk_cell BK393.out 2).trans rfl
                                      have hcz45_3 : wr.cell? ⟨gb393, 3, none⟩ = some (.int .i64 a1_3) := (blk_cell BK393.out 3).trans rfl
                                      have hfz45_0 := blk_frozen BK393.out 0
                                      have hfz45_1 := blk_frozen BK393.out 1
                                      have hfz45_2 := blk_frozen BK393.out 2
                                      have hfz45_3 := blk_frozen BK393.out 3
                                      have p404 : 0 ≤ (x11_4 : Int) := of_decide_eq_true (by first | (with_reducible assumption) | assumption)
                                      have q404 : x11_4 < (l1_0.length : Int) := of_decide_eq_true (by first | (with_reducible assumption) | assumption)
                                      obtain ⟨ad404, A404_0, c404_0, e404, hx404_0, hl404_0, hi404_0⟩ := at_L1 HR1_0.out x11_4 p404 q404
                                      cases e404
                                      replace hx404_0 := (HB.out.cell (World.block_lt_of_cell? w _ hx404_0)).trans hx404_0
                                      have HR404_0 := Aside0.mk hi404_0
                                      have HC404_0 := Aside0.mk hl404_0
                                      clear hi404_0 hl404_0
                                      replace p404 := eq_true p404
                                      replace q404 := eq_true q404
                                      have p405 : 0 ≤ (x11_4 : Int) := of_decide_eq_true (by first | (with_reducible assumption) | assumption)
                                      have q405 : x11_4 < (l0.length : Int) := of_decide_eq_true (by first | (with_reducible assumption) | assumption)
                                      obtain ⟨ad405, e405, hx405_0, hx405_1, hx405_2, hx405_3, hx405_4⟩ := at_T60 HR0.out x11_4 p405 q405
                                      cases e405
                                      replace hx405_0 := (HB.out.cell (World.block_lt_of_cell? w _ hx405_0)).trans hx405_0
                                      replace hx405_1 := (HB.out.cell (World.block_lt_of_cell? w _ hx405_1)).trans hx405_1
                                      replace hx405_2 := (HB.out.cell (World.block_lt_of_cell? w _ hx405_2)).trans hx405_2
                                      replace hx405_3 := (HB.out.cell (World.block_lt_of_cell? w _ hx405_3)).trans hx405_3
                                      replace hx405_4 := (HB.out.cell (World.block_lt_of_cell? w _ hx405_4)).trans hx405_4
                                      replace p405 := eq_true p405
                                      replace q405 := eq_true q405
                                      go_wp2
                                      go_meet
                                      case rel => exact ⟨_, ((((rd_T60 l0 x11_4).f3) == 1)), (by first | rfl | (simp; done) | (simp [*]; done)), H', ⟨by have := HJ5.out; have := HJ18.out; have := HJ20.out; have := HK4.out; have := HJ31.out; have := HK6.out; first | omega | exact Nat.le_refl _⟩, ⟨by (with_reducible repeat (first | apply Kd.S_alloc | apply Kd.S_drewN | apply Kd.S_drew)); exact HO_404000.out⟩, ⟨by (with_reducible repeat (first | apply Kd.R_alloc | apply Kd.R_drewN | apply Kd.R_drew)); exact HO_404001.out⟩, ⟨by (with_reducible repeat (first | refine blk_drewN ?_ _ | refine blk_drew ?_ | refine blk_alloc ?_ _)); exact BK393.out⟩, ⟨by (with_reducible repeat (first | refine blk_drewN ?_ _ | refine blk_drew ?_ | refine blk_alloc ?_ _)); exact BK394.out⟩, ⟨by (with_reducible repeat (first | refine blk_drewN ?_ _ | refine blk_drew ?_ | refine blk_alloc ?_ _)); exact BK403.out⟩, ⟨by repeat (first | (with_reducible first | exact HB.out | apply below_alloc | apply pw_below_drewN | apply below_drew1 | refine below_set ?_ GE393.out | refine below_set ?_ GE394.out | refine below_set ?_ GE403.out) | exact HB.out)⟩⟩
                                    · rw [if_neg c42] at H
                                      exact absurd H (by simp)
                                  · rw [if_neg c41] at H
                                    have c41b0 : decide (x12_6 < ((rd_L1 l1_0 x11_4).length : Int)) = false := decide_eq_false c41
                                    clear c41
                                    have H' := Aside0.mk H
                                    clear H
                                    have hnb46 := NB393_394.out
                                    have hnc46 := NB394_393.out
                                    have hnb47 := NB393_403.out
                                    have hnc47 := NB403_393.out
                                    have hcz48_0 : wr.cell? ⟨gb393, 0, none⟩ = some (.slice A1_0 l1_0.length c1_0) := (blk_cell BK393.out 0).trans rfl
                                    have hcz48_1 : wr.cell? ⟨gb393, 1, none⟩ = some (.slice A1_1 l1_1.length c1_1) := (blk_cell BK393.out 1).trans rfl
                                    have hcz48_2 : wr.cell? ⟨gb393, 2, none⟩ = some (.int .i64 a1_2) := (blk_cell BK393.out 2).trans rfl
                                    have hcz48_3 : wr.cell? ⟨gb393, 3, none⟩ = some (.int .i64 a1_3) := (blk_cell BK393.out 3).trans rfl
                                    have hfz48_0 := blk_frozen BK393.out 0
                                    have hfz48_1 := blk_frozen BK393.out 1
                                    have hfz48_2 := blk_frozen BK393.out 2
                                    have hfz48_3 := blk_frozen BK393.out 3
                                    have p404 : 0 ≤ (x11_4 : Int) := of_decide_eq_true (by first | (with_reducible assumption) | assumption)
                                    have q404 : x11_4 < (l1_0.length : Int) := of_decide_eq_true (by first | (with_reducible assumption) | assumption)
                                    obtain ⟨ad404, A404_0, c404_0, e404, hx404_0, hl404_0, hi404_0⟩ := at_L1 HR1_0.out x11_4 p404 q404
                                    cases e404
                                    replace hx404_0 := (HB.out.cell (World.block_lt_of_cell? w _ hx404_0)).trans hx404_0
                                    have HR404_0 := Aside0.mk hi404_0
                                    have HC404_0 := Aside0.mk hl404_0
                                    clear hi404_0 hl404_0
                                    replace p404 := eq_true p404
                                    replace q404 := eq_true q404
                                    go_wp2
                                    go_meet
                                    case rel => exact ⟨_, (false), (by first | rfl | (simp; done) | (simp [*]; done)), H', ⟨by have := HJ5.out; have := HJ18.out; have := HJ20.out; have := HK4.out; have := HJ31.out; have := HK6.out; first | omega | exact Nat.le_refl _⟩, ⟨by (with_reducible repeat (first | apply Kd.S_alloc | apply Kd.S_drewN | apply Kd.S_drew)); exact HO_404000.out⟩, ⟨by (with_reducible repeat (first | apply Kd.R_alloc | apply Kd.R_drewN | apply Kd.R_drew)); exact HO_404001.out⟩, ⟨by (with_reducible repeat (first | refine blk_drewN ?_ _ | refine blk_drew ?_ | refine blk_alloc ?_ _)); exact BK393.out⟩, ⟨by (with_reducible repeat (first | refine blk_drewN ?_ _ | refine blk_drew ?_ | refine blk_alloc ?_ _)); exact BK394.out⟩, ⟨by (with_reducible repeat (first | refine blk_drewN ?_ _ | refine blk_drew ?_ | refine blk_alloc ?_ _)); exact BK403.out⟩, ⟨by repeat (first | (with_reducible first | exact HB.out | apply below_alloc | apply pw_below_drewN | apply below_drew1 | refine below_set ?_ GE393.out | refine below_set ?_ GE394.out | refine below_set ?_ GE403.out) | exact HB.out)⟩⟩
                                · rw [if_neg c40] at H
                                  exact absurd H (by simp)
                              · rw [if_neg c39] at H
                                exact absurd H (by simp)
                            case rest =>
                              clear HC38
                              try clear c1
                              try clear c2
                              try clear p2
                              try clear c3
                              try clear c4
                              try clear p4
                              try clear q4
                              try clear hx4
                              try clear p6
                              try clear c9
                              try clear c11
                              try clear c14
                              try clear c15
                              try clear c18
                              try clear c18b0
                              try clear c20
                              try clear c20b0
                              try clear c22
                              try clear c23
                              try clear c25
                              try clear c25b0
                              try clear c26
                              try clear c27
                              try clear c29
                              try clear c30
                              try clear c33
                              try clear c33b0
                              try clear c34
                              try clear c35
                              try clear c37
                              try clear c39
                              try clear c39b0
                              try clear c40
                              try clear c40b0
                              try clear p40
                              try clear q40
                              try clear hx40
                              try clear c41
                              try clear c41b0
                              try clear c42
                              try clear c42b0
                              try clear c43
                              try clear c44
                              try clear c46
                              try clear c47
                              try clear hcz10_0
                              try clear hcz10_1
                              try clear hcz10_2
                              try clear hcz10_3
                              try clear hcz16_0
                              try clear hcz16_1
                              try clear hcz16_2
                              try clear hcz16_3
                              try clear hcz24_0
                              try clear hcz24_1
                              try clear hcz24_2
                              try clear hcz24_3
                              try clear hcz28_0
                              try clear hcz28_1
                              try clear hcz28_2
                              try clear hcz28_3
                              try clear hcz31_0
                              try clear hcz31_1
                              try clear hcz31_2
                              try clear hcz31_3
                              try clear hcz36_0
                              try clear hcz36_1
                              try clear hcz36_2
                              try clear hcz36_3
                              try clear hcz45_0
                              try clear hcz45_1
                              try clear hcz45_2
                              try clear hcz45_3
                              try clear hcz48_0
                              try clear hcz48_1
                              try clear hcz48_2
                              try clear hcz48_3
                              try clear hfz10_0
                              try clear hfz10_1
                              try clear hfz10_2
                              try clear hfz10_3
                              try clear hfz16_0
                              try clear hfz16_1
                              try clear hfz16_2
                              try clear hfz16_3
                              try clear hfz24_0
                              try clear hfz24_1
                              try clear hfz24_2
                              try clear hfz24_3
                              try clear hfz28_0
                              try clear hfz28_1
                              try clear hfz28_2
                              try clear hfz28_3
                              try clear hfz31_0
                              try clear hfz31_1
                              try clear hfz31_2
                              try clear hfz31_3
                              try clear hfz36_0
                              try clear hfz36_1
                              try clear hfz36_2
                              try clear hfz36_3
                              try clear hfz45_0
                              try clear hfz45_1
                              try clear hfz45_2
                              try clear hfz45_3
                              try clear hfz48_0
                              try clear hfz48_1
                              try clear hfz48_2
                              try clear hfz48_3
                              try clear hx404_0
                              try clear hx405_0
                              try clear hx405_1
                              try clear hx405_2
                              try clear hx405_3
                              try clear hx405_4
                              try clear p2
                              try clear p404
                              try clear p405
                              try clear p6
                              try clear q404
                              try clear q405
                              obtain ⟨kq, x58_37, rfl, HA, HJ37, HO_404000, HO_404001, BK393, BK394, BK403, HB⟩ := hcut
                              cases kq with
                              | zero => exact absurd HA.out (by simp [ladderbackref24_Begin.j6])
                              | succ kj37 =>
                                have H := HA.out
                                clear HA
                                simp only [ladderbackref24_Begin.j6] at H
                                by_cases c49 : x58_37 = true
                                · subst c49
                                  have H1 : (if 0 ≤ x11_4 then (if x11_4 < (x404000_6.length : Int) then (if 0 ≤ x12_6 then (if x12_6 < ((rd_L1 x404000_6 x11_4).length : Int) then ((some (x404000_6.set (x11_4 : Int).toNat ((rd_L1 x404000_6 x11_4).set (x12_6 : Int).toNat 0) : List (List Int))).bind fun y409 => (if x10_6 < (l2.length : Int) then (if x11_4 < (l0.length : Int) then (if 0 ≤ x10_6 then ((ladderbackref01_Wrap.f ((rd_T60 l0 x11_4).f1) (rd l2 x10_6)).bind fun t413 => (if x12_6 < ((rd_L1 y409 x11_4).length : Int) then (ladderbackref24_Begin.l1 kj37 l0 l2 (wrap64 (x10_6 + 1)) x11_4 (wrap64 (x12_6 + 1)) l1_0 l1_1 a1_2 a1_3 (y409.set (x11_4 : Int).toNat ((rd_L1 y409 x11_4).set (x12_6 : Int).toNat t413)) t398 x404002_20 t402) else (none))) else (none)) else (none)) else (ladderbackref24_Begin.l1 kj37 l0 l2 (wrap64 (x10_6 + 1)) x11_4 (wrap64 (x12_6 + 1)) l1_0 l1_1 a1_2 a1_3 y409 t398 x404002_20 t402))) else (none)) else (none)) else (none)) else (none)) = some (r1, r2, r3, r4) := by rw [if_pos rfl] at H; exact H
                                  clear H
                                  have H := H1
                                  clear H1
                                  by_cases c50 : 0 ≤ x11_4
                                  · rw [if_pos c50] at H
                                    have c50b0 : decide (0 ≤ x11_4) = true := decide_eq_true c50
                                    clear c50
                                    by_cases c51 : x11_4 < (x404000_6.length : Int)
                                    · rw [if_pos c51] at H
                                      have c51b0 : decide (x11_4 < (x404000_6.length : Int)) = true := decide_eq_true c51
                                      clear c51
                                      by_cases c52 : 0 ≤ x12_6
                                      · rw [if_pos c52] at H
                                        have c52b0 : decide (0 ≤ x12_6) = true := decide_eq_true c52
                                        clear c52
                                        by_cases c53 : x12_6 < ((rd_L1 x404000_6 x11_4).length : Int)
                                        · rw [if_pos c53] at H
                                          have c53b0 : decide (x12_6 < ((rd_L1 x404000_6 x11_4).length : Int)) = true := decide_eq_true c53
                                          clear c53
                                          obtain ⟨y407, hy407⟩ : ∃ y_ : List Int, y_ = ((rd_L1 x404000_6 x11_4).set (x12_6 : Int).toNat 0) := ⟨_, rfl⟩
                                          replace H : ((some (x404000_6.set (x11_4 : Int).toNat y407 : List (List Int))).bind fun y409 => (if x10_6 < (l2.length : Int) then (if x11_4 < (l0.length : Int) then (if 0 ≤ x10_6 then ((ladderbackref01_Wrap.f ((rd_T60 l0 x11_4).f1) (rd l2 x10_6)).bind fun t413 => (if x12_6 < ((rd_L1 y409 x11_4).length : Int) then (ladderbackref24_Begin.l1 kj37 l0 l2 (wrap64 (x10_6 + 1)) x11_4 (wrap64 (x12_6 + 1)) l1_0 l1_1 a1_2 a1_3 (y409.set (x11_4 : Int).toNat ((rd_L1 y409 x11_4).set (x12_6 : Int).toNat t413)) t398 x404002_20 t402) else (none))) else (none)) else (none)) else (ladderbackref24_Begin.l1 kj37 l0 l2 (wrap64 (x10_6 + 1)) x11_4 (wrap64 (x12_6 + 1)) l1_0 l1_1 a1_2 a1_3 y409 t398 x404002_20 t402))) = some (r1, r2, r3, r4) := by first | (rw [hy407]; with_reducible exact H) | (have H2_ := (Option.bind_some _ _).symm.trans H; rw [hy407]; with_reducible exact H2_) | (have H2_ := (Option.bind_some _ _).symm.trans H; with_reducible exact H2_) | with_reducible exact H | (rw [hy407]; exact H) | exact H
                                          have Ny407 := Aside0.mk hy407
                                          clear hy407
                                          obtain ⟨y409, hy409⟩ : ∃ y_ : List (List Int), y_ = (x404000_6.set (x11_4 : Int).toNat y407) := ⟨_, rfl⟩
                                          replace H : (if x10_6 < (l2.length : Int) then (if x11_4 < (l0.length : Int) then (if 0 ≤ x10_6 then ((ladderbackref01_Wrap.f ((rd_T60 l0 x11_4).f1) (rd l2 x10_6)).bind fun t413 => (if x12_6 < ((rd_L1 y409 x11_4).length : Int) then (ladderbackref24_Begin.l1 kj37 l0 l2 (wrap64 (x10_6 + 1)) x11_4 (wrap64 (x12_6 + 1)) l1_0 l1_1 a1_2 a1_3 (y409.set (x11_4 : Int).toNat ((rd_L1 y409 x11_4).set (x12_6 : Int).toNat t413)) t398 x404002_20 t402) else (none))) else (none)) else (none)) else (ladderbackref24_Begin.l1 kj37 l0 l2 (wrap64 (x10_6 + 1)) x11_4 (wrap64 (x12_6 + 1)) l1_0 l1_1 a1_2 a1_3 y409 t398 x404002_20 t402)) = some (r1, r2, r3, r4) := by first | (rw [hy409]; with_reducible exact H) | (have H2_ := (Option.bind_some _ _).symm.trans H; rw [hy409]; with_reducible exact H2_) | (have H2_ := (Option.bind_some _ _).symm.trans H; with_reducible exact H2_) | with_reducible exact H | (rw [hy409]; exact H) | exact H
                                          have Ny409 := Aside0.mk hy409
                                          clear hy409
                                          by_cases c55 : x10_6 < (l2.length : Int)
                                          · rw [if_pos c55] at H
                                            have c55b0 : decide (x10_6 < (l2.length : Int)) = true := decide_eq_true c55
                                            clear c55
                                            by_cases c56 : x11_4 < (l0.length : Int)
                                            · rw [if_pos c56] at H
                                              have c56b0 : decide (x11_4 < (l0.length : Int)) = true := decide_eq_true c56
                                              clear c56
                                              by_cases c57 : 0 ≤ x10_6
                                              · rw [if_pos c57] at H
                                                have c57b0 : decide (0 ≤ x10_6) = true := decide_eq_true c57
                                                clear c57
                                                replace H := Option.bind_eq_some_iff.mp H
                                                obtain ⟨t413, A580, H⟩ := H
                                                replace H : (if x12_6 < ((rd_L1 y409 x11_4).length : Int) then (ladderbackref24_Begin.l1 kj37 l0 l2 (wrap64 (x10_6 + 1)) x11_4 (wrap64 (x12_6 + 1)) l1_0 l1_1 a1_2 a1_3 (y409.set (x11_4 : Int).toNat ((rd_L1 y409 x11_4).set (x12_6 : Int).toNat t413)) t398 x404002_20 t402) else (none)) = some (r1, r2, r3, r4) := H
                                                have A58 := Aside0.mk A580
                                                clear A580
                                                by_cases c59 : x12_6 < ((rd_L1 y409 x11_4).length : Int)
                                                · rw [if_pos c59] at H
                                                  have c59b0 : decide (x12_6 < ((rd_L1 y409 x11_4).length : Int)) = true := decide_eq_true c59
                                                  clear c59
                                                  obtain ⟨y414, hy414⟩ : ∃ y_ : List Int, y_ = ((rd_L1 y409 x11_4).set (x12_6 : Int).toNat t413) := ⟨_, rfl⟩
                                                  replace H : (ladderbackref24_Begin.l1 kj37 l0 l2 (wrap64 (x10_6 + 1)) x11_4 (wrap64 (x12_6 + 1)) l1_0 l1_1 a1_2 a1_3 (y409.set (x11_4 : Int).toNat y414) t398 x404002_20 t402) = some (r1, r2, r3, r4) := by first | (rw [hy414]; with_reducible exact H) | (have H2_ := (Option.bind_some _ _).symm.trans H; rw [hy414]; with_reducible exact H2_) | (have H2_ := (Option.bind_some _ _).symm.trans H; with_reducible exact H2_) | with_reducible exact H | (rw [hy414]; exact H) | exact H
                                                  have Ny414 := Aside0.mk hy414
                                                  clear hy414
                                                  obtain ⟨y416, hy416⟩ : ∃ y_ : List (List Int), y_ = (y409.set (x11_4 : Int).toNat y414) := ⟨_, rfl⟩
                                                  replace H : (ladderbackref24_Begin.l1 kj37 l0 l2 (wrap64 (x10_6 + 1)) x11_4 (wrap64 (x12_6 + 1)) l1_0 l1_1 a1_2 a1_3 y416 t398 x404002_20 t402) = some (r1, r2, r3, r4) := by first | (rw [hy416]; with_reducible exact H) | (have H2_ := (Option.bind_some _ _).symm.trans H; rw [hy416]; with_reducible exact H2_) | (have H2_ := (Option.bind_some _ _).symm.trans H; with_reducible exact H2_) | with_reducible exact H | (rw [hy416]; exact H) | exact H
                                                  have Ny416 := Aside0.mk hy416
                                                  clear hy416
                                                  have H' := Aside0.mk H
                                                  clear H
                                                  have hnb61 := NB403_393.out
                                                  have hnc61 := NB393_403.out
                                                  have hnb62 := NB403_394.out
                                                  have hnc62 := NB394_403.out
                                                  have hcz63_0 : wc.cell? ⟨gb403, 0, none⟩ = some (u404000) := (blk_cell BK403.out 0).trans rfl
                                                  have hcz63_1 : wc.cell? ⟨gb403, 1, none⟩ = some (.slice Ao17 t398.length co17) := (blk_cell BK403.out 1).trans rfl
                                                  have hcz63_2 : wc.cell? ⟨gb403, 2, none⟩ = some (.int .i64 x404002_20) := (blk_cell BK403.out 2).trans rfl
                                                  have hcz63_3 : wc.cell? ⟨gb403, 3, none⟩ = some (.int .i64 t402) := (blk_cell BK403.out 3).trans rfl
                                                  have hfz63_0 := blk_frozen BK403.out 0
                                                  have hfz63_1 := blk_frozen BK403.out 1
                                                  have hfz63_2 := blk_frozen BK403.out 2
                                                  have hfz63_3 := blk_frozen BK403.out 3
                                                  obtain ⟨Ao64, co64, eo64⟩ := Kd.S_slice HO_404000.out
                                                  subst eo64
                                                  have p406 : 0 ≤ (x11_4 : Int) := of_decide_eq_true (by first | (with_reducible assumption) | assumption)
                                                  have q406 : x11_4 < (x404000_6.length : Int) := of_decide_eq_true (by first | (with_reducible assumption) | assumption)
                                                  obtain ⟨ad406, A406_0, c406_0, e406, hx406_0, hl406_0, hi406_0⟩ := at_L1 (Kd.S_reads' HO_404000.out).2.2 x11_4 p406 q406
                                                  cases e406
                                                  obtain ⟨ce406, hce406, hMe406, hcc406⟩ := Kd.S_get HO_404000.out [] x11_4 p406 (by first | exact q406 | exact of_decide_eq_true (by first | (with_reducible assumption) | assumption) | (have e_ := (Kd.S_reads' HO_404000.out).1; omega))
                                                  obtain ⟨ve406_0, rfl, ge406_0⟩ := hMe406
                                                  have hv406_0 := hcc406 0 _ rfl
                                                  rw [Nat.add_zero, show ((Kd.slice 3 (Kd.int .i64))).sz = 1 from rfl, Nat.mul_one] at hv406_0
                                                  replace hv406_0 := Option.some.inj (hv406_0.symm.trans hx406_0)
                                                  rw [hv406_0] at ge406_0
                                                  have HL406_0 := Aside0.mk (show Kd.R (Kd.int .i64) 3 _ _ _ _ (rd_L1 x404000_6 x11_4) from ge406_0)
                                                  clear hv406_0 ge406_0
                                                  have HX406_0 := Aside0.mk hx406_0
                                                  clear hcc406 hce406
                                                  have HR406_0 := Aside0.mk hi406_0
                                                  have HC406_0 := Aside0.mk hl406_0
                                                  clear hi406_0 hl406_0
                                                  replace p406 := eq_true p406
                                                  replace q406 := eq_true q406
                                                  have p54 : 0 ≤ (x12_6 : Int) := of_decide_eq_true (by first | (with_reducible assumption) | assumption)
                                                  have q54 : (x12_6 : Int) < (((rd_L1 x404000_6 x11_4).length : Int) : Int) := of_decide_eq_true (by first | (with_reducible assumption) | assumption)
                                                  obtain ⟨go54, co54, eo54, gb54, gl54, cl54, HG54⟩ := Kd.R_form HL406_0.out (by omega)
                                                  (first | cases eo54 | (injection eo54 with ea_ en_ ec_; (first | subst ea_ | (injection ea_ with ea_; subst ea_)); subst ec_; clear en_))
                                                  have GB54 := Aside0.mk gb54
                                                  have GG54 := Aside0.mk HG54
                                                  clear gb54 gl54 HG54
                                                  obtain ⟨hx54_0, hf54_0⟩ := Kd.R_celln 0 HL406_0.out (x12_6 : Int) p54 q54
                                                  replace p54 := eq_true p54
                                                  replace q54 := eq_true q54
                                                  have hq65 : (x11_4 : Int) < (x404000_6.length : Int) := (by have h_ : (x11_4 : Int) < ((x404000_6.length : Int) : Int) := of_decide_eq_true (by first | (with_reducible assumption) | assumption); first | exact h_ | (have e_ := (Kd.S_reads' HO_404000.out).1; omega) | simpa only [List.length_set, List.length_set] using h_)
                                                  obtain ⟨oki65, ce65, hcl65, hM65, hcc65, hok65, hbk65⟩ := Kd.S_borrow HO_404000.out [] (x11_4 : Int) (of_decide_eq_true (by first | (with_reducible assumption) | assumption)) (by first | exact hq65 | (have e_ := (Kd.S_reads' HO_404000.out).1; omega))
                                                  obtain ⟨ve65_0, rfl, ge65_0⟩ := hM65
                                                  have hv65 := hcc65 0 _ rfl
                                                  rw [Nat.add_zero, show ((Kd.slice 3 (Kd.int .i64))).sz = 1 from rfl, Nat.mul_one] at hv65
                                                  replace hv65 := Option.some.inj (hv65.symm.trans HX406_0.out)
                                                  subst hv65
                                                  clear hcc65 hcl65
                                                  replace ge65_0 := (show Kd.R (Kd.int .i64) 3 _ _ _ _ (rd_L1 x404000_6 x11_4) from ge65_0)
                                                  have HP65 := Kd.R_putg ge65_0 (x12_6 : Int) 0
                                                  try go_wp2_with (first | ((with_reducible refine gate_store (t := 3) (p := 67) rfl ?_); refine store_event (t := 3) (p := 67) (v := ?vo_w66) (w1 := (wc.setCell ⟨go54, (x12_6 : Int).toNat, none⟩ (.int .i64 0))) ?hg ?ho ?hn ?hr ?_; (case ho => rfl); (case hg => rfl); (case hn => rfl); (case hr => first | (go_simp; done) | (go_simp; rfl)); intro w66 hw; have hg : wc.grownBy w66 (some go54) := (by rw [hw]; exact HP65.2); have hz_ : Kd.R (Kd.int .i64) 3 w66 w.heap.size oki65 (.slice (some ⟨go54, 0, none⟩) (rd_L1 x404000_6 x11_4).length c406_0) y407 := (by rw [hw, Ny407.out]; exact HP65.1); have hp_ : Kd.S (Kd.slice 3 (Kd.int .i64)) 32 w66 w.heap.size (fun _ => True) (.slice (some ad406) x404000_6.length co64) y409 := (by rw [Ny409.out]; exact hbk65 hg (fun k_ e_ => by injection e_ with e_; subst e_; exact ge65_0.1 _ rfl) (Kd.M_row hz_)); have hm_ := Kd.R_mono hz_ hok65; clear HP65 hbk65; have n0_ := Aside0.mk (hp_); have n1_ := Aside0.mk (Kd.R_over' (v := (.slice (some ⟨go54, 0, none⟩) (rd_L1 x404000_6 x11_4).length c406_0)) (by (with_reducible repeat (first | apply Kd.R_alloc | apply Kd.R_drewN | apply Kd.R_drew)); exact HO_404001.out) (Kd.R_typed HL406_0.out) (by decide) hg); have n2_ := Aside0.mk (blk_grown (g := gb393) (o := .cells #[.slice A1_0 l1_0.length c1_0, .slice A1_1 l1_1.length c1_1, .int .i64 a1_2, .int .i64 a1_3] 31 (0, 0)) (by (with_reducible repeat (first | refine blk_drewN ?_ _ | refine blk_drew ?_ | refine blk_alloc ?_ _)); exact BK393.out) hg (Kd.R_ne HL406_0.out BK393.out (by decide))); have n3_ := Aside0.mk (blk_grown (g := gb394) (o := .cells #[.slice none 0 0, .slice none 0 0, .int .i64 0, .int .i64 0] 31 (0, 0)) (by (with_reducible repeat (first | refine blk_drewN ?_ _ | refine blk_drew ?_ | refine blk_alloc ?_ _)); exact BK394.out) hg (Kd.R_ne HL406_0.out BK394.out (by decide))); have n4_ := Aside0.mk (blk_grown (g := gb403) (o := .cells #[.slice (some ad406) x404000_6.length co64, .slice Ao17 t398.length co17, .int .i64 x404002_20, .int .i64 t402] 31 (0, 0)) (by (with_reducible repeat (first | refine blk_drewN ?_ _ | refine blk_drew ?_ | refine blk_alloc ?_ _)); exact BK403.out) hg (Kd.R_ne HL406_0.out BK403.out (by decide))); have n5_ := Aside0.mk ((by rw [hw]; exact below_set (HB.out) GB54.out : Below w.heap.size w w66)); have n6_ := Aside0.mk (hm_); have n7_ := Aside0.mk ((Kd.R_reads' hm_).2.1); clear HO_404000; clear HO_404001; clear BK393; clear BK394; clear BK403; clear HB; clear HL406_0; have HO_404000 := n0_; have HO_404001 := n1_; have BK393 := n2_; have BK394 := n3_; have BK403 := n4_; have HB := n5_; have HL417 := n6_; have HC408 := n7_; clear n0_ n1_ n2_ n3_ n4_ n5_ n6_ n7_; clear hg hw hp_ hz_ hm_ hok65))
                                                  have n0_ := Aside0.mk (Kd.S_drew HO_404000.out)
                                                  have n1_ := Aside0.mk (Kd.R_drew HO_404001.out)
                                                  have n2_ := Aside0.mk (Kd.R_drew HL417.out)
                                                  have n3_ := Aside0.mk (blk_drew BK393.out)
                                                  have n4_ := Aside0.mk (blk_drew BK394.out)
                                                  have n5_ := Aside0.mk (blk_drew BK403.out)
                                                  have n6_ := Aside0.mk (below_drew1 HB.out)
                                                  clear HO_404000
                                                  clear HO_404001
                                                  clear HL417
                                                  clear BK393
                                                  clear BK394
                                                  clear BK403
                                                  clear HB
                                                  have HO_404000 := n0_
                                                  have HO_404001 := n1_
                                                  have HL417 := n2_
                                                  have BK393 := n3_
                                                  have BK394 := n4_
                                                  have BK403 := n5_
                                                  have HB := n6_
                                                  clear n0_ n1_ n2_ n3_ n4_ n5_ n6_
                                                  have p410 : 0 ≤ (x11_4 : Int) := of_decide_eq_true (by first | (with_reducible assumption) | assumption)
                                                  have q410 : x11_4 < (y409.length : Int) := (by have h_ : (x11_4 : Int) < ((x404000_6.length : Int) : Int) := of_decide_eq_true (by first | (with_reducible assumption) | assumption); first | (have e_ := (Kd.S_reads' HO_404000.out).1; omega) | simpa only [Ny409.out, List.length_set] using h_)
                                                  have ql410 : ((x11_4 : Int) < ((x404000_6.length : Int) : Int)) = True := eq_true (of_decide_eq_true (by first | (with_reducible assumption) | assumption))
                                                  obtain ⟨ad410, A410_0, c410_0, e410, hx410_0, hl410_0, hi410_0⟩ := at_L1 (Kd.S_reads' HO_404000.out).2.2 x11_4 p410 q410
                                                  obtain rfl : ad406 = ad410 := (by injection e410)
                                                  obtain ⟨ce410, hce410, hMe410, hcc410⟩ := Kd.S_get HO_404000.out [] x11_4 p410 (by first | exact q410 | exact of_decide_eq_true (by first | (with_reducible assumption) | assumption) | (have e_ := (Kd.S_reads' HO_404000.out).1; omega))
                                                  obtain ⟨ve410_0, rfl, ge410_0⟩ := hMe410
                                                  have hv410_0 := hcc410 0 _ rfl
                                                  rw [Nat.add_zero, show ((Kd.slice 3 (Kd.int .i64))).sz = 1 from rfl, Nat.mul_one] at hv410_0
                                                  replace hv410_0 := Option.some.inj (hv410_0.symm.trans hx410_0)
                                                  rw [hv410_0] at ge410_0
                                                  have HL410_0 := Aside0.mk (show Kd.R (Kd.int .i64) 3 _ _ _ _ (rd_L1 y409 x11_4) from ge410_0)
                                                  clear hv410_0 ge410_0
                                                  have HX410_0 := Aside0.mk hx410_0
                                                  clear hcc410 hce410
                                                  have HR410_0 := Aside0.mk hi410_0
                                                  have HC410_0 := Aside0.mk hl410_0
                                                  clear hi410_0 hl410_0
                                                  replace p410 := eq_true p410
                                                  replace q410 := eq_true q410
                                                  have p411 : 0 ≤ (x11_4 : Int) := of_decide_eq_true (by first | (with_reducible assumption) | assumption)
                                                  have q411 : x11_4 < (l0.length : Int) := of_decide_eq_true (by first | (with_reducible assumption) | assumption)
                                                  obtain ⟨ad411, e411, hx411_0, hx411_1, hx411_2, hx411_3, hx411_4⟩ := at_T60 HR0.out x11_4 p411 q411
                                                  have hw411_4 := hx411_4
                                                  have hw411_3 := hx411_3
                                                  have hw411_2 := hx411_2
                                                  have hw411_1 := hx411_1
                                                  have hw411_0 := hx411_0
                                                  cases e411
                                                  replace hx411_0 := (HB.out.cell (World.block_lt_of_cell? w _ hx411_0)).trans hx411_0
                                                  replace hx411_1 := (HB.out.cell (World.block_lt_of_cell? w _ hx411_1)).trans hx411_1
                                                  replace hx411_2 := (HB.out.cell (World.block_lt_of_cell? w _ hx411_2)).trans hx411_2
                                                  replace hx411_3 := (HB.out.cell (World.block_lt_of_cell? w _ hx411_3)).trans hx411_3
                                                  replace hx411_4 := (HB.out.cell (World.block_lt_of_cell? w _ hx411_4)).trans hx411_4
                                                  replace p411 := eq_true p411
                                                  replace q411 := eq_true q411
                                                  have p412 : 0 ≤ (x10_6 : Int) := of_decide_eq_true (by first | (with_reducible assumption) | assumption)
                                                  have q412 : x10_6 < (l2.length : Int) := of_decide_eq_true (by first | (with_reducible assumption) | assumption)
                                                  obtain ⟨ad412, e412, hx412_0⟩ := Kd.at_int HR2.out x10_6 p412 q412
                                                  have hw412_0 := hx412_0
                                                  cases e412
                                                  replace hx412_0 := (HB.out.cell (World.block_lt_of_cell? w _ hx412_0)).trans hx412_0
                                                  replace p412 := eq_true p412
                                                  replace q412 := eq_true q412
                                                  refine start_ (n := 18) (S := fun w' => w'.cell? ⟨gb403, 0, none⟩ = some (.slice (some ad406) x404000_6.length co64) ∧ w'.cell? ⟨gb403, 1, none⟩ = some (.slice Ao17 t398.length co17) ∧ w'.cell? ⟨gb403, 2, none⟩ = some (.int .i64 x404002_20) ∧ w'.cell? ⟨gb403, 3, none⟩ = some (.int .i64 t402) ∧ w'.cell? (ad406.add (x11_4).toNat) = some (.slice A410_0 (rd_L1 y409 x11_4).length c410_0) ∧ w'.cell? (ad411.add ((x11_4).toNat * 5)) = some (.string ((rd_T60 l0 x11_4).f0)) ∧ w'.cell? ⟨(ad411.add ((x11_4).toNat * 5)).block, (ad411.add ((x11_4).toNat * 5)).off + 1, none⟩ = some (.int .i64 ((rd_T60 l0 x11_4).f1)) ∧ w'.cell? ⟨(ad411.add ((x11_4).toNat * 5)).block, (ad411.add ((x11_4).toNat * 5)).off + 2, none⟩ = some (.int .i64 ((rd_T60 l0 x11_4).f2)) ∧ w'.cell? ⟨(ad411.add ((x11_4).toNat * 5)).block, (ad411.add ((x11_4).toNat * 5)).off + 3, none⟩ = some (.int .i64 ((rd_T60 l0 x11_4).f3)) ∧ w'.cell? ⟨(ad411.add ((x11_4).toNat * 5)).block, (ad411.add ((x11_4).toNat * 5)).off + 4, none⟩ = some (.int .i64 ((rd_T60 l0 x11_4).f4)) ∧ w'.cell? (ad412.add (x10_6).toNat) = some (.int .i64 (rd l2 x10_6))) (ds := [17]) #[false, false, false, false, false, false, false, false, false, false, false, false, false, false, false, false, false, false] (by kernel_rfl) rfl rfl ⟨(blk_cell BK403.out 0).trans rfl, (blk_cell BK403.out 1).trans rfl, (blk_cell BK403.out 2).trans rfl, (blk_cell BK403.out 3).trans rfl, hx410_0, ((HB.out.cell (World.block_lt_of_cell? w _ hw411_0)).trans hw411_0), ((HB.out.cell (World.block_lt_of_cell? w _ hw411_1)).trans hw411_1), ((HB.out.cell (World.block_lt_of_cell? w _ hw411_2)).trans hw411_2), ((HB.out.cell (World.block_lt_of_cell? w _ hw411_3)).trans hw411_3), ((HB.out.cell (World.block_lt_of_cell? w _ hw411_4)).trans hw411_4), ((HB.out.cell (World.block_lt_of_cell? w _ hw412_0)).trans hw412_0)⟩ (fun hHeld => ?_); refine with_tabW ladderbackref24_Begin.tab18 ladderbackref24_Begin.bits18 (fun HT_ HW_ => ?_)
                                                  generalize w66.drew = w67 at HO_404000 HO_404001 HL417 BK393 BK394 BK403 HB HL410_0 HR410_0 HX410_0 hx410_0 hx411_0 hx411_1 hx411_2 hx411_3 hx411_4 hx412_0 hHeld ⊢
                                                  refine pure_ (i := 0) (N := some 72) (v := ?_) (a' := ?_) #[true, false, false, false, false, false, false, false, false, false, false, false, false, false, false, false, false, false] rfl rfl (any_of HT_.out (by kernel_rfl)) (fun _ _ _ h => h) (Or.inl ⟨by rfl, ?_⟩) ?_ ?_
                                                  rotate_left
                                                  · intro w'
                                                    go_simp
                                                    with_reducible rfl
                                                  rotate_left
                                                  · simp only [Act.put, List.setIfInBounds_toArray, List.set_cons_zero, List.set_cons_succ, i64_w, i32_w]
                                                    rfl
                                                  refine pure_ (i := 2) (N := some 74) (v := ?_) (a' := ?_) #[true, false, true, false, false, false, false, false, false, false, false, false, false, false, false, false, false, false] rfl rfl (any_of HT_.out (by kernel_rfl)) (fun _ _ _ h => h) (Or.inl ⟨by rfl, ?_⟩) ?_ ?_
                                                  rotate_left
                                                  · intro w'
                                                    go_simp
                                                    with_reducible rfl
                                                  rotate_left
                                                  · simp only [Act.put, List.setIfInBounds_toArray, List.set_cons_zero, List.set_cons_succ, i64_w, i32_w]
                                                    rfl
                                                  refine pure_ (i := 5) (N := some 77) (v := ?_) (a' := ?_) #[true, false, true, false, false, true, false, false, false, false, false, false, false, false, false, false, false, false] rfl rfl (any_of HT_.out (by kernel_rfl)) (fun _ _ _ h => h) (Or.inl ⟨by rfl, ?_⟩) ?_ ?_
                                                  rotate_left
                                                  · intro w'
                                                    go_simp
                                                    with_reducible rfl
                                                  rotate_left
                                                  · simp only [Act.put, List.setIfInBounds_toArray, List.set_cons_zero, List.set_cons_succ, i64_w, i32_w]
                                                    rfl
                                                  refine pure_ (i := 6) (N := some 78) (v := ?_) (a' := ?_) #[true, false, true, false, false, true, true, false, false, false, false, false, false, false, false, false, false, false] rfl rfl (any_of HT_.out (by kernel_rfl)) (fun _ _ _ h => h) (Or.inl ⟨by rfl, ?_⟩) ?_ ?_
                                                  rotate_left
                                                  · intro w'
                                                    go_simp
                                                    with_reducible rfl
                                                  rotate_left
                                                  · simp only [Act.put, List.setIfInBounds_toArray, List.set_cons_zero, List.set_cons_succ, i64_w, i32_w]
                                                    rfl
                                                  refine pure_ (i := 7) (N := some 79) (v := ?_) (a' := ?_) #[true, false, true, false, false, true, true, true, false, false, false, false, false, false, false, false, false, false] rfl rfl (any_of HT_.out (by kernel_rfl)) (fun _ _ _ h => h) (Or.inl ⟨by rfl, ?_⟩) ?_ ?_
                                                  rotate_left
                                                  · intro w'
                                                    go_simp
                                                    with_reducible rfl
                                                  rotate_left
                                                  · simp only [Act.put, List.setIfInBounds_toArray, List.set_cons_zero, List.set_cons_succ, i64_w, i32_w]
                                                    rfl
                                                  refine pure_ (i := 8) (N := some 80) (v := ?_) (a' := ?_) #[true, false, true, false, false, true, true, true, true, false, false, false, false, false, false, false, false, false] rfl rfl (any_of HT_.out (by kernel_rfl)) (fun _ _ _ h => h) (Or.inl ⟨by rfl, ?_⟩) ?_ ?_
                                                  rotate_left
                                                  · intro w'
                                                    go_simp
                                                    with_reducible rfl
                                                  rotate_left
                                                  · simp only [Act.put, List.setIfInBounds_toArray, List.set_cons_zero, List.set_cons_succ, i64_w, i32_w]
                                                    rfl
                                                  refine pure_ (i := 9) (N := some 81) (v := ?_) (a' := ?_) #[true, false, true, false, false, true, true, true, true, true, false, false, false, false, false, false, false, false] rfl rfl (any_of HT_.out (by kernel_rfl)) (fun _ _ _ h => h) (Or.inl ⟨by rfl, ?_⟩) ?_ ?_
                                                  rotate_left
                                                  · intro w'
                                                    go_simp
                                                    with_reducible rfl
                                                  rotate_left
                                                  · simp only [Act.put, List.setIfInBounds_toArray, List.set_cons_zero, List.set_cons_succ, i64_w, i32_w]
                                                    rfl
                                                  refine pure_ (i := 11) (N := some 83) (v := ?_) (a' := ?_) #[true, false, true, false, false, true, true, true, true, true, false, true, false, false, false, false, false, false] rfl rfl (any_of HT_.out (by kernel_rfl)) (fun _ _ _ h => h) (Or.inl ⟨by rfl, ?_⟩) ?_ ?_
                                                  rotate_left
                                                  · intro w'
                                                    go_simp
                                                    with_reducible rfl
                                                  rotate_left
                                                  · simp only [Act.put, List.setIfInBounds_toArray, List.set_cons_zero, List.set_cons_succ, i64_w, i32_w]
                                                    rfl
                                                  refine pure_ (i := 12) (N := some 84) (v := ?_) (a' := ?_) #[true, false, true, false, false, true, true, true, true, true, false, true, true, false, false, false, false, false] rfl rfl (any_of HT_.out (by kernel_rfl)) (fun _ _ _ h => h) (Or.inl ⟨by rfl, ?_⟩) ?_ ?_
                                                  rotate_left
                                                  · intro w'
                                                    go_simp
                                                    with_reducible rfl
                                                  rotate_left
                                                  · simp only [Act.put, List.setIfInBounds_toArray, List.set_cons_zero, List.set_cons_succ, i64_w, i32_w]
                                                    rfl
                                                  refine pure_ (i := 13) (N := some 85) (v := ?_) (a' := ?_) #[true, false, true, false, false, true, true, true, true, true, false, true, true, true, false, false, false, false] rfl rfl (any_of HT_.out (by kernel_rfl)) (fun _ _ _ h => h) (Or.inl ⟨by rfl, ?_⟩) ?_ ?_
                                                  rotate_left
                                                  · intro w'
                                                    go_simp
                                                    with_reducible rfl
                                                  rotate_left
                                                  · simp only [Act.put, List.setIfInBounds_toArray, List.set_cons_zero, List.set_cons_succ, i64_w, i32_w]
                                                    rfl
                                                  refine take_ (i := 1) (N := some 73) (v := ?_) (a' := ?_) #[true, true, true, false, false, true, true, true, true, true, false, true, true, true, false, false, false, false] rfl rfl (take_ofW HT_.out HW_.out (by kernel_rfl)) (fun _ _ _ h => h) (Or.inl ⟨by rfl, ?_⟩) hHeld ?_ ?_
                                                  rotate_left
                                                  · rintro w' ⟨s0, s1, s2, s3, s4, s5, s6, s7, s8, s9, s10⟩
                                                    go_simp
                                                    with_reducible rfl
                                                  rotate_left
                                                  · simp only [Act.put, List.setIfInBounds_toArray, List.set_cons_zero, List.set_cons_succ, i64_w, i32_w]
                                                    rfl
                                                  refine pure_ (i := 3) (N := some 75) (v := ?_) (a' := ?_) #[true, true, true, true, false, true, true, true, true, true, false, true, true, true, false, false, false, false] rfl rfl (any_of HT_.out (by kernel_rfl)) (fun _ _ _ h => h) (Or.inl ⟨by rfl, ?_⟩) ?_ ?_
                                                  rotate_left
                                                  · intro w'
                                                    go_simp
                                                    with_reducible rfl
                                                  rotate_left
                                                  · simp only [Act.put, List.setIfInBounds_toArray, List.set_cons_zero, List.set_cons_succ, i64_w, i32_w]
                                                    rfl
                                                  refine take_ (i := 4) (N := some 76) (v := ?_) (a' := ?_) #[true, true, true, true, true, true, true, true, true, true, false, true, true, true, false, false, false, false] rfl rfl (take_ofW HT_.out HW_.out (by kernel_rfl)) (fun _ _ _ h => h) (Or.inl ⟨by rfl, ?_⟩) hHeld ?_ ?_
                                                  rotate_left
                                                  · rintro w' ⟨s0, s1, s2, s3, s4, s5, s6, s7, s8, s9, s10⟩
                                                    go_simp
                                                    with_reducible rfl
                                                  rotate_left
                                                  · simp only [Act.put, List.setIfInBounds_toArray, List.set_cons_zero, List.set_cons_succ, i64_w, i32_w]
                                                    rfl
                                                  refine take_ (i := 10) (N := some 82) (v := ?_) (a' := ?_) #[true, true, true, true, true, true, true, true, true, true, true, true, true, true, false, false, false, false] rfl rfl (take_ofW HT_.out HW_.out (by kernel_rfl)) (fun _ _ _ h => h) (Or.inl ⟨by rfl, ?_⟩) hHeld ?_ ?_
                                                  rotate_left
                                                  · rintro w' ⟨s0, s1, s2, s3, s4, s5, s6, s7, s8, s9, s10⟩
                                                    go_simp
                                                    with_reducible rfl
                                                  rotate_left
                                                  · simp only [Act.put, List.setIfInBounds_toArray, List.set_cons_zero, List.set_cons_succ, i64_w, i32_w]
                                                    rfl
                                                  refine take_ (i := 14) (N := some 86) (v := ?_) (a' := ?_) #[true, true, true, true, true, true, true, true, true, true, true, true, true, true, true, false, false, false] rfl rfl (take_ofW HT_.out HW_.out (by kernel_rfl)) (fun _ _ _ h => h) (Or.inl ⟨by rfl, ?_⟩) hHeld ?_ ?_
                                                  rotate_left
                                                  · rintro w' ⟨s0, s1, s2, s3, s4, s5, s6, s7, s8, s9, s10⟩
                                                    go_simp
                                                    with_reducible rfl
                                                  rotate_left
                                                  · simp only [Act.put, List.setIfInBounds_toArray, List.set_cons_zero, List.set_cons_succ, i64_w, i32_w]
                                                    rfl
                                                  refine one_ (i := 15) (N := some 87) #[true, true, true, true, true, true, true, true, true, true, true, true, true, true, true, true, false, false] rfl rfl (one_of HT_.out (by kernel_rfl)) (by decide) (fun K hK => ?_)
                                                  refine goes_ Try.func35 (by kernel_rfl) rfl #[.int .i64 ((rd_T60 l0 x11_4).f1), .int .i64 (rd l2 x10_6)] (by rfl) rfl rfl (by (try simp only [List.map_toArray, List.map_cons, List.map_nil]); first | done | rfl | (simp only [List.length_drop, List.length_take]; rfl)) ?_
                                                  with_reducible refine (ladderbackref01_Wrap.calls ((rd_T60 l0 x11_4).f1) (rd l2 x10_6) t413 _ A58.out).mono ?_
                                                  rintro e w' ⟨rfl, ⟨nd, rfl⟩⟩
                                                  refine ⟨_, rfl, ?_⟩
                                                  have p60 : 0 ≤ (x12_6 : Int) := of_decide_eq_true (by first | (with_reducible assumption) | assumption)
                                                  have q60 : (x12_6 : Int) < (((rd_L1 y409 x11_4).length : Int) : Int) := of_decide_eq_true (by first | (with_reducible assumption) | assumption)
                                                  obtain ⟨go60, co60, eo60, gb60, gl60, cl60, HG60⟩ := Kd.R_form HL410_0.out (by omega)
                                                  (first | cases eo60 | (injection eo60 with ea_ en_ ec_; (first | subst ea_ | (injection ea_ with ea_; subst ea_)); subst ec_; clear en_))
                                                  have GB60 := Aside0.mk gb60
                                                  have GG60 := Aside0.mk HG60
                                                  clear gb60 gl60 HG60
                                                  obtain ⟨hx60_0, hf60_0⟩ := Kd.R_celln 0 HL410_0.out (x12_6 : Int) p60 q60
                                                  replace p60 := eq_true p60
                                                  replace q60 := eq_true q60
                                                  have hq68 : (x11_4 : Int) < (y409.length : Int) := (by have h_ : (x11_4 : Int) < ((x404000_6.length : Int) : Int) := of_decide_eq_true (by first | (with_reducible assumption) | assumption); first | exact h_ | (have e_ := (Kd.S_reads' HO_404000.out).1; omega) | simpa only [Ny409.out, List.length_set] using h_)
                                                  obtain ⟨oki68, ce68, hcl68, hM68, hcc68, hok68, hbk68⟩ := Kd.S_borrow HO_404000.out [] (x11_4 : Int) (of_decide_eq_true (by first | (with_reducible assumption) | assumption)) (by first | exact hq68 | (have e_ := (Kd.S_reads' HO_404000.out).1; omega))
                                                  obtain ⟨ve68_0, rfl, ge68_0⟩ := hM68
                                                  have hv68 := hcc68 0 _ rfl
                                                  rw [Nat.add_zero, show ((Kd.slice 3 (Kd.int .i64))).sz = 1 from rfl, Nat.mul_one] at hv68
                                                  replace hv68 := Option.some.inj (hv68.symm.trans HX410_0.out)
                                                  subst hv68
                                                  clear hcc68 hcl68
                                                  replace ge68_0 := (show Kd.R (Kd.int .i64) 3 _ _ _ _ (rd_L1 y409 x11_4) from ge68_0)
                                                  have HP68 := Kd.R_putg ge68_0 (x12_6 : Int) t413
                                                  rw [← Ny414.out] at HP68
                                                  have HS68 := hbk68 HP68.2 (fun k_ e_ => by injection e_ with e_; subst e_; exact ge68_0.1 _ rfl) (x' := y414) (Kd.M_row HP68.1)
                                                  rw [← Ny416.out] at HS68
                                                  have HQ68 := Aside0.mk HS68
                                                  clear HP68 HS68 hbk68 hok68
                                                  refine hK.out _ _ ⟨(blk_cell BK403.out 0).trans rfl, (blk_cell BK403.out 1).trans rfl, (blk_cell BK403.out 2).trans rfl, (blk_cell BK403.out 3).trans rfl, hHeld.2.2.2.2.1, ((HB.out.cell (World.block_lt_of_cell? w _ hw411_0)).trans hw411_0), ((HB.out.cell (World.block_lt_of_cell? w _ hw411_1)).trans hw411_1), ((HB.out.cell (World.block_lt_of_cell? w _ hw411_2)).trans hw411_2), ((HB.out.cell (World.block_lt_of_cell? w _ hw411_3)).trans hw411_3), ((HB.out.cell (World.block_lt_of_cell? w _ hw411_4)).trans hw411_4), ((HB.out.cell (World.block_lt_of_cell? w _ hw412_0)).trans hw412_0)⟩ (fun hHeld => ?_)
                                                  clear hK K
                                                  refine norm_ (a' := ?_) ?_ ?_
                                                  rotate_left
                                                  · show Act.put _ (some 87) _ = _
                                                    simp only [Act.put, List.setIfInBounds_toArray, List.set_cons_zero, List.set_cons_succ, i64_w, i32_w]
                                                    rfl
                                                  refine pure_ (i := 16) (N := some 88) (v := ?_) (a' := ?_) #[true, true, true, true, true, true, true, true, true, true, true, true, true, true, true, true, true, false] rfl rfl (any_of HT_.out (by kernel_rfl)) (fun _ _ _ h => h) (Or.inl ⟨by rfl, ?_⟩) ?_ ?_
                                                  rotate_left
                                                  · intro w'
                                                    go_simp
                                                    with_reducible rfl
                                                  rotate_left
                                                  · simp only [Act.put, List.setIfInBounds_toArray, List.set_cons_zero, List.set_cons_succ, i64_w, i32_w]
                                                    rfl
                                                  refine last_ (i := 17) (N := none) #[true, true, true, true, true, true, true, true, true, true, true, true, true, true, true, true, true, true] rfl rfl (one_of HT_.out (by kernel_rfl)) (by decide) (fun K hK => ?_)
                                                  refine skip_ (w1 := ?_) (by rfl) rfl ?_ ?_
                                                  rotate_left
                                                  · go_simp
                                                    rfl
                                                  refine hK.out _ _ ?_
                                                  clear hK K
                                                  refine done_ (done_of HT_.out (by kernel_rfl)) ?_
                                                  try go_wp2
                                                  go_roundg kj37
                                                  case measure => have := HJ5.out; have := HJ18.out; have := HJ20.out; have := HK4.out; have := HJ31.out; have := HK6.out; have := HJ37.out; omega
                                                  case rel => exact ⟨(wrap64 (x10_6 + 1)), (wrap64 (x12_6 + 1)), (y416), (.slice (some ad406) x404000_6.length co64), (by first | rfl | (simp; done) | (simp [*]; done)), (by first | rfl | (simp; done) | (simp [*]; done)), H', ⟨by have := HJ5.out; have := HJ18.out; have := HJ20.out; have := HK4.out; have := HJ31.out; have := HK6.out; have := HJ37.out; omega⟩, ⟨by (with_reducible repeat (first | apply Kd.S_alloc | apply Kd.S_drewN | apply Kd.S_drew)); exact HQ68.out⟩, ⟨by (with_reducible repeat (first | apply Kd.R_alloc | apply Kd.R_drewN | apply Kd.R_drew)); exact Kd.R_mono (Kd.R_far (p := ⟨go60, (x12_6 : Int).toNat, none⟩) (Kd.R_types HO_404001.out GG60.out (by decide)) (fun _ hk => hk.2) (.int .i64 t413)) (fun _ hk => trivial)⟩, ⟨by (with_reducible repeat (first | refine blk_drewN ?_ _ | refine blk_drew ?_ | refine blk_alloc ?_ _)); refine blk_far ?_ (by have h_ := Kd.R_ne HL410_0.out BK393.out (by decide); intro e_; exact h_ (by rw [e_]; rfl)) _; (with_reducible repeat (first | refine blk_drewN ?_ _ | refine blk_drew ?_ | refine blk_alloc ?_ _)); exact BK393.out⟩, ⟨by (with_reducible repeat (first | refine blk_drewN ?_ _ | refine blk_drew ?_ | refine blk_alloc ?_ _)); refine blk_far ?_ (by have h_ := Kd.R_ne HL410_0.out BK394.out (by decide); intro e_; exact h_ (by rw [e_]; rfl)) _; (with_reducible repeat (first | refine blk_drewN ?_ _ | refine blk_drew ?_ | refine blk_alloc ?_ _)); exact BK394.out⟩, ⟨by (with_reducible repeat (first | refine blk_drewN ?_ _ | refine blk_drew ?_ | refine blk_alloc ?_ _)); refine blk_far ?_ (by have h_ := Kd.R_ne HL410_0.out BK403.out (by decide); intro e_; exact h_ (by rw [e_]; rfl)) _; (with_reducible repeat (first | refine blk_drewN ?_ _ | refine blk_drew ?_ | refine blk_alloc ?_ _)); exact BK403.out⟩, ⟨by repeat (first | (with_reducible first | exact HB.out | apply below_alloc | apply pw_below_drewN | apply below_drew1 | refine below_set ?_ GB60.out | refine below_set ?_ GE393.out | refine below_set ?_ GE394.out | refine below_set ?_ GE403.out) | exact HB.out)⟩⟩
                                                · rw [if_neg c59] at H
                                                  exact absurd H (by simp)
                                              · rw [if_neg c57] at H
                                                exact absurd H (by simp)
                                            · rw [if_neg c56] at H
                                              exact absurd H (by simp)
                                          · rw [if_neg c55] at H
                                            have c55b0 : decide (x10_6 < (l2.length : Int)) = false := decide_eq_false c55
                                            clear c55
                                            have H' := Aside0.mk H
                                            clear H
                                            have hnb70 := NB403_393.out
                                            have hnc70 := NB393_403.out
                                            have hnb71 := NB403_394.out
                                            have hnc71 := NB394_403.out
                                            have hcz72_0 : wc.cell? ⟨gb403, 0, none⟩ = some (u404000) := (blk_cell BK403.out 0).trans rfl
                                            have hcz72_1 : wc.cell? ⟨gb403, 1, none⟩ = some (.slice Ao17 t398.length co17) := (blk_cell BK403.out 1).trans rfl
                                            have hcz72_2 : wc.cell? ⟨gb403, 2, none⟩ = some (.int .i64 x404002_20) := (blk_cell BK403.out 2).trans rfl
                                            have hcz72_3 : wc.cell? ⟨gb403, 3, none⟩ = some (.int .i64 t402) := (blk_cell BK403.out 3).trans rfl
                                            have hfz72_0 := blk_frozen BK403.out 0
                                            have hfz72_1 := blk_frozen BK403.out 1
                                            have hfz72_2 := blk_frozen BK403.out 2
                                            have hfz72_3 := blk_frozen BK403.out 3
                                            obtain ⟨Ao73, co73, eo73⟩ := Kd.S_slice HO_404000.out
                                            subst eo73
                                            have p406 : 0 ≤ (x11_4 : Int) := of_decide_eq_true (by first | (with_reducible assumption) | assumption)
                                            have q406 : x11_4 < (x404000_6.length : Int) := of_decide_eq_true (by first | (with_reducible assumption) | assumption)
                                            obtain ⟨ad406, A406_0, c406_0, e406, hx406_0, hl406_0, hi406_0⟩ := at_L1 (Kd.S_reads' HO_404000.out).2.2 x11_4 p406 q406
                                            cases e406
                                            obtain ⟨ce406, hce406, hMe406, hcc406⟩ := Kd.S_get HO_404000.out [] x11_4 p406 (by first | exact q406 | exact of_decide_eq_true (by first | (with_reducible assumption) | assumption) | (have e_ := (Kd.S_reads' HO_404000.out).1; omega))
                                            obtain ⟨ve406_0, rfl, ge406_0⟩ := hMe406
                                            have hv406_0 := hcc406 0 _ rfl
                                            rw [Nat.add_zero, show ((Kd.slice 3 (Kd.int .i64))).sz = 1 from rfl, Nat.mul_one] at hv406_0
                                            replace hv406_0 := Option.some.inj (hv406_0.symm.trans hx406_0)
                                            rw [hv406_0] at ge406_0
                                            have HL406_0 := Aside0.mk (show Kd.R (Kd.int .i64) 3 _ _ _ _ (rd_L1 x404000_6 x11_4) from ge406_0)
                                            clear hv406_0 ge406_0
                                            have HX406_0 := Aside0.mk hx406_0
                                            clear hcc406 hce406
                                            have HR406_0 := Aside0.mk hi406_0
                                            have HC406_0 := Aside0.mk hl406_0
                                            clear hi406_0 hl406_0
                                            replace p406 := eq_true p406
                                            replace q406 := eq_true q406
                                            have p54 : 0 ≤ (x12_6 : Int) := of_decide_eq_true (by first | (with_reducible assumption) | assumption)
                                            have q54 : (x12_6 : Int) < (((rd_L1 x404000_6 x11_4).length : Int) : Int) := of_decide_eq_true (by first | (with_reducible assumption) | assumption)
                                            obtain ⟨go54, co54, eo54, gb54, gl54, cl54, HG54⟩ := Kd.R_form HL406_0.out (by omega)
                                            (first | cases eo54 | (injection eo54 with ea_ en_ ec_; (first | subst ea_ | (injection ea_ with ea_; subst ea_)); subst ec_; clear en_))
                                            have GB54 := Aside0.mk gb54
                                            have GG54 := Aside0.mk HG54
                                            clear gb54 gl54 HG54
                                            obtain ⟨hx54_0, hf54_0⟩ := Kd.R_celln 0 HL406_0.out (x12_6 : Int) p54 q54
                                            replace p54 := eq_true p54
                                            replace q54 := eq_true q54
                                            have hq74 : (x11_4 : Int) < (x404000_6.length : Int) := (by have h_ : (x11_4 : Int) < ((x404000_6.length : Int) : Int) := of_decide_eq_true (by first | (with_reducible assumption) | assumption); first | exact h_ | (have e_ := (Kd.S_reads' HO_404000.out).1; omega) | simpa only [List.length_set, List.length_set] using h_)
                                            obtain ⟨oki74, ce74, hcl74, hM74, hcc74, hok74, hbk74⟩ := Kd.S_borrow HO_404000.out [] (x11_4 : Int) (of_decide_eq_true (by first | (with_reducible assumption) | assumption)) (by first | exact hq74 | (have e_ := (Kd.S_reads' HO_404000.out).1; omega))
                                            obtain ⟨ve74_0, rfl, ge74_0⟩ := hM74
                                            have hv74 := hcc74 0 _ rfl
                                            rw [Nat.add_zero, show ((Kd.slice 3 (Kd.int .i64))).sz = 1 from rfl, Nat.mul_one] at hv74
                                            replace hv74 := Option.some.inj (hv74.symm.trans HX406_0.out)
                                            subst hv74
                                            clear hcc74 hcl74
                                            replace ge74_0 := (show Kd.R (Kd.int .i64) 3 _ _ _ _ (rd_L1 x404000_6 x11_4) from ge74_0)
                                            have HP74 := Kd.R_putg ge74_0 (x12_6 : Int) 0
                                            go_wp2_with (first | ((with_reducible refine gate_store (t := 3) (p := 67) rfl ?_); refine store_event (t := 3) (p := 67) (v := ?vo_w75) (w1 := (wc.setCell ⟨go54, (x12_6 : Int).toNat, none⟩ (.int .i64 0))) ?hg ?ho ?hn ?hr ?_; (case ho => rfl); (case hg => rfl); (case hn => rfl); (case hr => first | (go_simp; done) | (go_simp; rfl)); intro w75 hw; have hg : wc.grownBy w75 (some go54) := (by rw [hw]; exact HP74.2); have hz_ : Kd.R (Kd.int .i64) 3 w75 w.heap.size oki74 (.slice (some ⟨go54, 0, none⟩) (rd_L1 x404000_6 x11_4).length c406_0) y407 := (by rw [hw, Ny407.out]; exact HP74.1); have hp_ : Kd.S (Kd.slice 3 (Kd.int .i64)) 32 w75 w.heap.size (fun _ => True) (.slice (some ad406) x404000_6.length co73) y409 := (by rw [Ny409.out]; exact hbk74 hg (fun k_ e_ => by injection e_ with e_; subst e_; exact ge74_0.1 _ rfl) (Kd.M_row hz_)); have hm_ := Kd.R_mono hz_ hok74; clear HP74 hbk74; have n0_ := Aside0.mk (hp_); have n1_ := Aside0.mk (Kd.R_over' (v := (.slice (some ⟨go54, 0, none⟩) (rd_L1 x404000_6 x11_4).length c406_0)) (by (with_reducible repeat (first | apply Kd.R_alloc | apply Kd.R_drewN | apply Kd.R_drew)); exact HO_404001.out) (Kd.R_typed HL406_0.out) (by decide) hg); have n2_ := Aside0.mk (blk_grown (g := gb393) (o := .cells #[.slice A1_0 l1_0.length c1_0, .slice A1_1 l1_1.length c1_1, .int .i64 a1_2, .int .i64 a1_3] 31 (0, 0)) (by (with_reducible repeat (first | refine blk_drewN ?_ _ | refine blk_drew ?_ | refine blk_alloc ?_ _)); exact BK393.out) hg (Kd.R_ne HL406_0.out BK393.out (by decide))); have n3_ := Aside0.mk (blk_grown (g := gb394) (o := .cells #[.slice none 0 0, .slice none 0 0, .int .i64 0, .int .i64 0] 31 (0, 0)) (by (with_reducible repeat (first | refine blk_drewN ?_ _ | refine blk_drew ?_ | refine blk_alloc ?_ _)); exact BK394.out) hg (Kd.R_ne HL406_0.out BK394.out (by decide))); have n4_ := Aside0.mk (blk_grown (g := gb403) (o := .cells #[.slice (some ad406) x404000_6.length co73, .slice Ao17 t398.length co17, .int .i64 x404002_20, .int .i64 t402] 31 (0, 0)) (by (with_reducible repeat (first | refine blk_drewN ?_ _ | refine blk_drew ?_ | refine blk_alloc ?_ _)); exact BK403.out) hg (Kd.R_ne HL406_0.out BK403.out (by decide))); have n5_ := Aside0.mk ((by rw [hw]; exact below_set (HB.out) GB54.out : Below w.heap.size w w75)); have n6_ := Aside0.mk (hm_); have n7_ := Aside0.mk ((Kd.R_reads' hm_).2.1); clear HO_404000; clear HO_404001; clear BK393; clear BK394; clear BK403; clear HB; clear HL406_0; have HO_404000 := n0_; have HO_404001 := n1_; have BK393 := n2_; have BK394 := n3_; have BK403 := n4_; have HB := n5_; have HL418 := n6_; have HC408 := n7_; clear n0_ n1_ n2_ n3_ n4_ n5_ n6_ n7_; clear hg hw hp_ hz_ hm_ hok74))
                                            go_roundg kj37
                                            case measure => have := HJ5.out; have := HJ18.out; have := HJ20.out; have := HK4.out; have := HJ31.out; have := HK6.out; have := HJ37.out; omega
                                            case rel => exact ⟨(wrap64 (x10_6 + 1)), (wrap64 (x12_6 + 1)), (y409), (.slice (some ad406) x404000_6.length co73), (by first | rfl | (simp; done) | (simp [*]; done)), (by first | rfl | (simp; done) | (simp [*]; done)), H', ⟨by have := HJ5.out; have := HJ18.out; have := HJ20.out; have := HK4.out; have := HJ31.out; have := HK6.out; have := HJ37.out; omega⟩, ⟨by (with_reducible repeat (first | apply Kd.S_alloc | apply Kd.S_drewN | apply Kd.S_drew)); exact HO_404000.out⟩, ⟨by (with_reducible repeat (first | apply Kd.R_alloc | apply Kd.R_drewN | apply Kd.R_drew)); exact HO_404001.out⟩, ⟨by (with_reducible repeat (first | refine blk_drewN ?_ _ | refine blk_drew ?_ | refine blk_alloc ?_ _)); exact BK393.out⟩, ⟨by (with_reducible repeat (first | refine blk_drewN ?_ _ | refine blk_drew ?_ | refine blk_alloc ?_ _)); exact BK394.out⟩, ⟨by (with_reducible repeat (first | refine blk_drewN ?_ _ | refine blk_drew ?_ | refine blk_alloc ?_ _)); exact BK403.out⟩, ⟨by repeat (first | (with_reducible first | exact HB.out | apply below_alloc | apply pw_below_drewN | apply below_drew1 | refine below_set ?_ GE393.out | refine below_set ?_ GE394.out | refine below_set ?_ GE403.out) | exact HB.out)⟩⟩
                                        · rw [if_neg c53] at H
                                          exact absurd H (by simp)
                                      · rw [if_neg c52] at H
                                        exact absurd H (by simp)
                                    · rw [if_neg c51] at H
                                      exact absurd H (by simp)
                                  · rw [if_neg c50] at H
                                    exact absurd H (by simp)
                                · replace c49 := Bool.eq_false_iff.mpr c49
                                  subst c49
                                  have H1 : (ladderbackref24_Begin.l0 kj37 l0 l2 x10_6 (wrap64 (x11_4 + 1)) l1_0 l1_1 a1_2 a1_3 x404000_6 t398 x404002_20 t402) = some (r1, r2, r3, r4) := by rw [if_neg (show ¬ (false = true) by decide)] at H; exact H
                                  clear H
                                  have H := H1
                                  clear H1
                                  have H' := Aside0.mk H
                                  clear H
                                  go_wp2
                                  go_roundg kj37
                                  case measure => have := HJ5.out; have := HJ18.out; have := HJ20.out; have := HK4.out; have := HJ31.out; have := HK6.out; have := HJ37.out; omega
                                  case rel => exact ⟨(x10_6), (wrap64 (x11_4 + 1)), (x404000_6), (u404000), (by first | rfl | (simp; done) | (simp [*]; done)), (by first | rfl | (simp; done) | (simp [*]; done)), H', ⟨by have := HJ5.out; have := HJ18.out; have := HJ20.out; have := HK4.out; have := HJ31.out; have := HK6.out; have := HJ37.out; omega⟩, ⟨by (with_reducible repeat (first | apply Kd.S_alloc | apply Kd.S_drewN | apply Kd.S_drew)); exact HO_404000.out⟩, ⟨by (with_reducible repeat (first | apply Kd.R_alloc | apply Kd.R_drewN | apply Kd.R_drew)); exact HO_404001.out⟩, ⟨by (with_reducible repeat (first | refine blk_drewN ?_ _ | refine blk_drew ?_ | refine blk_alloc ?_ _)); exact BK393.out⟩, ⟨by (with_reducible repeat (first | refine blk_drewN ?_ _ | refine blk_drew ?_ | refine blk_alloc ?_ _)); exact BK394.out⟩, ⟨by (with_reducible repeat (first | refine blk_drewN ?_ _ | refine blk_drew ?_ | refine blk_alloc ?_ _)); exact BK403.out⟩, ⟨by repeat (first | (with_reducible first | exact HB.out | apply below_alloc | apply pw_below_drewN | apply below_drew1 | refine below_set ?_ GE393.out | refine below_set ?_ GE394.out | refine below_set ?_ GE403.out) | exact HB.out)⟩⟩
                      · replace c37 := Bool.eq_false_iff.mpr c37
                        subst c37
                        have H1 : (some (x404000_4, t398, x404002_20, t402)) = some (r1, r2, r3, r4) := by rw [if_neg (show ¬ (false = true) by decide)] at H; exact H
                        clear H
                        have H := H1
                        clear H1
                        simp only [Option.some.injEq, Prod.mk.injEq] at H
                        obtain ⟨rfl, rfl, rfl, rfl⟩ := H
                        have hnb76 := NB403_393.out
                        have hnc76 := NB393_403.out
                        have hnb77 := NB403_394.out
                        have hnc77 := NB394_403.out
                        have hcz78_0 : wc.cell? ⟨gb403, 0, none⟩ = some (u404000) := (blk_cell BK403.out 0).trans rfl
                        have hcz78_1 : wc.cell? ⟨gb403, 1, none⟩ = some (.slice Ao17 t398.length co17) := (blk_cell BK403.out 1).trans rfl
                        have hcz78_2 : wc.cell? ⟨gb403, 2, none⟩ = some (.int .i64 x404002_20) := (blk_cell BK403.out 2).trans rfl
                        have hcz78_3 : wc.cell? ⟨gb403, 3, none⟩ = some (.int .i64 t402) := (blk_cell BK403.out 3).trans rfl
                        have hfz78_0 := blk_frozen BK403.out 0
                        have hfz78_1 := blk_frozen BK403.out 1
                        have hfz78_2 := blk_frozen BK403.out 2
                        have hfz78_3 := blk_frozen BK403.out 3
                        obtain ⟨Ao79, co79, eo79⟩ := Kd.S_slice HO_404000.out
                        subst eo79
                        have hnb80 := NB394_393.out
                        have hnc80 := NB393_394.out
                        have hcz81_0 : wc.cell? ⟨gb394, 0, none⟩ = some (.slice none 0 0) := (blk_cell BK394.out 0).trans rfl
                        have hcz81_1 : wc.cell? ⟨gb394, 1, none⟩ = some (.slice none 0 0) := (blk_cell BK394.out 1).trans rfl
                        have hcz81_2 : wc.cell? ⟨gb394, 2, none⟩ = some (.int .i64 0) := (blk_cell BK394.out 2).trans rfl
                        have hcz81_3 : wc.cell? ⟨gb394, 3, none⟩ = some (.int .i64 0) := (blk_cell BK394.out 3).trans rfl
                        have hfz81_0 := blk_frozen BK394.out 0
                        have hfz81_1 := blk_frozen BK394.out 1
                        have hfz81_2 := blk_frozen BK394.out 2
                        have hfz81_3 := blk_frozen BK394.out 3
                        go_wp2
                        refine bodyPost_ret (results_cell_row rfl _ _ gb394 31 #[.slice Ao79 x404000_4.length co79, .slice Ao17 t398.length co17, .int .i64 x404002_20, .int .i64 t402] (0, 0) _ rfl (by (with_reducible repeat (first | refine blk_drewN ?_ _ | refine blk_drew ?_ | refine blk_alloc ?_ _)); refine blk_put (cs := #[.slice Ao79 x404000_4.length co79, .slice Ao17 t398.length co17, .int .i64 x404002_20, .int .i64 0]) ?_ 3 _ rfl; (with_reducible repeat (first | refine blk_drewN ?_ _ | refine blk_drew ?_ | refine blk_alloc ?_ _)); refine blk_put (cs := #[.slice Ao79 x404000_4.length co79, .slice Ao17 t398.length co17, .int .i64 0, .int .i64 0]) ?_ 2 _ rfl; (with_reducible repeat (first | refine blk_drewN ?_ _ | refine blk_drew ?_ | refine blk_alloc ?_ _)); refine blk_put (cs := #[.slice Ao79 x404000_4.length co79, .slice none 0 0, .int .i64 0, .int .i64 0]) ?_ 1 _ rfl; (with_reducible repeat (first | refine blk_drewN ?_ _ | refine blk_drew ?_ | refine blk_alloc ?_ _)); refine blk_put (cs := #[.slice none 0 0, .slice none 0 0, .int .i64 0, .int .i64 0]) ?_ 0 _ rfl; (with_reducible repeat (first | refine blk_drewN ?_ _ | refine blk_drew ?_ | refine blk_alloc ?_ _)); exact BK394.out) Try.underlying31 rfl (by kernel_rfl)) rfl ?_
                        exact ⟨_, _, by first | rfl | (simp [errW_none, errW_some] <;> rfl) | (simp [*, errW_none, errW_some] <;> rfl), by (with_reducible repeat (first | apply Kd.S_alloc | apply Kd.S_drewN | apply Kd.S_drew)); exact Kd.S_mono (Kd.S_far (p := ⟨gb394, 3, none⟩) (Kd.S_far (p := ⟨gb394, 2, none⟩) (Kd.S_far (p := ⟨gb394, 1, none⟩) (Kd.S_far (p := ⟨gb394, 0, none⟩) (Kd.S_types HO_404000.out BK394.out (by decide)) (fun _ hk => hk.2) (.slice Ao79 x404000_4.length co79)) (fun _ hk => hk.2) (.slice Ao17 t398.length co17)) (fun _ hk => hk.2) (.int .i64 x404002_20)) (fun _ hk => hk.2) (.int .i64 t402)) (fun _ hk => trivial), by (with_reducible repeat (first | apply Kd.R_alloc | apply Kd.R_drewN | apply Kd.R_drew)); exact Kd.R_mono (Kd.R_far (p := ⟨gb394, 3, none⟩) (Kd.R_far (p := ⟨gb394, 2, none⟩) (Kd.R_far (p := ⟨gb394, 1, none⟩) (Kd.R_far (p := ⟨gb394, 0, none⟩) (Kd.R_types HO_404001.out BK394.out (by decide)) (fun _ hk => hk.2) (.slice Ao79 x404000_4.length co79)) (fun _ hk => hk.2) (.slice Ao17 t398.length co17)) (fun _ hk => hk.2) (.int .i64 x404002_20)) (fun _ hk => hk.2) (.int .i64 t402)) (fun _ hk => trivial), by repeat (first | (with_reducible first | exact HB.out | apply below_alloc | apply pw_below_drewN | apply below_drew1 | refine below_set ?_ GE393.out | refine below_set ?_ GE394.out | refine below_set ?_ GE403.out) | exact HB.out)⟩

end Go.Proofs.Ytamajfcjcfkkjaa.PSt
