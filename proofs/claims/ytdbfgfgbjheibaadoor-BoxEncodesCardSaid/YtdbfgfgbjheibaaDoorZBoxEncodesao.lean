/- Printed by a program of this session (wip/pg.py, over the print of the kit): functions, their Lean twins, and the proofs that the calls come to them; each under the conditions that it names. -/
import Derived.Test.YtdbfgfgbjheibaaDoorZBoxEncodesq
import Derived.Test.YtdbfgfgbjheibaaDoorZBoxEncodesab
import Derived.Test.YtdbfgfgbjheibaaDoorZBoxEncodesan
section
/- Printed by a program of this session (wip/pg.py, over the print of the kit): functions, their Lean twins, and the proofs that the calls come to them; each under the conditions that it names. -/
namespace Go.Proofs.YtdbfgfgbjheibaaDoor.PBx
open Go.RowKit Go.Proofs.YtdbfgfgbjheibaaDoorW.PrintWords Go.Proofs.YtdbfgfgbjheibaaDoorW.PrintLast Go.Proofs.YtdbfgfgbjheibaaDoorW.PrintMore
attribute [local go_sem] max2_int min2_int max_two min_two max_three min_three max_four min_four   -- for this text's walks alone
set_option linter.unusedVariables false
set_option linter.unusedSimpArgs false

/-! ### box_Same: function 14 -/
mutual
def box_Same.j0 : Nat → Bool → List (S68) → List (S41) → List (S43) → List (S48) → List (S68) → List (S41) → List (S43) → List (S48) → Option (Bool)
 | 0, _, _, _, _, _, _, _, _, _ => none
 | k + 1, x36, x519000, x519001, x519002, x519003, x520000, x520001, x520002, x520003 => if x36 = true then (some false) else (box_Same.l0 k (x519003.length : Int) 0 x519000 x519001 x519002 x519003 x520000 x520001 x520002 x520003)
def box_Same.l0 : Nat → Int → Int → List (S68) → List (S41) → List (S43) → List (S48) → List (S68) → List (S41) → List (S43) → List (S48) → Option (Bool)
 | 0, _, _, _, _, _, _, _, _, _, _ => none
 | k + 1, x39, x40, x519000, x519001, x519002, x519003, x520000, x520001, x520002, x520003 => if x40 < x39 then (if 0 ≤ x40 then (if x40 < (x519003.length : Int) then (if x40 < (x520003.length : Int) then ((unit_Same.f k ((rd_T48 x519003 x40).f0) ((rd_T48 x519003 x40).f1) ((rd_T48 x519003 x40).f2) ((rd_T48 x519003 x40).f3) ((rd_T48 x519003 x40).f4) ((rd_T48 x520003 x40).f0) ((rd_T48 x520003 x40).f1) ((rd_T48 x520003 x40).f2) ((rd_T48 x520003 x40).f3) ((rd_T48 x520003 x40).f4)).bind fun t525 => (if t525 = true then (box_Same.l0 k x39 (wrap64 (x40 + 1)) x519000 x519001 x519002 x519003 x520000 x520001 x520002 x520003) else (some false))) else (none)) else (none)) else (none)) else (some true)
end
def box_Same.f (k : Nat) (l0_0 : List (S68)) (l0_1 : List (S41)) (l0_2 : List (S43)) (l0_3 : List (S48)) (l1_0 : List (S68)) (l1_1 : List (S41)) (l1_2 : List (S43)) (l1_3 : List (S48)) : Option (Bool) := (api_Const_37.f k l0_0 l1_0).bind fun t520 => (if t520 = true then ((api_Var_38.f k l0_1 l1_1).bind fun t521 => (if t521 = true then ((api_Block_39.f k l0_2 l1_2).bind fun t522 => (if t522 = true then (box_Same.j0 k ((l0_3.length : Int) != (l1_3.length : Int)) l0_0 l0_1 l0_2 l0_3 l1_0 l1_1 l1_2 l1_3) else (box_Same.j0 k true l0_0 l0_1 l0_2 l0_3 l1_0 l1_1 l1_2 l1_3))) else (box_Same.j0 k true l0_0 l0_1 l0_2 l0_3 l1_0 l1_1 l1_2 l1_3))) else (box_Same.j0 k true l0_0 l0_1 l0_2 l0_3 l1_0 l1_1 l1_2 l1_3))
def box_Same.T6 : Bool × List (List Nat × List Nat) := (true, [([], []), ([0], [0]), ([], []), ([1, 2], [1, 2]), ([3], [3]), ([], []), ([5], [5]), ([], []), ([6, 7], [6, 7]), ([8], [8]), ([4, 9], [4, 9]), ([10], [10])])
def box_Same.B6 : List Nat := [0, 1, 0, 7, 15, 0, 32, 0, 224, 480, 1023, 2047]
theorem box_Same.tab6 : rtab .any (opsOf Tryd.f14 6) = box_Same.T6 := by kernel_rfl
theorem box_Same.bits6 : waitsOk box_Same.T6.2 box_Same.B6 = true := by kernel_rfl
set_option maxHeartbeats 8000000 in
set_option maxRecDepth 100000 in
theorem box_Same.calls (k : Nat) (A0_0 : Option Addr) (c0_0 : Nat) (l0_0 : List (S68)) (A0_1 : Option Addr) (c0_1 : Nat) (l0_1 : List (S41)) (A0_2 : Option Addr) (c0_2 : Nat) (l0_2 : List (S43)) (A0_3 : Option Addr) (c0_3 : Nat) (l0_3 : List (S48)) (A1_0 : Option Addr) (c1_0 : Nat) (l1_0 : List (S68)) (A1_1 : Option Addr) (c1_1 : Nat) (l1_1 : List (S41)) (A1_2 : Option Addr) (c1_2 : Nat) (l1_2 : List (S43)) (A1_3 : Option Addr) (c1_3 : Nat) (l1_3 : List (S48)) (r : Bool) (w : World) (hr0_0 : Kd.C k68 w A0_0 l0_0.length l0_0) (hc0_0 : l0_0.length ≤ c0_0) (hr0_1 : Kd.C k41 w A0_1 l0_1.length l0_1) (hc0_1 : l0_1.length ≤ c0_1) (hr0_2 : Kd.C k43 w A0_2 l0_2.length l0_2) (hc0_2 : l0_2.length ≤ c0_2) (hr0_3 : Kd.C k48 w A0_3 l0_3.length l0_3) (hc0_3 : l0_3.length ≤ c0_3) (hr1_0 : Kd.C k68 w A1_0 l1_0.length l1_0) (hc1_0 : l1_0.length ≤ c1_0) (hr1_1 : Kd.C k41 w A1_1 l1_1.length l1_1) (hc1_1 : l1_1.length ≤ c1_1) (hr1_2 : Kd.C k43 w A1_2 l1_2.length l1_2) (hc1_2 : l1_2.length ≤ c1_2) (hr1_3 : Kd.C k48 w A1_3 l1_3.length l1_3) (hc1_3 : l1_3.length ≤ c1_3) (h : box_Same.f k l0_0 l0_1 l0_2 l0_3 l1_0 l1_1 l1_2 l1_3 = some r) :
  Calls Tryd.prog 14 #[.agg #[.slice A0_0 l0_0.length c0_0, .slice A0_1 l0_1.length c0_1, .slice A0_2 l0_2.length c0_2, .slice A0_3 l0_3.length c0_3], .agg #[.slice A1_0 l1_0.length c1_0, .slice A1_1 l1_1.length c1_1, .slice A1_2 l1_2.length c1_2, .slice A1_3 l1_3.length c1_3]] w fun e w' => e = .returned (.bool r) ∧ Below w.heap.size w w' := by
 have hu27 := Tryd.underlying27
 have hu48 := Tryd.underlying48
 have HR0_0 := zA hr0_0
 have HC0_0 := zA hc0_0
 clear hr0_0 hc0_0
 have HR0_1 := zA hr0_1
 have HC0_1 := zA hc0_1
 clear hr0_1 hc0_1
 have HR0_2 := zA hr0_2
 have HC0_2 := zA hc0_2
 clear hr0_2 hc0_2
 have HR0_3 := zA hr0_3
 have HC0_3 := zA hc0_3
 clear hr0_3 hc0_3
 have HR1_0 := zA hr1_0
 have HC1_0 := zA hc1_0
 clear hr1_0 hc1_0
 have HR1_1 := zA hr1_1
 have HC1_1 := zA hc1_1
 clear hr1_1 hc1_1
 have HR1_2 := zA hr1_2
 have HC1_2 := zA hc1_2
 clear hr1_2 hc1_2
 have HR1_3 := zA hr1_3
 have HC1_3 := zA hc1_3
 clear hr1_3 hc1_3
 have HB := zA (zX w.heap.size w)
 have H : ((api_Const_37.f k l0_0 l1_0).bind fun t520 => (if t520 = true then ((api_Var_38.f k l0_1 l1_1).bind fun t521 => (if t521 = true then ((api_Block_39.f k l0_2 l1_2).bind fun t522 => (if t522 = true then (box_Same.j0 k ((l0_3.length : Int) != (l1_3.length : Int)) l0_0 l0_1 l0_2 l0_3 l1_0 l1_1 l1_2 l1_3) else (box_Same.j0 k true l0_0 l0_1 l0_2 l0_3 l1_0 l1_1 l1_2 l1_3))) else (box_Same.j0 k true l0_0 l0_1 l0_2 l0_3 l1_0 l1_1 l1_2 l1_3))) else (box_Same.j0 k true l0_0 l0_1 l0_2 l0_3 l1_0 l1_1 l1_2 l1_3))) = some r := h
 clear h
 have HC3 := zA H
 clear H
 go_enter Tryd.func14, Tryd.ntmps14
 go_upto_region 1 with (first | ((with_reducible refine gate_dst (N := 2) rfl ?_); (try (refine gate_guard (by rfl) ?_; dsimp only)); refine box_event ?hg (N := 2) ?hd (cs := #[.slice A0_0 l0_0.length c0_0, .slice A0_1 l0_1.length c0_1, .slice A0_2 l0_2.length c0_2, .slice A0_3 l0_3.length c0_3]) (t := 27) ?hr ?_; (case hd => rfl); (case hg => rfl); (case hr => first | (go_simp; done) | (go_simp; rfl)); intro gb518 hg w4 hbox hb; have BK518 := zA (hbox); have GW518 := zA ((by rw [hg]; exact (below_size (by repeat (first | (with_reducible first | exact HB.out | apply zB | apply zN | apply below_drew1) | exact HB.out))) : w.heap.size ≤ gb518)); have GE518 := GW518; replace HB := zA (below_step (by repeat (first | (with_reducible first | exact HB.out | apply zB | apply zN | apply below_drew1) | exact HB.out)) hb); clear hb hbox hg) | ((with_reducible refine gate_dst (N := 3) rfl ?_); (try (refine gate_guard (by rfl) ?_; dsimp only)); refine box_event ?hg (N := 3) ?hd (cs := #[.slice A1_0 l1_0.length c1_0, .slice A1_1 l1_1.length c1_1, .slice A1_2 l1_2.length c1_2, .slice A1_3 l1_3.length c1_3]) (t := 27) ?hr ?_; (case hd => rfl); (case hg => rfl); (case hr => first | (go_simp; done) | (go_simp; rfl)); intro gb519 hg w5 hbox hb; have BK519 := zA (hbox); have GW519 := zA ((by rw [hg]; exact (below_size (by repeat (first | (with_reducible first | exact HB.out | apply zB | apply zN | apply below_drew1 | refine zE ?_ GE518.out) | exact HB.out))) : w.heap.size ≤ gb519)); have GE519 := GW519; replace HB := zA (below_step (by repeat (first | (with_reducible first | exact HB.out | apply zB | apply zN | apply below_drew1 | refine zE ?_ GE518.out) | exact HB.out)) hb); have NB518_519 := zA ((by rw [hg]; exact Nat.ne_of_lt (blk_lt (g := gb518) (o := .cells #[.slice A0_0 l0_0.length c0_0, .slice A0_1 l0_1.length c0_1, .slice A0_2 l0_2.length c0_2, .slice A0_3 l0_3.length c0_3] 27 (0, 0)) (by (with_reducible repeat (first | refine zG ?_ _ | refine zH ?_)); exact BK518.out)) : gb518 ≠ gb519)); have NB519_518 := zA ((by rw [hg]; exact Nat.ne_of_gt (blk_lt (g := gb518) (o := .cells #[.slice A0_0 l0_0.length c0_0, .slice A0_1 l0_1.length c0_1, .slice A0_2 l0_2.length c0_2, .slice A0_3 l0_3.length c0_3] 27 (0, 0)) (by (with_reducible repeat (first | refine zG ?_ _ | refine zH ?_)); exact BK518.out)) : gb519 ≠ gb518)); replace BK518 := zA (zQ (g := gb518) (o := .cells #[.slice A0_0 l0_0.length c0_0, .slice A0_1 l0_1.length c0_1, .slice A0_2 l0_2.length c0_2, .slice A0_3 l0_3.length c0_3] 27 (0, 0)) (by (with_reducible repeat (first | refine zG ?_ _ | refine zH ?_)); exact BK518.out) hb); clear hb hbox hg))
 (try simp only [Act.put, zY, List.set_cons_zero, z2])
 go_cut [36] (fun v36 wc => ∃ (kq : Nat) (x36_2 : Bool), v36 = .bool x36_2 ∧ Aside0 (box_Same.j0 kq x36_2 l0_0 l0_1 l0_2 l0_3 l1_0 l1_1 l1_2 l1_3 = some r) ∧ Aside0 (kq ≤ k) ∧ Aside0 (wc.heap[gb518]? = some (.cells #[(.slice A0_0 l0_0.length c0_0), (.slice A0_1 l0_1.length c0_1), (.slice A0_2 l0_2.length c0_2), (.slice A0_3 l0_3.length c0_3)] 27 (0, 0))) ∧ Aside0 (wc.heap[gb519]? = some (.cells #[(.slice A1_0 l1_0.length c1_0), (.slice A1_1 l1_1.length c1_1), (.slice A1_2 l1_2.length c1_2), (.slice A1_3 l1_3.length c1_3)] 27 (0, 0))) ∧ Aside0 (Below w.heap.size w wc))
 case first =>
  have H := HC3.out
  clear HC3
  replace H := Option.bind_eq_some_iff.mp H
  obtain ⟨t520, A60, H⟩ := H
  replace H : (if t520 = true then ((api_Var_38.f k l0_1 l1_1).bind fun t521 => (if t521 = true then ((api_Block_39.f k l0_2 l1_2).bind fun t522 => (if t522 = true then (box_Same.j0 k ((l0_3.length : Int) != (l1_3.length : Int)) l0_0 l0_1 l0_2 l0_3 l1_0 l1_1 l1_2 l1_3) else (box_Same.j0 k true l0_0 l0_1 l0_2 l0_3 l1_0 l1_1 l1_2 l1_3))) else (box_Same.j0 k true l0_0 l0_1 l0_2 l0_3 l1_0 l1_1 l1_2 l1_3))) else (box_Same.j0 k true l0_0 l0_1 l0_2 l0_3 l1_0 l1_1 l1_2 l1_3)) = some r := H
  have A6 := zA A60
  clear A60
  by_cases c7 : t520 = true
  ·subst c7
   have H1 : ((api_Var_38.f k l0_1 l1_1).bind fun t521 => (if t521 = true then ((api_Block_39.f k l0_2 l1_2).bind fun t522 => (if t522 = true then (box_Same.j0 k ((l0_3.length : Int) != (l1_3.length : Int)) l0_0 l0_1 l0_2 l0_3 l1_0 l1_1 l1_2 l1_3) else (box_Same.j0 k true l0_0 l0_1 l0_2 l0_3 l1_0 l1_1 l1_2 l1_3))) else (box_Same.j0 k true l0_0 l0_1 l0_2 l0_3 l1_0 l1_1 l1_2 l1_3))) = some r := by rw [if_pos rfl] at H; exact H
   clear H
   have H := H1
   clear H1
   replace H := Option.bind_eq_some_iff.mp H
   obtain ⟨t521, A80, H⟩ := H
   replace H : (if t521 = true then ((api_Block_39.f k l0_2 l1_2).bind fun t522 => (if t522 = true then (box_Same.j0 k ((l0_3.length : Int) != (l1_3.length : Int)) l0_0 l0_1 l0_2 l0_3 l1_0 l1_1 l1_2 l1_3) else (box_Same.j0 k true l0_0 l0_1 l0_2 l0_3 l1_0 l1_1 l1_2 l1_3))) else (box_Same.j0 k true l0_0 l0_1 l0_2 l0_3 l1_0 l1_1 l1_2 l1_3)) = some r := H
   have A8 := zA A80
   clear A80
   by_cases c9 : t521 = true
   ·subst c9
    have H1 : ((api_Block_39.f k l0_2 l1_2).bind fun t522 => (if t522 = true then (box_Same.j0 k ((l0_3.length : Int) != (l1_3.length : Int)) l0_0 l0_1 l0_2 l0_3 l1_0 l1_1 l1_2 l1_3) else (box_Same.j0 k true l0_0 l0_1 l0_2 l0_3 l1_0 l1_1 l1_2 l1_3))) = some r := by rw [if_pos rfl] at H; exact H
    clear H
    have H := H1
    clear H1
    replace H := Option.bind_eq_some_iff.mp H
    obtain ⟨t522, A100, H⟩ := H
    replace H : (if t522 = true then (box_Same.j0 k ((l0_3.length : Int) != (l1_3.length : Int)) l0_0 l0_1 l0_2 l0_3 l1_0 l1_1 l1_2 l1_3) else (box_Same.j0 k true l0_0 l0_1 l0_2 l0_3 l1_0 l1_1 l1_2 l1_3)) = some r := H
    have A10 := zA A100
    clear A100
    by_cases c11 : t522 = true
    ·subst c11
     have H1 : (box_Same.j0 k ((l0_3.length : Int) != (l1_3.length : Int)) l0_0 l0_1 l0_2 l0_3 l1_0 l1_1 l1_2 l1_3) = some r := by rw [if_pos rfl] at H; exact H
     clear H
     have H := H1
     clear H1
     have H' := zA H
     clear H
     have hnb12 := NB518_519.out
     have hnc12 := NB519_518.out
     have hcz13_0 : w5.cell? ⟨gb518, 0, none⟩ = some (.slice A0_0 l0_0.length c0_0) := (zC BK518.out 0).trans rfl
     have hcz13_1 : w5.cell? ⟨gb518, 1, none⟩ = some (.slice A0_1 l0_1.length c0_1) := (zC BK518.out 1).trans rfl
     have hcz13_2 : w5.cell? ⟨gb518, 2, none⟩ = some (.slice A0_2 l0_2.length c0_2) := (zC BK518.out 2).trans rfl
     have hcz13_3 : w5.cell? ⟨gb518, 3, none⟩ = some (.slice A0_3 l0_3.length c0_3) := (zC BK518.out 3).trans rfl
     have hfz13_0 := zF BK518.out 0
     have hfz13_1 := zF BK518.out 1
     have hfz13_2 := zF BK518.out 2
     have hfz13_3 := zF BK518.out 3
     have hcz14_0 : w5.cell? ⟨gb519, 0, none⟩ = some (.slice A1_0 l1_0.length c1_0) := (zC BK519.out 0).trans rfl
     have hcz14_1 : w5.cell? ⟨gb519, 1, none⟩ = some (.slice A1_1 l1_1.length c1_1) := (zC BK519.out 1).trans rfl
     have hcz14_2 : w5.cell? ⟨gb519, 2, none⟩ = some (.slice A1_2 l1_2.length c1_2) := (zC BK519.out 2).trans rfl
     have hcz14_3 : w5.cell? ⟨gb519, 3, none⟩ = some (.slice A1_3 l1_3.length c1_3) := (zC BK519.out 3).trans rfl
     have hfz14_0 := zF BK519.out 0
     have hfz14_1 := zF BK519.out 1
     have hfz14_2 := zF BK519.out 2
     have hfz14_3 := zF BK519.out 3
     go_wp2_with (first | ((with_reducible refine gate_callee (f := 37) rfl ?_); refine goesL_ (some 10) rfl rfl Tryd.func37 (by kernel_rfl) rfl #[.slice A0_0 l0_0.length c0_0, .slice A1_0 l1_0.length c1_0] rfl (by (try simp only [zm, zc, zn]); first | done | rfl | (simp only [zd, zt]; rfl)) ?_; (with_reducible refine (api_Const_37.calls k _ _ l0_0 _ _ l1_0 true _ ?side1 ?side2 ?side3 ?side4 A6.out).mono ?_); (case side1 => repeat (first | exact (zD HR0_0.out HB.out))); (case side2 => exact HC0_0.out); (case side3 => repeat (first | exact (zD HR1_0.out HB.out))); (case side4 => exact HC1_0.out); rintro e w' ⟨rfl, ⟨nd, rfl⟩⟩; refine ⟨_, rfl, ?_⟩) | (go_at_call 38; (with_reducible refine (api_Var_38.calls k _ _ l0_1 _ _ l1_1 true _ ?side1 ?side2 ?side3 ?side4 A8.out).mono ?_); (case side1 => repeat (first | exact (zD HR0_1.out (by repeat (first | (with_reducible first | exact HB.out | apply zB | apply zN | apply below_drew1 | refine zE ?_ GE518.out | refine zE ?_ GE519.out) | exact HB.out))))); (case side2 => exact HC0_1.out); (case side3 => repeat (first | exact (zD HR1_1.out (by repeat (first | (with_reducible first | exact HB.out | apply zB | apply zN | apply below_drew1 | refine zE ?_ GE518.out | refine zE ?_ GE519.out) | exact HB.out))))); (case side4 => exact HC1_1.out); rintro e w' ⟨rfl, ⟨nd, rfl⟩⟩) | (go_at_call 39; (with_reducible refine (api_Block_39.calls k _ _ l0_2 _ _ l1_2 true _ ?side1 ?side2 ?side3 ?side4 A10.out).mono ?_); (case side1 => repeat (first | exact (zD HR0_2.out (by repeat (first | (with_reducible first | exact HB.out | apply zB | apply zN | apply below_drew1 | refine zE ?_ GE518.out | refine zE ?_ GE519.out) | exact HB.out))))); (case side2 => exact HC0_2.out); (case side3 => repeat (first | exact (zD HR1_2.out (by repeat (first | (with_reducible first | exact HB.out | apply zB | apply zN | apply below_drew1 | refine zE ?_ GE518.out | refine zE ?_ GE519.out) | exact HB.out))))); (case side4 => exact HC1_2.out); rintro e w' ⟨rfl, ⟨nd, rfl⟩⟩))
     go_meet
     case rel => exact ⟨_, (((l0_3.length : Int) != (l1_3.length : Int))), (by first | rfl | (simp; done) | (simp [*]; done)), H', ⟨by first | omega | exact z5 _⟩, ⟨by (with_reducible repeat (first | refine zG ?_ _ | refine zH ?_)); exact BK518.out⟩, ⟨by (with_reducible repeat (first | refine zG ?_ _ | refine zH ?_)); exact BK519.out⟩, ⟨by repeat (first | (with_reducible first | exact HB.out | apply zB | apply zN | apply below_drew1 | refine zE ?_ GE518.out | refine zE ?_ GE519.out) | exact HB.out)⟩⟩
    ·replace c11 := Bool.eq_false_iff.mpr c11
     subst c11
     have H1 : (box_Same.j0 k true l0_0 l0_1 l0_2 l0_3 l1_0 l1_1 l1_2 l1_3) = some r := by rw [if_neg (show ¬ (false = true) by decide)] at H; exact H
     clear H
     have H := H1
     clear H1
     have H' := zA H
     clear H
     have hnb15 := NB518_519.out
     have hnc15 := NB519_518.out
     have hcz16_0 : w5.cell? ⟨gb518, 0, none⟩ = some (.slice A0_0 l0_0.length c0_0) := (zC BK518.out 0).trans rfl
     have hcz16_1 : w5.cell? ⟨gb518, 1, none⟩ = some (.slice A0_1 l0_1.length c0_1) := (zC BK518.out 1).trans rfl
     have hcz16_2 : w5.cell? ⟨gb518, 2, none⟩ = some (.slice A0_2 l0_2.length c0_2) := (zC BK518.out 2).trans rfl
     have hcz16_3 : w5.cell? ⟨gb518, 3, none⟩ = some (.slice A0_3 l0_3.length c0_3) := (zC BK518.out 3).trans rfl
     have hfz16_0 := zF BK518.out 0
     have hfz16_1 := zF BK518.out 1
     have hfz16_2 := zF BK518.out 2
     have hfz16_3 := zF BK518.out 3
     have hcz17_0 : w5.cell? ⟨gb519, 0, none⟩ = some (.slice A1_0 l1_0.length c1_0) := (zC BK519.out 0).trans rfl
     have hcz17_1 : w5.cell? ⟨gb519, 1, none⟩ = some (.slice A1_1 l1_1.length c1_1) := (zC BK519.out 1).trans rfl
     have hcz17_2 : w5.cell? ⟨gb519, 2, none⟩ = some (.slice A1_2 l1_2.length c1_2) := (zC BK519.out 2).trans rfl
     have hcz17_3 : w5.cell? ⟨gb519, 3, none⟩ = some (.slice A1_3 l1_3.length c1_3) := (zC BK519.out 3).trans rfl
     have hfz17_0 := zF BK519.out 0
     have hfz17_1 := zF BK519.out 1
     have hfz17_2 := zF BK519.out 2
     have hfz17_3 := zF BK519.out 3
     go_wp2_with (first | ((with_reducible refine gate_callee (f := 37) rfl ?_); refine goesL_ (some 10) rfl rfl Tryd.func37 (by kernel_rfl) rfl #[.slice A0_0 l0_0.length c0_0, .slice A1_0 l1_0.length c1_0] rfl (by (try simp only [zm, zc, zn]); first | done | rfl | (simp only [zd, zt]; rfl)) ?_; (with_reducible refine (api_Const_37.calls k _ _ l0_0 _ _ l1_0 true _ ?side1 ?side2 ?side3 ?side4 A6.out).mono ?_); (case side1 => repeat (first | exact (zD HR0_0.out HB.out))); (case side2 => exact HC0_0.out); (case side3 => repeat (first | exact (zD HR1_0.out HB.out))); (case side4 => exact HC1_0.out); rintro e w' ⟨rfl, ⟨nd, rfl⟩⟩; refine ⟨_, rfl, ?_⟩) | (go_at_call 38; (with_reducible refine (api_Var_38.calls k _ _ l0_1 _ _ l1_1 true _ ?side1 ?side2 ?side3 ?side4 A8.out).mono ?_); (case side1 => repeat (first | exact (zD HR0_1.out (by repeat (first | (with_reducible first | exact HB.out | apply zB | apply zN | apply below_drew1 | refine zE ?_ GE518.out | refine zE ?_ GE519.out) | exact HB.out))))); (case side2 => exact HC0_1.out); (case side3 => repeat (first | exact (zD HR1_1.out (by repeat (first | (with_reducible first | exact HB.out | apply zB | apply zN | apply below_drew1 | refine zE ?_ GE518.out | refine zE ?_ GE519.out) | exact HB.out))))); (case side4 => exact HC1_1.out); rintro e w' ⟨rfl, ⟨nd, rfl⟩⟩) | (go_at_call 39; (with_reducible refine (api_Block_39.calls k _ _ l0_2 _ _ l1_2 false _ ?side1 ?side2 ?side3 ?side4 A10.out).mono ?_); (case side1 => repeat (first | exact (zD HR0_2.out (by repeat (first | (with_reducible first | exact HB.out | apply zB | apply zN | apply below_drew1 | refine zE ?_ GE518.out | refine zE ?_ GE519.out) | exact HB.out))))); (case side2 => exact HC0_2.out); (case side3 => repeat (first | exact (zD HR1_2.out (by repeat (first | (with_reducible first | exact HB.out | apply zB | apply zN | apply below_drew1 | refine zE ?_ GE518.out | refine zE ?_ GE519.out) | exact HB.out))))); (case side4 => exact HC1_2.out); rintro e w' ⟨rfl, ⟨nd, rfl⟩⟩))
     go_meet
     case rel => exact ⟨_, (true), (by first | rfl | (simp; done) | (simp [*]; done)), H', ⟨by first | omega | exact z5 _⟩, ⟨by (with_reducible repeat (first | refine zG ?_ _ | refine zH ?_)); exact BK518.out⟩, ⟨by (with_reducible repeat (first | refine zG ?_ _ | refine zH ?_)); exact BK519.out⟩, ⟨by repeat (first | (with_reducible first | exact HB.out | apply zB | apply zN | apply below_drew1 | refine zE ?_ GE518.out | refine zE ?_ GE519.out) | exact HB.out)⟩⟩
   ·replace c9 := Bool.eq_false_iff.mpr c9
    subst c9
    have H1 : (box_Same.j0 k true l0_0 l0_1 l0_2 l0_3 l1_0 l1_1 l1_2 l1_3) = some r := by rw [if_neg (show ¬ (false = true) by decide)] at H; exact H
    clear H
    have H := H1
    clear H1
    have H' := zA H
    clear H
    have hnb18 := NB518_519.out
    have hnc18 := NB519_518.out
    have hcz19_0 : w5.cell? ⟨gb518, 0, none⟩ = some (.slice A0_0 l0_0.length c0_0) := (zC BK518.out 0).trans rfl
    have hcz19_1 : w5.cell? ⟨gb518, 1, none⟩ = some (.slice A0_1 l0_1.length c0_1) := (zC BK518.out 1).trans rfl
    have hcz19_2 : w5.cell? ⟨gb518, 2, none⟩ = some (.slice A0_2 l0_2.length c0_2) := (zC BK518.out 2).trans rfl
    have hcz19_3 : w5.cell? ⟨gb518, 3, none⟩ = some (.slice A0_3 l0_3.length c0_3) := (zC BK518.out 3).trans rfl
    have hfz19_0 := zF BK518.out 0
    have hfz19_1 := zF BK518.out 1
    have hfz19_2 := zF BK518.out 2
    have hfz19_3 := zF BK518.out 3
    have hcz20_0 : w5.cell? ⟨gb519, 0, none⟩ = some (.slice A1_0 l1_0.length c1_0) := (zC BK519.out 0).trans rfl
    have hcz20_1 : w5.cell? ⟨gb519, 1, none⟩ = some (.slice A1_1 l1_1.length c1_1) := (zC BK519.out 1).trans rfl
    have hcz20_2 : w5.cell? ⟨gb519, 2, none⟩ = some (.slice A1_2 l1_2.length c1_2) := (zC BK519.out 2).trans rfl
    have hcz20_3 : w5.cell? ⟨gb519, 3, none⟩ = some (.slice A1_3 l1_3.length c1_3) := (zC BK519.out 3).trans rfl
    have hfz20_0 := zF BK519.out 0
    have hfz20_1 := zF BK519.out 1
    have hfz20_2 := zF BK519.out 2
    have hfz20_3 := zF BK519.out 3
    go_wp2_with (first | ((with_reducible refine gate_callee (f := 37) rfl ?_); refine goesL_ (some 10) rfl rfl Tryd.func37 (by kernel_rfl) rfl #[.slice A0_0 l0_0.length c0_0, .slice A1_0 l1_0.length c1_0] rfl (by (try simp only [zm, zc, zn]); first | done | rfl | (simp only [zd, zt]; rfl)) ?_; (with_reducible refine (api_Const_37.calls k _ _ l0_0 _ _ l1_0 true _ ?side1 ?side2 ?side3 ?side4 A6.out).mono ?_); (case side1 => repeat (first | exact (zD HR0_0.out HB.out))); (case side2 => exact HC0_0.out); (case side3 => repeat (first | exact (zD HR1_0.out HB.out))); (case side4 => exact HC1_0.out); rintro e w' ⟨rfl, ⟨nd, rfl⟩⟩; refine ⟨_, rfl, ?_⟩) | (go_at_call 38; (with_reducible refine (api_Var_38.calls k _ _ l0_1 _ _ l1_1 false _ ?side1 ?side2 ?side3 ?side4 A8.out).mono ?_); (case side1 => repeat (first | exact (zD HR0_1.out (by repeat (first | (with_reducible first | exact HB.out | apply zB | apply zN | apply below_drew1 | refine zE ?_ GE518.out | refine zE ?_ GE519.out) | exact HB.out))))); (case side2 => exact HC0_1.out); (case side3 => repeat (first | exact (zD HR1_1.out (by repeat (first | (with_reducible first | exact HB.out | apply zB | apply zN | apply below_drew1 | refine zE ?_ GE518.out | refine zE ?_ GE519.out) | exact HB.out))))); (case side4 => exact HC1_1.out); rintro e w' ⟨rfl, ⟨nd, rfl⟩⟩))
    go_meet
    case rel => exact ⟨_, (true), (by first | rfl | (simp; done) | (simp [*]; done)), H', ⟨by first | omega | exact z5 _⟩, ⟨by (with_reducible repeat (first | refine zG ?_ _ | refine zH ?_)); exact BK518.out⟩, ⟨by (with_reducible repeat (first | refine zG ?_ _ | refine zH ?_)); exact BK519.out⟩, ⟨by repeat (first | (with_reducible first | exact HB.out | apply zB | apply zN | apply below_drew1 | refine zE ?_ GE518.out | refine zE ?_ GE519.out) | exact HB.out)⟩⟩
  ·replace c7 := Bool.eq_false_iff.mpr c7
   subst c7
   have H1 : (box_Same.j0 k true l0_0 l0_1 l0_2 l0_3 l1_0 l1_1 l1_2 l1_3) = some r := by rw [if_neg (show ¬ (false = true) by decide)] at H; exact H
   clear H
   have H := H1
   clear H1
   have H' := zA H
   clear H
   have hnb21 := NB518_519.out
   have hnc21 := NB519_518.out
   have hcz22_0 : w5.cell? ⟨gb518, 0, none⟩ = some (.slice A0_0 l0_0.length c0_0) := (zC BK518.out 0).trans rfl
   have hcz22_1 : w5.cell? ⟨gb518, 1, none⟩ = some (.slice A0_1 l0_1.length c0_1) := (zC BK518.out 1).trans rfl
   have hcz22_2 : w5.cell? ⟨gb518, 2, none⟩ = some (.slice A0_2 l0_2.length c0_2) := (zC BK518.out 2).trans rfl
   have hcz22_3 : w5.cell? ⟨gb518, 3, none⟩ = some (.slice A0_3 l0_3.length c0_3) := (zC BK518.out 3).trans rfl
   have hfz22_0 := zF BK518.out 0
   have hfz22_1 := zF BK518.out 1
   have hfz22_2 := zF BK518.out 2
   have hfz22_3 := zF BK518.out 3
   have hcz23_0 : w5.cell? ⟨gb519, 0, none⟩ = some (.slice A1_0 l1_0.length c1_0) := (zC BK519.out 0).trans rfl
   have hcz23_1 : w5.cell? ⟨gb519, 1, none⟩ = some (.slice A1_1 l1_1.length c1_1) := (zC BK519.out 1).trans rfl
   have hcz23_2 : w5.cell? ⟨gb519, 2, none⟩ = some (.slice A1_2 l1_2.length c1_2) := (zC BK519.out 2).trans rfl
   have hcz23_3 : w5.cell? ⟨gb519, 3, none⟩ = some (.slice A1_3 l1_3.length c1_3) := (zC BK519.out 3).trans rfl
   have hfz23_0 := zF BK519.out 0
   have hfz23_1 := zF BK519.out 1
   have hfz23_2 := zF BK519.out 2
   have hfz23_3 := zF BK519.out 3
   go_wp2_with (first | ((with_reducible refine gate_callee (f := 37) rfl ?_); refine goesL_ (some 10) rfl rfl Tryd.func37 (by kernel_rfl) rfl #[.slice A0_0 l0_0.length c0_0, .slice A1_0 l1_0.length c1_0] rfl (by (try simp only [zm, zc, zn]); first | done | rfl | (simp only [zd, zt]; rfl)) ?_; (with_reducible refine (api_Const_37.calls k _ _ l0_0 _ _ l1_0 false _ ?side1 ?side2 ?side3 ?side4 A6.out).mono ?_); (case side1 => repeat (first | exact (zD HR0_0.out HB.out))); (case side2 => exact HC0_0.out); (case side3 => repeat (first | exact (zD HR1_0.out HB.out))); (case side4 => exact HC1_0.out); rintro e w' ⟨rfl, ⟨nd, rfl⟩⟩; refine ⟨_, rfl, ?_⟩))
   go_meet
   case rel => exact ⟨_, (true), (by first | rfl | (simp; done) | (simp [*]; done)), H', ⟨by first | omega | exact z5 _⟩, ⟨by (with_reducible repeat (first | refine zG ?_ _ | refine zH ?_)); exact BK518.out⟩, ⟨by (with_reducible repeat (first | refine zG ?_ _ | refine zH ?_)); exact BK519.out⟩, ⟨by repeat (first | (with_reducible first | exact HB.out | apply zB | apply zN | apply below_drew1 | refine zE ?_ GE518.out | refine zE ?_ GE519.out) | exact HB.out)⟩⟩
 case rest =>
  clear HC3
  try clear c1
  try clear c2
  try clear p2
  try clear c3
  try clear c7
  try clear c9
  try clear c11
  try clear c12
  try clear c14
  try clear c15
  try clear c18
  try clear c21
  try clear hcz13_0
  try clear hcz13_1
  try clear hcz13_2
  try clear hcz13_3
  try clear hcz14_0
  try clear hcz14_1
  try clear hcz14_2
  try clear hcz14_3
  try clear hcz16_0
  try clear hcz16_1
  try clear hcz16_2
  try clear hcz16_3
  try clear hcz17_0
  try clear hcz17_1
  try clear hcz17_2
  try clear hcz17_3
  try clear hcz19_0
  try clear hcz19_1
  try clear hcz19_2
  try clear hcz19_3
  try clear hcz20_0
  try clear hcz20_1
  try clear hcz20_2
  try clear hcz20_3
  try clear hcz22_0
  try clear hcz22_1
  try clear hcz22_2
  try clear hcz22_3
  try clear hcz23_0
  try clear hcz23_1
  try clear hcz23_2
  try clear hcz23_3
  try clear hfz13_0
  try clear hfz13_1
  try clear hfz13_2
  try clear hfz13_3
  try clear hfz14_0
  try clear hfz14_1
  try clear hfz14_2
  try clear hfz14_3
  try clear hfz16_0
  try clear hfz16_1
  try clear hfz16_2
  try clear hfz16_3
  try clear hfz17_0
  try clear hfz17_1
  try clear hfz17_2
  try clear hfz17_3
  try clear hfz19_0
  try clear hfz19_1
  try clear hfz19_2
  try clear hfz19_3
  try clear hfz20_0
  try clear hfz20_1
  try clear hfz20_2
  try clear hfz20_3
  try clear hfz22_0
  try clear hfz22_1
  try clear hfz22_2
  try clear hfz22_3
  try clear hfz23_0
  try clear hfz23_1
  try clear hfz23_2
  try clear hfz23_3
  obtain ⟨kq, x36_2, rfl, HA, HJ2, BK518, BK519, HB⟩ := hcut
  cases kq with
  | zero => exact absurd HA.out (by simp [box_Same.j0])
  | succ kj2 =>
   have H := HA.out
   clear HA
   simp only [box_Same.j0] at H
   by_cases c24 : x36_2 = true
   ·subst c24
    have H1 : (some false) = some r := by rw [if_pos rfl] at H; exact H
    clear H
    have H := H1
    clear H1
    obtain rfl := zJ H
    go_wp2
    go_ret
    exact ⟨by first | rfl | (simp [errW_none, errW_some] <;> rfl) | (simp [*, errW_none, errW_some] <;> rfl), by repeat (first | (with_reducible first | exact HB.out | apply zB | apply zN | apply below_drew1 | refine zE ?_ GE518.out | refine zE ?_ GE519.out) | exact HB.out)⟩
   ·replace c24 := Bool.eq_false_iff.mpr c24
    subst c24
    have H1 : (box_Same.l0 kj2 (l0_3.length : Int) 0 l0_0 l0_1 l0_2 l0_3 l1_0 l1_1 l1_2 l1_3) = some r := by rw [if_neg (show ¬ (false = true) by decide)] at H; exact H
    clear H
    have H := H1
    clear H1
    have H' := zA H
    clear H
    have hnb25 := NB518_519.out
    have hnc25 := NB519_518.out
    have hcz26_0 : wc.cell? ⟨gb518, 0, none⟩ = some (.slice A0_0 l0_0.length c0_0) := (zC BK518.out 0).trans rfl
    have hcz26_1 : wc.cell? ⟨gb518, 1, none⟩ = some (.slice A0_1 l0_1.length c0_1) := (zC BK518.out 1).trans rfl
    have hcz26_2 : wc.cell? ⟨gb518, 2, none⟩ = some (.slice A0_2 l0_2.length c0_2) := (zC BK518.out 2).trans rfl
    have hcz26_3 : wc.cell? ⟨gb518, 3, none⟩ = some (.slice A0_3 l0_3.length c0_3) := (zC BK518.out 3).trans rfl
    have hfz26_0 := zF BK518.out 0
    have hfz26_1 := zF BK518.out 1
    have hfz26_2 := zF BK518.out 2
    have hfz26_3 := zF BK518.out 3
    go_wp2
    go_loopg [40] kj2 (fun kq v40 w' => ∃ (x40_2 : Int), v40 = .int .i64 x40_2 ∧ Aside0 (box_Same.l0 kq (l0_3.length : Int) x40_2 l0_0 l0_1 l0_2 l0_3 l1_0 l1_1 l1_2 l1_3 = some r) ∧ Aside0 (kq ≤ kj2) ∧ Aside0 (w'.heap[gb518]? = some (.cells #[(.slice A0_0 l0_0.length c0_0), (.slice A0_1 l0_1.length c0_1), (.slice A0_2 l0_2.length c0_2), (.slice A0_3 l0_3.length c0_3)] 27 (0, 0))) ∧ Aside0 (w'.heap[gb519]? = some (.cells #[(.slice A1_0 l1_0.length c1_0), (.slice A1_1 l1_1.length c1_1), (.slice A1_2 l1_2.length c1_2), (.slice A1_3 l1_3.length c1_3)] 27 (0, 0))) ∧ Aside0 (Below w.heap.size w w'))
    case atStart => exact ⟨(0), (by first | rfl | (simp; done) | (simp [*]; done)), H', ⟨z5 _⟩, ⟨by (with_reducible repeat (first | refine zG ?_ _ | refine zH ?_)); exact BK518.out⟩, ⟨by (with_reducible repeat (first | refine zG ?_ _ | refine zH ?_)); exact BK519.out⟩, ⟨by repeat (first | (with_reducible first | exact HB.out | apply zB | apply zN | apply below_drew1 | refine zE ?_ GE518.out | refine zE ?_ GE519.out) | exact HB.out)⟩⟩
    case round =>
     clear H'
     try clear c1
     try clear c2
     try clear p2
     try clear c3
     try clear c7
     try clear c9
     try clear c11
     try clear c12
     try clear c14
     try clear c15
     try clear c18
     try clear c21
     try clear c24
     try clear c25
     try clear hcz13_0
     try clear hcz13_1
     try clear hcz13_2
     try clear hcz13_3
     try clear hcz14_0
     try clear hcz14_1
     try clear hcz14_2
     try clear hcz14_3
     try clear hcz16_0
     try clear hcz16_1
     try clear hcz16_2
     try clear hcz16_3
     try clear hcz17_0
     try clear hcz17_1
     try clear hcz17_2
     try clear hcz17_3
     try clear hcz19_0
     try clear hcz19_1
     try clear hcz19_2
     try clear hcz19_3
     try clear hcz20_0
     try clear hcz20_1
     try clear hcz20_2
     try clear hcz20_3
     try clear hcz22_0
     try clear hcz22_1
     try clear hcz22_2
     try clear hcz22_3
     try clear hcz23_0
     try clear hcz23_1
     try clear hcz23_2
     try clear hcz23_3
     try clear hcz26_0
     try clear hcz26_1
     try clear hcz26_2
     try clear hcz26_3
     try clear hfz13_0
     try clear hfz13_1
     try clear hfz13_2
     try clear hfz13_3
     try clear hfz14_0
     try clear hfz14_1
     try clear hfz14_2
     try clear hfz14_3
     try clear hfz16_0
     try clear hfz16_1
     try clear hfz16_2
     try clear hfz16_3
     try clear hfz17_0
     try clear hfz17_1
     try clear hfz17_2
     try clear hfz17_3
     try clear hfz19_0
     try clear hfz19_1
     try clear hfz19_2
     try clear hfz19_3
     try clear hfz20_0
     try clear hfz20_1
     try clear hfz20_2
     try clear hfz20_3
     try clear hfz22_0
     try clear hfz22_1
     try clear hfz22_2
     try clear hfz22_3
     try clear hfz23_0
     try clear hfz23_1
     try clear hfz23_2
     try clear hfz23_3
     try clear hfz26_0
     try clear hfz26_1
     try clear hfz26_2
     try clear hfz26_3
     try clear p2
     obtain ⟨x40_2, rfl, HA, HK2, BK518, BK519, HB⟩ := hrel
     cases gk with
     | zero => exact absurd HA.out (by simp [box_Same.l0])
     | succ k2 =>
      have H := HA.out
      clear HA
      simp only [box_Same.l0] at H
      by_cases c27 : x40_2 < (l0_3.length : Int)
      ·rw [if_pos c27] at H
       have c27b0 : decide (x40_2 < (l0_3.length : Int)) = true := decide_eq_true c27
       clear c27
       by_cases c28 : 0 ≤ x40_2
       ·rw [if_pos c28] at H
        have c28b0 : decide (0 ≤ x40_2) = true := decide_eq_true c28
        clear c28
        by_cases c29 : x40_2 < (l0_3.length : Int)
        ·rw [if_pos c29] at H
         have c29b0 : decide (x40_2 < (l0_3.length : Int)) = true := decide_eq_true c29
         clear c29
         by_cases c30 : x40_2 < (l1_3.length : Int)
         ·rw [if_pos c30] at H
          have c30b0 : decide (x40_2 < (l1_3.length : Int)) = true := decide_eq_true c30
          clear c30
          replace H := Option.bind_eq_some_iff.mp H
          obtain ⟨t525, A310, H⟩ := H
          replace H : (if t525 = true then (box_Same.l0 k2 (l0_3.length : Int) (wrap64 (x40_2 + 1)) l0_0 l0_1 l0_2 l0_3 l1_0 l1_1 l1_2 l1_3) else (some false)) = some r := H
          have A31 := zA A310
          clear A310
          by_cases c32 : t525 = true
          ·subst c32
           have H1 : (box_Same.l0 k2 (l0_3.length : Int) (wrap64 (x40_2 + 1)) l0_0 l0_1 l0_2 l0_3 l1_0 l1_1 l1_2 l1_3) = some r := by rw [if_pos rfl] at H; exact H
           clear H
           have H := H1
           clear H1
           have H' := zA H
           clear H
           try go_wp2
           replace BK518 := zA (zH BK518.out)
           replace BK519 := zA (zH BK519.out)
           replace HB := zA (below_drew1 HB.out)
           have p523 : 0 ≤ (x40_2 : Int) := zO (by first | (with_reducible assumption) | assumption)
           have q523 : x40_2 < (l0_3.length : Int) := zO (by first | (with_reducible assumption) | assumption)
           obtain ⟨ad523, A523_1, c523_1, A523_3, c523_3, A523_4, c523_4, e523, hx523_0, hx523_1, hx523_2, hx523_3, hx523_4, hl523_1, hi523_1, hl523_3, hi523_3, hl523_4, hi523_4⟩ := at_T48 HR0_3.out x40_2 p523 q523
           have hw523_4 := hx523_4
           have hw523_3 := hx523_3
           have hw523_2 := hx523_2
           have hw523_1 := hx523_1
           have hw523_0 := hx523_0
           cases e523
           replace hx523_0 := (HB.out.cell (zL w _ hx523_0)).trans hx523_0
           replace hx523_1 := (HB.out.cell (zL w _ hx523_1)).trans hx523_1
           replace hx523_2 := (HB.out.cell (zL w _ hx523_2)).trans hx523_2
           replace hx523_3 := (HB.out.cell (zL w _ hx523_3)).trans hx523_3
           replace hx523_4 := (HB.out.cell (zL w _ hx523_4)).trans hx523_4
           have HR523_1 := zA hi523_1
           have HC523_1 := zA hl523_1
           clear hi523_1 hl523_1
           have HR523_3 := zA hi523_3
           have HC523_3 := zA hl523_3
           clear hi523_3 hl523_3
           have HR523_4 := zA hi523_4
           have HC523_4 := zA hl523_4
           clear hi523_4 hl523_4
           replace p523 := eq_true p523
           replace q523 := eq_true q523
           have p524 : 0 ≤ (x40_2 : Int) := zO (by first | (with_reducible assumption) | assumption)
           have q524 : x40_2 < (l1_3.length : Int) := zO (by first | (with_reducible assumption) | assumption)
           obtain ⟨ad524, A524_1, c524_1, A524_3, c524_3, A524_4, c524_4, e524, hx524_0, hx524_1, hx524_2, hx524_3, hx524_4, hl524_1, hi524_1, hl524_3, hi524_3, hl524_4, hi524_4⟩ := at_T48 HR1_3.out x40_2 p524 q524
           have hw524_4 := hx524_4
           have hw524_3 := hx524_3
           have hw524_2 := hx524_2
           have hw524_1 := hx524_1
           have hw524_0 := hx524_0
           cases e524
           replace hx524_0 := (HB.out.cell (zL w _ hx524_0)).trans hx524_0
           replace hx524_1 := (HB.out.cell (zL w _ hx524_1)).trans hx524_1
           replace hx524_2 := (HB.out.cell (zL w _ hx524_2)).trans hx524_2
           replace hx524_3 := (HB.out.cell (zL w _ hx524_3)).trans hx524_3
           replace hx524_4 := (HB.out.cell (zL w _ hx524_4)).trans hx524_4
           have HR524_1 := zA hi524_1
           have HC524_1 := zA hl524_1
           clear hi524_1 hl524_1
           have HR524_3 := zA hi524_3
           have HC524_3 := zA hl524_3
           clear hi524_3 hl524_3
           have HR524_4 := zA hi524_4
           have HC524_4 := zA hl524_4
           clear hi524_4 hl524_4
           replace p524 := eq_true p524
           replace q524 := eq_true q524
           refine start_ (n := 12) (S := fun w' => w'.cell? ⟨gb518, 0, none⟩ = some (.slice A0_0 l0_0.length c0_0) ∧ w'.cell? ⟨gb518, 1, none⟩ = some (.slice A0_1 l0_1.length c0_1) ∧ w'.cell? ⟨gb518, 2, none⟩ = some (.slice A0_2 l0_2.length c0_2) ∧ w'.cell? ⟨gb518, 3, none⟩ = some (.slice (some ad523) l0_3.length c0_3) ∧ w'.cell? ⟨gb519, 0, none⟩ = some (.slice A1_0 l1_0.length c1_0) ∧ w'.cell? ⟨gb519, 1, none⟩ = some (.slice A1_1 l1_1.length c1_1) ∧ w'.cell? ⟨gb519, 2, none⟩ = some (.slice A1_2 l1_2.length c1_2) ∧ w'.cell? ⟨gb519, 3, none⟩ = some (.slice (some ad524) l1_3.length c1_3) ∧ w'.cell? (ad523.add ((x40_2).toNat * 5)) = some (.string ((rd_T48 l0_3 x40_2).f0)) ∧ w'.cell? ⟨(ad523.add ((x40_2).toNat * 5)).block, (ad523.add ((x40_2).toNat * 5)).off + 1, none⟩ = some (.slice A523_1 ((rd_T48 l0_3 x40_2).f1).length c523_1) ∧ w'.cell? ⟨(ad523.add ((x40_2).toNat * 5)).block, (ad523.add ((x40_2).toNat * 5)).off + 2, none⟩ = some (.int .i64 ((rd_T48 l0_3 x40_2).f2)) ∧ w'.cell? ⟨(ad523.add ((x40_2).toNat * 5)).block, (ad523.add ((x40_2).toNat * 5)).off + 3, none⟩ = some (.slice A523_3 ((rd_T48 l0_3 x40_2).f3).length c523_3) ∧ w'.cell? ⟨(ad523.add ((x40_2).toNat * 5)).block, (ad523.add ((x40_2).toNat * 5)).off + 4, none⟩ = some (.slice A523_4 ((rd_T48 l0_3 x40_2).f4).length c523_4) ∧ w'.cell? (ad524.add ((x40_2).toNat * 5)) = some (.string ((rd_T48 l1_3 x40_2).f0)) ∧ w'.cell? ⟨(ad524.add ((x40_2).toNat * 5)).block, (ad524.add ((x40_2).toNat * 5)).off + 1, none⟩ = some (.slice A524_1 ((rd_T48 l1_3 x40_2).f1).length c524_1) ∧ w'.cell? ⟨(ad524.add ((x40_2).toNat * 5)).block, (ad524.add ((x40_2).toNat * 5)).off + 2, none⟩ = some (.int .i64 ((rd_T48 l1_3 x40_2).f2)) ∧ w'.cell? ⟨(ad524.add ((x40_2).toNat * 5)).block, (ad524.add ((x40_2).toNat * 5)).off + 3, none⟩ = some (.slice A524_3 ((rd_T48 l1_3 x40_2).f3).length c524_3) ∧ w'.cell? ⟨(ad524.add ((x40_2).toNat * 5)).block, (ad524.add ((x40_2).toNat * 5)).off + 4, none⟩ = some (.slice A524_4 ((rd_T48 l1_3 x40_2).f4).length c524_4)) (ds := []) #[false, false, false, false, false, false, false, false, false, false, false, false] (by kernel_rfl) rfl rfl ⟨(zC BK518.out 0).trans rfl, (zC BK518.out 1).trans rfl, (zC BK518.out 2).trans rfl, (zC BK518.out 3).trans rfl, (zC BK519.out 0).trans rfl, (zC BK519.out 1).trans rfl, (zC BK519.out 2).trans rfl, (zC BK519.out 3).trans rfl, ((HB.out.cell (zL w _ hw523_0)).trans hw523_0), ((HB.out.cell (zL w _ hw523_1)).trans hw523_1), ((HB.out.cell (zL w _ hw523_2)).trans hw523_2), ((HB.out.cell (zL w _ hw523_3)).trans hw523_3), ((HB.out.cell (zL w _ hw523_4)).trans hw523_4), ((HB.out.cell (zL w _ hw524_0)).trans hw524_0), ((HB.out.cell (zL w _ hw524_1)).trans hw524_1), ((HB.out.cell (zL w _ hw524_2)).trans hw524_2), ((HB.out.cell (zL w _ hw524_3)).trans hw524_3), ((HB.out.cell (zL w _ hw524_4)).trans hw524_4)⟩ (fun hHeld => ?_); refine with_tabW box_Same.tab6 box_Same.bits6 (fun HT_ HW_ => ?_)
           generalize wr.drew = w33 at BK518 BK519 HB HR523_1 HR523_3 HR523_4 HR524_1 HR524_3 HR524_4 hx523_0 hx523_1 hx523_2 hx523_3 hx523_4 hx524_0 hx524_1 hx524_2 hx524_3 hx524_4 hHeld ⊢
           refine pure_ (i := 0) (N := some 43) (v := ?_) (a' := ?_) #[true, false, false, false, false, false, false, false, false, false, false, false] rfl rfl (any_of HT_.out (by kernel_rfl)) (fun _ _ _ h => h) (Or.inl ⟨by rfl, ?_⟩) ?_ ?_
           rotate_left
           ·intro w'
            go_simp
            with_reducible rfl
           rotate_left
           ·simp only [Act.put, zY, List.set_cons_zero, z2, i64_w, i32_w]
            rfl
           refine pure_ (i := 2) (N := some 45) (v := ?_) (a' := ?_) #[true, false, true, false, false, false, false, false, false, false, false, false] rfl rfl (any_of HT_.out (by kernel_rfl)) (fun _ _ _ h => h) (Or.inl ⟨by rfl, ?_⟩) ?_ ?_
           rotate_left
           ·intro w'
            go_simp
            with_reducible rfl
           rotate_left
           ·simp only [Act.put, zY, List.set_cons_zero, z2, i64_w, i32_w]
            rfl
           refine pure_ (i := 5) (N := some 48) (v := ?_) (a' := ?_) #[true, false, true, false, false, true, false, false, false, false, false, false] rfl rfl (any_of HT_.out (by kernel_rfl)) (fun _ _ _ h => h) (Or.inl ⟨by rfl, ?_⟩) ?_ ?_
           rotate_left
           ·intro w'
            go_simp
            with_reducible rfl
           rotate_left
           ·simp only [Act.put, zY, List.set_cons_zero, z2, i64_w, i32_w]
            rfl
           refine pure_ (i := 7) (N := some 50) (v := ?_) (a' := ?_) #[true, false, true, false, false, true, false, true, false, false, false, false] rfl rfl (any_of HT_.out (by kernel_rfl)) (fun _ _ _ h => h) (Or.inl ⟨by rfl, ?_⟩) ?_ ?_
           rotate_left
           ·intro w'
            go_simp
            with_reducible rfl
           rotate_left
           ·simp only [Act.put, zY, List.set_cons_zero, z2, i64_w, i32_w]
            rfl
           refine take_ (i := 1) (N := some 44) (v := ?_) (a' := ?_) #[true, true, true, false, false, true, false, true, false, false, false, false] rfl rfl (take_ofW HT_.out HW_.out (by kernel_rfl)) (fun _ _ _ h => h) (Or.inl ⟨by rfl, ?_⟩) hHeld ?_ ?_
           rotate_left
           ·rintro w' ⟨s0, s1, s2, s3, s4, s5, s6, s7, s8, s9, s10, s11, s12, s13, s14, s15, s16, s17⟩
            go_simp
            with_reducible rfl
           rotate_left
           ·simp only [Act.put, zY, List.set_cons_zero, z2, i64_w, i32_w]
            rfl
           refine pure_ (i := 3) (N := some 46) (v := ?_) (a' := ?_) #[true, true, true, true, false, true, false, true, false, false, false, false] rfl rfl (any_of HT_.out (by kernel_rfl)) (fun _ _ _ h => h) (Or.inl ⟨by rfl, ?_⟩) ?_ ?_
           rotate_left
           ·intro w'
            go_simp
            with_reducible rfl
           rotate_left
           ·simp only [Act.put, zY, List.set_cons_zero, z2, i64_w, i32_w]
            rfl
           refine take_ (i := 4) (N := some 47) (v := ?_) (a' := ?_) #[true, true, true, true, true, true, false, true, false, false, false, false] rfl rfl (take_ofW HT_.out HW_.out (by kernel_rfl)) (fun _ _ _ h => h) (Or.inl ⟨by rfl, ?_⟩) hHeld ?_ ?_
           rotate_left
           ·rintro w' ⟨s0, s1, s2, s3, s4, s5, s6, s7, s8, s9, s10, s11, s12, s13, s14, s15, s16, s17⟩
            go_simp
            with_reducible rfl
           rotate_left
           ·simp only [Act.put, zY, List.set_cons_zero, z2, i64_w, i32_w]
            rfl
           refine take_ (i := 6) (N := some 49) (v := ?_) (a' := ?_) #[true, true, true, true, true, true, true, true, false, false, false, false] rfl rfl (take_ofW HT_.out HW_.out (by kernel_rfl)) (fun _ _ _ h => h) (Or.inl ⟨by rfl, ?_⟩) hHeld ?_ ?_
           rotate_left
           ·rintro w' ⟨s0, s1, s2, s3, s4, s5, s6, s7, s8, s9, s10, s11, s12, s13, s14, s15, s16, s17⟩
            go_simp
            with_reducible rfl
           rotate_left
           ·simp only [Act.put, zY, List.set_cons_zero, z2, i64_w, i32_w]
            rfl
           refine pure_ (i := 8) (N := some 51) (v := ?_) (a' := ?_) #[true, true, true, true, true, true, true, true, true, false, false, false] rfl rfl (any_of HT_.out (by kernel_rfl)) (fun _ _ _ h => h) (Or.inl ⟨by rfl, ?_⟩) ?_ ?_
           rotate_left
           ·intro w'
            go_simp
            with_reducible rfl
           rotate_left
           ·simp only [Act.put, zY, List.set_cons_zero, z2, i64_w, i32_w]
            rfl
           refine take_ (i := 9) (N := some 52) (v := ?_) (a' := ?_) #[true, true, true, true, true, true, true, true, true, true, false, false] rfl rfl (take_ofW HT_.out HW_.out (by kernel_rfl)) (fun _ _ _ h => h) (Or.inl ⟨by rfl, ?_⟩) hHeld ?_ ?_
           rotate_left
           ·rintro w' ⟨s0, s1, s2, s3, s4, s5, s6, s7, s8, s9, s10, s11, s12, s13, s14, s15, s16, s17⟩
            go_simp
            with_reducible rfl
           rotate_left
           ·simp only [Act.put, zY, List.set_cons_zero, z2, i64_w, i32_w]
            rfl
           refine one_ (i := 10) (N := some 53) #[true, true, true, true, true, true, true, true, true, true, true, false] rfl rfl (one_of HT_.out (by kernel_rfl)) (by decide) (fun K hK => ?_)
           refine goes_ Tryd.func40 (by kernel_rfl) rfl #[.agg #[.string ((rd_T48 l0_3 x40_2).f0), .slice A523_1 ((rd_T48 l0_3 x40_2).f1).length c523_1, .int .i64 ((rd_T48 l0_3 x40_2).f2), .slice A523_3 ((rd_T48 l0_3 x40_2).f3).length c523_3, .slice A523_4 ((rd_T48 l0_3 x40_2).f4).length c523_4], .agg #[.string ((rd_T48 l1_3 x40_2).f0), .slice A524_1 ((rd_T48 l1_3 x40_2).f1).length c524_1, .int .i64 ((rd_T48 l1_3 x40_2).f2), .slice A524_3 ((rd_T48 l1_3 x40_2).f3).length c524_3, .slice A524_4 ((rd_T48 l1_3 x40_2).f4).length c524_4]] (by rfl) rfl rfl (by (try simp only [zm, zc, zn]); first | done | rfl | (simp only [zd, zt]; rfl)) ?_
           with_reducible refine (unit_Same.calls k2 ((rd_T48 l0_3 x40_2).f0) _ _ ((rd_T48 l0_3 x40_2).f1) ((rd_T48 l0_3 x40_2).f2) _ _ ((rd_T48 l0_3 x40_2).f3) _ _ ((rd_T48 l0_3 x40_2).f4) ((rd_T48 l1_3 x40_2).f0) _ _ ((rd_T48 l1_3 x40_2).f1) ((rd_T48 l1_3 x40_2).f2) _ _ ((rd_T48 l1_3 x40_2).f3) _ _ ((rd_T48 l1_3 x40_2).f4) true _ ?side1 ?side2 ?side3 ?side4 ?side5 ?side6 ?side7 ?side8 ?side9 ?side10 ?side11 ?side12 A31.out).mono ?_
           (case side1 => repeat (first | exact (zD HR523_1.out HB.out)))
           (case side2 => exact HC523_1.out)
           (case side3 => repeat (first | exact (zD HR523_3.out HB.out)))
           (case side4 => exact HC523_3.out)
           (case side5 => repeat (first | exact (zD HR523_4.out HB.out)))
           (case side6 => exact HC523_4.out)
           (case side7 => repeat (first | exact (zD HR524_1.out HB.out)))
           (case side8 => exact HC524_1.out)
           (case side9 => repeat (first | exact (zD HR524_3.out HB.out)))
           (case side10 => exact HC524_3.out)
           (case side11 => repeat (first | exact (zD HR524_4.out HB.out)))
           (case side12 => exact HC524_4.out)
           rintro e w34 ⟨rfl, hb⟩
           refine ⟨_, rfl, ?_⟩
           replace BK518 := zA (zQ (g := gb518) (o := .cells #[.slice A0_0 l0_0.length c0_0, .slice A0_1 l0_1.length c0_1, .slice A0_2 l0_2.length c0_2, .slice (some ad523) l0_3.length c0_3] 27 (0, 0)) (by (with_reducible repeat (first | refine zG ?_ _ | refine zH ?_)); exact BK518.out) hb)
           replace BK519 := zA (zQ (g := gb519) (o := .cells #[.slice A1_0 l1_0.length c1_0, .slice A1_1 l1_1.length c1_1, .slice A1_2 l1_2.length c1_2, .slice (some ad524) l1_3.length c1_3] 27 (0, 0)) (by (with_reducible repeat (first | refine zG ?_ _ | refine zH ?_)); exact BK519.out) hb)
           replace HB := zA (below_step (by repeat (first | (with_reducible first | exact HB.out | apply zB | apply zN | apply below_drew1 | refine zE ?_ GE518.out | refine zE ?_ GE519.out) | exact HB.out)) hb)
           (try clear hb)
           (try clear hb2)
           (try clear hk)
           (try clear hi)
           refine hK.out _ _ ⟨(zC BK518.out 0).trans rfl, (zC BK518.out 1).trans rfl, (zC BK518.out 2).trans rfl, (zC BK518.out 3).trans rfl, (zC BK519.out 0).trans rfl, (zC BK519.out 1).trans rfl, (zC BK519.out 2).trans rfl, (zC BK519.out 3).trans rfl, ((HB.out.cell (zL w _ hw523_0)).trans hw523_0), ((HB.out.cell (zL w _ hw523_1)).trans hw523_1), ((HB.out.cell (zL w _ hw523_2)).trans hw523_2), ((HB.out.cell (zL w _ hw523_3)).trans hw523_3), ((HB.out.cell (zL w _ hw523_4)).trans hw523_4), ((HB.out.cell (zL w _ hw524_0)).trans hw524_0), ((HB.out.cell (zL w _ hw524_1)).trans hw524_1), ((HB.out.cell (zL w _ hw524_2)).trans hw524_2), ((HB.out.cell (zL w _ hw524_3)).trans hw524_3), ((HB.out.cell (zL w _ hw524_4)).trans hw524_4)⟩ (fun hHeld => ?_)
           clear hK K
           refine norm_ (a' := ?_) ?_ ?_
           rotate_left
           ·show Act.put _ (some 53) _ = _
            simp only [Act.put, zY, List.set_cons_zero, z2, i64_w, i32_w]
            rfl
           refine pure_ (i := 11) (N := some 54) (v := ?_) (a' := ?_) #[true, true, true, true, true, true, true, true, true, true, true, true] rfl rfl (any_of HT_.out (by kernel_rfl)) (fun _ _ _ h => h) (Or.inl ⟨by rfl, ?_⟩) ?_ ?_
           rotate_left
           ·intro w'
            go_simp
            with_reducible rfl
           rotate_left
           ·simp only [Act.put, zY, List.set_cons_zero, z2, i64_w, i32_w]
            rfl
           refine done_ (done_of HT_.out (by kernel_rfl)) ?_
           try go_wp2
           go_roundg k2
           case measure => have := HJ2.out; have := HK2.out; omega
           case rel => exact ⟨(wrap64 (x40_2 + 1)), (by first | rfl | (simp; done) | (simp [*]; done)), H', ⟨by have := HJ2.out; have := HK2.out; omega⟩, ⟨by (with_reducible repeat (first | refine zG ?_ _ | refine zH ?_)); exact BK518.out⟩, ⟨by (with_reducible repeat (first | refine zG ?_ _ | refine zH ?_)); exact BK519.out⟩, ⟨by repeat (first | (with_reducible first | exact HB.out | apply zB | apply zN | apply below_drew1 | refine zE ?_ GE518.out | refine zE ?_ GE519.out) | exact HB.out)⟩⟩
          ·replace c32 := Bool.eq_false_iff.mpr c32
           subst c32
           have H1 : (some false) = some r := by rw [if_neg (show ¬ (false = true) by decide)] at H; exact H
           clear H
           have H := H1
           clear H1
           obtain rfl := zJ H
           try go_wp2
           replace BK518 := zA (zH BK518.out)
           replace BK519 := zA (zH BK519.out)
           replace HB := zA (below_drew1 HB.out)
           have p523 : 0 ≤ (x40_2 : Int) := zO (by first | (with_reducible assumption) | assumption)
           have q523 : x40_2 < (l0_3.length : Int) := zO (by first | (with_reducible assumption) | assumption)
           obtain ⟨ad523, A523_1, c523_1, A523_3, c523_3, A523_4, c523_4, e523, hx523_0, hx523_1, hx523_2, hx523_3, hx523_4, hl523_1, hi523_1, hl523_3, hi523_3, hl523_4, hi523_4⟩ := at_T48 HR0_3.out x40_2 p523 q523
           have hw523_4 := hx523_4
           have hw523_3 := hx523_3
           have hw523_2 := hx523_2
           have hw523_1 := hx523_1
           have hw523_0 := hx523_0
           cases e523
           replace hx523_0 := (HB.out.cell (zL w _ hx523_0)).trans hx523_0
           replace hx523_1 := (HB.out.cell (zL w _ hx523_1)).trans hx523_1
           replace hx523_2 := (HB.out.cell (zL w _ hx523_2)).trans hx523_2
           replace hx523_3 := (HB.out.cell (zL w _ hx523_3)).trans hx523_3
           replace hx523_4 := (HB.out.cell (zL w _ hx523_4)).trans hx523_4
           have HR523_1 := zA hi523_1
           have HC523_1 := zA hl523_1
           clear hi523_1 hl523_1
           have HR523_3 := zA hi523_3
           have HC523_3 := zA hl523_3
           clear hi523_3 hl523_3
           have HR523_4 := zA hi523_4
           have HC523_4 := zA hl523_4
           clear hi523_4 hl523_4
           replace p523 := eq_true p523
           replace q523 := eq_true q523
           have p524 : 0 ≤ (x40_2 : Int) := zO (by first | (with_reducible assumption) | assumption)
           have q524 : x40_2 < (l1_3.length : Int) := zO (by first | (with_reducible assumption) | assumption)
           obtain ⟨ad524, A524_1, c524_1, A524_3, c524_3, A524_4, c524_4, e524, hx524_0, hx524_1, hx524_2, hx524_3, hx524_4, hl524_1, hi524_1, hl524_3, hi524_3, hl524_4, hi524_4⟩ := at_T48 HR1_3.out x40_2 p524 q524
           have hw524_4 := hx524_4
           have hw524_3 := hx524_3
           have hw524_2 := hx524_2
           have hw524_1 := hx524_1
           have hw524_0 := hx524_0
           cases e524
           replace hx524_0 := (HB.out.cell (zL w _ hx524_0)).trans hx524_0
           replace hx524_1 := (HB.out.cell (zL w _ hx524_1)).trans hx524_1
           replace hx524_2 := (HB.out.cell (zL w _ hx524_2)).trans hx524_2
           replace hx524_3 := (HB.out.cell (zL w _ hx524_3)).trans hx524_3
           replace hx524_4 := (HB.out.cell (zL w _ hx524_4)).trans hx524_4
           have HR524_1 := zA hi524_1
           have HC524_1 := zA hl524_1
           clear hi524_1 hl524_1
           have HR524_3 := zA hi524_3
           have HC524_3 := zA hl524_3
           clear hi524_3 hl524_3
           have HR524_4 := zA hi524_4
           have HC524_4 := zA hl524_4
           clear hi524_4 hl524_4
           replace p524 := eq_true p524
           replace q524 := eq_true q524
           refine start_ (n := 12) (S := fun w' => w'.cell? ⟨gb518, 0, none⟩ = some (.slice A0_0 l0_0.length c0_0) ∧ w'.cell? ⟨gb518, 1, none⟩ = some (.slice A0_1 l0_1.length c0_1) ∧ w'.cell? ⟨gb518, 2, none⟩ = some (.slice A0_2 l0_2.length c0_2) ∧ w'.cell? ⟨gb518, 3, none⟩ = some (.slice (some ad523) l0_3.length c0_3) ∧ w'.cell? ⟨gb519, 0, none⟩ = some (.slice A1_0 l1_0.length c1_0) ∧ w'.cell? ⟨gb519, 1, none⟩ = some (.slice A1_1 l1_1.length c1_1) ∧ w'.cell? ⟨gb519, 2, none⟩ = some (.slice A1_2 l1_2.length c1_2) ∧ w'.cell? ⟨gb519, 3, none⟩ = some (.slice (some ad524) l1_3.length c1_3) ∧ w'.cell? (ad523.add ((x40_2).toNat * 5)) = some (.string ((rd_T48 l0_3 x40_2).f0)) ∧ w'.cell? ⟨(ad523.add ((x40_2).toNat * 5)).block, (ad523.add ((x40_2).toNat * 5)).off + 1, none⟩ = some (.slice A523_1 ((rd_T48 l0_3 x40_2).f1).length c523_1) ∧ w'.cell? ⟨(ad523.add ((x40_2).toNat * 5)).block, (ad523.add ((x40_2).toNat * 5)).off + 2, none⟩ = some (.int .i64 ((rd_T48 l0_3 x40_2).f2)) ∧ w'.cell? ⟨(ad523.add ((x40_2).toNat * 5)).block, (ad523.add ((x40_2).toNat * 5)).off + 3, none⟩ = some (.slice A523_3 ((rd_T48 l0_3 x40_2).f3).length c523_3) ∧ w'.cell? ⟨(ad523.add ((x40_2).toNat * 5)).block, (ad523.add ((x40_2).toNat * 5)).off + 4, none⟩ = some (.slice A523_4 ((rd_T48 l0_3 x40_2).f4).length c523_4) ∧ w'.cell? (ad524.add ((x40_2).toNat * 5)) = some (.string ((rd_T48 l1_3 x40_2).f0)) ∧ w'.cell? ⟨(ad524.add ((x40_2).toNat * 5)).block, (ad524.add ((x40_2).toNat * 5)).off + 1, none⟩ = some (.slice A524_1 ((rd_T48 l1_3 x40_2).f1).length c524_1) ∧ w'.cell? ⟨(ad524.add ((x40_2).toNat * 5)).block, (ad524.add ((x40_2).toNat * 5)).off + 2, none⟩ = some (.int .i64 ((rd_T48 l1_3 x40_2).f2)) ∧ w'.cell? ⟨(ad524.add ((x40_2).toNat * 5)).block, (ad524.add ((x40_2).toNat * 5)).off + 3, none⟩ = some (.slice A524_3 ((rd_T48 l1_3 x40_2).f3).length c524_3) ∧ w'.cell? ⟨(ad524.add ((x40_2).toNat * 5)).block, (ad524.add ((x40_2).toNat * 5)).off + 4, none⟩ = some (.slice A524_4 ((rd_T48 l1_3 x40_2).f4).length c524_4)) (ds := []) #[false, false, false, false, false, false, false, false, false, false, false, false] (by kernel_rfl) rfl rfl ⟨(zC BK518.out 0).trans rfl, (zC BK518.out 1).trans rfl, (zC BK518.out 2).trans rfl, (zC BK518.out 3).trans rfl, (zC BK519.out 0).trans rfl, (zC BK519.out 1).trans rfl, (zC BK519.out 2).trans rfl, (zC BK519.out 3).trans rfl, ((HB.out.cell (zL w _ hw523_0)).trans hw523_0), ((HB.out.cell (zL w _ hw523_1)).trans hw523_1), ((HB.out.cell (zL w _ hw523_2)).trans hw523_2), ((HB.out.cell (zL w _ hw523_3)).trans hw523_3), ((HB.out.cell (zL w _ hw523_4)).trans hw523_4), ((HB.out.cell (zL w _ hw524_0)).trans hw524_0), ((HB.out.cell (zL w _ hw524_1)).trans hw524_1), ((HB.out.cell (zL w _ hw524_2)).trans hw524_2), ((HB.out.cell (zL w _ hw524_3)).trans hw524_3), ((HB.out.cell (zL w _ hw524_4)).trans hw524_4)⟩ (fun hHeld => ?_); refine with_tabW box_Same.tab6 box_Same.bits6 (fun HT_ HW_ => ?_)
           generalize wr.drew = w35 at BK518 BK519 HB HR523_1 HR523_3 HR523_4 HR524_1 HR524_3 HR524_4 hx523_0 hx523_1 hx523_2 hx523_3 hx523_4 hx524_0 hx524_1 hx524_2 hx524_3 hx524_4 hHeld ⊢
           refine pure_ (i := 0) (N := some 43) (v := ?_) (a' := ?_) #[true, false, false, false, false, false, false, false, false, false, false, false] rfl rfl (any_of HT_.out (by kernel_rfl)) (fun _ _ _ h => h) (Or.inl ⟨by rfl, ?_⟩) ?_ ?_
           rotate_left
           ·intro w'
            go_simp
            with_reducible rfl
           rotate_left
           ·simp only [Act.put, zY, List.set_cons_zero, z2, i64_w, i32_w]
            rfl
           refine pure_ (i := 2) (N := some 45) (v := ?_) (a' := ?_) #[true, false, true, false, false, false, false, false, false, false, false, false] rfl rfl (any_of HT_.out (by kernel_rfl)) (fun _ _ _ h => h) (Or.inl ⟨by rfl, ?_⟩) ?_ ?_
           rotate_left
           ·intro w'
            go_simp
            with_reducible rfl
           rotate_left
           ·simp only [Act.put, zY, List.set_cons_zero, z2, i64_w, i32_w]
            rfl
           refine pure_ (i := 5) (N := some 48) (v := ?_) (a' := ?_) #[true, false, true, false, false, true, false, false, false, false, false, false] rfl rfl (any_of HT_.out (by kernel_rfl)) (fun _ _ _ h => h) (Or.inl ⟨by rfl, ?_⟩) ?_ ?_
           rotate_left
           ·intro w'
            go_simp
            with_reducible rfl
           rotate_left
           ·simp only [Act.put, zY, List.set_cons_zero, z2, i64_w, i32_w]
            rfl
           refine pure_ (i := 7) (N := some 50) (v := ?_) (a' := ?_) #[true, false, true, false, false, true, false, true, false, false, false, false] rfl rfl (any_of HT_.out (by kernel_rfl)) (fun _ _ _ h => h) (Or.inl ⟨by rfl, ?_⟩) ?_ ?_
           rotate_left
           ·intro w'
            go_simp
            with_reducible rfl
           rotate_left
           ·simp only [Act.put, zY, List.set_cons_zero, z2, i64_w, i32_w]
            rfl
           refine take_ (i := 1) (N := some 44) (v := ?_) (a' := ?_) #[true, true, true, false, false, true, false, true, false, false, false, false] rfl rfl (take_ofW HT_.out HW_.out (by kernel_rfl)) (fun _ _ _ h => h) (Or.inl ⟨by rfl, ?_⟩) hHeld ?_ ?_
           rotate_left
           ·rintro w' ⟨s0, s1, s2, s3, s4, s5, s6, s7, s8, s9, s10, s11, s12, s13, s14, s15, s16, s17⟩
            go_simp
            with_reducible rfl
           rotate_left
           ·simp only [Act.put, zY, List.set_cons_zero, z2, i64_w, i32_w]
            rfl
           refine pure_ (i := 3) (N := some 46) (v := ?_) (a' := ?_) #[true, true, true, true, false, true, false, true, false, false, false, false] rfl rfl (any_of HT_.out (by kernel_rfl)) (fun _ _ _ h => h) (Or.inl ⟨by rfl, ?_⟩) ?_ ?_
           rotate_left
           ·intro w'
            go_simp
            with_reducible rfl
           rotate_left
           ·simp only [Act.put, zY, List.set_cons_zero, z2, i64_w, i32_w]
            rfl
           refine take_ (i := 4) (N := some 47) (v := ?_) (a' := ?_) #[true, true, true, true, true, true, false, true, false, false, false, false] rfl rfl (take_ofW HT_.out HW_.out (by kernel_rfl)) (fun _ _ _ h => h) (Or.inl ⟨by rfl, ?_⟩) hHeld ?_ ?_
           rotate_left
           ·rintro w' ⟨s0, s1, s2, s3, s4, s5, s6, s7, s8, s9, s10, s11, s12, s13, s14, s15, s16, s17⟩
            go_simp
            with_reducible rfl
           rotate_left
           ·simp only [Act.put, zY, List.set_cons_zero, z2, i64_w, i32_w]
            rfl
           refine take_ (i := 6) (N := some 49) (v := ?_) (a' := ?_) #[true, true, true, true, true, true, true, true, false, false, false, false] rfl rfl (take_ofW HT_.out HW_.out (by kernel_rfl)) (fun _ _ _ h => h) (Or.inl ⟨by rfl, ?_⟩) hHeld ?_ ?_
           rotate_left
           ·rintro w' ⟨s0, s1, s2, s3, s4, s5, s6, s7, s8, s9, s10, s11, s12, s13, s14, s15, s16, s17⟩
            go_simp
            with_reducible rfl
           rotate_left
           ·simp only [Act.put, zY, List.set_cons_zero, z2, i64_w, i32_w]
            rfl
           refine pure_ (i := 8) (N := some 51) (v := ?_) (a' := ?_) #[true, true, true, true, true, true, true, true, true, false, false, false] rfl rfl (any_of HT_.out (by kernel_rfl)) (fun _ _ _ h => h) (Or.inl ⟨by rfl, ?_⟩) ?_ ?_
           rotate_left
           ·intro w'
            go_simp
            with_reducible rfl
           rotate_left
           ·simp only [Act.put, zY, List.set_cons_zero, z2, i64_w, i32_w]
            rfl
           refine take_ (i := 9) (N := some 52) (v := ?_) (a' := ?_) #[true, true, true, true, true, true, true, true, true, true, false, false] rfl rfl (take_ofW HT_.out HW_.out (by kernel_rfl)) (fun _ _ _ h => h) (Or.inl ⟨by rfl, ?_⟩) hHeld ?_ ?_
           rotate_left
           ·rintro w' ⟨s0, s1, s2, s3, s4, s5, s6, s7, s8, s9, s10, s11, s12, s13, s14, s15, s16, s17⟩
            go_simp
            with_reducible rfl
           rotate_left
           ·simp only [Act.put, zY, List.set_cons_zero, z2, i64_w, i32_w]
            rfl
           refine one_ (i := 10) (N := some 53) #[true, true, true, true, true, true, true, true, true, true, true, false] rfl rfl (one_of HT_.out (by kernel_rfl)) (by decide) (fun K hK => ?_)
           refine goes_ Tryd.func40 (by kernel_rfl) rfl #[.agg #[.string ((rd_T48 l0_3 x40_2).f0), .slice A523_1 ((rd_T48 l0_3 x40_2).f1).length c523_1, .int .i64 ((rd_T48 l0_3 x40_2).f2), .slice A523_3 ((rd_T48 l0_3 x40_2).f3).length c523_3, .slice A523_4 ((rd_T48 l0_3 x40_2).f4).length c523_4], .agg #[.string ((rd_T48 l1_3 x40_2).f0), .slice A524_1 ((rd_T48 l1_3 x40_2).f1).length c524_1, .int .i64 ((rd_T48 l1_3 x40_2).f2), .slice A524_3 ((rd_T48 l1_3 x40_2).f3).length c524_3, .slice A524_4 ((rd_T48 l1_3 x40_2).f4).length c524_4]] (by rfl) rfl rfl (by (try simp only [zm, zc, zn]); first | done | rfl | (simp only [zd, zt]; rfl)) ?_
           with_reducible refine (unit_Same.calls k2 ((rd_T48 l0_3 x40_2).f0) _ _ ((rd_T48 l0_3 x40_2).f1) ((rd_T48 l0_3 x40_2).f2) _ _ ((rd_T48 l0_3 x40_2).f3) _ _ ((rd_T48 l0_3 x40_2).f4) ((rd_T48 l1_3 x40_2).f0) _ _ ((rd_T48 l1_3 x40_2).f1) ((rd_T48 l1_3 x40_2).f2) _ _ ((rd_T48 l1_3 x40_2).f3) _ _ ((rd_T48 l1_3 x40_2).f4) false _ ?side1 ?side2 ?side3 ?side4 ?side5 ?side6 ?side7 ?side8 ?side9 ?side10 ?side11 ?side12 A31.out).mono ?_
           (case side1 => repeat (first | exact (zD HR523_1.out HB.out)))
           (case side2 => exact HC523_1.out)
           (case side3 => repeat (first | exact (zD HR523_3.out HB.out)))
           (case side4 => exact HC523_3.out)
           (case side5 => repeat (first | exact (zD HR523_4.out HB.out)))
           (case side6 => exact HC523_4.out)
           (case side7 => repeat (first | exact (zD HR524_1.out HB.out)))
           (case side8 => exact HC524_1.out)
           (case side9 => repeat (first | exact (zD HR524_3.out HB.out)))
           (case side10 => exact HC524_3.out)
           (case side11 => repeat (first | exact (zD HR524_4.out HB.out)))
           (case side12 => exact HC524_4.out)
           rintro e w36 ⟨rfl, hb⟩
           refine ⟨_, rfl, ?_⟩
           replace BK518 := zA (zQ (g := gb518) (o := .cells #[.slice A0_0 l0_0.length c0_0, .slice A0_1 l0_1.length c0_1, .slice A0_2 l0_2.length c0_2, .slice (some ad523) l0_3.length c0_3] 27 (0, 0)) (by (with_reducible repeat (first | refine zG ?_ _ | refine zH ?_)); exact BK518.out) hb)
           replace BK519 := zA (zQ (g := gb519) (o := .cells #[.slice A1_0 l1_0.length c1_0, .slice A1_1 l1_1.length c1_1, .slice A1_2 l1_2.length c1_2, .slice (some ad524) l1_3.length c1_3] 27 (0, 0)) (by (with_reducible repeat (first | refine zG ?_ _ | refine zH ?_)); exact BK519.out) hb)
           replace HB := zA (below_step (by repeat (first | (with_reducible first | exact HB.out | apply zB | apply zN | apply below_drew1 | refine zE ?_ GE518.out | refine zE ?_ GE519.out) | exact HB.out)) hb)
           (try clear hb)
           (try clear hb2)
           (try clear hk)
           (try clear hi)
           refine hK.out _ _ ⟨(zC BK518.out 0).trans rfl, (zC BK518.out 1).trans rfl, (zC BK518.out 2).trans rfl, (zC BK518.out 3).trans rfl, (zC BK519.out 0).trans rfl, (zC BK519.out 1).trans rfl, (zC BK519.out 2).trans rfl, (zC BK519.out 3).trans rfl, ((HB.out.cell (zL w _ hw523_0)).trans hw523_0), ((HB.out.cell (zL w _ hw523_1)).trans hw523_1), ((HB.out.cell (zL w _ hw523_2)).trans hw523_2), ((HB.out.cell (zL w _ hw523_3)).trans hw523_3), ((HB.out.cell (zL w _ hw523_4)).trans hw523_4), ((HB.out.cell (zL w _ hw524_0)).trans hw524_0), ((HB.out.cell (zL w _ hw524_1)).trans hw524_1), ((HB.out.cell (zL w _ hw524_2)).trans hw524_2), ((HB.out.cell (zL w _ hw524_3)).trans hw524_3), ((HB.out.cell (zL w _ hw524_4)).trans hw524_4)⟩ (fun hHeld => ?_)
           clear hK K
           refine norm_ (a' := ?_) ?_ ?_
           rotate_left
           ·show Act.put _ (some 53) _ = _
            simp only [Act.put, zY, List.set_cons_zero, z2, i64_w, i32_w]
            rfl
           refine pure_ (i := 11) (N := some 54) (v := ?_) (a' := ?_) #[true, true, true, true, true, true, true, true, true, true, true, true] rfl rfl (any_of HT_.out (by kernel_rfl)) (fun _ _ _ h => h) (Or.inl ⟨by rfl, ?_⟩) ?_ ?_
           rotate_left
           ·intro w'
            go_simp
            with_reducible rfl
           rotate_left
           ·simp only [Act.put, zY, List.set_cons_zero, z2, i64_w, i32_w]
            rfl
           refine done_ (done_of HT_.out (by kernel_rfl)) ?_
           try go_wp2
           go_ret
           exact ⟨by first | rfl | (simp [errW_none, errW_some] <;> rfl) | (simp [*, errW_none, errW_some] <;> rfl), by repeat (first | (with_reducible first | exact HB.out | apply zB | apply zN | apply below_drew1 | refine zE ?_ GE518.out | refine zE ?_ GE519.out) | exact HB.out)⟩
         ·rw [if_neg c30] at H
          exact absurd H (by simp)
        ·rw [if_neg c29] at H
         exact absurd H (by simp)
       ·rw [if_neg c28] at H
        exact absurd H (by simp)
      ·rw [if_neg c27] at H
       have c27b0 : decide (x40_2 < (l0_3.length : Int)) = false := decide_eq_false c27
       clear c27
       obtain rfl := zJ H
       go_wp2
       go_ret
       exact ⟨by first | rfl | (simp [errW_none, errW_some] <;> rfl) | (simp [*, errW_none, errW_some] <;> rfl), by repeat (first | (with_reducible first | exact HB.out | apply zB | apply zN | apply below_drew1 | refine zE ?_ GE518.out | refine zE ?_ GE519.out) | exact HB.out)⟩

end Go.Proofs.YtdbfgfgbjheibaaDoor.PBx
end

section
/- Printed by a program of this session (wip/pg.py, over the print of the kit): functions, their Lean twins, and the proofs that the calls come to them; each under the conditions that it names. -/
namespace Go.Proofs.YtdbfgfgbjheibaaDoor.PBx
open Go.RowKit Go.Proofs.YtdbfgfgbjheibaaDoorW.PrintWords Go.Proofs.YtdbfgfgbjheibaaDoorW.PrintLast Go.Proofs.YtdbfgfgbjheibaaDoorW.PrintMore
attribute [local go_sem] max2_int min2_int max_two min_two max_three min_three max_four min_four   -- for this text's walks alone
set_option linter.unusedVariables false
set_option linter.unusedSimpArgs false

/-! ### w15_Few: function 16 -/
def w15_Few.f (a0_0 : ByteArray) (l0_1 : List Int) (a0_2 : Int) (l0_3 : List Int) (l0_4 : List (S109)) : Option (Bool) := if (a0_0.size : Int) ≤ 300 then (if (l0_1.length : Int) ≤ 20 then (if (l0_3.length : Int) ≤ 1100 then (some (decide ((l0_4.length : Int) ≤ 300))) else (some false)) else (some false)) else (some false)
set_option maxHeartbeats 8000000 in
set_option maxRecDepth 100000 in
theorem w15_Few.calls (a0_0 : ByteArray) (A0_1 : Option Addr) (c0_1 : Nat) (l0_1 : List Int) (a0_2 : Int) (A0_3 : Option Addr) (c0_3 : Nat) (l0_3 : List Int) (A0_4 : Option Addr) (c0_4 : Nat) (l0_4 : List (S109)) (r : Bool) (w : World) (hr0_1 : Kd.C (Kd.int .i64) w A0_1 l0_1.length l0_1) (hc0_1 : l0_1.length ≤ c0_1) (hr0_3 : Kd.C (Kd.int .i64) w A0_3 l0_3.length l0_3) (hc0_3 : l0_3.length ≤ c0_3) (hr0_4 : Kd.C k109 w A0_4 l0_4.length l0_4) (hc0_4 : l0_4.length ≤ c0_4) (h : w15_Few.f a0_0 l0_1 a0_2 l0_3 l0_4 = some r) :
  Calls Tryd.prog 16 #[.agg #[.string a0_0, .slice A0_1 l0_1.length c0_1, .int .i64 a0_2, .slice A0_3 l0_3.length c0_3, .slice A0_4 l0_4.length c0_4]] w fun e w' => e = .returned (.bool r) ∧ Below w.heap.size w w' := by
 have hu48 := Tryd.underlying48
 have HR0_1 := zA hr0_1
 have HC0_1 := zA hc0_1
 clear hr0_1 hc0_1
 have HR0_3 := zA hr0_3
 have HC0_3 := zA hc0_3
 clear hr0_3 hc0_3
 have HR0_4 := zA hr0_4
 have HC0_4 := zA hc0_4
 clear hr0_4 hc0_4
 have HB := zA (zX w.heap.size w)
 have H : (if (a0_0.size : Int) ≤ 300 then (if (l0_1.length : Int) ≤ 20 then (if (l0_3.length : Int) ≤ 1100 then (some (decide ((l0_4.length : Int) ≤ 300))) else (some false)) else (some false)) else (some false)) = some r := h
 clear h
 by_cases c2 : (a0_0.size : Int) ≤ 300
 ·rw [if_pos c2] at H
  have c2b0 : decide ((a0_0.size : Int) ≤ 300) = true := decide_eq_true c2
  have c2b1 : decide (a0_0.size ≤ 300) = true := decide_eq_true (by omega)
  clear c2
  by_cases c3 : (l0_1.length : Int) ≤ 20
  ·rw [if_pos c3] at H
   have c3b0 : decide ((l0_1.length : Int) ≤ 20) = true := decide_eq_true c3
   have c3b1 : decide (l0_1.length ≤ 20) = true := decide_eq_true (by omega)
   clear c3
   by_cases c4 : (l0_3.length : Int) ≤ 1100
   ·rw [if_pos c4] at H
    have c4b0 : decide ((l0_3.length : Int) ≤ 1100) = true := decide_eq_true c4
    have c4b1 : decide (l0_3.length ≤ 1100) = true := decide_eq_true (by omega)
    clear c4
    obtain rfl := zJ H
    go_enter Tryd.func16, Tryd.ntmps16
    go_wp2_with (first | ((with_reducible refine gate_dst (N := 1) rfl ?_); (try (refine gate_guard (by rfl) ?_; dsimp only)); refine box_event ?hg (N := 1) ?hd (cs := #[.string a0_0, .slice A0_1 l0_1.length c0_1, .int .i64 a0_2, .slice A0_3 l0_3.length c0_3, .slice A0_4 l0_4.length c0_4]) (t := 48) ?hr ?_; (case hd => rfl); (case hg => rfl); (case hr => first | (go_simp; done) | (go_simp; rfl)); intro gb101 hg w5 hbox hb; have BK101 := zA (hbox); have GW101 := zA ((by rw [hg]; exact (below_size (by repeat (first | (with_reducible first | exact HB.out | apply zB | apply zN | apply below_drew1) | exact HB.out))) : w.heap.size ≤ gb101)); have GE101 := GW101; replace HB := zA (below_step (by repeat (first | (with_reducible first | exact HB.out | apply zB | apply zN | apply below_drew1) | exact HB.out)) hb); clear hb hbox hg; have hcz6_0 : w5.cell? ⟨gb101, 0, none⟩ = some (.string a0_0) := (zC BK101.out 0).trans rfl; have hcz6_1 : w5.cell? ⟨gb101, 1, none⟩ = some (.slice A0_1 l0_1.length c0_1) := (zC BK101.out 1).trans rfl; have hcz6_2 : w5.cell? ⟨gb101, 2, none⟩ = some (.int .i64 a0_2) := (zC BK101.out 2).trans rfl; have hcz6_3 : w5.cell? ⟨gb101, 3, none⟩ = some (.slice A0_3 l0_3.length c0_3) := (zC BK101.out 3).trans rfl; have hcz6_4 : w5.cell? ⟨gb101, 4, none⟩ = some (.slice A0_4 l0_4.length c0_4) := (zC BK101.out 4).trans rfl; have hfz6_0 := zF BK101.out 0; have hfz6_1 := zF BK101.out 1; have hfz6_2 := zF BK101.out 2; have hfz6_3 := zF BK101.out 3; have hfz6_4 := zF BK101.out 4))
    go_ret
    exact ⟨by first | rfl | (simp [errW_none, errW_some] <;> rfl) | (simp [*, errW_none, errW_some] <;> rfl), by repeat (first | (with_reducible first | exact HB.out | apply zB | apply zN | apply below_drew1 | refine zE ?_ GE101.out) | exact HB.out)⟩
   ·rw [if_neg c4] at H
    have c4b0 : decide ((l0_3.length : Int) ≤ 1100) = false := decide_eq_false c4
    have c4b1 : decide (l0_3.length ≤ 1100) = false := decide_eq_false (by omega)
    clear c4
    obtain rfl := zJ H
    go_enter Tryd.func16, Tryd.ntmps16
    go_wp2_with (first | ((with_reducible refine gate_dst (N := 1) rfl ?_); (try (refine gate_guard (by rfl) ?_; dsimp only)); refine box_event ?hg (N := 1) ?hd (cs := #[.string a0_0, .slice A0_1 l0_1.length c0_1, .int .i64 a0_2, .slice A0_3 l0_3.length c0_3, .slice A0_4 l0_4.length c0_4]) (t := 48) ?hr ?_; (case hd => rfl); (case hg => rfl); (case hr => first | (go_simp; done) | (go_simp; rfl)); intro gb101 hg w7 hbox hb; have BK101 := zA (hbox); have GW101 := zA ((by rw [hg]; exact (below_size (by repeat (first | (with_reducible first | exact HB.out | apply zB | apply zN | apply below_drew1) | exact HB.out))) : w.heap.size ≤ gb101)); have GE101 := GW101; replace HB := zA (below_step (by repeat (first | (with_reducible first | exact HB.out | apply zB | apply zN | apply below_drew1) | exact HB.out)) hb); clear hb hbox hg; have hcz8_0 : w7.cell? ⟨gb101, 0, none⟩ = some (.string a0_0) := (zC BK101.out 0).trans rfl; have hcz8_1 : w7.cell? ⟨gb101, 1, none⟩ = some (.slice A0_1 l0_1.length c0_1) := (zC BK101.out 1).trans rfl; have hcz8_2 : w7.cell? ⟨gb101, 2, none⟩ = some (.int .i64 a0_2) := (zC BK101.out 2).trans rfl; have hcz8_3 : w7.cell? ⟨gb101, 3, none⟩ = some (.slice A0_3 l0_3.length c0_3) := (zC BK101.out 3).trans rfl; have hcz8_4 : w7.cell? ⟨gb101, 4, none⟩ = some (.slice A0_4 l0_4.length c0_4) := (zC BK101.out 4).trans rfl; have hfz8_0 := zF BK101.out 0; have hfz8_1 := zF BK101.out 1; have hfz8_2 := zF BK101.out 2; have hfz8_3 := zF BK101.out 3; have hfz8_4 := zF BK101.out 4))
    go_ret
    exact ⟨by first | rfl | (simp [errW_none, errW_some] <;> rfl) | (simp [*, errW_none, errW_some] <;> rfl), by repeat (first | (with_reducible first | exact HB.out | apply zB | apply zN | apply below_drew1 | refine zE ?_ GE101.out) | exact HB.out)⟩
  ·rw [if_neg c3] at H
   have c3b0 : decide ((l0_1.length : Int) ≤ 20) = false := decide_eq_false c3
   have c3b1 : decide (l0_1.length ≤ 20) = false := decide_eq_false (by omega)
   clear c3
   obtain rfl := zJ H
   go_enter Tryd.func16, Tryd.ntmps16
   go_wp2_with (first | ((with_reducible refine gate_dst (N := 1) rfl ?_); (try (refine gate_guard (by rfl) ?_; dsimp only)); refine box_event ?hg (N := 1) ?hd (cs := #[.string a0_0, .slice A0_1 l0_1.length c0_1, .int .i64 a0_2, .slice A0_3 l0_3.length c0_3, .slice A0_4 l0_4.length c0_4]) (t := 48) ?hr ?_; (case hd => rfl); (case hg => rfl); (case hr => first | (go_simp; done) | (go_simp; rfl)); intro gb101 hg w9 hbox hb; have BK101 := zA (hbox); have GW101 := zA ((by rw [hg]; exact (below_size (by repeat (first | (with_reducible first | exact HB.out | apply zB | apply zN | apply below_drew1) | exact HB.out))) : w.heap.size ≤ gb101)); have GE101 := GW101; replace HB := zA (below_step (by repeat (first | (with_reducible first | exact HB.out | apply zB | apply zN | apply below_drew1) | exact HB.out)) hb); clear hb hbox hg; have hcz10_0 : w9.cell? ⟨gb101, 0, none⟩ = some (.string a0_0) := (zC BK101.out 0).trans rfl; have hcz10_1 : w9.cell? ⟨gb101, 1, none⟩ = some (.slice A0_1 l0_1.length c0_1) := (zC BK101.out 1).trans rfl; have hcz10_2 : w9.cell? ⟨gb101, 2, none⟩ = some (.int .i64 a0_2) := (zC BK101.out 2).trans rfl; have hcz10_3 : w9.cell? ⟨gb101, 3, none⟩ = some (.slice A0_3 l0_3.length c0_3) := (zC BK101.out 3).trans rfl; have hcz10_4 : w9.cell? ⟨gb101, 4, none⟩ = some (.slice A0_4 l0_4.length c0_4) := (zC BK101.out 4).trans rfl; have hfz10_0 := zF BK101.out 0; have hfz10_1 := zF BK101.out 1; have hfz10_2 := zF BK101.out 2; have hfz10_3 := zF BK101.out 3; have hfz10_4 := zF BK101.out 4))
   go_ret
   exact ⟨by first | rfl | (simp [errW_none, errW_some] <;> rfl) | (simp [*, errW_none, errW_some] <;> rfl), by repeat (first | (with_reducible first | exact HB.out | apply zB | apply zN | apply below_drew1 | refine zE ?_ GE101.out) | exact HB.out)⟩
 ·rw [if_neg c2] at H
  have c2b0 : decide ((a0_0.size : Int) ≤ 300) = false := decide_eq_false c2
  have c2b1 : decide (a0_0.size ≤ 300) = false := decide_eq_false (by omega)
  clear c2
  obtain rfl := zJ H
  go_enter Tryd.func16, Tryd.ntmps16
  go_wp2_with (first | ((with_reducible refine gate_dst (N := 1) rfl ?_); (try (refine gate_guard (by rfl) ?_; dsimp only)); refine box_event ?hg (N := 1) ?hd (cs := #[.string a0_0, .slice A0_1 l0_1.length c0_1, .int .i64 a0_2, .slice A0_3 l0_3.length c0_3, .slice A0_4 l0_4.length c0_4]) (t := 48) ?hr ?_; (case hd => rfl); (case hg => rfl); (case hr => first | (go_simp; done) | (go_simp; rfl)); intro gb101 hg w11 hbox hb; have BK101 := zA (hbox); have GW101 := zA ((by rw [hg]; exact (below_size (by repeat (first | (with_reducible first | exact HB.out | apply zB | apply zN | apply below_drew1) | exact HB.out))) : w.heap.size ≤ gb101)); have GE101 := GW101; replace HB := zA (below_step (by repeat (first | (with_reducible first | exact HB.out | apply zB | apply zN | apply below_drew1) | exact HB.out)) hb); clear hb hbox hg; have hcz12_0 : w11.cell? ⟨gb101, 0, none⟩ = some (.string a0_0) := (zC BK101.out 0).trans rfl; have hcz12_1 : w11.cell? ⟨gb101, 1, none⟩ = some (.slice A0_1 l0_1.length c0_1) := (zC BK101.out 1).trans rfl; have hcz12_2 : w11.cell? ⟨gb101, 2, none⟩ = some (.int .i64 a0_2) := (zC BK101.out 2).trans rfl; have hcz12_3 : w11.cell? ⟨gb101, 3, none⟩ = some (.slice A0_3 l0_3.length c0_3) := (zC BK101.out 3).trans rfl; have hcz12_4 : w11.cell? ⟨gb101, 4, none⟩ = some (.slice A0_4 l0_4.length c0_4) := (zC BK101.out 4).trans rfl; have hfz12_0 := zF BK101.out 0; have hfz12_1 := zF BK101.out 1; have hfz12_2 := zF BK101.out 2; have hfz12_3 := zF BK101.out 3; have hfz12_4 := zF BK101.out 4))
  go_ret
  exact ⟨by first | rfl | (simp [errW_none, errW_some] <;> rfl) | (simp [*, errW_none, errW_some] <;> rfl), by repeat (first | (with_reducible first | exact HB.out | apply zB | apply zN | apply below_drew1 | refine zE ?_ GE101.out) | exact HB.out)⟩

end Go.Proofs.YtdbfgfgbjheibaaDoor.PBx
end
