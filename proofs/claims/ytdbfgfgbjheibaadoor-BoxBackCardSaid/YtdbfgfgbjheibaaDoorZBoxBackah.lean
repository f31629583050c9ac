/- Printed by a program of this session (wip/pg.py, over the print of the kit): functions, their Lean twins, and the proofs that the calls come to them; each under the conditions that it names. -/
import Derived.Test.YtdbfgfgbjheibaaDoorZBoxBackq
import Derived.Test.YtdbfgfgbjheibaaDoorZBoxBackab
import Derived.Test.YtdbfgfgbjheibaaDoorZBoxBackaf
import Derived.Test.YtdbfgfgbjheibaaDoorZBoxBackag
section
/- Printed by a program of this session (wip/pg.py, over the print of the kit): functions, their Lean twins, and the proofs that the calls come to them; each under the conditions that it names. -/
namespace Go.Proofs.YtdbfgfgbjheibaaDoor.PBx
open Go.RowKit Go.Proofs.YtdbfgfgbjheibaaDoorW.PrintWords Go.Proofs.YtdbfgfgbjheibaaDoorW.PrintLast Go.Proofs.YtdbfgfgbjheibaaDoorW.PrintMore
attribute [local go_sem] max2_int min2_int max_two min_two max_three min_three max_four min_four   -- for this text's walks alone
set_option linter.unusedVariables false
set_option linter.unusedSimpArgs false

/-! ### r16_Same: function 11 -/
mutual
def r16_Same.j0 : Nat → Bool → List (S68) → List (S41) → List (S43) → List (S48) → List (S68) → List (S41) → List (S43) → List (S48) → Option (Bool)
 | 0, _, _, _, _, _, _, _, _, _ => none
 | k + 1, x36, x299000, x299001, x299002, x299003, x300000, x300001, x300002, x300003 => if x36 = true then (some false) else (r16_Same.l0 k 0 x299000 x299001 x299002 x299003 x300000 x300001 x300002 x300003)
def r16_Same.l0 : Nat → Int → List (S68) → List (S41) → List (S43) → List (S48) → List (S68) → List (S41) → List (S43) → List (S48) → Option (Bool)
 | 0, _, _, _, _, _, _, _, _, _ => none
 | k + 1, x5, x299000, x299001, x299002, x299003, x300000, x300001, x300002, x300003 => if x5 < (x299003.length : Int) then (if 0 ≤ x5 then (if x5 < (x300003.length : Int) then ((r15_Same.f k ((rd_T48 x299003 x5).f0) ((rd_T48 x299003 x5).f1) ((rd_T48 x299003 x5).f2) ((rd_T48 x299003 x5).f3) ((rd_T48 x299003 x5).f4) ((rd_T48 x300003 x5).f0) ((rd_T48 x300003 x5).f1) ((rd_T48 x300003 x5).f2) ((rd_T48 x300003 x5).f3) ((rd_T48 x300003 x5).f4)).bind fun t305 => (if t305 = true then (r16_Same.l0 k (wrap64 (x5 + 1)) x299000 x299001 x299002 x299003 x300000 x300001 x300002 x300003) else (some false))) else (none)) else (none)) else (some true)
end
def r16_Same.f (k : Nat) (l0_0 : List (S68)) (l0_1 : List (S41)) (l0_2 : List (S43)) (l0_3 : List (S48)) (l1_0 : List (S68)) (l1_1 : List (S41)) (l1_2 : List (S43)) (l1_3 : List (S48)) : Option (Bool) := (r14_SameConsts.f k l0_0 l1_0).bind fun t300 => (if t300 = true then ((r14_SameVars.f k l0_1 l1_1).bind fun t301 => (if t301 = true then ((r14_SameBlocks.f k l0_2 l1_2).bind fun t302 => (if t302 = true then (r16_Same.j0 k ((l0_3.length : Int) != (l1_3.length : Int)) l0_0 l0_1 l0_2 l0_3 l1_0 l1_1 l1_2 l1_3) else (r16_Same.j0 k true l0_0 l0_1 l0_2 l0_3 l1_0 l1_1 l1_2 l1_3))) else (r16_Same.j0 k true l0_0 l0_1 l0_2 l0_3 l1_0 l1_1 l1_2 l1_3))) else (r16_Same.j0 k true l0_0 l0_1 l0_2 l0_3 l1_0 l1_1 l1_2 l1_3))
def r16_Same.T6 : Bool × List (List Nat × List Nat) := (true, [([], []), ([0], [0]), ([], []), ([1, 2], [1, 2]), ([3], [3]), ([], []), ([5], [5]), ([], []), ([6, 7], [6, 7]), ([8], [8]), ([4, 9], [4, 9]), ([10], [10])])
def r16_Same.B6 : List Nat := [0, 1, 0, 7, 15, 0, 32, 0, 224, 480, 1023, 2047]
theorem r16_Same.tab6 : rtab .any (opsOf Tryd.f11 6) = r16_Same.T6 := by kernel_rfl
theorem r16_Same.bits6 : waitsOk r16_Same.T6.2 r16_Same.B6 = true := by kernel_rfl
set_option maxHeartbeats 8000000 in
set_option maxRecDepth 100000 in
theorem r16_Same.calls (k : Nat) (A0_0 : Option Addr) (c0_0 : Nat) (l0_0 : List (S68)) (A0_1 : Option Addr) (c0_1 : Nat) (l0_1 : List (S41)) (A0_2 : Option Addr) (c0_2 : Nat) (l0_2 : List (S43)) (A0_3 : Option Addr) (c0_3 : Nat) (l0_3 : List (S48)) (A1_0 : Option Addr) (c1_0 : Nat) (l1_0 : List (S68)) (A1_1 : Option Addr) (c1_1 : Nat) (l1_1 : List (S41)) (A1_2 : Option Addr) (c1_2 : Nat) (l1_2 : List (S43)) (A1_3 : Option Addr) (c1_3 : Nat) (l1_3 : List (S48)) (r : Bool) (w : World) (hr0_0 : Kd.C k68 w A0_0 l0_0.length l0_0) (hc0_0 : l0_0.length ≤ c0_0) (hr0_1 : Kd.C k41 w A0_1 l0_1.length l0_1) (hc0_1 : l0_1.length ≤ c0_1) (hr0_2 : Kd.C k43 w A0_2 l0_2.length l0_2) (hc0_2 : l0_2.length ≤ c0_2) (hr0_3 : Kd.C k48 w A0_3 l0_3.length l0_3) (hc0_3 : l0_3.length ≤ c0_3) (hr1_0 : Kd.C k68 w A1_0 l1_0.length l1_0) (hc1_0 : l1_0.length ≤ c1_0) (hr1_1 : Kd.C k41 w A1_1 l1_1.length l1_1) (hc1_1 : l1_1.length ≤ c1_1) (hr1_2 : Kd.C k43 w A1_2 l1_2.length l1_2) (hc1_2 : l1_2.length ≤ c1_2) (hr1_3 : Kd.C k48 w A1_3 l1_3.length l1_3) (hc1_3 : l1_3.length ≤ c1_3) (h : r16_Same.f k l0_0 l0_1 l0_2 l0_3 l1_0 l1_1 l1_2 l1_3 = some r) :
  Calls Tryd.prog 11 #[.agg #[.slice A0_0 l0_0.length c0_0, .slice A0_1 l0_1.length c0_1, .slice A0_2 l0_2.length c0_2, .slice A0_3 l0_3.length c0_3], .agg #[.slice A1_0 l1_0.length c1_0, .slice A1_1 l1_1.length c1_1, .slice A1_2 l1_2.length c1_2, .slice A1_3 l1_3.length c1_3]] w fun e w' => e = .returned (.bool r) ∧ Below w.heap.size w w' := by
 have hu27 := Tryd.underlying27
 have hu48 := Tryd.underlying48
 have HR0_0 := zA hr0_0
 have HC0_0 := zA hc0_0
 clear hr0_0 hc0_0
 have HR0_1 := zA hr0_1
 have HC0_1 := zA hc0_1
 clear hr0_1 hc0_1
 have HR0_2 := zA hr0_2
 have HC0_2 := zA hc0_2
 clear hr0_2 hc0_2
 have HR0_3 := zA hr0_3
 have HC0_3 := zA hc0_3
 clear hr0_3 hc0_3
 have HR1_0 := zA hr1_0
 have HC1_0 := zA hc1_0
 clear hr1_0 hc1_0
 have HR1_1 := zA hr1_1
 have HC1_1 := zA hc1_1
 clear hr1_1 hc1_1
 have HR1_2 := zA hr1_2
 have HC1_2 := zA hc1_2
 clear hr1_2 hc1_2
 have HR1_3 := zA hr1_3
 have HC1_3 := zA hc1_3
 clear hr1_3 hc1_3
 have HB := zA (zX w.heap.size w)
 have H : ((r14_SameConsts.f k l0_0 l1_0).bind fun t300 => (if t300 = true then ((r14_SameVars.f k l0_1 l1_1).bind fun t301 => (if t301 = true then ((r14_SameBlocks.f k l0_2 l1_2).bind fun t302 => (if t302 = true then (r16_Same.j0 k ((l0_3.length : Int) != (l1_3.length : Int)) l0_0 l0_1 l0_2 l0_3 l1_0 l1_1 l1_2 l1_3) else (r16_Same.j0 k true l0_0 l0_1 l0_2 l0_3 l1_0 l1_1 l1_2 l1_3))) else (r16_Same.j0 k true l0_0 l0_1 l0_2 l0_3 l1_0 l1_1 l1_2 l1_3))) else (r16_Same.j0 k true l0_0 l0_1 l0_2 l0_3 l1_0 l1_1 l1_2 l1_3))) = some r := h
 clear h
 have HC3 := zA H
 clear H
 go_enter Tryd.func11, Tryd.ntmps11
 go_upto_region 1 with (first | ((with_reducible refine gate_dst (N := 2) rfl ?_); (try (refine gate_guard (by rfl) ?_; dsimp only)); refine box_event ?hg (N := 2) ?hd (cs := #[.slice A0_0 l0_0.length c0_0, .slice A0_1 l0_1.length c0_1, .slice A0_2 l0_2.length c0_2, .slice A0_3 l0_3.length c0_3]) (t := 27) ?hr ?_; (case hd => rfl); (case hg => rfl); (case hr => first | (go_simp; done) | (go_simp; rfl)); intro gb298 hg w4 hbox hb; have BK298 := zA (hbox); have GW298 := zA ((by rw [hg]; exact (below_size (by repeat (first | (with_reducible first | exact HB.out | apply zB | apply zN | apply below_drew1) | exact HB.out))) : w.heap.size ≤ gb298)); have GE298 := GW298; replace HB := zA (below_step (by repeat (first | (with_reducible first | exact HB.out | apply zB | apply zN | apply below_drew1) | exact HB.out)) hb); clear hb hbox hg) | ((with_reducible refine gate_dst (N := 3) rfl ?_); (try (refine gate_guard (by rfl) ?_; dsimp only)); refine box_event ?hg (N := 3) ?hd (cs := #[.slice A1_0 l1_0.length c1_0, .slice A1_1 l1_1.length c1_1, .slice A1_2 l1_2.length c1_2, .slice A1_3 l1_3.length c1_3]) (t := 27) ?hr ?_; (case hd => rfl); (case hg => rfl); (case hr => first | (go_simp; done) | (go_simp; rfl)); intro gb299 hg w5 hbox hb; have BK299 := zA (hbox); have GW299 := zA ((by rw [hg]; exact (below_size (by repeat (first | (with_reducible first | exact HB.out | apply zB | apply zN | apply below_drew1 | refine zE ?_ GE298.out) | exact HB.out))) : w.heap.size ≤ gb299)); have GE299 := GW299; replace HB := zA (below_step (by repeat (first | (with_reducible first | exact HB.out | apply zB | apply zN | apply below_drew1 | refine zE ?_ GE298.out) | exact HB.out)) hb); have NB298_299 := zA ((by rw [hg]; exact Nat.ne_of_lt (blk_lt (g := gb298) (o := .cells #[.slice A0_0 l0_0.length c0_0, .slice A0_1 l0_1.length c0_1, .slice A0_2 l0_2.length c0_2, .slice A0_3 l0_3.length c0_3] 27 (0, 0)) (by (with_reducible repeat (first | refine zG ?_ _ | refine zH ?_)); exact BK298.out)) : gb298 ≠ gb299)); have NB299_298 := zA ((by rw [hg]; exact Nat.ne_of_gt (blk_lt (g := gb298) (o := .cells #[.slice A0_0 l0_0.length c0_0, .slice A0_1 l0_1.length c0_1, .slice A0_2 l0_2.length c0_2, .slice A0_3 l0_3.length c0_3] 27 (0, 0)) (by (with_reducible repeat (first | refine zG ?_ _ | refine zH ?_)); exact BK298.out)) : gb299 ≠ gb298)); replace BK298 := zA (zQ (g := gb298) (o := .cells #[.slice A0_0 l0_0.length c0_0, .slice A0_1 l0_1.length c0_1, .slice A0_2 l0_2.length c0_2, .slice A0_3 l0_3.length c0_3] 27 (0, 0)) (by (with_reducible repeat (first | refine zG ?_ _ | refine zH ?_)); exact BK298.out) hb); clear hb hbox hg))
 (try simp only [Act.put, zY, List.set_cons_zero, z2])
 go_cut [36] (fun v36 wc => ∃ (kq : Nat) (x36_2 : Bool), v36 = .bool x36_2 ∧ Aside0 (r16_Same.j0 kq x36_2 l0_0 l0_1 l0_2 l0_3 l1_0 l1_1 l1_2 l1_3 = some r) ∧ Aside0 (kq ≤ k) ∧ Aside0 (wc.heap[gb298]? = some (.cells #[(.slice A0_0 l0_0.length c0_0), (.slice A0_1 l0_1.length c0_1), (.slice A0_2 l0_2.length c0_2), (.slice A0_3 l0_3.length c0_3)] 27 (0, 0))) ∧ Aside0 (wc.heap[gb299]? = some (.cells #[(.slice A1_0 l1_0.length c1_0), (.slice A1_1 l1_1.length c1_1), (.slice A1_2 l1_2.length c1_2), (.slice A1_3 l1_3.length c1_3)] 27 (0, 0))) ∧ Aside0 (Below w.heap.size w wc))
 case first =>
  have H := HC3.out
  clear HC3
  replace H := Option.bind_eq_some_iff.mp H
  obtain ⟨t300, A60, H⟩ := H
  replace H : (if t300 = true then ((r14_SameVars.f k l0_1 l1_1).bind fun t301 => (if t301 = true then ((r14_SameBlocks.f k l0_2 l1_2).bind fun t302 => (if t302 = true then (r16_Same.j0 k ((l0_3.length : Int) != (l1_3.length : Int)) l0_0 l0_1 l0_2 l0_3 l1_0 l1_1 l1_2 l1_3) else (r16_Same.j0 k true l0_0 l0_1 l0_2 l0_3 l1_0 l1_1 l1_2 l1_3))) else (r16_Same.j0 k true l0_0 l0_1 l0_2 l0_3 l1_0 l1_1 l1_2 l1_3))) else (r16_Same.j0 k true l0_0 l0_1 l0_2 l0_3 l1_0 l1_1 l1_2 l1_3)) = some r := H
  have A6 := zA A60
  clear A60
  by_cases c7 : t300 = true
  ·subst c7
   have H1 : ((r14_SameVars.f k l0_1 l1_1).bind fun t301 => (if t301 = true then ((r14_SameBlocks.f k l0_2 l1_2).bind fun t302 => (if t302 = true then (r16_Same.j0 k ((l0_3.length : Int) != (l1_3.length : Int)) l0_0 l0_1 l0_2 l0_3 l1_0 l1_1 l1_2 l1_3) else (r16_Same.j0 k true l0_0 l0_1 l0_2 l0_3 l1_0 l1_1 l1_2 l1_3))) else (r16_Same.j0 k true l0_0 l0_1 l0_2 l0_3 l1_0 l1_1 l1_2 l1_3))) = some r := by rw [if_pos rfl] at H; exact H
   clear H
   have H := H1
   clear H1
   replace H := Option.bind_eq_some_iff.mp H
   obtain ⟨t301, A80, H⟩ := H
   replace H : (if t301 = true then ((r14_SameBlocks.f k l0_2 l1_2).bind fun t302 => (if t302 = true then (r16_Same.j0 k ((l0_3.length : Int) != (l1_3.length : Int)) l0_0 l0_1 l0_2 l0_3 l1_0 l1_1 l1_2 l1_3) else (r16_Same.j0 k true l0_0 l0_1 l0_2 l0_3 l1_0 l1_1 l1_2 l1_3))) else (r16_Same.j0 k true l0_0 l0_1 l0_2 l0_3 l1_0 l1_1 l1_2 l1_3)) = some r := H
   have A8 := zA A80
   clear A80
   by_cases c9 : t301 = true
   ·subst c9
    have H1 : ((r14_SameBlocks.f k l0_2 l1_2).bind fun t302 => (if t302 = true then (r16_Same.j0 k ((l0_3.length : Int) != (l1_3.length : Int)) l0_0 l0_1 l0_2 l0_3 l1_0 l1_1 l1_2 l1_3) else (r16_Same.j0 k true l0_0 l0_1 l0_2 l0_3 l1_0 l1_1 l1_2 l1_3))) = some r := by rw [if_pos rfl] at H; exact H
    clear H
    have H := H1
    clear H1
    replace H := Option.bind_eq_some_iff.mp H
    obtain ⟨t302, A100, H⟩ := H
    replace H : (if t302 = true then (r16_Same.j0 k ((l0_3.length : Int) != (l1_3.length : Int)) l0_0 l0_1 l0_2 l0_3 l1_0 l1_1 l1_2 l1_3) else (r16_Same.j0 k true l0_0 l0_1 l0_2 l0_3 l1_0 l1_1 l1_2 l1_3)) = some r := H
    have A10 := zA A100
    clear A100
    by_cases c11 : t302 = true
    ·subst c11
     have H1 : (r16_Same.j0 k ((l0_3.length : Int) != (l1_3.length : Int)) l0_0 l0_1 l0_2 l0_3 l1_0 l1_1 l1_2 l1_3) = some r := by rw [if_pos rfl] at H; exact H
     clear H
     have H := H1
     clear H1
     have H' := zA H
     clear H
     have hnb12 := NB298_299.out
     have hnc12 := NB299_298.out
     have hcz13_0 : w5.cell? ⟨gb298, 0, none⟩ = some (.slice A0_0 l0_0.length c0_0) := (zC BK298.out 0).trans rfl
     have hcz13_1 : w5.cell? ⟨gb298, 1, none⟩ = some (.slice A0_1 l0_1.length c0_1) := (zC BK298.out 1).trans rfl
     have hcz13_2 : w5.cell? ⟨gb298, 2, none⟩ = some (.slice A0_2 l0_2.length c0_2) := (zC BK298.out 2).trans rfl
     have hcz13_3 : w5.cell? ⟨gb298, 3, none⟩ = some (.slice A0_3 l0_3.length c0_3) := (zC BK298.out 3).trans rfl
     have hfz13_0 := zF BK298.out 0
     have hfz13_1 := zF BK298.out 1
     have hfz13_2 := zF BK298.out 2
     have hfz13_3 := zF BK298.out 3
     have hcz14_0 : w5.cell? ⟨gb299, 0, none⟩ = some (.slice A1_0 l1_0.length c1_0) := (zC BK299.out 0).trans rfl
     have hcz14_1 : w5.cell? ⟨gb299, 1, none⟩ = some (.slice A1_1 l1_1.length c1_1) := (zC BK299.out 1).trans rfl
     have hcz14_2 : w5.cell? ⟨gb299, 2, none⟩ = some (.slice A1_2 l1_2.length c1_2) := (zC BK299.out 2).trans rfl
     have hcz14_3 : w5.cell? ⟨gb299, 3, none⟩ = some (.slice A1_3 l1_3.length c1_3) := (zC BK299.out 3).trans rfl
     have hfz14_0 := zF BK299.out 0
     have hfz14_1 := zF BK299.out 1
     have hfz14_2 := zF BK299.out 2
     have hfz14_3 := zF BK299.out 3
     go_wp2_with (first | ((with_reducible refine gate_callee (f := 26) rfl ?_); refine goesL_ (some 10) rfl rfl Tryd.func26 (by kernel_rfl) rfl #[.slice A0_0 l0_0.length c0_0, .slice A1_0 l1_0.length c1_0] rfl (by (try simp only [zm, zc, zn]); first | done | rfl | (simp only [zd, zt]; rfl)) ?_; (with_reducible refine (r14_SameConsts.calls k _ _ l0_0 _ _ l1_0 true _ ?side1 ?side2 ?side3 ?side4 A6.out).mono ?_); (case side1 => repeat (first | exact (zD HR0_0.out HB.out))); (case side2 => exact HC0_0.out); (case side3 => repeat (first | exact (zD HR1_0.out HB.out))); (case side4 => exact HC1_0.out); rintro e w' ⟨rfl, ⟨nd, rfl⟩⟩; refine ⟨_, rfl, ?_⟩) | (go_at_call 27; (with_reducible refine (r14_SameVars.calls k _ _ l0_1 _ _ l1_1 true _ ?side1 ?side2 ?side3 ?side4 A8.out).mono ?_); (case side1 => repeat (first | exact (zD HR0_1.out (by repeat (first | (with_reducible first | exact HB.out | apply zB | apply zN | apply below_drew1 | refine zE ?_ GE298.out | refine zE ?_ GE299.out) | exact HB.out))))); (case side2 => exact HC0_1.out); (case side3 => repeat (first | exact (zD HR1_1.out (by repeat (first | (with_reducible first | exact HB.out | apply zB | apply zN | apply below_drew1 | refine zE ?_ GE298.out | refine zE ?_ GE299.out) | exact HB.out))))); (case side4 => exact HC1_1.out); rintro e w' ⟨rfl, ⟨nd, rfl⟩⟩) | (go_at_call 28; (with_reducible refine (r14_SameBlocks.calls k _ _ l0_2 _ _ l1_2 true _ ?side1 ?side2 ?side3 ?side4 A10.out).mono ?_); (case side1 => repeat (first | exact (zD HR0_2.out (by repeat (first | (with_reducible first | exact HB.out | apply zB | apply zN | apply below_drew1 | refine zE ?_ GE298.out | refine zE ?_ GE299.out) | exact HB.out))))); (case side2 => exact HC0_2.out); (case side3 => repeat (first | exact (zD HR1_2.out (by repeat (first | (with_reducible first | exact HB.out | apply zB | apply zN | apply below_drew1 | refine zE ?_ GE298.out | refine zE ?_ GE299.out) | exact HB.out))))); (case side4 => exact HC1_2.out); rintro e w' ⟨rfl, ⟨nd, rfl⟩⟩))
     go_meet
     case rel => exact ⟨_, (((l0_3.length : Int) != (l1_3.length : Int))), (by first | rfl | (simp; done) | (simp [*]; done)), H', ⟨by first | omega | exact z5 _⟩, ⟨by (with_reducible repeat (first | refine zG ?_ _ | refine zH ?_)); exact BK298.out⟩, ⟨by (with_reducible repeat (first | refine zG ?_ _ | refine zH ?_)); exact BK299.out⟩, ⟨by repeat (first | (with_reducible first | exact HB.out | apply zB | apply zN | apply below_drew1 | refine zE ?_ GE298.out | refine zE ?_ GE299.out) | exact HB.out)⟩⟩
    ·replace c11 := Bool.eq_false_iff.mpr c11
     subst c11
     have H1 : (r16_Same.j0 k true l0_0 l0_1 l0_2 l0_3 l1_0 l1_1 l1_2 l1_3) = some r := by rw [if_neg (show ¬ (false = true) by decide)] at H; exact H
     clear H
     have H := H1
     clear H1
     have H' := zA H
     clear H
     have hnb15 := NB298_299.out
     have hnc15 := NB299_298.out
     have hcz16_0 : w5.cell? ⟨gb298, 0, none⟩ = some (.slice A0_0 l0_0.length c0_0) := (zC BK298.out 0).trans rfl
     have hcz16_1 : w5.cell? ⟨gb298, 1, none⟩ = some (.slice A0_1 l0_1.length c0_1) := (zC BK298.out 1).trans rfl
     have hcz16_2 : w5.cell? ⟨gb298, 2, none⟩ = some (.slice A0_2 l0_2.length c0_2) := (zC BK298.out 2).trans rfl
     have hcz16_3 : w5.cell? ⟨gb298, 3, none⟩ = some (.slice A0_3 l0_3.length c0_3) := (zC BK298.out 3).trans rfl
     have hfz16_0 := zF BK298.out 0
     have hfz16_1 := zF BK298.out 1
     have hfz16_2 := zF BK298.out 2
     have hfz16_3 := zF BK298.out 3
     have hcz17_0 : w5.cell? ⟨gb299, 0, none⟩ = some (.slice A1_0 l1_0.length c1_0) := (zC BK299.out 0).trans rfl
     have hcz17_1 : w5.cell? ⟨gb299, 1, none⟩ = some (.slice A1_1 l1_1.length c1_1) := (zC BK299.out 1).trans rfl
     have hcz17_2 : w5.cell? ⟨gb299, 2, none⟩ = some (.slice A1_2 l1_2.length c1_2) := (zC BK299.out 2).trans rfl
     have hcz17_3 : w5.cell? ⟨gb299, 3, none⟩ = some (.slice A1_3 l1_3.length c1_3) := (zC BK299.out 3).trans rfl
     have hfz17_0 := zF BK299.out 0
     have hfz17_1 := zF BK299.out 1
     have hfz17_2 := zF BK299.out 2
     have hfz17_3 := zF BK299.out 3
     go_wp2_with (first | ((with_reducible refine gate_callee (f := 26) rfl ?_); refine goesL_ (some 10) rfl rfl Tryd.func26 (by kernel_rfl) rfl #[.slice A0_0 l0_0.length c0_0, .slice A1_0 l1_0.length c1_0] rfl (by (try simp only [zm, zc, zn]); first | done | rfl | (simp only [zd, zt]; rfl)) ?_; (with_reducible refine (r14_SameConsts.calls k _ _ l0_0 _ _ l1_0 true _ ?side1 ?side2 ?side3 ?side4 A6.out).mono ?_); (case side1 => repeat (first | exact (zD HR0_0.out HB.out))); (case side2 => exact HC0_0.out); (case side3 => repeat (first | exact (zD HR1_0.out HB.out))); (case side4 => exact HC1_0.out); rintro e w' ⟨rfl, ⟨nd, rfl⟩⟩; refine ⟨_, rfl, ?_⟩) | (go_at_call 27; (with_reducible refine (r14_SameVars.calls k _ _ l0_1 _ _ l1_1 true _ ?side1 ?side2 ?side3 ?side4 A8.out).mono ?_); (case side1 => repeat (first | exact (zD HR0_1.out (by repeat (first | (with_reducible first | exact HB.out | apply zB | apply zN | apply below_drew1 | refine zE ?_ GE298.out | refine zE ?_ GE299.out) | exact HB.out))))); (case side2 => exact HC0_1.out); (case side3 => repeat (first | exact (zD HR1_1.out (by repeat (first | (with_reducible first | exact HB.out | apply zB | apply zN | apply below_drew1 | refine zE ?_ GE298.out | refine zE ?_ GE299.out) | exact HB.out))))); (case side4 => exact HC1_1.out); rintro e w' ⟨rfl, ⟨nd, rfl⟩⟩) | (go_at_call 28; (with_reducible refine (r14_SameBlocks.calls k _ _ l0_2 _ _ l1_2 false _ ?side1 ?side2 ?side3 ?side4 A10.out).mono ?_); (case side1 => repeat (first | exact (zD HR0_2.out (by repeat (first | (with_reducible first | exact HB.out | apply zB | apply zN | apply below_drew1 | refine zE ?_ GE298.out | refine zE ?_ GE299.out) | exact HB.out))))); (case side2 => exact HC0_2.out); (case side3 => repeat (first | exact (zD HR1_2.out (by repeat (first | (with_reducible first | exact HB.out | apply zB | apply zN | apply below_drew1 | refine zE ?_ GE298.out | refine zE ?_ GE299.out) | exact HB.out))))); (case side4 => exact HC1_2.out); rintro e w' ⟨rfl, ⟨nd, rfl⟩⟩))
     go_meet
     case rel => exact ⟨_, (true), (by first | rfl | (simp; done) | (simp [*]; done)), H', ⟨by first | omega | exact z5 _⟩, ⟨by (with_reducible repeat (first | refine zG ?_ _ | refine zH ?_)); exact BK298.out⟩, ⟨by (with_reducible repeat (first | refine zG ?_ _ | refine zH ?_)); exact BK299.out⟩, ⟨by repeat (first | (with_reducible first | exact HB.out | apply zB | apply zN | apply below_drew1 | refine zE ?_ GE298.out | refine zE ?_ GE299.out) | exact HB.out)⟩⟩
   ·replace c9 := Bool.eq_false_iff.mpr c9
    subst c9
    have H1 : (r16_Same.j0 k true l0_0 l0_1 l0_2 l0_3 l1_0 l1_1 l1_2 l1_3) = some r := by rw [if_neg (show ¬ (false = true) by decide)] at H; exact H
    clear H
    have H := H1
    clear H1
    have H' := zA H
    clear H
    have hnb18 := NB298_299.out
    have hnc18 := NB299_298.out
    have hcz19_0 : w5.cell? ⟨gb298, 0, none⟩ = some (.slice A0_0 l0_0.length c0_0) := (zC BK298.out 0).trans rfl
    have hcz19_1 : w5.cell? ⟨gb298, 1, none⟩ = some (.slice A0_1 l0_1.length c0_1) := (zC BK298.out 1).trans rfl
    have hcz19_2 : w5.cell? ⟨gb298, 2, none⟩ = some (.slice A0_2 l0_2.length c0_2) := (zC BK298.out 2).trans rfl
    have hcz19_3 : w5.cell? ⟨gb298, 3, none⟩ = some (.slice A0_3 l0_3.length c0_3) := (zC BK298.out 3).trans rfl
    have hfz19_0 := zF BK298.out 0
    have hfz19_1 := zF BK298.out 1
    have hfz19_2 := zF BK298.out 2
    have hfz19_3 := zF BK298.out 3
    have hcz20_0 : w5.cell? ⟨gb299, 0, none⟩ = some (.slice A1_0 l1_0.length c1_0) := (zC BK299.out 0).trans rfl
    have hcz20_1 : w5.cell? ⟨gb299, 1, none⟩ = some (.slice A1_1 l1_1.length c1_1) := (zC BK299.out 1).trans rfl
    have hcz20_2 : w5.cell? ⟨gb299, 2, none⟩ = some (.slice A1_2 l1_2.length c1_2) := (zC BK299.out 2).trans rfl
    have hcz20_3 : w5.cell? ⟨gb299, 3, none⟩ = some (.slice A1_3 l1_3.length c1_3) := (zC BK299.out 3).trans rfl
    have hfz20_0 := zF BK299.out 0
    have hfz20_1 := zF BK299.out 1
    have hfz20_2 := zF BK299.out 2
    have hfz20_3 := zF BK299.out 3
    go_wp2_with (first | ((with_reducible refine gate_callee (f := 26) rfl ?_); refine goesL_ (some 10) rfl rfl Tryd.func26 (by kernel_rfl) rfl #[.slice A0_0 l0_0.length c0_0, .slice A1_0 l1_0.length c1_0] rfl (by (try simp only [zm, zc, zn]); first | done | rfl | (simp only [zd, zt]; rfl)) ?_; (with_reducible refine (r14_SameConsts.calls k _ _ l0_0 _ _ l1_0 true _ ?side1 ?side2 ?side3 ?side4 A6.out).mono ?_); (case side1 => repeat (first | exact (zD HR0_0.out HB.out))); (case side2 => exact HC0_0.out); (case side3 => repeat (first | exact (zD HR1_0.out HB.out))); (case side4 => exact HC1_0.out); rintro e w' ⟨rfl, ⟨nd, rfl⟩⟩; refine ⟨_, rfl, ?_⟩) | (go_at_call 27; (with_reducible refine (r14_SameVars.calls k _ _ l0_1 _ _ l1_1 false _ ?side1 ?side2 ?side3 ?side4 A8.out).mono ?_); (case side1 => repeat (first | exact (zD HR0_1.out (by repeat (first | (with_reducible first | exact HB.out | apply zB | apply zN | apply below_drew1 | refine zE ?_ GE298.out | refine zE ?_ GE299.out) | exact HB.out))))); (case side2 => exact HC0_1.out); (case side3 => repeat (first | exact (zD HR1_1.out (by repeat (first | (with_reducible first | exact HB.out | apply zB | apply zN | apply below_drew1 | refine zE ?_ GE298.out | refine zE ?_ GE299.out) | exact HB.out))))); (case side4 => exact HC1_1.out); rintro e w' ⟨rfl, ⟨nd, rfl⟩⟩))
    go_meet
    case rel => exact ⟨_, (true), (by first | rfl | (simp; done) | (simp [*]; done)), H', ⟨by first | omega | exact z5 _⟩, ⟨by (with_reducible repeat (first | refine zG ?_ _ | refine zH ?_)); exact BK298.out⟩, ⟨by (with_reducible repeat (first | refine zG ?_ _ | refine zH ?_)); exact BK299.out⟩, ⟨by repeat (first | (with_reducible first | exact HB.out | apply zB | apply zN | apply below_drew1 | refine zE ?_ GE298.out | refine zE ?_ GE299.out) | exact HB.out)⟩⟩
  ·replace c7 := Bool.eq_false_iff.mpr c7
   subst c7
   have H1 : (r16_Same.j0 k true l0_0 l0_1 l0_2 l0_3 l1_0 l1_1 l1_2 l1_3) = some r := by rw [if_neg (show ¬ (false = true) by decide)] at H; exact H
   clear H
   have H := H1
   clear H1
   have H' := zA H
   clear H
   have hnb21 := NB298_299.out
   have hnc21 := NB299_298.out
   have hcz22_0 : w5.cell? ⟨gb298, 0, none⟩ = some (.slice A0_0 l0_0.length c0_0) := (zC BK298.out 0).trans rfl
   have hcz22_1 : w5.cell? ⟨gb298, 1, none⟩ = some (.slice A0_1 l0_1.length c0_1) := (zC BK298.out 1).trans rfl
   have hcz22_2 : w5.cell? ⟨gb298, 2, none⟩ = some (.slice A0_2 l0_2.length c0_2) := (zC BK298.out 2).trans rfl
   have hcz22_3 : w5.cell? ⟨gb298, 3, none⟩ = some (.slice A0_3 l0_3.length c0_3) := (zC BK298.out 3).trans rfl
   have hfz22_0 := zF BK298.out 0
   have hfz22_1 := zF BK298.out 1
   have hfz22_2 := zF BK298.out 2
   have hfz22_3 := zF BK298.out 3
   have hcz23_0 : w5.cell? ⟨gb299, 0, none⟩ = some (.slice A1_0 l1_0.length c1_0) := (zC BK299.out 0).trans rfl
   have hcz23_1 : w5.cell? ⟨gb299, 1, none⟩ = some (.slice A1_1 l1_1.length c1_1) := (zC BK299.out 1).trans rfl
   have hcz23_2 : w5.cell? ⟨gb299, 2, none⟩ = some (.slice A1_2 l1_2.length c1_2) := (zC BK299.out 2).trans rfl
   have hcz23_3 : w5.cell? ⟨gb299, 3, none⟩ = some (.slice A1_3 l1_3.length c1_3) := (zC BK299.out 3).trans rfl
   have hfz23_0 := zF BK299.out 0
   have hfz23_1 := zF BK299.out 1
   have hfz23_2 := zF BK299.out 2
   have hfz23_3 := zF BK299.out 3
   go_wp2_with (first | ((with_reducible refine gate_callee (f := 26) rfl ?_); refine goesL_ (some 10) rfl rfl Tryd.func26 (by kernel_rfl) rfl #[.slice A0_0 l0_0.length c0_0, .slice A1_0 l1_0.length c1_0] rfl (by (try simp only [zm, zc, zn]); first | done | rfl | (simp only [zd, zt]; rfl)) ?_; (with_reducible refine (r14_SameConsts.calls k _ _ l0_0 _ _ l1_0 false _ ?side1 ?side2 ?side3 ?side4 A6.out).mono ?_); (case side1 => repeat (first | exact (zD HR0_0.out HB.out))); (case side2 => exact HC0_0.out); (case side3 => repeat (first | exact (zD HR1_0.out HB.out))); (case side4 => exact HC1_0.out); rintro e w' ⟨rfl, ⟨nd, rfl⟩⟩; refine ⟨_, rfl, ?_⟩))
   go_meet
   case rel => exact ⟨_, (true), (by first | rfl | (simp; done) | (simp [*]; done)), H', ⟨by first | omega | exact z5 _⟩, ⟨by (with_reducible repeat (first | refine zG ?_ _ | refine zH ?_)); exact BK298.out⟩, ⟨by (with_reducible repeat (first | refine zG ?_ _ | refine zH ?_)); exact BK299.out⟩, ⟨by repeat (first | (with_reducible first | exact HB.out | apply zB | apply zN | apply below_drew1 | refine zE ?_ GE298.out | refine zE ?_ GE299.out) | exact HB.out)⟩⟩
 case rest =>
  clear HC3
  try clear c1
  try clear c2
  try clear p2
  try clear c7
  try clear c9
  try clear c11
  try clear c12
  try clear c15
  try clear c18
  try clear c21
  try clear hcz13_0
  try clear hcz13_1
  try clear hcz13_2
  try clear hcz13_3
  try clear hcz14_0
  try clear hcz14_1
  try clear hcz14_2
  try clear hcz14_3
  try clear hcz16_0
  try clear hcz16_1
  try clear hcz16_2
  try clear hcz16_3
  try clear hcz17_0
  try clear hcz17_1
  try clear hcz17_2
  try clear hcz17_3
  try clear hcz19_0
  try clear hcz19_1
  try clear hcz19_2
  try clear hcz19_3
  try clear hcz20_0
  try clear hcz20_1
  try clear hcz20_2
  try clear hcz20_3
  try clear hcz22_0
  try clear hcz22_1
  try clear hcz22_2
  try clear hcz22_3
  try clear hcz23_0
  try clear hcz23_1
  try clear hcz23_2
  try clear hcz23_3
  try clear hfz13_0
  try clear hfz13_1
  try clear hfz13_2
  try clear hfz13_3
  try clear hfz14_0
  try clear hfz14_1
  try clear hfz14_2
  try clear hfz14_3
  try clear hfz16_0
  try clear hfz16_1
  try clear hfz16_2
  try clear hfz16_3
  try clear hfz17_0
  try clear hfz17_1
  try clear hfz17_2
  try clear hfz17_3
  try clear hfz19_0
  try clear hfz19_1
  try clear hfz19_2
  try clear hfz19_3
  try clear hfz20_0
  try clear hfz20_1
  try clear hfz20_2
  try clear hfz20_3
  try clear hfz22_0
  try clear hfz22_1
  try clear hfz22_2
  try clear hfz22_3
  try clear hfz23_0
  try clear hfz23_1
  try clear hfz23_2
  try clear hfz23_3
  obtain ⟨kq, x36_2, rfl, HA, HJ2, BK298, BK299, HB⟩ := hcut
  cases kq with
  | zero => exact absurd HA.out (by simp [r16_Same.j0])
  | succ kj2 =>
   have H := HA.out
   clear HA
   simp only [r16_Same.j0] at H
   by_cases c24 : x36_2 = true
   ·subst c24
    have H1 : (some false) = some r := by rw [if_pos rfl] at H; exact H
    clear H
    have H := H1
    clear H1
    obtain rfl := zJ H
    go_wp2
    go_ret
    exact ⟨by first | rfl | (simp [errW_none, errW_some] <;> rfl) | (simp [*, errW_none, errW_some] <;> rfl), by repeat (first | (with_reducible first | exact HB.out | apply zB | apply zN | apply below_drew1 | refine zE ?_ GE298.out | refine zE ?_ GE299.out) | exact HB.out)⟩
   ·replace c24 := Bool.eq_false_iff.mpr c24
    subst c24
    have H1 : (r16_Same.l0 kj2 0 l0_0 l0_1 l0_2 l0_3 l1_0 l1_1 l1_2 l1_3) = some r := by rw [if_neg (show ¬ (false = true) by decide)] at H; exact H
    clear H
    have H := H1
    clear H1
    have H' := zA H
    clear H
    go_wp2
    go_loopg [5] kj2 (fun kq v5 w' => ∃ (x5_2 : Int), v5 = .int .i64 x5_2 ∧ Aside0 (r16_Same.l0 kq x5_2 l0_0 l0_1 l0_2 l0_3 l1_0 l1_1 l1_2 l1_3 = some r) ∧ Aside0 (kq ≤ kj2) ∧ Aside0 (w'.heap[gb298]? = some (.cells #[(.slice A0_0 l0_0.length c0_0), (.slice A0_1 l0_1.length c0_1), (.slice A0_2 l0_2.length c0_2), (.slice A0_3 l0_3.length c0_3)] 27 (0, 0))) ∧ Aside0 (w'.heap[gb299]? = some (.cells #[(.slice A1_0 l1_0.length c1_0), (.slice A1_1 l1_1.length c1_1), (.slice A1_2 l1_2.length c1_2), (.slice A1_3 l1_3.length c1_3)] 27 (0, 0))) ∧ Aside0 (Below w.heap.size w w'))
    case atStart => exact ⟨(0), (by first | rfl | (simp; done) | (simp [*]; done)), H', ⟨z5 _⟩, ⟨by (with_reducible repeat (first | refine zG ?_ _ | refine zH ?_)); exact BK298.out⟩, ⟨by (with_reducible repeat (first | refine zG ?_ _ | refine zH ?_)); exact BK299.out⟩, ⟨by repeat (first | (with_reducible first | exact HB.out | apply zB | apply zN | apply below_drew1 | refine zE ?_ GE298.out | refine zE ?_ GE299.out) | exact HB.out)⟩⟩
    case round =>
     clear H'
     try clear c1
     try clear c2
     try clear p2
     try clear c7
     try clear c9
     try clear c11
     try clear c12
     try clear c15
     try clear c18
     try clear c21
     try clear c24
     try clear hcz13_0
     try clear hcz13_1
     try clear hcz13_2
     try clear hcz13_3
     try clear hcz14_0
     try clear hcz14_1
     try clear hcz14_2
     try clear hcz14_3
     try clear hcz16_0
     try clear hcz16_1
     try clear hcz16_2
     try clear hcz16_3
     try clear hcz17_0
     try clear hcz17_1
     try clear hcz17_2
     try clear hcz17_3
     try clear hcz19_0
     try clear hcz19_1
     try clear hcz19_2
     try clear hcz19_3
     try clear hcz20_0
     try clear hcz20_1
     try clear hcz20_2
     try clear hcz20_3
     try clear hcz22_0
     try clear hcz22_1
     try clear hcz22_2
     try clear hcz22_3
     try clear hcz23_0
     try clear hcz23_1
     try clear hcz23_2
     try clear hcz23_3
     try clear hfz13_0
     try clear hfz13_1
     try clear hfz13_2
     try clear hfz13_3
     try clear hfz14_0
     try clear hfz14_1
     try clear hfz14_2
     try clear hfz14_3
     try clear hfz16_0
     try clear hfz16_1
     try clear hfz16_2
     try clear hfz16_3
     try clear hfz17_0
     try clear hfz17_1
     try clear hfz17_2
     try clear hfz17_3
     try clear hfz19_0
     try clear hfz19_1
     try clear hfz19_2
     try clear hfz19_3
     try clear hfz20_0
     try clear hfz20_1
     try clear hfz20_2
     try clear hfz20_3
     try clear hfz22_0
     try clear hfz22_1
     try clear hfz22_2
     try clear hfz22_3
     try clear hfz23_0
     try clear hfz23_1
     try clear hfz23_2
     try clear hfz23_3
     try clear p2
     obtain ⟨x5_2, rfl, HA, HK2, BK298, BK299, HB⟩ := hrel
     cases gk with
     | zero => exact absurd HA.out (by simp [r16_Same.l0])
     | succ k2 =>
      have H := HA.out
      clear HA
      simp only [r16_Same.l0] at H
      by_cases c25 : x5_2 < (l0_3.length : Int)
      ·rw [if_pos c25] at H
       have c25b0 : decide (x5_2 < (l0_3.length : Int)) = true := decide_eq_true c25
       clear c25
       by_cases c26 : 0 ≤ x5_2
       ·rw [if_pos c26] at H
        have c26b0 : decide (0 ≤ x5_2) = true := decide_eq_true c26
        clear c26
        by_cases c27 : x5_2 < (l1_3.length : Int)
        ·rw [if_pos c27] at H
         have c27b0 : decide (x5_2 < (l1_3.length : Int)) = true := decide_eq_true c27
         clear c27
         replace H := Option.bind_eq_some_iff.mp H
         obtain ⟨t305, A280, H⟩ := H
         replace H : (if t305 = true then (r16_Same.l0 k2 (wrap64 (x5_2 + 1)) l0_0 l0_1 l0_2 l0_3 l1_0 l1_1 l1_2 l1_3) else (some false)) = some r := H
         have A28 := zA A280
         clear A280
         by_cases c29 : t305 = true
         ·subst c29
          have H1 : (r16_Same.l0 k2 (wrap64 (x5_2 + 1)) l0_0 l0_1 l0_2 l0_3 l1_0 l1_1 l1_2 l1_3) = some r := by rw [if_pos rfl] at H; exact H
          clear H
          have H := H1
          clear H1
          have H' := zA H
          clear H
          have hnb30 := NB298_299.out
          have hnc30 := NB299_298.out
          have hcz31_0 : wr.cell? ⟨gb298, 0, none⟩ = some (.slice A0_0 l0_0.length c0_0) := (zC BK298.out 0).trans rfl
          have hcz31_1 : wr.cell? ⟨gb298, 1, none⟩ = some (.slice A0_1 l0_1.length c0_1) := (zC BK298.out 1).trans rfl
          have hcz31_2 : wr.cell? ⟨gb298, 2, none⟩ = some (.slice A0_2 l0_2.length c0_2) := (zC BK298.out 2).trans rfl
          have hcz31_3 : wr.cell? ⟨gb298, 3, none⟩ = some (.slice A0_3 l0_3.length c0_3) := (zC BK298.out 3).trans rfl
          have hfz31_0 := zF BK298.out 0
          have hfz31_1 := zF BK298.out 1
          have hfz31_2 := zF BK298.out 2
          have hfz31_3 := zF BK298.out 3
          try go_wp2
          replace BK298 := zA (zH BK298.out)
          replace BK299 := zA (zH BK299.out)
          replace HB := zA (below_drew1 HB.out)
          have p303 : 0 ≤ (x5_2 : Int) := zO (by first | (with_reducible assumption) | assumption)
          have q303 : x5_2 < (l0_3.length : Int) := zO (by first | (with_reducible assumption) | assumption)
          obtain ⟨ad303, A303_1, c303_1, A303_3, c303_3, A303_4, c303_4, e303, hx303_0, hx303_1, hx303_2, hx303_3, hx303_4, hl303_1, hi303_1, hl303_3, hi303_3, hl303_4, hi303_4⟩ := at_T48 HR0_3.out x5_2 p303 q303
          have hw303_4 := hx303_4
          have hw303_3 := hx303_3
          have hw303_2 := hx303_2
          have hw303_1 := hx303_1
          have hw303_0 := hx303_0
          cases e303
          replace hx303_0 := (HB.out.cell (zL w _ hx303_0)).trans hx303_0
          replace hx303_1 := (HB.out.cell (zL w _ hx303_1)).trans hx303_1
          replace hx303_2 := (HB.out.cell (zL w _ hx303_2)).trans hx303_2
          replace hx303_3 := (HB.out.cell (zL w _ hx303_3)).trans hx303_3
          replace hx303_4 := (HB.out.cell (zL w _ hx303_4)).trans hx303_4
          have HR303_1 := zA hi303_1
          have HC303_1 := zA hl303_1
          clear hi303_1 hl303_1
          have HR303_3 := zA hi303_3
          have HC303_3 := zA hl303_3
          clear hi303_3 hl303_3
          have HR303_4 := zA hi303_4
          have HC303_4 := zA hl303_4
          clear hi303_4 hl303_4
          replace p303 := eq_true p303
          replace q303 := eq_true q303
          have p304 : 0 ≤ (x5_2 : Int) := zO (by first | (with_reducible assumption) | assumption)
          have q304 : x5_2 < (l1_3.length : Int) := zO (by first | (with_reducible assumption) | assumption)
          obtain ⟨ad304, A304_1, c304_1, A304_3, c304_3, A304_4, c304_4, e304, hx304_0, hx304_1, hx304_2, hx304_3, hx304_4, hl304_1, hi304_1, hl304_3, hi304_3, hl304_4, hi304_4⟩ := at_T48 HR1_3.out x5_2 p304 q304
          have hw304_4 := hx304_4
          have hw304_3 := hx304_3
          have hw304_2 := hx304_2
          have hw304_1 := hx304_1
          have hw304_0 := hx304_0
          cases e304
          replace hx304_0 := (HB.out.cell (zL w _ hx304_0)).trans hx304_0
          replace hx304_1 := (HB.out.cell (zL w _ hx304_1)).trans hx304_1
          replace hx304_2 := (HB.out.cell (zL w _ hx304_2)).trans hx304_2
          replace hx304_3 := (HB.out.cell (zL w _ hx304_3)).trans hx304_3
          replace hx304_4 := (HB.out.cell (zL w _ hx304_4)).trans hx304_4
          have HR304_1 := zA hi304_1
          have HC304_1 := zA hl304_1
          clear hi304_1 hl304_1
          have HR304_3 := zA hi304_3
          have HC304_3 := zA hl304_3
          clear hi304_3 hl304_3
          have HR304_4 := zA hi304_4
          have HC304_4 := zA hl304_4
          clear hi304_4 hl304_4
          replace p304 := eq_true p304
          replace q304 := eq_true q304
          refine start_ (n := 12) (S := fun w' => w'.cell? ⟨gb298, 0, none⟩ = some (.slice A0_0 l0_0.length c0_0) ∧ w'.cell? ⟨gb298, 1, none⟩ = some (.slice A0_1 l0_1.length c0_1) ∧ w'.cell? ⟨gb298, 2, none⟩ = some (.slice A0_2 l0_2.length c0_2) ∧ w'.cell? ⟨gb298, 3, none⟩ = some (.slice (some ad303) l0_3.length c0_3) ∧ w'.cell? ⟨gb299, 0, none⟩ = some (.slice A1_0 l1_0.length c1_0) ∧ w'.cell? ⟨gb299, 1, none⟩ = some (.slice A1_1 l1_1.length c1_1) ∧ w'.cell? ⟨gb299, 2, none⟩ = some (.slice A1_2 l1_2.length c1_2) ∧ w'.cell? ⟨gb299, 3, none⟩ = some (.slice (some ad304) l1_3.length c1_3) ∧ w'.cell? (ad303.add ((x5_2).toNat * 5)) = some (.string ((rd_T48 l0_3 x5_2).f0)) ∧ w'.cell? ⟨(ad303.add ((x5_2).toNat * 5)).block, (ad303.add ((x5_2).toNat * 5)).off + 1, none⟩ = some (.slice A303_1 ((rd_T48 l0_3 x5_2).f1).length c303_1) ∧ w'.cell? ⟨(ad303.add ((x5_2).toNat * 5)).block, (ad303.add ((x5_2).toNat * 5)).off + 2, none⟩ = some (.int .i64 ((rd_T48 l0_3 x5_2).f2)) ∧ w'.cell? ⟨(ad303.add ((x5_2).toNat * 5)).block, (ad303.add ((x5_2).toNat * 5)).off + 3, none⟩ = some (.slice A303_3 ((rd_T48 l0_3 x5_2).f3).length c303_3) ∧ w'.cell? ⟨(ad303.add ((x5_2).toNat * 5)).block, (ad303.add ((x5_2).toNat * 5)).off + 4, none⟩ = some (.slice A303_4 ((rd_T48 l0_3 x5_2).f4).length c303_4) ∧ w'.cell? (ad304.add ((x5_2).toNat * 5)) = some (.string ((rd_T48 l1_3 x5_2).f0)) ∧ w'.cell? ⟨(ad304.add ((x5_2).toNat * 5)).block, (ad304.add ((x5_2).toNat * 5)).off + 1, none⟩ = some (.slice A304_1 ((rd_T48 l1_3 x5_2).f1).length c304_1) ∧ w'.cell? ⟨(ad304.add ((x5_2).toNat * 5)).block, (ad304.add ((x5_2).toNat * 5)).off + 2, none⟩ = some (.int .i64 ((rd_T48 l1_3 x5_2).f2)) ∧ w'.cell? ⟨(ad304.add ((x5_2).toNat * 5)).block, (ad304.add ((x5_2).toNat * 5)).off + 3, none⟩ = some (.slice A304_3 ((rd_T48 l1_3 x5_2).f3).length c304_3) ∧ w'.cell? ⟨(ad304.add ((x5_2).toNat * 5)).block, (ad304.add ((x5_2).toNat * 5)).off + 4, none⟩ = some (.slice A304_4 ((rd_T48 l1_3 x5_2).f4).length c304_4)) (ds := []) #[false, false, false, false, false, false, false, false, false, false, false, false] (by kernel_rfl) rfl rfl ⟨(zC BK298.out 0).trans rfl, (zC BK298.out 1).trans rfl, (zC BK298.out 2).trans rfl, (zC BK298.out 3).trans rfl, (zC BK299.out 0).trans rfl, (zC BK299.out 1).trans rfl, (zC BK299.out 2).trans rfl, (zC BK299.out 3).trans rfl, ((HB.out.cell (zL w _ hw303_0)).trans hw303_0), ((HB.out.cell (zL w _ hw303_1)).trans hw303_1), ((HB.out.cell (zL w _ hw303_2)).trans hw303_2), ((HB.out.cell (zL w _ hw303_3)).trans hw303_3), ((HB.out.cell (zL w _ hw303_4)).trans hw303_4), ((HB.out.cell (zL w _ hw304_0)).trans hw304_0), ((HB.out.cell (zL w _ hw304_1)).trans hw304_1), ((HB.out.cell (zL w _ hw304_2)).trans hw304_2), ((HB.out.cell (zL w _ hw304_3)).trans hw304_3), ((HB.out.cell (zL w _ hw304_4)).trans hw304_4)⟩ (fun hHeld => ?_); refine with_tabW r16_Same.tab6 r16_Same.bits6 (fun HT_ HW_ => ?_)
          generalize wr.drew = w32 at BK298 BK299 HB HR303_1 HR303_3 HR303_4 HR304_1 HR304_3 HR304_4 hx303_0 hx303_1 hx303_2 hx303_3 hx303_4 hx304_0 hx304_1 hx304_2 hx304_3 hx304_4 hHeld ⊢
          refine pure_ (i := 0) (N := some 44) (v := ?_) (a' := ?_) #[true, false, false, false, false, false, false, false, false, false, false, false] rfl rfl (any_of HT_.out (by kernel_rfl)) (fun _ _ _ h => h) (Or.inl ⟨by rfl, ?_⟩) ?_ ?_
          rotate_left
          ·intro w'
           go_simp
           with_reducible rfl
          rotate_left
          ·simp only [Act.put, zY, List.set_cons_zero, z2, i64_w, i32_w]
           rfl
          refine pure_ (i := 2) (N := some 46) (v := ?_) (a' := ?_) #[true, false, true, false, false, false, false, false, false, false, false, false] rfl rfl (any_of HT_.out (by kernel_rfl)) (fun _ _ _ h => h) (Or.inl ⟨by rfl, ?_⟩) ?_ ?_
          rotate_left
          ·intro w'
           go_simp
           with_reducible rfl
          rotate_left
          ·simp only [Act.put, zY, List.set_cons_zero, z2, i64_w, i32_w]
           rfl
          refine pure_ (i := 5) (N := some 49) (v := ?_) (a' := ?_) #[true, false, true, false, false, true, false, false, false, false, false, false] rfl rfl (any_of HT_.out (by kernel_rfl)) (fun _ _ _ h => h) (Or.inl ⟨by rfl, ?_⟩) ?_ ?_
          rotate_left
          ·intro w'
           go_simp
           with_reducible rfl
          rotate_left
          ·simp only [Act.put, zY, List.set_cons_zero, z2, i64_w, i32_w]
           rfl
          refine pure_ (i := 7) (N := some 51) (v := ?_) (a' := ?_) #[true, false, true, false, false, true, false, true, false, false, false, false] rfl rfl (any_of HT_.out (by kernel_rfl)) (fun _ _ _ h => h) (Or.inl ⟨by rfl, ?_⟩) ?_ ?_
          rotate_left
          ·intro w'
           go_simp
           with_reducible rfl
          rotate_left
          ·simp only [Act.put, zY, List.set_cons_zero, z2, i64_w, i32_w]
           rfl
          refine take_ (i := 1) (N := some 45) (v := ?_) (a' := ?_) #[true, true, true, false, false, true, false, true, false, false, false, false] rfl rfl (take_ofW HT_.out HW_.out (by kernel_rfl)) (fun _ _ _ h => h) (Or.inl ⟨by rfl, ?_⟩) hHeld ?_ ?_
          rotate_left
          ·rintro w' ⟨s0, s1, s2, s3, s4, s5, s6, s7, s8, s9, s10, s11, s12, s13, s14, s15, s16, s17⟩
           go_simp
           with_reducible rfl
          rotate_left
          ·simp only [Act.put, zY, List.set_cons_zero, z2, i64_w, i32_w]
           rfl
          refine pure_ (i := 3) (N := some 47) (v := ?_) (a' := ?_) #[true, true, true, true, false, true, false, true, false, false, false, false] rfl rfl (any_of HT_.out (by kernel_rfl)) (fun _ _ _ h => h) (Or.inl ⟨by rfl, ?_⟩) ?_ ?_
          rotate_left
          ·intro w'
           go_simp
           with_reducible rfl
          rotate_left
          ·simp only [Act.put, zY, List.set_cons_zero, z2, i64_w, i32_w]
           rfl
          refine take_ (i := 4) (N := some 48) (v := ?_) (a' := ?_) #[true, true, true, true, true, true, false, true, false, false, false, false] rfl rfl (take_ofW HT_.out HW_.out (by kernel_rfl)) (fun _ _ _ h => h) (Or.inl ⟨by rfl, ?_⟩) hHeld ?_ ?_
          rotate_left
          ·rintro w' ⟨s0, s1, s2, s3, s4, s5, s6, s7, s8, s9, s10, s11, s12, s13, s14, s15, s16, s17⟩
           go_simp
           with_reducible rfl
          rotate_left
          ·simp only [Act.put, zY, List.set_cons_zero, z2, i64_w, i32_w]
           rfl
          refine take_ (i := 6) (N := some 50) (v := ?_) (a' := ?_) #[true, true, true, true, true, true, true, true, false, false, false, false] rfl rfl (take_ofW HT_.out HW_.out (by kernel_rfl)) (fun _ _ _ h => h) (Or.inl ⟨by rfl, ?_⟩) hHeld ?_ ?_
          rotate_left
          ·rintro w' ⟨s0, s1, s2, s3, s4, s5, s6, s7, s8, s9, s10, s11, s12, s13, s14, s15, s16, s17⟩
           go_simp
           with_reducible rfl
          rotate_left
          ·simp only [Act.put, zY, List.set_cons_zero, z2, i64_w, i32_w]
           rfl
          refine pure_ (i := 8) (N := some 52) (v := ?_) (a' := ?_) #[true, true, true, true, true, true, true, true, true, false, false, false] rfl rfl (any_of HT_.out (by kernel_rfl)) (fun _ _ _ h => h) (Or.inl ⟨by rfl, ?_⟩) ?_ ?_
          rotate_left
          ·intro w'
           go_simp
           with_reducible rfl
          rotate_left
          ·simp only [Act.put, zY, List.set_cons_zero, z2, i64_w, i32_w]
           rfl
          refine take_ (i := 9) (N := some 53) (v := ?_) (a' := ?_) #[true, true, true, true, true, true, true, true, true, true, false, false] rfl rfl (take_ofW HT_.out HW_.out (by kernel_rfl)) (fun _ _ _ h => h) (Or.inl ⟨by rfl, ?_⟩) hHeld ?_ ?_
          rotate_left
          ·rintro w' ⟨s0, s1, s2, s3, s4, s5, s6, s7, s8, s9, s10, s11, s12, s13, s14, s15, s16, s17⟩
           go_simp
           with_reducible rfl
          rotate_left
          ·simp only [Act.put, zY, List.set_cons_zero, z2, i64_w, i32_w]
           rfl
          refine one_ (i := 10) (N := some 54) #[true, true, true, true, true, true, true, true, true, true, true, false] rfl rfl (one_of HT_.out (by kernel_rfl)) (by decide) (fun K hK => ?_)
          refine goes_ Tryd.func29 (by kernel_rfl) rfl #[.agg #[.string ((rd_T48 l0_3 x5_2).f0), .slice A303_1 ((rd_T48 l0_3 x5_2).f1).length c303_1, .int .i64 ((rd_T48 l0_3 x5_2).f2), .slice A303_3 ((rd_T48 l0_3 x5_2).f3).length c303_3, .slice A303_4 ((rd_T48 l0_3 x5_2).f4).length c303_4], .agg #[.string ((rd_T48 l1_3 x5_2).f0), .slice A304_1 ((rd_T48 l1_3 x5_2).f1).length c304_1, .int .i64 ((rd_T48 l1_3 x5_2).f2), .slice A304_3 ((rd_T48 l1_3 x5_2).f3).length c304_3, .slice A304_4 ((rd_T48 l1_3 x5_2).f4).length c304_4]] (by rfl) rfl rfl (by (try simp only [zm, zc, zn]); first | done | rfl | (simp only [zd, zt]; rfl)) ?_
          with_reducible refine (r15_Same.calls k2 ((rd_T48 l0_3 x5_2).f0) _ _ ((rd_T48 l0_3 x5_2).f1) ((rd_T48 l0_3 x5_2).f2) _ _ ((rd_T48 l0_3 x5_2).f3) _ _ ((rd_T48 l0_3 x5_2).f4) ((rd_T48 l1_3 x5_2).f0) _ _ ((rd_T48 l1_3 x5_2).f1) ((rd_T48 l1_3 x5_2).f2) _ _ ((rd_T48 l1_3 x5_2).f3) _ _ ((rd_T48 l1_3 x5_2).f4) true _ ?side1 ?side2 ?side3 ?side4 ?side5 ?side6 ?side7 ?side8 ?side9 ?side10 ?side11 ?side12 A28.out).mono ?_
          (case side1 => repeat (first | exact (zD HR303_1.out HB.out)))
          (case side2 => exact HC303_1.out)
          (case side3 => repeat (first | exact (zD HR303_3.out HB.out)))
          (case side4 => exact HC303_3.out)
          (case side5 => repeat (first | exact (zD HR303_4.out HB.out)))
          (case side6 => exact HC303_4.out)
          (case side7 => repeat (first | exact (zD HR304_1.out HB.out)))
          (case side8 => exact HC304_1.out)
          (case side9 => repeat (first | exact (zD HR304_3.out HB.out)))
          (case side10 => exact HC304_3.out)
          (case side11 => repeat (first | exact (zD HR304_4.out HB.out)))
          (case side12 => exact HC304_4.out)
          rintro e w33 ⟨rfl, hb⟩
          refine ⟨_, rfl, ?_⟩
          replace BK298 := zA (zQ (g := gb298) (o := .cells #[.slice A0_0 l0_0.length c0_0, .slice A0_1 l0_1.length c0_1, .slice A0_2 l0_2.length c0_2, .slice (some ad303) l0_3.length c0_3] 27 (0, 0)) (by (with_reducible repeat (first | refine zG ?_ _ | refine zH ?_)); exact BK298.out) hb)
          replace BK299 := zA (zQ (g := gb299) (o := .cells #[.slice A1_0 l1_0.length c1_0, .slice A1_1 l1_1.length c1_1, .slice A1_2 l1_2.length c1_2, .slice (some ad304) l1_3.length c1_3] 27 (0, 0)) (by (with_reducible repeat (first | refine zG ?_ _ | refine zH ?_)); exact BK299.out) hb)
          replace HB := zA (below_step (by repeat (first | (with_reducible first | exact HB.out | apply zB | apply zN | apply below_drew1 | refine zE ?_ GE298.out | refine zE ?_ GE299.out) | exact HB.out)) hb)
          (try clear hb)
          (try clear hb2)
          (try clear hk)
          (try clear hi)
          refine hK.out _ _ ⟨(zC BK298.out 0).trans rfl, (zC BK298.out 1).trans rfl, (zC BK298.out 2).trans rfl, (zC BK298.out 3).trans rfl, (zC BK299.out 0).trans rfl, (zC BK299.out 1).trans rfl, (zC BK299.out 2).trans rfl, (zC BK299.out 3).trans rfl, ((HB.out.cell (zL w _ hw303_0)).trans hw303_0), ((HB.out.cell (zL w _ hw303_1)).trans hw303_1), ((HB.out.cell (zL w _ hw303_2)).trans hw303_2), ((HB.out.cell (zL w _ hw303_3)).trans hw303_3), ((HB.out.cell (zL w _ hw303_4)).trans hw303_4), ((HB.out.cell (zL w _ hw304_0)).trans hw304_0), ((HB.out.cell (zL w _ hw304_1)).trans hw304_1), ((HB.out.cell (zL w _ hw304_2)).trans hw304_2), ((HB.out.cell (zL w _ hw304_3)).trans hw304_3), ((HB.out.cell (zL w _ hw304_4)).trans hw304_4)⟩ (fun hHeld => ?_)
          clear hK K
          refine norm_ (a' := ?_) ?_ ?_
          rotate_left
          ·show Act.put _ (some 54) _ = _
           simp only [Act.put, zY, List.set_cons_zero, z2, i64_w, i32_w]
           rfl
          refine pure_ (i := 11) (N := some 55) (v := ?_) (a' := ?_) #[true, true, true, true, true, true, true, true, true, true, true, true] rfl rfl (any_of HT_.out (by kernel_rfl)) (fun _ _ _ h => h) (Or.inl ⟨by rfl, ?_⟩) ?_ ?_
          rotate_left
          ·intro w'
           go_simp
           with_reducible rfl
          rotate_left
          ·simp only [Act.put, zY, List.set_cons_zero, z2, i64_w, i32_w]
           rfl
          refine done_ (done_of HT_.out (by kernel_rfl)) ?_
          try go_wp2
          go_roundg k2
          case measure => have := HJ2.out; have := HK2.out; omega
          case rel => exact ⟨(wrap64 (x5_2 + 1)), (by first | rfl | (simp; done) | (simp [*]; done)), H', ⟨by have := HJ2.out; have := HK2.out; omega⟩, ⟨by (with_reducible repeat (first | refine zG ?_ _ | refine zH ?_)); exact BK298.out⟩, ⟨by (with_reducible repeat (first | refine zG ?_ _ | refine zH ?_)); exact BK299.out⟩, ⟨by repeat (first | (with_reducible first | exact HB.out | apply zB | apply zN | apply below_drew1 | refine zE ?_ GE298.out | refine zE ?_ GE299.out) | exact HB.out)⟩⟩
         ·replace c29 := Bool.eq_false_iff.mpr c29
          subst c29
          have H1 : (some false) = some r := by rw [if_neg (show ¬ (false = true) by decide)] at H; exact H
          clear H
          have H := H1
          clear H1
          obtain rfl := zJ H
          have hnb34 := NB298_299.out
          have hnc34 := NB299_298.out
          have hcz35_0 : wr.cell? ⟨gb298, 0, none⟩ = some (.slice A0_0 l0_0.length c0_0) := (zC BK298.out 0).trans rfl
          have hcz35_1 : wr.cell? ⟨gb298, 1, none⟩ = some (.slice A0_1 l0_1.length c0_1) := (zC BK298.out 1).trans rfl
          have hcz35_2 : wr.cell? ⟨gb298, 2, none⟩ = some (.slice A0_2 l0_2.length c0_2) := (zC BK298.out 2).trans rfl
          have hcz35_3 : wr.cell? ⟨gb298, 3, none⟩ = some (.slice A0_3 l0_3.length c0_3) := (zC BK298.out 3).trans rfl
          have hfz35_0 := zF BK298.out 0
          have hfz35_1 := zF BK298.out 1
          have hfz35_2 := zF BK298.out 2
          have hfz35_3 := zF BK298.out 3
          try go_wp2
          replace BK298 := zA (zH BK298.out)
          replace BK299 := zA (zH BK299.out)
          replace HB := zA (below_drew1 HB.out)
          have p303 : 0 ≤ (x5_2 : Int) := zO (by first | (with_reducible assumption) | assumption)
          have q303 : x5_2 < (l0_3.length : Int) := zO (by first | (with_reducible assumption) | assumption)
          obtain ⟨ad303, A303_1, c303_1, A303_3, c303_3, A303_4, c303_4, e303, hx303_0, hx303_1, hx303_2, hx303_3, hx303_4, hl303_1, hi303_1, hl303_3, hi303_3, hl303_4, hi303_4⟩ := at_T48 HR0_3.out x5_2 p303 q303
          have hw303_4 := hx303_4
          have hw303_3 := hx303_3
          have hw303_2 := hx303_2
          have hw303_1 := hx303_1
          have hw303_0 := hx303_0
          cases e303
          replace hx303_0 := (HB.out.cell (zL w _ hx303_0)).trans hx303_0
          replace hx303_1 := (HB.out.cell (zL w _ hx303_1)).trans hx303_1
          replace hx303_2 := (HB.out.cell (zL w _ hx303_2)).trans hx303_2
          replace hx303_3 := (HB.out.cell (zL w _ hx303_3)).trans hx303_3
          replace hx303_4 := (HB.out.cell (zL w _ hx303_4)).trans hx303_4
          have HR303_1 := zA hi303_1
          have HC303_1 := zA hl303_1
          clear hi303_1 hl303_1
          have HR303_3 := zA hi303_3
          have HC303_3 := zA hl303_3
          clear hi303_3 hl303_3
          have HR303_4 := zA hi303_4
          have HC303_4 := zA hl303_4
          clear hi303_4 hl303_4
          replace p303 := eq_true p303
          replace q303 := eq_true q303
          have p304 : 0 ≤ (x5_2 : Int) := zO (by first | (with_reducible assumption) | assumption)
          have q304 : x5_2 < (l1_3.length : Int) := zO (by first | (with_reducible assumption) | assumption)
          obtain ⟨ad304, A304_1, c304_1, A304_3, c304_3, A304_4, c304_4, e304, hx304_0, hx304_1, hx304_2, hx304_3, hx304_4, hl304_1, hi304_1, hl304_3, hi304_3, hl304_4, hi304_4⟩ := at_T48 HR1_3.out x5_2 p304 q304
          have hw304_4 := hx304_4
          have hw304_3 := hx304_3
          have hw304_2 := hx304_2
          have hw304_1 := hx304_1
          have hw304_0 := hx304_0
          cases e304
          replace hx304_0 := (HB.out.cell (zL w _ hx304_0)).trans hx304_0
          replace hx304_1 := (HB.out.cell (zL w _ hx304_1)).trans hx304_1
          replace hx304_2 := (HB.out.cell (zL w _ hx304_2)).trans hx304_2
          replace hx304_3 := (HB.out.cell (zL w _ hx304_3)).trans hx304_3
          replace hx304_4 := (HB.out.cell (zL w _ hx304_4)).trans hx304_4
          have HR304_1 := zA hi304_1
          have HC304_1 := zA hl304_1
          clear hi304_1 hl304_1
          have HR304_3 := zA hi304_3
          have HC304_3 := zA hl304_3
          clear hi304_3 hl304_3
          have HR304_4 := zA hi304_4
          have HC304_4 := zA hl304_4
          clear hi304_4 hl304_4
          replace p304 := eq_true p304
          replace q304 := eq_true q304
          refine start_ (n := 12) (S := fun w' => w'.cell? ⟨gb298, 0, none⟩ = some (.slice A0_0 l0_0.length c0_0) ∧ w'.cell? ⟨gb298, 1, none⟩ = some (.slice A0_1 l0_1.length c0_1) ∧ w'.cell? ⟨gb298, 2, none⟩ = some (.slice A0_2 l0_2.length c0_2) ∧ w'.cell? ⟨gb298, 3, none⟩ = some (.slice (some ad303) l0_3.length c0_3) ∧ w'.cell? ⟨gb299, 0, none⟩ = some (.slice A1_0 l1_0.length c1_0) ∧ w'.cell? ⟨gb299, 1, none⟩ = some (.slice A1_1 l1_1.length c1_1) ∧ w'.cell? ⟨gb299, 2, none⟩ = some (.slice A1_2 l1_2.length c1_2) ∧ w'.cell? ⟨gb299, 3, none⟩ = some (.slice (some ad304) l1_3.length c1_3) ∧ w'.cell? (ad303.add ((x5_2).toNat * 5)) = some (.string ((rd_T48 l0_3 x5_2).f0)) ∧ w'.cell? ⟨(ad303.add ((x5_2).toNat * 5)).block, (ad303.add ((x5_2).toNat * 5)).off + 1, none⟩ = some (.slice A303_1 ((rd_T48 l0_3 x5_2).f1).length c303_1) ∧ w'.cell? ⟨(ad303.add ((x5_2).toNat * 5)).block, (ad303.add ((x5_2).toNat * 5)).off + 2, none⟩ = some (.int .i64 ((rd_T48 l0_3 x5_2).f2)) ∧ w'.cell? ⟨(ad303.add ((x5_2).toNat * 5)).block, (ad303.add ((x5_2).toNat * 5)).off + 3, none⟩ = some (.slice A303_3 ((rd_T48 l0_3 x5_2).f3).length c303_3) ∧ w'.cell? ⟨(ad303.add ((x5_2).toNat * 5)).block, (ad303.add ((x5_2).toNat * 5)).off + 4, none⟩ = some (.slice A303_4 ((rd_T48 l0_3 x5_2).f4).length c303_4) ∧ w'.cell? (ad304.add ((x5_2).toNat * 5)) = some (.string ((rd_T48 l1_3 x5_2).f0)) ∧ w'.cell? ⟨(ad304.add ((x5_2).toNat * 5)).block, (ad304.add ((x5_2).toNat * 5)).off + 1, none⟩ = some (.slice A304_1 ((rd_T48 l1_3 x5_2).f1).length c304_1) ∧ w'.cell? ⟨(ad304.add ((x5_2).toNat * 5)).block, (ad304.add ((x5_2).toNat * 5)).off + 2, none⟩ = some (.int .i64 ((rd_T48 l1_3 x5_2).f2)) ∧ w'.cell? ⟨(ad304.add ((x5_2).toNat * 5)).block, (ad304.add ((x5_2).toNat * 5)).off + 3, none⟩ = some (.slice A304_3 ((rd_T48 l1_3 x5_2).f3).length c304_3) ∧ w'.cell? ⟨(ad304.add ((x5_2).toNat * 5)).block, (ad304.add ((x5_2).toNat * 5)).off + 4, none⟩ = some (.slice A304_4 ((rd_T48 l1_3 x5_2).f4).length c304_4)) (ds := []) #[false, false, false, false, false, false, false, false, false, false, false, false] (by kernel_rfl) rfl rfl ⟨(zC BK298.out 0).trans rfl, (zC BK298.out 1).trans rfl, (zC BK298.out 2).trans rfl, (zC BK298.out 3).trans rfl, (zC BK299.out 0).trans rfl, (zC BK299.out 1).trans rfl, (zC BK299.out 2).trans rfl, (zC BK299.out 3).trans rfl, ((HB.out.cell (zL w _ hw303_0)).trans hw303_0), ((HB.out.cell (zL w _ hw303_1)).trans hw303_1), ((HB.out.cell (zL w _ hw303_2)).trans hw303_2), ((HB.out.cell (zL w _ hw303_3)).trans hw303_3), ((HB.out.cell (zL w _ hw303_4)).trans hw303_4), ((HB.out.cell (zL w _ hw304_0)).trans hw304_0), ((HB.out.cell (zL w _ hw304_1)).trans hw304_1), ((HB.out.cell (zL w _ hw304_2)).trans hw304_2), ((HB.out.cell (zL w _ hw304_3)).trans hw304_3), ((HB.out.cell (zL w _ hw304_4)).trans hw304_4)⟩ (fun hHeld => ?_); refine with_tabW r16_Same.tab6 r16_Same.bits6 (fun HT_ HW_ => ?_)
          generalize wr.drew = w36 at BK298 BK299 HB HR303_1 HR303_3 HR303_4 HR304_1 HR304_3 HR304_4 hx303_0 hx303_1 hx303_2 hx303_3 hx303_4 hx304_0 hx304_1 hx304_2 hx304_3 hx304_4 hHeld ⊢
          refine pure_ (i := 0) (N := some 44) (v := ?_) (a' := ?_) #[true, false, false, false, false, false, false, false, false, false, false, false] rfl rfl (any_of HT_.out (by kernel_rfl)) (fun _ _ _ h => h) (Or.inl ⟨by rfl, ?_⟩) ?_ ?_
          rotate_left
          ·intro w'
           go_simp
           with_reducible rfl
          rotate_left
          ·simp only [Act.put, zY, List.set_cons_zero, z2, i64_w, i32_w]
           rfl
          refine pure_ (i := 2) (N := some 46) (v := ?_) (a' := ?_) #[true, false, true, false, false, false, false, false, false, false, false, false] rfl rfl (any_of HT_.out (by kernel_rfl)) (fun _ _ _ h => h) (Or.inl ⟨by rfl, ?_⟩) ?_ ?_
          rotate_left
          ·intro w'
           go_simp
           with_reducible rfl
          rotate_left
          ·simp only [Act.put, zY, List.set_cons_zero, z2, i64_w, i32_w]
           rfl
          refine pure_ (i := 5) (N := some 49) (v := ?_) (a' := ?_) #[true, false, true, false, false, true, false, false, false, false, false, false] rfl rfl (any_of HT_.out (by kernel_rfl)) (fun _ _ _ h => h) (Or.inl ⟨by rfl, ?_⟩) ?_ ?_
          rotate_left
          ·intro w'
           go_simp
           with_reducible rfl
          rotate_left
          ·simp only [Act.put, zY, List.set_cons_zero, z2, i64_w, i32_w]
           rfl
          refine pure_ (i := 7) (N := some 51) (v := ?_) (a' := ?_) #[true, false, true, false, false, true, false, true, false, false, false, false] rfl rfl (any_of HT_.out (by kernel_rfl)) (fun _ _ _ h => h) (Or.inl ⟨by rfl, ?_⟩) ?_ ?_
          rotate_left
          ·intro w'
           go_simp
           with_reducible rfl
          rotate_left
          ·simp only [Act.put, zY, List.set_cons_zero, z2, i64_w, i32_w]
           rfl
          refine take_ (i := 1) (N := some 45) (v := ?_) (a' := ?_) #[true, true, true, false, false, true, false, true, false, false, false, false] rfl rfl (take_ofW HT_.out HW_.out (by kernel_rfl)) (fun _ _ _ h => h) (Or.inl ⟨by rfl, ?_⟩) hHeld ?_ ?_
          rotate_left
          ·rintro w' ⟨s0, s1, s2, s3, s4, s5, s6, s7, s8, s9, s10, s11, s12, s13, s14, s15, s16, s17⟩
           go_simp
           with_reducible rfl
          rotate_left
          ·simp only [Act.put, zY, List.set_cons_zero, z2, i64_w, i32_w]
           rfl
          refine pure_ (i := 3) (N := some 47) (v := ?_) (a' := ?_) #[true, true, true, true, false, true, false, true, false, false, false, false] rfl rfl (any_of HT_.out (by kernel_rfl)) (fun _ _ _ h => h) (Or.inl ⟨by rfl, ?_⟩) ?_ ?_
          rotate_left
          ·intro w'
           go_simp
           with_reducible rfl
          rotate_left
          ·simp only [Act.put, zY, List.set_cons_zero, z2, i64_w, i32_w]
           rfl
          refine take_ (i := 4) (N := some 48) (v := ?_) (a' := ?_) #[true, true, true, true, true, true, false, true, false, false, false, false] rfl rfl (take_ofW HT_.out HW_.out (by kernel_rfl)) (fun _ _ _ h => h) (Or.inl ⟨by rfl, ?_⟩) hHeld ?_ ?_
          rotate_left
          ·rintro w' ⟨s0, s1, s2, s3, s4, s5, s6, s7, s8, s9, s10, s11, s12, s13, s14, s15, s16, s17⟩
           go_simp
           with_reducible rfl
          rotate_left
          ·simp only [Act.put, zY, List.set_cons_zero, z2, i64_w, i32_w]
           rfl
          refine take_ (i := 6) (N := some 50) (v := ?_) (a' := ?_) #[true, true, true, true, true, true, true, true, false, false, false, false] rfl rfl (take_ofW HT_.out HW_.out (by kernel_rfl)) (fun _ _ _ h => h) (Or.inl ⟨by rfl, ?_⟩) hHeld ?_ ?_
          rotate_left
          ·rintro w' ⟨s0, s1, s2, s3, s4, s5, s6, s7, s8, s9, s10, s11, s12, s13, s14, s15, s16, s17⟩
           go_simp
           with_reducible rfl
          rotate_left
          ·simp only [Act.put, zY, List.set_cons_zero, z2, i64_w, i32_w]
           rfl
          refine pure_ (i := 8) (N := some 52) (v := ?_) (a' := ?_) #[true, true, true, true, true, true, true, true, true, false, false, false] rfl rfl (any_of HT_.out (by kernel_rfl)) (fun _ _ _ h => h) (Or.inl ⟨by rfl, ?_⟩) ?_ ?_
          rotate_left
          ·intro w'
           go_simp
           with_reducible rfl
          rotate_left
          ·simp only [Act.put, zY, List.set_cons_zero, z2, i64_w, i32_w]
           rfl
          refine take_ (i := 9) (N := some 53) (v := ?_) (a' := ?_) #[true, true, true, true, true, true, true, true, true, true, false, false] rfl rfl (take_ofW HT_.out HW_.out (by kernel_rfl)) (fun _ _ _ h => h) (Or.inl ⟨by rfl, ?_⟩) hHeld ?_ ?_
          rotate_left
          ·rintro w' ⟨s0, s1, s2, s3, s4, s5, s6, s7, s8, s9, s10, s11, s12, s13, s14, s15, s16, s17⟩
           go_simp
           with_reducible rfl
          rotate_left
          ·simp only [Act.put, zY, List.set_cons_zero, z2, i64_w, i32_w]
           rfl
          refine one_ (i := 10) (N := some 54) #[true, true, true, true, true, true, true, true, true, true, true, false] rfl rfl (one_of HT_.out (by kernel_rfl)) (by decide) (fun K hK => ?_)
          refine goes_ Tryd.func29 (by kernel_rfl) rfl #[.agg #[.string ((rd_T48 l0_3 x5_2).f0), .slice A303_1 ((rd_T48 l0_3 x5_2).f1).length c303_1, .int .i64 ((rd_T48 l0_3 x5_2).f2), .slice A303_3 ((rd_T48 l0_3 x5_2).f3).length c303_3, .slice A303_4 ((rd_T48 l0_3 x5_2).f4).length c303_4], .agg #[.string ((rd_T48 l1_3 x5_2).f0), .slice A304_1 ((rd_T48 l1_3 x5_2).f1).length c304_1, .int .i64 ((rd_T48 l1_3 x5_2).f2), .slice A304_3 ((rd_T48 l1_3 x5_2).f3).length c304_3, .slice A304_4 ((rd_T48 l1_3 x5_2).f4).length c304_4]] (by rfl) rfl rfl (by (try simp only [zm, zc, zn]); first | done | rfl | (simp only [zd, zt]; rfl)) ?_
          with_reducible refine (r15_Same.calls k2 ((rd_T48 l0_3 x5_2).f0) _ _ ((rd_T48 l0_3 x5_2).f1) ((rd_T48 l0_3 x5_2).f2) _ _ ((rd_T48 l0_3 x5_2).f3) _ _ ((rd_T48 l0_3 x5_2).f4) ((rd_T48 l1_3 x5_2).f0) _ _ ((rd_T48 l1_3 x5_2).f1) ((rd_T48 l1_3 x5_2).f2) _ _ ((rd_T48 l1_3 x5_2).f3) _ _ ((rd_T48 l1_3 x5_2).f4) false _ ?side1 ?side2 ?side3 ?side4 ?side5 ?side6 ?side7 ?side8 ?side9 ?side10 ?side11 ?side12 A28.out).mono ?_
          (case side1 => repeat (first | exact (zD HR303_1.out HB.out)))
          (case side2 => exact HC303_1.out)
          (case side3 => repeat (first | exact (zD HR303_3.out HB.out)))
          (case side4 => exact HC303_3.out)
          (case side5 => repeat (first | exact (zD HR303_4.out HB.out)))
          (case side6 => exact HC303_4.out)
          (case side7 => repeat (first | exact (zD HR304_1.out HB.out)))
          (case side8 => exact HC304_1.out)
          (case side9 => repeat (first | exact (zD HR304_3.out HB.out)))
          (case side10 => exact HC304_3.out)
          (case side11 => repeat (first | exact (zD HR304_4.out HB.out)))
          (case side12 => exact HC304_4.out)
          rintro e w37 ⟨rfl, hb⟩
          refine ⟨_, rfl, ?_⟩
          replace BK298 := zA (zQ (g := gb298) (o := .cells #[.slice A0_0 l0_0.length c0_0, .slice A0_1 l0_1.length c0_1, .slice A0_2 l0_2.length c0_2, .slice (some ad303) l0_3.length c0_3] 27 (0, 0)) (by (with_reducible repeat (first | refine zG ?_ _ | refine zH ?_)); exact BK298.out) hb)
          replace BK299 := zA (zQ (g := gb299) (o := .cells #[.slice A1_0 l1_0.length c1_0, .slice A1_1 l1_1.length c1_1, .slice A1_2 l1_2.length c1_2, .slice (some ad304) l1_3.length c1_3] 27 (0, 0)) (by (with_reducible repeat (first | refine zG ?_ _ | refine zH ?_)); exact BK299.out) hb)
          replace HB := zA (below_step (by repeat (first | (with_reducible first | exact HB.out | apply zB | apply zN | apply below_drew1 | refine zE ?_ GE298.out | refine zE ?_ GE299.out) | exact HB.out)) hb)
          (try clear hb)
          (try clear hb2)
          (try clear hk)
          (try clear hi)
          refine hK.out _ _ ⟨(zC BK298.out 0).trans rfl, (zC BK298.out 1).trans rfl, (zC BK298.out 2).trans rfl, (zC BK298.out 3).trans rfl, (zC BK299.out 0).trans rfl, (zC BK299.out 1).trans rfl, (zC BK299.out 2).trans rfl, (zC BK299.out 3).trans rfl, ((HB.out.cell (zL w _ hw303_0)).trans hw303_0), ((HB.out.cell (zL w _ hw303_1)).trans hw303_1), ((HB.out.cell (zL w _ hw303_2)).trans hw303_2), ((HB.out.cell (zL w _ hw303_3)).trans hw303_3), ((HB.out.cell (zL w _ hw303_4)).trans hw303_4), ((HB.out.cell (zL w _ hw304_0)).trans hw304_0), ((HB.out.cell (zL w _ hw304_1)).trans hw304_1), ((HB.out.cell (zL w _ hw304_2)).trans hw304_2), ((HB.out.cell (zL w _ hw304_3)).trans hw304_3), ((HB.out.cell (zL w _ hw304_4)).trans hw304_4)⟩ (fun hHeld => ?_)
          clear hK K
          refine norm_ (a' := ?_) ?_ ?_
          rotate_left
          ·show Act.put _ (some 54) _ = _
           simp only [Act.put, zY, List.set_cons_zero, z2, i64_w, i32_w]
           rfl
          refine pure_ (i := 11) (N := some 55) (v := ?_) (a' := ?_) #[true, true, true, true, true, true, true, true, true, true, true, true] rfl rfl (any_of HT_.out (by kernel_rfl)) (fun _ _ _ h => h) (Or.inl ⟨by rfl, ?_⟩) ?_ ?_
          rotate_left
          ·intro w'
           go_simp
           with_reducible rfl
          rotate_left
          ·simp only [Act.put, zY, List.set_cons_zero, z2, i64_w, i32_w]
           rfl
          refine done_ (done_of HT_.out (by kernel_rfl)) ?_
          try go_wp2
          go_ret
          exact ⟨by first | rfl | (simp [errW_none, errW_some] <;> rfl) | (simp [*, errW_none, errW_some] <;> rfl), by repeat (first | (with_reducible first | exact HB.out | apply zB | apply zN | apply below_drew1 | refine zE ?_ GE298.out | refine zE ?_ GE299.out) | exact HB.out)⟩
        ·rw [if_neg c27] at H
         exact absurd H (by simp)
       ·rw [if_neg c26] at H
        exact absurd H (by simp)
      ·rw [if_neg c25] at H
       have c25b0 : decide (x5_2 < (l0_3.length : Int)) = false := decide_eq_false c25
       clear c25
       obtain rfl := zJ H
       have hnb38 := NB298_299.out
       have hnc38 := NB299_298.out
       have hcz39_0 : wr.cell? ⟨gb298, 0, none⟩ = some (.slice A0_0 l0_0.length c0_0) := (zC BK298.out 0).trans rfl
       have hcz39_1 : wr.cell? ⟨gb298, 1, none⟩ = some (.slice A0_1 l0_1.length c0_1) := (zC BK298.out 1).trans rfl
       have hcz39_2 : wr.cell? ⟨gb298, 2, none⟩ = some (.slice A0_2 l0_2.length c0_2) := (zC BK298.out 2).trans rfl
       have hcz39_3 : wr.cell? ⟨gb298, 3, none⟩ = some (.slice A0_3 l0_3.length c0_3) := (zC BK298.out 3).trans rfl
       have hfz39_0 := zF BK298.out 0
       have hfz39_1 := zF BK298.out 1
       have hfz39_2 := zF BK298.out 2
       have hfz39_3 := zF BK298.out 3
       go_wp2
       go_ret
       exact ⟨by first | rfl | (simp [errW_none, errW_some] <;> rfl) | (simp [*, errW_none, errW_some] <;> rfl), by repeat (first | (with_reducible first | exact HB.out | apply zB | apply zN | apply below_drew1 | refine zE ?_ GE298.out | refine zE ?_ GE299.out) | exact HB.out)⟩

end Go.Proofs.YtdbfgfgbjheibaaDoor.PBx
end

section
/- Printed by a program of this session (wip/pg.py, over the print of the kit): functions, their Lean twins, and the proofs that the calls come to them; each under the conditions that it names. -/
namespace Go.Proofs.YtdbfgfgbjheibaaDoor.PBx
open Go.RowKit Go.Proofs.YtdbfgfgbjheibaaDoorW.PrintWords Go.Proofs.YtdbfgfgbjheibaaDoorW.PrintLast Go.Proofs.YtdbfgfgbjheibaaDoorW.PrintMore
attribute [local go_sem] max2_int min2_int max_two min_two max_three min_three max_four min_four   -- for this text's walks alone
set_option linter.unusedVariables false
set_option linter.unusedSimpArgs false

/-! ### r03_held: function 73 -/
def r03_held.f (a0 : Int) : Option (Int) := if a0 < 0 then (some 0) else (if a0 > 8 then (some 8) else (some a0))
/-! ### r03_Put: function 34 -/
def r03_Put.l0 : Nat → Int → List Int → Int → Int → Option (List Int)
 | 0, _, _, _, _ => none
 | k + 1, x1, x7, x8, x9 => (r03_held.f x1).bind fun t312 => (if x9 < t312 then (if x7.length < 140737488355328 then (r03_Put.l0 k x1 (x7 ++ [(Int.tmod x8 256) % 256]) (IntKind.u64.wrap (Int.tdiv x8 256)) (wrap64 (x9 + 1))) else (none)) else (some x7))
def r03_Put.f (k : Nat) (l0 : List Int) (a1 : Int) (a2 : Int) : Option (List Int) := (some (([] : List Int) : List Int)).bind fun y306 => (if y306.length + l0.length < 140737488355328 then (r03_Put.l0 k a1 (y306 ++ l0) (IntKind.u64.wrap (a2)) 0) else (none))
/-! ### r14_small: function 69 -/
def r14_small.f (a0 : Int) : Option (Bool) := if a0 ≥ 0 then (some (decide (a0 < 256))) else (some false)
/-! ### r14_Consts: function 30 -/
def r14_Consts.l0 : Nat → List (S68) → List Int → Int → Option (List Int × Bool)
 | 0, _, _, _ => none
 | k + 1, x0, x4, x5 => if x5 < (x0.length : Int) then (if 0 ≤ x5 then ((r14_small.f ((rd_T68 x0 x5).f0)).bind fun t320 => (if t320 = true then ((r03_Put.f k x4 1 ((rd_T68 x0 x5).f0)).bind fun t322 => ((r03_Put.f k t322 8 ((rd_T68 x0 x5).f1)).bind fun t326 => (r14_Consts.l0 k x0 t326 (wrap64 (x5 + 1))))) else (some (([] : List Int), false)))) else (none)) else (some (x4, true))
def r14_Consts.f (k : Nat) (l0 : List (S68)) : Option (List Int × Bool) := if (l0.length : Int) > 1024 then (some (([] : List Int), false)) else ((r03_Put.f k ([] : List Int) 2 (l0.length : Int)).bind fun t316 => (r14_Consts.l0 k l0 t316 0))
/-! ### r03_Text: function 70 -/
mutual
def r03_Text.j0 : Nat → List Int → ByteArray → Option (List Int)
 | 0, _, _ => none
 | k + 1, x0, x1 => (some (([] : List Int) : List Int)).bind fun y329 => (if y329.length + x0.length < 140737488355328 then ((some (y329 ++ x0 : List Int)).bind fun y332 => (if y332.length < 140737488355328 then (r03_Text.l0 k x1 (y332 ++ [((x1.size : Int)) % 256]) 0) else (none))) else (none))
def r03_Text.l0 : Nat → ByteArray → List Int → Int → Option (List Int)
 | 0, _, _, _ => none
 | k + 1, x1, x5, x6 => if x6 < (x1.size : Int) then (if 0 ≤ x6 then (if x5.length < 140737488355328 then (r03_Text.l0 k x1 (x5 ++ [bt x1 x6]) (wrap64 (x6 + 1))) else (none)) else (none)) else (some x5)
end
def r03_Text.f (k : Nat) (l0 : List Int) (a1 : ByteArray) : Option (List Int) := if (a1.size : Int) > 255 then (if 0 ≤ 255 then (if 255 ≤ (a1.size : Int) then (r03_Text.j0 k l0 (a1.extract 0 255)) else (none)) else (none)) else (r03_Text.j0 k l0 a1)
end Go.Proofs.YtdbfgfgbjheibaaDoor.PBx
end

section
/- Printed by a program of this session (wip/pg.py, over the print of the kit): functions, their Lean twins, and the proofs that the calls come to them; each under the conditions that it names. -/
namespace Go.Proofs.YtdbfgfgbjheibaaDoor.PBx
open Go.RowKit Go.Proofs.YtdbfgfgbjheibaaDoorW.PrintWords Go.Proofs.YtdbfgfgbjheibaaDoorW.PrintLast Go.Proofs.YtdbfgfgbjheibaaDoorW.PrintMore
attribute [local go_sem] max2_int min2_int max_two min_two max_three min_three max_four min_four   -- for this text's walks alone
set_option linter.unusedVariables false
set_option linter.unusedSimpArgs false

/-! ### r14_Vars: function 31 -/
mutual
def r14_Vars.l0 : Nat → List (S41) → List Int → Int → Option (List Int × Bool)
 | 0, _, _, _ => none
 | k + 1, x0, x4, x5 => if x5 < (x0.length : Int) then (if 0 ≤ x5 then (if (((rd_T41 x0 x5).f0).size : Int) > 255 then (r14_Vars.j1 k x0 x4 x5 true ((rd_T41 x0 x5).f0) ((rd_T41 x0 x5).f1) ((rd_T41 x0 x5).f2) ((rd_T41 x0 x5).f3) ((rd_T41 x0 x5).f4)) else ((r14_small.f ((rd_T41 x0 x5).f1)).bind fun t346 => (if t346 = true then ((r14_small.f ((rd_T41 x0 x5).f2)).bind fun t347 => (if t347 = true then ((r14_small.f ((rd_T41 x0 x5).f3)).bind fun t348 => (r14_Vars.j1 k x0 x4 x5 (!t348) ((rd_T41 x0 x5).f0) ((rd_T41 x0 x5).f1) ((rd_T41 x0 x5).f2) ((rd_T41 x0 x5).f3) ((rd_T41 x0 x5).f4))) else (r14_Vars.j1 k x0 x4 x5 true ((rd_T41 x0 x5).f0) ((rd_T41 x0 x5).f1) ((rd_T41 x0 x5).f2) ((rd_T41 x0 x5).f3) ((rd_T41 x0 x5).f4)))) else (r14_Vars.j1 k x0 x4 x5 true ((rd_T41 x0 x5).f0) ((rd_T41 x0 x5).f1) ((rd_T41 x0 x5).f2) ((rd_T41 x0 x5).f3) ((rd_T41 x0 x5).f4))))) else (none)) else (some (x4, true))
def r14_Vars.j1 : Nat → List (S41) → List Int → Int → Bool → ByteArray → Int → Int → Int → Int → Option (List Int × Bool)
 | 0, _, _, _, _, _, _, _, _, _ => none
 | k + 1, x0, x4, x5, x44, x346000, x346001, x346002, x346003, x346004 => if x44 = true then (some (([] : List Int), false)) else ((r03_Text.f k x4 x346000).bind fun t349 => ((some (([(x346001) % 256, (x346002) % 256, (x346003) % 256] : List Int) : List Int)).bind fun y352 => (if t349.length + y352.length < 140737488355328 then ((r03_Put.f k (t349 ++ y352) 8 x346004).bind fun t358 => (r14_Vars.l0 k x0 t358 (wrap64 (x5 + 1)))) else (none))))
end
def r14_Vars.f (k : Nat) (l0 : List (S41)) : Option (List Int × Bool) := if (l0.length : Int) > 64 then (some (([] : List Int), false)) else ((r03_Put.f k ([] : List Int) 2 (l0.length : Int)).bind fun t341 => (r14_Vars.l0 k l0 t341 0))
end Go.Proofs.YtdbfgfgbjheibaaDoor.PBx
end

section
/- Printed by a program of this session (wip/pg.py, over the print of the kit): functions, their Lean twins, and the proofs that the calls come to them; each under the conditions that it names. -/
namespace Go.Proofs.YtdbfgfgbjheibaaDoor.PBx
open Go.RowKit Go.Proofs.YtdbfgfgbjheibaaDoorW.PrintWords Go.Proofs.YtdbfgfgbjheibaaDoorW.PrintLast Go.Proofs.YtdbfgfgbjheibaaDoorW.PrintMore
attribute [local go_sem] max2_int min2_int max_two min_two max_three min_three max_four min_four   -- for this text's walks alone
set_option linter.unusedVariables false
set_option linter.unusedSimpArgs false

/-! ### r14_Blocks: function 32 -/
def r14_Blocks.l0 : Nat → List (S43) → List Int → Int → Option (List Int × Bool)
 | 0, _, _, _ => none
 | k + 1, x0, x4, x5 => if x5 < (x0.length : Int) then (if 0 ≤ x5 then (if (((rd_T43 x0 x5).f0).size : Int) > 255 then (some (([] : List Int), false)) else ((r14_small.f ((rd_T43 x0 x5).f1)).bind fun t366 => (if t366 = true then ((r03_Text.f k x4 ((rd_T43 x0 x5).f0)).bind fun t368 => ((some (([((rd_T43 x0 x5).f1) % 256] : List Int) : List Int)).bind fun y372 => (if t368.length + y372.length < 140737488355328 then (r14_Blocks.l0 k x0 (t368 ++ y372) (wrap64 (x5 + 1))) else (none)))) else (some (([] : List Int), false))))) else (none)) else (some (x4, true))
def r14_Blocks.f (k : Nat) (l0 : List (S43)) : Option (List Int × Bool) := if (l0.length : Int) > 32 then (some (([] : List Int), false)) else ((r03_Put.f k ([] : List Int) 2 (l0.length : Int)).bind fun t361 => (r14_Blocks.l0 k l0 t361 0))
/-! ### r12_Shape: function 111 -/
mutual
def r12_Shape.j0 : Nat → Int → Bool → Option (Int × Int)
 | 0, _, _ => none
 | k + 1, x0, x10 => if x10 = true then (some (0, 0)) else ((some (([10, 1, 2, 2, 3, 3, 2, 2] : List Int) : List Int)).bind fun y378 => (if x0 < 8 then (if x0 = 0 then (some (10, 10)) else (if 0 ≤ x0 then (if x0 < (y378.length : Int) then (some (rd y378 x0, 0)) else (none)) else (none))) else (if x0 < 26 then (some (4, 0)) else (if x0 = 26 then (some (4, 4)) else (if x0 < 30 then (r12_Shape.j1 k x0 true) else (r12_Shape.j1 k x0 (x0 == 34)))))))
def r12_Shape.j1 : Nat → Int → Bool → Option (Int × Int)
 | 0, _, _ => none
 | k + 1, x0, x29 => if x29 = true then (some (0, 0)) else (if x0 < 32 then (some (5, 10)) else (if x0 = 32 then (some (6, 10)) else (if x0 = 33 then (some (7, 0)) else (if x0 = 36 then (some (8, 0)) else (some (8, 9))))))
end
def r12_Shape.f (k : Nat) (a0 : Int) : Option (Int × Int) := if a0 < 0 then (r12_Shape.j0 k a0 true) else (r12_Shape.j0 k a0 (decide (a0 > 37)))
/-! ### r12_may: function 112 -/
def r12_may.f (a0 : Int) (a1 : Int) : Option (Bool) := if a0 = 0 then (some true) else (if a1 = 0 then (some false) else (if a0 > 0 then (some (decide (a0 < 65536))) else (some false)))
end Go.Proofs.YtdbfgfgbjheibaaDoor.PBx
end

section
/- Printed by a program of this session (wip/pg.py, over the print of the kit): functions, their Lean twins, and the proofs that the calls come to them; each under the conditions that it names. -/
namespace Go.Proofs.YtdbfgfgbjheibaaDoor.PBx
open Go.RowKit Go.Proofs.YtdbfgfgbjheibaaDoorW.PrintWords Go.Proofs.YtdbfgfgbjheibaaDoorW.PrintLast Go.Proofs.YtdbfgfgbjheibaaDoorW.PrintMore
attribute [local go_sem] max2_int min2_int max_two min_two max_three min_three max_four min_four   -- for this text's walks alone
set_option linter.unusedVariables false
set_option linter.unusedSimpArgs false

/-! ### r12_Right: function 98 -/
def r12_Right.f (k : Nat) (a0_0 : Int) (a0_1 : Int) (a0_2 : Int) : Option (Bool) := (r12_Shape.f k a0_0).bind fun bt383 => (if a0_0 ≥ 0 then (if a0_0 ≤ 37 then ((r12_may.f a0_1 bt383.1).bind fun t385 => (if t385 = true then ((r12_may.f a0_2 bt383.2).bind fun t386 => (some t386)) else (some false))) else (some false)) else (some false))
/-! ### r15_bytes: function 99 -/
def r15_bytes.l0 : Nat → List Int → Int → Option (Bool)
 | 0, _, _ => none
 | k + 1, x0, x3 => if x3 < (x0.length : Int) then (if 0 ≤ x3 then (if (rd x0 x3) < 0 then (some false) else (if (rd x0 x3) > 255 then (some false) else (r15_bytes.l0 k x0 (wrap64 (x3 + 1))))) else (none)) else (some true)
def r15_bytes.f (k : Nat) (l0 : List Int) : Option (Bool) := r15_bytes.l0 k l0 0
/-! ### r15_Fits: function 71 -/
def r15_Fits.l0 : Nat → Int → ByteArray → List Int → Int → List Int → List (S109) → Option (Bool)
 | 0, _, _, _, _, _, _ => none
 | k + 1, x3, x390000, x390001, x390002, x390003, x390004 => if x3 < (x390004.length : Int) then (if 0 ≤ x3 then ((r12_Right.f k ((rd_T109 x390004 x3).f0) ((rd_T109 x390004 x3).f1) ((rd_T109 x390004 x3).f2)).bind fun t391 => (if t391 = true then (r15_Fits.l0 k (wrap64 (x3 + 1)) x390000 x390001 x390002 x390003 x390004) else (some false))) else (none)) else (if (x390000.size : Int) < 256 then (if (x390001.length : Int) ≤ 8 then (if (x390003.length : Int) ≤ 1024 then (if (x390004.length : Int) ≤ 16384 then ((r15_bytes.f k x390001).bind fun t392 => (if t392 = true then ((r15_bytes.f k x390003).bind fun t393 => (if t393 = true then (if x390002 ≥ 0 then (some (decide (x390002 < 256))) else (some false)) else (some false))) else (some false))) else (some false)) else (some false)) else (some false)) else (some false))
def r15_Fits.f (k : Nat) (a0_0 : ByteArray) (l0_1 : List Int) (a0_2 : Int) (l0_3 : List Int) (l0_4 : List (S109)) : Option (Bool) := r15_Fits.l0 k 0 a0_0 l0_1 a0_2 l0_3 l0_4
end Go.Proofs.YtdbfgfgbjheibaaDoor.PBx
end

section
/- Printed by a program of this session (wip/pg.py, over the print of the kit): functions, their Lean twins, and the proofs that the calls come to them; each under the conditions that it names. -/
namespace Go.Proofs.YtdbfgfgbjheibaaDoor.PBx
open Go.RowKit Go.Proofs.YtdbfgfgbjheibaaDoorW.PrintWords Go.Proofs.YtdbfgfgbjheibaaDoorW.PrintLast Go.Proofs.YtdbfgfgbjheibaaDoorW.PrintMore
attribute [local go_sem] max2_int min2_int max_two min_two max_three min_three max_four min_four   -- for this text's walks alone
set_option linter.unusedVariables false
set_option linter.unusedSimpArgs false

/-! ### r13_Encode: function 72 -/
def r13_Encode.l0 : Nat → List (S109) → List Int → Int → Option (List Int × Bool)
 | 0, _, _, _ => none
 | k + 1, x0, x4, x5 => if x5 < (x0.length : Int) then (if 0 ≤ x5 then ((r12_Right.f k ((rd_T109 x0 x5).f0) ((rd_T109 x0 x5).f1) ((rd_T109 x0 x5).f2)).bind fun t395 => (if t395 = true then ((r03_Put.f k x4 1 ((rd_T109 x0 x5).f0)).bind fun t397 => ((r03_Put.f k t397 2 ((rd_T109 x0 x5).f1)).bind fun t401 => ((r03_Put.f k t401 2 ((rd_T109 x0 x5).f2)).bind fun t405 => (r13_Encode.l0 k x0 t405 (wrap64 (x5 + 1)))))) else (some (([] : List Int), false)))) else (none)) else (some (x4, true))
def r13_Encode.f (k : Nat) (l0 : List (S109)) : Option (List Int × Bool) := r13_Encode.l0 k l0 ([] : List Int) 0
/-! ### r15_Put: function 33 -/
mutual
def r15_Put.l0 : Nat → List Int → Int → ByteArray → List Int → Int → List Int → List (S109) → Option (List Int × Bool)
 | 0, _, _, _, _, _, _, _ => none
 | k + 1, x4, x5, x409000, x409001, x409002, x409003, x409004 => if x5 < (x409001.length : Int) then (if 0 ≤ x5 then (if x4.length < 140737488355328 then (r15_Put.l0 k (x4 ++ [(rd x409001 x5) % 256]) (wrap64 (x5 + 1)) x409000 x409001 x409002 x409003 x409004) else (none)) else (none)) else (if x4.length < 140737488355328 then ((r03_Put.f k (x4 ++ [(x409002) % 256]) 2 (x409003.length : Int)).bind fun t423 => (r15_Put.l1 k t423 0 x409000 x409001 x409002 x409003 x409004)) else (none))
def r15_Put.l1 : Nat → List Int → Int → ByteArray → List Int → Int → List Int → List (S109) → Option (List Int × Bool)
 | 0, _, _, _, _, _, _, _ => none
 | k + 1, x4, x6, x409000, x409001, x409002, x409003, x409004 => if x6 < (x409003.length : Int) then (if 0 ≤ x6 then (if x4.length < 140737488355328 then (r15_Put.l1 k (x4 ++ [(rd x409003 x6) % 256]) (wrap64 (x6 + 1)) x409000 x409001 x409002 x409003 x409004) else (none)) else (none)) else ((r03_Put.f k x4 2 (x409004.length : Int)).bind fun t430 => ((r13_Encode.f k x409004).bind fun bt433 => (if t430.length + bt433.1.length < 140737488355328 then (some ((t430 ++ bt433.1), true)) else (none))))
end
def r15_Put.f (k : Nat) (a0_0 : ByteArray) (l0_1 : List Int) (a0_2 : Int) (l0_3 : List Int) (l0_4 : List (S109)) : Option (List Int × Bool) := (r15_Fits.f k a0_0 l0_1 a0_2 l0_3 l0_4).bind fun t409 => (if t409 = true then ((r03_Text.f k ([] : List Int) a0_0).bind fun t410 => (if t410.length < 140737488355328 then (r15_Put.l0 k (t410 ++ [((l0_1.length : Int)) % 256]) 0 a0_0 l0_1 a0_2 l0_3 l0_4) else (none))) else (some (([] : List Int), false)))
end Go.Proofs.YtdbfgfgbjheibaaDoor.PBx
end

section
/- Printed by a program of this session (wip/pg.py, over the print of the kit): functions, their Lean twins, and the proofs that the calls come to them; each under the conditions that it names. -/
namespace Go.Proofs.YtdbfgfgbjheibaaDoor.PBx
open Go.Proofs.YtdbfgfgbjheibaaDoor.Given
open Go.RowKit Go.Proofs.YtdbfgfgbjheibaaDoorW.PrintWords Go.Proofs.YtdbfgfgbjheibaaDoorW.PrintLast Go.Proofs.YtdbfgfgbjheibaaDoorW.PrintMore
attribute [local go_sem] max2_int min2_int max_two min_two max_three min_three max_four min_four   -- for this text's walks alone
set_option linter.unusedVariables false
set_option linter.unusedSimpArgs false

/-! ### r16_section: function 35 -/
def r16_section.f (k : Nat) (l0 : List Int) (a1 : Int) (l2 : List Int) : Option (List Int) := (r03_Put.f k l0 1 a1).bind fun t440 => ((r03_Put.f k t440 4 (l2.length : Int)).bind fun t443 => (if t443.length + l2.length < 140737488355328 then (some (t443 ++ l2)) else (none)))
/-! ### r02_Next: function 100 -/
def r02_Next.l0 : Nat → Int → Int → Option (Int)
 | 0, _, _ => none
 | k + 1, x0, x5 => if x5 < 8 then (if (Int.tmod x0 2) = 1 then (r02_Next.l0 k (Go.bits .xor .u32 ((Int.tdiv x0 2) % 4294967296) 3988292384) (wrap64 (x5 + 1))) else (r02_Next.l0 k ((Int.tdiv x0 2) % 4294967296) (wrap64 (x5 + 1)))) else (some x0)
def r02_Next.f (k : Nat) (a0 : Int) (a1 : Int) : Option (Int) := r02_Next.l0 k (Go.bits .xor .u32 a0 ((a1) % 4294967296)) 0
/-! ### r02_Over: function 74 -/
def r02_Over.l0 : Nat → Int → List Int → Int → Option (Int)
 | 0, _, _, _ => none
 | k + 1, x0, x1, x5 => if x5 < (x1.length : Int) then (if 0 ≤ x5 then ((r02_Next.f k x0 (rd x1 x5)).bind fun t450 => (r02_Over.l0 k t450 x1 (wrap64 (x5 + 1)))) else (none)) else (some x0)
def r02_Over.f (k : Nat) (a0 : Int) (l1 : List Int) : Option (Int) := r02_Over.l0 k a0 l1 0
/-! ### r02_Of: function 36 -/
def r02_Of.f (k : Nat) (l0 : List Int) : Option (Int) := (r02_Over.f k 4294967295 l0).bind fun t451 => (some ((4294967295 - t451) % 4294967296))
/-! ### r16_Encode: function 12 -/
mutual
def r16_Encode.j0 : Nat → List Int → List Int → List Int → Bool → List (S68) → List (S41) → List (S43) → List (S48) → Option (List Int × Bool)
 | 0, _, _, _, _, _, _, _, _ => none
 | k + 1, x4, x6, x8, x48, x453000, x453001, x453002, x453003 => if x48 = true then (some (([] : List Int), false)) else (r16_Encode.l0 k x4 x6 x8 (([((x453003.length : Int)) % 256] : List Int)) 0 x453000 x453001 x453002 x453003)
def r16_Encode.l0 : Nat → List Int → List Int → List Int → List Int → Int → List (S68) → List (S41) → List (S43) → List (S48) → Option (List Int × Bool)
 | 0, _, _, _, _, _, _, _, _, _ => none
 | k + 1, x4, x6, x8, x10, x11, x453000, x453001, x453002, x453003 => if x11 < (x453003.length : Int) then (if 0 ≤ x11 then ((r15_Put.f k ((rd_T48 x453003 x11).f0) ((rd_T48 x453003 x11).f1) ((rd_T48 x453003 x11).f2) ((rd_T48 x453003 x11).f3) ((rd_T48 x453003 x11).f4)).bind fun bt469 => (if bt469.2 = true then ((r03_Put.f k x10 4 (bt469.1.length : Int)).bind fun t473 => (if t473.length + bt469.1.length < 140737488355328 then (r16_Encode.l0 k x4 x6 x8 (t473 ++ bt469.1) (wrap64 (x11 + 1)) x453000 x453001 x453002 x453003) else (none))) else (some (([] : List Int), false)))) else (none)) else ((r16_section.f k (([76, 66, 75, 49] : List Int)) 1 x4).bind fun t482 => ((r16_section.f k t482 2 x6).bind fun t485 => ((r16_section.f k t485 3 x8).bind fun t488 => ((r16_section.f k t488 4 x10).bind fun t491 => ((r02_Of.f k t491).bind fun t494 => ((r03_Put.f k t491 4 (wrap64 (t494))).bind fun t495 => (if (t495.length : Int) > 1048576 then (some (([] : List Int), false)) else (some (t495, true)))))))))
end
def r16_Encode.f (k : Nat) (l0_0 : List (S68)) (l0_1 : List (S41)) (l0_2 : List (S43)) (l0_3 : List (S48)) : Option (List Int × Bool) := (r14_Consts.f k l0_0).bind fun bt453 => ((r14_Vars.f k l0_1).bind fun bt457 => ((r14_Blocks.f k l0_2).bind fun bt461 => (if bt453.2 = true then (if bt457.2 = true then (if bt461.2 = true then (r16_Encode.j0 k bt453.1 bt457.1 bt461.1 (decide ((l0_3.length : Int) > 8)) l0_0 l0_1 l0_2 l0_3) else (r16_Encode.j0 k bt453.1 bt457.1 bt461.1 true l0_0 l0_1 l0_2 l0_3)) else (r16_Encode.j0 k bt453.1 bt457.1 bt461.1 true l0_0 l0_1 l0_2 l0_3)) else (r16_Encode.j0 k bt453.1 bt457.1 bt461.1 true l0_0 l0_1 l0_2 l0_3))))
/-! ### box_Fits: function 13 -/
def box_Fits.f (l0_0 : List (S68)) (l0_1 : List (S41)) (l0_2 : List (S43)) (l0_3 : List (S48)) : Option (Bool) := (box_Encode.f l0_0 l0_1 l0_2 l0_3).bind fun bt499 => (some bt499.2)
end Go.Proofs.YtdbfgfgbjheibaaDoor.PBx
end

section
/- Printed by a program of this session (wip/pg.py, over the print of the kit): functions, their Lean twins, and the proofs that the calls come to them; each under the conditions that it names. -/
namespace Go.Proofs.YtdbfgfgbjheibaaDoor.PBx
open Go.RowKit Go.Proofs.YtdbfgfgbjheibaaDoorW.PrintWords Go.Proofs.YtdbfgfgbjheibaaDoorW.PrintLast Go.Proofs.YtdbfgfgbjheibaaDoorW.PrintMore
attribute [local go_sem] max2_int min2_int max_two min_two max_three min_three max_four min_four   -- for this text's walks alone
set_option linter.unusedVariables false
set_option linter.unusedSimpArgs false

attribute [local go_sem high] eqA41 eqA43 eqA68 eqA109
/-! ### api_Const_37: function 37 -/
def api_Const_37.l0 : Nat → List (S68) → List (S68) → Int → Int → Option (Bool)
 | 0, _, _, _, _ => none
 | k + 1, x0, x1, x12, x13 => if x13 < x12 then (if 0 ≤ x13 then (if x13 < (x0.length : Int) then (if x13 < (x1.length : Int) then (if (!(((rd_T68 x0 x13).f0) == ((rd_T68 x1 x13).f0)) || (!(((rd_T68 x0 x13).f1) == ((rd_T68 x1 x13).f1)))) = true then (some false) else (api_Const_37.l0 k x0 x1 x12 (wrap64 (x13 + 1)))) else (none)) else (none)) else (none)) else (some true)
def api_Const_37.f (k : Nat) (l0 : List (S68)) (l1 : List (S68)) : Option (Bool) := if (l0.length : Int) = (l1.length : Int) then (api_Const_37.l0 k l0 l1 (l0.length : Int) 0) else (some false)
/-! ### api_Var_38: function 38 -/
def api_Var_38.l0 : Nat → List (S41) → List (S41) → Int → Int → Option (Bool)
 | 0, _, _, _, _ => none
 | k + 1, x0, x1, x12, x13 => if x13 < x12 then (if 0 ≤ x13 then (if x13 < (x0.length : Int) then (if x13 < (x1.length : Int) then (if (!((((rd_T41 x0 x13).f0).toList) == (((rd_T41 x1 x13).f0).toList)) || (!(((rd_T41 x0 x13).f1) == ((rd_T41 x1 x13).f1)) || (!(((rd_T41 x0 x13).f2) == ((rd_T41 x1 x13).f2)) || (!(((rd_T41 x0 x13).f3) == ((rd_T41 x1 x13).f3)) || (!(((rd_T41 x0 x13).f4) == ((rd_T41 x1 x13).f4))))))) = true then (some false) else (api_Var_38.l0 k x0 x1 x12 (wrap64 (x13 + 1)))) else (none)) else (none)) else (none)) else (some true)
def api_Var_38.f (k : Nat) (l0 : List (S41)) (l1 : List (S41)) : Option (Bool) := if (l0.length : Int) = (l1.length : Int) then (api_Var_38.l0 k l0 l1 (l0.length : Int) 0) else (some false)
/-! ### api_Block_39: function 39 -/
def api_Block_39.l0 : Nat → List (S43) → List (S43) → Int → Int → Option (Bool)
 | 0, _, _, _, _ => none
 | k + 1, x0, x1, x12, x13 => if x13 < x12 then (if 0 ≤ x13 then (if x13 < (x0.length : Int) then (if x13 < (x1.length : Int) then (if (!((((rd_T43 x0 x13).f0).toList) == (((rd_T43 x1 x13).f0).toList)) || (!(((rd_T43 x0 x13).f1) == ((rd_T43 x1 x13).f1)))) = true then (some false) else (api_Block_39.l0 k x0 x1 x12 (wrap64 (x13 + 1)))) else (none)) else (none)) else (none)) else (some true)
def api_Block_39.f (k : Nat) (l0 : List (S43)) (l1 : List (S43)) : Option (Bool) := if (l0.length : Int) = (l1.length : Int) then (api_Block_39.l0 k l0 l1 (l0.length : Int) 0) else (some false)
/-! ### unit_like_int: function 75 -/
def unit_like_int.l0 : Nat → List Int → List Int → Int → Int → Option (Bool)
 | 0, _, _, _, _ => none
 | k + 1, x0, x1, x12, x13 => if x13 < x12 then (if 0 ≤ x13 then (if x13 < (x0.length : Int) then (if x13 < (x1.length : Int) then (if (rd x0 x13) = (rd x1 x13) then (unit_like_int.l0 k x0 x1 x12 (wrap64 (x13 + 1))) else (some false)) else (none)) else (none)) else (none)) else (some true)
def unit_like_int.f (k : Nat) (l0 : List Int) (l1 : List Int) : Option (Bool) := if (l0.length : Int) = (l1.length : Int) then (unit_like_int.l0 k l0 l1 (l0.length : Int) 0) else (some false)
/-! ### api_Instr: function 76 -/
def api_Instr.l0 : Nat → List (S109) → List (S109) → Int → Int → Option (Bool)
 | 0, _, _, _, _ => none
 | k + 1, x0, x1, x12, x13 => if x13 < x12 then (if 0 ≤ x13 then (if x13 < (x0.length : Int) then (if x13 < (x1.length : Int) then (if (!(((rd_T109 x0 x13).f0) == ((rd_T109 x1 x13).f0)) || (!(((rd_T109 x0 x13).f1) == ((rd_T109 x1 x13).f1)) || (!(((rd_T109 x0 x13).f2) == ((rd_T109 x1 x13).f2))))) = true then (some false) else (api_Instr.l0 k x0 x1 x12 (wrap64 (x13 + 1)))) else (none)) else (none)) else (none)) else (some true)
def api_Instr.f (k : Nat) (l0 : List (S109)) (l1 : List (S109)) : Option (Bool) := if (l0.length : Int) = (l1.length : Int) then (api_Instr.l0 k l0 l1 (l0.length : Int) 0) else (some false)
end Go.Proofs.YtdbfgfgbjheibaaDoor.PBx
end

section
/- Printed by a program of this session (wip/pg.py, over the print of the kit): functions, their Lean twins, and the proofs that the calls come to them; each under the conditions that it names. -/
namespace Go.Proofs.YtdbfgfgbjheibaaDoor.PBx
open Go.RowKit Go.Proofs.YtdbfgfgbjheibaaDoorW.PrintWords Go.Proofs.YtdbfgfgbjheibaaDoorW.PrintLast Go.Proofs.YtdbfgfgbjheibaaDoorW.PrintMore
attribute [local go_sem] max2_int min2_int max_two min_two max_three min_three max_four min_four   -- for this text's walks alone
set_option linter.unusedVariables false
set_option linter.unusedSimpArgs false

/-! ### unit_Same: function 40 -/
def unit_Same.f (k : Nat) (a0_0 : ByteArray) (l0_1 : List Int) (a0_2 : Int) (l0_3 : List Int) (l0_4 : List (S109)) (a1_0 : ByteArray) (l1_1 : List Int) (a1_2 : Int) (l1_3 : List Int) (l1_4 : List (S109)) : Option (Bool) := if a0_0.toList = a1_0.toList then (if a0_2 = a1_2 then ((unit_like_int.f k l0_1 l1_1).bind fun t515 => (if t515 = true then ((unit_like_int.f k l0_3 l1_3).bind fun t516 => (if t516 = true then ((api_Instr.f k l0_4 l1_4).bind fun t517 => (some t517)) else (some false))) else (some false))) else (some false)) else (some false)
end Go.Proofs.YtdbfgfgbjheibaaDoor.PBx
end

section
/- Printed by a program of this session (wip/pg.py, over the print of the kit): functions, their Lean twins, and the proofs that the calls come to them; each under the conditions that it names. -/
namespace Go.Proofs.YtdbfgfgbjheibaaDoor.PBx
open Go.RowKit Go.Proofs.YtdbfgfgbjheibaaDoorW.PrintWords Go.Proofs.YtdbfgfgbjheibaaDoorW.PrintLast Go.Proofs.YtdbfgfgbjheibaaDoorW.PrintMore
attribute [local go_sem] max2_int min2_int max_two min_two max_three min_three max_four min_four   -- for this text's walks alone
set_option linter.unusedVariables false
set_option linter.unusedSimpArgs false

/-! ### box_Same: function 14 -/
mutual
def box_Same.j0 : Nat → Bool → List (S68) → List (S41) → List (S43) → List (S48) → List (S68) → List (S41) → List (S43) → List (S48) → Option (Bool)
 | 0, _, _, _, _, _, _, _, _, _ => none
 | k + 1, x36, x519000, x519001, x519002, x519003, x520000, x520001, x520002, x520003 => if x36 = true then (some false) else (box_Same.l0 k (x519003.length : Int) 0 x519000 x519001 x519002 x519003 x520000 x520001 x520002 x520003)
def box_Same.l0 : Nat → Int → Int → List (S68) → List (S41) → List (S43) → List (S48) → List (S68) → List (S41) → List (S43) → List (S48) → Option (Bool)
 | 0, _, _, _, _, _, _, _, _, _, _ => none
 | k + 1, x39, x40, x519000, x519001, x519002, x519003, x520000, x520001, x520002, x520003 => if x40 < x39 then (if 0 ≤ x40 then (if x40 < (x519003.length : Int) then (if x40 < (x520003.length : Int) then ((unit_Same.f k ((rd_T48 x519003 x40).f0) ((rd_T48 x519003 x40).f1) ((rd_T48 x519003 x40).f2) ((rd_T48 x519003 x40).f3) ((rd_T48 x519003 x40).f4) ((rd_T48 x520003 x40).f0) ((rd_T48 x520003 x40).f1) ((rd_T48 x520003 x40).f2) ((rd_T48 x520003 x40).f3) ((rd_T48 x520003 x40).f4)).bind fun t525 => (if t525 = true then (box_Same.l0 k x39 (wrap64 (x40 + 1)) x519000 x519001 x519002 x519003 x520000 x520001 x520002 x520003) else (some false))) else (none)) else (none)) else (none)) else (some true)
end
def box_Same.f (k : Nat) (l0_0 : List (S68)) (l0_1 : List (S41)) (l0_2 : List (S43)) (l0_3 : List (S48)) (l1_0 : List (S68)) (l1_1 : List (S41)) (l1_2 : List (S43)) (l1_3 : List (S48)) : Option (Bool) := (api_Const_37.f k l0_0 l1_0).bind fun t520 => (if t520 = true then ((api_Var_38.f k l0_1 l1_1).bind fun t521 => (if t521 = true then ((api_Block_39.f k l0_2 l1_2).bind fun t522 => (if t522 = true then (box_Same.j0 k ((l0_3.length : Int) != (l1_3.length : Int)) l0_0 l0_1 l0_2 l0_3 l1_0 l1_1 l1_2 l1_3) else (box_Same.j0 k true l0_0 l0_1 l0_2 l0_3 l1_0 l1_1 l1_2 l1_3))) else (box_Same.j0 k true l0_0 l0_1 l0_2 l0_3 l1_0 l1_1 l1_2 l1_3))) else (box_Same.j0 k true l0_0 l0_1 l0_2 l0_3 l1_0 l1_1 l1_2 l1_3))
end Go.Proofs.YtdbfgfgbjheibaaDoor.PBx
end

section
/- Printed by a program of this session (wip/pg.py, over the print of the kit): functions, their Lean twins, and the proofs that the calls come to them; each under the conditions that it names. -/
namespace Go.Proofs.YtdbfgfgbjheibaaDoor.PBx
open Go.RowKit Go.Proofs.YtdbfgfgbjheibaaDoorW.PrintWords Go.Proofs.YtdbfgfgbjheibaaDoorW.PrintLast Go.Proofs.YtdbfgfgbjheibaaDoorW.PrintMore
attribute [local go_sem] max2_int min2_int max_two min_two max_three min_three max_four min_four   -- for this text's walks alone
set_option linter.unusedVariables false
set_option linter.unusedSimpArgs false

/-! ### w15_Few: function 16 -/
def w15_Few.f (a0_0 : ByteArray) (l0_1 : List Int) (a0_2 : Int) (l0_3 : List Int) (l0_4 : List (S109)) : Option (Bool) := if (a0_0.size : Int) ≤ 300 then (if (l0_1.length : Int) ≤ 20 then (if (l0_3.length : Int) ≤ 1100 then (some (decide ((l0_4.length : Int) ≤ 300))) else (some false)) else (some false)) else (some false)
set_option maxHeartbeats 8000000 in
set_option maxRecDepth 100000 in
theorem w15_Few.calls (a0_0 : ByteArray) (A0_1 : Option Addr) (c0_1 : Nat) (l0_1 : List Int) (a0_2 : Int) (A0_3 : Option Addr) (c0_3 : Nat) (l0_3 : List Int) (A0_4 : Option Addr) (c0_4 : Nat) (l0_4 : List (S109)) (r : Bool) (w : World) (hr0_1 : Kd.C (Kd.int .i64) w A0_1 l0_1.length l0_1) (hc0_1 : l0_1.length ≤ c0_1) (hr0_3 : Kd.C (Kd.int .i64) w A0_3 l0_3.length l0_3) (hc0_3 : l0_3.length ≤ c0_3) (hr0_4 : Kd.C k109 w A0_4 l0_4.length l0_4) (hc0_4 : l0_4.length ≤ c0_4) (h : w15_Few.f a0_0 l0_1 a0_2 l0_3 l0_4 = some r) :
  Calls Tryd.prog 16 #[.agg #[.string a0_0, .slice A0_1 l0_1.length c0_1, .int .i64 a0_2, .slice A0_3 l0_3.length c0_3, .slice A0_4 l0_4.length c0_4]] w fun e w' => e = .returned (.bool r) ∧ Below w.heap.size w w' := by
 have hu48 := Tryd.underlying48
 have HR0_1 := zA hr0_1
 have HC0_1 := zA hc0_1
 clear hr0_1 hc0_1
 have HR0_3 := zA hr0_3
 have HC0_3 := zA hc0_3
 clear hr0_3 hc0_3
 have HR0_4 := zA hr0_4
 have HC0_4 := zA hc0_4
 clear hr0_4 hc0_4
 have HB := zA (zX w.heap.size w)
 have H : (if (a0_0.size : Int) ≤ 300 then (if (l0_1.length : Int) ≤ 20 then (if (l0_3.length : Int) ≤ 1100 then (some (decide ((l0_4.length : Int) ≤ 300))) else (some false)) else (some false)) else (some false)) = some r := h
 clear h
 by_cases c2 : (a0_0.size : Int) ≤ 300
 ·rw [if_pos c2] at H
  have c2b0 : decide ((a0_0.size : Int) ≤ 300) = true := decide_eq_true c2
  have c2b1 : decide (a0_0.size ≤ 300) = true := decide_eq_true (by omega)
  clear c2
  by_cases c3 : (l0_1.length : Int) ≤ 20
  ·rw [if_pos c3] at H
   have c3b0 : decide ((l0_1.length : Int) ≤ 20) = true := decide_eq_true c3
   have c3b1 : decide (l0_1.length ≤ 20) = true := decide_eq_true (by omega)
   clear c3
   by_cases c4 : (l0_3.length : Int) ≤ 1100
   ·rw [if_pos c4] at H
    have c4b0 : decide ((l0_3.length : Int) ≤ 1100) = true := decide_eq_true c4
    have c4b1 : decide (l0_3.length ≤ 1100) = true := decide_eq_true (by omega)
    clear c4
    obtain rfl := zJ H
    go_enter Tryd.func16, Tryd.ntmps16
    go_wp2_with (first | ((with_reducible refine gate_dst (N := 1) rfl ?_); (try (refine gate_guard (by rfl) ?_; dsimp only)); refine box_event ?hg (N := 1) ?hd (cs := #[.string a0_0, .slice A0_1 l0_1.length c0_1, .int .i64 a0_2, .slice A0_3 l0_3.length c0_3, .slice A0_4 l0_4.length c0_4]) (t := 48) ?hr ?_; (case hd => rfl); (case hg => rfl); (case hr => first | (go_simp; done) | (go_simp; rfl)); intro gb101 hg w5 hbox hb; have BK101 := zA (hbox); have GW101 := zA ((by rw [hg]; exact (below_size (by repeat (first | (with_reducible first | exact HB.out | apply zB | apply zN | apply below_drew1) | exact HB.out))) : w.heap.size ≤ gb101)); have GE101 := GW101; replace HB := zA (below_step (by repeat (first | (with_reducible first | exact HB.out | apply zB | apply zN | apply below_drew1) | exact HB.out)) hb); clear hb hbox hg; have hcz6_0 : w5.cell? ⟨gb101, 0, none⟩ = some (.string a0_0) := (zC BK101.out 0).trans rfl; have hcz6_1 : w5.cell? ⟨gb101, 1, none⟩ = some (.slice A0_1 l0_1.length c0_1) := (zC BK101.out 1).trans rfl; have hcz6_2 : w5.cell? ⟨gb101, 2, none⟩ = some (.int .i64 a0_2) := (zC BK101.out 2).trans rfl; have hcz6_3 : w5.cell? ⟨gb101, 3, none⟩ = some (.slice A0_3 l0_3.length c0_3) := (zC BK101.out 3).trans rfl; have hcz6_4 : w5.cell? ⟨gb101, 4, none⟩ = some (.slice A0_4 l0_4.length c0_4) := (zC BK101.out 4).trans rfl; have hfz6_0 := zF BK101.out 0; have hfz6_1 := zF BK101.out 1; have hfz6_2 := zF BK101.out 2; have hfz6_3 := zF BK101.out 3; have hfz6_4 := zF BK101.out 4))
    go_ret
    exact ⟨by first | rfl | (simp [errW_none, errW_some] <;> rfl) | (simp [*, errW_none, errW_some] <;> rfl), by repeat (first | (with_reducible first | exact HB.out | apply zB | apply zN | apply below_drew1 | refine zE ?_ GE101.out) | exact HB.out)⟩
   ·rw [if_neg c4] at H
    have c4b0 : decide ((l0_3.length : Int) ≤ 1100) = false := decide_eq_false c4
    have c4b1 : decide (l0_3.length ≤ 1100) = false := decide_eq_false (by omega)
    clear c4
    obtain rfl := zJ H
    go_enter Tryd.func16, Tryd.ntmps16
    go_wp2_with (first | ((with_reducible refine gate_dst (N := 1) rfl ?_); (try (refine gate_guard (by rfl) ?_; dsimp only)); refine box_event ?hg (N := 1) ?hd (cs := #[.string a0_0, .slice A0_1 l0_1.length c0_1, .int .i64 a0_2, .slice A0_3 l0_3.length c0_3, .slice A0_4 l0_4.length c0_4]) (t := 48) ?hr ?_; (case hd => rfl); (case hg => rfl); (case hr => first | (go_simp; done) | (go_simp; rfl)); intro gb101 hg w7 hbox hb; have BK101 := zA (hbox); have GW101 := zA ((by rw [hg]; exact (below_size (by repeat (first | (with_reducible first | exact HB.out | apply zB | apply zN | apply below_drew1) | exact HB.out))) : w.heap.size ≤ gb101)); have GE101 := GW101; replace HB := zA (below_step (by repeat (first | (with_reducible first | exact HB.out | apply zB | apply zN | apply below_drew1) | exact HB.out)) hb); clear hb hbox hg; have hcz8_0 : w7.cell? ⟨gb101, 0, none⟩ = some (.string a0_0) := (zC BK101.out 0).trans rfl; have hcz8_1 : w7.cell? ⟨gb101, 1, none⟩ = some (.slice A0_1 l0_1.length c0_1) := (zC BK101.out 1).trans rfl; have hcz8_2 : w7.cell? ⟨gb101, 2, none⟩ = some (.int .i64 a0_2) := (zC BK101.out 2).trans rfl; have hcz8_3 : w7.cell? ⟨gb101, 3, none⟩ = some (.slice A0_3 l0_3.length c0_3) := (zC BK101.out 3).trans rfl; have hcz8_4 : w7.cell? ⟨gb101, 4, none⟩ = some (.slice A0_4 l0_4.length c0_4) := (zC BK101.out 4).trans rfl; have hfz8_0 := zF BK101.out 0; have hfz8_1 := zF BK101.out 1; have hfz8_2 := zF BK101.out 2; have hfz8_3 := zF BK101.out 3; have hfz8_4 := zF BK101.out 4))
    go_ret
    exact ⟨by first | rfl | (simp [errW_none, errW_some] <;> rfl) | (simp [*, errW_none, errW_some] <;> rfl), by repeat (first | (with_reducible first | exact HB.out | apply zB | apply zN | apply below_drew1 | refine zE ?_ GE101.out) | exact HB.out)⟩
  ·rw [if_neg c3] at H
   have c3b0 : decide ((l0_1.length : Int) ≤ 20) = false := decide_eq_false c3
   have c3b1 : decide (l0_1.length ≤ 20) = false := decide_eq_false (by omega)
   clear c3
   obtain rfl := zJ H
   go_enter Tryd.func16, Tryd.ntmps16
   go_wp2_with (first | ((with_reducible refine gate_dst (N := 1) rfl ?_); (try (refine gate_guard (by rfl) ?_; dsimp only)); refine box_event ?hg (N := 1) ?hd (cs := #[.string a0_0, .slice A0_1 l0_1.length c0_1, .int .i64 a0_2, .slice A0_3 l0_3.length c0_3, .slice A0_4 l0_4.length c0_4]) (t := 48) ?hr ?_; (case hd => rfl); (case hg => rfl); (case hr => first | (go_simp; done) | (go_simp; rfl)); intro gb101 hg w9 hbox hb; have BK101 := zA (hbox); have GW101 := zA ((by rw [hg]; exact (below_size (by repeat (first | (with_reducible first | exact HB.out | apply zB | apply zN | apply below_drew1) | exact HB.out))) : w.heap.size ≤ gb101)); have GE101 := GW101; replace HB := zA (below_step (by repeat (first | (with_reducible first | exact HB.out | apply zB | apply zN | apply below_drew1) | exact HB.out)) hb); clear hb hbox hg; have hcz10_0 : w9.cell? ⟨gb101, 0, none⟩ = some (.string a0_0) := (zC BK101.out 0).trans rfl; have hcz10_1 : w9.cell? ⟨gb101, 1, none⟩ = some (.slice A0_1 l0_1.length c0_1) := (zC BK101.out 1).trans rfl; have hcz10_2 : w9.cell? ⟨gb101, 2, none⟩ = some (.int .i64 a0_2) := (zC BK101.out 2).trans rfl; have hcz10_3 : w9.cell? ⟨gb101, 3, none⟩ = some (.slice A0_3 l0_3.length c0_3) := (zC BK101.out 3).trans rfl; have hcz10_4 : w9.cell? ⟨gb101, 4, none⟩ = some (.slice A0_4 l0_4.length c0_4) := (zC BK101.out 4).trans rfl; have hfz10_0 := zF BK101.out 0; have hfz10_1 := zF BK101.out 1; have hfz10_2 := zF BK101.out 2; have hfz10_3 := zF BK101.out 3; have hfz10_4 := zF BK101.out 4))
   go_ret
   exact ⟨by first | rfl | (simp [errW_none, errW_some] <;> rfl) | (simp [*, errW_none, errW_some] <;> rfl), by repeat (first | (with_reducible first | exact HB.out | apply zB | apply zN | apply below_drew1 | refine zE ?_ GE101.out) | exact HB.out)⟩
 ·rw [if_neg c2] at H
  have c2b0 : decide ((a0_0.size : Int) ≤ 300) = false := decide_eq_false c2
  have c2b1 : decide (a0_0.size ≤ 300) = false := decide_eq_false (by omega)
  clear c2
  obtain rfl := zJ H
  go_enter Tryd.func16, Tryd.ntmps16
  go_wp2_with (first | ((with_reducible refine gate_dst (N := 1) rfl ?_); (try (refine gate_guard (by rfl) ?_; dsimp only)); refine box_event ?hg (N := 1) ?hd (cs := #[.string a0_0, .slice A0_1 l0_1.length c0_1, .int .i64 a0_2, .slice A0_3 l0_3.length c0_3, .slice A0_4 l0_4.length c0_4]) (t := 48) ?hr ?_; (case hd => rfl); (case hg => rfl); (case hr => first | (go_simp; done) | (go_simp; rfl)); intro gb101 hg w11 hbox hb; have BK101 := zA (hbox); have GW101 := zA ((by rw [hg]; exact (below_size (by repeat (first | (with_reducible first | exact HB.out | apply zB | apply zN | apply below_drew1) | exact HB.out))) : w.heap.size ≤ gb101)); have GE101 := GW101; replace HB := zA (below_step (by repeat (first | (with_reducible first | exact HB.out | apply zB | apply zN | apply below_drew1) | exact HB.out)) hb); clear hb hbox hg; have hcz12_0 : w11.cell? ⟨gb101, 0, none⟩ = some (.string a0_0) := (zC BK101.out 0).trans rfl; have hcz12_1 : w11.cell? ⟨gb101, 1, none⟩ = some (.slice A0_1 l0_1.length c0_1) := (zC BK101.out 1).trans rfl; have hcz12_2 : w11.cell? ⟨gb101, 2, none⟩ = some (.int .i64 a0_2) := (zC BK101.out 2).trans rfl; have hcz12_3 : w11.cell? ⟨gb101, 3, none⟩ = some (.slice A0_3 l0_3.length c0_3) := (zC BK101.out 3).trans rfl; have hcz12_4 : w11.cell? ⟨gb101, 4, none⟩ = some (.slice A0_4 l0_4.length c0_4) := (zC BK101.out 4).trans rfl; have hfz12_0 := zF BK101.out 0; have hfz12_1 := zF BK101.out 1; have hfz12_2 := zF BK101.out 2; have hfz12_3 := zF BK101.out 3; have hfz12_4 := zF BK101.out 4))
  go_ret
  exact ⟨by first | rfl | (simp [errW_none, errW_some] <;> rfl) | (simp [*, errW_none, errW_some] <;> rfl), by repeat (first | (with_reducible first | exact HB.out | apply zB | apply zN | apply below_drew1 | refine zE ?_ GE101.out) | exact HB.out)⟩

end Go.Proofs.YtdbfgfgbjheibaaDoor.PBx
end
