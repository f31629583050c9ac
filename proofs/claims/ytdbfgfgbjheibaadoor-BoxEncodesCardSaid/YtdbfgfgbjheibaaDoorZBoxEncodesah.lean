/- Printed by a program of this session (wip/pg.py, over the print of the kit): functions, their Lean twins, and the proofs that the calls come to them; each under the conditions that it names. -/
import Derived.Test.YtdbfgfgbjheibaaDoorZBoxEncodesq
import Derived.Test.YtdbfgfgbjheibaaDoorZBoxEncodesab
import Derived.Test.YtdbfgfgbjheibaaDoorZBoxEncodesaf
import Derived.Test.YtdbfgfgbjheibaaDoorZBoxEncodesag
/- Printed by a program of this session (wip/pg.py, over the print of the kit): functions, their Lean twins, and the proofs that the calls come to them; each under the conditions that it names. -/
namespace Go.Proofs.YtdbfgfgbjheibaaDoor.PBx
open Go.RowKit Go.Proofs.YtdbfgfgbjheibaaDoorW.PrintWords Go.Proofs.YtdbfgfgbjheibaaDoorW.PrintLast Go.Proofs.YtdbfgfgbjheibaaDoorW.PrintMore
attribute [local go_sem] max2_int min2_int max_two min_two max_three min_three max_four min_four   -- for this text's walks alone
set_option linter.unusedVariables false
set_option linter.unusedSimpArgs false

/-! ### r16_Same: function 11 -/
mutual
def r16_Same.j0 : Nat → Bool → List (S68) → List (S41) → List (S43) → List (S48) → List (S68) → List (S41) → List (S43) → List (S48) → Option (Bool)
 | 0, _, _, _, _, _, _, _, _, _ => none
 | k + 1, x36, x299000, x299001, x299002, x299003, x300000, x300001, x300002, x300003 => if x36 = true then (some false) else (r16_Same.l0 k 0 x299000 x299001 x299002 x299003 x300000 x300001 x300002 x300003)
def r16_Same.l0 : Nat → Int → List (S68) → List (S41) → List (S43) → List (S48) → List (S68) → List (S41) → List (S43) → List (S48) → Option (Bool)
 | 0, _, _, _, _, _, _, _, _, _ => none
 | k + 1, x5, x299000, x299001, x299002, x299003, x300000, x300001, x300002, x300003 => if x5 < (x299003.length : Int) then (if 0 ≤ x5 then (if x5 < (x300003.length : Int) then ((r15_Same.f k ((rd_T48 x299003 x5).f0) ((rd_T48 x299003 x5).f1) ((rd_T48 x299003 x5).f2) ((rd_T48 x299003 x5).f3) ((rd_T48 x299003 x5).f4) ((rd_T48 x300003 x5).f0) ((rd_T48 x300003 x5).f1) ((rd_T48 x300003 x5).f2) ((rd_T48 x300003 x5).f3) ((rd_T48 x300003 x5).f4)).bind fun t305 => (if t305 = true then (r16_Same.l0 k (wrap64 (x5 + 1)) x299000 x299001 x299002 x299003 x300000 x300001 x300002 x300003) else (some false))) else (none)) else (none)) else (some true)
end
def r16_Same.f (k : Nat) (l0_0 : List (S68)) (l0_1 : List (S41)) (l0_2 : List (S43)) (l0_3 : List (S48)) (l1_0 : List (S68)) (l1_1 : List (S41)) (l1_2 : List (S43)) (l1_3 : List (S48)) : Option (Bool) := (r14_SameConsts.f k l0_0 l1_0).bind fun t300 => (if t300 = true then ((r14_SameVars.f k l0_1 l1_1).bind fun t301 => (if t301 = true then ((r14_SameBlocks.f k l0_2 l1_2).bind fun t302 => (if t302 = true then (r16_Same.j0 k ((l0_3.length : Int) != (l1_3.length : Int)) l0_0 l0_1 l0_2 l0_3 l1_0 l1_1 l1_2 l1_3) else (r16_Same.j0 k true l0_0 l0_1 l0_2 l0_3 l1_0 l1_1 l1_2 l1_3))) else (r16_Same.j0 k true l0_0 l0_1 l0_2 l0_3 l1_0 l1_1 l1_2 l1_3))) else (r16_Same.j0 k true l0_0 l0_1 l0_2 l0_3 l1_0 l1_1 l1_2 l1_3))
def r16_Same.T6 : Bool × List (List Nat × List Nat) := (true, [([], []), ([0], [0]), ([], []), ([1, 2], [1, 2]), ([3], [3]), ([], []), ([5], [5]), ([], []), ([6, 7], [6, 7]), ([8], [8]), ([4, 9], [4, 9]), ([10], [10])])
def r16_Same.B6 : List Nat := [0, 1, 0, 7, 15, 0, 32, 0, 224, 480, 1023, 2047]
theorem r16_Same.tab6 : rtab .any (opsOf Tryd.f11 6) = r16_Same.T6 := by kernel_rfl
theorem r16_Same.bits6 : waitsOk r16_Same.T6.2 r16_Same.B6 = true := by kernel_rfl
set_option maxHeartbeats 8000000 in
set_option maxRecDepth 100000 in
theorem r16_Same.calls (k : Nat) (A0_0 : Option Addr) (c0_0 : Nat) (l0_0 : List (S68)) (A0_1 : Option Addr) (c0_1 : Nat) (l0_1 : List (S41)) (A0_2 : Option Addr) (c0_2 : Nat) (l0_2 : List (S43)) (A0_3 : Option Addr) (c0_3 : Nat) (l0_3 : List (S48)) (A1_0 : Option Addr) (c1_0 : Nat) (l1_0 : List (S68)) (A1_1 : Option Addr) (c1_1 : Nat) (l1_1 : List (S41)) (A1_2 : Option Addr) (c1_2 : Nat) (l1_2 : List (S43)) (A1_3 : Option Addr) (c1_3 : Nat) (l1_3 : List (S48)) (r : Bool) (w : World) (hr0_0 : Kd.C k68 w A0_0 l0_0.length l0_0) (hc0_0 : l0_0.length ≤ c0_0) (hr0_1 : Kd.C k41 w A0_1 l0_1.length l0_1) (hc0_1 : l0_1.length ≤ c0_1) (hr0_2 : Kd.C k43 w A0_2 l0_2.length l0_2) (hc0_2 : l0_2.length ≤ c0_2) (hr0_3 : Kd.C k48 w A0_3 l0_3.length l0_3) (hc0_3 : l0_3.length ≤ c0_3) (hr1_0 : Kd.C k68 w A1_0 l1_0.length l1_0) (hc1_0 : l1_0.length ≤ c1_0) (hr1_1 : Kd.C k41 w A1_1 l1_1.length l1_1) (hc1_1 : l1_1.length ≤ c1_1) (hr1_2 : Kd.C k43 w A1_2 l1_2.length l1_2) (hc1_2 : l1_2.length ≤ c1_2) (hr1_3 : Kd.C k48 w A1_3 l1_3.length l1_3) (hc1_3 : l1_3.length ≤ c1_3) (h : r16_Same.f k l0_0 l0_1 l0_2 l0_3 l1_0 l1_1 l1_2 l1_3 = some r) :
  Calls Tryd.prog 11 #[.agg #[.slice A0_0 l0_0.length c0_0, .slice A0_1 l0_1.length c0_1, .slice A0_2 l0_2.length c0_2, .slice A0_3 l0_3.length c0_3], .agg #[.slice A1_0 l1_0.length c1_0, .slice A1_1 l1_1.length c1_1, .slice A1_2 l1_2.length c1_2, .slice A1_3 l1_3.length c1_3]] w fun e w' => e = .returned (.bool r) ∧ Below w.heap.size w w' := by
 have hu27 := Tryd.underlying27
 have hu48 := Tryd.underlying48
 have HR0_0 := zA hr0_0
 have HC0_0 := zA hc0_0
 clear hr0_0 hc0_0
 have HR0_1 := zA hr0_1
 have HC0_1 := zA hc0_1
 clear hr0_1 hc0_1
 have HR0_2 := zA hr0_2
 have HC0_2 := zA hc0_2
 clear hr0_2 hc0_2
 have HR0_3 := zA hr0_3
 have HC0_3 := zA hc0_3
 clear hr0_3 hc0_3
 have HR1_0 := zA hr1_0
 have HC1_0 := zA hc1_0
 clear hr1_0 hc1_0
 have HR1_1 := zA hr1_1
 have HC1_1 := zA hc1_1
 clear hr1_1 hc1_1
 have HR1_2 := zA hr1_2
 have HC1_2 := zA hc1_2
 clear hr1_2 hc1_2
 have HR1_3 := zA hr1_3
 have HC1_3 := zA hc1_3
 clear hr1_3 hc1_3
 have HB := zA (zX w.heap.size w)
 have H : ((r14_SameConsts.f k l0_0 l1_0).bind fun t300 => (if t300 = true then ((r14_SameVars.f k l0_1 l1_1).bind fun t301 => (if t301 = true then ((r14_SameBlocks.f k l0_2 l1_2).bind fun t302 => (if t302 = true then (r16_Same.j0 k ((l0_3.length : Int) != (l1_3.length : Int)) l0_0 l0_1 l0_2 l0_3 l1_0 l1_1 l1_2 l1_3) else (r16_Same.j0 k true l0_0 l0_1 l0_2 l0_3 l1_0 l1_1 l1_2 l1_3))) else (r16_Same.j0 k true l0_0 l0_1 l0_2 l0_3 l1_0 l1_1 l1_2 l1_3))) else (r16_Same.j0 k true l0_0 l0_1 l0_2 l0_3 l1_0 l1_1 l1_2 l1_3))) = some r := h
 clear h
 have HC3 := zA H
 clear H
 go_enter Tryd.func11, Tryd.ntmps11
 go_upto_region 1 with (first | ((with_reducible refine gate_dst (N := 2) rfl ?_); (try (refine gate_guard (by rfl) ?_; dsimp only)); refine box_event ?hg (N := 2) ?hd (cs := #[.slice A0_0 l0_0.length c0_0, .slice A0_1 l0_1.length c0_1, .slice A0_2 l0_2.length c0_2, .slice A0_3 l0_3.length c0_3]) (t := 27) ?hr ?_; (case hd => rfl); (case hg => rfl); (case hr => first | (go_simp; done) | (go_simp; rfl)); intro gb298 hg w4 hbox hb; have BK298 := zA (hbox); have GW298 := zA ((by rw [hg]; exact (below_size (by repeat (first | (with_reducible first | exact HB.out | apply zB | apply zN | apply below_drew1) | exact HB.out))) : w.heap.size ≤ gb298)); have GE298 := GW298; replace HB := zA (below_step (by repeat (first | (with_reducible first | exact HB.out | apply zB | apply zN | apply below_drew1) | exact HB.out)) hb); clear hb hbox hg) | ((with_reducible refine gate_dst (N := 3) rfl ?_); (try (refine gate_guard (by rfl) ?_; dsimp only)); refine box_event ?hg (N := 3) ?hd (cs := #[.slice A1_0 l1_0.length c1_0, .slice A1_1 l1_1.length c1_1, .slice A1_2 l1_2.length c1_2, .slice A1_3 l1_3.length c1_3]) (t := 27) ?hr ?_; (case hd => rfl); (case hg => rfl); (case hr => first | (go_simp; done) | (go_simp; rfl)); intro gb299 hg w5 hbox hb; have BK299 := zA (hbox); have GW299 := zA ((by rw [hg]; exact (below_size (by repeat (first | (with_reducible first | exact HB.out | apply zB | apply zN | apply below_drew1 | refine zE ?_ GE298.out) | exact HB.out))) : w.heap.size ≤ gb299)); have GE299 := GW299; replace HB := zA (below_step (by repeat (first | (with_reducible first | exact HB.out | apply zB | apply zN | apply below_drew1 | refine zE ?_ GE298.out) | exact HB.out)) hb); have NB298_299 := zA ((by rw [hg]; exact Nat.ne_of_lt (blk_lt (g := gb298) (o := .cells #[.slice A0_0 l0_0.length c0_0, .slice A0_1 l0_1.length c0_1, .slice A0_2 l0_2.length c0_2, .slice A0_3 l0_3.length c0_3] 27 (0, 0)) (by (with_reducible repeat (first | refine zG ?_ _ | refine zH ?_)); exact BK298.out)) : gb298 ≠ gb299)); have NB299_298 := zA ((by rw [hg]; exact Nat.ne_of_gt (blk_lt (g := gb298) (o := .cells #[.slice A0_0 l0_0.length c0_0, .slice A0_1 l0_1.length c0_1, .slice A0_2 l0_2.length c0_2, .slice A0_3 l0_3.length c0_3] 27 (0, 0)) (by (with_reducible repeat (first | refine zG ?_ _ | refine zH ?_)); exact BK298.out)) : gb299 ≠ gb298)); replace BK298 := zA (zQ (g := gb298) (o := .cells #[.slice A0_0 l0_0.length c0_0, .slice A0_1 l0_1.length c0_1, .slice A0_2 l0_2.length c0_2, .slice A0_3 l0_3.length c0_3] 27 (0, 0)) (by (with_reducible repeat (first | refine zG ?_ _ | refine zH ?_)); exact BK298.out) hb); clear hb hbox hg))
 (try simp only [Act.put, zY, List.set_cons_zero, z2])
 go_cut [36] (fun v36 wc => ∃ (kq : Nat) (x36_2 : Bool), v36 = .bool x36_2 ∧ Aside0 (r16_Same.j0 kq x36_2 l0_0 l0_1 l0_2 l0_3 l1_0 l1_1 l1_2 l1_3 = some r) ∧ Aside0 (kq ≤ k) ∧ Aside0 (wc.heap[gb298]? = some (.cells #[(.slice A0_0 l0_0.length c0_0), (.slice A0_1 l0_1.length c0_1), (.slice A0_2 l0_2.length c0_2), (.slice A0_3 l0_3.length c0_3)] 27 (0, 0))) ∧ Aside0 (wc.heap[gb299]? = some (.cells #[(.slice A1_0 l1_0.length c1_0), (.slice A1_1 l1_1.length c1_1), (.slice A1_2 l1_2.length c1_2), (.slice A1_3 l1_3.length c1_3)] 27 (0, 0))) ∧ Aside0 (Below w.heap.size w wc))
 case first =>
  have H := HC3.out
  clear HC3
  replace H := Option.bind_eq_some_iff.mp H
  obtain ⟨t300, A60, H⟩ := H
  replace H : (if t300 = true then ((r14_SameVars.f k l0_1 l1_1).bind fun t301 => (if t301 = true then ((r14_SameBlocks.f k l0_2 l1_2).bind fun t302 => (if t302 = true then (r16_Same.j0 k ((l0_3.length : Int) != (l1_3.length : Int)) l0_0 l0_1 l0_2 l0_3 l1_0 l1_1 l1_2 l1_3) else (r16_Same.j0 k true l0_0 l0_1 l0_2 l0_3 l1_0 l1_1 l1_2 l1_3))) else (r16_Same.j0 k true l0_0 l0_1 l0_2 l0_3 l1_0 l1_1 l1_2 l1_3))) else (r16_Same.j0 k true l0_0 l0_1 l0_2 l0_3 l1_0 l1_1 l1_2 l1_3)) = some r := H
  have A6 := zA A60
  clear A60
  by_cases c7 : t300 = true
  ·subst c7
   have H1 : ((r14_SameVars.f k l0_1 l1_1).bind fun t301 => (if t301 = true then ((r14_SameBlocks.f k l0_2 l1_2).bind fun t302 => (if t302 = true then (r16_Same.j0 k ((l0_3.length : Int) != (l1_3.length : Int)) l0_0 l0_1 l0_2 l0_3 l1_0 l1_1 l1_2 l1_3) else (r16_Same.j0 k true l0_0 l0_1 l0_2 l0_3 l1_0 l1_1 l1_2 l1_3))) else (r16_Same.j0 k true l0_0 l0_1 l0_2 l0_3 l1_0 l1_1 l1_2 l1_3))) = some r := by rw [if_pos rfl] at H; exact H
   clear H
   have H := H1
   clear H1
   replace H := Option.bind_eq_some_iff.mp H
   obtain ⟨t301, A80, H⟩ := H
   replace H : (if t301 = true then ((r14_SameBlocks.f k l0_2 l1_2).bind fun t302 => (if t302 = true then (r16_Same.j0 k ((l0_3.length : Int) != (l1_3.length : Int)) l0_0 l0_1 l0_2 l0_3 l1_0 l1_1 l1_2 l1_3) else (r16_Same.j0 k true l0_0 l0_1 l0_2 l0_3 l1_0 l1_1 l1_2 l1_3))) else (r16_Same.j0 k true l0_0 l0_1 l0_2 l0_3 l1_0 l1_1 l1_2 l1_3)) = some r := H
   have A8 := zA A80
   clear A80
   by_cases c9 : t301 = true
   ·subst c9
    have H1 : ((r14_SameBlocks.f k l0_2 l1_2).bind fun t302 => (if t302 = true then (r16_Same.j0 k ((l0_3.length : Int) != (l1_3.length : Int)) l0_0 l0_1 l0_2 l0_3 l1_0 l1_1 l1_2 l1_3) else (r16_Same.j0 k true l0_0 l0_1 l0_2 l0_3 l1_0 l1_1 l1_2 l1_3))) = some r := by rw [if_pos rfl] at H; exact H
    clear H
    have H := H1
    clear H1
    replace H := Option.bind_eq_some_iff.mp H
    obtain ⟨t302, A100, H⟩ := H
    replace H : (if t302 = true then (r16_Same.j0 k ((l0_3.length : Int) != (l1_3.length : Int)) l0_0 l0_1 l0_2 l0_3 l1_0 l1_1 l1_2 l1_3) else (r16_Same.j0 k true l0_0 l0_1 l0_2 l0_3 l1_0 l1_1 l1_2 l1_3)) = some r := H
    have A10 := zA A100
    clear A100
    by_cases c11 : t302 = true
    ·subst c11
     have H1 : (r16_Same.j0 k ((l0_3.length : Int) != (l1_3.length : Int)) l0_0 l0_1 l0_2 l0_3 l1_0 l1_1 l1_2 l1_3) = some r := by rw [if_pos rfl] at H; exact H
     clear H
     have H := H1
     clear H1
     have H' := zA H
     clear H
     have hnb12 := NB298_299.out
     have hnc12 := NB299_298.out
     have hcz13_0 : w5.cell? ⟨gb298, 0, none⟩ = some (.slice A0_0 l0_0.length c0_0) := (zC BK298.out 0).trans rfl
     have hcz13_1 : w5.cell? ⟨gb298, 1, none⟩ = some (.slice A0_1 l0_1.length c0_1) := (zC BK298.out 1).trans rfl
     have hcz13_2 : w5.cell? ⟨gb298, 2, none⟩ = some (.slice A0_2 l0_2.length c0_2) := (zC BK298.out 2).trans rfl
     have hcz13_3 : w5.cell? ⟨gb298, 3, none⟩ = some (.slice A0_3 l0_3.length c0_3) := (zC BK298.out 3).trans rfl
     have hfz13_0 := zF BK298.out 0
     have hfz13_1 := zF BK298.out 1
     have hfz13_2 := zF BK298.out 2
     have hfz13_3 := zF BK298.out 3
     have hcz14_0 : w5.cell? ⟨gb299, 0, none⟩ = some (.slice A1_0 l1_0.length c1_0) := (zC BK299.out 0).trans rfl
     have hcz14_1 : w5.cell? ⟨gb299, 1, none⟩ = some (.slice A1_1 l1_1.length c1_1) := (zC BK299.out 1).trans rfl
     have hcz14_2 : w5.cell? ⟨gb299, 2, none⟩ = some (.slice A1_2 l1_2.length c1_2) := (zC BK299.out 2).trans rfl
     have hcz14_3 : w5.cell? ⟨gb299, 3, none⟩ = some (.slice A1_3 l1_3.length c1_3) := (zC BK299.out 3).trans rfl
     have hfz14_0 := zF BK299.out 0
     have hfz14_1 := zF BK299.out 1
     have hfz14_2 := zF BK299.out 2
     have hfz14_3 := zF BK299.out 3
     go_wp2_with (first | ((with_reducible refine gate_callee (f := 26) rfl ?_); refine goesL_ (some 10) rfl rfl Tryd.func26 (by kernel_rfl) rfl #[.slice A0_0 l0_0.length c0_0, .slice A1_0 l1_0.length c1_0] rfl (by (try simp only [zm, zc, zn]); first | done | rfl | (simp only [zd, zt]; rfl)) ?_; (with_reducible refine (r14_SameConsts.calls k _ _ l0_0 _ _ l1_0 true _ ?side1 ?side2 ?side3 ?side4 A6.out).mono ?_); (case side1 => repeat (first | exact (zD HR0_0.out HB.out))); (case side2 => exact HC0_0.out); (case side3 => repeat (first | exact (zD HR1_0.out HB.out))); (case side4 => exact HC1_0.out); rintro e w' ⟨rfl, ⟨nd, rfl⟩⟩; refine ⟨_, rfl, ?_⟩) | (go_at_call 27; (with_reducible refine (r14_SameVars.calls k _ _ l0_1 _ _ l1_1 true _ ?side1 ?side2 ?side3 ?side4 A8.out).mono ?_); (case side1 => repeat (first | exact (zD HR0_1.out (by repeat (first | (with_reducible first | exact HB.out | apply zB | apply zN | apply below_drew1 | refine zE ?_ GE298.out | refine zE ?_ GE299.out) | exact HB.out))))); (case side2 => exact HC0_1.out); (case side3 => repeat (first | exact (zD HR1_1.out (by repeat (first | (with_reducible first | exact HB.out | apply zB | apply zN | apply below_drew1 | refine zE ?_ GE298.out | refine zE ?_ GE299.out) | exact HB.out))))); (case side4 => exact HC1_1.out); rintro e w' ⟨rfl, ⟨nd, rfl⟩⟩) | (go_at_call 28; (with_reducible refine (r14_SameBlocks.calls k _ _ l0_2 _ _ l1_2 true _ ?side1 ?side2 ?side3 ?side4 A10.out).mono ?_); (case side1 => repeat (first | exact (zD HR0_2.out (by repeat (first | (with_reducible first | exact HB.out | apply zB | apply zN | apply below_drew1 | refine zE ?_ GE298.out | refine zE ?_ GE299.out) | exact HB.out))))); (case side2 => exact HC0_2.out); (case side3 => repeat (first | exact (zD HR1_2.out (by repeat (first | (with_reducible first | exact HB.out | apply zB | apply zN | apply below_drew1 | refine zE ?_ GE298.out | refine zE ?_ GE299.out) | exact HB.out))))); (case side4 => exact HC1_2.out); rintro e w' ⟨rfl, ⟨nd, rfl⟩⟩))
     go_meet
     case rel => exact ⟨_, (((l0_3.length : Int) != (l1_3.length : Int))), (by first | rfl | (simp; done) | (simp [*]; done)), H', ⟨by first | omega | exact z5 _⟩, ⟨by (with_reducible repeat (first | refine zG ?_ _ | refine zH ?_)); exact BK298.out⟩, ⟨by (with_reducible repeat (first | refine zG ?_ _ | refine zH ?_)); exact BK299.out⟩, ⟨by repeat (first | (with_reducible first | exact HB.out | apply zB | apply zN | apply below_drew1 | refine zE ?_ GE298.out | refine zE ?_ GE299.out) | exact HB.out)⟩⟩
    ·replace c11 := Bool.eq_false_iff.mpr c11
     subst c11
     have H1 : (r16_Same.j0 k true l0_0 l0_1 l0_2 l0_3 l1_0 l1_1 l1_2 l1_3) = some r := by rw [if_neg (show ¬ (false = true) by decide)] at H; exact H
     clear H
     have H := H1
     clear H1
     have H' := zA H
     clear H
     have hnb15 := NB298_299.out
     have hnc15 := NB299_298.out
     have hcz16_0 : w5.cell? ⟨gb298, 0, none⟩ = some (.slice A0_0 l0_0.length c0_0) := (zC BK298.out 0).trans rfl
     have hcz16_1 : w5.cell? ⟨gb298, 1, none⟩ = some (.slice A0_1 l0_1.length c0_1) := (zC BK298.out 1).trans rfl
     have hcz16_2 : w5.cell? ⟨gb298, 2, none⟩ = some (.slice A0_2 l0_2.length c0_2) := (zC BK298.out 2).trans rfl
     have hcz16_3 : w5.cell? ⟨gb298, 3, none⟩ = some (.slice A0_3 l0_3.length c0_3) := (zC BK298.out 3).trans rfl
     have hfz16_0 := zF BK298.out 0
     have hfz16_1 := zF BK298.out 1
     have hfz16_2 := zF BK298.out 2
     have hfz16_3 := zF BK298.out 3
     have hcz17_0 : w5.cell? ⟨gb299, 0, none⟩ = some (.slice A1_0 l1_0.length c1_0) := (zC BK299.out 0).trans rfl
     have hcz17_1 : w5.cell? ⟨gb299, 1, none⟩ = some (.slice A1_1 l1_1.length c1_1) := (zC BK299.out 1).trans rfl
     have hcz17_2 : w5.cell? ⟨gb299, 2, none⟩ = some (.slice A1_2 l1_2.length c1_2) := (zC BK299.out 2).trans rfl
     have hcz17_3 : w5.cell? ⟨gb299, 3, none⟩ = some (.slice A1_3 l1_3.length c1_3) := (zC BK299.out 3).trans rfl
     have hfz17_0 := zF BK299.out 0
     have hfz17_1 := zF BK299.out 1
     have hfz17_2 := zF BK299.out 2
     have hfz17_3 := zF BK299.out 3
     go_wp2_with (first | ((with_reducible refine gate_callee (f := 26) rfl ?_); refine goesL_ (some 10) rfl rfl Tryd.func26 (by kernel_rfl) rfl #[.slice A0_0 l0_0.length c0_0, .slice A1_0 l1_0.length c1_0] rfl (by (try simp only [zm, zc, zn]); first | done | rfl | (simp only [zd, zt]; rfl)) ?_; (with_reducible refine (r14_SameConsts.calls k _ _ l0_0 _ _ l1_0 true _ ?side1 ?side2 ?side3 ?side4 A6.out).mono ?_); (case side1 => repeat (first | exact (zD HR0_0.out HB.out))); (case side2 => exact HC0_0.out); (case side3 => repeat (first | exact (zD HR1_0.out HB.out))); (case side4 => exact HC1_0.out); rintro e w' ⟨rfl, ⟨nd, rfl⟩⟩; refine ⟨_, rfl, ?_⟩) | (go_at_call 27; (with_reducible refine (r14_SameVars.calls k _ _ l0_1 _ _ l1_1 true _ ?side1 ?side2 ?side3 ?side4 A8.out).mono ?_); (case side1 => repeat (first | exact (zD HR0_1.out (by repeat (first | (with_reducible first | exact HB.out | apply zB | apply zN | apply below_drew1 | refine zE ?_ GE298.out | refine zE ?_ GE299.out) | exact HB.out))))); (case side2 => exact HC0_1.out); (case side3 => repeat (first | exact (zD HR1_1.out (by repeat (first | (with_reducible first | exact HB.out | apply zB | apply zN | apply below_drew1 | refine zE ?_ GE298.out | refine zE ?_ GE299.out) | exact HB.out))))); (case side4 => exact HC1_1.out); rintro e w' ⟨rfl, ⟨nd, rfl⟩⟩) | (go_at_call 28; (with_reducible refine (r14_SameBlocks.calls k _ _ l0_2 _ _ l1_2 false _ ?side1 ?side2 ?side3 ?side4 A10.out).mono ?_); (case side1 => repeat (first | exact (zD HR0_2.out (by repeat (first | (with_reducible first | exact HB.out | apply zB | apply zN | apply below_drew1 | refine zE ?_ GE298.out | refine zE ?_ GE299.out) | exact HB.out))))); (case side2 => exact HC0_2.out); (case side3 => repeat (first | exact (zD HR1_2.out (by repeat (first | (with_reducible first | exact HB.out | apply zB | apply zN | apply below_drew1 | refine zE ?_ GE298.out | refine zE ?_ GE299.out) | exact HB.out))))); (case side4 => exact HC1_2.out); rintro e w' ⟨rfl, ⟨nd, rfl⟩⟩))
     go_meet
     case rel => exact ⟨_, (true), (by first | rfl | (simp; done) | (simp [*]; done)), H', ⟨by first | omega | exact z5 _⟩, ⟨by (with_reducible repeat (first | refine zG ?_ _ | refine zH ?_)); exact BK298.out⟩, ⟨by (with_reducible repeat (first | refine zG ?_ _ | refine zH ?_)); exact BK299.out⟩, ⟨by repeat (first | (with_reducible first | exact HB.out | apply zB | apply zN | apply below_drew1 | refine zE ?_ GE298.out | refine zE ?_ GE299.out) | exact HB.out)⟩⟩
   ·replace c9 := Bool.eq_false_iff.mpr c9
    subst c9
    have H1 : (r16_Same.j0 k true l0_0 l0_1 l0_2 l0_3 l1_0 l1_1 l1_2 l1_3) = some r := by rw [if_neg (show ¬ (false = true) by decide)] at H; exact H
    clear H
    have H := H1
    clear H1
    have H' := zA H
    clear H
    have hnb18 := NB298_299.out
    have hnc18 := NB299_298.out
    have hcz19_0 : w5.cell? ⟨gb298, 0, none⟩ = some (.slice A0_0 l0_0.length c0_0) := (zC BK298.out 0).trans rfl
    have hcz19_1 : w5.cell? ⟨gb298, 1, none⟩ = some (.slice A0_1 l0_1.length c0_1) := (zC BK298.out 1).trans rfl
    have hcz19_2 : w5.cell? ⟨gb298, 2, none⟩ = some (.slice A0_2 l0_2.length c0_2) := (zC BK298.out 2).trans rfl
    have hcz19_3 : w5.cell? ⟨gb298, 3, none⟩ = some (.slice A0_3 l0_3.length c0_3) := (zC BK298.out 3).trans rfl
    have hfz19_0 := zF BK298.out 0
    have hfz19_1 := zF BK298.out 1
    have hfz19_2 := zF BK298.out 2
    have hfz19_3 := zF BK298.out 3
    have hcz20_0 : w5.cell? ⟨gb299, 0, none⟩ = some (.slice A1_0 l1_0.length c1_0) := (zC BK299.out 0).trans rfl
    have hcz20_1 : w5.cell? ⟨gb299, 1, none⟩ = some (.slice A1_1 l1_1.length c1_1) := (zC BK299.out 1).trans rfl
    have hcz20_2 : w5.cell? ⟨gb299, 2, none⟩ = some (.slice A1_2 l1_2.length c1_2) := (zC BK299.out 2).trans rfl
    have hcz20_3 : w5.cell? ⟨gb299, 3, none⟩ = some (.slice A1_3 l1_3.length c1_3) := (zC BK299.out 3).trans rfl
    have hfz20_0 := zF BK299.out 0
    have hfz20_1 := zF BK299.out 1
    have hfz20_2 := zF BK299.out 2
    have hfz20_3 := zF BK299.out 3
    go_wp2_with (first | ((with_reducible refine gate_callee (f := 26) rfl ?_); refine goesL_ (some 10) rfl rfl Tryd.func26 (by kernel_rfl) rfl #[.slice A0_0 l0_0.length c0_0, .slice A1_0 l1_0.length c1_0] rfl (by (try simp only [zm, zc, zn]); first | done | rfl | (simp only [zd, zt]; rfl)) ?_; (with_reducible refine (r14_SameConsts.calls k _ _ l0_0 _ _ l1_0 true _ ?side1 ?side2 ?side3 ?side4 A6.out).mono ?_); (case side1 => repeat (first | exact (zD HR0_0.out HB.out))); (case side2 => exact HC0_0.out); (case side3 => repeat (first | exact (zD HR1_0.out HB.out))); (case side4 => exact HC1_0.out); rintro e w' ⟨rfl, ⟨nd, rfl⟩⟩; refine ⟨_, rfl, ?_⟩) | (go_at_call 27; (with_reducible refine (r14_SameVars.calls k _ _ l0_1 _ _ l1_1 false _ ?side1 ?side2 ?side3 ?side4 A8.out).mono ?_); (case side1 => repeat (first | exact (zD HR0_1.out (by repeat (first | (with_reducible first | exact HB.out | apply zB | apply zN | apply below_drew1 | refine zE ?_ GE298.out | refine zE ?_ GE299.out) | exact HB.out))))); (case side2 => exact HC0_1.out); (case side3 => repeat (first | exact (zD HR1_1.out (by repeat (first | (with_reducible first | exact HB.out | apply zB | apply zN | apply below_drew1 | refine zE ?_ GE298.out | refine zE ?_ GE299.out) | exact HB.out))))); (case side4 => exact HC1_1.out); rintro e w' ⟨rfl, ⟨nd, rfl⟩⟩))
    go_meet
    case rel => exact ⟨_, (true), (by first | rfl | (simp; done) | (simp [*]; done)), H', ⟨by first | omega | exact z5 _⟩, ⟨by (with_reducible repeat (first | refine zG ?_ _ | refine zH ?_)); exact BK298.out⟩, ⟨by (with_reducible repeat (first | refine zG ?_ _ | refine zH ?_)); exact BK299.out⟩, ⟨by repeat (first | (with_reducible first | exact HB.out | apply zB | apply zN | apply below_drew1 | refine zE ?_ GE298.out | refine zE ?_ GE299.out) | exact HB.out)⟩⟩
  ·replace c7 := Bool.eq_false_iff.mpr c7
   subst c7
   have H1 : (r16_Same.j0 k true l0_0 l0_1 l0_2 l0_3 l1_0 l1_1 l1_2 l1_3) = some r := by rw [if_neg (show ¬ (false = true) by decide)] at H; exact H
   clear H
   have H := H1
   clear H1
   have H' := zA H
   clear H
   have hnb21 := NB298_299.out
   have hnc21 := NB299_298.out
   have hcz22_0 : w5.cell? ⟨gb298, 0, none⟩ = some (.slice A0_0 l0_0.length c0_0) := (zC BK298.out 0).trans rfl
   have hcz22_1 : w5.cell? ⟨gb298, 1, none⟩ = some (.slice A0_1 l0_1.length c0_1) := (zC BK298.out 1).trans rfl
   have hcz22_2 : w5.cell? ⟨gb298, 2, none⟩ = some (.slice A0_2 l0_2.length c0_2) := (zC BK298.out 2).trans rfl
   have hcz22_3 : w5.cell? ⟨gb298, 3, none⟩ = some (.slice A0_3 l0_3.length c0_3) := (zC BK298.out 3).trans rfl
   have hfz22_0 := zF BK298.out 0
   have hfz22_1 := zF BK298.out 1
   have hfz22_2 := zF BK298.out 2
   have hfz22_3 := zF BK298.out 3
   have hcz23_0 : w5.cell? ⟨gb299, 0, none⟩ = some (.slice A1_0 l1_0.length c1_0) := (zC BK299.out 0).trans rfl
   have hcz23_1 : w5.cell? ⟨gb299, 1, none⟩ = some (.slice A1_1 l1_1.length c1_1) := (zC BK299.out 1).trans rfl
   have hcz23_2 : w5.cell? ⟨gb299, 2, none⟩ = some (.slice A1_2 l1_2.length c1_2) := (zC BK299.out 2).trans rfl
   have hcz23_3 : w5.cell? ⟨gb299, 3, none⟩ = some (.slice A1_3 l1_3.length c1_3) := (zC BK299.out 3).trans rfl
   have hfz23_0 := zF BK299.out 0
   have hfz23_1 := zF BK299.out 1
   have hfz23_2 := zF BK299.out 2
   have hfz23_3 := zF BK299.out 3
   go_wp2_with (first | ((with_reducible refine gate_callee (f := 26) rfl ?_); refine goesL_ (some 10) rfl rfl Tryd.func26 (by kernel_rfl) rfl #[.slice A0_0 l0_0.length c0_0, .slice A1_0 l1_0.length c1_0] rfl (by (try simp only [zm, zc, zn]); first | done | rfl | (simp only [zd, zt]; rfl)) ?_; (with_reducible refine (r14_SameConsts.calls k _ _ l0_0 _ _ l1_0 false _ ?side1 ?side2 ?side3 ?side4 A6.out).mono ?_); (case side1 => repeat (first | exact (zD HR0_0.out HB.out))); (case side2 => exact HC0_0.out); (case side3 => repeat (first | exact (zD HR1_0.out HB.out))); (case side4 => exact HC1_0.out); rintro e w' ⟨rfl, ⟨nd, rfl⟩⟩; refine ⟨_, rfl, ?_⟩))
   go_meet
   case rel => exact ⟨_, (true), (by first | rfl | (simp; done) | (simp [*]; done)), H', ⟨by first | omega | exact z5 _⟩, ⟨by (with_reducible repeat (first | refine zG ?_ _ | refine zH ?_)); exact BK298.out⟩, ⟨by (with_reducible repeat (first | refine zG ?_ _ | refine zH ?_)); exact BK299.out⟩, ⟨by repeat (first | (with_reducible first | exact HB.out | apply zB | apply zN | apply below_drew1 | refine zE ?_ GE298.out | refine zE ?_ GE299.out) | exact HB.out)⟩⟩
 case rest =>
  clear HC3
  try clear c1
  try clear c2
  try clear p2
  try clear c7
  try clear c9
  try clear c11
  try clear c12
  try clear c15
  try clear c18
  try clear c21
  try clear hcz13_0
  try clear hcz13_1
  try clear hcz13_2
  try clear hcz13_3
  try clear hcz14_0
  try clear hcz14_1
  try clear hcz14_2
  try clear hcz14_3
  try clear hcz16_0
  try clear hcz16_1
  try clear hcz16_2
  try clear hcz16_3
  try clear hcz17_0
  try clear hcz17_1
  try clear hcz17_2
  try clear hcz17_3
  try clear hcz19_0
  try clear hcz19_1
  try clear hcz19_2
  try clear hcz19_3
  try clear hcz20_0
  try clear hcz20_1
  try clear hcz20_2
  try clear hcz20_3
  try clear hcz22_0
  try clear hcz22_1
  try clear hcz22_2
  try clear hcz22_3
  try clear hcz23_0
  try clear hcz23_1
  try clear hcz23_2
  try clear hcz23_3
  try clear hfz13_0
  try clear hfz13_1
  try clear hfz13_2
  try clear hfz13_3
  try clear hfz14_0
  try clear hfz14_1
  try clear hfz14_2
  try clear hfz14_3
  try clear hfz16_0
  try clear hfz16_1
  try clear hfz16_2
  try clear hfz16_3
  try clear hfz17_0
  try clear hfz17_1
  try clear hfz17_2
  try clear hfz17_3
  try clear hfz19_0
  try clear hfz19_1
  try clear hfz19_2
  try clear hfz19_3
  try clear hfz20_0
  try clear hfz20_1
  try clear hfz20_2
  try clear hfz20_3
  try clear hfz22_0
  try clear hfz22_1
  try clear hfz22_2
  try clear hfz22_3
  try clear hfz23_0
  try clear hfz23_1
  try clear hfz23_2
  try clear hfz23_3
  obtain ⟨kq, x36_2, rfl, HA, HJ2, BK298, BK299, HB⟩ := hcut
  cases kq with
  | zero => exact absurd HA.out (by simp [r16_Same.j0])
  | succ kj2 =>
   have H := HA.out
   clear HA
   simp only [r16_Same.j0] at H
   by_cases c24 : x36_2 = true
   ·subst c24
    have H1 : (some false) = some r := by rw [if_pos rfl] at H; exact H
    clear H
    have H := H1
    clear H1
    obtain rfl := zJ H
    go_wp2
    go_ret
    exact ⟨by first | rfl | (simp [errW_none, errW_some] <;> rfl) | (simp [*, errW_none, errW_some] <;> rfl), by repeat (first | (with_reducible first | exact HB.out | apply zB | apply zN | apply below_drew1 | refine zE ?_ GE298.out | refine zE ?_ GE299.out) | exact HB.out)⟩
   ·replace c24 := Bool.eq_false_iff.mpr c24
    subst c24
    have H1 : (r16_Same.l0 kj2 0 l0_0 l0_1 l0_2 l0_3 l1_0 l1_1 l1_2 l1_3) = some r := by rw [if_neg (show ¬ (false = true) by decide)] at H; exact H
    clear H
    have H := H1
    clear H1
    have H' := zA H
    clear H
    go_wp2
    go_loopg [5] kj2 (fun kq v5 w' => ∃ (x5_2 : Int), v5 = .int .i64 x5_2 ∧ Aside0 (r16_Same.l0 kq x5_2 l0_0 l0_1 l0_2 l0_3 l1_0 l1_1 l1_2 l1_3 = some r) ∧ Aside0 (kq ≤ kj2) ∧ Aside0 (w'.heap[gb298]? = some (.cells #[(.slice A0_0 l0_0.length c0_0), (.slice A0_1 l0_1.length c0_1), (.slice A0_2 l0_2.length c0_2), (.slice A0_3 l0_3.length c0_3)] 27 (0, 0))) ∧ Aside0 (w'.heap[gb299]? = some (.cells #[(.slice A1_0 l1_0.length c1_0), (.slice A1_1 l1_1.length c1_1), (.slice A1_2 l1_2.length c1_2), (.slice A1_3 l1_3.length c1_3)] 27 (0, 0))) ∧ Aside0 (Below w.heap.size w w'))
    case atStart => exact ⟨(0), (by first | rfl | (simp; done) | (simp [*]; done)), H', ⟨z5 _⟩, ⟨by (with_reducible repeat (first | refine zG ?_ _ | refine zH ?_)); exact BK298.out⟩, ⟨by (with_reducible repeat (first | refine zG ?_ _ | refine zH ?_)); exact BK299.out⟩, ⟨by repeat (first | (with_reducible first | exact HB.out | apply zB | apply zN | apply below_drew1 | refine zE ?_ GE298.out | refine zE ?_ GE299.out) | exact HB.out)⟩⟩
    case round =>
     clear H'
     try clear c1
     try clear c2
     try clear p2
     try clear c7
     try clear c9
     try clear c11
     try clear c12
     try clear c15
     try clear c18
     try clear c21
     try clear c24
     try clear hcz13_0
     try clear hcz13_1
     try clear hcz13_2
     try clear hcz13_3
     try clear hcz14_0
     try clear hcz14_1
     try clear hcz14_2
     try clear hcz14_3
     try clear hcz16_0
     try clear hcz16_1
     try clear hcz16_2
     try clear hcz16_3
     try clear hcz17_0
     try clear hcz17_1
     try clear hcz17_2
     try clear hcz17_3
     try clear hcz19_0
     try clear hcz19_1
     try clear hcz19_2
     try clear hcz19_3
     try clear hcz20_0
     try clear hcz20_1
     try clear hcz20_2
     try clear hcz20_3
     try clear hcz22_0
     try clear hcz22_1
     try clear hcz22_2
     try clear hcz22_3
     try clear hcz23_0
     try clear hcz23_1
     try clear hcz23_2
     try clear hcz23_3
     try clear hfz13_0
     try clear hfz13_1
     try clear hfz13_2
     try clear hfz13_3
     try clear hfz14_0
     try clear hfz14_1
     try clear hfz14_2
     try clear hfz14_3
     try clear hfz16_0
     try clear hfz16_1
     try clear hfz16_2
     try clear hfz16_3
     try clear hfz17_0
     try clear hfz17_1
     try clear hfz17_2
     try clear hfz17_3
     try clear hfz19_0
     try clear hfz19_1
     try clear hfz19_2
     try clear hfz19_3
     try clear hfz20_0
     try clear hfz20_1
     try clear hfz20_2
     try clear hfz20_3
     try clear hfz22_0
     try clear hfz22_1
     try clear hfz22_2
     try clear hfz22_3
     try clear hfz23_0
     try clear hfz23_1
     try clear hfz23_2
     try clear hfz23_3
     try clear p2
     obtain ⟨x5_2, rfl, HA, HK2, BK298, BK299, HB⟩ := hrel
     cases gk with
     | zero => exact absurd HA.out (by simp [r16_Same.l0])
     | succ k2 =>
      have H := HA.out
      clear HA
      simp only [r16_Same.l0] at H
      by_cases c25 : x5_2 < (l0_3.length : Int)
      ·rw [if_pos c25] at H
       have c25b0 : decide (x5_2 < (l0_3.length : Int)) = true := decide_eq_true c25
       clear c25
       by_cases c26 : 0 ≤ x5_2
       ·rw [if_pos c26] at H
        have c26b0 : decide (0 ≤ x5_2) = true := decide_eq_true c26
        clear c26
        by_cases c27 : x5_2 < (l1_3.length : Int)
        ·rw [if_pos c27] at H
         have c27b0 : decide (x5_2 < (l1_3.length : Int)) = true := decide_eq_true c27
         clear c27
         replace H := Option.bind_eq_some_iff.mp H
         obtain ⟨t305, A280, H⟩ := H
         replace H : (if t305 = true then (r16_Same.l0 k2 (wrap64 (x5_2 + 1)) l0_0 l0_1 l0_2 l0_3 l1_0 l1_1 l1_2 l1_3) else (some false)) = some r := H
         have A28 := zA A280
         clear A280
         by_cases c29 : t305 = true
         ·subst c29
          have H1 : (r16_Same.l0 k2 (wrap64 (x5_2 + 1)) l0_0 l0_1 l0_2 l0_3 l1_0 l1_1 l1_2 l1_3) = some r := by rw [if_pos rfl] at H; exact H
          clear H
          have H := H1
          clear H1
          have H' := zA H
          clear H
          have hnb30 := NB298_299.out
          have hnc30 := NB299_298.out
          have hcz31_0 : wr.cell? ⟨gb298, 0, none⟩ = some (.slice A0_0 l0_0.length c0_0) := (zC BK298.out 0).trans rfl
          have hcz31_1 : wr.cell? ⟨gb298, 1, none⟩ = some (.slice A0_1 l0_1.length c0_1) := (zC BK298.out 1).trans rfl
          have hcz31_2 : wr.cell? ⟨gb298, 2, none⟩ = some (.slice A0_2 l0_2.length c0_2) := (zC BK298.out 2).trans rfl
          have hcz31_3 : wr.cell? ⟨gb298, 3, none⟩ = some (.slice A0_3 l0_3.length c0_3) := (zC BK298.out 3).trans rfl
          have hfz31_0 := zF BK298.out 0
          have hfz31_1 := zF BK298.out 1
          have hfz31_2 := zF BK298.out 2
          have hfz31_3 := zF BK298.out 3
          try go_wp2
          replace BK298 := zA (zH BK298.out)
          replace BK299 := zA (zH BK299.out)
          replace HB := zA (below_drew1 HB.out)
          have p303 : 0 ≤ (x5_2 : Int) := zO (by first | (with_reducible assumption) | assumption)
          have q303 : x5_2 < (l0_3.length : Int) := zO (by first | (with_reducible assumption) | assumption)
          obtain ⟨ad303, A303_1, c303_1, A303_3, c303_3, A303_4, c303_4, e303, hx303_0, hx303_1, hx303_2, hx303_3, hx303_4, hl303_1, hi303_1, hl303_3, hi303_3, hl303_4, hi303_4⟩ := at_T48 HR0_3.out x5_2 p303 q303
          have hw303_4 := hx303_4
          have hw303_3 := hx303_3
          have hw303_2 := hx303_2
          have hw303_1 := hx303_1
          have hw303_0 := hx303_0
          cases e303
          replace hx303_0 := (HB.out.cell (zL w _ hx303_0)).trans hx303_0
          replace hx303_1 := (HB.out.cell (zL w _ hx303_1)).trans hx303_1
          replace hx303_2 := (HB.out.cell (zL w _ hx303_2)).trans hx303_2
          replace hx303_3 := (HB.out.cell (zL w _ hx303_3)).trans hx303_3
          replace hx303_4 := (HB.out.cell (zL w _ hx303_4)).trans hx303_4
          have HR303_1 := zA hi303_1
          have HC303_1 := zA hl303_1
          clear hi303_1 hl303_1
          have HR303_3 := zA hi303_3
          have HC303_3 := zA hl303_3
          clear hi303_3 hl303_3
          have HR303_4 := zA hi303_4
          have HC303_4 := zA hl303_4
          clear hi303_4 hl303_4
          replace p303 := eq_true p303
          replace q303 := eq_true q303
          have p304 : 0 ≤ (x5_2 : Int) := zO (by first | (with_reducible assumption) | assumption)
          have q304 : x5_2 < (l1_3.length : Int) := zO (by first | (with_reducible assumption) | assumption)
          obtain ⟨ad304, A304_1, c304_1, A304_3, c304_3, A304_4, c304_4, e304, hx304_0, hx304_1, hx304_2, hx304_3, hx304_4, hl304_1, hi304_1, hl304_3, hi304_3, hl304_4, hi304_4⟩ := at_T48 HR1_3.out x5_2 p304 q304
          have hw304_4 := hx304_4
          have hw304_3 := hx304_3
          have hw304_2 := hx304_2
          have hw304_1 := hx304_1
          have hw304_0 := hx304_0
          cases e304
          replace hx304_0 := (HB.out.cell (zL w _ hx304_0)).trans hx304_0
          replace hx304_1 := (HB.out.cell (zL w _ hx304_1)).trans hx304_1
          replace hx304_2 := (HB.out.cell (zL w _ hx304_2)).trans hx304_2
          replace hx304_3 := (HB.out.cell (zL w _ hx304_3)).trans hx304_3
          replace hx304_4 := (HB.out.cell (zL w _ hx304_4)).trans hx304_4
          have HR304_1 := zA hi304_1
          have HC304_1 := zA hl304_1
          clear hi304_1 hl304_1
          have HR304_3 := zA hi304_3
          have HC304_3 := zA hl304_3
          clear hi304_3 hl304_3
          have HR304_4 := zA hi304_4
          have HC304_4 := zA hl304_4
          clear hi304_4 hl304_4
          replace p304 := eq_true p304
          replace q304 := eq_true q304
          refine start_ (n := 12) (S := fun w' => w'.cell? ⟨gb298, 0, none⟩ = some (.slice A0_0 l0_0.length c0_0) ∧ w'.cell? ⟨gb298, 1, none⟩ = some (.slice A0_1 l0_1.length c0_1) ∧ w'.cell? ⟨gb298, 2, none⟩ = some (.slice A0_2 l0_2.length c0_2) ∧ w'.cell? ⟨gb298, 3, none⟩ = some (.slice (some ad303) l0_3.length c0_3) ∧ w'.cell? ⟨gb299, 0, none⟩ = some (.slice A1_0 l1_0.length c1_0) ∧ w'.cell? ⟨gb299, 1, none⟩ = some (.slice A1_1 l1_1.length c1_1) ∧ w'.cell? ⟨gb299, 2, none⟩ = some (.slice A1_2 l1_2.length c1_2) ∧ w'.cell? ⟨gb299, 3, none⟩ = some (.slice (some ad304) l1_3.length c1_3) ∧ w'.cell? (ad303.add ((x5_2).toNat * 5)) = some (.string ((rd_T48 l0_3 x5_2).f0)) ∧ w'.cell? ⟨(ad303.add ((x5_2).toNat * 5)).block, (ad303.add ((x5_2).toNat * 5)).off + 1, none⟩ = some (.slice A303_1 ((rd_T48 l0_3 x5_2).f1).length c303_1) ∧ w'.cell? ⟨(ad303.add ((x5_2).toNat * 5)).block, (ad303.add ((x5_2).toNat * 5)).off + 2, none⟩ = some (.int .i64 ((rd_T48 l0_3 x5_2).f2)) ∧ w'.cell? ⟨(ad303.add ((x5_2).toNat * 5)).block, (ad303.add ((x5_2).toNat * 5)).off + 3, none⟩ = some (.slice A303_3 ((rd_T48 l0_3 x5_2).f3).length c303_3) ∧ w'.cell? ⟨(ad303.add ((x5_2).toNat * 5)).block, (ad303.add ((x5_2).toNat * 5)).off + 4, none⟩ = some (.slice A303_4 ((rd_T48 l0_3 x5_2).f4).length c303_4) ∧ w'.cell? (ad304.add ((x5_2).toNat * 5)) = some (.string ((rd_T48 l1_3 x5_2).f0)) ∧ w'.cell? ⟨(ad304.add ((x5_2).toNat * 5)).block, (ad304.add ((x5_2).toNat * 5)).off + 1, none⟩ = some (.slice A304_1 ((rd_T48 l1_3 x5_2).f1).length c304_1) ∧ w'.cell? ⟨(ad304.add ((x5_2).toNat * 5)).block, (ad304.add ((x5_2).toNat * 5)).off + 2, none⟩ = some (.int .i64 ((rd_T48 l1_3 x5_2).f2)) ∧ w'.cell? ⟨(ad304.add ((x5_2).toNat * 5)).block, (ad304.add ((x5_2).toNat * 5)).off + 3, none⟩ = some (.slice A304_3 ((rd_T48 l1_3 x5_2).f3).length c304_3) ∧ w'.cell? ⟨(ad304.add ((x5_2).toNat * 5)).block, (ad304.add ((x5_2).toNat * 5)).off + 4, none⟩ = some (.slice A304_4 ((rd_T48 l1_3 x5_2).f4).length c304_4)) (ds := []) #[false, false, false, false, false, false, false, false, false, false, false, false] (by kernel_rfl) rfl rfl ⟨(zC BK298.out 0).trans rfl, (zC BK298.out 1).trans rfl, (zC BK298.out 2).trans rfl, (zC BK298.out 3).trans rfl, (zC BK299.out 0).trans rfl, (zC BK299.out 1).trans rfl, (zC BK299.out 2).trans rfl, (zC BK299.out 3).trans rfl, ((HB.out.cell (zL w _ hw303_0)).trans hw303_0), ((HB.out.cell (zL w _ hw303_1)).trans hw303_1), ((HB.out.cell (zL w _ hw303_2)).trans hw303_2), ((HB.out.cell (zL w _ hw303_3)).trans hw303_3), ((HB.out.cell (zL w _ hw303_4)).trans hw303_4), ((HB.out.cell (zL w _ hw304_0)).trans hw304_0), ((HB.out.cell (zL w _ hw304_1)).trans hw304_1), ((HB.out.cell (zL w _ hw304_2)).trans hw304_2), ((HB.out.cell (zL w _ hw304_3)).trans hw304_3), ((HB.out.cell (zL w _ hw304_4)).trans hw304_4)⟩ (fun hHeld => ?_); refine with_tabW r16_Same.tab6 r16_Same.bits6 (fun HT_ HW_ => ?_)
          generalize wr.drew = w32 at BK298 BK299 HB HR303_1 HR303_3 HR303_4 HR304_1 HR304_3 HR304_4 hx303_0 hx303_1 hx303_2 hx303_3 hx303_4 hx304_0 hx304_1 hx304_2 hx304_3 hx304_4 hHeld ⊢
          refine pure_ (i := 0) (N := some 44) (v := ?_) (a' := ?_) #[true, false, false, false, false, false, false, false, false, false, false, false] rfl rfl (any_of HT_.out (by kernel_rfl)) (fun _ _ _ h => h) (Or.inl ⟨by rfl, ?_⟩) ?_ ?_
          rotate_left
          ·intro w'
           go_simp
           with_reducible rfl
          rotate_left
          ·simp only [Act.put, zY, List.set_cons_zero, z2, i64_w, i32_w]
           rfl
          refine pure_ (i := 2) (N := some 46) (v := ?_) (a' := ?_) #[true, false, true, false, false, false, false, false, false, false, false, false] rfl rfl (any_of HT_.out (by kernel_rfl)) (fun _ _ _ h => h) (Or.inl ⟨by rfl, ?_⟩) ?_ ?_
          rotate_left
          ·intro w'
           go_simp
           with_reducible rfl
          rotate_left
          ·simp only [Act.put, zY, List.set_cons_zero, z2, i64_w, i32_w]
           rfl
          refine pure_ (i := 5) (N := some 49) (v := ?_) (a' := ?_) #[true, false, true, false, false, true, false, false, false, false, false, false] rfl rfl (any_of HT_.out (by kernel_rfl)) (fun _ _ _ h => h) (Or.inl ⟨by rfl, ?_⟩) ?_ ?_
          rotate_left
          ·intro w'
           go_simp
           with_reducible rfl
          rotate_left
          ·simp only [Act.put, zY, List.set_cons_zero, z2, i64_w, i32_w]
           rfl
          refine pure_ (i := 7) (N := some 51) (v := ?_) (a' := ?_) #[true, false, true, false, false, true, false, true, false, false, false, false] rfl rfl (any_of HT_.out (by kernel_rfl)) (fun _ _ _ h => h) (Or.inl ⟨by rfl, ?_⟩) ?_ ?_
          rotate_left
          ·intro w'
           go_simp
           with_reducible rfl
          rotate_left
          ·simp only [Act.put, zY, List.set_cons_zero, z2, i64_w, i32_w]
           rfl
          refine take_ (i := 1) (N := some 45) (v := ?_) (a' := ?_) #[true, true, true, false, false, true, false, true, false, false, false, false] rfl rfl (take_ofW HT_.out HW_.out (by kernel_rfl)) (fun _ _ _ h => h) (Or.inl ⟨by rfl, ?_⟩) hHeld ?_ ?_
          rotate_left
          ·rintro w' ⟨s0, s1, s2, s3, s4, s5, s6, s7, s8, s9, s10, s11, s12, s13, s14, s15, s16, s17⟩
           go_simp
           with_reducible rfl
          rotate_left
          ·simp only [Act.put, zY, List.set_cons_zero, z2, i64_w, i32_w]
           rfl
          refine pure_ (i := 3) (N := some 47) (v := ?_) (a' := ?_) #[true, true, true, true, false, true, false, true, false, false, false, false] rfl rfl (any_of HT_.out (by kernel_rfl)) (fun _ _ _ h => h) (Or.inl ⟨by rfl, ?_⟩) ?_ ?_
          rotate_left
          ·intro w'
           go_simp
           with_reducible rfl
          rotate_left
          ·simp only [Act.put, zY, List.set_cons_zero, z2, i64_w, i32_w]
           rfl
          refine take_ (i := 4) (N := some 48) (v := ?_) (a' := ?_) #[true, true, true, true, true, true, false, true, false, false, false, false] rfl rfl (take_ofW HT_.out HW_.out (by kernel_rfl)) (fun _ _ _ h => h) (Or.inl ⟨by rfl, ?_⟩) hHeld ?_ ?_
          rotate_left
          ·rintro w' ⟨s0, s1, s2, s3, s4, s5, s6, s7, s8, s9, s10, s11, s12, s13, s14, s15, s16, s17⟩
           go_simp
           with_reducible rfl
          rotate_left
          ·simp only [Act.put, zY, List.set_cons_zero, z2, i64_w, i32_w]
           rfl
          refine take_ (i := 6) (N := some 50) (v := ?_) (a' := ?_) #[true, true, true, true, true, true, true, true, false, false, false, false] rfl rfl (take_ofW HT_.out HW_.out (by kernel_rfl)) (fun _ _ _ h => h) (Or.inl ⟨by rfl, ?_⟩) hHeld ?_ ?_
          rotate_left
          ·rintro w' ⟨s0, s1, s2, s3, s4, s5, s6, s7, s8, s9, s10, s11, s12, s13, s14, s15, s16, s17⟩
           go_simp
           with_reducible rfl
          rotate_left
          ·simp only [Act.put, zY, List.set_cons_zero, z2, i64_w, i32_w]
           rfl
          refine pure_ (i := 8) (N := some 52) (v := ?_) (a' := ?_) #[true, true, true, true, true, true, true, true, true, false, false, false] rfl rfl (any_of HT_.out (by kernel_rfl)) (fun _ _ _ h => h) (Or.inl ⟨by rfl, ?_⟩) ?_ ?_
          rotate_left
          ·intro w'
           go_simp
           with_reducible rfl
          rotate_left
          ·simp only [Act.put, zY, List.set_cons_zero, z2, i64_w, i32_w]
           rfl
          refine take_ (i := 9) (N := some 53) (v := ?_) (a' := ?_) #[true, true, true, true, true, true, true, true, true, true, false, false] rfl rfl (take_ofW HT_.out HW_.out (by kernel_rfl)) (fun _ _ _ h => h) (Or.inl ⟨by rfl, ?_⟩) hHeld ?_ ?_
          rotate_left
          ·rintro w' ⟨s0, s1, s2, s3, s4, s5, s6, s7, s8, s9, s10, s11, s12, s13, s14, s15, s16, s17⟩
           go_simp
           with_reducible rfl
          rotate_left
          ·simp only [Act.put, zY, List.set_cons_zero, z2, i64_w, i32_w]
           rfl
          refine one_ (i := 10) (N := some 54) #[true, true, true, true, true, true, true, true, true, true, true, false] rfl rfl (one_of HT_.out (by kernel_rfl)) (by decide) (fun K hK => ?_)
          refine goes_ Tryd.func29 (by kernel_rfl) rfl #[.agg #[.string ((rd_T48 l0_3 x5_2).f0), .slice A303_1 ((rd_T48 l0_3 x5_2).f1).length c303_1, .int .i64 ((rd_T48 l0_3 x5_2).f2), .slice A303_3 ((rd_T48 l0_3 x5_2).f3).length c303_3, .slice A303_4 ((rd_T48 l0_3 x5_2).f4).length c303_4], .agg #[.string ((rd_T48 l1_3 x5_2).f0), .slice A304_1 ((rd_T48 l1_3 x5_2).f1).length c304_1, .int .i64 ((rd_T48 l1_3 x5_2).f2), .slice A304_3 ((rd_T48 l1_3 x5_2).f3).length c304_3, .slice A304_4 ((rd_T48 l1_3 x5_2).f4).length c304_4]] (by rfl) rfl rfl (by (try simp only [zm, zc, zn]); first | done | rfl | (simp only [zd, zt]; rfl)) ?_
          with_reducible refine (r15_Same.calls k2 ((rd_T48 l0_3 x5_2).f0) _ _ ((rd_T48 l0_3 x5_2).f1) ((rd_T48 l0_3 x5_2).f2) _ _ ((rd_T48 l0_3 x5_2).f3) _ _ ((rd_T48 l0_3 x5_2).f4) ((rd_T48 l1_3 x5_2).f0) _ _ ((rd_T48 l1_3 x5_2).f1) ((rd_T48 l1_3 x5_2).f2) _ _ ((rd_T48 l1_3 x5_2).f3) _ _ ((rd_T48 l1_3 x5_2).f4) true _ ?side1 ?side2 ?side3 ?side4 ?side5 ?side6 ?side7 ?side8 ?side9 ?side10 ?side11 ?side12 A28.out).mono ?_
          (case side1 => repeat (first | exact (zD HR303_1.out HB.out)))
          (case side2 => exact HC303_1.out)
          (case side3 => repeat (first | exact (zD HR303_3.out HB.out)))
          (case side4 => exact HC303_3.out)
          (case side5 => repeat (first | exact (zD HR303_4.out HB.out)))
          (case side6 => exact HC303_4.out)
          (case side7 => repeat (first | exact (zD HR304_1.out HB.out)))
          (case side8 => exact HC304_1.out)
          (case side9 => repeat (first | exact (zD HR304_3.out HB.out)))
          (case side10 => exact HC304_3.out)
          (case side11 => repeat (first | exact (zD HR304_4.out HB.out)))
          (case side12 => exact HC304_4.out)
          rintro e w33 ⟨rfl, hb⟩
          refine ⟨_, rfl, ?_⟩
          replace BK298 := zA (zQ (g := gb298) (o := .cells #[.slice A0_0 l0_0.length c0_0, .slice A0_1 l0_1.length c0_1, .slice A0_2 l0_2.length c0_2, .slice (some ad303) l0_3.length c0_3] 27 (0, 0)) (by (with_reducible repeat (first | refine zG ?_ _ | refine zH ?_)); exact BK298.out) hb)
          replace BK299 := zA (zQ (g := gb299) (o := .cells #[.slice A1_0 l1_0.length c1_0, .slice A1_1 l1_1.length c1_1, .slice A1_2 l1_2.length c1_2, .slice (some ad304) l1_3.length c1_3] 27 (0, 0)) (by (with_reducible repeat (first | refine zG ?_ _ | refine zH ?_)); exact BK299.out) hb)
          replace HB := zA (below_step (by repeat (first | (with_reducible first | exact HB.out | apply zB | apply zN | apply below_drew1 | refine zE ?_ GE298.out | refine zE ?_ GE299.out) | exact HB.out)) hb)
          (try clear hb)
          (try clear hb2)
          (try clear hk)
          (try clear hi)
          refine hK.out _ _ ⟨(zC BK298.out 0).trans rfl, (zC BK298.out 1).trans rfl, (zC BK298.out 2).trans rfl, (zC BK298.out 3).trans rfl, (zC BK299.out 0).trans rfl, (zC BK299.out 1).trans rfl, (zC BK299.out 2).trans rfl, (zC BK299.out 3).trans rfl, ((HB.out.cell (zL w _ hw303_0)).trans hw303_0), ((HB.out.cell (zL w _ hw303_1)).trans hw303_1), ((HB.out.cell (zL w _ hw303_2)).trans hw303_2), ((HB.out.cell (zL w _ hw303_3)).trans hw303_3), ((HB.out.cell (zL w _ hw303_4)).trans hw303_4), ((HB.out.cell (zL w _ hw304_0)).trans hw304_0), ((HB.out.cell (zL w _ hw304_1)).trans hw304_1), ((HB.out.cell (zL w _ hw304_2)).trans hw304_2), ((HB.out.cell (zL w _ hw304_3)).trans hw304_3), ((HB.out.cell (zL w _ hw304_4)).trans hw304_4)⟩ (fun hHeld => ?_)
          clear hK K
          refine norm_ (a' := ?_) ?_ ?_
          rotate_left
          ·show Act.put _ (some 54) _ = _
           simp only [Act.put, zY, List.set_cons_zero, z2, i64_w, i32_w]
           rfl
          refine pure_ (i := 11) (N := some 55) (v := ?_) (a' := ?_) #[true, true, true, true, true, true, true, true, true, true, true, true] rfl rfl (any_of HT_.out (by kernel_rfl)) (fun _ _ _ h => h) (Or.inl ⟨by rfl, ?_⟩) ?_ ?_
          rotate_left
          ·intro w'
           go_simp
           with_reducible rfl
          rotate_left
          ·simp only [Act.put, zY, List.set_cons_zero, z2, i64_w, i32_w]
           rfl
          refine done_ (done_of HT_.out (by kernel_rfl)) ?_
          try go_wp2
          go_roundg k2
          case measure => have := HJ2.out; have := HK2.out; omega
          case rel => exact ⟨(wrap64 (x5_2 + 1)), (by first | rfl | (simp; done) | (simp [*]; done)), H', ⟨by have := HJ2.out; have := HK2.out; omega⟩, ⟨by (with_reducible repeat (first | refine zG ?_ _ | refine zH ?_)); exact BK298.out⟩, ⟨by (with_reducible repeat (first | refine zG ?_ _ | refine zH ?_)); exact BK299.out⟩, ⟨by repeat (first | (with_reducible first | exact HB.out | apply zB | apply zN | apply below_drew1 | refine zE ?_ GE298.out | refine zE ?_ GE299.out) | exact HB.out)⟩⟩
         ·replace c29 := Bool.eq_false_iff.mpr c29
          subst c29
          have H1 : (some false) = some r := by rw [if_neg (show ¬ (false = true) by decide)] at H; exact H
          clear H
          have H := H1
          clear H1
          obtain rfl := zJ H
          have hnb34 := NB298_299.out
          have hnc34 := NB299_298.out
          have hcz35_0 : wr.cell? ⟨gb298, 0, none⟩ = some (.slice A0_0 l0_0.length c0_0) := (zC BK298.out 0).trans rfl
          have hcz35_1 : wr.cell? ⟨gb298, 1, none⟩ = some (.slice A0_1 l0_1.length c0_1) := (zC BK298.out 1).trans rfl
          have hcz35_2 : wr.cell? ⟨gb298, 2, none⟩ = some (.slice A0_2 l0_2.length c0_2) := (zC BK298.out 2).trans rfl
          have hcz35_3 : wr.cell? ⟨gb298, 3, none⟩ = some (.slice A0_3 l0_3.length c0_3) := (zC BK298.out 3).trans rfl
          have hfz35_0 := zF BK298.out 0
          have hfz35_1 := zF BK298.out 1
          have hfz35_2 := zF BK298.out 2
          have hfz35_3 := zF BK298.out 3
          try go_wp2
          replace BK298 := zA (zH BK298.out)
          replace BK299 := zA (zH BK299.out)
          replace HB := zA (below_drew1 HB.out)
          have p303 : 0 ≤ (x5_2 : Int) := zO (by first | (with_reducible assumption) | assumption)
          have q303 : x5_2 < (l0_3.length : Int) := zO (by first | (with_reducible assumption) | assumption)
          obtain ⟨ad303, A303_1, c303_1, A303_3, c303_3, A303_4, c303_4, e303, hx303_0, hx303_1, hx303_2, hx303_3, hx303_4, hl303_1, hi303_1, hl303_3, hi303_3, hl303_4, hi303_4⟩ := at_T48 HR0_3.out x5_2 p303 q303
          have hw303_4 := hx303_4
          have hw303_3 := hx303_3
          have hw303_2 := hx303_2
          have hw303_1 := hx303_1
          have hw303_0 := hx303_0
          cases e303
          replace hx303_0 := (HB.out.cell (zL w _ hx303_0)).trans hx303_0
          replace hx303_1 := (HB.out.cell (zL w _ hx303_1)).trans hx303_1
          replace hx303_2 := (HB.out.cell (zL w _ hx303_2)).trans hx303_2
          replace hx303_3 := (HB.out.cell (zL w _ hx303_3)).trans hx303_3
          replace hx303_4 := (HB.out.cell (zL w _ hx303_4)).trans hx303_4
          have HR303_1 := zA hi303_1
          have HC303_1 := zA hl303_1
          clear hi303_1 hl303_1
          have HR303_3 := zA hi303_3
          have HC303_3 := zA hl303_3
          clear hi303_3 hl303_3
          have HR303_4 := zA hi303_4
          have HC303_4 := zA hl303_4
          clear hi303_4 hl303_4
          replace p303 := eq_true p303
          replace q303 := eq_true q303
          have p304 : 0 ≤ (x5_2 : Int) := zO (by first | (with_reducible assumption) | assumption)
          have q304 : x5_2 < (l1_3.length : Int) := zO (by first | (with_reducible assumption) | assumption)
          obtain ⟨ad304, A304_1, c304_1, A304_3, c304_3, A304_4, c304_4, e304, hx304_0, hx304_1, hx304_2, hx304_3, hx304_4, hl304_1, hi304_1, hl304_3, hi304_3, hl304_4, hi304_4⟩ := at_T48 HR1_3.out x5_2 p304 q304
          have hw304_4 := hx304_4
          have hw304_3 := hx304_3
          have hw304_2 := hx304_2
          have hw304_1 := hx304_1
          have hw304_0 := hx304_0
          cases e304
          replace hx304_0 := (HB.out.cell (zL w _ hx304_0)).trans hx304_0
          replace hx304_1 := (HB.out.cell (zL w _ hx304_1)).trans hx304_1
          replace hx304_2 := (HB.out.cell (zL w _ hx304_2)).trans hx304_2
          replace hx304_3 := (HB.out.cell (zL w _ hx304_3)).trans hx304_3
          replace hx304_4 := (HB.out.cell (zL w _ hx304_4)).trans hx304_4
          have HR304_1 := zA hi304_1
          have HC304_1 := zA hl304_1
          clear hi304_1 hl304_1
          have HR304_3 := zA hi304_3
          have HC304_3 := zA hl304_3
          clear hi304_3 hl304_3
          have HR304_4 := zA hi304_4
          have HC304_4 := zA hl304_4
          clear hi304_4 hl304_4
          replace p304 := eq_true p304
          replace q304 := eq_true q304
          refine start_ (n := 12) (S := fun w' => w'.cell? ⟨gb298, 0, none⟩ = some (.slice A0_0 l0_0.length c0_0) ∧ w'.cell? ⟨gb298, 1, none⟩ = some (.slice A0_1 l0_1.length c0_1) ∧ w'.cell? ⟨gb298, 2, none⟩ = some (.slice A0_2 l0_2.length c0_2) ∧ w'.cell? ⟨gb298, 3, none⟩ = some (.slice (some ad303) l0_3.length c0_3) ∧ w'.cell? ⟨gb299, 0, none⟩ = some (.slice A1_0 l1_0.length c1_0) ∧ w'.cell? ⟨gb299, 1, none⟩ = some (.slice A1_1 l1_1.length c1_1) ∧ w'.cell? ⟨gb299, 2, none⟩ = some (.slice A1_2 l1_2.length c1_2) ∧ w'.cell? ⟨gb299, 3, none⟩ = some (.slice (some ad304) l1_3.length c1_3) ∧ w'.cell? (ad303.add ((x5_2).toNat * 5)) = some (.string ((rd_T48 l0_3 x5_2).f0)) ∧ w'.cell? ⟨(ad303.add ((x5_2).toNat * 5)).block, (ad303.add ((x5_2).toNat * 5)).off + 1, none⟩ = some (.slice A303_1 ((rd_T48 l0_3 x5_2).f1).length c303_1) ∧ w'.cell? ⟨(ad303.add ((x5_2).toNat * 5)).block, (ad303.add ((x5_2).toNat * 5)).off + 2, none⟩ = some (.int .i64 ((rd_T48 l0_3 x5_2).f2)) ∧ w'.cell? ⟨(ad303.add ((x5_2).toNat * 5)).block, (ad303.add ((x5_2).toNat * 5)).off + 3, none⟩ = some (.slice A303_3 ((rd_T48 l0_3 x5_2).f3).length c303_3) ∧ w'.cell? ⟨(ad303.add ((x5_2).toNat * 5)).block, (ad303.add ((x5_2).toNat * 5)).off + 4, none⟩ = some (.slice A303_4 ((rd_T48 l0_3 x5_2).f4).length c303_4) ∧ w'.cell? (ad304.add ((x5_2).toNat * 5)) = some (.string ((rd_T48 l1_3 x5_2).f0)) ∧ w'.cell? ⟨(ad304.add ((x5_2).toNat * 5)).block, (ad304.add ((x5_2).toNat * 5)).off + 1, none⟩ = some (.slice A304_1 ((rd_T48 l1_3 x5_2).f1).length c304_1) ∧ w'.cell? ⟨(ad304.add ((x5_2).toNat * 5)).block, (ad304.add ((x5_2).toNat * 5)).off + 2, none⟩ = some (.int .i64 ((rd_T48 l1_3 x5_2).f2)) ∧ w'.cell? ⟨(ad304.add ((x5_2).toNat * 5)).block, (ad304.add ((x5_2).toNat * 5)).off + 3, none⟩ = some (.slice A304_3 ((rd_T48 l1_3 x5_2).f3).length c304_3) ∧ w'.cell? ⟨(ad304.add ((x5_2).toNat * 5)).block, (ad304.add ((x5_2).toNat * 5)).off + 4, none⟩ = some (.slice A304_4 ((rd_T48 l1_3 x5_2).f4).length c304_4)) (ds := []) #[false, false, false, false, false, false, false, false, false, false, false, false] (by kernel_rfl) rfl rfl ⟨(zC BK298.out 0).trans rfl, (zC BK298.out 1).trans rfl, (zC BK298.out 2).trans rfl, (zC BK298.out 3).trans rfl, (zC BK299.out 0).trans rfl, (zC BK299.out 1).trans rfl, (zC BK299.out 2).trans rfl, (zC BK299.out 3).trans rfl, ((HB.out.cell (zL w _ hw303_0)).trans hw303_0), ((HB.out.cell (zL w _ hw303_1)).trans hw303_1), ((HB.out.cell (zL w _ hw303_2)).trans hw303_2), ((HB.out.cell (zL w _ hw303_3)).trans hw303_3), ((HB.out.cell (zL w _ hw303_4)).trans hw303_4), ((HB.out.cell (zL w _ hw304_0)).trans hw304_0), ((HB.out.cell (zL w _ hw304_1)).trans hw304_1), ((HB.out.cell (zL w _ hw304_2)).trans hw304_2), ((HB.out.cell (zL w _ hw304_3)).trans hw304_3), ((HB.out.cell (zL w _ hw304_4)).trans hw304_4)⟩ (fun hHeld => ?_); refine with_tabW r16_Same.tab6 r16_Same.bits6 (fun HT_ HW_ => ?_)
          generalize wr.drew = w36 at BK298 BK299 HB HR303_1 HR303_3 HR303_4 HR304_1 HR304_3 HR304_4 hx303_0 hx303_1 hx303_2 hx303_3 hx303_4 hx304_0 hx304_1 hx304_2 hx304_3 hx304_4 hHeld ⊢
          refine pure_ (i := 0) (N := some 44) (v := ?_) (a' := ?_) #[true, false, false, false, false, false, false, false, false, false, false, false] rfl rfl (any_of HT_.out (by kernel_rfl)) (fun _ _ _ h => h) (Or.inl ⟨by rfl, ?_⟩) ?_ ?_
          rotate_left
          ·intro w'
           go_simp
           with_reducible rfl
          rotate_left
          ·simp only [Act.put, zY, List.set_cons_zero, z2, i64_w, i32_w]
           rfl
          refine pure_ (i := 2) (N := some 46) (v := ?_) (a' := ?_) #[true, false, true, false, false, false, false, false, false, false, false, false] rfl rfl (any_of HT_.out (by kernel_rfl)) (fun _ _ _ h => h) (Or.inl ⟨by rfl, ?_⟩) ?_ ?_
          rotate_left
          ·intro w'
           go_simp
           with_reducible rfl
          rotate_left
          ·simp only [Act.put, zY, List.set_cons_zero, z2, i64_w, i32_w]
           rfl
          refine pure_ (i := 5) (N := some 49) (v := ?_) (a' := ?_) #[true, false, true, false, false, true, false, false, false, false, false, false] rfl rfl (any_of HT_.out (by kernel_rfl)) (fun _ _ _ h => h) (Or.inl ⟨by rfl, ?_⟩) ?_ ?_
          rotate_left
          ·intro w'
           go_simp
           with_reducible rfl
          rotate_left
          ·simp only [Act.put, zY, List.set_cons_zero, z2, i64_w, i32_w]
           rfl
          refine pure_ (i := 7) (N := some 51) (v := ?_) (a' := ?_) #[true, false, true, false, false, true, false, true, false, false, false, false] rfl rfl (any_of HT_.out (by kernel_rfl)) (fun _ _ _ h => h) (Or.inl ⟨by rfl, ?_⟩) ?_ ?_
          rotate_left
          ·intro w'
           go_simp
           with_reducible rfl
          rotate_left
          ·simp only [Act.put, zY, List.set_cons_zero, z2, i64_w, i32_w]
           rfl
          refine take_ (i := 1) (N := some 45) (v := ?_) (a' := ?_) #[true, true, true, false, false, true, false, true, false, false, false, false] rfl rfl (take_ofW HT_.out HW_.out (by kernel_rfl)) (fun _ _ _ h => h) (Or.inl ⟨by rfl, ?_⟩) hHeld ?_ ?_
          rotate_left
          ·rintro w' ⟨s0, s1, s2, s3, s4, s5, s6, s7, s8, s9, s10, s11, s12, s13, s14, s15, s16, s17⟩
           go_simp
           with_reducible rfl
          rotate_left
          ·simp only [Act.put, zY, List.set_cons_zero, z2, i64_w, i32_w]
           rfl
          refine pure_ (i := 3) (N := some 47) (v := ?_) (a' := ?_) #[true, true, true, true, false, true, false, true, false, false, false, false] rfl rfl (any_of HT_.out (by kernel_rfl)) (fun _ _ _ h => h) (Or.inl ⟨by rfl, ?_⟩) ?_ ?_
          rotate_left
          ·intro w'
           go_simp
           with_reducible rfl
          rotate_left
          ·simp only [Act.put, zY, List.set_cons_zero, z2, i64_w, i32_w]
           rfl
          refine take_ (i := 4) (N := some 48) (v := ?_) (a' := ?_) #[true, true, true, true, true, true, false, true, false, false, false, false] rfl rfl (take_ofW HT_.out HW_.out (by kernel_rfl)) (fun _ _ _ h => h) (Or.inl ⟨by rfl, ?_⟩) hHeld ?_ ?_
          rotate_left
          ·rintro w' ⟨s0, s1, s2, s3, s4, s5, s6, s7, s8, s9, s10, s11, s12, s13, s14, s15, s16, s17⟩
           go_simp
           with_reducible rfl
          rotate_left
          ·simp only [Act.put, zY, List.set_cons_zero, z2, i64_w, i32_w]
           rfl
          refine take_ (i := 6) (N := some 50) (v := ?_) (a' := ?_) #[true, true, true, true, true, true, true, true, false, false, false, false] rfl rfl (take_ofW HT_.out HW_.out (by kernel_rfl)) (fun _ _ _ h => h) (Or.inl ⟨by rfl, ?_⟩) hHeld ?_ ?_
          rotate_left
          ·rintro w' ⟨s0, s1, s2, s3, s4, s5, s6, s7, s8, s9, s10, s11, s12, s13, s14, s15, s16, s17⟩
           go_simp
           with_reducible rfl
          rotate_left
          ·simp only [Act.put, zY, List.set_cons_zero, z2, i64_w, i32_w]
           rfl
          refine pure_ (i := 8) (N := some 52) (v := ?_) (a' := ?_) #[true, true, true, true, true, true, true, true, true, false, false, false] rfl rfl (any_of HT_.out (by kernel_rfl)) (fun _ _ _ h => h) (Or.inl ⟨by rfl, ?_⟩) ?_ ?_
          rotate_left
          ·intro w'
           go_simp
           with_reducible rfl
          rotate_left
          ·simp only [Act.put, zY, List.set_cons_zero, z2, i64_w, i32_w]
           rfl
          refine take_ (i := 9) (N := some 53) (v := ?_) (a' := ?_) #[true, true, true, true, true, true, true, true, true, true, false, false] rfl rfl (take_ofW HT_.out HW_.out (by kernel_rfl)) (fun _ _ _ h => h) (Or.inl ⟨by rfl, ?_⟩) hHeld ?_ ?_
          rotate_left
          ·rintro w' ⟨s0, s1, s2, s3, s4, s5, s6, s7, s8, s9, s10, s11, s12, s13, s14, s15, s16, s17⟩
           go_simp
           with_reducible rfl
          rotate_left
          ·simp only [Act.put, zY, List.set_cons_zero, z2, i64_w, i32_w]
           rfl
          refine one_ (i := 10) (N := some 54) #[true, true, true, true, true, true, true, true, true, true, true, false] rfl rfl (one_of HT_.out (by kernel_rfl)) (by decide) (fun K hK => ?_)
          refine goes_ Tryd.func29 (by kernel_rfl) rfl #[.agg #[.string ((rd_T48 l0_3 x5_2).f0), .slice A303_1 ((rd_T48 l0_3 x5_2).f1).length c303_1, .int .i64 ((rd_T48 l0_3 x5_2).f2), .slice A303_3 ((rd_T48 l0_3 x5_2).f3).length c303_3, .slice A303_4 ((rd_T48 l0_3 x5_2).f4).length c303_4], .agg #[.string ((rd_T48 l1_3 x5_2).f0), .slice A304_1 ((rd_T48 l1_3 x5_2).f1).length c304_1, .int .i64 ((rd_T48 l1_3 x5_2).f2), .slice A304_3 ((rd_T48 l1_3 x5_2).f3).length c304_3, .slice A304_4 ((rd_T48 l1_3 x5_2).f4).length c304_4]] (by rfl) rfl rfl (by (try simp only [zm, zc, zn]); first | done | rfl | (simp only [zd, zt]; rfl)) ?_
          with_reducible refine (r15_Same.calls k2 ((rd_T48 l0_3 x5_2).f0) _ _ ((rd_T48 l0_3 x5_2).f1) ((rd_T48 l0_3 x5_2).f2) _ _ ((rd_T48 l0_3 x5_2).f3) _ _ ((rd_T48 l0_3 x5_2).f4) ((rd_T48 l1_3 x5_2).f0) _ _ ((rd_T48 l1_3 x5_2).f1) ((rd_T48 l1_3 x5_2).f2) _ _ ((rd_T48 l1_3 x5_2).f3) _ _ ((rd_T48 l1_3 x5_2).f4) false _ ?side1 ?side2 ?side3 ?side4 ?side5 ?side6 ?side7 ?side8 ?side9 ?side10 ?side11 ?side12 A28.out).mono ?_
          (case side1 => repeat (first | exact (zD HR303_1.out HB.out)))
          (case side2 => exact HC303_1.out)
          (case side3 => repeat (first | exact (zD HR303_3.out HB.out)))
          (case side4 => exact HC303_3.out)
          (case side5 => repeat (first | exact (zD HR303_4.out HB.out)))
          (case side6 => exact HC303_4.out)
          (case side7 => repeat (first | exact (zD HR304_1.out HB.out)))
          (case side8 => exact HC304_1.out)
          (case side9 => repeat (first | exact (zD HR304_3.out HB.out)))
          (case side10 => exact HC304_3.out)
          (case side11 => repeat (first | exact (zD HR304_4.out HB.out)))
          (case side12 => exact HC304_4.out)
          rintro e w37 ⟨rfl, hb⟩
          refine ⟨_, rfl, ?_⟩
          replace BK298 := zA (zQ (g := gb298) (o := .cells #[.slice A0_0 l0_0.length c0_0, .slice A0_1 l0_1.length c0_1, .slice A0_2 l0_2.length c0_2, .slice (some ad303) l0_3.length c0_3] 27 (0, 0)) (by (with_reducible repeat (first | refine zG ?_ _ | refine zH ?_)); exact BK298.out) hb)
          replace BK299 := zA (zQ (g := gb299) (o := .cells #[.slice A1_0 l1_0.length c1_0, .slice A1_1 l1_1.length c1_1, .slice A1_2 l1_2.length c1_2, .slice (some ad304) l1_3.length c1_3] 27 (0, 0)) (by (with_reducible repeat (first | refine zG ?_ _ | refine zH ?_)); exact BK299.out) hb)
          replace HB := zA (below_step (by repeat (first | (with_reducible first | exact HB.out | apply zB | apply zN | apply below_drew1 | refine zE ?_ GE298.out | refine zE ?_ GE299.out) | exact HB.out)) hb)
          (try clear hb)
          (try clear hb2)
          (try clear hk)
          (try clear hi)
          refine hK.out _ _ ⟨(zC BK298.out 0).trans rfl, (zC BK298.out 1).trans rfl, (zC BK298.out 2).trans rfl, (zC BK298.out 3).trans rfl, (zC BK299.out 0).trans rfl, (zC BK299.out 1).trans rfl, (zC BK299.out 2).trans rfl, (zC BK299.out 3).trans rfl, ((HB.out.cell (zL w _ hw303_0)).trans hw303_0), ((HB.out.cell (zL w _ hw303_1)).trans hw303_1), ((HB.out.cell (zL w _ hw303_2)).trans hw303_2), ((HB.out.cell (zL w _ hw303_3)).trans hw303_3), ((HB.out.cell (zL w _ hw303_4)).trans hw303_4), ((HB.out.cell (zL w _ hw304_0)).trans hw304_0), ((HB.out.cell (zL w _ hw304_1)).trans hw304_1), ((HB.out.cell (zL w _ hw304_2)).trans hw304_2), ((HB.out.cell (zL w _ hw304_3)).trans hw304_3), ((HB.out.cell (zL w _ hw304_4)).trans hw304_4)⟩ (fun hHeld => ?_)
          clear hK K
          refine norm_ (a' := ?_) ?_ ?_
          rotate_left
          ·show Act.put _ (some 54) _ = _
           simp only [Act.put, zY, List.set_cons_zero, z2, i64_w, i32_w]
           rfl
          refine pure_ (i := 11) (N := some 55) (v := ?_) (a' := ?_) #[true, true, true, true, true, true, true, true, true, true, true, true] rfl rfl (any_of HT_.out (by kernel_rfl)) (fun _ _ _ h => h) (Or.inl ⟨by rfl, ?_⟩) ?_ ?_
          rotate_left
          ·intro w'
           go_simp
           with_reducible rfl
          rotate_left
          ·simp only [Act.put, zY, List.set_cons_zero, z2, i64_w, i32_w]
           rfl
          refine done_ (done_of HT_.out (by kernel_rfl)) ?_
          try go_wp2
          go_ret
          exact ⟨by first | rfl | (simp [errW_none, errW_some] <;> rfl) | (simp [*, errW_none, errW_some] <;> rfl), by repeat (first | (with_reducible first | exact HB.out | apply zB | apply zN | apply below_drew1 | refine zE ?_ GE298.out | refine zE ?_ GE299.out) | exact HB.out)⟩
        ·rw [if_neg c27] at H
         exact absurd H (by simp)
       ·rw [if_neg c26] at H
        exact absurd H (by simp)
      ·rw [if_neg c25] at H
       have c25b0 : decide (x5_2 < (l0_3.length : Int)) = false := decide_eq_false c25
       clear c25
       obtain rfl := zJ H
       have hnb38 := NB298_299.out
       have hnc38 := NB299_298.out
       have hcz39_0 : wr.cell? ⟨gb298, 0, none⟩ = some (.slice A0_0 l0_0.length c0_0) := (zC BK298.out 0).trans rfl
       have hcz39_1 : wr.cell? ⟨gb298, 1, none⟩ = some (.slice A0_1 l0_1.length c0_1) := (zC BK298.out 1).trans rfl
       have hcz39_2 : wr.cell? ⟨gb298, 2, none⟩ = some (.slice A0_2 l0_2.length c0_2) := (zC BK298.out 2).trans rfl
       have hcz39_3 : wr.cell? ⟨gb298, 3, none⟩ = some (.slice A0_3 l0_3.length c0_3) := (zC BK298.out 3).trans rfl
       have hfz39_0 := zF BK298.out 0
       have hfz39_1 := zF BK298.out 1
       have hfz39_2 := zF BK298.out 2
       have hfz39_3 := zF BK298.out 3
       go_wp2
       go_ret
       exact ⟨by first | rfl | (simp [errW_none, errW_some] <;> rfl) | (simp [*, errW_none, errW_some] <;> rfl), by repeat (first | (with_reducible first | exact HB.out | apply zB | apply zN | apply below_drew1 | refine zE ?_ GE298.out | refine zE ?_ GE299.out) | exact HB.out)⟩

end Go.Proofs.YtdbfgfgbjheibaaDoor.PBx
