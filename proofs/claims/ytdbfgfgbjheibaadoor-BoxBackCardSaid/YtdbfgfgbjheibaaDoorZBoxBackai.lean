/- The reader of octets, as the program reads: a text, what is left, where it is, whether it's bad, and a new one; any reader that is not past its end. -/
import Derived.Test.YtdbfgfgbjheibaaDoorZBoxBackq
import Derived.LaidLaws
import Derived.Lib.LaidTab
import Derived.OpenShut
import Derived.Test.YtdbfgfgbjheibaaDoorRows
import Derived.Defers
import Derived.Recover
import Derived.Deep.QuietTactic
import Derived.BigQuiet
import Derived.IntWalk
import Derived.Test.YtdbfgfgbjheibaaDoorZBoxBackaa
import Derived.Test.YtdbfgfgbjheibaaDoorZBoxBackab
import Derived.Test.YtdbfgfgbjheibaaDoorZBoxBackaf
import Derived.Test.YtdbfgfgbjheibaaDoorZBoxBackah
section
/- Printed by a program of this session (wip/pg.py, over the print of the kit): functions, their Lean twins, and the proofs that the calls come to them; each under the conditions that it names. -/
namespace Go.Proofs.YtdbfgfgbjheibaaDoor.PBx
open Go.RowKit Go.Proofs.YtdbfgfgbjheibaaDoorW.PrintWords Go.Proofs.YtdbfgfgbjheibaaDoorW.PrintLast Go.Proofs.YtdbfgfgbjheibaaDoorW.PrintMore
attribute [local go_sem] max2_int min2_int max_two min_two max_three min_three max_four min_four   -- for this text's walks alone
set_option linter.unusedVariables false
set_option linter.unusedSimpArgs false

/-! ### w16_Few: function 7 -/
mutual
def w16_Few.j0 : Nat → Bool → List (S68) → List (S41) → List (S43) → List (S48) → Option (Bool)
 | 0, _, _, _, _, _ => none
 | k + 1, x27, x103000, x103001, x103002, x103003 => if x27 = true then (some false) else (w16_Few.l0 k 0 x103000 x103001 x103002 x103003)
def w16_Few.l0 : Nat → Int → List (S68) → List (S41) → List (S43) → List (S48) → Option (Bool)
 | 0, _, _, _, _, _ => none
 | k + 1, x3, x103000, x103001, x103002, x103003 => if x3 < (x103001.length : Int) then (if 0 ≤ x3 then (if (((rd_T41 x103001 x3).f0).size : Int) > 300 then (some false) else (w16_Few.l0 k (wrap64 (x3 + 1)) x103000 x103001 x103002 x103003)) else (none)) else (w16_Few.l1 k 0 x103000 x103001 x103002 x103003)
def w16_Few.l1 : Nat → Int → List (S68) → List (S41) → List (S43) → List (S48) → Option (Bool)
 | 0, _, _, _, _, _ => none
 | k + 1, x4, x103000, x103001, x103002, x103003 => if x4 < (x103002.length : Int) then (if 0 ≤ x4 then (if (((rd_T43 x103002 x4).f0).size : Int) > 300 then (some false) else (w16_Few.l1 k (wrap64 (x4 + 1)) x103000 x103001 x103002 x103003)) else (none)) else (w16_Few.l2 k 0 x103000 x103001 x103002 x103003)
def w16_Few.l2 : Nat → Int → List (S68) → List (S41) → List (S43) → List (S48) → Option (Bool)
 | 0, _, _, _, _, _ => none
 | k + 1, x5, x103000, x103001, x103002, x103003 => if x5 < (x103003.length : Int) then (if 0 ≤ x5 then ((w15_Few.f ((rd_T48 x103003 x5).f0) ((rd_T48 x103003 x5).f1) ((rd_T48 x103003 x5).f2) ((rd_T48 x103003 x5).f3) ((rd_T48 x103003 x5).f4)).bind fun t106 => (if t106 = true then (w16_Few.l2 k (wrap64 (x5 + 1)) x103000 x103001 x103002 x103003) else (some false))) else (none)) else (some true)
end
def w16_Few.f (k : Nat) (l0_0 : List (S68)) (l0_1 : List (S41)) (l0_2 : List (S43)) (l0_3 : List (S48)) : Option (Bool) := if (l0_0.length : Int) > 60 then (w16_Few.j0 k true l0_0 l0_1 l0_2 l0_3) else (if (l0_1.length : Int) > 70 then (w16_Few.j0 k true l0_0 l0_1 l0_2 l0_3) else (if (l0_2.length : Int) > 40 then (w16_Few.j0 k true l0_0 l0_1 l0_2 l0_3) else (w16_Few.j0 k (decide ((l0_3.length : Int) > 10)) l0_0 l0_1 l0_2 l0_3)))
theorem w16_Few.mono_l : ∀ k, (∀ y0 y1 y2 y3 y4, LeO (w16_Few.j0 k y0 y1 y2 y3 y4) (w16_Few.j0 (k + 1) y0 y1 y2 y3 y4)) ∧ (∀ y0 y1 y2 y3 y4, LeO (w16_Few.l0 k y0 y1 y2 y3 y4) (w16_Few.l0 (k + 1) y0 y1 y2 y3 y4)) ∧ (∀ y0 y1 y2 y3 y4, LeO (w16_Few.l1 k y0 y1 y2 y3 y4) (w16_Few.l1 (k + 1) y0 y1 y2 y3 y4)) ∧ (∀ y0 y1 y2 y3 y4, LeO (w16_Few.l2 k y0 y1 y2 y3 y4) (w16_Few.l2 (k + 1) y0 y1 y2 y3 y4))
 | 0 => ⟨fun _ _ _ _ _ r h => by simp [w16_Few.j0] at h, fun _ _ _ _ _ r h => by simp [w16_Few.l0] at h, fun _ _ _ _ _ r h => by simp [w16_Few.l1] at h, fun _ _ _ _ _ r h => by simp [w16_Few.l2] at h⟩
 | k + 1 => by
  obtain ⟨ih0, ih1, ih2, ih3⟩ := w16_Few.mono_l k
  refine ⟨?_, ?_, ?_, ?_⟩
  ·intro y0 y1 y2 y3 y4
   unfold w16_Few.j0
   repeat' first
   | (with_reducible exact ih0 _ _ _ _ _)
   | (with_reducible exact ih1 _ _ _ _ _)
   | (with_reducible exact ih2 _ _ _ _ _)
   | (with_reducible exact ih3 _ _ _ _ _)
   | (with_reducible exact LeO.refl _)
   | (with_reducible exact LeO.none _)
   | (with_reducible refine LeO.ite ?_ ?_)
   | (with_reducible refine LeO.bind ?_ (fun _ => ?_))
   | exact ih0 _ _ _ _ _
   | exact ih1 _ _ _ _ _
   | exact ih2 _ _ _ _ _
   | exact ih3 _ _ _ _ _
   | exact LeO.none _
   | refine LeO.ite ?_ ?_
   | refine LeO.bind ?_ (fun _ => ?_)
  ·intro y0 y1 y2 y3 y4
   unfold w16_Few.l0
   repeat' first
   | (with_reducible exact ih0 _ _ _ _ _)
   | (with_reducible exact ih1 _ _ _ _ _)
   | (with_reducible exact ih2 _ _ _ _ _)
   | (with_reducible exact ih3 _ _ _ _ _)
   | (with_reducible exact LeO.refl _)
   | (with_reducible exact LeO.none _)
   | (with_reducible refine LeO.ite ?_ ?_)
   | (with_reducible refine LeO.bind ?_ (fun _ => ?_))
   | exact ih0 _ _ _ _ _
   | exact ih1 _ _ _ _ _
   | exact ih2 _ _ _ _ _
   | exact ih3 _ _ _ _ _
   | exact LeO.none _
   | refine LeO.ite ?_ ?_
   | refine LeO.bind ?_ (fun _ => ?_)
  ·intro y0 y1 y2 y3 y4
   unfold w16_Few.l1
   repeat' first
   | (with_reducible exact ih0 _ _ _ _ _)
   | (with_reducible exact ih1 _ _ _ _ _)
   | (with_reducible exact ih2 _ _ _ _ _)
   | (with_reducible exact ih3 _ _ _ _ _)
   | (with_reducible exact LeO.refl _)
   | (with_reducible exact LeO.none _)
   | (with_reducible refine LeO.ite ?_ ?_)
   | (with_reducible refine LeO.bind ?_ (fun _ => ?_))
   | exact ih0 _ _ _ _ _
   | exact ih1 _ _ _ _ _
   | exact ih2 _ _ _ _ _
   | exact ih3 _ _ _ _ _
   | exact LeO.none _
   | refine LeO.ite ?_ ?_
   | refine LeO.bind ?_ (fun _ => ?_)
  ·intro y0 y1 y2 y3 y4
   unfold w16_Few.l2
   repeat' first
   | (with_reducible exact ih0 _ _ _ _ _)
   | (with_reducible exact ih1 _ _ _ _ _)
   | (with_reducible exact ih2 _ _ _ _ _)
   | (with_reducible exact ih3 _ _ _ _ _)
   | (with_reducible exact LeO.refl _)
   | (with_reducible exact LeO.none _)
   | (with_reducible refine LeO.ite ?_ ?_)
   | (with_reducible refine LeO.bind ?_ (fun _ => ?_))
   | exact ih0 _ _ _ _ _
   | exact ih1 _ _ _ _ _
   | exact ih2 _ _ _ _ _
   | exact ih3 _ _ _ _ _
   | exact LeO.none _
   | refine LeO.ite ?_ ?_
   | refine LeO.bind ?_ (fun _ => ?_)
theorem w16_Few.mono : ∀ a0 a1 a2 a3 k, LeO (w16_Few.f k a0 a1 a2 a3) (w16_Few.f (k + 1) a0 a1 a2 a3) := by
 intro a0 a1 a2 a3 k
 obtain ⟨ih0, ih1, ih2, ih3⟩ := w16_Few.mono_l k
 unfold w16_Few.f
 repeat' first
   | (with_reducible exact ih0 _ _ _ _ _)
   | (with_reducible exact ih1 _ _ _ _ _)
   | (with_reducible exact ih2 _ _ _ _ _)
   | (with_reducible exact ih3 _ _ _ _ _)
   | (with_reducible exact LeO.refl _)
   | (with_reducible exact LeO.none _)
   | (with_reducible refine LeO.ite ?_ ?_)
   | (with_reducible refine LeO.bind ?_ (fun _ => ?_))
   | exact ih0 _ _ _ _ _
   | exact ih1 _ _ _ _ _
   | exact ih2 _ _ _ _ _
   | exact ih3 _ _ _ _ _
   | exact LeO.none _
   | refine LeO.ite ?_ ?_
   | refine LeO.bind ?_ (fun _ => ?_)
set_option maxHeartbeats 8000000 in
set_option maxRecDepth 100000 in
theorem w16_Few.calls (k : Nat) (A0_0 : Option Addr) (c0_0 : Nat) (l0_0 : List (S68)) (A0_1 : Option Addr) (c0_1 : Nat) (l0_1 : List (S41)) (A0_2 : Option Addr) (c0_2 : Nat) (l0_2 : List (S43)) (A0_3 : Option Addr) (c0_3 : Nat) (l0_3 : List (S48)) (r : Bool) (w : World) (hr0_0 : Kd.C k68 w A0_0 l0_0.length l0_0) (hc0_0 : l0_0.length ≤ c0_0) (hr0_1 : Kd.C k41 w A0_1 l0_1.length l0_1) (hc0_1 : l0_1.length ≤ c0_1) (hr0_2 : Kd.C k43 w A0_2 l0_2.length l0_2) (hc0_2 : l0_2.length ≤ c0_2) (hr0_3 : Kd.C k48 w A0_3 l0_3.length l0_3) (hc0_3 : l0_3.length ≤ c0_3) (h : w16_Few.f k l0_0 l0_1 l0_2 l0_3 = some r) :
  Calls Tryd.prog 7 #[.agg #[.slice A0_0 l0_0.length c0_0, .slice A0_1 l0_1.length c0_1, .slice A0_2 l0_2.length c0_2, .slice A0_3 l0_3.length c0_3]] w fun e w' => e = .returned (.bool r) ∧ Below w.heap.size w w' := by
 have hu27 := Tryd.underlying27
 have hu48 := Tryd.underlying48
 have HR0_0 := zA hr0_0
 have HC0_0 := zA hc0_0
 clear hr0_0 hc0_0
 have HR0_1 := zA hr0_1
 have HC0_1 := zA hc0_1
 clear hr0_1 hc0_1
 have HR0_2 := zA hr0_2
 have HC0_2 := zA hc0_2
 clear hr0_2 hc0_2
 have HR0_3 := zA hr0_3
 have HC0_3 := zA hc0_3
 clear hr0_3 hc0_3
 have HB := zA (zX w.heap.size w)
 have H : (if (l0_0.length : Int) > 60 then (w16_Few.j0 k true l0_0 l0_1 l0_2 l0_3) else (if (l0_1.length : Int) > 70 then (w16_Few.j0 k true l0_0 l0_1 l0_2 l0_3) else (if (l0_2.length : Int) > 40 then (w16_Few.j0 k true l0_0 l0_1 l0_2 l0_3) else (w16_Few.j0 k (decide ((l0_3.length : Int) > 10)) l0_0 l0_1 l0_2 l0_3)))) = some r := h
 clear h
 have HC2 := zA H
 clear H
 go_enter Tryd.func7, Tryd.ntmps7
 go_upto_region 1 with (first | ((with_reducible refine gate_dst (N := 1) rfl ?_); (try (refine gate_guard (by rfl) ?_; dsimp only)); refine box_event ?hg (N := 1) ?hd (cs := #[.slice A0_0 l0_0.length c0_0, .slice A0_1 l0_1.length c0_1, .slice A0_2 l0_2.length c0_2, .slice A0_3 l0_3.length c0_3]) (t := 27) ?hr ?_; (case hd => rfl); (case hg => rfl); (case hr => first | (go_simp; done) | (go_simp; rfl)); intro gb102 hg w3 hbox hb; have BK102 := zA (hbox); have GW102 := zA ((by rw [hg]; exact (below_size (by repeat (first | (with_reducible first | exact HB.out | apply zB | apply zN | apply below_drew1) | exact HB.out))) : w.heap.size ≤ gb102)); have GE102 := GW102; replace HB := zA (below_step (by repeat (first | (with_reducible first | exact HB.out | apply zB | apply zN | apply below_drew1) | exact HB.out)) hb); clear hb hbox hg))
 (try simp only [Act.put, zY, List.set_cons_zero, z2])
 go_cut [27] (fun v27 wc => ∃ (kq : Nat) (x27_1 : Bool), v27 = .bool x27_1 ∧ Aside0 (w16_Few.j0 kq x27_1 l0_0 l0_1 l0_2 l0_3 = some r) ∧ Aside0 (kq ≤ k) ∧ Aside0 (wc.heap[gb102]? = some (.cells #[(.slice A0_0 l0_0.length c0_0), (.slice A0_1 l0_1.length c0_1), (.slice A0_2 l0_2.length c0_2), (.slice A0_3 l0_3.length c0_3)] 27 (0, 0))) ∧ Aside0 (Below w.heap.size w wc))
 case first =>
  have H := HC2.out
  clear HC2
  by_cases c4 : (l0_0.length : Int) > 60
  ·rw [if_pos c4] at H
   have c4b0 : decide (60 < (l0_0.length : Int)) = true := decide_eq_true c4
   have c4b1 : decide (60 < l0_0.length) = true := decide_eq_true (by omega)
   clear c4
   (first | rw [c4b0] | (simp only [i64_w, i32_w]; rw [c4b0]) | skip)
   have H' := zA H
   clear H
   have hcz5_0 : w3.cell? ⟨gb102, 0, none⟩ = some (.slice A0_0 l0_0.length c0_0) := (zC BK102.out 0).trans rfl
   have hcz5_1 : w3.cell? ⟨gb102, 1, none⟩ = some (.slice A0_1 l0_1.length c0_1) := (zC BK102.out 1).trans rfl
   have hcz5_2 : w3.cell? ⟨gb102, 2, none⟩ = some (.slice A0_2 l0_2.length c0_2) := (zC BK102.out 2).trans rfl
   have hcz5_3 : w3.cell? ⟨gb102, 3, none⟩ = some (.slice A0_3 l0_3.length c0_3) := (zC BK102.out 3).trans rfl
   have hfz5_0 := zF BK102.out 0
   have hfz5_1 := zF BK102.out 1
   have hfz5_2 := zF BK102.out 2
   have hfz5_3 := zF BK102.out 3
   go_wp2
   go_meet
   case rel => exact ⟨_, (true), (by first | rfl | (simp; done) | (simp [*]; done)), H', ⟨by first | omega | exact z5 _⟩, ⟨by (with_reducible repeat (first | refine zG ?_ _ | refine zH ?_)); exact BK102.out⟩, ⟨by repeat (first | (with_reducible first | exact HB.out | apply zB | apply zN | apply below_drew1 | refine zE ?_ GE102.out) | exact HB.out)⟩⟩
  ·rw [if_neg c4] at H
   have c4b0 : decide (60 < (l0_0.length : Int)) = false := decide_eq_false c4
   have c4b1 : decide (60 < l0_0.length) = false := decide_eq_false (by omega)
   clear c4
   (first | rw [c4b0] | (simp only [i64_w, i32_w]; rw [c4b0]) | skip)
   by_cases c6 : (l0_1.length : Int) > 70
   ·rw [if_pos c6] at H
    have c6b0 : decide (70 < (l0_1.length : Int)) = true := decide_eq_true c6
    have c6b1 : decide (70 < l0_1.length) = true := decide_eq_true (by omega)
    clear c6
    have H' := zA H
    clear H
    have hcz7_0 : w3.cell? ⟨gb102, 0, none⟩ = some (.slice A0_0 l0_0.length c0_0) := (zC BK102.out 0).trans rfl
    have hcz7_1 : w3.cell? ⟨gb102, 1, none⟩ = some (.slice A0_1 l0_1.length c0_1) := (zC BK102.out 1).trans rfl
    have hcz7_2 : w3.cell? ⟨gb102, 2, none⟩ = some (.slice A0_2 l0_2.length c0_2) := (zC BK102.out 2).trans rfl
    have hcz7_3 : w3.cell? ⟨gb102, 3, none⟩ = some (.slice A0_3 l0_3.length c0_3) := (zC BK102.out 3).trans rfl
    have hfz7_0 := zF BK102.out 0
    have hfz7_1 := zF BK102.out 1
    have hfz7_2 := zF BK102.out 2
    have hfz7_3 := zF BK102.out 3
    go_wp2
    go_meet
    case rel => exact ⟨_, (true), (by first | rfl | (simp; done) | (simp [*]; done)), H', ⟨by first | omega | exact z5 _⟩, ⟨by (with_reducible repeat (first | refine zG ?_ _ | refine zH ?_)); exact BK102.out⟩, ⟨by repeat (first | (with_reducible first | exact HB.out | apply zB | apply zN | apply below_drew1 | refine zE ?_ GE102.out) | exact HB.out)⟩⟩
   ·rw [if_neg c6] at H
    have c6b0 : decide (70 < (l0_1.length : Int)) = false := decide_eq_false c6
    have c6b1 : decide (70 < l0_1.length) = false := decide_eq_false (by omega)
    clear c6
    by_cases c8 : (l0_2.length : Int) > 40
    ·rw [if_pos c8] at H
     have c8b0 : decide (40 < (l0_2.length : Int)) = true := decide_eq_true c8
     have c8b1 : decide (40 < l0_2.length) = true := decide_eq_true (by omega)
     clear c8
     have H' := zA H
     clear H
     have hcz9_0 : w3.cell? ⟨gb102, 0, none⟩ = some (.slice A0_0 l0_0.length c0_0) := (zC BK102.out 0).trans rfl
     have hcz9_1 : w3.cell? ⟨gb102, 1, none⟩ = some (.slice A0_1 l0_1.length c0_1) := (zC BK102.out 1).trans rfl
     have hcz9_2 : w3.cell? ⟨gb102, 2, none⟩ = some (.slice A0_2 l0_2.length c0_2) := (zC BK102.out 2).trans rfl
     have hcz9_3 : w3.cell? ⟨gb102, 3, none⟩ = some (.slice A0_3 l0_3.length c0_3) := (zC BK102.out 3).trans rfl
     have hfz9_0 := zF BK102.out 0
     have hfz9_1 := zF BK102.out 1
     have hfz9_2 := zF BK102.out 2
     have hfz9_3 := zF BK102.out 3
     go_wp2
     go_meet
     case rel => exact ⟨_, (true), (by first | rfl | (simp; done) | (simp [*]; done)), H', ⟨by first | omega | exact z5 _⟩, ⟨by (with_reducible repeat (first | refine zG ?_ _ | refine zH ?_)); exact BK102.out⟩, ⟨by repeat (first | (with_reducible first | exact HB.out | apply zB | apply zN | apply below_drew1 | refine zE ?_ GE102.out) | exact HB.out)⟩⟩
    ·rw [if_neg c8] at H
     have c8b0 : decide (40 < (l0_2.length : Int)) = false := decide_eq_false c8
     have c8b1 : decide (40 < l0_2.length) = false := decide_eq_false (by omega)
     clear c8
     have H' := zA H
     clear H
     have hcz10_0 : w3.cell? ⟨gb102, 0, none⟩ = some (.slice A0_0 l0_0.length c0_0) := (zC BK102.out 0).trans rfl
     have hcz10_1 : w3.cell? ⟨gb102, 1, none⟩ = some (.slice A0_1 l0_1.length c0_1) := (zC BK102.out 1).trans rfl
     have hcz10_2 : w3.cell? ⟨gb102, 2, none⟩ = some (.slice A0_2 l0_2.length c0_2) := (zC BK102.out 2).trans rfl
     have hcz10_3 : w3.cell? ⟨gb102, 3, none⟩ = some (.slice A0_3 l0_3.length c0_3) := (zC BK102.out 3).trans rfl
     have hfz10_0 := zF BK102.out 0
     have hfz10_1 := zF BK102.out 1
     have hfz10_2 := zF BK102.out 2
     have hfz10_3 := zF BK102.out 3
     go_wp2
     go_meet
     case rel => exact ⟨_, (decide ((l0_3.length : Int) > 10)), (by first | rfl | (simp; done) | (simp [*]; done)), H', ⟨by first | omega | exact z5 _⟩, ⟨by (with_reducible repeat (first | refine zG ?_ _ | refine zH ?_)); exact BK102.out⟩, ⟨by repeat (first | (with_reducible first | exact HB.out | apply zB | apply zN | apply below_drew1 | refine zE ?_ GE102.out) | exact HB.out)⟩⟩
 case rest =>
  clear HC2
  try clear p2
  try clear c4
  try clear c4b0
  try clear c4b1
  try clear c6
  try clear c6b0
  try clear c6b1
  try clear c7
  try clear c8
  try clear c8b0
  try clear c8b1
  try clear hcz10_0
  try clear hcz10_1
  try clear hcz10_2
  try clear hcz10_3
  try clear hcz5_0
  try clear hcz5_1
  try clear hcz5_2
  try clear hcz5_3
  try clear hcz7_0
  try clear hcz7_1
  try clear hcz7_2
  try clear hcz7_3
  try clear hcz9_0
  try clear hcz9_1
  try clear hcz9_2
  try clear hcz9_3
  try clear hfz10_0
  try clear hfz10_1
  try clear hfz10_2
  try clear hfz10_3
  try clear hfz5_0
  try clear hfz5_1
  try clear hfz5_2
  try clear hfz5_3
  try clear hfz7_0
  try clear hfz7_1
  try clear hfz7_2
  try clear hfz7_3
  try clear hfz9_0
  try clear hfz9_1
  try clear hfz9_2
  try clear hfz9_3
  obtain ⟨kq, x27_1, rfl, HA, HJ1, BK102, HB⟩ := hcut
  cases kq with
  | zero => exact absurd HA.out (by simp [w16_Few.j0])
  | succ kj1 =>
   have H := HA.out
   clear HA
   simp only [w16_Few.j0] at H
   by_cases c11 : x27_1 = true
   ·subst c11
    have H1 : (some false) = some r := by rw [if_pos rfl] at H; exact H
    clear H
    have H := H1
    clear H1
    obtain rfl := zJ H
    go_wp2
    go_ret
    exact ⟨by first | rfl | (simp [errW_none, errW_some] <;> rfl) | (simp [*, errW_none, errW_some] <;> rfl), by repeat (first | (with_reducible first | exact HB.out | apply zB | apply zN | apply below_drew1 | refine zE ?_ GE102.out) | exact HB.out)⟩
   ·replace c11 := Bool.eq_false_iff.mpr c11
    subst c11
    have H1 : (w16_Few.l0 kj1 0 l0_0 l0_1 l0_2 l0_3) = some r := by rw [if_neg (show ¬ (false = true) by decide)] at H; exact H
    clear H
    have H := H1
    clear H1
    have H' := zA H
    clear H
    go_wp2
    go_loopg [3] kj1 (fun kq v3 w' => ∃ (x3_2 : Int), v3 = .int .i64 x3_2 ∧ Aside0 (w16_Few.l0 kq x3_2 l0_0 l0_1 l0_2 l0_3 = some r) ∧ Aside0 (kq ≤ kj1) ∧ Aside0 (w'.heap[gb102]? = some (.cells #[(.slice A0_0 l0_0.length c0_0), (.slice A0_1 l0_1.length c0_1), (.slice A0_2 l0_2.length c0_2), (.slice A0_3 l0_3.length c0_3)] 27 (0, 0))) ∧ Aside0 (Below w.heap.size w w'))
    case atStart => exact ⟨(0), (by first | rfl | (simp; done) | (simp [*]; done)), H', ⟨z5 _⟩, ⟨by (with_reducible repeat (first | refine zG ?_ _ | refine zH ?_)); exact BK102.out⟩, ⟨by repeat (first | (with_reducible first | exact HB.out | apply zB | apply zN | apply below_drew1 | refine zE ?_ GE102.out) | exact HB.out)⟩⟩
    case round =>
     clear H'
     try clear c1
     try clear p2
     try clear c4
     try clear c4b0
     try clear c4b1
     try clear c6
     try clear c6b0
     try clear c6b1
     try clear c7
     try clear c8
     try clear c8b0
     try clear c8b1
     try clear c11
     try clear hcz10_0
     try clear hcz10_1
     try clear hcz10_2
     try clear hcz10_3
     try clear hcz5_0
     try clear hcz5_1
     try clear hcz5_2
     try clear hcz5_3
     try clear hcz7_0
     try clear hcz7_1
     try clear hcz7_2
     try clear hcz7_3
     try clear hcz9_0
     try clear hcz9_1
     try clear hcz9_2
     try clear hcz9_3
     try clear hfz10_0
     try clear hfz10_1
     try clear hfz10_2
     try clear hfz10_3
     try clear hfz5_0
     try clear hfz5_1
     try clear hfz5_2
     try clear hfz5_3
     try clear hfz7_0
     try clear hfz7_1
     try clear hfz7_2
     try clear hfz7_3
     try clear hfz9_0
     try clear hfz9_1
     try clear hfz9_2
     try clear hfz9_3
     try clear p2
     obtain ⟨x3_2, rfl, HA, HK2, BK102, HB⟩ := hrel
     cases gk with
     | zero => exact absurd HA.out (by simp [w16_Few.l0])
     | succ k2 =>
      have H := HA.out
      clear HA
      simp only [w16_Few.l0] at H
      by_cases c12 : x3_2 < (l0_1.length : Int)
      ·rw [if_pos c12] at H
       have c12b0 : decide (x3_2 < (l0_1.length : Int)) = true := decide_eq_true c12
       clear c12
       by_cases c13 : 0 ≤ x3_2
       ·rw [if_pos c13] at H
        have c13b0 : decide (0 ≤ x3_2) = true := decide_eq_true c13
        clear c13
        by_cases c14 : (((rd_T41 l0_1 x3_2).f0).size : Int) > 300
        ·rw [if_pos c14] at H
         have c14b0 : decide (300 < (((rd_T41 l0_1 x3_2).f0).size : Int)) = true := decide_eq_true c14
         have c14b1 : decide (300 < ((rd_T41 l0_1 x3_2).f0).size) = true := decide_eq_true (by omega)
         clear c14
         obtain rfl := zJ H
         have hcz15_0 : wr.cell? ⟨gb102, 0, none⟩ = some (.slice A0_0 l0_0.length c0_0) := (zC BK102.out 0).trans rfl
         have hcz15_1 : wr.cell? ⟨gb102, 1, none⟩ = some (.slice A0_1 l0_1.length c0_1) := (zC BK102.out 1).trans rfl
         have hcz15_2 : wr.cell? ⟨gb102, 2, none⟩ = some (.slice A0_2 l0_2.length c0_2) := (zC BK102.out 2).trans rfl
         have hcz15_3 : wr.cell? ⟨gb102, 3, none⟩ = some (.slice A0_3 l0_3.length c0_3) := (zC BK102.out 3).trans rfl
         have hfz15_0 := zF BK102.out 0
         have hfz15_1 := zF BK102.out 1
         have hfz15_2 := zF BK102.out 2
         have hfz15_3 := zF BK102.out 3
         have p103 : 0 ≤ (x3_2 : Int) := zO (by first | (with_reducible assumption) | assumption)
         have q103 : x3_2 < (l0_1.length : Int) := zO (by first | (with_reducible assumption) | assumption)
         obtain ⟨ad103, e103, hx103_0, hx103_1, hx103_2, hx103_3, hx103_4⟩ := at_T41 HR0_1.out x3_2 p103 q103
         cases e103
         replace hx103_0 := (HB.out.cell (zL w _ hx103_0)).trans hx103_0
         replace hx103_1 := (HB.out.cell (zL w _ hx103_1)).trans hx103_1
         replace hx103_2 := (HB.out.cell (zL w _ hx103_2)).trans hx103_2
         replace hx103_3 := (HB.out.cell (zL w _ hx103_3)).trans hx103_3
         replace hx103_4 := (HB.out.cell (zL w _ hx103_4)).trans hx103_4
         replace p103 := eq_true p103
         replace q103 := eq_true q103
         go_wp2
         go_ret
         exact ⟨by first | rfl | (simp [errW_none, errW_some] <;> rfl) | (simp [*, errW_none, errW_some] <;> rfl), by repeat (first | (with_reducible first | exact HB.out | apply zB | apply zN | apply below_drew1 | refine zE ?_ GE102.out) | exact HB.out)⟩
        ·rw [if_neg c14] at H
         have c14b0 : decide (300 < (((rd_T41 l0_1 x3_2).f0).size : Int)) = false := decide_eq_false c14
         have c14b1 : decide (300 < ((rd_T41 l0_1 x3_2).f0).size) = false := decide_eq_false (by omega)
         clear c14
         have H' := zA H
         clear H
         have hcz16_0 : wr.cell? ⟨gb102, 0, none⟩ = some (.slice A0_0 l0_0.length c0_0) := (zC BK102.out 0).trans rfl
         have hcz16_1 : wr.cell? ⟨gb102, 1, none⟩ = some (.slice A0_1 l0_1.length c0_1) := (zC BK102.out 1).trans rfl
         have hcz16_2 : wr.cell? ⟨gb102, 2, none⟩ = some (.slice A0_2 l0_2.length c0_2) := (zC BK102.out 2).trans rfl
         have hcz16_3 : wr.cell? ⟨gb102, 3, none⟩ = some (.slice A0_3 l0_3.length c0_3) := (zC BK102.out 3).trans rfl
         have hfz16_0 := zF BK102.out 0
         have hfz16_1 := zF BK102.out 1
         have hfz16_2 := zF BK102.out 2
         have hfz16_3 := zF BK102.out 3
         have p103 : 0 ≤ (x3_2 : Int) := zO (by first | (with_reducible assumption) | assumption)
         have q103 : x3_2 < (l0_1.length : Int) := zO (by first | (with_reducible assumption) | assumption)
         obtain ⟨ad103, e103, hx103_0, hx103_1, hx103_2, hx103_3, hx103_4⟩ := at_T41 HR0_1.out x3_2 p103 q103
         cases e103
         replace hx103_0 := (HB.out.cell (zL w _ hx103_0)).trans hx103_0
         replace hx103_1 := (HB.out.cell (zL w _ hx103_1)).trans hx103_1
         replace hx103_2 := (HB.out.cell (zL w _ hx103_2)).trans hx103_2
         replace hx103_3 := (HB.out.cell (zL w _ hx103_3)).trans hx103_3
         replace hx103_4 := (HB.out.cell (zL w _ hx103_4)).trans hx103_4
         replace p103 := eq_true p103
         replace q103 := eq_true q103
         go_wp2
         go_roundg k2
         case measure => have := HJ1.out; have := HK2.out; omega
         case rel => exact ⟨(wrap64 (x3_2 + 1)), (by first | rfl | (simp; done) | (simp [*]; done)), H', ⟨by have := HJ1.out; have := HK2.out; omega⟩, ⟨by (with_reducible repeat (first | refine zG ?_ _ | refine zH ?_)); exact BK102.out⟩, ⟨by repeat (first | (with_reducible first | exact HB.out | apply zB | apply zN | apply below_drew1 | refine zE ?_ GE102.out) | exact HB.out)⟩⟩
       ·rw [if_neg c13] at H
        exact absurd H (by simp)
      ·rw [if_neg c12] at H
       have c12b0 : decide (x3_2 < (l0_1.length : Int)) = false := decide_eq_false c12
       clear c12
       have H' := zA H
       clear H
       have hcz17_0 : wr.cell? ⟨gb102, 0, none⟩ = some (.slice A0_0 l0_0.length c0_0) := (zC BK102.out 0).trans rfl
       have hcz17_1 : wr.cell? ⟨gb102, 1, none⟩ = some (.slice A0_1 l0_1.length c0_1) := (zC BK102.out 1).trans rfl
       have hcz17_2 : wr.cell? ⟨gb102, 2, none⟩ = some (.slice A0_2 l0_2.length c0_2) := (zC BK102.out 2).trans rfl
       have hcz17_3 : wr.cell? ⟨gb102, 3, none⟩ = some (.slice A0_3 l0_3.length c0_3) := (zC BK102.out 3).trans rfl
       have hfz17_0 := zF BK102.out 0
       have hfz17_1 := zF BK102.out 1
       have hfz17_2 := zF BK102.out 2
       have hfz17_3 := zF BK102.out 3
       go_wp2
       go_loopg [4] k2 (fun kq v4 w' => ∃ (x4_3 : Int), v4 = .int .i64 x4_3 ∧ Aside0 (w16_Few.l1 kq x4_3 l0_0 l0_1 l0_2 l0_3 = some r) ∧ Aside0 (kq ≤ k2) ∧ Aside0 (w'.heap[gb102]? = some (.cells #[(.slice A0_0 l0_0.length c0_0), (.slice A0_1 l0_1.length c0_1), (.slice A0_2 l0_2.length c0_2), (.slice A0_3 l0_3.length c0_3)] 27 (0, 0))) ∧ Aside0 (Below w.heap.size w w'))
       case atStart => exact ⟨(0), (by first | rfl | (simp; done) | (simp [*]; done)), H', ⟨z5 _⟩, ⟨by (with_reducible repeat (first | refine zG ?_ _ | refine zH ?_)); exact BK102.out⟩, ⟨by repeat (first | (with_reducible first | exact HB.out | apply zB | apply zN | apply below_drew1 | refine zE ?_ GE102.out) | exact HB.out)⟩⟩
       case round =>
        clear H'
        try clear c1
        try clear p1
        try clear q1
        try clear hx1
        try clear p2
        try clear c4
        try clear c4b0
        try clear c4b1
        try clear c6
        try clear c6b0
        try clear c6b1
        try clear p6
        try clear c7
        try clear c8
        try clear c8b0
        try clear c8b1
        try clear p10
        try clear q10
        try clear hx10
        try clear c11
        try clear c12
        try clear c12b0
        try clear c13
        try clear c13b0
        try clear c14
        try clear c14b0
        try clear c14b1
        try clear hcz10_0
        try clear hcz10_1
        try clear hcz10_2
        try clear hcz10_3
        try clear hcz15_0
        try clear hcz15_1
        try clear hcz15_2
        try clear hcz15_3
        try clear hcz16_0
        try clear hcz16_1
        try clear hcz16_2
        try clear hcz16_3
        try clear hcz17_0
        try clear hcz17_1
        try clear hcz17_2
        try clear hcz17_3
        try clear hcz5_0
        try clear hcz5_1
        try clear hcz5_2
        try clear hcz5_3
        try clear hcz7_0
        try clear hcz7_1
        try clear hcz7_2
        try clear hcz7_3
        try clear hcz9_0
        try clear hcz9_1
        try clear hcz9_2
        try clear hcz9_3
        try clear hfz10_0
        try clear hfz10_1
        try clear hfz10_2
        try clear hfz10_3
        try clear hfz15_0
        try clear hfz15_1
        try clear hfz15_2
        try clear hfz15_3
        try clear hfz16_0
        try clear hfz16_1
        try clear hfz16_2
        try clear hfz16_3
        try clear hfz17_0
        try clear hfz17_1
        try clear hfz17_2
        try clear hfz17_3
        try clear hfz5_0
        try clear hfz5_1
        try clear hfz5_2
        try clear hfz5_3
        try clear hfz7_0
        try clear hfz7_1
        try clear hfz7_2
        try clear hfz7_3
        try clear hfz9_0
        try clear hfz9_1
        try clear hfz9_2
        try clear hfz9_3
        try clear hx103_0
        try clear hx103_1
        try clear hx103_2
        try clear hx103_3
        try clear hx103_4
        try clear p103
        try clear p2
        try clear q103
        obtain ⟨x4_3, rfl, HA, HK3, BK102, HB⟩ := hrel
        cases gk with
        | zero => exact absurd HA.out (by simp [w16_Few.l1])
        | succ k3 =>
         have H := HA.out
         clear HA
         simp only [w16_Few.l1] at H
         by_cases c18 : x4_3 < (l0_2.length : Int)
         ·rw [if_pos c18] at H
          have c18b0 : decide (x4_3 < (l0_2.length : Int)) = true := decide_eq_true c18
          clear c18
          by_cases c19 : 0 ≤ x4_3
          ·rw [if_pos c19] at H
           have c19b0 : decide (0 ≤ x4_3) = true := decide_eq_true c19
           clear c19
           by_cases c20 : (((rd_T43 l0_2 x4_3).f0).size : Int) > 300
           ·rw [if_pos c20] at H
            have c20b0 : decide (300 < (((rd_T43 l0_2 x4_3).f0).size : Int)) = true := decide_eq_true c20
            have c20b1 : decide (300 < ((rd_T43 l0_2 x4_3).f0).size) = true := decide_eq_true (by omega)
            clear c20
            obtain rfl := zJ H
            have hcz21_0 : wr.cell? ⟨gb102, 0, none⟩ = some (.slice A0_0 l0_0.length c0_0) := (zC BK102.out 0).trans rfl
            have hcz21_1 : wr.cell? ⟨gb102, 1, none⟩ = some (.slice A0_1 l0_1.length c0_1) := (zC BK102.out 1).trans rfl
            have hcz21_2 : wr.cell? ⟨gb102, 2, none⟩ = some (.slice A0_2 l0_2.length c0_2) := (zC BK102.out 2).trans rfl
            have hcz21_3 : wr.cell? ⟨gb102, 3, none⟩ = some (.slice A0_3 l0_3.length c0_3) := (zC BK102.out 3).trans rfl
            have hfz21_0 := zF BK102.out 0
            have hfz21_1 := zF BK102.out 1
            have hfz21_2 := zF BK102.out 2
            have hfz21_3 := zF BK102.out 3
            have p104 : 0 ≤ (x4_3 : Int) := zO (by first | (with_reducible assumption) | assumption)
            have q104 : x4_3 < (l0_2.length : Int) := zO (by first | (with_reducible assumption) | assumption)
            obtain ⟨ad104, e104, hx104_0, hx104_1⟩ := at_T43 HR0_2.out x4_3 p104 q104
            cases e104
            replace hx104_0 := (HB.out.cell (zL w _ hx104_0)).trans hx104_0
            replace hx104_1 := (HB.out.cell (zL w _ hx104_1)).trans hx104_1
            replace p104 := eq_true p104
            replace q104 := eq_true q104
            go_wp2
            go_ret
            exact ⟨by first | rfl | (simp [errW_none, errW_some] <;> rfl) | (simp [*, errW_none, errW_some] <;> rfl), by repeat (first | (with_reducible first | exact HB.out | apply zB | apply zN | apply below_drew1 | refine zE ?_ GE102.out) | exact HB.out)⟩
           ·rw [if_neg c20] at H
            have c20b0 : decide (300 < (((rd_T43 l0_2 x4_3).f0).size : Int)) = false := decide_eq_false c20
            have c20b1 : decide (300 < ((rd_T43 l0_2 x4_3).f0).size) = false := decide_eq_false (by omega)
            clear c20
            have H' := zA H
            clear H
            have hcz22_0 : wr.cell? ⟨gb102, 0, none⟩ = some (.slice A0_0 l0_0.length c0_0) := (zC BK102.out 0).trans rfl
            have hcz22_1 : wr.cell? ⟨gb102, 1, none⟩ = some (.slice A0_1 l0_1.length c0_1) := (zC BK102.out 1).trans rfl
            have hcz22_2 : wr.cell? ⟨gb102, 2, none⟩ = some (.slice A0_2 l0_2.length c0_2) := (zC BK102.out 2).trans rfl
            have hcz22_3 : wr.cell? ⟨gb102, 3, none⟩ = some (.slice A0_3 l0_3.length c0_3) := (zC BK102.out 3).trans rfl
            have hfz22_0 := zF BK102.out 0
            have hfz22_1 := zF BK102.out 1
            have hfz22_2 := zF BK102.out 2
            have hfz22_3 := zF BK102.out 3
            have p104 : 0 ≤ (x4_3 : Int) := zO (by first | (with_reducible assumption) | assumption)
            have q104 : x4_3 < (l0_2.length : Int) := zO (by first | (with_reducible assumption) | assumption)
            obtain ⟨ad104, e104, hx104_0, hx104_1⟩ := at_T43 HR0_2.out x4_3 p104 q104
            cases e104
            replace hx104_0 := (HB.out.cell (zL w _ hx104_0)).trans hx104_0
            replace hx104_1 := (HB.out.cell (zL w _ hx104_1)).trans hx104_1
            replace p104 := eq_true p104
            replace q104 := eq_true q104
            go_wp2
            go_roundg k3
            case measure => have := HJ1.out; have := HK2.out; have := HK3.out; omega
            case rel => exact ⟨(wrap64 (x4_3 + 1)), (by first | rfl | (simp; done) | (simp [*]; done)), H', ⟨by have := HJ1.out; have := HK2.out; have := HK3.out; omega⟩, ⟨by (with_reducible repeat (first | refine zG ?_ _ | refine zH ?_)); exact BK102.out⟩, ⟨by repeat (first | (with_reducible first | exact HB.out | apply zB | apply zN | apply below_drew1 | refine zE ?_ GE102.out) | exact HB.out)⟩⟩
          ·rw [if_neg c19] at H
           exact absurd H (by simp)
         ·rw [if_neg c18] at H
          have c18b0 : decide (x4_3 < (l0_2.length : Int)) = false := decide_eq_false c18
          clear c18
          have H' := zA H
          clear H
          have hcz23_0 : wr.cell? ⟨gb102, 0, none⟩ = some (.slice A0_0 l0_0.length c0_0) := (zC BK102.out 0).trans rfl
          have hcz23_1 : wr.cell? ⟨gb102, 1, none⟩ = some (.slice A0_1 l0_1.length c0_1) := (zC BK102.out 1).trans rfl
          have hcz23_2 : wr.cell? ⟨gb102, 2, none⟩ = some (.slice A0_2 l0_2.length c0_2) := (zC BK102.out 2).trans rfl
          have hcz23_3 : wr.cell? ⟨gb102, 3, none⟩ = some (.slice A0_3 l0_3.length c0_3) := (zC BK102.out 3).trans rfl
          have hfz23_0 := zF BK102.out 0
          have hfz23_1 := zF BK102.out 1
          have hfz23_2 := zF BK102.out 2
          have hfz23_3 := zF BK102.out 3
          go_wp2
          go_loopg [5] k3 (fun kq v5 w' => ∃ (x5_4 : Int), v5 = .int .i64 x5_4 ∧ Aside0 (w16_Few.l2 kq x5_4 l0_0 l0_1 l0_2 l0_3 = some r) ∧ Aside0 (kq ≤ k3) ∧ Aside0 (w'.heap[gb102]? = some (.cells #[(.slice A0_0 l0_0.length c0_0), (.slice A0_1 l0_1.length c0_1), (.slice A0_2 l0_2.length c0_2), (.slice A0_3 l0_3.length c0_3)] 27 (0, 0))) ∧ Aside0 (Below w.heap.size w w'))
          case atStart => exact ⟨(0), (by first | rfl | (simp; done) | (simp [*]; done)), H', ⟨z5 _⟩, ⟨by (with_reducible repeat (first | refine zG ?_ _ | refine zH ?_)); exact BK102.out⟩, ⟨by repeat (first | (with_reducible first | exact HB.out | apply zB | apply zN | apply below_drew1 | refine zE ?_ GE102.out) | exact HB.out)⟩⟩
          case round =>
           clear H'
           try clear c1
           try clear p1
           try clear q1
           try clear hx1
           try clear c2
           try clear p2
           try clear c4
           try clear c4b0
           try clear c4b1
           try clear c6
           try clear c6b0
           try clear c6b1
           try clear p6
           try clear c7
           try clear c8
           try clear c8b0
           try clear c8b1
           try clear p10
           try clear q10
           try clear hx10
           try clear c11
           try clear c12
           try clear c12b0
           try clear c13
           try clear c13b0
           try clear c14
           try clear c14b0
           try clear c14b1
           try clear c18
           try clear c18b0
           try clear c19
           try clear c19b0
           try clear c20
           try clear c20b0
           try clear c20b1
           try clear hcz10_0
           try clear hcz10_1
           try clear hcz10_2
           try clear hcz10_3
           try clear hcz15_0
           try clear hcz15_1
           try clear hcz15_2
           try clear hcz15_3
           try clear hcz16_0
           try clear hcz16_1
           try clear hcz16_2
           try clear hcz16_3
           try clear hcz17_0
           try clear hcz17_1
           try clear hcz17_2
           try clear hcz17_3
           try clear hcz21_0
           try clear hcz21_1
           try clear hcz21_2
           try clear hcz21_3
           try clear hcz22_0
           try clear hcz22_1
           try clear hcz22_2
           try clear hcz22_3
           try clear hcz23_0
           try clear hcz23_1
           try clear hcz23_2
           try clear hcz23_3
           try clear hcz5_0
           try clear hcz5_1
           try clear hcz5_2
           try clear hcz5_3
           try clear hcz7_0
           try clear hcz7_1
           try clear hcz7_2
           try clear hcz7_3
           try clear hcz9_0
           try clear hcz9_1
           try clear hcz9_2
           try clear hcz9_3
           try clear hfz10_0
           try clear hfz10_1
           try clear hfz10_2
           try clear hfz10_3
           try clear hfz15_0
           try clear hfz15_1
           try clear hfz15_2
           try clear hfz15_3
           try clear hfz16_0
           try clear hfz16_1
           try clear hfz16_2
           try clear hfz16_3
           try clear hfz17_0
           try clear hfz17_1
           try clear hfz17_2
           try clear hfz17_3
           try clear hfz21_0
           try clear hfz21_1
           try clear hfz21_2
           try clear hfz21_3
           try clear hfz22_0
           try clear hfz22_1
           try clear hfz22_2
           try clear hfz22_3
           try clear hfz23_0
           try clear hfz23_1
           try clear hfz23_2
           try clear hfz23_3
           try clear hfz5_0
           try clear hfz5_1
           try clear hfz5_2
           try clear hfz5_3
           try clear hfz7_0
           try clear hfz7_1
           try clear hfz7_2
           try clear hfz7_3
           try clear hfz9_0
           try clear hfz9_1
           try clear hfz9_2
           try clear hfz9_3
           try clear hx103_0
           try clear hx103_1
           try clear hx103_2
           try clear hx103_3
           try clear hx103_4
           try clear hx104_0
           try clear hx104_1
           try clear p1
           try clear p10
           try clear p103
           try clear p104
           try clear p2
           try clear p6
           try clear q1
           try clear q10
           try clear q103
           try clear q104
           obtain ⟨x5_4, rfl, HA, HK4, BK102, HB⟩ := hrel
           cases gk with
           | zero => exact absurd HA.out (by simp [w16_Few.l2])
           | succ k4 =>
            have H := HA.out
            clear HA
            simp only [w16_Few.l2] at H
            by_cases c24 : x5_4 < (l0_3.length : Int)
            ·rw [if_pos c24] at H
             have c24b0 : decide (x5_4 < (l0_3.length : Int)) = true := decide_eq_true c24
             clear c24
             by_cases c25 : 0 ≤ x5_4
             ·rw [if_pos c25] at H
              have c25b0 : decide (0 ≤ x5_4) = true := decide_eq_true c25
              clear c25
              replace H := Option.bind_eq_some_iff.mp H
              obtain ⟨t106, A260, H⟩ := H
              replace H : (if t106 = true then (w16_Few.l2 k4 (wrap64 (x5_4 + 1)) l0_0 l0_1 l0_2 l0_3) else (some false)) = some r := H
              have A26 := zA A260
              clear A260
              by_cases c27 : t106 = true
              ·subst c27
               have H1 : (w16_Few.l2 k4 (wrap64 (x5_4 + 1)) l0_0 l0_1 l0_2 l0_3) = some r := by rw [if_pos rfl] at H; exact H
               clear H
               have H := H1
               clear H1
               have H' := zA H
               clear H
               have hcz28_0 : wr.cell? ⟨gb102, 0, none⟩ = some (.slice A0_0 l0_0.length c0_0) := (zC BK102.out 0).trans rfl
               have hcz28_1 : wr.cell? ⟨gb102, 1, none⟩ = some (.slice A0_1 l0_1.length c0_1) := (zC BK102.out 1).trans rfl
               have hcz28_2 : wr.cell? ⟨gb102, 2, none⟩ = some (.slice A0_2 l0_2.length c0_2) := (zC BK102.out 2).trans rfl
               have hcz28_3 : wr.cell? ⟨gb102, 3, none⟩ = some (.slice A0_3 l0_3.length c0_3) := (zC BK102.out 3).trans rfl
               have hfz28_0 := zF BK102.out 0
               have hfz28_1 := zF BK102.out 1
               have hfz28_2 := zF BK102.out 2
               have hfz28_3 := zF BK102.out 3
               have p105 : 0 ≤ (x5_4 : Int) := zO (by first | (with_reducible assumption) | assumption)
               have q105 : x5_4 < (l0_3.length : Int) := zO (by first | (with_reducible assumption) | assumption)
               obtain ⟨ad105, A105_1, c105_1, A105_3, c105_3, A105_4, c105_4, e105, hx105_0, hx105_1, hx105_2, hx105_3, hx105_4, hl105_1, hi105_1, hl105_3, hi105_3, hl105_4, hi105_4⟩ := at_T48 HR0_3.out x5_4 p105 q105
               cases e105
               replace hx105_0 := (HB.out.cell (zL w _ hx105_0)).trans hx105_0
               replace hx105_1 := (HB.out.cell (zL w _ hx105_1)).trans hx105_1
               replace hx105_2 := (HB.out.cell (zL w _ hx105_2)).trans hx105_2
               replace hx105_3 := (HB.out.cell (zL w _ hx105_3)).trans hx105_3
               replace hx105_4 := (HB.out.cell (zL w _ hx105_4)).trans hx105_4
               have HR105_1 := zA hi105_1
               have HC105_1 := zA hl105_1
               clear hi105_1 hl105_1
               have HR105_3 := zA hi105_3
               have HC105_3 := zA hl105_3
               clear hi105_3 hl105_3
               have HR105_4 := zA hi105_4
               have HC105_4 := zA hl105_4
               clear hi105_4 hl105_4
               replace p105 := eq_true p105
               replace q105 := eq_true q105
               go_wp2_with (first | ((with_reducible refine gate_callee (f := 16) rfl ?_); refine goesL_ (some 70) rfl rfl Tryd.func16 (by kernel_rfl) rfl #[.agg #[.string ((rd_T48 l0_3 x5_4).f0), .slice A105_1 ((rd_T48 l0_3 x5_4).f1).length c105_1, .int .i64 ((rd_T48 l0_3 x5_4).f2), .slice A105_3 ((rd_T48 l0_3 x5_4).f3).length c105_3, .slice A105_4 ((rd_T48 l0_3 x5_4).f4).length c105_4]] rfl (by (try simp only [zm, zc, zn]); first | done | rfl | (simp only [zd, zt]; rfl)) ?_; (with_reducible refine (w15_Few.calls ((rd_T48 l0_3 x5_4).f0) _ _ ((rd_T48 l0_3 x5_4).f1) ((rd_T48 l0_3 x5_4).f2) _ _ ((rd_T48 l0_3 x5_4).f3) _ _ ((rd_T48 l0_3 x5_4).f4) true _ ?side1 ?side2 ?side3 ?side4 ?side5 ?side6 A26.out).mono ?_); (case side1 => repeat (first | exact (zD HR105_1.out HB.out))); (case side2 => exact HC105_1.out); (case side3 => repeat (first | exact (zD HR105_3.out HB.out))); (case side4 => exact HC105_3.out); (case side5 => repeat (first | exact (zD HR105_4.out HB.out))); (case side6 => exact HC105_4.out); rintro e w29 ⟨rfl, hb⟩; refine ⟨_, rfl, ?_⟩; replace BK102 := zA (zQ (g := gb102) (o := .cells #[.slice A0_0 l0_0.length c0_0, .slice A0_1 l0_1.length c0_1, .slice A0_2 l0_2.length c0_2, .slice (some ad105) l0_3.length c0_3] 27 (0, 0)) (by (with_reducible repeat (first | refine zG ?_ _ | refine zH ?_)); exact BK102.out) hb); replace HB := zA (below_step (by repeat (first | (with_reducible first | exact HB.out | apply zB | apply zN | apply below_drew1 | refine zE ?_ GE102.out) | exact HB.out)) hb); (try clear hb); (try clear hb2); (try clear hk); (try clear hi)))
               go_roundg k4
               case measure => have := HJ1.out; have := HK2.out; have := HK3.out; have := HK4.out; omega
               case rel => exact ⟨(wrap64 (x5_4 + 1)), (by first | rfl | (simp; done) | (simp [*]; done)), H', ⟨by have := HJ1.out; have := HK2.out; have := HK3.out; have := HK4.out; omega⟩, ⟨by (with_reducible repeat (first | refine zG ?_ _ | refine zH ?_)); exact BK102.out⟩, ⟨by repeat (first | (with_reducible first | exact HB.out | apply zB | apply zN | apply below_drew1 | refine zE ?_ GE102.out) | exact HB.out)⟩⟩
              ·replace c27 := Bool.eq_false_iff.mpr c27
               subst c27
               have H1 : (some false) = some r := by rw [if_neg (show ¬ (false = true) by decide)] at H; exact H
               clear H
               have H := H1
               clear H1
               obtain rfl := zJ H
               have hcz30_0 : wr.cell? ⟨gb102, 0, none⟩ = some (.slice A0_0 l0_0.length c0_0) := (zC BK102.out 0).trans rfl
               have hcz30_1 : wr.cell? ⟨gb102, 1, none⟩ = some (.slice A0_1 l0_1.length c0_1) := (zC BK102.out 1).trans rfl
               have hcz30_2 : wr.cell? ⟨gb102, 2, none⟩ = some (.slice A0_2 l0_2.length c0_2) := (zC BK102.out 2).trans rfl
               have hcz30_3 : wr.cell? ⟨gb102, 3, none⟩ = some (.slice A0_3 l0_3.length c0_3) := (zC BK102.out 3).trans rfl
               have hfz30_0 := zF BK102.out 0
               have hfz30_1 := zF BK102.out 1
               have hfz30_2 := zF BK102.out 2
               have hfz30_3 := zF BK102.out 3
               have p105 : 0 ≤ (x5_4 : Int) := zO (by first | (with_reducible assumption) | assumption)
               have q105 : x5_4 < (l0_3.length : Int) := zO (by first | (with_reducible assumption) | assumption)
               obtain ⟨ad105, A105_1, c105_1, A105_3, c105_3, A105_4, c105_4, e105, hx105_0, hx105_1, hx105_2, hx105_3, hx105_4, hl105_1, hi105_1, hl105_3, hi105_3, hl105_4, hi105_4⟩ := at_T48 HR0_3.out x5_4 p105 q105
               cases e105
               replace hx105_0 := (HB.out.cell (zL w _ hx105_0)).trans hx105_0
               replace hx105_1 := (HB.out.cell (zL w _ hx105_1)).trans hx105_1
               replace hx105_2 := (HB.out.cell (zL w _ hx105_2)).trans hx105_2
               replace hx105_3 := (HB.out.cell (zL w _ hx105_3)).trans hx105_3
               replace hx105_4 := (HB.out.cell (zL w _ hx105_4)).trans hx105_4
               have HR105_1 := zA hi105_1
               have HC105_1 := zA hl105_1
               clear hi105_1 hl105_1
               have HR105_3 := zA hi105_3
               have HC105_3 := zA hl105_3
               clear hi105_3 hl105_3
               have HR105_4 := zA hi105_4
               have HC105_4 := zA hl105_4
               clear hi105_4 hl105_4
               replace p105 := eq_true p105
               replace q105 := eq_true q105
               go_wp2_with (first | ((with_reducible refine gate_callee (f := 16) rfl ?_); refine goesL_ (some 70) rfl rfl Tryd.func16 (by kernel_rfl) rfl #[.agg #[.string ((rd_T48 l0_3 x5_4).f0), .slice A105_1 ((rd_T48 l0_3 x5_4).f1).length c105_1, .int .i64 ((rd_T48 l0_3 x5_4).f2), .slice A105_3 ((rd_T48 l0_3 x5_4).f3).length c105_3, .slice A105_4 ((rd_T48 l0_3 x5_4).f4).length c105_4]] rfl (by (try simp only [zm, zc, zn]); first | done | rfl | (simp only [zd, zt]; rfl)) ?_; (with_reducible refine (w15_Few.calls ((rd_T48 l0_3 x5_4).f0) _ _ ((rd_T48 l0_3 x5_4).f1) ((rd_T48 l0_3 x5_4).f2) _ _ ((rd_T48 l0_3 x5_4).f3) _ _ ((rd_T48 l0_3 x5_4).f4) false _ ?side1 ?side2 ?side3 ?side4 ?side5 ?side6 A26.out).mono ?_); (case side1 => repeat (first | exact (zD HR105_1.out HB.out))); (case side2 => exact HC105_1.out); (case side3 => repeat (first | exact (zD HR105_3.out HB.out))); (case side4 => exact HC105_3.out); (case side5 => repeat (first | exact (zD HR105_4.out HB.out))); (case side6 => exact HC105_4.out); rintro e w31 ⟨rfl, hb⟩; refine ⟨_, rfl, ?_⟩; replace BK102 := zA (zQ (g := gb102) (o := .cells #[.slice A0_0 l0_0.length c0_0, .slice A0_1 l0_1.length c0_1, .slice A0_2 l0_2.length c0_2, .slice (some ad105) l0_3.length c0_3] 27 (0, 0)) (by (with_reducible repeat (first | refine zG ?_ _ | refine zH ?_)); exact BK102.out) hb); replace HB := zA (below_step (by repeat (first | (with_reducible first | exact HB.out | apply zB | apply zN | apply below_drew1 | refine zE ?_ GE102.out) | exact HB.out)) hb); (try clear hb); (try clear hb2); (try clear hk); (try clear hi)))
               go_ret
               exact ⟨by first | rfl | (simp [errW_none, errW_some] <;> rfl) | (simp [*, errW_none, errW_some] <;> rfl), by repeat (first | (with_reducible first | exact HB.out | apply zB | apply zN | apply below_drew1 | refine zE ?_ GE102.out) | exact HB.out)⟩
             ·rw [if_neg c25] at H
              exact absurd H (by simp)
            ·rw [if_neg c24] at H
             have c24b0 : decide (x5_4 < (l0_3.length : Int)) = false := decide_eq_false c24
             clear c24
             obtain rfl := zJ H
             have hcz32_0 : wr.cell? ⟨gb102, 0, none⟩ = some (.slice A0_0 l0_0.length c0_0) := (zC BK102.out 0).trans rfl
             have hcz32_1 : wr.cell? ⟨gb102, 1, none⟩ = some (.slice A0_1 l0_1.length c0_1) := (zC BK102.out 1).trans rfl
             have hcz32_2 : wr.cell? ⟨gb102, 2, none⟩ = some (.slice A0_2 l0_2.length c0_2) := (zC BK102.out 2).trans rfl
             have hcz32_3 : wr.cell? ⟨gb102, 3, none⟩ = some (.slice A0_3 l0_3.length c0_3) := (zC BK102.out 3).trans rfl
             have hfz32_0 := zF BK102.out 0
             have hfz32_1 := zF BK102.out 1
             have hfz32_2 := zF BK102.out 2
             have hfz32_3 := zF BK102.out 3
             go_wp2
             go_ret
             exact ⟨by first | rfl | (simp [errW_none, errW_some] <;> rfl) | (simp [*, errW_none, errW_some] <;> rfl), by repeat (first | (with_reducible first | exact HB.out | apply zB | apply zN | apply below_drew1 | refine zE ?_ GE102.out) | exact HB.out)⟩

end Go.Proofs.YtdbfgfgbjheibaaDoor.PBx
end

section
/- A region that draws its order: each operation by itself, whatever order comes up; no conditions. -/
namespace Go.Proofs.YtdbfgfgbjheibaaDoor.Reg
open Go Go.RowKit Go.Proofs.YtdbfgfgbjheibaaDoorW.PrintWords Go.Proofs.YtdbfgfgbjheibaaDoorW.PrintLast
/-- What stands while a region's operations come up in whatever order. D: the slots that they fill; S: what each one's value is. -/
structure RegI (D : List (Option Tmp)) (S : Nat → World → Value → Prop) (a0 : Act) (w0 : World) (b : Nat → Bool) (a : Act) (w : World) : Prop where
 below : Below w0.heap.size w0 w
 defers : a.defers = a0.defers
 size : a.tmps.size = a0.tmps.size
 elder : ∀ t, some t ∉ D → a.tmps[t]? = a0.tmps[t]?
 vals : ∀ (i : Nat) (t : Tmp), D[i]? = some (some t) → b i = true → ∃ v, a.tmps[t]? = some v ∧ S i w v
end Go.Proofs.YtdbfgfgbjheibaaDoor.Reg
end

section
/- A program in memory, and what the calls of BoxEncodes tell of it. -/
namespace Go.Proofs.YtdbfgfgbjheibaaDoor.BPure
open Go Go.RowKit Go.Proofs.YtdbfgfgbjheibaaDoor Go.Proofs.YtdbfgfgbjheibaaDoor.PBx Go.Proofs.YtdbfgfgbjheibaaDoor.Given Go.Proofs.YtdbfgfgbjheibaaDoorW.PrintWords Go.Proofs.YtdbfgfgbjheibaaDoorW.PrintLast Go.Proofs.YtdbfgfgbjheibaaDoorW.PrintMore
set_option linter.unusedVariables false
set_option linter.unusedSimpArgs false
/-- A program, and where its lists lie. -/
structure BR where
 A0 : Option Addr
 c0 : Nat
 C : List S68
 A1 : Option Addr
 c1 : Nat
 V : List S41
 A2 : Option Addr
 c2 : Nat
 B : List S43
 A3 : Option Addr
 c3 : Nat
 U : List S48
def BR.cells (u : BR) : Array Value := #[.slice u.A0 u.C.length u.c0, .slice u.A1 u.V.length u.c1, .slice u.A2 u.B.length u.c2, .slice u.A3 u.U.length u.c3]
structure BR.Ok (u : BR) (w : World) : Prop where
 c : Kd.C k68 w u.A0 u.C.length u.C
 cl : u.C.length ≤ u.c0
 v : Kd.C k41 w u.A1 u.V.length u.V
 vl : u.V.length ≤ u.c1
 b : Kd.C k43 w u.A2 u.B.length u.B
 bl : u.B.length ≤ u.c2
 d : Kd.C k48 w u.A3 u.U.length u.U
 dl : u.U.length ≤ u.c3
theorem BR.Ok.below {u : BR} {w w2 : World} (h : u.Ok w) (hb : Below w.heap.size w w2) : u.Ok w2 := ⟨zD h.c hb, h.cl, zD h.v hb, h.vl, zD h.b hb, h.bl, zD h.d hb, h.dl⟩
def BR.fewf (u : BR) (k : Nat) : Option Bool := w16_Few.f k u.C u.V u.B u.U
def BR.encf (u : BR) : Option (List Int × Bool) := box_Encode.f u.C u.V u.B u.U
def BR.rencf (u : BR) (k : Nat) : Option (List Int × Bool) := r16_Encode.f k u.C u.V u.B u.U
def BR.fitsf (u : BR) : Option Bool := box_Fits.f u.C u.V u.B u.U
def BR.samef (u v : BR) (k : Nat) : Option Bool := box_Same.f k u.C u.V u.B u.U v.C v.V v.B v.U
def BR.rsamef (u v : BR) (k : Nat) : Option Bool := r16_Same.f k u.C u.V u.B u.U v.C v.V v.B v.U
theorem few_c (u : BR) (w : World) (h : u.Ok w) (k : Nat) (r : Bool) (hf : u.fewf k = some r) : Calls Tryd.prog 7 #[.agg u.cells] w fun e w' => e = .returned (.bool r) ∧ Below w.heap.size w w' :=
 w16_Few.calls k u.A0 u.c0 u.C u.A1 u.c1 u.V u.A2 u.c2 u.B u.A3 u.c3 u.U r w h.c h.cl h.v h.vl h.b h.bl h.d h.dl hf
theorem enc_c (u : BR) (w : World) (h : u.Ok w) (X : List Int) (F : Bool) (hf : u.encf = some (X, F)) (hL : LaidOps w) : Calls Tryd.prog 9 #[.agg u.cells] w fun e w' => ∃ v0_ : Value, e = .returned (.tuple #[v0_, .bool F]) ∧ Kd.R (Kd.int .u8) 5 w' w.heap.size (fun _ => True) v0_ X ∧ Below w.heap.size w w' :=
 box_Encode.calls u.A0 u.c0 u.C u.A1 u.c1 u.V u.A2 u.c2 u.B u.A3 u.c3 u.U X F w h.c h.cl h.v h.vl h.b h.bl h.d h.dl hf hL
theorem rsame_c (u v : BR) (w : World) (h : u.Ok w) (h' : v.Ok w) (k : Nat) (r : Bool) (hf : u.rsamef v k = some r) : Calls Tryd.prog 11 #[.agg u.cells, .agg v.cells] w fun e w' => e = .returned (.bool r) ∧ Below w.heap.size w w' :=
 r16_Same.calls k u.A0 u.c0 u.C u.A1 u.c1 u.V u.A2 u.c2 u.B u.A3 u.c3 u.U v.A0 v.c0 v.C v.A1 v.c1 v.V v.A2 v.c2 v.B v.A3 v.c3 v.U r w h.c h.cl h.v h.vl h.b h.bl h.d h.dl h'.c h'.cl h'.v h'.vl h'.b h'.bl h'.d h'.dl hf
theorem awake_c (w : World) (hw : w16_awake.f = some true) (hL : LaidOps w) : Calls Tryd.prog 8 #[] w fun e w' => e = .returned (.bool true) ∧ Below w.heap.size w w' := w16_awake.calls true w hw hL
/-- What the two sides answer of two programs. -/
structure Both (u v : BR) : Prop where
 aw : w16_awake.f = some true
 few : ∃ k r, u.fewf k = some r
 few2 : ∃ k r, v.fewf k = some r
 rest : ∀ k k', u.fewf k = some true → v.fewf k' = some true → ∃ X F SM k, u.encf = some (X, F) ∧ u.rencf k = some (X, F) ∧ u.fitsf = some F ∧ u.samef v k = some SM ∧ u.rsamef v k = some SM ∧ u.samef u k = some true
end Go.Proofs.YtdbfgfgbjheibaaDoor.BPure
end

section
/- What a package's variable that is laid as plain data has in its cells; numbers, truths, texts, structs and arrays alone. -/
namespace Go.Proofs.YtdbfgfgbjheibaaDoor.Flat
open Go Go.Lib Go.RowKit
mutual
/-- The cells that a datum of numbers, bools, texts, structs and arrays says. -/
def flatW {H : Type} : DataW H → Option (List Value)
 | .lit (.int k n) => some [.int k n]
 | .lit (.bool b) => some [.bool b]
 | .lit (.string s) => some [.string ⟨s.toArray⟩]
 | .agg ps => flatWs ps
 | _ => none
def flatWs {H : Type} : List (DataW H) → Option (List Value)
 | [] => some []
 | d :: r => (flatW d).bind fun a => (flatWs r).map (a ++ ·)
end
/-- Do a type's parts lie one behind the other, without a gap? -/
def tiles (P : Program) : Nat → TypeId → Bool
 | 0, _ => false
 | n + 1, t => match P.underlying t with
  | some .bool | some (.int _) | some .string => true
  | some (.struct fs) => fs.toList.foldl (fun o f => o.bind fun k => if f.offset = k ∧ tiles P n f.type = true then some (k + P.cellsOf f.type) else none) (some 0) == some (P.cellsOf t)
  | some (.array m e) => tiles P n e && P.cellsOf t == m * P.cellsOf e
  | _ => false
theorem foldl_none {α β : Type} (f : Option β → α → Option β) (h : ∀ a, f none a = none) : ∀ l : List α, l.foldl f none = none
 | [] => rfl
 | a :: l => by rw [List.foldl_cons, h, foldl_none f h l]
theorem flat_cells {H : Type} {enc : TypeId × Value → H} {P : Program} {w : World} {base : Nat} {sp : Nat → Bool} {held : Bool} :
  ∀ (n fuel : Nat) (t : TypeId) (cs : List Value) (d : DataW H) (ps : List MemPlace) (vs : List Value), tiles P n t = true → DataW.trod enc P w base sp held fuel t cs = some (d, ps) → flatW d = some vs → cs = vs := by
 intro n
 induction n with
 | zero => intro fuel t cs d ps vs ht; simp [tiles] at ht
 | succ n ih =>
  intro fuel t cs d ps vs ht h hf
  cases fuel with
  | zero => simp [DataW.trod] at h
  | succ fuel =>
   cases hu : P.underlying t with
   | none => simp [tiles, hu] at ht
   | some u =>
    cases u with
    | bool =>
     unfold DataW.trod at h; rw [hu] at h
     split at h <;> simp_all
     obtain ⟨rfl, _⟩ := h
     simp [flatW] at hf; exact hf
    | int k =>
     unfold DataW.trod at h; rw [hu] at h
     split at h <;> simp_all
     obtain ⟨⟨rfl, _⟩, rfl, _⟩ := h
     simp [flatW] at hf; exact hf
    | string =>
     unfold DataW.trod at h; rw [hu] at h
     split at h <;> simp_all
     obtain ⟨_, rfl, _⟩ := h
     simp [flatW] at hf; exact hf
    | struct fs =>
     simp only [tiles, hu, beq_iff_eq] at ht
     unfold DataW.trod at h; rw [hu] at h
     simp only at h
     split at h
     ·rename_i hl
      obtain ⟨xs, hm, hx⟩ := Option.map_eq_some_iff.1 h
      simp only [Prod.mk.injEq] at hx
      obtain ⟨rfl, _⟩ := hx
      have key : ∀ (fs : List Field) (k : Nat) (xs : List (DataW H × List MemPlace)) (vs : List Value), k ≤ cs.length → fs.mapM (fun f => DataW.trod enc P w base sp held fuel f.type ((cs.drop f.offset).take (P.cellsOf f.type))) = some xs →
        fs.foldl (fun o f => o.bind fun k => if f.offset = k ∧ tiles P n f.type = true then some (k + P.cellsOf f.type) else none) (some k) = some cs.length → flatWs (xs.map (·.1)) = some vs → cs.drop k = vs := by
       intro fs
       induction fs with
       | nil =>
        intro k xs vs hk hm ht hf
        simp at hm; subst hm
        simp [flatWs] at hf; subst hf
        simp at ht; simp; omega
       | cons f fs ihf =>
        intro k xs vs hk hm ht hf
        simp only [List.mapM_cons, Option.bind_eq_bind, Option.bind_eq_some_iff, Option.pure_def, Option.some.injEq] at hm
        obtain ⟨b, hb, r, hr, rfl⟩ := hm
        simp only [List.foldl_cons, zP] at ht
        split at ht
        ·rename_i hc
         obtain ⟨hc1, hc2⟩ := hc
         simp only [zc, flatWs, Option.bind_eq_some_iff, Option.map_eq_some_iff] at hf
         obtain ⟨a, ha, s, hs, rfl⟩ := hf
         have e1 := ih _ _ _ b.1 b.2 a hc2 (by rw [hb]) ha
         rw [hc1] at e1
         have hle : k + P.cellsOf f.type ≤ cs.length := by
          have mono : ∀ (l : List Field) (k m : Nat), l.foldl (fun o f => o.bind fun k => if f.offset = k ∧ tiles P n f.type = true then some (k + P.cellsOf f.type) else none) (some k) = some m → k ≤ m := by
           intro l
           induction l with
           | nil => intro k m h; simp at h; omega
           | cons g l ihl =>
            intro k m h
            simp only [List.foldl_cons, zP] at h
            split at h
            ·have := ihl _ _ h; omega
            ·rw [foldl_none _ (fun _ => rfl)] at h; cases h
          exact mono _ _ _ ht
         have e2 := ihf _ _ _ hle hr ht hs
         rw [← e1, ← e2, ← List.drop_drop, List.take_append_drop]
        ·rw [foldl_none _ (fun _ => rfl)] at ht; cases ht
      have := key fs.toList 0 xs vs (Nat.zero_le _) hm (by rw [ht, hl]) (by simpa [flatW] using hf)
      simpa using this
     ·cases h
    | array m e =>
     simp only [tiles, hu, Bool.and_eq_true, beq_iff_eq] at ht
     obtain ⟨ht1, ht2⟩ := ht
     unfold DataW.trod at h; rw [hu] at h
     simp only at h
     split at h
     ·rename_i hl
      obtain ⟨xs, hm, hx⟩ := Option.map_eq_some_iff.1 h
      simp only [Prod.mk.injEq] at hx
      obtain ⟨rfl, _⟩ := hx
      have key : ∀ (j k : Nat) (xs : List (DataW H × List MemPlace)) (vs : List Value), k + j = m → (List.range' k j).mapM (fun i => DataW.trod enc P w base sp held fuel e ((cs.drop (i * P.cellsOf e)).take (P.cellsOf e))) = some xs → flatWs (xs.map (·.1)) = some vs → cs.drop (k * P.cellsOf e) = vs := by
       intro j
       induction j with
       | zero =>
        intro k xs vs hk hm hf
        simp at hm; subst hm
        simp [flatWs] at hf; subst hf
        have hkm : k = m := by omega
        subst hkm
        rw [← ht2, ← hl]; simp
       | succ j ihj =>
        intro k xs vs hk hm hf
        simp only [List.range'_succ, List.mapM_cons, Option.bind_eq_bind, Option.bind_eq_some_iff, Option.pure_def, Option.some.injEq] at hm
        obtain ⟨b, hb, r, hr, rfl⟩ := hm
        simp only [zc, flatWs, Option.bind_eq_some_iff, Option.map_eq_some_iff] at hf
        obtain ⟨a, ha, s, hs, rfl⟩ := hf
        have e1 := ih _ _ _ b.1 b.2 a ht1 (by rw [hb]) ha
        have e2 := ihj (k + 1) _ _ (by omega) hr hs
        rw [← e1, ← e2, Nat.add_mul, Nat.one_mul, ← List.drop_drop, List.take_append_drop]
      have := key m 0 xs vs (by omega) (by rw [← List.range_eq_range']; exact hm) (by simpa [flatW] using hf)
      simpa using this
     ·cases h
    | _ => simp [tiles, hu] at ht
/-- The variable holds these cells. -/
def VarIs (P : Program) (w : World) (name : String) (vs : List Value) : Prop := w.var? P name = some vs.toArray
theorem varIs_of_laid {P : Program} {W : World} {name : String} {D : DataW Unit} {vs : List Value} {g : Nat} {t : TypeId} (n : Nat)
  (hg : P.globalNamed name = some g) (hty : (P.globals[g]?).map (·.type) = some t) (ht : tiles P n t = true) (hf : flatW D = some vs) :
  ∀ {l : List (String × DataW Unit)} {ps : List MemPlace}, (name, D) ∈ l → DataW.LaidVars P W l ps → VarIs P W name vs := by
 intro l
 induction l with
 | nil => intro ps h; cases h
 | cons x l ih =>
  intro ps hm h
  obtain ⟨nm, E⟩ := x
  obtain ⟨g', t', cs, fuel, p, q, hg', ht', hvar, hd, hr, _⟩ := h
  rcases List.mem_cons.1 hm with h | h
  ·injection h with h1 h2
   subst h1 h2
   obtain rfl := zJ (hg.symm.trans hg')
   obtain rfl := zJ (hty.symm.trans ht')
   unfold VarIs
   rw [hvar, ← flat_cells n _ _ _ _ _ _ ht hd hf]
  ·exact ih h hr
theorem varIs {P : Program} {W : World} {name : String} {D : DataW Unit} {vs : List Value} {g : Nat} {t : TypeId} {l : List (String × DataW Unit)} (n : Nat)
  (h : laidMetH P l W) (hp : (l.filter fun x => x.2.handleName?.isSome) = []) (hm : (name, D) ∈ l)
  (hg : P.globalNamed name = some g) (hty : (P.globals[g]?).map (·.type) = some t) (ht : tiles P n t = true) (hf : flatW D = some vs) : VarIs P W name vs := by
 unfold laidMetH at h
 rw [hp] at h
 obtain ⟨ps, h, _⟩ := h
 exact varIs_of_laid n hg hty ht hf hm h
theorem VarIs.cell {P : Program} {W : World} {name : String} {vs : List Value} {g : Nat} (h : VarIs P W name vs) (hg : P.globalNamed name = some g) (i : Nat) : W.cell? ⟨g, i, none⟩ = vs[i]? := by
 rw [World.var?_cell hg h i]; simp
end Go.Proofs.YtdbfgfgbjheibaaDoor.Flat
end

section
/- Programs that are read as data; the operations' table as the program lays it. -/
namespace Go.Proofs.YtdbfgfgbjheibaaDoor
open Go Go.RowKit Go.Proofs.YtdbfgfgbjheibaaDoorW.PrintWords Go.Proofs.YtdbfgfgbjheibaaDoor.PBx Go.Proofs.YtdbfgfgbjheibaaDoor.Given
set_option linter.unusedVariables false
namespace BxRow
theorem laidOps_of {l : List (String × DataW Unit)} {w : World} (h : laidMetH Tryd.prog l w) (hp : (l.filter fun x => x.2.handleName?.isSome) = []) (hm : ("ladderback/op.rows", Rows.laid_ladderback_op_rows) ∈ l) : LaidOps w := by
 have hv := Flat.varIs (name := "ladderback/op.rows") (D := Rows.laid_ladderback_op_rows) (vs := opsV) (g := 0) (t := 150) 6 h hp hm (by kernel_rfl) (by kernel_rfl) (by kernel_rfl) (by rfl)
 intro i v hi
 rw [hv.cell (by kernel_rfl), hi]
theorem rd_int : Bridge.Rdga Tryd.prog 3 (Kd.int .i64) (fun a => (Lit.int .i64 a).wf = true) := Bridge.Rdg.int Tryd.underlying3 (by kernel_rfl)
theorem rd_ints : Bridge.Rdga Tryd.prog 45 (Kd.slice 3 (Kd.int .i64)) (fun l => ∀ a ∈ l, (Lit.int .i64 a).wf = true) := Bridge.Rdg.slicea Tryd.underlying45 (by kernel_rfl) rd_int
theorem rd_str : Bridge.Rdga Tryd.prog 9 Kd.string (fun s => s.size ≤ 9223372036854775807) := Bridge.Rdg.string Tryd.underlying9 (by kernel_rfl)
theorem rd_instr : Bridge.Rdga Tryd.prog 109 k109 (fun _ => True) := fun m =>
 Bridge.Rdg.imp (Bridge.Rdg.iso (fun x : S109 => (x.f0, x.f1, x.f2)) (fun p => ⟨p.1, p.2.1, p.2.2⟩) (fun _ => rfl)
  (Bridge.Rdg.structa Tryd.underlying109 (by kernel_rfl) (fun m => Bridge.RdgF.cons rfl (rd_int m) (Bridge.RdgF.cons rfl (rd_int m) (Bridge.RdgF.one rfl (rd_int m)))) m)) (fun _ _ => trivial)
theorem rd_block : Bridge.Rdga Tryd.prog 43 k43 (fun _ => True) := fun m =>
 Bridge.Rdg.imp (Bridge.Rdg.iso (fun x : S43 => (x.f0, x.f1)) (fun p => ⟨p.1, p.2⟩) (fun _ => rfl)
  (Bridge.Rdg.structa Tryd.underlying43 (by kernel_rfl) (fun m => Bridge.RdgF.cons rfl (rd_str m) (Bridge.RdgF.one rfl (rd_int m))) m)) (fun _ _ => trivial)
theorem rd_instrs : Bridge.Rdga Tryd.prog 46 (Kd.slice 109 k109) (fun l => ∀ a ∈ l, True) := Bridge.Rdg.slicea Tryd.underlying46 (by kernel_rfl) rd_instr
theorem rd_unit : Bridge.Rdga Tryd.prog 48 k48 (fun _ => True) := fun m =>
 Bridge.Rdg.imp (Bridge.Rdg.iso (fun x : S48 => (x.f0, x.f1, x.f2, x.f3, x.f4)) (fun p => ⟨p.1, p.2.1, p.2.2.1, p.2.2.2.1, p.2.2.2.2⟩) (fun _ => rfl)
  (Bridge.Rdg.structa Tryd.underlying48 (by kernel_rfl) (fun m => Bridge.RdgF.cons rfl (rd_str m) (Bridge.RdgF.cons rfl (rd_ints m) (Bridge.RdgF.cons rfl (rd_int m) (Bridge.RdgF.cons rfl (rd_ints m) (Bridge.RdgF.one rfl (rd_instrs m)))))) m)) (fun _ _ => trivial)
/-- A program as data: its constants, variables, blocks, units. -/
def KProg : Kd (List S68 × List S41 × List S43 × List S48) := Kd.pair (Kd.slice 68 k68) (Kd.pair (Kd.slice 41 k41) (Kd.pair (Kd.slice 43 k43) (Kd.slice 48 k48)))
theorem prog_of {w : World} {x : List S68 × List S41 × List S43 × List S48} {cs : Array Value} (h : KProg.K w x cs.toList) : ∃ A0 c0 A1 c1 A2 c2 A3 c3, cs = #[.slice A0 x.1.length c0, .slice A1 x.2.1.length c1, .slice A2 x.2.2.1.length c2, .slice A3 x.2.2.2.length c3] ∧ (Kd.C k68 w A0 x.1.length x.1 ∧ x.1.length ≤ c0) ∧ (Kd.C k41 w A1 x.2.1.length x.2.1 ∧ x.2.1.length ≤ c1) ∧ (Kd.C k43 w A2 x.2.2.1.length x.2.2.1 ∧ x.2.2.1.length ≤ c2) ∧ (Kd.C k48 w A3 x.2.2.2.length x.2.2.2 ∧ x.2.2.2.length ≤ c3) := by
 obtain ⟨C, V, B, U⟩ := x
 obtain ⟨_, _, h0, ⟨A0, c0, rfl, l0, g0⟩, _, _, rfl, ⟨A1, c1, rfl, l1, g1⟩, _, _, rfl, ⟨A2, c2, rfl, l2, g2⟩, ⟨A3, c3, rfl, l3, g3⟩⟩ := h
 refine ⟨A0, c0, A1, c1, A2, c2, A3, c3, ?_, ⟨g0, l0⟩, ⟨g1, l1⟩, ⟨g2, l2⟩, ⟨g3, l3⟩⟩
 rw [show cs = cs.toList.toArray by simp, h0]
 rfl
end BxRow
theorem ok_of {A0 : Option Addr} {c0 : Nat} {A1 : Option Addr} {c1 : Nat} {A2 : Option Addr} {c2 : Nat} {A3 : Option Addr} {c3 : Nat} {w : World} {x : List S68 × List S41 × List S43 × List S48} (h0 : Kd.C k68 w A0 x.1.length x.1 ∧ x.1.length ≤ c0) (h1 : Kd.C k41 w A1 x.2.1.length x.2.1 ∧ x.2.1.length ≤ c1) (h2 : Kd.C k43 w A2 x.2.2.1.length x.2.2.1 ∧ x.2.2.1.length ≤ c2) (h3 : Kd.C k48 w A3 x.2.2.2.length x.2.2.2 ∧ x.2.2.2.length ≤ c3) : BPure.BR.Ok ⟨A0, c0, x.1, A1, c1, x.2.1, A2, c2, x.2.2.1, A3, c3, x.2.2.2⟩ w :=
 ⟨h0.1, h0.2, h1.1, h1.2, h2.1, h2.2, h3.1, h3.2⟩
end Go.Proofs.YtdbfgfgbjheibaaDoor
end

section
/- box.must by its contracts: nothing, or a panic of what is wrong. -/
namespace Go.Proofs.YtdbfgfgbjheibaaDoor.Given
open Go Go.RowKit Go.Proofs.YtdbfgfgbjheibaaDoor Go.Proofs.YtdbfgfgbjheibaaDoorW.PrintWords Go.Proofs.YtdbfgfgbjheibaaDoorW.PrintLast Go.Proofs.YtdbfgfgbjheibaaDoorW.PrintMore
set_option linter.unusedVariables false
set_option linter.unusedSimpArgs false
def wrongV (n : Int) : Value := .iface 59 (.agg #[.int .i64 n])
theorem must_ok (w : World) : Calls Tryd.prog 58 #[.int .i64 0] w fun e w' => e = .returned (.tuple #[]) ∧ w' = w := by
 go_enter Tryd.func58, Tryd.ntmps58
 go_wp2
 go_end0
 exact ⟨rfl, rfl⟩
theorem must_bad (n : Int) (hn : ¬ n = 0) (w : World) : Calls Tryd.prog 58 #[.int .i64 n] w fun e w' => e = .panicked [{ v := wrongV n, recovered := false }] ∧ w' = w := by
 have hp : ∀ (t : TypeId) (v : Value) (w : World), (Instr.panic (.iface t v)).run Tryd.prog w = .halt (.panic (.iface t v)) w := fun _ _ _ => by first | rfl | kernel_rfl
 go_enter Tryd.func58, Tryd.ntmps58
 go_wp2
 exact ⟨rfl, rfl, rfl⟩
set_option maxRecDepth 100000 in
set_option maxHeartbeats 1000000 in
/-- The closure of box.Decode behind a panic of 'wrong': the named results are cleared and told. -/
theorem catch_wrong (n : Int) (gp gq : Nat) (w : World) (hP : w.heap[gp]? = some (.cells #[.slice none 0 0, .slice none 0 0, .slice none 0 0, .slice none 0 0] 27 (0, 0))) (hQ : w.heap[gq]? = some (.cells #[.int .i64 0] 33 (0, 0))) (hne : gp ≠ gq) :
  CallsD Tryd.prog 24 #[.pointer (some ⟨gp, 0, none⟩), .pointer (some ⟨gq, 0, none⟩)] (.panicking ({ v := .iface 59 (.agg #[.int .i64 n]), recovered := false } :: [])) w fun e u' w' => e = .returned (.tuple #[]) ∧ u' = .panicking ({ v := .iface 59 (.agg #[.int .i64 n]), recovered := true } :: []) ∧ w' = ((((((w.alloc (.cells #[.int .i64 n] 59)).setCell ⟨gp, 0, none⟩ (.slice none 0 0)).setCell ⟨gp, 1, none⟩ (.slice none 0 0)).setCell ⟨gp, 2, none⟩ (.slice none 0 0)).setCell ⟨gp, 3, none⟩ (.slice none 0 0)).setCell ⟨gq, 0, none⟩ (.int .i64 n)).drew := by
 have ha := (zX w.heap.size w).alloc (z5 _) (.cells #[.int .i64 n] 59)
 have hp1 := (ha.block gp (blk_lt hP)).trans hP
 have hq1 := (ha.block gq (blk_lt hQ)).trans hQ
 have hw1 : (w.alloc (.cells #[.int .i64 n] 59)).heap[w.heap.size]? = some (.cells #[.int .i64 n] 59 (0, 0)) := heap_alloc_new w _
 have c0 : (w.alloc (.cells #[.int .i64 n] 59)).cell? ⟨gp, 0, none⟩ = some (.slice none 0 0) := (zC hp1 0).trans rfl
 have c1 : (w.alloc (.cells #[.int .i64 n] 59)).cell? ⟨gp, 1, none⟩ = some (.slice none 0 0) := (zC hp1 1).trans rfl
 have c2 : (w.alloc (.cells #[.int .i64 n] 59)).cell? ⟨gp, 2, none⟩ = some (.slice none 0 0) := (zC hp1 2).trans rfl
 have c3 : (w.alloc (.cells #[.int .i64 n] 59)).cell? ⟨gp, 3, none⟩ = some (.slice none 0 0) := (zC hp1 3).trans rfl
 have cq : (w.alloc (.cells #[.int .i64 n] 59)).cell? ⟨gq, 0, none⟩ = some (.int .i64 0) := (zC hq1 0).trans rfl
 have cw : (w.alloc (.cells #[.int .i64 n] 59)).cell? ⟨w.heap.size, 0, none⟩ = some (.int .i64 n) := (zC hw1 0).trans rfl
 have f0 := zF hp1 0
 have f1 := zF hp1 1
 have f2 := zF hp1 2
 have f3 := zF hp1 3
 have fq := zF hq1 0
 have n1 : w.heap.size ≠ gp := Nat.ne_of_gt (blk_lt hP)
 have n2 : w.heap.size ≠ gq := Nat.ne_of_gt (blk_lt hQ)
 have n3 : gp ≠ w.heap.size := Ne.symm n1
 have n4 : gq ≠ w.heap.size := Ne.symm n2
 have n5 := Ne.symm hne
 clear ha hp1 hq1 hw1 hP hQ
 have h0 : ∀ w : World, (eqGuard BinOp.neq 20 (Operand.tmp 6) (Operand.const Value.nilIface) (.iface 59 (.agg #[.int .i64 n])) Value.nilIface).run Tryd.prog w = .ok () w := fun _ => by kernel_rfl
 have h1 : ∀ w : World, (binOp BinOp.neq 20 (.iface 59 (.agg #[.int .i64 n])) Value.nilIface).run Tryd.prog w = .ok (.bool true) w := fun _ => by kernel_rfl
 have h2 : ∀ w : World, (Instr.typeAssert (.iface 59 (.agg #[.int .i64 n])) 20 59 true).run Tryd.prog w = .ok (.tuple #[.agg #[.int .i64 n], .bool true]) w := fun _ => by kernel_rfl
 refine callsD_of_wpS Tryd.func24 rfl fun c₀ cs hu => ?_
 apply wpS_seq
 apply wpS_region
 simp [wpOpsS, go_sem, recoverD, hu, Tryd.ntmps24, Exit.thenS]
 refine wpS_of_wp ?_
 rw [show (#[Value.pointer (some ⟨gp, 0, none⟩), Value.pointer (some ⟨gq, 0, none⟩)] ++ ((Array.replicate 17 undef).setIfInBounds 3 (.iface 59 (.agg #[.int .i64 n]))).setIfInBounds 0 (.iface 59 (.agg #[.int .i64 n])) : Array Value) = #[.pointer (some ⟨gp, 0, none⟩), .pointer (some ⟨gq, 0, none⟩), .iface 59 (.agg #[.int .i64 n]), undef, undef, .iface 59 (.agg #[.int .i64 n]), undef, undef, undef, undef, undef, undef, undef, undef, undef, undef, undef, undef, undef] from rfl]
 go_wp2
 go_region
 rename_i Q_
 simp only [Q_]
 cases c₀
 simp_all [bodyPostS, results, Tryd.results24, Exit.thenS]
end Go.Proofs.YtdbfgfgbjheibaaDoor.Given
end

section
/- A reader of octets in memory, as the program's: what printed texts ask of it; no conditions. -/
namespace Go.Proofs.YtdbfgfgbjheibaaDoor.Given
set_option linter.unusedVariables false
open Go.RowKit Go.Proofs.YtdbfgfgbjheibaaDoorW.PrintWords Go.Proofs.YtdbfgfgbjheibaaDoorW.PrintLast Go.Proofs.YtdbfgfgbjheibaaDoorW.PrintMore
/-- The cells of a reader: its bytes came by w0, and it's not past its end. -/
def CsR (w0 : World) (cs : Array Value) (f0 : List Int) (f1 : Int) (f2 : Bool) : Prop := ∃ a c, cs = #[.slice (some a) f0.length c, .int .i64 f1, .bool f2] ∧ Kd.C (Kd.int .u8) w0 (some a) f0.length f0 ∧ f0.length ≤ c ∧ 0 ≤ f1 ∧ f1 ≤ f0.length
/-- A state of this type at block g of W. -/
def IsS119 (w0 W : World) (g : Nat) (f0 : List Int) (f1 : Int) (f2 : Bool) : Prop := ∃ cs, W.heap[g]? = some (.cells cs 119 (0, 0)) ∧ w0.heap.size ≤ g ∧ CsR w0 cs f0 f1 f2
theorem IsS119.grown {w0 W : World} {g : Nat} {f0 : List Int} {f1 : Int} {f2 : Bool} {W1 : World} {row : Option Nat} (h : IsS119 w0 W g f0 f1 f2) (hw : W.grownBy W1 row) (hne : some g ≠ row) : IsS119 w0 W1 g f0 f1 f2 := by
 obtain ⟨cs, hb, hg, hx⟩ := h
 exact ⟨cs, blk_grown hb hw hne, hg, hx⟩
theorem IsS119.kept {w0 W : World} {g : Nat} {f0 : List Int} {f1 : Int} {f2 : Bool} {W1 : World} {S : Nat → Prop} (h : IsS119 w0 W g f0 f1 f2) (hk : Kept W W1 S) (hne : ¬ S g) : IsS119 w0 W1 g f0 f1 f2 := by
 obtain ⟨cs, hb, hg, hx⟩ := h
 exact ⟨cs, blk_kept hb hk hne, hg, hx⟩
theorem IsS119.below {w0 W : World} {g : Nat} {f0 : List Int} {f1 : Int} {f2 : Bool} {W1 : World} (h : IsS119 w0 W g f0 f1 f2) (hw : Below W.heap.size W W1) : IsS119 w0 W1 g f0 f1 f2 := h.grown (grown_of_below hw none) (by simp)
theorem IsS119.alloc {w0 W : World} {g : Nat} {f0 : List Int} {f1 : Int} {f2 : Bool} (h : IsS119 w0 W g f0 f1 f2) (o : Obj) : IsS119 w0 (W.alloc o) g f0 f1 f2 := h.below (zB (zX _ _) o)
theorem IsS119.drewN {w0 W : World} {g : Nat} {f0 : List Int} {f1 : Int} {f2 : Bool} (h : IsS119 w0 W g f0 f1 f2) (m : Nat) : IsS119 w0 (W.drewN m) g f0 f1 f2 := h
theorem IsS119.drew {w0 W : World} {g : Nat} {f0 : List Int} {f1 : Int} {f2 : Bool} (h : IsS119 w0 W g f0 f1 f2) : IsS119 w0 W.drew g f0 f1 f2 := h
theorem IsS119.at_ {w0 W : World} {g : Nat} {f0 : List Int} {f1 : Int} {f2 : Bool} {w' : World} {m : Nat} (hq : W.drewN m = w') (h : IsS119 w0 W g f0 f1 f2) : IsS119 w0 w' g f0 f1 f2 := by subst hq; exact IsS119.drewN h m
theorem IsS119.apart {w0 W : World} {g : Nat} {f0 : List Int} {f1 : Int} {f2 : Bool} {α : Type} {d : Kd α} {e : Nat} {base : Nat} {ok : Nat → Prop} {v : Value} {xs : List α} (h : IsS119 w0 W g f0 f1 f2) (ho : d.R e W base ok v xs) (ht : ∀ q, q ∈ e :: d.E → q ≠ 119) : d.R e W base (fun k => ok k ∧ k ≠ g) v xs := by
 obtain ⟨cs, hb, hg, hx⟩ := h
 exact Kd.R_types ho hb ht
theorem IsS119.own_ne {w0 W : World} {g : Nat} {f0 : List Int} {f1 : Int} {f2 : Bool} {α : Type} {d : Kd α} {e : Nat} {base : Nat} {ok : Nat → Prop} {v : Value} {xs : List α} (h : IsS119 w0 W g f0 f1 f2) (ho : d.R e W base ok v xs) (ht : e ≠ 119) : some g ≠ v.ownBlock := by
 obtain ⟨cs, hb, hg, hx⟩ := h
 exact Kd.R_ne ho hb ht
theorem IsS119.lt {w0 W : World} {g : Nat} {f0 : List Int} {f1 : Int} {f2 : Bool} (h : IsS119 w0 W g f0 f1 f2) : g < W.heap.size := by
 obtain ⟨cs, hb, hg, hx⟩ := h
 exact blk_lt hb
theorem IsS119.ge {w0 W : World} {g : Nat} {f0 : List Int} {f1 : Int} {f2 : Bool} (h : IsS119 w0 W g f0 f1 f2) : w0.heap.size ≤ g := by
 obtain ⟨cs, hb, hg, hx⟩ := h
 exact hg
theorem IsS119.far {w0 W : World} {g : Nat} {f0 : List Int} {f1 : Int} {f2 : Bool} {p : Addr} (h : IsS119 w0 W g f0 f1 f2) (hne : g ≠ p.block) (u : Value) : IsS119 w0 (W.setCell p u) g f0 f1 f2 := by
 obtain ⟨cs, hb, hg, hx⟩ := h
 exact ⟨cs, blk_far hb hne u, hg, hx⟩
end Go.Proofs.YtdbfgfgbjheibaaDoor.Given
end

section
/- The reader of octets, as the program reads: the next bytes of a reader; any reader that is not past its end. -/
namespace Go.Proofs.YtdbfgfgbjheibaaDoor.Given
set_option linter.unusedVariables false
set_option linter.unusedSimpArgs false
open Go.RowKit Go.Proofs.YtdbfgfgbjheibaaDoorW.PrintWords Go.Proofs.YtdbfgfgbjheibaaDoorW.PrintLast Go.Proofs.YtdbfgfgbjheibaaDoorW.PrintMore
set_option maxHeartbeats 1000000 in
theorem next_ok (g : Nat) (w0 w : World) (b : List Int) (at_ : Int) (n : Int) (hI : IsS119 w0 w g b at_ false) (hB : Below w0.heap.size w0 w) (h0 : 0 ≤ n) (h1 : n ≤ b.length - at_) :
  Calls Tryd.prog 87 #[.pointer (some ⟨g, 0, none⟩), .int .i64 n] w fun e w' =>
   (∃ A c, e = .returned (.tuple #[.slice (some A) n.toNat c, .bool true]) ∧ Kd.C (Kd.int .u8) w0 (some A) n.toNat ((b.drop at_.toNat).take n.toNat) ∧ n.toNat ≤ c ∧ IsS119 w0 w' g b (at_ + n) false) ∧ Below w0.heap.size w0 w' ∧ KeepBut w w' g none := by
 obtain ⟨_, hb, hg, a, c, rfl, hr, hc, ha0, ha1⟩ := hI
 have c0 : w.cell? ⟨g, 0, none⟩ = some (.slice (some a) b.length c) := (zC hb 0).trans rfl
 have c1 : w.cell? ⟨g, 1, none⟩ = some (.int .i64 at_) := (zC hb 1).trans rfl
 have c2 : w.cell? ⟨g, 2, none⟩ = some (.bool false) := (zC hb 2).trans rfl
 have hbl : b.length ≤ 9223372036854775807 := hr.2.1
 have hK := KeepBut.refl w g none
 have f1 := zF hb 1
 have f2 := zF hb 2
 have d0 : decide (n < 0) = false := decide_eq_false (by omega)
 have hw : IntKind.i64.wrap ((b.length : Int) - at_) = (b.length : Int) - at_ := IntWalk.i64_in _ (by omega)
 have d1 : decide ((b.length : Int) - at_ < n) = false := decide_eq_false (by omega)
 go_enter Tryd.func87, Tryd.ntmps87
 go_wp2_with fail
 go_quiet (fail)
 go_wp2_with fail
 obtain ⟨W1, hW1⟩ : ∃ W1, W1 = (w.drewN nq).setCell ⟨g, 1, none⟩ (.int .i64 (at_ + n)) := ⟨_, rfl⟩
 have hb1 : W1.heap[g]? = some (.cells #[.slice (some a) b.length c, .int .i64 (at_ + n), .bool false] 119 (0, 0)) := by rw [hW1]; exact blk_put (w := w.drewN nq) hb 1 _ rfl
 have hB1 : Below w0.heap.size w0 W1 := by rw [hW1]; exact zE (zN hB nq) hg
 have hK1 : KeepBut w W1 g none := by rw [hW1]; exact KeepBut.set_ (keep_drewN hK nq) 1 _
 rw [← hW1]
 have hl := Kd.C_mid (k := Kd.int .u8) (lo := at_.toNat) (hi := (at_ + n).toNat) (c := c) hr (by omega) (by omega) hc
 have he : (b.take (at_ + n).toNat).drop at_.toNat = (b.drop at_.toNat).take n.toNat := by rw [List.drop_take]; congr 1; omega
 have hle : ((b.drop at_.toNat).take n.toNat).length = n.toNat := by simp; omega
 rw [he, hle] at hl
 have hnn : (at_ + n).toNat - at_.toNat = n.toNat := by omega
 have hl := zA hl
 have hnn := zA hnn
 clear hW1 c0 c1 c2 f1 f2 hb hK d0 d1 hw he hle
 have c0 : W1.cell? ⟨g, 0, none⟩ = some (.slice (some a) b.length c) := (zC hb1 0).trans rfl
 have c1 : W1.cell? ⟨g, 1, none⟩ = some (.int .i64 (at_ + n)) := (zC hb1 1).trans rfl
 have hs : IntKind.i64.wrap (at_ + n - n) = at_ := by rw [show at_ + n - n = at_ by omega]; exact IntWalk.i64_in _ (by omega)
 have s1 : at_ ≤ at_ + n := by omega
 have s2 : at_ + n ≤ (c : Int) := by omega
 go_quiet (fail)
 go_wp2_with fail
 ·go_ret2
  rename_i h
  have hl := hl.out
  rw [if_pos h] at hl
  refine ⟨⟨a, 0, ?_, hl, by omega, _, hb1, hg, a, c, rfl, hr, hc, by omega, by omega⟩, zN hB1 _, keep_drewN hK1 _⟩
  rw [← hnn.out]
  rfl
 ·go_ret2
  rename_i h
  have hl := hl.out
  rw [if_neg h, show at_.toNat * (Kd.int .u8).sz = at_.toNat from Nat.mul_one _] at hl
  refine ⟨⟨a.add at_.toNat, c - at_.toNat, ?_, hl, by omega, _, hb1, hg, a, c, rfl, hr, hc, by omega, by omega⟩, zN hB1 _, keep_drewN hK1 _⟩
  rw [← hnn.out]
  rfl
set_option maxHeartbeats 1000000 in
theorem next_bad (g : Nat) (w0 w : World) (b : List Int) (at_ : Int) (bad : Bool) (n : Int) (hI : IsS119 w0 w g b at_ bad) (hB : Below w0.heap.size w0 w) (h : ¬ (bad = false ∧ 0 ≤ n ∧ n ≤ b.length - at_)) :
  Calls Tryd.prog 87 #[.pointer (some ⟨g, 0, none⟩), .int .i64 n] w fun e w' =>
   (e = .returned (.tuple #[.slice none 0 0, .bool false]) ∧ IsS119 w0 w' g b at_ true) ∧ Below w0.heap.size w0 w' ∧ KeepBut w w' g none := by
 obtain ⟨_, hb, hg, a, c, rfl, hr, hc, ha0, ha1⟩ := hI
 have c0 : w.cell? ⟨g, 0, none⟩ = some (.slice (some a) b.length c) := (zC hb 0).trans rfl
 have c1 : w.cell? ⟨g, 1, none⟩ = some (.int .i64 at_) := (zC hb 1).trans rfl
 have c2 : w.cell? ⟨g, 2, none⟩ = some (.bool bad) := (zC hb 2).trans rfl
 have hbl : b.length ≤ 9223372036854775807 := hr.2.1
 have hK := KeepBut.refl w g none
 have f1 := zF hb 1
 have f2 := zF hb 2
 cases bad
 ·by_cases h0 : n < 0
  ·have d0 : decide (n < 0) = true := decide_eq_true h0
   go_enter Tryd.func87, Tryd.ntmps87
   go_wp2_with fail
   go_quiet (fail)
   go_wp2_with fail
   go_ret2
   exact ⟨⟨rfl, _, blk_put (w := w.drewN nq) hb 2 _ rfl, hg, a, c, rfl, hr, hc, ha0, ha1⟩, zE (zN hB nq) hg, KeepBut.set_ (keep_drewN hK nq) 2 _⟩
  ·have d0 : decide (n < 0) = false := decide_eq_false h0
   have hw : IntKind.i64.wrap ((b.length : Int) - at_) = (b.length : Int) - at_ := IntWalk.i64_in _ (by omega)
   have d1 : decide ((b.length : Int) - at_ < n) = true := decide_eq_true (by by_cases h1 : n ≤ b.length - at_; exact absurd ⟨rfl, by omega, h1⟩ h; omega)
   go_enter Tryd.func87, Tryd.ntmps87
   go_wp2_with fail
   go_quiet (fail)
   go_wp2_with fail
   go_ret2
   exact ⟨⟨rfl, _, blk_put (w := w.drewN nq) hb 2 _ rfl, hg, a, c, rfl, hr, hc, ha0, ha1⟩, zE (zN hB nq) hg, KeepBut.set_ (keep_drewN hK nq) 2 _⟩
 ·go_enter Tryd.func87, Tryd.ntmps87
  go_wp2_with fail
  go_ret2
  exact ⟨⟨rfl, _, hb, hg, a, c, rfl, hr, hc, ha0, ha1⟩, hB, hK⟩
end Go.Proofs.YtdbfgfgbjheibaaDoor.Given
end

section
/- The reader of octets, as the program reads: a number, bytes, a text; any reader that is not past its end. -/
namespace Go.Proofs.YtdbfgfgbjheibaaDoor.Given
set_option linter.unusedVariables false
set_option linter.unusedSimpArgs false
open Go.RowKit Go.Proofs.YtdbfgfgbjheibaaDoorW.PrintWords Go.Proofs.YtdbfgfgbjheibaaDoorW.PrintLast Go.Proofs.YtdbfgfgbjheibaaDoorW.PrintMore
attribute [local go_sem] max2_int min2_int
/-- The number whose bytes are l, the least first. -/
def leN : List Int → Int
 | [] => 0
 | x :: xs => x + 256 * leN xs
theorem leN_app (xs : List Int) (x : Int) : leN (xs ++ [x]) = leN xs + x * 2 ^ (8 * xs.length) := by
 induction xs with
 | nil => simp [leN]
 | cons y ys ih =>
  simp only [List.cons_append, leN, ih, List.length_cons]
  rw [show 8 * (ys.length + 1) = 8 * ys.length + 8 by omega, Int.pow_add, Int.mul_add, Int.add_assoc]
  congr 2
  rw [show (2 : Int) ^ 8 = 256 from rfl, Int.mul_comm 256, Int.mul_assoc]
theorem leN_lim (xs : List Int) (h : ∀ x ∈ xs, 0 ≤ x ∧ x < 256) : 0 ≤ leN xs ∧ leN xs < 2 ^ (8 * xs.length) := by
 induction xs with
 | nil => simp [leN]
 | cons y ys ih =>
  have h1 := h y (by simp)
  have h2 := ih (fun x hx => h x (by simp [hx]))
  simp only [leN, List.length_cons]
  rw [show 8 * (ys.length + 1) = 8 * ys.length + 8 by omega, Int.pow_add, show (2 : Int) ^ 8 = 256 from rfl]
  generalize (2 : Int) ^ (8 * ys.length) = p at *
  omega
theorem ofInt64 (n : Nat) (h : n < 2 ^ 64) : (BitVec.ofInt 64 (n : Int)).toNat = n := by
 rw [BitVec.toNat_ofInt]
 omega
theorem or_add (n x k : Nat) (hn : n < 2 ^ k) (h : x * 2 ^ k + n < 2 ^ 64) : Go.bits .or .u64 (n : Int) ((x * 2 ^ k : Nat) : Int) = ((n + x * 2 ^ k : Nat) : Int) := by
 have e : n ||| x * 2 ^ k = n + x * 2 ^ k := by
  rw [Nat.or_comm, Nat.mul_comm, ← Nat.two_pow_add_eq_or_of_lt hn, Nat.add_comm]
 show IntKind.u64.wrap ((BitVec.ofInt 64 (n : Int) ||| BitVec.ofInt 64 ((x * 2 ^ k : Nat) : Int)).toNat : Int) = _
 rw [BitVec.toNat_or, ofInt64 n (by omega), ofInt64 _ (by omega), e]
 show ((n + x * 2 ^ k : Nat) : Int) % 18446744073709551616 = _
 omega
theorem or_step (v x : Int) (j : Nat) (hj : j < 8) (hv : 0 ≤ v ∧ v < 2 ^ (8 * j)) (hx : 0 ≤ x ∧ x < 256) : Go.bits .or .u64 v (IntKind.u64.wrap (x * 2 ^ (8 * j))) = v + x * 2 ^ (8 * j) := by
 obtain ⟨n, rfl⟩ := Int.eq_ofNat_of_zero_le hv.1
 obtain ⟨y, rfl⟩ := Int.eq_ofNat_of_zero_le hx.1
 have hn : n < 2 ^ (8 * j) := by have := hv.2; exact_mod_cast this
 have hy : y < 256 := by omega
 have hp : y * 2 ^ (8 * j) + n < 2 ^ 64 := by
  have h2 : 2 ^ (8 * j) * 2 ^ (64 - 8 * j) = 2 ^ 64 := by rw [← Nat.pow_add]; congr 1; omega
  have h3 : 256 ≤ 2 ^ (64 - 8 * j) := by
   have : 2 ^ 8 ≤ 2 ^ (64 - 8 * j) := Nat.pow_le_pow_right (by omega) (by omega)
   simpa using this
  have h4 : 2 ^ (8 * j) * 256 ≤ 2 ^ 64 := by rw [← h2]; exact Nat.mul_le_mul_left _ h3
  have h5 : (y + 1) * 2 ^ (8 * j) ≤ 2 ^ (8 * j) * 256 := by rw [Nat.mul_comm]; exact Nat.mul_le_mul_left _ (by omega)
  rw [Nat.add_mul] at h5
  omega
 have e2 : (y : Int) * 2 ^ (8 * j) = ((y * 2 ^ (8 * j) : Nat) : Int) := by push_cast; rfl
 have e3 : IntKind.u64.wrap ((y * 2 ^ (8 * j) : Nat) : Int) = ((y * 2 ^ (8 * j) : Nat) : Int) := by
  show ((y * 2 ^ (8 * j) : Nat) : Int) % 18446744073709551616 = _
  omega
 show Go.bits .or .u64 (n : Int) (IntKind.u64.wrap ((y : Int) * 2 ^ (8 * j))) = (n : Int) + (y : Int) * 2 ^ (8 * j)
 rw [e2, e3, or_add n y _ hn hp]
 push_cast
 rfl
set_option maxHeartbeats 1000000 in
theorem num_ok (g : Nat) (w0 w : World) (b : List Int) (at_ : Int) (many m : Int) (hm : mx 0 (mn many 8) = m) (L : List Int) (hL : L = (b.drop at_.toNat).take m.toNat) (hI : IsS119 w0 w g b at_ false) (hB : Below w0.heap.size w0 w) (h1 : m ≤ b.length - at_) (hb : ∀ x ∈ b, 0 ≤ x ∧ x < 256) :
  Calls Tryd.prog 60 #[.pointer (some ⟨g, 0, none⟩), .int .i64 many] w fun e w' =>
   (e = .returned (.int .i64 (wrap64 (leN L))) ∧ IsS119 w0 w' g b (at_ + m) false) ∧ Below w0.heap.size w0 w' ∧ KeepBut w w' g none := by
 obtain ⟨M, hM⟩ : ∃ M : Int, (if (8 : Int) < many then 8 else many) = M := ⟨_, rfl⟩
 have hN : (if (0 : Int) < M then M else 0) = m := by rw [← hM, ← hm]; unfold mx mn; (repeat' split) <;> omega
 have hm0 : 0 ≤ m := by rw [← hN]; split <;> omega
 have hm8 : m ≤ 8 := by rw [← hN, ← hM]; (repeat' split) <;> omega
 go_enter Tryd.func60, Tryd.ntmps60
 go_wp2_with fail
 refine (next_ok g w0 _ b at_ m hI hB hm0 h1).mono ?_
 rintro e w1 ⟨⟨A, c, rfl, hC, hc, hI1⟩, hB1, hK1⟩
 go_wp2_with fail
 rw [← hL] at hC
 have hlen : L.length = m.toNat := by have := hC.1; omega
 have hcells : ∀ j : Nat, ∀ h : j < L.length, w1.cell? (A.add j) = some (.int .u8 L[j]) := by
  intro j h
  obtain ⟨ad, e, hc⟩ := C_cells (zD hC hB1) (by omega)
  cases e
  exact hc j _ (by simp [nums, h])
 have hrange : ∀ x ∈ L, 0 ≤ x ∧ x < 256 := by
  intro x hx
  rw [hL] at hx
  exact hb x (List.mem_of_mem_drop (List.mem_of_mem_take hx))
 have HL := zA hrange
 have HN := zA hlen
 clear hM hN hm h1 hL hb hrange hlen
 go_loopw [7, 22] (fun x i wr => ∃ j : Nat, j ≤ m.toNat ∧ i = .int .i64 j ∧ x = .int .u64 (leN (L.take j)) ∧ wr = w1) (fun _ i _ => m.toNat - (intOf i).toNat)
 case atStart => exact ⟨0, Nat.zero_le _, rfl, rfl, rfl⟩
 case round =>
  obtain ⟨j, hj, rfl, rfl, rfl⟩ := hrel
  by_cases hlt : j < m.toNat
  ·have hlj : j < L.length := by have := HN.out; omega
   have hlen := HN.out
   have hce := hcells j hlj
   have hx := HL.out _ (List.getElem_mem hlj)
   have ht : leN (L.take j) + L[j] * 2 ^ (8 * j) = leN (L.take (j + 1)) := by
    rw [List.take_succ_eq_append_getElem (by omega), leN_app, zt, Nat.min_eq_left (by omega)]
   have hv := leN_lim (L.take j) (fun x h => HL.out x (List.mem_of_mem_take h))
   rw [zt, Nat.min_eq_left (by omega)] at hv
   have ho := zA (or_step (leN (L.take j)) L[j] j (by omega) hv hx)
   have ht := zA ht
   clear hv
   clear hlen
   go_wp2_with fail
   refine ⟨⟨j + 1, by omega, rfl, ?_, trivial⟩, by simp [intOf]; omega⟩
   rw [ho.out, ht.out]
  ·go_wp2_with fail
   go_ret
   have : j = L.length := by have := HN.out; omega
   subst this
   rw [List.take_length] at *
   exact ⟨⟨rfl, hI1⟩, hB1, hK1⟩
set_option maxHeartbeats 1000000 in
theorem num_bad (g : Nat) (w0 w : World) (b : List Int) (at_ : Int) (bad : Bool) (many m : Int) (hm : mx 0 (mn many 8) = m) (hI : IsS119 w0 w g b at_ bad) (hB : Below w0.heap.size w0 w) (h : ¬ (bad = false ∧ 0 ≤ m ∧ m ≤ b.length - at_)) :
  Calls Tryd.prog 60 #[.pointer (some ⟨g, 0, none⟩), .int .i64 many] w fun e w' =>
   (e = .returned (.int .i64 0) ∧ IsS119 w0 w' g b at_ true) ∧ Below w0.heap.size w0 w' ∧ KeepBut w w' g none := by
 obtain ⟨M, hM⟩ : ∃ M : Int, (if (8 : Int) < many then 8 else many) = M := ⟨_, rfl⟩
 have hN : (if (0 : Int) < M then M else 0) = m := by rw [← hM, ← hm]; unfold mx mn; (repeat' split) <;> omega
 go_enter Tryd.func60, Tryd.ntmps60
 go_wp2_with fail
 refine (next_bad g w0 _ b at_ bad m hI hB h).mono ?_
 rintro e w1 ⟨⟨rfl, hI1⟩, hB1, hK1⟩
 go_wp2_with fail
 go_ret
 exact ⟨⟨rfl, hI1⟩, hB1, hK1⟩
set_option maxHeartbeats 1000000 in
theorem take_bad (g : Nat) (w0 w : World) (b : List Int) (at_ : Int) (bad : Bool) (n : Int) (hI : IsS119 w0 w g b at_ bad) (hB : Below w0.heap.size w0 w) (h : ¬ (bad = false ∧ 0 ≤ n ∧ n ≤ b.length - at_)) :
  Calls Tryd.prog 108 #[.pointer (some ⟨g, 0, none⟩), .int .i64 n] w fun e w' =>
   (e = .returned (.slice none 0 0) ∧ IsS119 w0 w' g b at_ true) ∧ Below w0.heap.size w0 w' ∧ KeepBut w w' g none := by
 go_enter Tryd.func108, Tryd.ntmps108
 go_wp2_with fail
 refine (next_bad g w0 _ b at_ bad n hI hB h).mono ?_
 rintro e w1 ⟨⟨rfl, hI1⟩, hB1, hK1⟩
 go_wp2_with fail
 go_ret
 exact ⟨⟨rfl, hI1⟩, hB1, hK1⟩
set_option maxHeartbeats 1000000 in
theorem take_ok (g : Nat) (w0 w : World) (b : List Int) (at_ : Int) (n : Int) (L : List Int) (hL : L = (b.drop at_.toNat).take n.toNat) (hI : IsS119 w0 w g b at_ false) (hB : Below w0.heap.size w0 w) (h0 : 0 ≤ n) (h1 : n ≤ b.length - at_) (hbl : b.length ≤ 1000000000) (ha : 0 ≤ at_) :
  Calls Tryd.prog 108 #[.pointer (some ⟨g, 0, none⟩), .int .i64 n] w fun e w' =>
   (∃ v0_ : Value, e = .returned v0_ ∧ Kd.R (Kd.int .u8) 5 w' w.heap.size (fun _ => True) v0_ L ∧ IsS119 w0 w' g b (at_ + n) false) ∧ Below w0.heap.size w0 w' ∧ KeepBut w w' g none := by
 have hlen : L.length = n.toNat := by rw [hL]; simp; omega
 go_enter Tryd.func108, Tryd.ntmps108
 go_wp2_with fail
 refine (next_ok g w0 _ b at_ n hI hB h0 h1).mono ?_
 rintro e w1 ⟨⟨A, c, rfl, hC, hc, hI1⟩, hB1, hK1⟩
 rw [← hL, ← hlen] at hC
 rw [← hlen] at hc ⊢
 obtain ⟨Z, hZ⟩ : ∃ Z : List Value, Z.toArray = madeCells #[.int .u8 0] L.length := ⟨_, Array.toArray_toList⟩
 have hZs : Z.length = L.length := by have := congrArg Array.size hZ; simpa [size_madeCells] using this
 have hmk := make_lc (P := Tryd.prog) 28 5 .u8 1 Tryd.underlying28 infoU8 L.length L.length (L.length : Int) (by omega) (by omega) (by omega) (by omega)
 rw [← hZ] at hmk
 have HZ := zA hZs
 have HL := zA (show L.length ≤ 9223372036854775807 by omega)
 have HC := zA hC
 clear hL hZ hZs hlen h1 hC
 go_wp2_with ((with_reducible refine wpList_copy_splice rfl (.tmp 19) (.tmp 20) 28 28 rfl 5 Tryd.underlying28 sizeU8 (some ⟨w1.heap.size, 0, none⟩) (some A) L.length L.length L.length c rfl rfl w1.heap.size 0 Z 5 ?hg (nums .u8 L) ?hn ?hpos ?hfit (nums_one _ _) w1.heap.size w1 ((zX _ _).alloc (z5 _) _) (z5 _) ?_); rotate_left 4; intro w2 HG HB2; have HO := zA (own_copied (base := w.heap.size) HZ.out rfl (z5 _) HL.out hK1.1 HG.out); clear HG)
 case hg => exact heap_alloc_new w1 _
 case hpos =>
  intro hp
  obtain ⟨ad, e, hx⟩ := C_cells (zD HC.out (hB1.alloc hB1.size (.cells Z.toArray 5))) (by rwa [nums_length] at hp)
  cases e
  exact hx
 case hn => (simp [nums_length])
 case hfit => (have h1 := HZ.out; have h2 := nums_length .u8 L; omega)
 go_ret
 exact ⟨⟨_, rfl, Kd.R_of_own HO.out (fun _ _ => trivial), hI1.below HB2⟩, below_then hB1 hB1.size HB2, hK1.trans (KeepBut.of_below HB2 g none) (.inl rfl)⟩
end Go.Proofs.YtdbfgfgbjheibaaDoor.Given
end

section
/- The reader of octets, as the program reads: a text, what is left, where it is, whether it's bad, and a new one; any reader that is not past its end. -/
namespace Go.Proofs.YtdbfgfgbjheibaaDoor.Given
set_option linter.unusedVariables false
set_option linter.unusedSimpArgs false
open Go.RowKit Go.Proofs.YtdbfgfgbjheibaaDoorW.PrintWords Go.Proofs.YtdbfgfgbjheibaaDoorW.PrintLast Go.Proofs.YtdbfgfgbjheibaaDoorW.PrintMore
attribute [local go_sem] max2_int min2_int
set_option maxHeartbeats 1000000 in
theorem bad_calls (g : Nat) (w0 w : World) (b : List Int) (at_ : Int) (bad : Bool) (hI : IsS119 w0 w g b at_ bad) :
  Calls Tryd.prog 96 #[.pointer (some ⟨g, 0, none⟩)] w fun e w' => e = .returned (.bool bad) ∧ Drawn0 w w' := by
 obtain ⟨_, hb, hg, a, c, rfl, hr, hc, ha0, ha1⟩ := hI
 have c2 : w.cell? ⟨g, 2, none⟩ = some (.bool bad) := (zC hb 2).trans rfl
 go_enter Tryd.func96, Tryd.ntmps96
 go_wp2_with fail
 go_ret
 exact ⟨rfl, z4 _⟩
set_option maxHeartbeats 1000000 in
theorem left_calls (g : Nat) (w0 w : World) (b : List Int) (at_ : Int) (bad : Bool) (hI : IsS119 w0 w g b at_ bad) :
  Calls Tryd.prog 66 #[.pointer (some ⟨g, 0, none⟩)] w fun e w' => e = .returned (.int .i64 (if bad then 0 else b.length - at_)) ∧ Drawn0 w w' := by
 have hbad := zA (bad_calls g w0 w b at_ bad hI)
 obtain ⟨_, hb, hg, a, c, rfl, hr, hc, ha0, ha1⟩ := hI
 have c0 : w.cell? ⟨g, 0, none⟩ = some (.slice (some a) b.length c) := (zC hb 0).trans rfl
 have c1 : w.cell? ⟨g, 1, none⟩ = some (.int .i64 at_) := (zC hb 1).trans rfl
 have hbl : b.length ≤ 9223372036854775807 := hr.2.1
 have hw : IntKind.i64.wrap ((b.length : Int) - at_) = (b.length : Int) - at_ := IntWalk.i64_in _ (by omega)
 cases bad
 ·go_enter Tryd.func66, Tryd.ntmps66
  go_wp2_with fail
  refine hbad.out.mono ?_
  rintro e w1 ⟨rfl, n, rfl⟩
  go_wp2_with fail
  go_quiet (fail)
  go_wp2_with fail
  go_ret
  exact ⟨rfl, n + nq, rfl⟩
 ·go_enter Tryd.func66, Tryd.ntmps66
  go_wp2_with fail
  refine hbad.out.mono ?_
  rintro e w1 ⟨rfl, n, rfl⟩
  go_wp2_with fail
  go_ret
  exact ⟨rfl, n, rfl⟩
/-- What a reader tells of the next n bytes. -/
def okR (b : List Int) (at_ : Int) (bad : Bool) (n : Int) : Prop := bad = false ∧ 0 ≤ n ∧ n ≤ b.length - at_
instance (b : List Int) (at_ : Int) (bad : Bool) (n : Int) : Decidable (okR b at_ bad n) := by unfold okR; infer_instance
def cutR (b : List Int) (at_ n : Int) : List Int := (b.drop at_.toNat).take n.toNat
def numR (b : List Int) (at_ : Int) (bad : Bool) (many : Int) : Int × Int × Bool := if okR b at_ bad (mx 0 (mn many 8)) then (wrap64 (leN (cutR b at_ (mx 0 (mn many 8)))), at_ + mx 0 (mn many 8), false) else (0, at_, true)
def takeR (b : List Int) (at_ : Int) (bad : Bool) (n : Int) : List Int × Int × Bool := if okR b at_ bad n then (cutR b at_ n, at_ + n, false) else ([], at_, true)
def okB (b : List Int) : Bool := b.all (fun x => decide (0 ≤ x) && decide (x < 256)) && decide (b.length ≤ 1000000000)
theorem okB_all {b : List Int} (h : okB b = true) : (∀ x ∈ b, 0 ≤ x ∧ x < 256) ∧ b.length ≤ 1000000000 := by
 unfold okB at h
 simp only [Bool.and_eq_true, List.all_eq_true, decide_eq_true_eq] at h
 exact h
theorem num_calls (g : Nat) (w0 w : World) (b : List Int) (at_ : Int) (bad : Bool) (many : Int) (hI : IsS119 w0 w g b at_ bad) (hB : Below w0.heap.size w0 w) (hb : okB b = true) :
  Calls Tryd.prog 60 #[.pointer (some ⟨g, 0, none⟩), .int .i64 many] w fun e w' =>
   e = .returned (.int .i64 (numR b at_ bad many).1) ∧ IsS119 w0 w' g b (numR b at_ bad many).2.1 (numR b at_ bad many).2.2 ∧ Below w0.heap.size w0 w' ∧ KeepBut w w' g none := by
 unfold numR
 by_cases h : okR b at_ bad (mx 0 (mn many 8))
 ·rw [if_pos h]
  obtain ⟨rfl, h0, h1⟩ := h
  exact (num_ok g w0 w b at_ many _ rfl _ rfl hI hB h1 (okB_all hb).1).mono fun e w' ⟨⟨h1, h2⟩, h3, h4⟩ => ⟨h1, h2, h3, h4⟩
 ·rw [if_neg h]
  exact (num_bad g w0 w b at_ bad many _ rfl hI hB h).mono fun e w' ⟨⟨h1, h2⟩, h3, h4⟩ => ⟨h1, h2, h3, h4⟩
theorem take_calls (g : Nat) (w0 w : World) (b : List Int) (at_ : Int) (bad : Bool) (n : Int) (hI : IsS119 w0 w g b at_ bad) (hB : Below w0.heap.size w0 w) (hb : okB b = true) :
  Calls Tryd.prog 108 #[.pointer (some ⟨g, 0, none⟩), .int .i64 n] w fun e w' =>
   ∃ v0_ : Value, e = .returned v0_ ∧ Kd.R (Kd.int .u8) 5 w' w.heap.size (fun _ => True) v0_ (takeR b at_ bad n).1 ∧ IsS119 w0 w' g b (takeR b at_ bad n).2.1 (takeR b at_ bad n).2.2 ∧ Below w0.heap.size w0 w' ∧ KeepBut w w' g none := by
 unfold takeR
 by_cases h : okR b at_ bad n
 ·rw [if_pos h]
  obtain ⟨rfl, h0, h1⟩ := h
  have ha : 0 ≤ at_ := by obtain ⟨_, _, _, _, _, _, _, _, ha, _⟩ := hI; exact ha
  exact (take_ok g w0 w b at_ n _ rfl hI hB h0 h1 (okB_all hb).2 ha).mono fun e w' ⟨⟨v, h1, h2, h3⟩, h4, h5⟩ => ⟨v, h1, h2, h3, h4, h5⟩
 ·rw [if_neg h]
  exact (take_bad g w0 w b at_ bad n hI hB h).mono fun e w' ⟨⟨h1, h2⟩, h3, h4⟩ => ⟨_, h1, Kd.R_nil _ _ _ _ _, h2, h3, h4⟩
/-- A text: as many bytes as the next byte says. -/
def textR (b : List Int) (at_ : Int) (bad : Bool) : ByteArray × Int × Bool :=
 let t := numR b at_ bad 1
 let u := takeR b t.2.1 t.2.2 t.1
 (strOfNums u.1, u.2.1, u.2.2)
set_option maxHeartbeats 1000000 in
theorem text_calls (g : Nat) (w0 w : World) (b : List Int) (at_ : Int) (bad : Bool) (hI : IsS119 w0 w g b at_ bad) (hB : Below w0.heap.size w0 w) (hb : okB b = true) :
  Calls Tryd.prog 93 #[.pointer (some ⟨g, 0, none⟩)] w fun e w' =>
   e = .returned (.string (textR b at_ bad).1) ∧ IsS119 w0 w' g b (textR b at_ bad).2.1 (textR b at_ bad).2.2 ∧ Below w0.heap.size w0 w' ∧ KeepBut w w' g none := by
 unfold textR
 dsimp only
 generalize ht : numR b at_ bad 1 = t
 generalize hu : takeR b t.2.1 t.2.2 t.1 = u
 have HT := zA ht
 have HU := zA hu
 have HB := zA hb
 clear ht hu hb
 go_enter Tryd.func93, Tryd.ntmps93
 go_wp2_with fail
 refine (num_calls g w0 _ b at_ bad 1 hI hB HB.out).mono ?_
 rw [HT.out]
 rintro e w1 ⟨rfl, hI1, hB1, hK1⟩
 go_wp2_with fail
 refine (take_calls g w0 _ b t.2.1 t.2.2 t.1 hI1 hB1 HB.out).mono ?_
 rw [HU.out]
 rintro e w2 ⟨v, rfl, ho, hI2, hB2, hK2⟩
 have hcv := own_string (P := Tryd.prog) Tryd.underlying28 Tryd.underlying5 Tryd.underlying9 (Kd.own_of_R ho)
 go_wp2_with fail
 go_ret
 exact ⟨rfl, hI2, hB2, hK1.trans hK2 (.inl rfl)⟩
set_option maxHeartbeats 1000000 in
theorem new_calls (A0 : Option Addr) (c0 : Nat) (L : List Int) (w : World) (hr0 : Kd.C (Kd.int .u8) w A0 L.length L) (hc0 : L.length ≤ c0) (hl : L.length ≤ 1000000000) :
  Calls Tryd.prog 59 #[.slice A0 L.length c0] w fun e w' => ∃ (w1 : World) (g : Nat), e = .returned (.pointer (some ⟨g, 0, none⟩)) ∧ IsS119 w1 w' g L 0 false ∧ Below w.heap.size w w1 ∧ Below w1.heap.size w1 w' := by
 obtain ⟨Z, hZ⟩ : ∃ Z : List Value, Z.toArray = madeCells #[.int .u8 0] L.length := ⟨_, Array.toArray_toList⟩
 have hZs : Z.length = L.length := by have := congrArg Array.size hZ; simpa [size_madeCells] using this
 have hmk := make_lc (P := Tryd.prog) 28 5 .u8 1 Tryd.underlying28 infoU8 L.length L.length (L.length : Int) (by omega) (by omega) (by omega) (by omega)
 rw [← hZ] at hmk
 have HZ := zA hZs
 have HL := zA (show L.length ≤ 9223372036854775807 by omega)
 have HC := zA hr0
 clear hZ hZs hr0 hl
 go_enter Tryd.func59, Tryd.ntmps59
 go_wp2_with ((with_reducible refine wpList_copy_splice rfl (.tmp 7) (.tmp 8) 28 28 rfl 5 Tryd.underlying28 sizeU8 (some ⟨w.heap.size, 0, none⟩) A0 L.length L.length L.length c0 rfl rfl w.heap.size 0 Z 5 ?hg (nums .u8 L) ?hn ?hpos ?hfit (nums_one _ _) w.heap.size w ((zX _ _).alloc (z5 _) _) (z5 _) ?_); rotate_left 4; intro w2 HG HB2; have HO := zA (own_copied (base := w.heap.size) HZ.out rfl (z5 _) HL.out (z5 _) HG.out); clear HG)
 case hg => exact heap_alloc_new w _
 case hpos =>
  intro hp
  have hx := C_cells (zD HC.out ((zX _ _).alloc (z5 _) (.cells Z.toArray 5))) (by rwa [nums_length] at hp)
  first | exact ⟨rfl, hx⟩ | exact hx
 case hn => (simp [nums_length])
 case hfit => (have h1 := HZ.out; have h2 := nums_length .u8 L; omega)
 go_ret
 have hR : Kd.R (Kd.int .u8) 5 w2 w.heap.size (fun _ => True) (.slice (some ⟨w.heap.size, 0, none⟩) L.length L.length) L := Kd.R_of_own HO.out (fun _ _ => trivial)
 have hCC := (Kd.R_reads' hR).2.2
 exact ⟨w2, w2.heap.size, rfl, ⟨_, heap_alloc_new _ _, z5 _, ⟨w.heap.size, 0, none⟩, L.length, rfl, hCC, z5 _, Int.le_refl _, Int.natCast_nonneg _⟩, HB2, (zX _ _).alloc (z5 _) _⟩
end Go.Proofs.YtdbfgfgbjheibaaDoor.Given
end
