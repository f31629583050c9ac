/- What the document's octets put, over the texts of the container. -/
import Derived.Test.YtdbfgfgbjheibaaDoorZBoxEncodesq
import Derived.Test.YtdbfgfgbjheibaaDoorZBoxEncodesab
import Derived.Test.YtdbfgfgbjheibaaDoorZBoxEncodesah
import Derived.Test.YtdbfgfgbjheibaaDoorZBoxEncodesam
import Derived.Test.YtdbfgfgbjheibaaDoorZBoxEncodesao
section
/- Printed by a program of this session (wip/pg.py, over the print of the kit): functions, their Lean twins, and the proofs that the calls come to them; each under the conditions that it names. -/
namespace Go.Proofs.YtdbfgfgbjheibaaDoor.PBx
open Go.RowKit Go.Proofs.YtdbfgfgbjheibaaDoorW.PrintWords Go.Proofs.YtdbfgfgbjheibaaDoorW.PrintLast Go.Proofs.YtdbfgfgbjheibaaDoorW.PrintMore
attribute [local go_sem] max2_int min2_int max_two min_two max_three min_three max_four min_four   -- for this text's walks alone
set_option linter.unusedVariables false
set_option linter.unusedSimpArgs false

/-! ### w16_Few: function 7 -/
mutual
def w16_Few.j0 : Nat → Bool → List (S68) → List (S41) → List (S43) → List (S48) → Option (Bool)
 | 0, _, _, _, _, _ => none
 | k + 1, x27, x103000, x103001, x103002, x103003 => if x27 = true then (some false) else (w16_Few.l0 k 0 x103000 x103001 x103002 x103003)
def w16_Few.l0 : Nat → Int → List (S68) → List (S41) → List (S43) → List (S48) → Option (Bool)
 | 0, _, _, _, _, _ => none
 | k + 1, x3, x103000, x103001, x103002, x103003 => if x3 < (x103001.length : Int) then (if 0 ≤ x3 then (if (((rd_T41 x103001 x3).f0).size : Int) > 300 then (some false) else (w16_Few.l0 k (wrap64 (x3 + 1)) x103000 x103001 x103002 x103003)) else (none)) else (w16_Few.l1 k 0 x103000 x103001 x103002 x103003)
def w16_Few.l1 : Nat → Int → List (S68) → List (S41) → List (S43) → List (S48) → Option (Bool)
 | 0, _, _, _, _, _ => none
 | k + 1, x4, x103000, x103001, x103002, x103003 => if x4 < (x103002.length : Int) then (if 0 ≤ x4 then (if (((rd_T43 x103002 x4).f0).size : Int) > 300 then (some false) else (w16_Few.l1 k (wrap64 (x4 + 1)) x103000 x103001 x103002 x103003)) else (none)) else (w16_Few.l2 k 0 x103000 x103001 x103002 x103003)
def w16_Few.l2 : Nat → Int → List (S68) → List (S41) → List (S43) → List (S48) → Option (Bool)
 | 0, _, _, _, _, _ => none
 | k + 1, x5, x103000, x103001, x103002, x103003 => if x5 < (x103003.length : Int) then (if 0 ≤ x5 then ((w15_Few.f ((rd_T48 x103003 x5).f0) ((rd_T48 x103003 x5).f1) ((rd_T48 x103003 x5).f2) ((rd_T48 x103003 x5).f3) ((rd_T48 x103003 x5).f4)).bind fun t106 => (if t106 = true then (w16_Few.l2 k (wrap64 (x5 + 1)) x103000 x103001 x103002 x103003) else (some false))) else (none)) else (some true)
end
def w16_Few.f (k : Nat) (l0_0 : List (S68)) (l0_1 : List (S41)) (l0_2 : List (S43)) (l0_3 : List (S48)) : Option (Bool) := if (l0_0.length : Int) > 60 then (w16_Few.j0 k true l0_0 l0_1 l0_2 l0_3) else (if (l0_1.length : Int) > 70 then (w16_Few.j0 k true l0_0 l0_1 l0_2 l0_3) else (if (l0_2.length : Int) > 40 then (w16_Few.j0 k true l0_0 l0_1 l0_2 l0_3) else (w16_Few.j0 k (decide ((l0_3.length : Int) > 10)) l0_0 l0_1 l0_2 l0_3)))
theorem w16_Few.mono_l : ∀ k, (∀ y0 y1 y2 y3 y4, LeO (w16_Few.j0 k y0 y1 y2 y3 y4) (w16_Few.j0 (k + 1) y0 y1 y2 y3 y4)) ∧ (∀ y0 y1 y2 y3 y4, LeO (w16_Few.l0 k y0 y1 y2 y3 y4) (w16_Few.l0 (k + 1) y0 y1 y2 y3 y4)) ∧ (∀ y0 y1 y2 y3 y4, LeO (w16_Few.l1 k y0 y1 y2 y3 y4) (w16_Few.l1 (k + 1) y0 y1 y2 y3 y4)) ∧ (∀ y0 y1 y2 y3 y4, LeO (w16_Few.l2 k y0 y1 y2 y3 y4) (w16_Few.l2 (k + 1) y0 y1 y2 y3 y4))
 | 0 => ⟨fun _ _ _ _ _ r h => by simp [w16_Few.j0] at h, fun _ _ _ _ _ r h => by simp [w16_Few.l0] at h, fun _ _ _ _ _ r h => by simp [w16_Few.l1] at h, fun _ _ _ _ _ r h => by simp [w16_Few.l2] at h⟩
 | k + 1 => by
  obtain ⟨ih0, ih1, ih2, ih3⟩ := w16_Few.mono_l k
  refine ⟨?_, ?_, ?_, ?_⟩
  ·intro y0 y1 y2 y3 y4
   unfold w16_Few.j0
   repeat' first
   | (with_reducible exact ih0 _ _ _ _ _)
   | (with_reducible exact ih1 _ _ _ _ _)
   | (with_reducible exact ih2 _ _ _ _ _)
   | (with_reducible exact ih3 _ _ _ _ _)
   | (with_reducible exact LeO.refl _)
   | (with_reducible exact LeO.none _)
   | (with_reducible refine LeO.ite ?_ ?_)
   | (with_reducible refine LeO.bind ?_ (fun _ => ?_))
   | exact ih0 _ _ _ _ _
   | exact ih1 _ _ _ _ _
   | exact ih2 _ _ _ _ _
   | exact ih3 _ _ _ _ _
   | exact LeO.none _
   | refine LeO.ite ?_ ?_
   | refine LeO.bind ?_ (fun _ => ?_)
  ·intro y0 y1 y2 y3 y4
   unfold w16_Few.l0
   repeat' first
   | (with_reducible exact ih0 _ _ _ _ _)
   | (with_reducible exact ih1 _ _ _ _ _)
   | (with_reducible exact ih2 _ _ _ _ _)
   | (with_reducible exact ih3 _ _ _ _ _)
   | (with_reducible exact LeO.refl _)
   | (with_reducible exact LeO.none _)
   | (with_reducible refine LeO.ite ?_ ?_)
   | (with_reducible refine LeO.bind ?_ (fun _ => ?_))
   | exact ih0 _ _ _ _ _
   | exact ih1 _ _ _ _ _
   | exact ih2 _ _ _ _ _
   | exact ih3 _ _ _ _ _
   | exact LeO.none _
   | refine LeO.ite ?_ ?_
   | refine LeO.bind ?_ (fun _ => ?_)
  ·intro y0 y1 y2 y3 y4
   unfold w16_Few.l1
   repeat' first
   | (with_reducible exact ih0 _ _ _ _ _)
   | (with_reducible exact ih1 _ _ _ _ _)
   | (with_reducible exact ih2 _ _ _ _ _)
   | (with_reducible exact ih3 _ _ _ _ _)
   | (with_reducible exact LeO.refl _)
   | (with_reducible exact LeO.none _)
   | (with_reducible refine LeO.ite ?_ ?_)
   | (with_reducible refine LeO.bind ?_ (fun _ => ?_))
   | exact ih0 _ _ _ _ _
   | exact ih1 _ _ _ _ _
   | exact ih2 _ _ _ _ _
   | exact ih3 _ _ _ _ _
   | exact LeO.none _
   | refine LeO.ite ?_ ?_
   | refine LeO.bind ?_ (fun _ => ?_)
  ·intro y0 y1 y2 y3 y4
   unfold w16_Few.l2
   repeat' first
   | (with_reducible exact ih0 _ _ _ _ _)
   | (with_reducible exact ih1 _ _ _ _ _)
   | (with_reducible exact ih2 _ _ _ _ _)
   | (with_reducible exact ih3 _ _ _ _ _)
   | (with_reducible exact LeO.refl _)
   | (with_reducible exact LeO.none _)
   | (with_reducible refine LeO.ite ?_ ?_)
   | (with_reducible refine LeO.bind ?_ (fun _ => ?_))
   | exact ih0 _ _ _ _ _
   | exact ih1 _ _ _ _ _
   | exact ih2 _ _ _ _ _
   | exact ih3 _ _ _ _ _
   | exact LeO.none _
   | refine LeO.ite ?_ ?_
   | refine LeO.bind ?_ (fun _ => ?_)
theorem w16_Few.mono : ∀ a0 a1 a2 a3 k, LeO (w16_Few.f k a0 a1 a2 a3) (w16_Few.f (k + 1) a0 a1 a2 a3) := by
 intro a0 a1 a2 a3 k
 obtain ⟨ih0, ih1, ih2, ih3⟩ := w16_Few.mono_l k
 unfold w16_Few.f
 repeat' first
   | (with_reducible exact ih0 _ _ _ _ _)
   | (with_reducible exact ih1 _ _ _ _ _)
   | (with_reducible exact ih2 _ _ _ _ _)
   | (with_reducible exact ih3 _ _ _ _ _)
   | (with_reducible exact LeO.refl _)
   | (with_reducible exact LeO.none _)
   | (with_reducible refine LeO.ite ?_ ?_)
   | (with_reducible refine LeO.bind ?_ (fun _ => ?_))
   | exact ih0 _ _ _ _ _
   | exact ih1 _ _ _ _ _
   | exact ih2 _ _ _ _ _
   | exact ih3 _ _ _ _ _
   | exact LeO.none _
   | refine LeO.ite ?_ ?_
   | refine LeO.bind ?_ (fun _ => ?_)
set_option maxHeartbeats 8000000 in
set_option maxRecDepth 100000 in
theorem w16_Few.calls (k : Nat) (A0_0 : Option Addr) (c0_0 : Nat) (l0_0 : List (S68)) (A0_1 : Option Addr) (c0_1 : Nat) (l0_1 : List (S41)) (A0_2 : Option Addr) (c0_2 : Nat) (l0_2 : List (S43)) (A0_3 : Option Addr) (c0_3 : Nat) (l0_3 : List (S48)) (r : Bool) (w : World) (hr0_0 : Kd.C k68 w A0_0 l0_0.length l0_0) (hc0_0 : l0_0.length ≤ c0_0) (hr0_1 : Kd.C k41 w A0_1 l0_1.length l0_1) (hc0_1 : l0_1.length ≤ c0_1) (hr0_2 : Kd.C k43 w A0_2 l0_2.length l0_2) (hc0_2 : l0_2.length ≤ c0_2) (hr0_3 : Kd.C k48 w A0_3 l0_3.length l0_3) (hc0_3 : l0_3.length ≤ c0_3) (h : w16_Few.f k l0_0 l0_1 l0_2 l0_3 = some r) :
  Calls Tryd.prog 7 #[.agg #[.slice A0_0 l0_0.length c0_0, .slice A0_1 l0_1.length c0_1, .slice A0_2 l0_2.length c0_2, .slice A0_3 l0_3.length c0_3]] w fun e w' => e = .returned (.bool r) ∧ Below w.heap.size w w' := by
 have hu27 := Tryd.underlying27
 have hu48 := Tryd.underlying48
 have HR0_0 := zA hr0_0
 have HC0_0 := zA hc0_0
 clear hr0_0 hc0_0
 have HR0_1 := zA hr0_1
 have HC0_1 := zA hc0_1
 clear hr0_1 hc0_1
 have HR0_2 := zA hr0_2
 have HC0_2 := zA hc0_2
 clear hr0_2 hc0_2
 have HR0_3 := zA hr0_3
 have HC0_3 := zA hc0_3
 clear hr0_3 hc0_3
 have HB := zA (zX w.heap.size w)
 have H : (if (l0_0.length : Int) > 60 then (w16_Few.j0 k true l0_0 l0_1 l0_2 l0_3) else (if (l0_1.length : Int) > 70 then (w16_Few.j0 k true l0_0 l0_1 l0_2 l0_3) else (if (l0_2.length : Int) > 40 then (w16_Few.j0 k true l0_0 l0_1 l0_2 l0_3) else (w16_Few.j0 k (decide ((l0_3.length : Int) > 10)) l0_0 l0_1 l0_2 l0_3)))) = some r := h
 clear h
 have HC2 := zA H
 clear H
 go_enter Tryd.func7, Tryd.ntmps7
 go_upto_region 1 with (first | ((with_reducible refine gate_dst (N := 1) rfl ?_); (try (refine gate_guard (by rfl) ?_; dsimp only)); refine box_event ?hg (N := 1) ?hd (cs := #[.slice A0_0 l0_0.length c0_0, .slice A0_1 l0_1.length c0_1, .slice A0_2 l0_2.length c0_2, .slice A0_3 l0_3.length c0_3]) (t := 27) ?hr ?_; (case hd => rfl); (case hg => rfl); (case hr => first | (go_simp; done) | (go_simp; rfl)); intro gb102 hg w3 hbox hb; have BK102 := zA (hbox); have GW102 := zA ((by rw [hg]; exact (below_size (by repeat (first | (with_reducible first | exact HB.out | apply zB | apply zN | apply below_drew1) | exact HB.out))) : w.heap.size ≤ gb102)); have GE102 := GW102; replace HB := zA (below_step (by repeat (first | (with_reducible first | exact HB.out | apply zB | apply zN | apply below_drew1) | exact HB.out)) hb); clear hb hbox hg))
 (try simp only [Act.put, zY, List.set_cons_zero, z2])
 go_cut [27] (fun v27 wc => ∃ (kq : Nat) (x27_1 : Bool), v27 = .bool x27_1 ∧ Aside0 (w16_Few.j0 kq x27_1 l0_0 l0_1 l0_2 l0_3 = some r) ∧ Aside0 (kq ≤ k) ∧ Aside0 (wc.heap[gb102]? = some (.cells #[(.slice A0_0 l0_0.length c0_0), (.slice A0_1 l0_1.length c0_1), (.slice A0_2 l0_2.length c0_2), (.slice A0_3 l0_3.length c0_3)] 27 (0, 0))) ∧ Aside0 (Below w.heap.size w wc))
 case first =>
  have H := HC2.out
  clear HC2
  by_cases c4 : (l0_0.length : Int) > 60
  ·rw [if_pos c4] at H
   have c4b0 : decide (60 < (l0_0.length : Int)) = true := decide_eq_true c4
   have c4b1 : decide (60 < l0_0.length) = true := decide_eq_true (by omega)
   clear c4
   (first | rw [c4b0] | (simp only [i64_w, i32_w]; rw [c4b0]) | skip)
   have H' := zA H
   clear H
   have hcz5_0 : w3.cell? ⟨gb102, 0, none⟩ = some (.slice A0_0 l0_0.length c0_0) := (zC BK102.out 0).trans rfl
   have hcz5_1 : w3.cell? ⟨gb102, 1, none⟩ = some (.slice A0_1 l0_1.length c0_1) := (zC BK102.out 1).trans rfl
   have hcz5_2 : w3.cell? ⟨gb102, 2, none⟩ = some (.slice A0_2 l0_2.length c0_2) := (zC BK102.out 2).trans rfl
   have hcz5_3 : w3.cell? ⟨gb102, 3, none⟩ = some (.slice A0_3 l0_3.length c0_3) := (zC BK102.out 3).trans rfl
   have hfz5_0 := zF BK102.out 0
   have hfz5_1 := zF BK102.out 1
   have hfz5_2 := zF BK102.out 2
   have hfz5_3 := zF BK102.out 3
   go_wp2
   go_meet
   case rel => exact ⟨_, (true), (by first | rfl | (simp; done) | (simp [*]; done)), H', ⟨by first | omega | exact z5 _⟩, ⟨by (with_reducible repeat (first | refine zG ?_ _ | refine zH ?_)); exact BK102.out⟩, ⟨by repeat (first | (with_reducible first | exact HB.out | apply zB | apply zN | apply below_drew1 | refine zE ?_ GE102.out) | exact HB.out)⟩⟩
  ·rw [if_neg c4] at H
   have c4b0 : decide (60 < (l0_0.length : Int)) = false := decide_eq_false c4
   have c4b1 : decide (60 < l0_0.length) = false := decide_eq_false (by omega)
   clear c4
   (first | rw [c4b0] | (simp only [i64_w, i32_w]; rw [c4b0]) | skip)
   by_cases c6 : (l0_1.length : Int) > 70
   ·rw [if_pos c6] at H
    have c6b0 : decide (70 < (l0_1.length : Int)) = true := decide_eq_true c6
    have c6b1 : decide (70 < l0_1.length) = true := decide_eq_true (by omega)
    clear c6
    have H' := zA H
    clear H
    have hcz7_0 : w3.cell? ⟨gb102, 0, none⟩ = some (.slice A0_0 l0_0.length c0_0) := (zC BK102.out 0).trans rfl
    have hcz7_1 : w3.cell? ⟨gb102, 1, none⟩ = some (.slice A0_1 l0_1.length c0_1) := (zC BK102.out 1).trans rfl
    have hcz7_2 : w3.cell? ⟨gb102, 2, none⟩ = some (.slice A0_2 l0_2.length c0_2) := (zC BK102.out 2).trans rfl
    have hcz7_3 : w3.cell? ⟨gb102, 3, none⟩ = some (.slice A0_3 l0_3.length c0_3) := (zC BK102.out 3).trans rfl
    have hfz7_0 := zF BK102.out 0
    have hfz7_1 := zF BK102.out 1
    have hfz7_2 := zF BK102.out 2
    have hfz7_3 := zF BK102.out 3
    go_wp2
    go_meet
    case rel => exact ⟨_, (true), (by first | rfl | (simp; done) | (simp [*]; done)), H', ⟨by first | omega | exact z5 _⟩, ⟨by (with_reducible repeat (first | refine zG ?_ _ | refine zH ?_)); exact BK102.out⟩, ⟨by repeat (first | (with_reducible first | exact HB.out | apply zB | apply zN | apply below_drew1 | refine zE ?_ GE102.out) | exact HB.out)⟩⟩
   ·rw [if_neg c6] at H
    have c6b0 : decide (70 < (l0_1.length : Int)) = false := decide_eq_false c6
    have c6b1 : decide (70 < l0_1.length) = false := decide_eq_false (by omega)
    clear c6
    by_cases c8 : (l0_2.length : Int) > 40
    ·rw [if_pos c8] at H
     have c8b0 : decide (40 < (l0_2.length : Int)) = true := decide_eq_true c8
     have c8b1 : decide (40 < l0_2.length) = true := decide_eq_true (by omega)
     clear c8
     have H' := zA H
     clear H
     have hcz9_0 : w3.cell? ⟨gb102, 0, none⟩ = some (.slice A0_0 l0_0.length c0_0) := (zC BK102.out 0).trans rfl
     have hcz9_1 : w3.cell? ⟨gb102, 1, none⟩ = some (.slice A0_1 l0_1.length c0_1) := (zC BK102.out 1).trans rfl
     have hcz9_2 : w3.cell? ⟨gb102, 2, none⟩ = some (.slice A0_2 l0_2.length c0_2) := (zC BK102.out 2).trans rfl
     have hcz9_3 : w3.cell? ⟨gb102, 3, none⟩ = some (.slice A0_3 l0_3.length c0_3) := (zC BK102.out 3).trans rfl
     have hfz9_0 := zF BK102.out 0
     have hfz9_1 := zF BK102.out 1
     have hfz9_2 := zF BK102.out 2
     have hfz9_3 := zF BK102.out 3
     go_wp2
     go_meet
     case rel => exact ⟨_, (true), (by first | rfl | (simp; done) | (simp [*]; done)), H', ⟨by first | omega | exact z5 _⟩, ⟨by (with_reducible repeat (first | refine zG ?_ _ | refine zH ?_)); exact BK102.out⟩, ⟨by repeat (first | (with_reducible first | exact HB.out | apply zB | apply zN | apply below_drew1 | refine zE ?_ GE102.out) | exact HB.out)⟩⟩
    ·rw [if_neg c8] at H
     have c8b0 : decide (40 < (l0_2.length : Int)) = false := decide_eq_false c8
     have c8b1 : decide (40 < l0_2.length) = false := decide_eq_false (by omega)
     clear c8
     have H' := zA H
     clear H
     have hcz10_0 : w3.cell? ⟨gb102, 0, none⟩ = some (.slice A0_0 l0_0.length c0_0) := (zC BK102.out 0).trans rfl
     have hcz10_1 : w3.cell? ⟨gb102, 1, none⟩ = some (.slice A0_1 l0_1.length c0_1) := (zC BK102.out 1).trans rfl
     have hcz10_2 : w3.cell? ⟨gb102, 2, none⟩ = some (.slice A0_2 l0_2.length c0_2) := (zC BK102.out 2).trans rfl
     have hcz10_3 : w3.cell? ⟨gb102, 3, none⟩ = some (.slice A0_3 l0_3.length c0_3) := (zC BK102.out 3).trans rfl
     have hfz10_0 := zF BK102.out 0
     have hfz10_1 := zF BK102.out 1
     have hfz10_2 := zF BK102.out 2
     have hfz10_3 := zF BK102.out 3
     go_wp2
     go_meet
     case rel => exact ⟨_, (decide ((l0_3.length : Int) > 10)), (by first | rfl | (simp; done) | (simp [*]; done)), H', ⟨by first | omega | exact z5 _⟩, ⟨by (with_reducible repeat (first | refine zG ?_ _ | refine zH ?_)); exact BK102.out⟩, ⟨by repeat (first | (with_reducible first | exact HB.out | apply zB | apply zN | apply below_drew1 | refine zE ?_ GE102.out) | exact HB.out)⟩⟩
 case rest =>
  clear HC2
  try clear p2
  try clear c4
  try clear c4b0
  try clear c4b1
  try clear c6
  try clear c6b0
  try clear c6b1
  try clear c7
  try clear c8
  try clear c8b0
  try clear c8b1
  try clear hcz10_0
  try clear hcz10_1
  try clear hcz10_2
  try clear hcz10_3
  try clear hcz5_0
  try clear hcz5_1
  try clear hcz5_2
  try clear hcz5_3
  try clear hcz7_0
  try clear hcz7_1
  try clear hcz7_2
  try clear hcz7_3
  try clear hcz9_0
  try clear hcz9_1
  try clear hcz9_2
  try clear hcz9_3
  try clear hfz10_0
  try clear hfz10_1
  try clear hfz10_2
  try clear hfz10_3
  try clear hfz5_0
  try clear hfz5_1
  try clear hfz5_2
  try clear hfz5_3
  try clear hfz7_0
  try clear hfz7_1
  try clear hfz7_2
  try clear hfz7_3
  try clear hfz9_0
  try clear hfz9_1
  try clear hfz9_2
  try clear hfz9_3
  obtain ⟨kq, x27_1, rfl, HA, HJ1, BK102, HB⟩ := hcut
  cases kq with
  | zero => exact absurd HA.out (by simp [w16_Few.j0])
  | succ kj1 =>
   have H := HA.out
   clear HA
   simp only [w16_Few.j0] at H
   by_cases c11 : x27_1 = true
   ·subst c11
    have H1 : (some false) = some r := by rw [if_pos rfl] at H; exact H
    clear H
    have H := H1
    clear H1
    obtain rfl := zJ H
    go_wp2
    go_ret
    exact ⟨by first | rfl | (simp [errW_none, errW_some] <;> rfl) | (simp [*, errW_none, errW_some] <;> rfl), by repeat (first | (with_reducible first | exact HB.out | apply zB | apply zN | apply below_drew1 | refine zE ?_ GE102.out) | exact HB.out)⟩
   ·replace c11 := Bool.eq_false_iff.mpr c11
    subst c11
    have H1 : (w16_Few.l0 kj1 0 l0_0 l0_1 l0_2 l0_3) = some r := by rw [if_neg (show ¬ (false = true) by decide)] at H; exact H
    clear H
    have H := H1
    clear H1
    have H' := zA H
    clear H
    go_wp2
    go_loopg [3] kj1 (fun kq v3 w' => ∃ (x3_2 : Int), v3 = .int .i64 x3_2 ∧ Aside0 (w16_Few.l0 kq x3_2 l0_0 l0_1 l0_2 l0_3 = some r) ∧ Aside0 (kq ≤ kj1) ∧ Aside0 (w'.heap[gb102]? = some (.cells #[(.slice A0_0 l0_0.length c0_0), (.slice A0_1 l0_1.length c0_1), (.slice A0_2 l0_2.length c0_2), (.slice A0_3 l0_3.length c0_3)] 27 (0, 0))) ∧ Aside0 (Below w.heap.size w w'))
    case atStart => exact ⟨(0), (by first | rfl | (simp; done) | (simp [*]; done)), H', ⟨z5 _⟩, ⟨by (with_reducible repeat (first | refine zG ?_ _ | refine zH ?_)); exact BK102.out⟩, ⟨by repeat (first | (with_reducible first | exact HB.out | apply zB | apply zN | apply below_drew1 | refine zE ?_ GE102.out) | exact HB.out)⟩⟩
    case round =>
     clear H'
     try clear c1
     try clear p2
     try clear c4
     try clear c4b0
     try clear c4b1
     try clear c6
     try clear c6b0
     try clear c6b1
     try clear c7
     try clear c8
     try clear c8b0
     try clear c8b1
     try clear c11
     try clear hcz10_0
     try clear hcz10_1
     try clear hcz10_2
     try clear hcz10_3
     try clear hcz5_0
     try clear hcz5_1
     try clear hcz5_2
     try clear hcz5_3
     try clear hcz7_0
     try clear hcz7_1
     try clear hcz7_2
     try clear hcz7_3
     try clear hcz9_0
     try clear hcz9_1
     try clear hcz9_2
     try clear hcz9_3
     try clear hfz10_0
     try clear hfz10_1
     try clear hfz10_2
     try clear hfz10_3
     try clear hfz5_0
     try clear hfz5_1
     try clear hfz5_2
     try clear hfz5_3
     try clear hfz7_0
     try clear hfz7_1
     try clear hfz7_2
     try clear hfz7_3
     try clear hfz9_0
     try clear hfz9_1
     try clear hfz9_2
     try clear hfz9_3
     try clear p2
     obtain ⟨x3_2, rfl, HA, HK2, BK102, HB⟩ := hrel
     cases gk with
     | zero => exact absurd HA.out (by simp [w16_Few.l0])
     | succ k2 =>
      have H := HA.out
      clear HA
      simp only [w16_Few.l0] at H
      by_cases c12 : x3_2 < (l0_1.length : Int)
      ·rw [if_pos c12] at H
       have c12b0 : decide (x3_2 < (l0_1.length : Int)) = true := decide_eq_true c12
       clear c12
       by_cases c13 : 0 ≤ x3_2
       ·rw [if_pos c13] at H
        have c13b0 : decide (0 ≤ x3_2) = true := decide_eq_true c13
        clear c13
        by_cases c14 : (((rd_T41 l0_1 x3_2).f0).size : Int) > 300
        ·rw [if_pos c14] at H
         have c14b0 : decide (300 < (((rd_T41 l0_1 x3_2).f0).size : Int)) = true := decide_eq_true c14
         have c14b1 : decide (300 < ((rd_T41 l0_1 x3_2).f0).size) = true := decide_eq_true (by omega)
         clear c14
         obtain rfl := zJ H
         have hcz15_0 : wr.cell? ⟨gb102, 0, none⟩ = some (.slice A0_0 l0_0.length c0_0) := (zC BK102.out 0).trans rfl
         have hcz15_1 : wr.cell? ⟨gb102, 1, none⟩ = some (.slice A0_1 l0_1.length c0_1) := (zC BK102.out 1).trans rfl
         have hcz15_2 : wr.cell? ⟨gb102, 2, none⟩ = some (.slice A0_2 l0_2.length c0_2) := (zC BK102.out 2).trans rfl
         have hcz15_3 : wr.cell? ⟨gb102, 3, none⟩ = some (.slice A0_3 l0_3.length c0_3) := (zC BK102.out 3).trans rfl
         have hfz15_0 := zF BK102.out 0
         have hfz15_1 := zF BK102.out 1
         have hfz15_2 := zF BK102.out 2
         have hfz15_3 := zF BK102.out 3
         have p103 : 0 ≤ (x3_2 : Int) := zO (by first | (with_reducible assumption) | assumption)
         have q103 : x3_2 < (l0_1.length : Int) := zO (by first | (with_reducible assumption) | assumption)
         obtain ⟨ad103, e103, hx103_0, hx103_1, hx103_2, hx103_3, hx103_4⟩ := at_T41 HR0_1.out x3_2 p103 q103
         cases e103
         replace hx103_0 := (HB.out.cell (zL w _ hx103_0)).trans hx103_0
         replace hx103_1 := (HB.out.cell (zL w _ hx103_1)).trans hx103_1
         replace hx103_2 := (HB.out.cell (zL w _ hx103_2)).trans hx103_2
         replace hx103_3 := (HB.out.cell (zL w _ hx103_3)).trans hx103_3
         replace hx103_4 := (HB.out.cell (zL w _ hx103_4)).trans hx103_4
         replace p103 := eq_true p103
         replace q103 := eq_true q103
         go_wp2
         go_ret
         exact ⟨by first | rfl | (simp [errW_none, errW_some] <;> rfl) | (simp [*, errW_none, errW_some] <;> rfl), by repeat (first | (with_reducible first | exact HB.out | apply zB | apply zN | apply below_drew1 | refine zE ?_ GE102.out) | exact HB.out)⟩
        ·rw [if_neg c14] at H
         have c14b0 : decide (300 < (((rd_T41 l0_1 x3_2).f0).size : Int)) = false := decide_eq_false c14
         have c14b1 : decide (300 < ((rd_T41 l0_1 x3_2).f0).size) = false := decide_eq_false (by omega)
         clear c14
         have H' := zA H
         clear H
         have hcz16_0 : wr.cell? ⟨gb102, 0, none⟩ = some (.slice A0_0 l0_0.length c0_0) := (zC BK102.out 0).trans rfl
         have hcz16_1 : wr.cell? ⟨gb102, 1, none⟩ = some (.slice A0_1 l0_1.length c0_1) := (zC BK102.out 1).trans rfl
         have hcz16_2 : wr.cell? ⟨gb102, 2, none⟩ = some (.slice A0_2 l0_2.length c0_2) := (zC BK102.out 2).trans rfl
         have hcz16_3 : wr.cell? ⟨gb102, 3, none⟩ = some (.slice A0_3 l0_3.length c0_3) := (zC BK102.out 3).trans rfl
         have hfz16_0 := zF BK102.out 0
         have hfz16_1 := zF BK102.out 1
         have hfz16_2 := zF BK102.out 2
         have hfz16_3 := zF BK102.out 3
         have p103 : 0 ≤ (x3_2 : Int) := zO (by first | (with_reducible assumption) | assumption)
         have q103 : x3_2 < (l0_1.length : Int) := zO (by first | (with_reducible assumption) | assumption)
         obtain ⟨ad103, e103, hx103_0, hx103_1, hx103_2, hx103_3, hx103_4⟩ := at_T41 HR0_1.out x3_2 p103 q103
         cases e103
         replace hx103_0 := (HB.out.cell (zL w _ hx103_0)).trans hx103_0
         replace hx103_1 := (HB.out.cell (zL w _ hx103_1)).trans hx103_1
         replace hx103_2 := (HB.out.cell (zL w _ hx103_2)).trans hx103_2
         replace hx103_3 := (HB.out.cell (zL w _ hx103_3)).trans hx103_3
         replace hx103_4 := (HB.out.cell (zL w _ hx103_4)).trans hx103_4
         replace p103 := eq_true p103
         replace q103 := eq_true q103
         go_wp2
         go_roundg k2
         case measure => have := HJ1.out; have := HK2.out; omega
         case rel => exact ⟨(wrap64 (x3_2 + 1)), (by first | rfl | (simp; done) | (simp [*]; done)), H', ⟨by have := HJ1.out; have := HK2.out; omega⟩, ⟨by (with_reducible repeat (first | refine zG ?_ _ | refine zH ?_)); exact BK102.out⟩, ⟨by repeat (first | (with_reducible first | exact HB.out | apply zB | apply zN | apply below_drew1 | refine zE ?_ GE102.out) | exact HB.out)⟩⟩
       ·rw [if_neg c13] at H
        exact absurd H (by simp)
      ·rw [if_neg c12] at H
       have c12b0 : decide (x3_2 < (l0_1.length : Int)) = false := decide_eq_false c12
       clear c12
       have H' := zA H
       clear H
       have hcz17_0 : wr.cell? ⟨gb102, 0, none⟩ = some (.slice A0_0 l0_0.length c0_0) := (zC BK102.out 0).trans rfl
       have hcz17_1 : wr.cell? ⟨gb102, 1, none⟩ = some (.slice A0_1 l0_1.length c0_1) := (zC BK102.out 1).trans rfl
       have hcz17_2 : wr.cell? ⟨gb102, 2, none⟩ = some (.slice A0_2 l0_2.length c0_2) := (zC BK102.out 2).trans rfl
       have hcz17_3 : wr.cell? ⟨gb102, 3, none⟩ = some (.slice A0_3 l0_3.length c0_3) := (zC BK102.out 3).trans rfl
       have hfz17_0 := zF BK102.out 0
       have hfz17_1 := zF BK102.out 1
       have hfz17_2 := zF BK102.out 2
       have hfz17_3 := zF BK102.out 3
       go_wp2
       go_loopg [4] k2 (fun kq v4 w' => ∃ (x4_3 : Int), v4 = .int .i64 x4_3 ∧ Aside0 (w16_Few.l1 kq x4_3 l0_0 l0_1 l0_2 l0_3 = some r) ∧ Aside0 (kq ≤ k2) ∧ Aside0 (w'.heap[gb102]? = some (.cells #[(.slice A0_0 l0_0.length c0_0), (.slice A0_1 l0_1.length c0_1), (.slice A0_2 l0_2.length c0_2), (.slice A0_3 l0_3.length c0_3)] 27 (0, 0))) ∧ Aside0 (Below w.heap.size w w'))
       case atStart => exact ⟨(0), (by first | rfl | (simp; done) | (simp [*]; done)), H', ⟨z5 _⟩, ⟨by (with_reducible repeat (first | refine zG ?_ _ | refine zH ?_)); exact BK102.out⟩, ⟨by repeat (first | (with_reducible first | exact HB.out | apply zB | apply zN | apply below_drew1 | refine zE ?_ GE102.out) | exact HB.out)⟩⟩
       case round =>
        clear H'
        try clear c1
        try clear p1
        try clear q1
        try clear hx1
        try clear p2
        try clear c4
        try clear c4b0
        try clear c4b1
        try clear c6
        try clear c6b0
        try clear c6b1
        try clear p6
        try clear c7
        try clear c8
        try clear c8b0
        try clear c8b1
        try clear p10
        try clear q10
        try clear hx10
        try clear c11
        try clear c12
        try clear c12b0
        try clear c13
        try clear c13b0
        try clear c14
        try clear c14b0
        try clear c14b1
        try clear hcz10_0
        try clear hcz10_1
        try clear hcz10_2
        try clear hcz10_3
        try clear hcz15_0
        try clear hcz15_1
        try clear hcz15_2
        try clear hcz15_3
        try clear hcz16_0
        try clear hcz16_1
        try clear hcz16_2
        try clear hcz16_3
        try clear hcz17_0
        try clear hcz17_1
        try clear hcz17_2
        try clear hcz17_3
        try clear hcz5_0
        try clear hcz5_1
        try clear hcz5_2
        try clear hcz5_3
        try clear hcz7_0
        try clear hcz7_1
        try clear hcz7_2
        try clear hcz7_3
        try clear hcz9_0
        try clear hcz9_1
        try clear hcz9_2
        try clear hcz9_3
        try clear hfz10_0
        try clear hfz10_1
        try clear hfz10_2
        try clear hfz10_3
        try clear hfz15_0
        try clear hfz15_1
        try clear hfz15_2
        try clear hfz15_3
        try clear hfz16_0
        try clear hfz16_1
        try clear hfz16_2
        try clear hfz16_3
        try clear hfz17_0
        try clear hfz17_1
        try clear hfz17_2
        try clear hfz17_3
        try clear hfz5_0
        try clear hfz5_1
        try clear hfz5_2
        try clear hfz5_3
        try clear hfz7_0
        try clear hfz7_1
        try clear hfz7_2
        try clear hfz7_3
        try clear hfz9_0
        try clear hfz9_1
        try clear hfz9_2
        try clear hfz9_3
        try clear hx103_0
        try clear hx103_1
        try clear hx103_2
        try clear hx103_3
        try clear hx103_4
        try clear p103
        try clear p2
        try clear q103
        obtain ⟨x4_3, rfl, HA, HK3, BK102, HB⟩ := hrel
        cases gk with
        | zero => exact absurd HA.out (by simp [w16_Few.l1])
        | succ k3 =>
         have H := HA.out
         clear HA
         simp only [w16_Few.l1] at H
         by_cases c18 : x4_3 < (l0_2.length : Int)
         ·rw [if_pos c18] at H
          have c18b0 : decide (x4_3 < (l0_2.length : Int)) = true := decide_eq_true c18
          clear c18
          by_cases c19 : 0 ≤ x4_3
          ·rw [if_pos c19] at H
           have c19b0 : decide (0 ≤ x4_3) = true := decide_eq_true c19
           clear c19
           by_cases c20 : (((rd_T43 l0_2 x4_3).f0).size : Int) > 300
           ·rw [if_pos c20] at H
            have c20b0 : decide (300 < (((rd_T43 l0_2 x4_3).f0).size : Int)) = true := decide_eq_true c20
            have c20b1 : decide (300 < ((rd_T43 l0_2 x4_3).f0).size) = true := decide_eq_true (by omega)
            clear c20
            obtain rfl := zJ H
            have hcz21_0 : wr.cell? ⟨gb102, 0, none⟩ = some (.slice A0_0 l0_0.length c0_0) := (zC BK102.out 0).trans rfl
            have hcz21_1 : wr.cell? ⟨gb102, 1, none⟩ = some (.slice A0_1 l0_1.length c0_1) := (zC BK102.out 1).trans rfl
            have hcz21_2 : wr.cell? ⟨gb102, 2, none⟩ = some (.slice A0_2 l0_2.length c0_2) := (zC BK102.out 2).trans rfl
            have hcz21_3 : wr.cell? ⟨gb102, 3, none⟩ = some (.slice A0_3 l0_3.length c0_3) := (zC BK102.out 3).trans rfl
            have hfz21_0 := zF BK102.out 0
            have hfz21_1 := zF BK102.out 1
            have hfz21_2 := zF BK102.out 2
            have hfz21_3 := zF BK102.out 3
            have p104 : 0 ≤ (x4_3 : Int) := zO (by first | (with_reducible assumption) | assumption)
            have q104 : x4_3 < (l0_2.length : Int) := zO (by first | (with_reducible assumption) | assumption)
            obtain ⟨ad104, e104, hx104_0, hx104_1⟩ := at_T43 HR0_2.out x4_3 p104 q104
            cases e104
            replace hx104_0 := (HB.out.cell (zL w _ hx104_0)).trans hx104_0
            replace hx104_1 := (HB.out.cell (zL w _ hx104_1)).trans hx104_1
            replace p104 := eq_true p104
            replace q104 := eq_true q104
            go_wp2
            go_ret
            exact ⟨by first | rfl | (simp [errW_none, errW_some] <;> rfl) | (simp [*, errW_none, errW_some] <;> rfl), by repeat (first | (with_reducible first | exact HB.out | apply zB | apply zN | apply below_drew1 | refine zE ?_ GE102.out) | exact HB.out)⟩
           ·rw [if_neg c20] at H
            have c20b0 : decide (300 < (((rd_T43 l0_2 x4_3).f0).size : Int)) = false := decide_eq_false c20
            have c20b1 : decide (300 < ((rd_T43 l0_2 x4_3).f0).size) = false := decide_eq_false (by omega)
            clear c20
            have H' := zA H
            clear H
            have hcz22_0 : wr.cell? ⟨gb102, 0, none⟩ = some (.slice A0_0 l0_0.length c0_0) := (zC BK102.out 0).trans rfl
            have hcz22_1 : wr.cell? ⟨gb102, 1, none⟩ = some (.slice A0_1 l0_1.length c0_1) := (zC BK102.out 1).trans rfl
            have hcz22_2 : wr.cell? ⟨gb102, 2, none⟩ = some (.slice A0_2 l0_2.length c0_2) := (zC BK102.out 2).trans rfl
            have hcz22_3 : wr.cell? ⟨gb102, 3, none⟩ = some (.slice A0_3 l0_3.length c0_3) := (zC BK102.out 3).trans rfl
            have hfz22_0 := zF BK102.out 0
            have hfz22_1 := zF BK102.out 1
            have hfz22_2 := zF BK102.out 2
            have hfz22_3 := zF BK102.out 3
            have p104 : 0 ≤ (x4_3 : Int) := zO (by first | (with_reducible assumption) | assumption)
            have q104 : x4_3 < (l0_2.length : Int) := zO (by first | (with_reducible assumption) | assumption)
            obtain ⟨ad104, e104, hx104_0, hx104_1⟩ := at_T43 HR0_2.out x4_3 p104 q104
            cases e104
            replace hx104_0 := (HB.out.cell (zL w _ hx104_0)).trans hx104_0
            replace hx104_1 := (HB.out.cell (zL w _ hx104_1)).trans hx104_1
            replace p104 := eq_true p104
            replace q104 := eq_true q104
            go_wp2
            go_roundg k3
            case measure => have := HJ1.out; have := HK2.out; have := HK3.out; omega
            case rel => exact ⟨(wrap64 (x4_3 + 1)), (by first | rfl | (simp; done) | (simp [*]; done)), H', ⟨by have := HJ1.out; have := HK2.out; have := HK3.out; omega⟩, ⟨by (with_reducible repeat (first | refine zG ?_ _ | refine zH ?_)); exact BK102.out⟩, ⟨by repeat (first | (with_reducible first | exact HB.out | apply zB | apply zN | apply below_drew1 | refine zE ?_ GE102.out) | exact HB.out)⟩⟩
          ·rw [if_neg c19] at H
           exact absurd H (by simp)
         ·rw [if_neg c18] at H
          have c18b0 : decide (x4_3 < (l0_2.length : Int)) = false := decide_eq_false c18
          clear c18
          have H' := zA H
          clear H
          have hcz23_0 : wr.cell? ⟨gb102, 0, none⟩ = some (.slice A0_0 l0_0.length c0_0) := (zC BK102.out 0).trans rfl
          have hcz23_1 : wr.cell? ⟨gb102, 1, none⟩ = some (.slice A0_1 l0_1.length c0_1) := (zC BK102.out 1).trans rfl
          have hcz23_2 : wr.cell? ⟨gb102, 2, none⟩ = some (.slice A0_2 l0_2.length c0_2) := (zC BK102.out 2).trans rfl
          have hcz23_3 : wr.cell? ⟨gb102, 3, none⟩ = some (.slice A0_3 l0_3.length c0_3) := (zC BK102.out 3).trans rfl
          have hfz23_0 := zF BK102.out 0
          have hfz23_1 := zF BK102.out 1
          have hfz23_2 := zF BK102.out 2
          have hfz23_3 := zF BK102.out 3
          go_wp2
          go_loopg [5] k3 (fun kq v5 w' => ∃ (x5_4 : Int), v5 = .int .i64 x5_4 ∧ Aside0 (w16_Few.l2 kq x5_4 l0_0 l0_1 l0_2 l0_3 = some r) ∧ Aside0 (kq ≤ k3) ∧ Aside0 (w'.heap[gb102]? = some (.cells #[(.slice A0_0 l0_0.length c0_0), (.slice A0_1 l0_1.length c0_1), (.slice A0_2 l0_2.length c0_2), (.slice A0_3 l0_3.length c0_3)] 27 (0, 0))) ∧ Aside0 (Below w.heap.size w w'))
          case atStart => exact ⟨(0), (by first | rfl | (simp; done) | (simp [*]; done)), H', ⟨z5 _⟩, ⟨by (with_reducible repeat (first | refine zG ?_ _ | refine zH ?_)); exact BK102.out⟩, ⟨by repeat (first | (with_reducible first | exact HB.out | apply zB | apply zN | apply below_drew1 | refine zE ?_ GE102.out) | exact HB.out)⟩⟩
          case round =>
           clear H'
           try clear c1
           try clear p1
           try clear q1
           try clear hx1
           try clear c2
           try clear p2
           try clear c4
           try clear c4b0
           try clear c4b1
           try clear c6
           try clear c6b0
           try clear c6b1
           try clear p6
           try clear c7
           try clear c8
           try clear c8b0
           try clear c8b1
           try clear p10
           try clear q10
           try clear hx10
           try clear c11
           try clear c12
           try clear c12b0
           try clear c13
           try clear c13b0
           try clear c14
           try clear c14b0
           try clear c14b1
           try clear c18
           try clear c18b0
           try clear c19
           try clear c19b0
           try clear c20
           try clear c20b0
           try clear c20b1
           try clear hcz10_0
           try clear hcz10_1
           try clear hcz10_2
           try clear hcz10_3
           try clear hcz15_0
           try clear hcz15_1
           try clear hcz15_2
           try clear hcz15_3
           try clear hcz16_0
           try clear hcz16_1
           try clear hcz16_2
           try clear hcz16_3
           try clear hcz17_0
           try clear hcz17_1
           try clear hcz17_2
           try clear hcz17_3
           try clear hcz21_0
           try clear hcz21_1
           try clear hcz21_2
           try clear hcz21_3
           try clear hcz22_0
           try clear hcz22_1
           try clear hcz22_2
           try clear hcz22_3
           try clear hcz23_0
           try clear hcz23_1
           try clear hcz23_2
           try clear hcz23_3
           try clear hcz5_0
           try clear hcz5_1
           try clear hcz5_2
           try clear hcz5_3
           try clear hcz7_0
           try clear hcz7_1
           try clear hcz7_2
           try clear hcz7_3
           try clear hcz9_0
           try clear hcz9_1
           try clear hcz9_2
           try clear hcz9_3
           try clear hfz10_0
           try clear hfz10_1
           try clear hfz10_2
           try clear hfz10_3
           try clear hfz15_0
           try clear hfz15_1
           try clear hfz15_2
           try clear hfz15_3
           try clear hfz16_0
           try clear hfz16_1
           try clear hfz16_2
           try clear hfz16_3
           try clear hfz17_0
           try clear hfz17_1
           try clear hfz17_2
           try clear hfz17_3
           try clear hfz21_0
           try clear hfz21_1
           try clear hfz21_2
           try clear hfz21_3
           try clear hfz22_0
           try clear hfz22_1
           try clear hfz22_2
           try clear hfz22_3
           try clear hfz23_0
           try clear hfz23_1
           try clear hfz23_2
           try clear hfz23_3
           try clear hfz5_0
           try clear hfz5_1
           try clear hfz5_2
           try clear hfz5_3
           try clear hfz7_0
           try clear hfz7_1
           try clear hfz7_2
           try clear hfz7_3
           try clear hfz9_0
           try clear hfz9_1
           try clear hfz9_2
           try clear hfz9_3
           try clear hx103_0
           try clear hx103_1
           try clear hx103_2
           try clear hx103_3
           try clear hx103_4
           try clear hx104_0
           try clear hx104_1
           try clear p1
           try clear p10
           try clear p103
           try clear p104
           try clear p2
           try clear p6
           try clear q1
           try clear q10
           try clear q103
           try clear q104
           obtain ⟨x5_4, rfl, HA, HK4, BK102, HB⟩ := hrel
           cases gk with
           | zero => exact absurd HA.out (by simp [w16_Few.l2])
           | succ k4 =>
            have H := HA.out
            clear HA
            simp only [w16_Few.l2] at H
            by_cases c24 : x5_4 < (l0_3.length : Int)
            ·rw [if_pos c24] at H
             have c24b0 : decide (x5_4 < (l0_3.length : Int)) = true := decide_eq_true c24
             clear c24
             by_cases c25 : 0 ≤ x5_4
             ·rw [if_pos c25] at H
              have c25b0 : decide (0 ≤ x5_4) = true := decide_eq_true c25
              clear c25
              replace H := Option.bind_eq_some_iff.mp H
              obtain ⟨t106, A260, H⟩ := H
              replace H : (if t106 = true then (w16_Few.l2 k4 (wrap64 (x5_4 + 1)) l0_0 l0_1 l0_2 l0_3) else (some false)) = some r := H
              have A26 := zA A260
              clear A260
              by_cases c27 : t106 = true
              ·subst c27
               have H1 : (w16_Few.l2 k4 (wrap64 (x5_4 + 1)) l0_0 l0_1 l0_2 l0_3) = some r := by rw [if_pos rfl] at H; exact H
               clear H
               have H := H1
               clear H1
               have H' := zA H
               clear H
               have hcz28_0 : wr.cell? ⟨gb102, 0, none⟩ = some (.slice A0_0 l0_0.length c0_0) := (zC BK102.out 0).trans rfl
               have hcz28_1 : wr.cell? ⟨gb102, 1, none⟩ = some (.slice A0_1 l0_1.length c0_1) := (zC BK102.out 1).trans rfl
               have hcz28_2 : wr.cell? ⟨gb102, 2, none⟩ = some (.slice A0_2 l0_2.length c0_2) := (zC BK102.out 2).trans rfl
               have hcz28_3 : wr.cell? ⟨gb102, 3, none⟩ = some (.slice A0_3 l0_3.length c0_3) := (zC BK102.out 3).trans rfl
               have hfz28_0 := zF BK102.out 0
               have hfz28_1 := zF BK102.out 1
               have hfz28_2 := zF BK102.out 2
               have hfz28_3 := zF BK102.out 3
               have p105 : 0 ≤ (x5_4 : Int) := zO (by first | (with_reducible assumption) | assumption)
               have q105 : x5_4 < (l0_3.length : Int) := zO (by first | (with_reducible assumption) | assumption)
               obtain ⟨ad105, A105_1, c105_1, A105_3, c105_3, A105_4, c105_4, e105, hx105_0, hx105_1, hx105_2, hx105_3, hx105_4, hl105_1, hi105_1, hl105_3, hi105_3, hl105_4, hi105_4⟩ := at_T48 HR0_3.out x5_4 p105 q105
               cases e105
               replace hx105_0 := (HB.out.cell (zL w _ hx105_0)).trans hx105_0
               replace hx105_1 := (HB.out.cell (zL w _ hx105_1)).trans hx105_1
               replace hx105_2 := (HB.out.cell (zL w _ hx105_2)).trans hx105_2
               replace hx105_3 := (HB.out.cell (zL w _ hx105_3)).trans hx105_3
               replace hx105_4 := (HB.out.cell (zL w _ hx105_4)).trans hx105_4
               have HR105_1 := zA hi105_1
               have HC105_1 := zA hl105_1
               clear hi105_1 hl105_1
               have HR105_3 := zA hi105_3
               have HC105_3 := zA hl105_3
               clear hi105_3 hl105_3
               have HR105_4 := zA hi105_4
               have HC105_4 := zA hl105_4
               clear hi105_4 hl105_4
               replace p105 := eq_true p105
               replace q105 := eq_true q105
               go_wp2_with (first | ((with_reducible refine gate_callee (f := 16) rfl ?_); refine goesL_ (some 70) rfl rfl Tryd.func16 (by kernel_rfl) rfl #[.agg #[.string ((rd_T48 l0_3 x5_4).f0), .slice A105_1 ((rd_T48 l0_3 x5_4).f1).length c105_1, .int .i64 ((rd_T48 l0_3 x5_4).f2), .slice A105_3 ((rd_T48 l0_3 x5_4).f3).length c105_3, .slice A105_4 ((rd_T48 l0_3 x5_4).f4).length c105_4]] rfl (by (try simp only [zm, zc, zn]); first | done | rfl | (simp only [zd, zt]; rfl)) ?_; (with_reducible refine (w15_Few.calls ((rd_T48 l0_3 x5_4).f0) _ _ ((rd_T48 l0_3 x5_4).f1) ((rd_T48 l0_3 x5_4).f2) _ _ ((rd_T48 l0_3 x5_4).f3) _ _ ((rd_T48 l0_3 x5_4).f4) true _ ?side1 ?side2 ?side3 ?side4 ?side5 ?side6 A26.out).mono ?_); (case side1 => repeat (first | exact (zD HR105_1.out HB.out))); (case side2 => exact HC105_1.out); (case side3 => repeat (first | exact (zD HR105_3.out HB.out))); (case side4 => exact HC105_3.out); (case side5 => repeat (first | exact (zD HR105_4.out HB.out))); (case side6 => exact HC105_4.out); rintro e w29 ⟨rfl, hb⟩; refine ⟨_, rfl, ?_⟩; replace BK102 := zA (zQ (g := gb102) (o := .cells #[.slice A0_0 l0_0.length c0_0, .slice A0_1 l0_1.length c0_1, .slice A0_2 l0_2.length c0_2, .slice (some ad105) l0_3.length c0_3] 27 (0, 0)) (by (with_reducible repeat (first | refine zG ?_ _ | refine zH ?_)); exact BK102.out) hb); replace HB := zA (below_step (by repeat (first | (with_reducible first | exact HB.out | apply zB | apply zN | apply below_drew1 | refine zE ?_ GE102.out) | exact HB.out)) hb); (try clear hb); (try clear hb2); (try clear hk); (try clear hi)))
               go_roundg k4
               case measure => have := HJ1.out; have := HK2.out; have := HK3.out; have := HK4.out; omega
               case rel => exact ⟨(wrap64 (x5_4 + 1)), (by first | rfl | (simp; done) | (simp [*]; done)), H', ⟨by have := HJ1.out; have := HK2.out; have := HK3.out; have := HK4.out; omega⟩, ⟨by (with_reducible repeat (first | refine zG ?_ _ | refine zH ?_)); exact BK102.out⟩, ⟨by repeat (first | (with_reducible first | exact HB.out | apply zB | apply zN | apply below_drew1 | refine zE ?_ GE102.out) | exact HB.out)⟩⟩
              ·replace c27 := Bool.eq_false_iff.mpr c27
               subst c27
               have H1 : (some false) = some r := by rw [if_neg (show ¬ (false = true) by decide)] at H; exact H
               clear H
               have H := H1
               clear H1
               obtain rfl := zJ H
               have hcz30_0 : wr.cell? ⟨gb102, 0, none⟩ = some (.slice A0_0 l0_0.length c0_0) := (zC BK102.out 0).trans rfl
               have hcz30_1 : wr.cell? ⟨gb102, 1, none⟩ = some (.slice A0_1 l0_1.length c0_1) := (zC BK102.out 1).trans rfl
               have hcz30_2 : wr.cell? ⟨gb102, 2, none⟩ = some (.slice A0_2 l0_2.length c0_2) := (zC BK102.out 2).trans rfl
               have hcz30_3 : wr.cell? ⟨gb102, 3, none⟩ = some (.slice A0_3 l0_3.length c0_3) := (zC BK102.out 3).trans rfl
               have hfz30_0 := zF BK102.out 0
               have hfz30_1 := zF BK102.out 1
               have hfz30_2 := zF BK102.out 2
               have hfz30_3 := zF BK102.out 3
               have p105 : 0 ≤ (x5_4 : Int) := zO (by first | (with_reducible assumption) | assumption)
               have q105 : x5_4 < (l0_3.length : Int) := zO (by first | (with_reducible assumption) | assumption)
               obtain ⟨ad105, A105_1, c105_1, A105_3, c105_3, A105_4, c105_4, e105, hx105_0, hx105_1, hx105_2, hx105_3, hx105_4, hl105_1, hi105_1, hl105_3, hi105_3, hl105_4, hi105_4⟩ := at_T48 HR0_3.out x5_4 p105 q105
               cases e105
               replace hx105_0 := (HB.out.cell (zL w _ hx105_0)).trans hx105_0
               replace hx105_1 := (HB.out.cell (zL w _ hx105_1)).trans hx105_1
               replace hx105_2 := (HB.out.cell (zL w _ hx105_2)).trans hx105_2
               replace hx105_3 := (HB.out.cell (zL w _ hx105_3)).trans hx105_3
               replace hx105_4 := (HB.out.cell (zL w _ hx105_4)).trans hx105_4
               have HR105_1 := zA hi105_1
               have HC105_1 := zA hl105_1
               clear hi105_1 hl105_1
               have HR105_3 := zA hi105_3
               have HC105_3 := zA hl105_3
               clear hi105_3 hl105_3
               have HR105_4 := zA hi105_4
               have HC105_4 := zA hl105_4
               clear hi105_4 hl105_4
               replace p105 := eq_true p105
               replace q105 := eq_true q105
               go_wp2_with (first | ((with_reducible refine gate_callee (f := 16) rfl ?_); refine goesL_ (some 70) rfl rfl Tryd.func16 (by kernel_rfl) rfl #[.agg #[.string ((rd_T48 l0_3 x5_4).f0), .slice A105_1 ((rd_T48 l0_3 x5_4).f1).length c105_1, .int .i64 ((rd_T48 l0_3 x5_4).f2), .slice A105_3 ((rd_T48 l0_3 x5_4).f3).length c105_3, .slice A105_4 ((rd_T48 l0_3 x5_4).f4).length c105_4]] rfl (by (try simp only [zm, zc, zn]); first | done | rfl | (simp only [zd, zt]; rfl)) ?_; (with_reducible refine (w15_Few.calls ((rd_T48 l0_3 x5_4).f0) _ _ ((rd_T48 l0_3 x5_4).f1) ((rd_T48 l0_3 x5_4).f2) _ _ ((rd_T48 l0_3 x5_4).f3) _ _ ((rd_T48 l0_3 x5_4).f4) false _ ?side1 ?side2 ?side3 ?side4 ?side5 ?side6 A26.out).mono ?_); (case side1 => repeat (first | exact (zD HR105_1.out HB.out))); (case side2 => exact HC105_1.out); (case side3 => repeat (first | exact (zD HR105_3.out HB.out))); (case side4 => exact HC105_3.out); (case side5 => repeat (first | exact (zD HR105_4.out HB.out))); (case side6 => exact HC105_4.out); rintro e w31 ⟨rfl, hb⟩; refine ⟨_, rfl, ?_⟩; replace BK102 := zA (zQ (g := gb102) (o := .cells #[.slice A0_0 l0_0.length c0_0, .slice A0_1 l0_1.length c0_1, .slice A0_2 l0_2.length c0_2, .slice (some ad105) l0_3.length c0_3] 27 (0, 0)) (by (with_reducible repeat (first | refine zG ?_ _ | refine zH ?_)); exact BK102.out) hb); replace HB := zA (below_step (by repeat (first | (with_reducible first | exact HB.out | apply zB | apply zN | apply below_drew1 | refine zE ?_ GE102.out) | exact HB.out)) hb); (try clear hb); (try clear hb2); (try clear hk); (try clear hi)))
               go_ret
               exact ⟨by first | rfl | (simp [errW_none, errW_some] <;> rfl) | (simp [*, errW_none, errW_some] <;> rfl), by repeat (first | (with_reducible first | exact HB.out | apply zB | apply zN | apply below_drew1 | refine zE ?_ GE102.out) | exact HB.out)⟩
             ·rw [if_neg c25] at H
              exact absurd H (by simp)
            ·rw [if_neg c24] at H
             have c24b0 : decide (x5_4 < (l0_3.length : Int)) = false := decide_eq_false c24
             clear c24
             obtain rfl := zJ H
             have hcz32_0 : wr.cell? ⟨gb102, 0, none⟩ = some (.slice A0_0 l0_0.length c0_0) := (zC BK102.out 0).trans rfl
             have hcz32_1 : wr.cell? ⟨gb102, 1, none⟩ = some (.slice A0_1 l0_1.length c0_1) := (zC BK102.out 1).trans rfl
             have hcz32_2 : wr.cell? ⟨gb102, 2, none⟩ = some (.slice A0_2 l0_2.length c0_2) := (zC BK102.out 2).trans rfl
             have hcz32_3 : wr.cell? ⟨gb102, 3, none⟩ = some (.slice A0_3 l0_3.length c0_3) := (zC BK102.out 3).trans rfl
             have hfz32_0 := zF BK102.out 0
             have hfz32_1 := zF BK102.out 1
             have hfz32_2 := zF BK102.out 2
             have hfz32_3 := zF BK102.out 3
             go_wp2
             go_ret
             exact ⟨by first | rfl | (simp [errW_none, errW_some] <;> rfl) | (simp [*, errW_none, errW_some] <;> rfl), by repeat (first | (with_reducible first | exact HB.out | apply zB | apply zN | apply below_drew1 | refine zE ?_ GE102.out) | exact HB.out)⟩

end Go.Proofs.YtdbfgfgbjheibaaDoor.PBx
end

section
/- A region that draws its order: each operation by itself, whatever order comes up; no conditions. -/
namespace Go.Proofs.YtdbfgfgbjheibaaDoor.Reg
open Go Go.RowKit Go.Proofs.YtdbfgfgbjheibaaDoorW.PrintWords Go.Proofs.YtdbfgfgbjheibaaDoorW.PrintLast
/-- What stands while a region's operations come up in whatever order. D: the slots that they fill; S: what each one's value is. -/
structure RegI (D : List (Option Tmp)) (S : Nat → World → Value → Prop) (a0 : Act) (w0 : World) (b : Nat → Bool) (a : Act) (w : World) : Prop where
 below : Below w0.heap.size w0 w
 defers : a.defers = a0.defers
 size : a.tmps.size = a0.tmps.size
 elder : ∀ t, some t ∉ D → a.tmps[t]? = a0.tmps[t]?
 vals : ∀ (i : Nat) (t : Tmp), D[i]? = some (some t) → b i = true → ∃ v, a.tmps[t]? = some v ∧ S i w v
/-- Operation i, all that it waits for having come up. -/
def RStep (P : Program) (ops : Array Oper) (Q : Exit → Act → World → Prop) (B : List Nat) (D : List (Option Tmp)) (S : Nat → World → Value → Prop) (a0 : Act) (w0 : World) (i : Nat) : Prop :=
 ∀ a w, Below w0.heap.size w0 w → a.tmps.size = a0.tmps.size → (∀ t, some t ∉ D → a.tmps[t]? = a0.tmps[t]?) →
  (∀ (j : Nat) (t : Tmp), (B.getD i 0).testBit j = true → D[j]? = some (some t) → ∃ v, a.tmps[t]? = some v ∧ S j w v) →
  ∃ oi, ops[i]? = some oi ∧ ∀ K : Act → World → Prop, Shut (∀ v w', Below w.heap.size w w' → S i w' v → K (a.put oi.dst v) w') →
   if Region.wanted oi (yielded ops a.tmps) = true then Oper.wp P oi a w K Q else K (a.put oi.dst undef) w
theorem distinct {D : List (Option Tmp)} (h : (D.filterMap id).Nodup) : ∀ {i j : Nat} {t : Tmp}, D[i]? = some (some t) → D[j]? = some (some t) → i = j := by
 induction D with
 | nil => intro i j t hi; simp at hi
 | cons d D ih =>
  intro i j t hi hj
  have mem : ∀ {k : Nat}, D[k]? = some (some t) → t ∈ D.filterMap id := fun {k} hk => List.mem_filterMap.2 ⟨some t, List.mem_of_getElem? hk, rfl⟩
  cases d with
  | none =>
   have h' : (D.filterMap id).Nodup := by simpa using h
   cases i with
   | zero => simp at hi
   | succ i =>
    cases j with
    | zero => simp at hj
    | succ j => exact congrArg (· + 1) (ih h' (by simpa using hi) (by simpa using hj))
  | some u =>
   have h' : u ∉ D.filterMap id ∧ (D.filterMap id).Nodup := by simpa using h
   cases i with
   | zero =>
    cases j with
    | zero => rfl
    | succ j =>
     have hu : u = t := by simpa using hi
     subst hu
     exact absurd (mem (by simpa using hj)) h'.1
   | succ i =>
    cases j with
    | zero =>
     have hu : u = t := by simpa using hj
     subst hu
     exact absurd (mem (by simpa using hi)) h'.1
    | succ j => exact congrArg (· + 1) (ih h'.2 (by simpa using hi) (by simpa using hj))
theorem region_any {P : Program} {ops : Array Oper} {Q : Exit → Act → World → Prop} {id : Nat} {a0 : Act} {w0 : World} (D : List (Option Tmp)) (B : List Nat) (T : Bool × List (List Nat × List Nat)) (S : Nat → World → Value → Prop)
  (hm : P.follows .mixedOrders = true) (hT : rtab .any ops = T) (hB : waitsOk T.2 B = true) (hk : baseOk T.2 (List.range ops.size) = true) (hD : ops.toList.map (·.dst) = D) (hd : (D.filterMap _root_.id).Nodup)
  (hsz : (D.filterMap _root_.id).all (fun t => Nat.blt t a0.tmps.size) = true)
  (hmono : ∀ i w1 w2 v, Below w1.heap.size w1 w2 → S i w1 v → S i w2 v) (O : List Nat) (hO : List.range ops.size = O) (hstep : ∀ i ∈ O, RStep P ops Q B D S a0 w0 i)
  (hend : ∀ a w, RegI D S a0 w0 (fun _ => true) a w → Q .normal a w) : (Code.region id ops true).wp P Q a0 w0 := by
 subst hO
 refine wp_region_last (S := fun _ => True) (ds := []) hm ?_
 have hl : T.2.length = ops.size := by rw [← hT]; exact rtab_length
 refine inv_ (T := T) (B := B) (List.range ops.size) (RegI D S a0 w0) hT hB hk ?_ ?_ ?_ ?_
 ·rw [hl]
  simp only [Bool.and_eq_true, beq_iff_eq, List.length_range, and_true]
  apply List.ext_getElem?
  intro j
  by_cases hj : j < ops.size
  ·simp [lof, hj]
  ·simp [lof, hj]
 ·exact ⟨⟨rfl, rfl, rfl, z5 _, fun _ _ => rfl⟩, rfl, rfl, fun _ _ => rfl, fun _ _ _ h => by cases h⟩
 ·intro i hi b a w hI hb hon hoff
  have hi' : i < ops.size := List.mem_range.1 hi
  obtain ⟨oi, hoi, hK⟩ := hstep i hi a w hI.below hI.size hI.elder (fun j t hj ht => by
   refine hI.vals j t ht (hon j ?_)
   rw [hj, Bool.and_true, List.contains_iff_mem, List.mem_range]
   have := (List.getElem?_eq_some_iff.1 ht).1
   rw [← hD] at this
   simpa using this)
  refine ⟨oi, hoi, fun K hS => hK K (fun v w' hbw hs => hS.out _ _ ?_)⟩
  have hDi : D[i]? = some oi.dst := by rw [← hD, List.getElem?_map, Array.getElem?_toList, hoi]; rfl
  have hbel : Below w0.heap.size w0 w' := hI.below.trans (hbw.mono hI.below.size)
  refine ⟨hbel, by cases oi.dst <;> simp [Act.put, hI.defers], by cases oi.dst <;> simp [Act.put, hI.size], fun t ht => ?_, fun j t hj hbj => ?_⟩
  ·cases hdst : oi.dst with
   | none => simpa [Act.put] using hI.elder t ht
   | some u =>
    have hne : u ≠ t := by
     rintro rfl
     exact ht (List.mem_of_getElem? (by rw [hDi, hdst]))
    simp [Act.put, Array.getElem?_setIfInBounds_ne hne]
    exact hI.elder t ht
  ·by_cases hji : j = i
   ·subst hji
    rw [hDi] at hj
    injection hj with hj
    refine ⟨v, ?_, hs⟩
    rw [hj]
    have : t < a.tmps.size := by
     rw [hI.size]
     have h1 := List.all_eq_true.1 hsz t (List.mem_filterMap.2 ⟨some t, List.mem_of_getElem? (by rw [hDi, hj]), rfl⟩)
     simpa using h1
    simp [Act.put, this]
   ·rw [up_ne hji] at hbj
    obtain ⟨x, hx, hsx⟩ := hI.vals j t hj hbj
    refine ⟨x, ?_, hmono _ _ _ _ hbw hsx⟩
    cases hdst : oi.dst with
    | none => simpa [Act.put] using hx
    | some u =>
     have hne : u ≠ t := by
      rintro rfl
      exact hji (distinct hd hj (by rw [hDi, hdst]))
     simp [Act.put, Array.getElem?_setIfInBounds_ne hne]
     exact hx
 ·intro b a w hb hI
  exact hend a w ⟨hI.below, hI.defers, hI.size, hI.elder, fun i t hi _ => hI.vals i t hi (hb i (by
   rw [List.contains_iff_mem, List.mem_range]
   have := (List.getElem?_eq_some_iff.1 hi).1
   rw [← hD] at this
   simpa using this))⟩
theorem rs_nil {P : Program} {ops : Array Oper} {Q : Exit → Act → World → Prop} {B : List Nat} {D : List (Option Tmp)} {S : Nat → World → Value → Prop} {a0 : Act} {w0 : World} : ∀ i ∈ ([] : List Nat), RStep P ops Q B D S a0 w0 i := fun _ h => by cases h
theorem rs_cons {P : Program} {ops : Array Oper} {Q : Exit → Act → World → Prop} {B : List Nat} {D : List (Option Tmp)} {S : Nat → World → Value → Prop} {a0 : Act} {w0 : World} {i : Nat} {rs : List Nat} (h : RStep P ops Q B D S a0 w0 i) (hs : ∀ j ∈ rs, RStep P ops Q B D S a0 w0 j) : ∀ j ∈ i :: rs, RStep P ops Q B D S a0 w0 j := fun j hj => by
 rcases List.mem_cons.1 hj with rfl | hj
 ·exact h
 ·exact hs j hj
/-- Is each of a list of specifications kept as the world grows? -/
def MonoS (s : World → Value → Prop) : Prop := ∀ w1 w2 v, Below w1.heap.size w1 w2 → s w1 v → s w2 v
theorem monoS_eq (x : Value) : MonoS (fun _ v => v = x) := fun _ _ _ _ h => h
theorem monoS_nil : ∀ s ∈ ([] : List (World → Value → Prop)), MonoS s := fun _ h => by cases h
theorem monoS_cons {s : World → Value → Prop} {l : List (World → Value → Prop)} (h : MonoS s) (hs : ∀ t ∈ l, MonoS t) : ∀ t ∈ s :: l, MonoS t := fun t ht => by
 rcases List.mem_cons.1 ht with rfl | ht
 ·exact h
 ·exact hs t ht
theorem mono_getD {l : List (World → Value → Prop)} (h : ∀ s ∈ l, MonoS s) : ∀ i w1 w2 v, Below w1.heap.size w1 w2 → l.getD i (fun _ _ => False) w1 v → l.getD i (fun _ _ => False) w2 v := by
 intro i w1 w2 v hb hs
 rw [List.getD_eq_getElem?_getD] at hs ⊢
 cases hi : l[i]? with
 | none => rw [hi] at hs; exact hs.elim
 | some s => rw [hi] at hs; exact h s (List.mem_of_getElem? hi) w1 w2 v hb hs
/-- The function's end, the frame not written out: one result, out of slot t. -/
theorem ret_slot {P : Program} {fn : Func} {R : Ending → World → Prop} {a : Act} {w : World} {t : Tmp} {v : Value} (hr : fn.results = #[.tmp t]) (hd : a.defers = []) (ht : a.tmps[t]? = some v) (h : R (.returned v) w) : bodyPost P fn R .ret a w := by
 refine bodyPost_ret (v := v) ?_ hd h
 have := results_tmp hr a.tmps P w
 rw [this]
 simp [ht]
end Go.Proofs.YtdbfgfgbjheibaaDoor.Reg
end

section
/- A program in memory, and what the calls of BoxEncodes tell of it. -/
namespace Go.Proofs.YtdbfgfgbjheibaaDoor.BPure
open Go Go.RowKit Go.Proofs.YtdbfgfgbjheibaaDoor Go.Proofs.YtdbfgfgbjheibaaDoor.PBx Go.Proofs.YtdbfgfgbjheibaaDoor.Given Go.Proofs.YtdbfgfgbjheibaaDoorW.PrintWords Go.Proofs.YtdbfgfgbjheibaaDoorW.PrintLast Go.Proofs.YtdbfgfgbjheibaaDoorW.PrintMore
set_option linter.unusedVariables false
set_option linter.unusedSimpArgs false
/-- A program, and where its lists lie. -/
structure BR where
 A0 : Option Addr
 c0 : Nat
 C : List S68
 A1 : Option Addr
 c1 : Nat
 V : List S41
 A2 : Option Addr
 c2 : Nat
 B : List S43
 A3 : Option Addr
 c3 : Nat
 U : List S48
def BR.cells (u : BR) : Array Value := #[.slice u.A0 u.C.length u.c0, .slice u.A1 u.V.length u.c1, .slice u.A2 u.B.length u.c2, .slice u.A3 u.U.length u.c3]
structure BR.Ok (u : BR) (w : World) : Prop where
 c : Kd.C k68 w u.A0 u.C.length u.C
 cl : u.C.length ≤ u.c0
 v : Kd.C k41 w u.A1 u.V.length u.V
 vl : u.V.length ≤ u.c1
 b : Kd.C k43 w u.A2 u.B.length u.B
 bl : u.B.length ≤ u.c2
 d : Kd.C k48 w u.A3 u.U.length u.U
 dl : u.U.length ≤ u.c3
theorem BR.Ok.below {u : BR} {w w2 : World} (h : u.Ok w) (hb : Below w.heap.size w w2) : u.Ok w2 := ⟨zD h.c hb, h.cl, zD h.v hb, h.vl, zD h.b hb, h.bl, zD h.d hb, h.dl⟩
def BR.fewf (u : BR) (k : Nat) : Option Bool := w16_Few.f k u.C u.V u.B u.U
def BR.encf (u : BR) : Option (List Int × Bool) := box_Encode.f u.C u.V u.B u.U
def BR.rencf (u : BR) (k : Nat) : Option (List Int × Bool) := r16_Encode.f k u.C u.V u.B u.U
def BR.fitsf (u : BR) : Option Bool := box_Fits.f u.C u.V u.B u.U
def BR.samef (u v : BR) (k : Nat) : Option Bool := box_Same.f k u.C u.V u.B u.U v.C v.V v.B v.U
def BR.rsamef (u v : BR) (k : Nat) : Option Bool := r16_Same.f k u.C u.V u.B u.U v.C v.V v.B v.U
theorem few_c (u : BR) (w : World) (h : u.Ok w) (k : Nat) (r : Bool) (hf : u.fewf k = some r) : Calls Tryd.prog 7 #[.agg u.cells] w fun e w' => e = .returned (.bool r) ∧ Below w.heap.size w w' :=
 w16_Few.calls k u.A0 u.c0 u.C u.A1 u.c1 u.V u.A2 u.c2 u.B u.A3 u.c3 u.U r w h.c h.cl h.v h.vl h.b h.bl h.d h.dl hf
theorem enc_c (u : BR) (w : World) (h : u.Ok w) (X : List Int) (F : Bool) (hf : u.encf = some (X, F)) (hL : LaidOps w) : Calls Tryd.prog 9 #[.agg u.cells] w fun e w' => ∃ v0_ : Value, e = .returned (.tuple #[v0_, .bool F]) ∧ Kd.R (Kd.int .u8) 5 w' w.heap.size (fun _ => True) v0_ X ∧ Below w.heap.size w w' :=
 box_Encode.calls u.A0 u.c0 u.C u.A1 u.c1 u.V u.A2 u.c2 u.B u.A3 u.c3 u.U X F w h.c h.cl h.v h.vl h.b h.bl h.d h.dl hf hL
theorem renc_c (u : BR) (w : World) (h : u.Ok w) (k : Nat) (X : List Int) (F : Bool) (hf : u.rencf k = some (X, F)) : Calls Tryd.prog 12 #[.agg u.cells] w fun e w' => ∃ v0_ : Value, e = .returned (.tuple #[v0_, .bool F]) ∧ Kd.R (Kd.int .u8) 5 w' w.heap.size (fun _ => True) v0_ X ∧ Below w.heap.size w w' :=
 r16_Encode.calls k u.A0 u.c0 u.C u.A1 u.c1 u.V u.A2 u.c2 u.B u.A3 u.c3 u.U X F w h.c h.cl h.v h.vl h.b h.bl h.d h.dl hf
theorem fits_c (u : BR) (w : World) (h : u.Ok w) (F : Bool) (hf : u.fitsf = some F) (hL : LaidOps w) : Calls Tryd.prog 13 #[.agg u.cells] w fun e w' => e = .returned (.bool F) ∧ Below w.heap.size w w' :=
 box_Fits.calls u.A0 u.c0 u.C u.A1 u.c1 u.V u.A2 u.c2 u.B u.A3 u.c3 u.U F w h.c h.cl h.v h.vl h.b h.bl h.d h.dl hf hL
theorem same_c (u v : BR) (w : World) (h : u.Ok w) (h' : v.Ok w) (k : Nat) (r : Bool) (hf : u.samef v k = some r) : Calls Tryd.prog 14 #[.agg u.cells, .agg v.cells] w fun e w' => e = .returned (.bool r) ∧ Below w.heap.size w w' :=
 box_Same.calls k u.A0 u.c0 u.C u.A1 u.c1 u.V u.A2 u.c2 u.B u.A3 u.c3 u.U v.A0 v.c0 v.C v.A1 v.c1 v.V v.A2 v.c2 v.B v.A3 v.c3 v.U r w h.c h.cl h.v h.vl h.b h.bl h.d h.dl h'.c h'.cl h'.v h'.vl h'.b h'.bl h'.d h'.dl hf
theorem rsame_c (u v : BR) (w : World) (h : u.Ok w) (h' : v.Ok w) (k : Nat) (r : Bool) (hf : u.rsamef v k = some r) : Calls Tryd.prog 11 #[.agg u.cells, .agg v.cells] w fun e w' => e = .returned (.bool r) ∧ Below w.heap.size w w' :=
 r16_Same.calls k u.A0 u.c0 u.C u.A1 u.c1 u.V u.A2 u.c2 u.B u.A3 u.c3 u.U v.A0 v.c0 v.C v.A1 v.c1 v.V v.A2 v.c2 v.B v.A3 v.c3 v.U r w h.c h.cl h.v h.vl h.b h.bl h.d h.dl h'.c h'.cl h'.v h'.vl h'.b h'.bl h'.d h'.dl hf
theorem awake_c (w : World) (hw : w16_awake.f = some true) (hL : LaidOps w) : Calls Tryd.prog 8 #[] w fun e w' => e = .returned (.bool true) ∧ Below w.heap.size w w' := w16_awake.calls true w hw hL
/-- What the two sides answer of two programs. -/
structure Both (u v : BR) : Prop where
 aw : w16_awake.f = some true
 few : ∃ k r, u.fewf k = some r
 few2 : ∃ k r, v.fewf k = some r
 rest : ∀ k k', u.fewf k = some true → v.fewf k' = some true → ∃ X F SM k, u.encf = some (X, F) ∧ u.rencf k = some (X, F) ∧ u.fitsf = some F ∧ u.samef v k = some SM ∧ u.rsamef v k = some SM ∧ u.samef u k = some true
end Go.Proofs.YtdbfgfgbjheibaaDoor.BPure
end

section
/- The walk of BoxEncodes: for any two programs its call returns true, the plain law told. -/
namespace Go.Proofs.YtdbfgfgbjheibaaDoor.BPure
open Go Go.RowKit Go.Proofs.YtdbfgfgbjheibaaDoor Go.Proofs.YtdbfgfgbjheibaaDoor.PBx Go.Proofs.YtdbfgfgbjheibaaDoor.Given Go.Proofs.YtdbfgfgbjheibaaDoorW.PrintWords Go.Proofs.YtdbfgfgbjheibaaDoorW.PrintLast Go.Proofs.YtdbfgfgbjheibaaDoorW.PrintMore
set_option linter.unusedVariables false
set_option linter.unusedSimpArgs false
theorem eval_tmp {a : Act} {t : Nat} {v : Value} (h : a.tmps[t]? = some v) : a.eval (.tmp t) = v := by simp [Act.eval, h]
theorem cell_all {u : BR} {W : World} {g : Nat} (h : W.heap[g]? = some (.cells u.cells 27 (0, 0))) : W.cell? ⟨g, 0, none⟩ = some (.slice u.A0 u.C.length u.c0) ∧ W.cell? ⟨g, 1, none⟩ = some (.slice u.A1 u.V.length u.c1) ∧ W.cell? ⟨g, 2, none⟩ = some (.slice u.A2 u.B.length u.c2) ∧ W.cell? ⟨g, 3, none⟩ = some (.slice u.A3 u.U.length u.c3) :=
 ⟨(zC h 0).trans rfl, (zC h 1).trans rfl, (zC h 2).trans rfl, (zC h 3).trans rfl⟩
set_option maxHeartbeats 4000000 in
set_option maxRecDepth 100000 in
theorem boxEncodes_w (u v : BR) (w : World) (hu : u.Ok w) (hv : v.Ok w) (hL : LaidOps w) (hp : Both u v) :
  Calls Tryd.prog 5 #[.agg u.cells, .agg v.cells] w fun e w' => e = .returned (.bool true) ∧ Below w.heap.size w w' := by
 have hi : (Tryd.prog.info? 27).map (·.size) = some 4 := by kernel_rfl
 have HU := zA hu
 have HV := zA hv
 have HL := zA hL
 have HB2 := zA (((zX w.heap.size w).alloc (z5 _) (.cells u.cells 27)).alloc (by simp) (.cells v.cells 27))
 have hgu : ((w.alloc (.cells u.cells 27)).alloc (.cells v.cells 27)).heap[w.heap.size]? = some (.cells u.cells 27 (0, 0)) := ((zX _ (w.alloc (.cells u.cells 27))).alloc (z5 _) (.cells v.cells 27)).block w.heap.size (by simp) |>.trans (heap_alloc_new w _)
 have hgv : ((w.alloc (.cells u.cells 27)).alloc (.cells v.cells 27)).heap[w.heap.size + 1]? = some (.cells v.cells 27 (0, 0)) := by
  have := heap_alloc_new (w.alloc (.cells u.cells 27)) (.cells v.cells 27)
  simpa using this
 have HGU := zA hgu
 have HGV := zA hgv
 have HU0 := zA (hu.below HB2.out)
 have HV0 := zA (hv.below HB2.out)
 clear hu hv hL hgu hgv HU HV
 have step : ∀ {W W2 : World}, Below w.heap.size w W → Below W.heap.size W W2 → Below w.heap.size w W2 := fun h h2 => h.trans (h2.mono h.size)
 have hes : Tryd.prog.underlying 27 = _ := Tryd.underlying27
 have haw := hp.aw
 obtain ⟨ku, ru, hku⟩ := hp.few
 obtain ⟨kv, rv, hkv⟩ := hp.few2
 have AW := zA (fun W hl => awake_c W haw hl)
 have PF := zA (fun W (h : u.Ok W) => few_c u W h ku ru hku)
 have PG := zA (fun W (h : v.Ok W) => few_c v W h kv rv hkv)
 cases hfu : ru
 ·rw [hfu] at PF
  clear hfu hes hp haw hku hkv PG
  go_enter Tryd.func5, Tryd.ntmps5
  go_wp2_with ((with_reducible refine gate_dst (N := 9) rfl ?_); refine wpList_load_row rfl 27 (.tmp 2) rfl w.heap.size rfl 27 _ (0, 0) _ HGU.out Tryd.underlying27 rfl (by rw [hi]; rfl) ?_)
  refine (PF.out _ HU0.out).mono ?_
  rintro e w1 ⟨rfl, hb1⟩
  have HB3 := zA (step HB2.out hb1)
  go_wp2_with fail
  refine (AW.out _ (HL.out.below HB3.out)).mono ?_
  rintro e w2 ⟨rfl, hb2⟩
  have hb3 := step HB3.out hb2
  go_wp2
  go_ret
  exact ⟨rfl, hb3⟩
 ·cases hfv : rv
  ·rw [hfu] at PF
   rw [hfv] at PG
   clear hfu hfv hes hp haw hku hkv
   go_enter Tryd.func5, Tryd.ntmps5
   go_wp2_with ((with_reducible refine gate_dst (N := 9) rfl ?_); refine wpList_load_row rfl 27 (.tmp 2) rfl w.heap.size rfl 27 _ (0, 0) _ HGU.out Tryd.underlying27 rfl (by rw [hi]; rfl) ?_)
   refine (PF.out _ HU0.out).mono ?_
   rintro e w1 ⟨rfl, hb1⟩
   have HB3 := zA (step HB2.out hb1)
   have HV1 := zA (HV0.out.below hb1)
   have HGV1 := zA ((hb1.block _ (blk_lt HGV.out)).trans HGV.out)
   obtain ⟨q0, q1, q2, q3⟩ := cell_all HGV1.out
   go_wp2_with fail
   refine (PG.out _ HV1.out).mono ?_
   rintro e w2 ⟨rfl, hb2⟩
   have HB4 := zA (step HB3.out hb2)
   clear q0 q1 q2 q3
   go_wp2_with fail
   refine (AW.out _ (HL.out.below HB4.out)).mono ?_
   rintro e w3 ⟨rfl, hb3⟩
   have hb4 := step HB4.out hb3
   go_wp2
   go_ret
   exact ⟨rfl, hb4⟩
  ·obtain ⟨X, F, SM, k, h1, h2, h3, h4, h5, h6⟩ := hp.rest ku kv (by rw [hku, hfu]) (by rw [hkv, hfv])
   rw [hfu] at PF
   rw [hfv] at PG
   have P1 := zA (fun W (h : u.Ok W) hl => enc_c u W h X F h1 hl)
   have P2 := zA (fun W (h : u.Ok W) => renc_c u W h k X F h2)
   have P3 := zA (fun W (h : u.Ok W) hl => fits_c u W h F h3 hl)
   have P6 := zA (fun W (h : u.Ok W) (h' : v.Ok W) => same_c u v W h h' k SM h4)
   have P7 := zA (fun W (h : u.Ok W) (h' : v.Ok W) => rsame_c u v W h h' k SM h5)
   have P8 := zA (fun W (h : u.Ok W) => same_c u u W h h k true h6)
   clear hfu hfv hes hp haw hku hkv h1 h2 h3 h4 h5 h6
   go_enter Tryd.func5, Tryd.ntmps5
   go_wp2_with ((with_reducible refine gate_dst (N := 9) rfl ?_); refine wpList_load_row rfl 27 (.tmp 2) rfl w.heap.size rfl 27 _ (0, 0) _ HGU.out Tryd.underlying27 rfl (by rw [hi]; rfl) ?_)
   refine (PF.out _ HU0.out).mono ?_
   rintro e w1 ⟨rfl, hb1⟩
   have HB3 := zA (step HB2.out hb1)
   have HV1 := zA (HV0.out.below hb1)
   have HU1 := zA (HU0.out.below hb1)
   have HGV1 := zA ((hb1.block _ (blk_lt HGV.out)).trans HGV.out)
   have HGU1 := zA ((hb1.block _ (blk_lt HGU.out)).trans HGU.out)
   clear HB2 HU0 HV0 HGU HGV hb1
   obtain ⟨q0, q1, q2, q3⟩ := cell_all HGV1.out
   go_wp2_with fail
   refine (PG.out _ HV1.out).mono ?_
   rintro e w2 ⟨rfl, hb2⟩
   have HB4 := zA (step HB3.out hb2)
   have HV2 := zA (HV1.out.below hb2)
   have HU2 := zA (HU1.out.below hb2)
   have HGV2 := zA ((hb2.block _ (blk_lt HGV1.out)).trans HGV1.out)
   have HGU2 := zA ((hb2.block _ (blk_lt HGU1.out)).trans HGU1.out)
   clear q0 q1 q2 q3 HB3 HU1 HV1 HGU1 HGV1 hb2
   go_wp2_with ((with_reducible refine gate_dst (N := 19) rfl ?_); refine wpList_load_row rfl 27 (.tmp 2) rfl w.heap.size rfl 27 _ (0, 0) _ HGU2.out Tryd.underlying27 rfl (by rw [hi]; rfl) ?_)
   refine (P1.out _ HU2.out (HL.out.below HB4.out)).mono ?_
   rintro e w3 ⟨vb, rfl, ho3, hb3⟩
   obtain ⟨Ab, cb, rfl, hlb, hCb⟩ := Kd.R_reads ho3
   have HB5 := zA (step HB4.out hb3)
   have HV3 := zA (HV2.out.below hb3)
   have HU3 := zA (HU2.out.below hb3)
   have HGV3 := zA ((hb3.block _ (blk_lt HGV2.out)).trans HGV2.out)
   have HGU3 := zA ((hb3.block _ (blk_lt HGU2.out)).trans HGU2.out)
   have HCb := zA hCb
   clear HB4 HU2 HV2 HGU2 HGV2 hb3 ho3 hCb
   go_wp2_with ((with_reducible refine gate_dst (N := 24) rfl ?_); refine wpList_load_row rfl 27 (.tmp 2) rfl w.heap.size rfl 27 _ (0, 0) _ HGU3.out Tryd.underlying27 rfl (by rw [hi]; rfl) ?_)
   refine (P2.out _ HU3.out).mono ?_
   rintro e w4 ⟨vx, rfl, ho4, hb4⟩
   obtain ⟨Ax, cx, rfl, hlx, hCx⟩ := Kd.R_reads ho4
   have HB6 := zA (step HB5.out hb4)
   have HV4 := zA (HV3.out.below hb4)
   have HU4 := zA (HU3.out.below hb4)
   have HGV4 := zA ((hb4.block _ (blk_lt HGV3.out)).trans HGV3.out)
   have HGU4 := zA ((hb4.block _ (blk_lt HGU3.out)).trans HGU3.out)
   have HCb4 := zA (zD HCb.out hb4)
   have HCx := zA hCx
   clear HB5 HU3 HV3 HGU3 HGV3 HCb hb4 ho4 hCx
   go_wp2_with fail
   obtain ⟨g1, hg1⟩ : ∃ g, g = w.heap.size + 1 := ⟨_, rfl⟩
   rw [← hg1] at HGV4 ⊢
   obtain ⟨g0, hg0⟩ : ∃ g, g = w.heap.size := ⟨_, rfl⟩
   rw [← hg0] at HGU4 ⊢
   refine Reg.region_any [some 28, some 29, some 30, some 31, some 32, some 33, some 34, some 35, some 36, some 37, some 38, some 39, some 40, some 41, some 42, some 43, some 44, some 45, some 46, some 47, some 48, some 49, some 50, some 51, some 52, some 53, some 54, some 55, some 56, some 57, some 58, some 59, some 60, some 4] [0, 1, 0, 4, 15, 31, 63, 63, 255, 511, 1023, 2047, 4095, 2047, 16383, 32767, 65535, 131071, 131071, 524287, 131071, 131071, 4194303, 8388607, 16777215, 33554431, 67108863, 67108863, 268435455, 536870911, 1073741823, 2147483647, 4294967295, 8589934591] (true, [([], []), ([0], [0]), ([], []), ([2], [2]), ([1, 3], [1, 3]), ([4], [4]), ([5], [5]), ([5], [5]), ([6, 7, 5], [5, 6, 7]), ([5, 8], [5, 8]), ([9, 5], [9]), ([10], [10]), ([11, 10, 10], [10, 11]), ([10], [10]), ([12, 13, 10], [10, 12, 13]), ([10, 14], [10, 14]), ([15, 12], [15]), ([16], [16]), ([16], [16]), ([17, 18, 16, 16], [16, 17, 18]), ([16], [16]), ([16], [16]), ([20, 21, 19, 16], [16, 20, 21]), ([19, 22, 16], [16, 19, 22]), ([16, 23], [16, 23]), ([24, 22], [24]), ([25], [25]), ([25], [25]), ([26, 27, 25, 25], [25, 26, 27]), ([25, 28], [25, 28]), ([29, 28], [29]), ([30, 30], [30]), ([30, 31], [30, 31]), ([32, 31, 0, 1, 2, 3, 4, 5, 6, 7, 8, 9, 10, 11, 12, 13, 14, 15, 16, 17, 18, 19, 20, 21, 22, 23, 24, 25, 26, 27, 28, 29, 30, 31, 32], [32])]) (fun i => ([(fun _ v_ => v_ = (.slice Ab X.length cb)), (fun _ v_ => v_ = (.string (strOfNums X))), (fun _ v_ => v_ = (.slice Ax X.length cx)), (fun _ v_ => v_ = (.string (strOfNums X))), (fun _ v_ => v_ = (.bool true)), (fun _ v_ => v_ = (.bool true)), (fun _ v_ => v_ = (.bool F)), (fun _ v_ => v_ = (.bool F)), (fun _ v_ => v_ = (.bool true)), (fun _ v_ => v_ = (.bool true)), (fun _ v_ => v_ = (.bool true)), (fun _ v_ => v_ = (.agg u.cells)), (fun _ v_ => v_ = (.bool F)), (fun _ v_ => v_ = (.bool F)), (fun _ v_ => v_ = (.bool true)), (fun _ v_ => v_ = (.bool true)), (fun _ v_ => v_ = (.bool true)), (fun _ v_ => v_ = (.agg u.cells)), (fun _ v_ => v_ = (.agg v.cells)), (fun _ v_ => v_ = (.bool SM)), (fun _ v_ => v_ = (.agg u.cells)), (fun _ v_ => v_ = (.agg v.cells)), (fun _ v_ => v_ = (.bool SM)), (fun _ v_ => v_ = (.bool true)), (fun _ v_ => v_ = (.bool true)), (fun _ v_ => v_ = (.bool true)), (fun _ v_ => v_ = (.agg u.cells)), (fun _ v_ => v_ = (.agg u.cells)), (fun _ v_ => v_ = (.bool true)), (fun _ v_ => v_ = (.bool true)), (fun _ v_ => v_ = (.bool true)), (fun _ v_ => v_ = (.bool true)), (fun _ v_ => v_ = (.bool true)), (fun _ v_ => v_ = (.bool true))] : List (World → Value → Prop)).getD i (fun _ _ => False))
     (by kernel_rfl) (by kernel_rfl) (by kernel_rfl) (by kernel_rfl) (by kernel_rfl) (by decide) (by rfl) (Reg.mono_getD ?_) [0, 1, 2, 3, 4, 5, 6, 7, 8, 9, 10, 11, 12, 13, 14, 15, 16, 17, 18, 19, 20, 21, 22, 23, 24, 25, 26, 27, 28, 29, 30, 31, 32, 33] (by kernel_rfl) ?_ ?_
   ·exact Reg.monoS_cons (Reg.monoS_eq _) (Reg.monoS_cons (Reg.monoS_eq _) (Reg.monoS_cons (Reg.monoS_eq _) (Reg.monoS_cons (Reg.monoS_eq _) (Reg.monoS_cons (Reg.monoS_eq _) (Reg.monoS_cons (Reg.monoS_eq _) (Reg.monoS_cons (Reg.monoS_eq _) (Reg.monoS_cons (Reg.monoS_eq _) (Reg.monoS_cons (Reg.monoS_eq _) (Reg.monoS_cons (Reg.monoS_eq _) (Reg.monoS_cons (Reg.monoS_eq _) (Reg.monoS_cons (Reg.monoS_eq _) (Reg.monoS_cons (Reg.monoS_eq _) (Reg.monoS_cons (Reg.monoS_eq _) (Reg.monoS_cons (Reg.monoS_eq _) (Reg.monoS_cons (Reg.monoS_eq _) (Reg.monoS_cons (Reg.monoS_eq _) (Reg.monoS_cons (Reg.monoS_eq _) (Reg.monoS_cons (Reg.monoS_eq _) (Reg.monoS_cons (Reg.monoS_eq _) (Reg.monoS_cons (Reg.monoS_eq _) (Reg.monoS_cons (Reg.monoS_eq _) (Reg.monoS_cons (Reg.monoS_eq _) (Reg.monoS_cons (Reg.monoS_eq _) (Reg.monoS_cons (Reg.monoS_eq _) (Reg.monoS_cons (Reg.monoS_eq _) (Reg.monoS_cons (Reg.monoS_eq _) (Reg.monoS_cons (Reg.monoS_eq _) (Reg.monoS_cons (Reg.monoS_eq _) (Reg.monoS_cons (Reg.monoS_eq _) (Reg.monoS_cons (Reg.monoS_eq _) (Reg.monoS_cons (Reg.monoS_eq _) (Reg.monoS_cons (Reg.monoS_eq _) (Reg.monoS_cons (Reg.monoS_eq _) Reg.monoS_nil)))))))))))))))))))))))))))))))))
   ·skip
    refine Reg.rs_cons ?_ ?_
    ·intro a w hb hs hel hon
     have e5 : a.tmps[5]? = some (.slice Ab X.length cb) := (hel 5 (by decide)).trans rfl
     obtain ⟨_, g5⟩ := Array.getElem?_eq_some_iff.1 e5
     refine ⟨_, rfl, fun K hK => ?_⟩
     refine value_ (w1 := w) (v := .slice Ab X.length cb) (by rfl) rfl ?_ (hK.out _ _ (zX _ _) (rfl))
     ·go_simp
      (try simp only [i64_w, g5])
      (try go_simp)
      try rfl
    refine Reg.rs_cons ?_ ?_
    ·intro a w hb hs hel hon
     obtain ⟨_, e28, rfl⟩ := hon 0 28 (by kernel_rfl) rfl
     obtain ⟨_, g28⟩ := Array.getElem?_eq_some_iff.1 e28
     refine ⟨_, rfl, fun K hK => ?_⟩
     have hs := Kd.C_string (c := cb) (P := Tryd.prog) Tryd.underlying28 Tryd.underlying5 Tryd.underlying9 (zD HCb4.out hb)
     refine value_ (w1 := w) (v := .string (strOfNums X)) (by rfl) rfl ?_ (hK.out _ _ (zX _ _) (rfl))
     ·go_simp
      (try simp only [i64_w, g28])
      (try go_simp)
      try rfl
    refine Reg.rs_cons ?_ ?_
    ·intro a w hb hs hel hon
     have e7 : a.tmps[7]? = some (.slice Ax X.length cx) := (hel 7 (by decide)).trans rfl
     obtain ⟨_, g7⟩ := Array.getElem?_eq_some_iff.1 e7
     refine ⟨_, rfl, fun K hK => ?_⟩
     refine value_ (w1 := w) (v := .slice Ax X.length cx) (by rfl) rfl ?_ (hK.out _ _ (zX _ _) (rfl))
     ·go_simp
      (try simp only [i64_w, g7])
      (try go_simp)
      try rfl
    refine Reg.rs_cons ?_ ?_
    ·intro a w hb hs hel hon
     obtain ⟨_, e30, rfl⟩ := hon 2 30 (by kernel_rfl) rfl
     obtain ⟨_, g30⟩ := Array.getElem?_eq_some_iff.1 e30
     refine ⟨_, rfl, fun K hK => ?_⟩
     have hs := Kd.C_string (c := cx) (P := Tryd.prog) Tryd.underlying28 Tryd.underlying5 Tryd.underlying9 (zD HCx.out hb)
     refine value_ (w1 := w) (v := .string (strOfNums X)) (by rfl) rfl ?_ (hK.out _ _ (zX _ _) (rfl))
     ·go_simp
      (try simp only [i64_w, g30])
      (try go_simp)
      try rfl
    refine Reg.rs_cons ?_ ?_
    ·intro a w hb hs hel hon
     obtain ⟨_, e29, rfl⟩ := hon 1 29 (by kernel_rfl) rfl
     obtain ⟨_, e31, rfl⟩ := hon 3 31 (by kernel_rfl) rfl
     obtain ⟨_, g29⟩ := Array.getElem?_eq_some_iff.1 e29
     obtain ⟨_, g31⟩ := Array.getElem?_eq_some_iff.1 e31
     refine ⟨_, rfl, fun K hK => ?_⟩
     refine value_ (w1 := w) (v := .bool true) (by rfl) rfl ?_ (hK.out _ _ (zX _ _) (rfl))
     ·go_simp
      (try simp only [i64_w, g29, g31])
      (try go_simp)
      try rfl
    refine Reg.rs_cons ?_ ?_
    ·intro a w hb hs hel hon
     obtain ⟨_, e32, rfl⟩ := hon 4 32 (by kernel_rfl) rfl
     obtain ⟨_, g32⟩ := Array.getElem?_eq_some_iff.1 e32
     refine ⟨_, rfl, fun K hK => ?_⟩
     refine value_ (w1 := w) (v := .bool true) (by rfl) rfl ?_ (hK.out _ _ (zX _ _) (rfl))
     ·go_simp
      (try simp only [i64_w, g32])
      (try go_simp)
      try rfl
    refine Reg.rs_cons ?_ ?_
    ·intro a w hb hs hel hon
     have e6 : a.tmps[6]? = some (.bool F) := (hel 6 (by decide)).trans rfl
     obtain ⟨_, e33, rfl⟩ := hon 5 33 (by kernel_rfl) rfl
     obtain ⟨_, g6⟩ := Array.getElem?_eq_some_iff.1 e6
     obtain ⟨_, g33⟩ := Array.getElem?_eq_some_iff.1 e33
     refine ⟨_, rfl, fun K hK => ?_⟩
     refine value_ (w1 := w) (v := .bool F) (wanted_on rfl rfl rfl e33) rfl ?_ (hK.out _ _ (zX _ _) (rfl))
     ·go_simp
      (try simp only [i64_w, g6, g33])
      (try go_simp)
      try rfl
    refine Reg.rs_cons ?_ ?_
    ·intro a w hb hs hel hon
     have e8 : a.tmps[8]? = some (.bool F) := (hel 8 (by decide)).trans rfl
     obtain ⟨_, e33, rfl⟩ := hon 5 33 (by kernel_rfl) rfl
     obtain ⟨_, g8⟩ := Array.getElem?_eq_some_iff.1 e8
     obtain ⟨_, g33⟩ := Array.getElem?_eq_some_iff.1 e33
     refine ⟨_, rfl, fun K hK => ?_⟩
     refine value_ (w1 := w) (v := .bool F) (wanted_on rfl rfl rfl e33) rfl ?_ (hK.out _ _ (zX _ _) (rfl))
     ·go_simp
      (try simp only [i64_w, g8, g33])
      (try go_simp)
      try rfl
    refine Reg.rs_cons ?_ ?_
    ·intro a w hb hs hel hon
     obtain ⟨_, e34, rfl⟩ := hon 6 34 (by kernel_rfl) rfl
     obtain ⟨_, e35, rfl⟩ := hon 7 35 (by kernel_rfl) rfl
     obtain ⟨_, e33, rfl⟩ := hon 5 33 (by kernel_rfl) rfl
     obtain ⟨_, g34⟩ := Array.getElem?_eq_some_iff.1 e34
     obtain ⟨_, g35⟩ := Array.getElem?_eq_some_iff.1 e35
     obtain ⟨_, g33⟩ := Array.getElem?_eq_some_iff.1 e33
     refine ⟨_, rfl, fun K hK => ?_⟩
     refine value_ (w1 := w) (v := .bool true) (wanted_on rfl rfl rfl e33) rfl ?_ (hK.out _ _ (zX _ _) (rfl))
     ·go_simp
      (try simp only [i64_w, g34, g35, g33])
      (try go_simp)
      try rfl
    refine Reg.rs_cons ?_ ?_
    ·intro a w hb hs hel hon
     obtain ⟨_, e33, rfl⟩ := hon 5 33 (by kernel_rfl) rfl
     obtain ⟨_, e36, rfl⟩ := hon 8 36 (by kernel_rfl) rfl
     obtain ⟨_, g33⟩ := Array.getElem?_eq_some_iff.1 e33
     obtain ⟨_, g36⟩ := Array.getElem?_eq_some_iff.1 e36
     refine ⟨_, rfl, fun K hK => ?_⟩
     refine value_ (w1 := w) (v := .bool true) (by rfl) rfl ?_ (hK.out _ _ (zX _ _) (rfl))
     ·go_simp
      (try simp only [i64_w, g33, g36])
      (try go_simp)
      try rfl
    refine Reg.rs_cons ?_ ?_
    ·intro a w hb hs hel hon
     obtain ⟨_, e37, rfl⟩ := hon 9 37 (by kernel_rfl) rfl
     obtain ⟨_, g37⟩ := Array.getElem?_eq_some_iff.1 e37
     refine ⟨_, rfl, fun K hK => ?_⟩
     refine value_ (w1 := w) (v := .bool true) (by rfl) rfl ?_ (hK.out _ _ (zX _ _) (rfl))
     ·go_simp
      (try simp only [i64_w, g37])
      (try go_simp)
      try rfl
    refine Reg.rs_cons ?_ ?_
    ·intro a w hb hs hel hon
     have e2 : a.tmps[2]? = some (.pointer (some ⟨g0, 0, none⟩)) := (hel 2 (by decide)).trans rfl
     obtain ⟨_, e38, rfl⟩ := hon 10 38 (by kernel_rfl) rfl
     refine ⟨_, rfl, fun K hK => ?_⟩
     rw [if_pos (wanted_on rfl rfl rfl e38)]
     exact wp_load_row 27 (.tmp 2) rfl g0 (eval_tmp e2) 27 _ (0, 0) _ ((hb.block _ (blk_lt HGU4.out)).trans HGU4.out) Tryd.underlying27 rfl (by rw [hi]; rfl) (hK.out _ _ (zX _ _) rfl)
    refine Reg.rs_cons ?_ ?_
    ·intro a w hb hs hel hon
     obtain ⟨_, e39, rfl⟩ := hon 11 39 (by kernel_rfl) rfl
     obtain ⟨_, e38, rfl⟩ := hon 10 38 (by kernel_rfl) rfl
     refine ⟨_, rfl, fun K hK => ?_⟩
     refine goes_ Tryd.func13 (by kernel_rfl) rfl #[.agg u.cells] (wanted_on rfl rfl rfl e38) rfl rfl (by first | (simp only [zm, zc, zn, Act.eval, Array.getD_eq_getD_getElem?, Option.getD_some, e39, e38]; done) | (simp only [zm, zc, zn, Act.eval, Array.getD_eq_getD_getElem?, Option.getD_some, e39, e38]; rfl) | rfl) ?_
     refine (P3.out w (HU4.out.below hb) (HL.out.below (HB6.out.trans (hb.mono HB6.out.size)))).mono ?_
     rintro e w2 ⟨rfl, hb2⟩
     exact ⟨_, rfl, hK.out _ _ hb2 rfl⟩
    refine Reg.rs_cons ?_ ?_
    ·intro a w hb hs hel hon
     have e8 : a.tmps[8]? = some (.bool F) := (hel 8 (by decide)).trans rfl
     obtain ⟨_, e38, rfl⟩ := hon 10 38 (by kernel_rfl) rfl
     obtain ⟨_, g8⟩ := Array.getElem?_eq_some_iff.1 e8
     obtain ⟨_, g38⟩ := Array.getElem?_eq_some_iff.1 e38
     refine ⟨_, rfl, fun K hK => ?_⟩
     refine value_ (w1 := w) (v := .bool F) (wanted_on rfl rfl rfl e38) rfl ?_ (hK.out _ _ (zX _ _) (rfl))
     ·go_simp
      (try simp only [i64_w, g8, g38])
      (try go_simp)
      try rfl
    refine Reg.rs_cons ?_ ?_
    ·intro a w hb hs hel hon
     obtain ⟨_, e40, rfl⟩ := hon 12 40 (by kernel_rfl) rfl
     obtain ⟨_, e41, rfl⟩ := hon 13 41 (by kernel_rfl) rfl
     obtain ⟨_, e38, rfl⟩ := hon 10 38 (by kernel_rfl) rfl
     obtain ⟨_, g40⟩ := Array.getElem?_eq_some_iff.1 e40
     obtain ⟨_, g41⟩ := Array.getElem?_eq_some_iff.1 e41
     obtain ⟨_, g38⟩ := Array.getElem?_eq_some_iff.1 e38
     refine ⟨_, rfl, fun K hK => ?_⟩
     refine value_ (w1 := w) (v := .bool true) (wanted_on rfl rfl rfl e38) rfl ?_ (hK.out _ _ (zX _ _) (rfl))
     ·go_simp
      (try simp only [i64_w, g40, g41, g38])
      (try go_simp)
      try rfl
    refine Reg.rs_cons ?_ ?_
    ·intro a w hb hs hel hon
     obtain ⟨_, e38, rfl⟩ := hon 10 38 (by kernel_rfl) rfl
     obtain ⟨_, e42, rfl⟩ := hon 14 42 (by kernel_rfl) rfl
     obtain ⟨_, g38⟩ := Array.getElem?_eq_some_iff.1 e38
     obtain ⟨_, g42⟩ := Array.getElem?_eq_some_iff.1 e42
     refine ⟨_, rfl, fun K hK => ?_⟩
     refine value_ (w1 := w) (v := .bool true) (by rfl) rfl ?_ (hK.out _ _ (zX _ _) (rfl))
     ·go_simp
      (try simp only [i64_w, g38, g42])
      (try go_simp)
      try rfl
    refine Reg.rs_cons ?_ ?_
    ·intro a w hb hs hel hon
     obtain ⟨_, e43, rfl⟩ := hon 15 43 (by kernel_rfl) rfl
     obtain ⟨_, g43⟩ := Array.getElem?_eq_some_iff.1 e43
     refine ⟨_, rfl, fun K hK => ?_⟩
     refine value_ (w1 := w) (v := .bool true) (by rfl) rfl ?_ (hK.out _ _ (zX _ _) (rfl))
     ·go_simp
      (try simp only [i64_w, g43])
      (try go_simp)
      try rfl
    refine Reg.rs_cons ?_ ?_
    ·intro a w hb hs hel hon
     have e2 : a.tmps[2]? = some (.pointer (some ⟨g0, 0, none⟩)) := (hel 2 (by decide)).trans rfl
     obtain ⟨_, e44, rfl⟩ := hon 16 44 (by kernel_rfl) rfl
     refine ⟨_, rfl, fun K hK => ?_⟩
     rw [if_pos (wanted_on rfl rfl rfl e44)]
     exact wp_load_row 27 (.tmp 2) rfl g0 (eval_tmp e2) 27 _ (0, 0) _ ((hb.block _ (blk_lt HGU4.out)).trans HGU4.out) Tryd.underlying27 rfl (by rw [hi]; rfl) (hK.out _ _ (zX _ _) rfl)
    refine Reg.rs_cons ?_ ?_
    ·intro a w hb hs hel hon
     have e3 : a.tmps[3]? = some (.pointer (some ⟨g1, 0, none⟩)) := (hel 3 (by decide)).trans rfl
     obtain ⟨_, e44, rfl⟩ := hon 16 44 (by kernel_rfl) rfl
     refine ⟨_, rfl, fun K hK => ?_⟩
     rw [if_pos (wanted_on rfl rfl rfl e44)]
     exact wp_load_row 27 (.tmp 3) rfl g1 (eval_tmp e3) 27 _ (0, 0) _ ((hb.block _ (blk_lt HGV4.out)).trans HGV4.out) Tryd.underlying27 rfl (by rw [hi]; rfl) (hK.out _ _ (zX _ _) rfl)
    refine Reg.rs_cons ?_ ?_
    ·intro a w hb hs hel hon
     obtain ⟨_, e45, rfl⟩ := hon 17 45 (by kernel_rfl) rfl
     obtain ⟨_, e46, rfl⟩ := hon 18 46 (by kernel_rfl) rfl
     obtain ⟨_, e44, rfl⟩ := hon 16 44 (by kernel_rfl) rfl
     refine ⟨_, rfl, fun K hK => ?_⟩
     refine goes_ Tryd.func14 (by kernel_rfl) rfl #[.agg u.cells, .agg v.cells] (wanted_on rfl rfl rfl e44) rfl rfl (by first | (simp only [zm, zc, zn, Act.eval, Array.getD_eq_getD_getElem?, Option.getD_some, e45, e46, e44]; done) | (simp only [zm, zc, zn, Act.eval, Array.getD_eq_getD_getElem?, Option.getD_some, e45, e46, e44]; rfl) | rfl) ?_
     refine (P6.out w (HU4.out.below hb) (HV4.out.below hb)).mono ?_
     rintro e w2 ⟨rfl, hb2⟩
     exact ⟨_, rfl, hK.out _ _ hb2 rfl⟩
    refine Reg.rs_cons ?_ ?_
    ·intro a w hb hs hel hon
     have e2 : a.tmps[2]? = some (.pointer (some ⟨g0, 0, none⟩)) := (hel 2 (by decide)).trans rfl
     obtain ⟨_, e44, rfl⟩ := hon 16 44 (by kernel_rfl) rfl
     refine ⟨_, rfl, fun K hK => ?_⟩
     rw [if_pos (wanted_on rfl rfl rfl e44)]
     exact wp_load_row 27 (.tmp 2) rfl g0 (eval_tmp e2) 27 _ (0, 0) _ ((hb.block _ (blk_lt HGU4.out)).trans HGU4.out) Tryd.underlying27 rfl (by rw [hi]; rfl) (hK.out _ _ (zX _ _) rfl)
    refine Reg.rs_cons ?_ ?_
    ·intro a w hb hs hel hon
     have e3 : a.tmps[3]? = some (.pointer (some ⟨g1, 0, none⟩)) := (hel 3 (by decide)).trans rfl
     obtain ⟨_, e44, rfl⟩ := hon 16 44 (by kernel_rfl) rfl
     refine ⟨_, rfl, fun K hK => ?_⟩
     rw [if_pos (wanted_on rfl rfl rfl e44)]
     exact wp_load_row 27 (.tmp 3) rfl g1 (eval_tmp e3) 27 _ (0, 0) _ ((hb.block _ (blk_lt HGV4.out)).trans HGV4.out) Tryd.underlying27 rfl (by rw [hi]; rfl) (hK.out _ _ (zX _ _) rfl)
    refine Reg.rs_cons ?_ ?_
    ·intro a w hb hs hel hon
     obtain ⟨_, e48, rfl⟩ := hon 20 48 (by kernel_rfl) rfl
     obtain ⟨_, e49, rfl⟩ := hon 21 49 (by kernel_rfl) rfl
     obtain ⟨_, e44, rfl⟩ := hon 16 44 (by kernel_rfl) rfl
     refine ⟨_, rfl, fun K hK => ?_⟩
     refine goes_ Tryd.func11 (by kernel_rfl) rfl #[.agg u.cells, .agg v.cells] (wanted_on rfl rfl rfl e44) rfl rfl (by first | (simp only [zm, zc, zn, Act.eval, Array.getD_eq_getD_getElem?, Option.getD_some, e48, e49, e44]; done) | (simp only [zm, zc, zn, Act.eval, Array.getD_eq_getD_getElem?, Option.getD_some, e48, e49, e44]; rfl) | rfl) ?_
     refine (P7.out w (HU4.out.below hb) (HV4.out.below hb)).mono ?_
     rintro e w2 ⟨rfl, hb2⟩
     exact ⟨_, rfl, hK.out _ _ hb2 rfl⟩
    refine Reg.rs_cons ?_ ?_
    ·intro a w hb hs hel hon
     obtain ⟨_, e47, rfl⟩ := hon 19 47 (by kernel_rfl) rfl
     obtain ⟨_, e50, rfl⟩ := hon 22 50 (by kernel_rfl) rfl
     obtain ⟨_, e44, rfl⟩ := hon 16 44 (by kernel_rfl) rfl
     obtain ⟨_, g47⟩ := Array.getElem?_eq_some_iff.1 e47
     obtain ⟨_, g50⟩ := Array.getElem?_eq_some_iff.1 e50
     obtain ⟨_, g44⟩ := Array.getElem?_eq_some_iff.1 e44
     refine ⟨_, rfl, fun K hK => ?_⟩
     refine value_ (w1 := w) (v := .bool true) (wanted_on rfl rfl rfl e44) rfl ?_ (hK.out _ _ (zX _ _) (rfl))
     ·go_simp
      (try simp only [i64_w, g47, g50, g44])
      (try go_simp)
      try rfl
    refine Reg.rs_cons ?_ ?_
    ·intro a w hb hs hel hon
     obtain ⟨_, e44, rfl⟩ := hon 16 44 (by kernel_rfl) rfl
     obtain ⟨_, e51, rfl⟩ := hon 23 51 (by kernel_rfl) rfl
     obtain ⟨_, g44⟩ := Array.getElem?_eq_some_iff.1 e44
     obtain ⟨_, g51⟩ := Array.getElem?_eq_some_iff.1 e51
     refine ⟨_, rfl, fun K hK => ?_⟩
     refine value_ (w1 := w) (v := .bool true) (by rfl) rfl ?_ (hK.out _ _ (zX _ _) (rfl))
     ·go_simp
      (try simp only [i64_w, g44, g51])
      (try go_simp)
      try rfl
    refine Reg.rs_cons ?_ ?_
    ·intro a w hb hs hel hon
     obtain ⟨_, e52, rfl⟩ := hon 24 52 (by kernel_rfl) rfl
     obtain ⟨_, g52⟩ := Array.getElem?_eq_some_iff.1 e52
     refine ⟨_, rfl, fun K hK => ?_⟩
     refine value_ (w1 := w) (v := .bool true) (by rfl) rfl ?_ (hK.out _ _ (zX _ _) (rfl))
     ·go_simp
      (try simp only [i64_w, g52])
      (try go_simp)
      try rfl
    refine Reg.rs_cons ?_ ?_
    ·intro a w hb hs hel hon
     have e2 : a.tmps[2]? = some (.pointer (some ⟨g0, 0, none⟩)) := (hel 2 (by decide)).trans rfl
     obtain ⟨_, e53, rfl⟩ := hon 25 53 (by kernel_rfl) rfl
     refine ⟨_, rfl, fun K hK => ?_⟩
     rw [if_pos (wanted_on rfl rfl rfl e53)]
     exact wp_load_row 27 (.tmp 2) rfl g0 (eval_tmp e2) 27 _ (0, 0) _ ((hb.block _ (blk_lt HGU4.out)).trans HGU4.out) Tryd.underlying27 rfl (by rw [hi]; rfl) (hK.out _ _ (zX _ _) rfl)
    refine Reg.rs_cons ?_ ?_
    ·intro a w hb hs hel hon
     have e2 : a.tmps[2]? = some (.pointer (some ⟨g0, 0, none⟩)) := (hel 2 (by decide)).trans rfl
     obtain ⟨_, e53, rfl⟩ := hon 25 53 (by kernel_rfl) rfl
     refine ⟨_, rfl, fun K hK => ?_⟩
     rw [if_pos (wanted_on rfl rfl rfl e53)]
     exact wp_load_row 27 (.tmp 2) rfl g0 (eval_tmp e2) 27 _ (0, 0) _ ((hb.block _ (blk_lt HGU4.out)).trans HGU4.out) Tryd.underlying27 rfl (by rw [hi]; rfl) (hK.out _ _ (zX _ _) rfl)
    refine Reg.rs_cons ?_ ?_
    ·intro a w hb hs hel hon
     obtain ⟨_, e54, rfl⟩ := hon 26 54 (by kernel_rfl) rfl
     obtain ⟨_, e55, rfl⟩ := hon 27 55 (by kernel_rfl) rfl
     obtain ⟨_, e53, rfl⟩ := hon 25 53 (by kernel_rfl) rfl
     refine ⟨_, rfl, fun K hK => ?_⟩
     refine goes_ Tryd.func14 (by kernel_rfl) rfl #[.agg u.cells, .agg u.cells] (wanted_on rfl rfl rfl e53) rfl rfl (by first | (simp only [zm, zc, zn, Act.eval, Array.getD_eq_getD_getElem?, Option.getD_some, e54, e55, e53]; done) | (simp only [zm, zc, zn, Act.eval, Array.getD_eq_getD_getElem?, Option.getD_some, e54, e55, e53]; rfl) | rfl) ?_
     refine (P8.out w (HU4.out.below hb)).mono ?_
     rintro e w2 ⟨rfl, hb2⟩
     exact ⟨_, rfl, hK.out _ _ hb2 rfl⟩
    refine Reg.rs_cons ?_ ?_
    ·intro a w hb hs hel hon
     obtain ⟨_, e53, rfl⟩ := hon 25 53 (by kernel_rfl) rfl
     obtain ⟨_, e56, rfl⟩ := hon 28 56 (by kernel_rfl) rfl
     obtain ⟨_, g53⟩ := Array.getElem?_eq_some_iff.1 e53
     obtain ⟨_, g56⟩ := Array.getElem?_eq_some_iff.1 e56
     refine ⟨_, rfl, fun K hK => ?_⟩
     refine value_ (w1 := w) (v := .bool true) (by rfl) rfl ?_ (hK.out _ _ (zX _ _) (rfl))
     ·go_simp
      (try simp only [i64_w, g53, g56])
      (try go_simp)
      try rfl
    refine Reg.rs_cons ?_ ?_
    ·intro a w hb hs hel hon
     obtain ⟨_, e57, rfl⟩ := hon 29 57 (by kernel_rfl) rfl
     obtain ⟨_, g57⟩ := Array.getElem?_eq_some_iff.1 e57
     refine ⟨_, rfl, fun K hK => ?_⟩
     refine value_ (w1 := w) (v := .bool true) (by rfl) rfl ?_ (hK.out _ _ (zX _ _) (rfl))
     ·go_simp
      (try simp only [i64_w, g57])
      (try go_simp)
      try rfl
    refine Reg.rs_cons ?_ ?_
    ·intro a w hb hs hel hon
     obtain ⟨_, e58, rfl⟩ := hon 30 58 (by kernel_rfl) rfl
     refine ⟨_, rfl, fun K hK => ?_⟩
     refine goes_ Tryd.func8 (by kernel_rfl) rfl #[] (wanted_on rfl rfl rfl e58) rfl rfl (by first | (simp only [zm, zc, zn, Act.eval, Array.getD_eq_getD_getElem?, Option.getD_some, e58]; done) | (simp only [zm, zc, zn, Act.eval, Array.getD_eq_getD_getElem?, Option.getD_some, e58]; rfl) | rfl) ?_
     refine (AW.out w (HL.out.below (HB6.out.trans (hb.mono HB6.out.size)))).mono ?_
     rintro e w2 ⟨rfl, hb2⟩
     exact ⟨_, rfl, hK.out _ _ hb2 rfl⟩
    refine Reg.rs_cons ?_ ?_
    ·intro a w hb hs hel hon
     obtain ⟨_, e58, rfl⟩ := hon 30 58 (by kernel_rfl) rfl
     obtain ⟨_, e59, rfl⟩ := hon 31 59 (by kernel_rfl) rfl
     obtain ⟨_, g58⟩ := Array.getElem?_eq_some_iff.1 e58
     obtain ⟨_, g59⟩ := Array.getElem?_eq_some_iff.1 e59
     refine ⟨_, rfl, fun K hK => ?_⟩
     refine value_ (w1 := w) (v := .bool true) (by rfl) rfl ?_ (hK.out _ _ (zX _ _) (rfl))
     ·go_simp
      (try simp only [i64_w, g58, g59])
      (try go_simp)
      try rfl
    refine Reg.rs_cons ?_ ?_
    ·intro a w hb hs hel hon
     obtain ⟨_, e60, rfl⟩ := hon 32 60 (by kernel_rfl) rfl
     obtain ⟨_, g60⟩ := Array.getElem?_eq_some_iff.1 e60
     refine ⟨_, rfl, fun K hK => ?_⟩
     refine value_ (w1 := w) (v := .bool true) (by rfl) rfl ?_ (hK.out _ _ (zX _ _) (rfl))
     ·go_simp
      (try simp only [i64_w, g60])
      (try go_simp)
      try rfl
    exact Reg.rs_nil
   ·intro a w hI
    rename_i K_ hK_
    refine hK_ a w ?_
    go_wp2
    obtain ⟨v4, e4, rfl⟩ := hI.vals 33 4 rfl rfl
    exact Reg.ret_slot (R := fun e w' => e = .returned (.bool true) ∧ Below _ _ w') (by kernel_rfl) hI.defers e4 ⟨rfl, HB6.out.trans (hI.below.mono HB6.out.size)⟩
end Go.Proofs.YtdbfgfgbjheibaaDoor.BPure
end

section
/- Instructions' rights, over the texts of the container. -/
namespace Go.Proofs.YtdbfgfgbjheibaaDoor.BPure
open Go Go.RowKit Go.Proofs.YtdbfgfgbjheibaaDoor Go.Proofs.YtdbfgfgbjheibaaDoor.PBx Go.Proofs.YtdbfgfgbjheibaaDoor.Given Go.Proofs.YtdbfgfgbjheibaaDoorW.PrintWords Go.Proofs.YtdbfgfgbjheibaaDoorW.PrintLast Go.Proofs.YtdbfgfgbjheibaaDoorW.PrintMore
set_option linter.unusedVariables false
set_option linter.unusedSimpArgs false
def right3 (x y z : Int) : Bool := op_Right.f x y z == some true
theorem right_some (x y z : Int) : op_Right.f x y z = some (right3 x y z) := by
 have : ∃ r, op_Right.f x y z = some r := by
  unfold op_Right.f op_Shape.f op_Is.f op_may.f
  simp only [zP]
  repeat' split
  all_goals first | exact ⟨_, rfl⟩ | (simp only [zP]; repeat' split) 
  all_goals first | exact ⟨_, rfl⟩ | (simp only [zP]; repeat' split) 
  all_goals exact ⟨_, rfl⟩
 obtain ⟨r, hr⟩ := this
 unfold right3
 rw [hr]
 cases r <;> rfl
theorem w64 (x : Int) (h0 : -9223372036854775808 ≤ x) (h1 : x < 9223372036854775808) : wrap64 x = x := by unfold wrap64; omega
def mayF (n w : Int) : Bool := if w = 0 then n == 0 else decide (0 ≤ n) && decide (n ≤ 65535)
theorem may_is (n w : Int) : op_may.f n w = some (mayF n w) := by
 unfold op_may.f mayF
 by_cases h : w = 0
 ·rw [if_pos h, if_pos h]
 ·rw [if_neg h, if_neg h]
  by_cases h0 : 0 ≤ n
  ·rw [if_pos h0]; simp [h0]
  ·rw [if_neg h0]; simp [h0]
theorem is_is (x : Int) : op_Is.f x = some (isOp x) := by
 unfold op_Is.f isOp
 by_cases h0 : 0 ≤ x
 ·rw [if_pos h0]; simp [h0]
 ·rw [if_neg h0]; simp [h0]
theorem right_is (x y z : Int) : right3 x y z = (isOp x && mayF y (shapeA x) && mayF z (shapeB x)) := by
 have h : op_Right.f x y z = some (right3 x y z) := right_some x y z
 have h2 : op_Right.f x y z = some (isOp x && mayF y (shapeA x) && mayF z (shapeB x)) := by
  unfold op_Right.f op_Shape.f
  simp only [zP, is_is, may_is]
  cases isOp x <;> cases mayF y (shapeA x) <;> simp
 exact zJ (h.symm.trans h2)
theorem rmay_is (n w : Int) : r12_may.f n w = some (mayF n w) := by
 unfold r12_may.f mayF
 by_cases hn : n = 0
 ·rw [if_pos hn]; subst hn; by_cases h : w = 0 <;> simp [h]
 ·rw [if_neg hn]
  by_cases h : w = 0
  ·rw [if_pos h, if_pos h]; simp [hn]
  ·rw [if_neg h, if_neg h]
   by_cases h0 : n > 0
   ·rw [if_pos h0]
    congr 1
    rw [Bool.eq_iff_iff]
    simp
    omega
   ·rw [if_neg h0]
    congr 1
    rw [Bool.eq_iff_iff]
    simp
    omega
theorem shapes : ∀ n : Fin 38, r12_Shape.f 3 (n.val : Int) = some (shapeA n.val, shapeB n.val) := by decide +kernel
theorem shape_more (x : Int) : ∀ d, r12_Shape.f 3 x = some (shapeA x, shapeB x) → r12_Shape.f (3 + d) x = some (shapeA x, shapeB x) := by
 intro d h
 induction d with
 | zero => exact h
 | succ d ih => exact r12_Shape.mono x (3 + d) _ ih
theorem rshape (x : Int) (k : Nat) (hk : 3 ≤ k) : r12_Shape.f k x = some (shapeA x, shapeB x) := by
 rw [show k = 3 + (k - 3) by omega]
 refine shape_more x _ ?_
 by_cases h : isOp x = true
 ·unfold isOp at h
  simp only [Bool.and_eq_true, decide_eq_true_eq] at h
  obtain ⟨n, rfl⟩ := Int.eq_ofNat_of_zero_le h.1
  exact shapes ⟨n, by omega⟩
 ·unfold shapeA shapeB
  rw [if_neg h, if_neg h]
  unfold isOp at h
  simp only [Bool.and_eq_true, decide_eq_true_eq, not_and] at h
  unfold r12_Shape.f
  by_cases h0 : x < 0
  ·rw [if_pos h0]; rfl
  ·rw [if_neg h0, decide_eq_true (by omega)]; rfl
theorem rright (x y z : Int) (k : Nat) (hk : 3 ≤ k) : r12_Right.f k x y z = some (right3 x y z) := by
 rw [right_is]
 unfold r12_Right.f
 rw [rshape x k hk]
 simp only [zP, rmay_is]
 unfold isOp
 by_cases h0 : x ≥ 0
 ·rw [if_pos h0]
  by_cases h1 : x ≤ 37
  ·rw [if_pos h1, decide_eq_true (show 0 ≤ x from h0), decide_eq_true (show x < 38 by omega)]
   cases mayF y (shapeA x) <;> simp
  ·rw [if_neg h1, decide_eq_false (show ¬ x < 38 by omega)]; simp
 ·rw [if_neg h0, decide_eq_false h0]; simp
end Go.Proofs.YtdbfgfgbjheibaaDoor.BPure
end

section
/- Instructions' bytes, over the texts of the container. -/
namespace Go.Proofs.YtdbfgfgbjheibaaDoor.BPure
open Go Go.RowKit Go.Proofs.YtdbfgfgbjheibaaDoor Go.Proofs.YtdbfgfgbjheibaaDoor.PBx Go.Proofs.YtdbfgfgbjheibaaDoor.Given Go.Proofs.YtdbfgfgbjheibaaDoorW.PrintWords Go.Proofs.YtdbfgfgbjheibaaDoorW.PrintLast Go.Proofs.YtdbfgfgbjheibaaDoorW.PrintMore
set_option linter.unusedVariables false
set_option linter.unusedSimpArgs false
def enc1 (i : S109) : List Int := [i.f0 % 256, i.f1 % 256, i.f1 / 256 % 256, i.f2 % 256, i.f2 / 256 % 256]
def encF : List S109 → List Int
 | [] => []
 | i :: t => enc1 i ++ encF t
def allR : List S109 → Bool
 | [] => true
 | i :: t => right3 i.f0 i.f1 i.f2 && allR t
theorem enc_len : ∀ l : List S109, (encF l).length = 5 * l.length
 | [] => rfl
 | i :: t => by simp only [encF, List.length_append, enc_len t, enc1, List.length_cons, List.length_nil]; omega
theorem enc_byte : ∀ l : List S109, ∀ x ∈ encF l, 0 ≤ x ∧ x < 256
 | [], x, h => by cases h
 | i :: t, x, h => by
  rcases List.mem_append.1 h with h | h
  ·unfold enc1 at h
   simp only [List.mem_cons, List.not_mem_nil, or_false] at h
   omega
  ·exact enc_byte t x h
theorem rd47_drop (l : List S109) (i : Nat) (h : i < l.length) : l.drop i = rd_T109 l (i : Int) :: l.drop (i + 1) := by
 unfold rd_T109
 rw [Int.toNat_natCast, List.getD_eq_getElem?_getD, List.getElem?_eq_getElem h, Option.getD_some]
 exact List.drop_eq_getElem_cons h
theorem enc_l0 (l : List S109) (hz : l.length ≤ 100000) : ∀ (d i k : Nat) (out : List Int), i + d = l.length → d < k → out.length ≤ 5 * i →
  code_Encode.l0 k out l (l.length : Int) (i : Int) = if allR (l.drop i) = true then some (out ++ encF (l.drop i), true) else some ([], false) := by
 intro d
 induction d with
 | zero =>
  intro i k out h1 h2 h3
  obtain ⟨k, rfl⟩ : ∃ m, k = m + 1 := ⟨k - 1, by omega⟩
  unfold code_Encode.l0
  rw [if_neg (by omega), List.drop_eq_nil_of_le (by omega)]
  simp [allR, encF]
 | succ d ih =>
  intro i k out h1 h2 h3
  obtain ⟨k, rfl⟩ : ∃ m, k = m + 1 := ⟨k - 1, by omega⟩
  unfold code_Encode.l0
  rw [if_pos (by omega), if_pos (by omega), if_pos (by omega), rd47_drop l i (by omega)]
  generalize rd_T109 l (i : Int) = x
  have hr : op_Right.f x.f0 x.f1 x.f2 = some (right3 x.f0 x.f1 x.f2) := right_some x.f0 x.f1 x.f2
  rw [hr]
  simp only [zP]
  rw [show encF (x :: l.drop (i + 1)) = enc1 x ++ encF (l.drop (i + 1)) from rfl]
  by_cases hq : right3 x.f0 x.f1 x.f2 = true
  ·rw [if_pos hq, show allR (x :: l.drop (i + 1)) = allR (l.drop (i + 1)) by show (right3 x.f0 x.f1 x.f2 && _) = _; rw [hq, Bool.true_and]]
   rw [if_pos (by simp only [List.length_cons, List.length_nil]; omega), w64 _ (by omega) (by omega)]
   have := ih (i + 1) k (out ++ enc1 x) (by omega) (by omega) (by simp only [List.length_append, enc1, List.length_cons, List.length_nil]; omega)
   rw [show ((i + 1 : Nat) : Int) = (i : Int) + 1 by omega] at this
   unfold enc1 at this ⊢
   rw [this, List.append_assoc]
  ·rw [if_neg hq, show allR (x :: l.drop (i + 1)) = false by show (right3 x.f0 x.f1 x.f2 && _) = _; simp [hq]]
   simp
theorem enc_is (l : List S109) (k : Nat) (hz : l.length ≤ 100000) (hk : l.length < k) : code_Encode.f k l = if allR l = true then some (encF l, true) else some ([], false) := by
 have := enc_l0 l hz l.length 0 k [] (by omega) hk (by simp)
 rw [List.drop_zero, List.nil_append] at this
 exact this
end Go.Proofs.YtdbfgfgbjheibaaDoor.BPure
end

section
/- What the document's octets put, over the texts of the container. -/
namespace Go.Proofs.YtdbfgfgbjheibaaDoor.BPure
open Go Go.RowKit Go.Proofs.YtdbfgfgbjheibaaDoor Go.Proofs.YtdbfgfgbjheibaaDoor.PBx Go.Proofs.YtdbfgfgbjheibaaDoor.Given Go.Proofs.YtdbfgfgbjheibaaDoorW.PrintWords Go.Proofs.YtdbfgfgbjheibaaDoorW.PrintLast Go.Proofs.YtdbfgfgbjheibaaDoorW.PrintMore
set_option linter.unusedVariables false
set_option linter.unusedSimpArgs false
theorem held_is (a : Int) : r03_held.f a = some (mx 0 (mn a 8)) := by
 have e : mx 0 (mn a 8) = if a < 0 then 0 else if a > 8 then 8 else a := by
  unfold mx mn
  split <;> split <;> (try split) <;> (try split) <;> omega
 rw [e]
 unfold r03_held.f
 split
 ·rfl
 ·split <;> rfl
theorem byte_step (v Q : Int) (hQ : 0 < Q) : (v % (256 * Q)) / 256 = (v / 256) % Q ∧ (v % (256 * Q)) % 256 = v % 256 := by
 have h0 : v = 256 * (Q * (v / (256 * Q))) + v % (256 * Q) := by
  have := Int.mul_ediv_add_emod v (256 * Q)
  rw [Int.mul_assoc] at this
  exact this.symm
 have h1 := Int.emod_nonneg v (show 256 * Q ≠ 0 by omega)
 have h2 := Int.emod_lt_of_pos v (show 0 < 256 * Q by omega)
 generalize hq : v / (256 * Q) = q at h0
 generalize hr : v % (256 * Q) = r at h0 h1 h2 ⊢
 have h3 : v / 256 = Q * q + r / 256 := by
  generalize Q * q = z at h0 ⊢
  omega
 refine ⟨?_, ?_⟩
 ·rw [h3, Int.add_comm, Int.add_mul_emod_self_left]
  exact (Int.emod_eq_of_lt (by omega) (by omega)).symm
 ·generalize Q * q = z at h0
  omega
theorem pow256 (m : Nat) (hm : m ≤ 8) : (256 ^ m : Int) ≤ 18446744073709551616 := by
 rcases (by omega : m = 0 ∨ m = 1 ∨ m = 2 ∨ m = 3 ∨ m = 4 ∨ m = 5 ∨ m = 6 ∨ m = 7 ∨ m = 8) with rfl | rfl | rfl | rfl | rfl | rfl | rfl | rfl | rfl <;> decide
theorem ref_put_loop (l0 : List Int) (a1 a2 : Int) (n : Nat) (hn : mx 0 (mn a1 8) = n) (hn8 : n ≤ 8) (hl : l0.length ≤ 1000000000) : ∀ (d j k : Nat), j + d = n → d < k →
  r03_Put.l0 k a1 (l0 ++ le j a2) (sh j a2 % (256 ^ (8 - j) : Int)) j = some (l0 ++ le n a2) := by
 intro d
 induction d with
 | zero =>
  intro j k hj hk
  obtain ⟨k, rfl⟩ : ∃ m, k = m + 1 := ⟨k - 1, by omega⟩
  obtain rfl : j = n := by omega
  simp only [r03_Put.l0]
  rw [held_is, hn]
  simp only [zP]
  rw [if_neg (by omega)]
 | succ d ih =>
  intro j k hj hk
  obtain ⟨k, rfl⟩ : ∃ m, k = m + 1 := ⟨k - 1, by omega⟩
  simp only [r03_Put.l0]
  rw [held_is, hn]
  simp only [zP]
  rw [if_pos (by omega), if_pos (by rw [List.length_append, le_length]; omega)]
  have hQ : (256 ^ (8 - j) : Int) = 256 * 256 ^ (8 - (j + 1)) := by
   rw [show 8 - j = (8 - (j + 1)) + 1 from by omega, Int.pow_succ, Int.mul_comm]
  have hp : (0 : Int) < 256 ^ (8 - (j + 1)) := Int.pow_pos (by decide)
  have hs := byte_step (sh j a2) _ hp
  rw [← hQ] at hs
  have h1 := Int.emod_nonneg (sh j a2) (show (256 ^ (8 - j) : Int) ≠ 0 by rw [hQ]; omega)
  have h2 : sh j a2 % (256 ^ (8 - j) : Int) < 18446744073709551616 := by
   refine Int.lt_of_lt_of_le (Int.emod_lt_of_pos _ (by rw [hQ]; omega)) ?_
   exact pow256 _ (by omega)
  have e1 : (sh j a2 % (256 ^ (8 - j) : Int)).tmod 256 % 256 = sh j a2 % 256 := by
   rw [Int.tmod_eq_emod_of_nonneg h1, Int.emod_emod_of_dvd _ (by decide), hs.2]
  have e2 : IntKind.u64.wrap ((sh j a2 % (256 ^ (8 - j) : Int)).tdiv 256) = sh (j + 1) a2 % (256 ^ (8 - (j + 1)) : Int) := by
   rw [Int.tdiv_eq_ediv_of_nonneg h1, IntKind.wrap_u64]
   refine Eq.trans (Int.emod_eq_of_lt (by omega) (by omega)) hs.1
  have e3 : wrap64 ((j : Int) + 1) = ((j + 1 : Nat) : Int) := by unfold wrap64; omega
  rw [e1, e2, e3]
  have := ih (j + 1) k (by omega) (by omega)
  rw [← this]
  simp [le, List.append_assoc]
theorem bytesOf_take (s : ByteArray) (j : Nat) : bytesOf (s.extract 0 j) = (bytesOf s).take j := by
 unfold bytesOf
 rw [ByteArray.data_extract, Array.toList_extract, List.map_take]
 simp
theorem bytesOf_length (s : ByteArray) : (bytesOf s).length = s.size := by simp [bytesOf]
theorem bytesOf_get (s : ByteArray) (j : Nat) (h : j < s.size) : (bytesOf s)[j]? = some (bt s j) := by
 unfold bytesOf bt
 rw [List.getElem?_map]
 simp [h, ByteArray.getElem_eq_getElem_data]
theorem bytesOf_step (s : ByteArray) (j : Nat) (h : j < s.size) : bytesOf (s.extract 0 (j + 1)) = bytesOf (s.extract 0 j) ++ [bt s j] := by
 rw [bytesOf_take, bytesOf_take, List.take_add_one, bytesOf_get s j h]
 rfl
theorem ref_text_loop (s : ByteArray) (l : List Int) (hl : l.length ≤ 1000000000) (hs : s.size ≤ 1000) : ∀ (d j k : Nat), j + d = s.size → d < k →
  r03_Text.l0 k s (l ++ bytesOf (s.extract 0 j)) j = some (l ++ bytesOf s) := by
 intro d
 induction d with
 | zero =>
  intro j k hj hk
  obtain ⟨k, rfl⟩ : ∃ m, k = m + 1 := ⟨k - 1, by omega⟩
  obtain rfl : j = s.size := by omega
  simp only [r03_Text.l0]
  rw [if_neg (by omega), ByteArray.extract_zero_size]
 | succ d ih =>
  intro j k hj hk
  obtain ⟨k, rfl⟩ : ∃ m, k = m + 1 := ⟨k - 1, by omega⟩
  simp only [r03_Text.l0]
  rw [if_pos (by omega), if_pos (by omega), if_pos (by rw [List.length_append]; simp [bytesOf]; omega)]
  have e3 : wrap64 ((j : Int) + 1) = ((j + 1 : Nat) : Int) := by unfold wrap64; omega
  rw [e3, ← ih (j + 1) k (by omega) (by omega)]
  rw [bytesOf_step s j (by omega), List.append_assoc]
end Go.Proofs.YtdbfgfgbjheibaaDoor.BPure
end
