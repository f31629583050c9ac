/- Printed by a program of this session (wip/pg.py, over the print of the kit): functions, their Lean twins, and the proofs that the calls come to them; each under the conditions that it names. -/
import Derived.Test.YtdbfgfgbjheibaaDoorZBoxBackq
import Derived.Test.YtdbfgfgbjheibaaDoorZBoxBackab
import Derived.Test.YtdbfgfgbjheibaaDoorZBoxBackad
/- Printed by a program of this session (wip/pg.py, over the print of the kit): functions, their Lean twins, and the proofs that the calls come to them; each under the conditions that it names. -/
namespace Go.Proofs.YtdbfgfgbjheibaaDoor.PBx
open Go.Proofs.YtdbfgfgbjheibaaDoor.Given
open Go.RowKit Go.Proofs.YtdbfgfgbjheibaaDoorW.PrintWords Go.Proofs.YtdbfgfgbjheibaaDoorW.PrintLast Go.Proofs.YtdbfgfgbjheibaaDoorW.PrintMore
attribute [local go_sem] max2_int min2_int max_two min_two max_three min_three max_four min_four   -- for this text's walks alone
set_option linter.unusedVariables false
set_option linter.unusedSimpArgs false

/-! ### unit_Fits: function 82 -/
mutual
def unit_Fits.j0 : Nat → Bool → ByteArray → List Int → Int → List Int → List (S109) → Option (Bool)
 | 0, _, _, _, _, _, _ => none
 | k + 1, x26, x202000, x202001, x202002, x202003, x202004 => if x26 = true then (some false) else (unit_Fits.l0 k x202004 (x202004.length : Int) 0 x202000 x202001 x202002 x202003 x202004)
def unit_Fits.l0 : Nat → List (S109) → Int → Int → ByteArray → List Int → Int → List Int → List (S109) → Option (Bool)
 | 0, _, _, _, _, _, _, _, _ => none
 | k + 1, x28, x29, x30, x202000, x202001, x202002, x202003, x202004 => if x30 < x29 then (if 0 ≤ x30 then (if x30 < (x28.length : Int) then ((op_Right.f ((rd_T109 x28 x30).f0) ((rd_T109 x28 x30).f1) ((rd_T109 x28 x30).f2)).bind fun t204 => (if t204 = true then (unit_Fits.l0 k x28 x29 (wrap64 (x30 + 1)) x202000 x202001 x202002 x202003 x202004) else (some false))) else (none)) else (none)) else ((unit_bytes.f k x202001).bind fun t205 => (if t205 = true then ((unit_bytes.f k x202003).bind fun t206 => (if t206 = true then ((unit_bytes.f k (([x202002] : List Int))).bind fun t210 => (some t210)) else (some false))) else (some false)))
end
def unit_Fits.f (k : Nat) (a0_0 : ByteArray) (l0_1 : List Int) (a0_2 : Int) (l0_3 : List Int) (l0_4 : List (S109)) : Option (Bool) := if (a0_0.size : Int) > 255 then (unit_Fits.j0 k true a0_0 l0_1 a0_2 l0_3 l0_4) else (if (l0_1.length : Int) > 8 then (unit_Fits.j0 k true a0_0 l0_1 a0_2 l0_3 l0_4) else (if (l0_3.length : Int) > 1024 then (unit_Fits.j0 k true a0_0 l0_1 a0_2 l0_3 l0_4) else (unit_Fits.j0 k (decide ((l0_4.length : Int) > 16384)) a0_0 l0_1 a0_2 l0_3 l0_4)))
theorem unit_Fits.mono_l : ∀ k, (∀ y0 y1 y2 y3 y4 y5, LeO (unit_Fits.j0 k y0 y1 y2 y3 y4 y5) (unit_Fits.j0 (k + 1) y0 y1 y2 y3 y4 y5)) ∧ (∀ y0 y1 y2 y3 y4 y5 y6 y7, LeO (unit_Fits.l0 k y0 y1 y2 y3 y4 y5 y6 y7) (unit_Fits.l0 (k + 1) y0 y1 y2 y3 y4 y5 y6 y7))
 | 0 => ⟨fun _ _ _ _ _ _ r h => by simp [unit_Fits.j0] at h, fun _ _ _ _ _ _ _ _ r h => by simp [unit_Fits.l0] at h⟩
 | k + 1 => by
  obtain ⟨ih0, ih1⟩ := unit_Fits.mono_l k
  refine ⟨?_, ?_⟩
  ·intro y0 y1 y2 y3 y4 y5
   unfold unit_Fits.j0
   repeat' first
   | (with_reducible exact ih0 _ _ _ _ _ _)
   | (with_reducible exact ih1 _ _ _ _ _ _ _ _)
   | (with_reducible exact unit_bytes.mono _ _)
   | (with_reducible exact LeO.refl _)
   | (with_reducible exact LeO.none _)
   | (with_reducible refine LeO.ite ?_ ?_)
   | (with_reducible refine LeO.bind ?_ (fun _ => ?_))
   | exact ih0 _ _ _ _ _ _
   | exact ih1 _ _ _ _ _ _ _ _
   | exact unit_bytes.mono _ _
   | exact LeO.none _
   | refine LeO.ite ?_ ?_
   | refine LeO.bind ?_ (fun _ => ?_)
  ·intro y0 y1 y2 y3 y4 y5 y6 y7
   unfold unit_Fits.l0
   repeat' first
   | (with_reducible exact ih0 _ _ _ _ _ _)
   | (with_reducible exact ih1 _ _ _ _ _ _ _ _)
   | (with_reducible exact unit_bytes.mono _ _)
   | (with_reducible exact LeO.refl _)
   | (with_reducible exact LeO.none _)
   | (with_reducible refine LeO.ite ?_ ?_)
   | (with_reducible refine LeO.bind ?_ (fun _ => ?_))
   | exact ih0 _ _ _ _ _ _
   | exact ih1 _ _ _ _ _ _ _ _
   | exact unit_bytes.mono _ _
   | exact LeO.none _
   | refine LeO.ite ?_ ?_
   | refine LeO.bind ?_ (fun _ => ?_)
theorem unit_Fits.mono : ∀ a0 a1 a2 a3 a4 k, LeO (unit_Fits.f k a0 a1 a2 a3 a4) (unit_Fits.f (k + 1) a0 a1 a2 a3 a4) := by
 intro a0 a1 a2 a3 a4 k
 obtain ⟨ih0, ih1⟩ := unit_Fits.mono_l k
 unfold unit_Fits.f
 repeat' first
   | (with_reducible exact ih0 _ _ _ _ _ _)
   | (with_reducible exact ih1 _ _ _ _ _ _ _ _)
   | (with_reducible exact unit_bytes.mono _ _)
   | (with_reducible exact LeO.refl _)
   | (with_reducible exact LeO.none _)
   | (with_reducible refine LeO.ite ?_ ?_)
   | (with_reducible refine LeO.bind ?_ (fun _ => ?_))
   | exact ih0 _ _ _ _ _ _
   | exact ih1 _ _ _ _ _ _ _ _
   | exact unit_bytes.mono _ _
   | exact LeO.none _
   | refine LeO.ite ?_ ?_
   | refine LeO.bind ?_ (fun _ => ?_)
set_option maxHeartbeats 8000000 in
set_option maxRecDepth 100000 in
theorem unit_Fits.calls (k : Nat) (a0_0 : ByteArray) (A0_1 : Option Addr) (c0_1 : Nat) (l0_1 : List Int) (a0_2 : Int) (A0_3 : Option Addr) (c0_3 : Nat) (l0_3 : List Int) (A0_4 : Option Addr) (c0_4 : Nat) (l0_4 : List (S109)) (r : Bool) (w : World) (hr0_1 : Kd.C (Kd.int .i64) w A0_1 l0_1.length l0_1) (hc0_1 : l0_1.length ≤ c0_1) (hr0_3 : Kd.C (Kd.int .i64) w A0_3 l0_3.length l0_3) (hc0_3 : l0_3.length ≤ c0_3) (hr0_4 : Kd.C k109 w A0_4 l0_4.length l0_4) (hc0_4 : l0_4.length ≤ c0_4) (h : unit_Fits.f k a0_0 l0_1 a0_2 l0_3 l0_4 = some r) (hL_ : LaidOps w) :
  Calls Tryd.prog 82 #[.agg #[.string a0_0, .slice A0_1 l0_1.length c0_1, .int .i64 a0_2, .slice A0_3 l0_3.length c0_3, .slice A0_4 l0_4.length c0_4]] w fun e w' => e = .returned (.bool r) ∧ Below w.heap.size w w' := by
 have HL_ := zA hL_
 clear hL_
 have hu48 := Tryd.underlying48
 have hu109 := Tryd.underlying109
 have HR0_1 := zA hr0_1
 have HC0_1 := zA hc0_1
 clear hr0_1 hc0_1
 have HR0_3 := zA hr0_3
 have HC0_3 := zA hc0_3
 clear hr0_3 hc0_3
 have HR0_4 := zA hr0_4
 have HC0_4 := zA hc0_4
 clear hr0_4 hc0_4
 have HB := zA (zX w.heap.size w)
 have H : (if (a0_0.size : Int) > 255 then (unit_Fits.j0 k true a0_0 l0_1 a0_2 l0_3 l0_4) else (if (l0_1.length : Int) > 8 then (unit_Fits.j0 k true a0_0 l0_1 a0_2 l0_3 l0_4) else (if (l0_3.length : Int) > 1024 then (unit_Fits.j0 k true a0_0 l0_1 a0_2 l0_3 l0_4) else (unit_Fits.j0 k (decide ((l0_4.length : Int) > 16384)) a0_0 l0_1 a0_2 l0_3 l0_4)))) = some r := h
 clear h
 have HC2 := zA H
 clear H
 go_enter Tryd.func82, Tryd.ntmps82
 go_upto_region 1 with (first | ((with_reducible refine gate_dst (N := 1) rfl ?_); (try (refine gate_guard (by rfl) ?_; dsimp only)); refine box_event ?hg (N := 1) ?hd (cs := #[.string a0_0, .slice A0_1 l0_1.length c0_1, .int .i64 a0_2, .slice A0_3 l0_3.length c0_3, .slice A0_4 l0_4.length c0_4]) (t := 48) ?hr ?_; (case hd => rfl); (case hg => rfl); (case hr => first | (go_simp; done) | (go_simp; rfl)); intro gb201 hg w3 hbox hb; have BK201 := zA (hbox); have GW201 := zA ((by rw [hg]; exact (below_size (by repeat (first | (with_reducible first | exact HB.out | apply zB | apply zN | apply below_drew1) | exact HB.out))) : w.heap.size ≤ gb201)); have GE201 := GW201; replace HB := zA (below_step (by repeat (first | (with_reducible first | exact HB.out | apply zB | apply zN | apply below_drew1) | exact HB.out)) hb); clear hb hbox hg))
 (try simp only [Act.put, zY, List.set_cons_zero, z2])
 go_cut [26] (fun v26 wc => ∃ (kq : Nat) (x26_1 : Bool), v26 = .bool x26_1 ∧ Aside0 (unit_Fits.j0 kq x26_1 a0_0 l0_1 a0_2 l0_3 l0_4 = some r) ∧ Aside0 (kq ≤ k) ∧ Aside0 (wc.heap[gb201]? = some (.cells #[.string a0_0, (.slice A0_1 l0_1.length c0_1), .int .i64 a0_2, (.slice A0_3 l0_3.length c0_3), (.slice A0_4 l0_4.length c0_4)] 48 (0, 0))) ∧ Aside0 (Below w.heap.size w wc))
 case first =>
  have H := HC2.out
  clear HC2
  by_cases c4 : (a0_0.size : Int) > 255
  ·rw [if_pos c4] at H
   have c4b0 : decide (255 < (a0_0.size : Int)) = true := decide_eq_true c4
   have c4b1 : decide (255 < a0_0.size) = true := decide_eq_true (by omega)
   clear c4
   (first | rw [c4b0] | (simp only [i64_w, i32_w]; rw [c4b0]) | skip)
   have H' := zA H
   clear H
   have hcz5_0 : w3.cell? ⟨gb201, 0, none⟩ = some (.string a0_0) := (zC BK201.out 0).trans rfl
   have hcz5_1 : w3.cell? ⟨gb201, 1, none⟩ = some (.slice A0_1 l0_1.length c0_1) := (zC BK201.out 1).trans rfl
   have hcz5_2 : w3.cell? ⟨gb201, 2, none⟩ = some (.int .i64 a0_2) := (zC BK201.out 2).trans rfl
   have hcz5_3 : w3.cell? ⟨gb201, 3, none⟩ = some (.slice A0_3 l0_3.length c0_3) := (zC BK201.out 3).trans rfl
   have hcz5_4 : w3.cell? ⟨gb201, 4, none⟩ = some (.slice A0_4 l0_4.length c0_4) := (zC BK201.out 4).trans rfl
   have hfz5_0 := zF BK201.out 0
   have hfz5_1 := zF BK201.out 1
   have hfz5_2 := zF BK201.out 2
   have hfz5_3 := zF BK201.out 3
   have hfz5_4 := zF BK201.out 4
   go_wp2
   go_meet
   case rel => exact ⟨_, (true), (by first | rfl | (simp; done) | (simp [*]; done)), H', ⟨by first | omega | exact z5 _⟩, ⟨by (with_reducible repeat (first | refine zG ?_ _ | refine zH ?_)); exact BK201.out⟩, ⟨by repeat (first | (with_reducible first | exact HB.out | apply zB | apply zN | apply below_drew1 | refine zE ?_ GE201.out) | exact HB.out)⟩⟩
  ·rw [if_neg c4] at H
   have c4b0 : decide (255 < (a0_0.size : Int)) = false := decide_eq_false c4
   have c4b1 : decide (255 < a0_0.size) = false := decide_eq_false (by omega)
   clear c4
   (first | rw [c4b0] | (simp only [i64_w, i32_w]; rw [c4b0]) | skip)
   by_cases c6 : (l0_1.length : Int) > 8
   ·rw [if_pos c6] at H
    have c6b0 : decide (8 < (l0_1.length : Int)) = true := decide_eq_true c6
    have c6b1 : decide (8 < l0_1.length) = true := decide_eq_true (by omega)
    clear c6
    have H' := zA H
    clear H
    have hcz7_0 : w3.cell? ⟨gb201, 0, none⟩ = some (.string a0_0) := (zC BK201.out 0).trans rfl
    have hcz7_1 : w3.cell? ⟨gb201, 1, none⟩ = some (.slice A0_1 l0_1.length c0_1) := (zC BK201.out 1).trans rfl
    have hcz7_2 : w3.cell? ⟨gb201, 2, none⟩ = some (.int .i64 a0_2) := (zC BK201.out 2).trans rfl
    have hcz7_3 : w3.cell? ⟨gb201, 3, none⟩ = some (.slice A0_3 l0_3.length c0_3) := (zC BK201.out 3).trans rfl
    have hcz7_4 : w3.cell? ⟨gb201, 4, none⟩ = some (.slice A0_4 l0_4.length c0_4) := (zC BK201.out 4).trans rfl
    have hfz7_0 := zF BK201.out 0
    have hfz7_1 := zF BK201.out 1
    have hfz7_2 := zF BK201.out 2
    have hfz7_3 := zF BK201.out 3
    have hfz7_4 := zF BK201.out 4
    go_wp2
    go_meet
    case rel => exact ⟨_, (true), (by first | rfl | (simp; done) | (simp [*]; done)), H', ⟨by first | omega | exact z5 _⟩, ⟨by (with_reducible repeat (first | refine zG ?_ _ | refine zH ?_)); exact BK201.out⟩, ⟨by repeat (first | (with_reducible first | exact HB.out | apply zB | apply zN | apply below_drew1 | refine zE ?_ GE201.out) | exact HB.out)⟩⟩
   ·rw [if_neg c6] at H
    have c6b0 : decide (8 < (l0_1.length : Int)) = false := decide_eq_false c6
    have c6b1 : decide (8 < l0_1.length) = false := decide_eq_false (by omega)
    clear c6
    by_cases c8 : (l0_3.length : Int) > 1024
    ·rw [if_pos c8] at H
     have c8b0 : decide (1024 < (l0_3.length : Int)) = true := decide_eq_true c8
     have c8b1 : decide (1024 < l0_3.length) = true := decide_eq_true (by omega)
     clear c8
     have H' := zA H
     clear H
     have hcz9_0 : w3.cell? ⟨gb201, 0, none⟩ = some (.string a0_0) := (zC BK201.out 0).trans rfl
     have hcz9_1 : w3.cell? ⟨gb201, 1, none⟩ = some (.slice A0_1 l0_1.length c0_1) := (zC BK201.out 1).trans rfl
     have hcz9_2 : w3.cell? ⟨gb201, 2, none⟩ = some (.int .i64 a0_2) := (zC BK201.out 2).trans rfl
     have hcz9_3 : w3.cell? ⟨gb201, 3, none⟩ = some (.slice A0_3 l0_3.length c0_3) := (zC BK201.out 3).trans rfl
     have hcz9_4 : w3.cell? ⟨gb201, 4, none⟩ = some (.slice A0_4 l0_4.length c0_4) := (zC BK201.out 4).trans rfl
     have hfz9_0 := zF BK201.out 0
     have hfz9_1 := zF BK201.out 1
     have hfz9_2 := zF BK201.out 2
     have hfz9_3 := zF BK201.out 3
     have hfz9_4 := zF BK201.out 4
     go_wp2
     go_meet
     case rel => exact ⟨_, (true), (by first | rfl | (simp; done) | (simp [*]; done)), H', ⟨by first | omega | exact z5 _⟩, ⟨by (with_reducible repeat (first | refine zG ?_ _ | refine zH ?_)); exact BK201.out⟩, ⟨by repeat (first | (with_reducible first | exact HB.out | apply zB | apply zN | apply below_drew1 | refine zE ?_ GE201.out) | exact HB.out)⟩⟩
    ·rw [if_neg c8] at H
     have c8b0 : decide (1024 < (l0_3.length : Int)) = false := decide_eq_false c8
     have c8b1 : decide (1024 < l0_3.length) = false := decide_eq_false (by omega)
     clear c8
     have H' := zA H
     clear H
     have hcz10_0 : w3.cell? ⟨gb201, 0, none⟩ = some (.string a0_0) := (zC BK201.out 0).trans rfl
     have hcz10_1 : w3.cell? ⟨gb201, 1, none⟩ = some (.slice A0_1 l0_1.length c0_1) := (zC BK201.out 1).trans rfl
     have hcz10_2 : w3.cell? ⟨gb201, 2, none⟩ = some (.int .i64 a0_2) := (zC BK201.out 2).trans rfl
     have hcz10_3 : w3.cell? ⟨gb201, 3, none⟩ = some (.slice A0_3 l0_3.length c0_3) := (zC BK201.out 3).trans rfl
     have hcz10_4 : w3.cell? ⟨gb201, 4, none⟩ = some (.slice A0_4 l0_4.length c0_4) := (zC BK201.out 4).trans rfl
     have hfz10_0 := zF BK201.out 0
     have hfz10_1 := zF BK201.out 1
     have hfz10_2 := zF BK201.out 2
     have hfz10_3 := zF BK201.out 3
     have hfz10_4 := zF BK201.out 4
     go_wp2
     go_meet
     case rel => exact ⟨_, (decide ((l0_4.length : Int) > 16384)), (by first | rfl | (simp; done) | (simp [*]; done)), H', ⟨by first | omega | exact z5 _⟩, ⟨by (with_reducible repeat (first | refine zG ?_ _ | refine zH ?_)); exact BK201.out⟩, ⟨by repeat (first | (with_reducible first | exact HB.out | apply zB | apply zN | apply below_drew1 | refine zE ?_ GE201.out) | exact HB.out)⟩⟩
 case rest =>
  clear HC2
  try clear p2
  try clear c4
  try clear c4b0
  try clear c4b1
  try clear c6
  try clear c6b0
  try clear c6b1
  try clear c8
  try clear c8b0
  try clear c8b1
  try clear hcz10_0
  try clear hcz10_1
  try clear hcz10_2
  try clear hcz10_3
  try clear hcz10_4
  try clear hcz5_0
  try clear hcz5_1
  try clear hcz5_2
  try clear hcz5_3
  try clear hcz5_4
  try clear hcz7_0
  try clear hcz7_1
  try clear hcz7_2
  try clear hcz7_3
  try clear hcz7_4
  try clear hcz9_0
  try clear hcz9_1
  try clear hcz9_2
  try clear hcz9_3
  try clear hcz9_4
  try clear hfz10_0
  try clear hfz10_1
  try clear hfz10_2
  try clear hfz10_3
  try clear hfz10_4
  try clear hfz5_0
  try clear hfz5_1
  try clear hfz5_2
  try clear hfz5_3
  try clear hfz5_4
  try clear hfz7_0
  try clear hfz7_1
  try clear hfz7_2
  try clear hfz7_3
  try clear hfz7_4
  try clear hfz9_0
  try clear hfz9_1
  try clear hfz9_2
  try clear hfz9_3
  try clear hfz9_4
  obtain ⟨kq, x26_1, rfl, HA, HJ1, BK201, HB⟩ := hcut
  cases kq with
  | zero => exact absurd HA.out (by simp [unit_Fits.j0])
  | succ kj1 =>
   have H := HA.out
   clear HA
   simp only [unit_Fits.j0] at H
   by_cases c11 : x26_1 = true
   ·subst c11
    have H1 : (some false) = some r := by rw [if_pos rfl] at H; exact H
    clear H
    have H := H1
    clear H1
    obtain rfl := zJ H
    go_wp2
    go_ret
    exact ⟨by first | rfl | (simp [errW_none, errW_some] <;> rfl) | (simp [*, errW_none, errW_some] <;> rfl), by repeat (first | (with_reducible first | exact HB.out | apply zB | apply zN | apply below_drew1 | refine zE ?_ GE201.out) | exact HB.out)⟩
   ·replace c11 := Bool.eq_false_iff.mpr c11
    subst c11
    have H1 : (unit_Fits.l0 kj1 l0_4 (l0_4.length : Int) 0 a0_0 l0_1 a0_2 l0_3 l0_4) = some r := by rw [if_neg (show ¬ (false = true) by decide)] at H; exact H
    clear H
    have H := H1
    clear H1
    have H' := zA H
    clear H
    have hcz12_0 : wc.cell? ⟨gb201, 0, none⟩ = some (.string a0_0) := (zC BK201.out 0).trans rfl
    have hcz12_1 : wc.cell? ⟨gb201, 1, none⟩ = some (.slice A0_1 l0_1.length c0_1) := (zC BK201.out 1).trans rfl
    have hcz12_2 : wc.cell? ⟨gb201, 2, none⟩ = some (.int .i64 a0_2) := (zC BK201.out 2).trans rfl
    have hcz12_3 : wc.cell? ⟨gb201, 3, none⟩ = some (.slice A0_3 l0_3.length c0_3) := (zC BK201.out 3).trans rfl
    have hcz12_4 : wc.cell? ⟨gb201, 4, none⟩ = some (.slice A0_4 l0_4.length c0_4) := (zC BK201.out 4).trans rfl
    have hfz12_0 := zF BK201.out 0
    have hfz12_1 := zF BK201.out 1
    have hfz12_2 := zF BK201.out 2
    have hfz12_3 := zF BK201.out 3
    have hfz12_4 := zF BK201.out 4
    go_wp2
    go_loopg [30] kj1 (fun kq v30 w' => ∃ (x30_2 : Int), v30 = .int .i64 x30_2 ∧ Aside0 (unit_Fits.l0 kq l0_4 (l0_4.length : Int) x30_2 a0_0 l0_1 a0_2 l0_3 l0_4 = some r) ∧ Aside0 (kq ≤ kj1) ∧ Aside0 (w'.heap[gb201]? = some (.cells #[.string a0_0, (.slice A0_1 l0_1.length c0_1), .int .i64 a0_2, (.slice A0_3 l0_3.length c0_3), (.slice A0_4 l0_4.length c0_4)] 48 (0, 0))) ∧ Aside0 (Below w.heap.size w w'))
    case atStart => exact ⟨(0), (by first | rfl | (simp; done) | (simp [*]; done)), H', ⟨z5 _⟩, ⟨by (with_reducible repeat (first | refine zG ?_ _ | refine zH ?_)); exact BK201.out⟩, ⟨by repeat (first | (with_reducible first | exact HB.out | apply zB | apply zN | apply below_drew1 | refine zE ?_ GE201.out) | exact HB.out)⟩⟩
    case round =>
     clear H'
     try clear c1
     try clear p2
     try clear c4
     try clear c4b0
     try clear c4b1
     try clear c6
     try clear c6b0
     try clear c6b1
     try clear c8
     try clear c8b0
     try clear c8b1
     try clear c11
     try clear hcz10_0
     try clear hcz10_1
     try clear hcz10_2
     try clear hcz10_3
     try clear hcz10_4
     try clear hcz12_0
     try clear hcz12_1
     try clear hcz12_2
     try clear hcz12_3
     try clear hcz12_4
     try clear hcz5_0
     try clear hcz5_1
     try clear hcz5_2
     try clear hcz5_3
     try clear hcz5_4
     try clear hcz7_0
     try clear hcz7_1
     try clear hcz7_2
     try clear hcz7_3
     try clear hcz7_4
     try clear hcz9_0
     try clear hcz9_1
     try clear hcz9_2
     try clear hcz9_3
     try clear hcz9_4
     try clear hfz10_0
     try clear hfz10_1
     try clear hfz10_2
     try clear hfz10_3
     try clear hfz10_4
     try clear hfz12_0
     try clear hfz12_1
     try clear hfz12_2
     try clear hfz12_3
     try clear hfz12_4
     try clear hfz5_0
     try clear hfz5_1
     try clear hfz5_2
     try clear hfz5_3
     try clear hfz5_4
     try clear hfz7_0
     try clear hfz7_1
     try clear hfz7_2
     try clear hfz7_3
     try clear hfz7_4
     try clear hfz9_0
     try clear hfz9_1
     try clear hfz9_2
     try clear hfz9_3
     try clear hfz9_4
     try clear p2
     obtain ⟨x30_2, rfl, HA, HK2, BK201, HB⟩ := hrel
     cases gk with
     | zero => exact absurd HA.out (by simp [unit_Fits.l0])
     | succ k2 =>
      have H := HA.out
      clear HA
      simp only [unit_Fits.l0] at H
      by_cases c13 : x30_2 < (l0_4.length : Int)
      ·rw [if_pos c13] at H
       have c13b0 : decide (x30_2 < (l0_4.length : Int)) = true := decide_eq_true c13
       clear c13
       by_cases c14 : 0 ≤ x30_2
       ·rw [if_pos c14] at H
        have c14b0 : decide (0 ≤ x30_2) = true := decide_eq_true c14
        clear c14
        by_cases c15 : x30_2 < (l0_4.length : Int)
        ·rw [if_pos c15] at H
         have c15b0 : decide (x30_2 < (l0_4.length : Int)) = true := decide_eq_true c15
         clear c15
         replace H := Option.bind_eq_some_iff.mp H
         obtain ⟨t204, A160, H⟩ := H
         replace H : (if t204 = true then (unit_Fits.l0 k2 l0_4 (l0_4.length : Int) (wrap64 (x30_2 + 1)) a0_0 l0_1 a0_2 l0_3 l0_4) else (some false)) = some r := H
         have A16 := zA A160
         clear A160
         by_cases c17 : t204 = true
         ·subst c17
          have H1 : (unit_Fits.l0 k2 l0_4 (l0_4.length : Int) (wrap64 (x30_2 + 1)) a0_0 l0_1 a0_2 l0_3 l0_4) = some r := by rw [if_pos rfl] at H; exact H
          clear H
          have H := H1
          clear H1
          have H' := zA H
          clear H
          have p202 : 0 ≤ (x30_2 : Int) := zO (by first | (with_reducible assumption) | assumption)
          have q202 : x30_2 < (l0_4.length : Int) := zO (by first | (with_reducible assumption) | assumption)
          obtain ⟨ad202, e202, hx202_0, hx202_1, hx202_2⟩ := at_T109 HR0_4.out x30_2 p202 q202
          cases e202
          replace hx202_0 := (HB.out.cell (zL w _ hx202_0)).trans hx202_0
          replace hx202_1 := (HB.out.cell (zL w _ hx202_1)).trans hx202_1
          replace hx202_2 := (HB.out.cell (zL w _ hx202_2)).trans hx202_2
          replace p202 := eq_true p202
          replace q202 := eq_true q202
          go_wp2_with (first | ((with_reducible refine gate_dst (N := 4) rfl ?_); (try (refine gate_guard (by rfl) ?_; dsimp only)); refine box_event ?hg (N := 4) ?hd (cs := #[.int .i64 0, .int .i64 0, .int .i64 0]) (t := 109) ?hr ?_; (case hd => rfl); (case hg => rfl); (case hr => first | (go_simp; done) | (go_simp; rfl)); intro gb203 hg w18 hbox hb; have BK203 := zA (hbox); have GW203 := zA ((by rw [hg]; exact (below_size (by repeat (first | (with_reducible first | exact HB.out | apply zB | apply zN | apply below_drew1 | refine zE ?_ GE201.out) | exact HB.out))) : w.heap.size ≤ gb203)); have GE203 := GW203; replace HB := zA (below_step (by repeat (first | (with_reducible first | exact HB.out | apply zB | apply zN | apply below_drew1 | refine zE ?_ GE201.out) | exact HB.out)) hb); have NB201_203 := zA ((by rw [hg]; exact Nat.ne_of_lt (blk_lt (g := gb201) (o := .cells #[.string a0_0, .slice A0_1 l0_1.length c0_1, .int .i64 a0_2, .slice A0_3 l0_3.length c0_3, .slice (some ad202) l0_4.length c0_4] 48 (0, 0)) (by (with_reducible repeat (first | refine zG ?_ _ | refine zH ?_)); exact BK201.out)) : gb201 ≠ gb203)); have NB203_201 := zA ((by rw [hg]; exact Nat.ne_of_gt (blk_lt (g := gb201) (o := .cells #[.string a0_0, .slice A0_1 l0_1.length c0_1, .int .i64 a0_2, .slice A0_3 l0_3.length c0_3, .slice (some ad202) l0_4.length c0_4] 48 (0, 0)) (by (with_reducible repeat (first | refine zG ?_ _ | refine zH ?_)); exact BK201.out)) : gb203 ≠ gb201)); replace BK201 := zA (zQ (g := gb201) (o := .cells #[.string a0_0, .slice A0_1 l0_1.length c0_1, .int .i64 a0_2, .slice A0_3 l0_3.length c0_3, .slice (some ad202) l0_4.length c0_4] 48 (0, 0)) (by (with_reducible repeat (first | refine zG ?_ _ | refine zH ?_)); exact BK201.out) hb); clear hb hbox hg; have hnb19 := NB203_201.out; have hnc19 := NB201_203.out; have hcz20_0 : w18.cell? ⟨gb203, 0, none⟩ = some (.int .i64 0) := (zC BK203.out 0).trans rfl; have hcz20_1 : w18.cell? ⟨gb203, 1, none⟩ = some (.int .i64 0) := (zC BK203.out 1).trans rfl; have hcz20_2 : w18.cell? ⟨gb203, 2, none⟩ = some (.int .i64 0) := (zC BK203.out 2).trans rfl; have hfz20_0 := zF BK203.out 0; have hfz20_1 := zF BK203.out 1; have hfz20_2 := zF BK203.out 2) | ((with_reducible refine gate_callee (f := 105) rfl ?_); refine goesL_ (some 35) rfl rfl Tryd.func105 (by kernel_rfl) rfl #[.agg #[.int .i64 ((rd_T109 l0_4 x30_2).f0), .int .i64 ((rd_T109 l0_4 x30_2).f1), .int .i64 ((rd_T109 l0_4 x30_2).f2)]] rfl (by (try simp only [zm, zc, zn]); first | done | rfl | (simp only [zd, zt]; rfl)) ?_; (with_reducible refine (op_Right.calls ((rd_T109 l0_4 x30_2).f0) ((rd_T109 l0_4 x30_2).f1) ((rd_T109 l0_4 x30_2).f2) true _ A16.out (LaidOps.below HL_.out (by repeat (first | (with_reducible first | exact HB.out | apply zB | apply zN | apply below_drew1 | refine zE ?_ GE201.out | refine zE ?_ GE203.out) | exact HB.out)))).mono ?_); rintro e w21 ⟨rfl, hb⟩; refine ⟨_, rfl, ?_⟩; replace BK201 := zA (zQ (g := gb201) (o := .cells #[.string a0_0, .slice A0_1 l0_1.length c0_1, .int .i64 a0_2, .slice A0_3 l0_3.length c0_3, .slice (some ad202) l0_4.length c0_4] 48 (0, 0)) (by (with_reducible repeat (first | refine zG ?_ _ | refine zH ?_)); refine blk_far ?_ NB201_203.out _; (with_reducible repeat (first | refine zG ?_ _ | refine zH ?_)); refine blk_far ?_ NB201_203.out _; (with_reducible repeat (first | refine zG ?_ _ | refine zH ?_)); refine blk_far ?_ NB201_203.out _; (with_reducible repeat (first | refine zG ?_ _ | refine zH ?_)); exact BK201.out) hb); replace BK203 := zA (zQ (g := gb203) (o := .cells #[.int .i64 ((rd_T109 l0_4 x30_2).f0), .int .i64 ((rd_T109 l0_4 x30_2).f1), .int .i64 ((rd_T109 l0_4 x30_2).f2)] 109 (0, 0)) (by (with_reducible repeat (first | refine zG ?_ _ | refine zH ?_)); refine blk_put (cs := #[.int .i64 ((rd_T109 l0_4 x30_2).f0), .int .i64 ((rd_T109 l0_4 x30_2).f1), .int .i64 0]) ?_ 2 _ rfl; (with_reducible repeat (first | refine zG ?_ _ | refine zH ?_)); refine blk_put (cs := #[.int .i64 ((rd_T109 l0_4 x30_2).f0), .int .i64 0, .int .i64 0]) ?_ 1 _ rfl; (with_reducible repeat (first | refine zG ?_ _ | refine zH ?_)); refine blk_put (cs := #[.int .i64 0, .int .i64 0, .int .i64 0]) ?_ 0 _ rfl; (with_reducible repeat (first | refine zG ?_ _ | refine zH ?_)); exact BK203.out) hb); replace HB := zA (below_step (by repeat (first | (with_reducible first | exact HB.out | apply zB | apply zN | apply below_drew1 | refine zE ?_ GE201.out | refine zE ?_ GE203.out) | exact HB.out)) hb); (try clear hb); (try clear hb2); (try clear hk); (try clear hi)))
          go_roundg k2
          case measure => have := HJ1.out; have := HK2.out; omega
          case rel => exact ⟨(wrap64 (x30_2 + 1)), (by first | rfl | (simp; done) | (simp [*]; done)), H', ⟨by have := HJ1.out; have := HK2.out; omega⟩, ⟨by (with_reducible repeat (first | refine zG ?_ _ | refine zH ?_)); exact BK201.out⟩, ⟨by repeat (first | (with_reducible first | exact HB.out | apply zB | apply zN | apply below_drew1 | refine zE ?_ GE201.out | refine zE ?_ GE203.out) | exact HB.out)⟩⟩
         ·replace c17 := Bool.eq_false_iff.mpr c17
          subst c17
          have H1 : (some false) = some r := by rw [if_neg (show ¬ (false = true) by decide)] at H; exact H
          clear H
          have H := H1
          clear H1
          obtain rfl := zJ H
          have p202 : 0 ≤ (x30_2 : Int) := zO (by first | (with_reducible assumption) | assumption)
          have q202 : x30_2 < (l0_4.length : Int) := zO (by first | (with_reducible assumption) | assumption)
          obtain ⟨ad202, e202, hx202_0, hx202_1, hx202_2⟩ := at_T109 HR0_4.out x30_2 p202 q202
          cases e202
          replace hx202_0 := (HB.out.cell (zL w _ hx202_0)).trans hx202_0
          replace hx202_1 := (HB.out.cell (zL w _ hx202_1)).trans hx202_1
          replace hx202_2 := (HB.out.cell (zL w _ hx202_2)).trans hx202_2
          replace p202 := eq_true p202
          replace q202 := eq_true q202
          go_wp2_with (first | ((with_reducible refine gate_dst (N := 4) rfl ?_); (try (refine gate_guard (by rfl) ?_; dsimp only)); refine box_event ?hg (N := 4) ?hd (cs := #[.int .i64 0, .int .i64 0, .int .i64 0]) (t := 109) ?hr ?_; (case hd => rfl); (case hg => rfl); (case hr => first | (go_simp; done) | (go_simp; rfl)); intro gb203 hg w22 hbox hb; have BK203 := zA (hbox); have GW203 := zA ((by rw [hg]; exact (below_size (by repeat (first | (with_reducible first | exact HB.out | apply zB | apply zN | apply below_drew1 | refine zE ?_ GE201.out) | exact HB.out))) : w.heap.size ≤ gb203)); have GE203 := GW203; replace HB := zA (below_step (by repeat (first | (with_reducible first | exact HB.out | apply zB | apply zN | apply below_drew1 | refine zE ?_ GE201.out) | exact HB.out)) hb); have NB201_203 := zA ((by rw [hg]; exact Nat.ne_of_lt (blk_lt (g := gb201) (o := .cells #[.string a0_0, .slice A0_1 l0_1.length c0_1, .int .i64 a0_2, .slice A0_3 l0_3.length c0_3, .slice (some ad202) l0_4.length c0_4] 48 (0, 0)) (by (with_reducible repeat (first | refine zG ?_ _ | refine zH ?_)); exact BK201.out)) : gb201 ≠ gb203)); have NB203_201 := zA ((by rw [hg]; exact Nat.ne_of_gt (blk_lt (g := gb201) (o := .cells #[.string a0_0, .slice A0_1 l0_1.length c0_1, .int .i64 a0_2, .slice A0_3 l0_3.length c0_3, .slice (some ad202) l0_4.length c0_4] 48 (0, 0)) (by (with_reducible repeat (first | refine zG ?_ _ | refine zH ?_)); exact BK201.out)) : gb203 ≠ gb201)); replace BK201 := zA (zQ (g := gb201) (o := .cells #[.string a0_0, .slice A0_1 l0_1.length c0_1, .int .i64 a0_2, .slice A0_3 l0_3.length c0_3, .slice (some ad202) l0_4.length c0_4] 48 (0, 0)) (by (with_reducible repeat (first | refine zG ?_ _ | refine zH ?_)); exact BK201.out) hb); clear hb hbox hg; have hnb23 := NB203_201.out; have hnc23 := NB201_203.out; have hcz24_0 : w22.cell? ⟨gb203, 0, none⟩ = some (.int .i64 0) := (zC BK203.out 0).trans rfl; have hcz24_1 : w22.cell? ⟨gb203, 1, none⟩ = some (.int .i64 0) := (zC BK203.out 1).trans rfl; have hcz24_2 : w22.cell? ⟨gb203, 2, none⟩ = some (.int .i64 0) := (zC BK203.out 2).trans rfl; have hfz24_0 := zF BK203.out 0; have hfz24_1 := zF BK203.out 1; have hfz24_2 := zF BK203.out 2) | ((with_reducible refine gate_callee (f := 105) rfl ?_); refine goesL_ (some 35) rfl rfl Tryd.func105 (by kernel_rfl) rfl #[.agg #[.int .i64 ((rd_T109 l0_4 x30_2).f0), .int .i64 ((rd_T109 l0_4 x30_2).f1), .int .i64 ((rd_T109 l0_4 x30_2).f2)]] rfl (by (try simp only [zm, zc, zn]); first | done | rfl | (simp only [zd, zt]; rfl)) ?_; (with_reducible refine (op_Right.calls ((rd_T109 l0_4 x30_2).f0) ((rd_T109 l0_4 x30_2).f1) ((rd_T109 l0_4 x30_2).f2) false _ A16.out (LaidOps.below HL_.out (by repeat (first | (with_reducible first | exact HB.out | apply zB | apply zN | apply below_drew1 | refine zE ?_ GE201.out | refine zE ?_ GE203.out) | exact HB.out)))).mono ?_); rintro e w25 ⟨rfl, hb⟩; refine ⟨_, rfl, ?_⟩; replace BK201 := zA (zQ (g := gb201) (o := .cells #[.string a0_0, .slice A0_1 l0_1.length c0_1, .int .i64 a0_2, .slice A0_3 l0_3.length c0_3, .slice (some ad202) l0_4.length c0_4] 48 (0, 0)) (by (with_reducible repeat (first | refine zG ?_ _ | refine zH ?_)); refine blk_far ?_ NB201_203.out _; (with_reducible repeat (first | refine zG ?_ _ | refine zH ?_)); refine blk_far ?_ NB201_203.out _; (with_reducible repeat (first | refine zG ?_ _ | refine zH ?_)); refine blk_far ?_ NB201_203.out _; (with_reducible repeat (first | refine zG ?_ _ | refine zH ?_)); exact BK201.out) hb); replace BK203 := zA (zQ (g := gb203) (o := .cells #[.int .i64 ((rd_T109 l0_4 x30_2).f0), .int .i64 ((rd_T109 l0_4 x30_2).f1), .int .i64 ((rd_T109 l0_4 x30_2).f2)] 109 (0, 0)) (by (with_reducible repeat (first | refine zG ?_ _ | refine zH ?_)); refine blk_put (cs := #[.int .i64 ((rd_T109 l0_4 x30_2).f0), .int .i64 ((rd_T109 l0_4 x30_2).f1), .int .i64 0]) ?_ 2 _ rfl; (with_reducible repeat (first | refine zG ?_ _ | refine zH ?_)); refine blk_put (cs := #[.int .i64 ((rd_T109 l0_4 x30_2).f0), .int .i64 0, .int .i64 0]) ?_ 1 _ rfl; (with_reducible repeat (first | refine zG ?_ _ | refine zH ?_)); refine blk_put (cs := #[.int .i64 0, .int .i64 0, .int .i64 0]) ?_ 0 _ rfl; (with_reducible repeat (first | refine zG ?_ _ | refine zH ?_)); exact BK203.out) hb); replace HB := zA (below_step (by repeat (first | (with_reducible first | exact HB.out | apply zB | apply zN | apply below_drew1 | refine zE ?_ GE201.out | refine zE ?_ GE203.out) | exact HB.out)) hb); (try clear hb); (try clear hb2); (try clear hk); (try clear hi)))
          go_ret
          exact ⟨by first | rfl | (simp [errW_none, errW_some] <;> rfl) | (simp [*, errW_none, errW_some] <;> rfl), by repeat (first | (with_reducible first | exact HB.out | apply zB | apply zN | apply below_drew1 | refine zE ?_ GE201.out | refine zE ?_ GE203.out) | exact HB.out)⟩
        ·rw [if_neg c15] at H
         exact absurd H (by simp)
       ·rw [if_neg c14] at H
        exact absurd H (by simp)
      ·rw [if_neg c13] at H
       have c13b0 : decide (x30_2 < (l0_4.length : Int)) = false := decide_eq_false c13
       clear c13
       replace H := Option.bind_eq_some_iff.mp H
       obtain ⟨t205, A260, H⟩ := H
       replace H : (if t205 = true then ((unit_bytes.f k2 l0_3).bind fun t206 => (if t206 = true then ((unit_bytes.f k2 (([a0_2] : List Int))).bind fun t210 => (some t210)) else (some false))) else (some false)) = some r := H
       have A26 := zA A260
       clear A260
       by_cases c27 : t205 = true
       ·subst c27
        have H1 : ((unit_bytes.f k2 l0_3).bind fun t206 => (if t206 = true then ((unit_bytes.f k2 (([a0_2] : List Int))).bind fun t210 => (some t210)) else (some false))) = some r := by rw [if_pos rfl] at H; exact H
        clear H
        have H := H1
        clear H1
        replace H := Option.bind_eq_some_iff.mp H
        obtain ⟨t206, A280, H⟩ := H
        replace H : (if t206 = true then ((unit_bytes.f k2 (([a0_2] : List Int))).bind fun t210 => (some t210)) else (some false)) = some r := H
        have A28 := zA A280
        clear A280
        by_cases c29 : t206 = true
        ·subst c29
         have H1 : ((unit_bytes.f k2 (([a0_2] : List Int))).bind fun t210 => (some t210)) = some r := by rw [if_pos rfl] at H; exact H
         clear H
         have H := H1
         clear H1
         obtain ⟨y207, hy207⟩ : ∃ y_ : List Int, y_ = (([a0_2] : List Int)) := ⟨_, rfl⟩
         replace H : ((unit_bytes.f k2 y207).bind fun t210 => (some t210)) = some r := by first | (rw [hy207]; with_reducible exact H) | (have H2_ := (zP _ _).symm.trans H; rw [hy207]; with_reducible exact H2_) | (have H2_ := (zP _ _).symm.trans H; with_reducible exact H2_) | with_reducible exact H | (rw [hy207]; exact H) | exact H
         have Ny207 := zA hy207
         clear hy207
         replace H := Option.bind_eq_some_iff.mp H
         obtain ⟨t210, A300, H⟩ := H
         replace H : (some t210) = some r := H
         have A30 := zA A300
         clear A300
         obtain rfl := zJ H
         have hcz31_0 : wr.cell? ⟨gb201, 0, none⟩ = some (.string a0_0) := (zC BK201.out 0).trans rfl
         have hcz31_1 : wr.cell? ⟨gb201, 1, none⟩ = some (.slice A0_1 l0_1.length c0_1) := (zC BK201.out 1).trans rfl
         have hcz31_2 : wr.cell? ⟨gb201, 2, none⟩ = some (.int .i64 a0_2) := (zC BK201.out 2).trans rfl
         have hcz31_3 : wr.cell? ⟨gb201, 3, none⟩ = some (.slice A0_3 l0_3.length c0_3) := (zC BK201.out 3).trans rfl
         have hcz31_4 : wr.cell? ⟨gb201, 4, none⟩ = some (.slice A0_4 l0_4.length c0_4) := (zC BK201.out 4).trans rfl
         have hfz31_0 := zF BK201.out 0
         have hfz31_1 := zF BK201.out 1
         have hfz31_2 := zF BK201.out 2
         have hfz31_3 := zF BK201.out 3
         have hfz31_4 := zF BK201.out 4
         go_wp2_with (first | ((with_reducible refine gate_callee (f := 106) rfl ?_); refine goesL_ (some 40) rfl rfl Tryd.func106 (by kernel_rfl) rfl #[.slice A0_1 l0_1.length c0_1] rfl (by (try simp only [zm, zc, zn]); first | done | rfl | (simp only [zd, zt]; rfl)) ?_; (with_reducible refine (unit_bytes.calls k2 _ _ l0_1 true _ ?side1 ?side2 A26.out).mono ?_); (case side1 => repeat (first | exact (zD HR0_1.out HB.out))); (case side2 => exact HC0_1.out); rintro e w' ⟨rfl, ⟨nd, rfl⟩⟩; refine ⟨_, rfl, ?_⟩) | (go_at_call 106; (with_reducible refine (unit_bytes.calls k2 _ _ l0_3 true _ ?side1 ?side2 A28.out).mono ?_); (case side1 => repeat (first | exact (zD HR0_3.out (by repeat (first | (with_reducible first | exact HB.out | apply zB | apply zN | apply below_drew1 | refine zE ?_ GE201.out) | exact HB.out))))); (case side2 => exact HC0_3.out); rintro e w' ⟨rfl, ⟨nd, rfl⟩⟩) | ((with_reducible refine gate_dst (N := 49) rfl ?_); (try (refine gate_guard (by rfl) ?_; dsimp only)); refine Kd.R_lit (Kd.int .i64) _ 3 ?hg (N := 49) ?hd (xs := ([a0_2] : List Int)) (inner := [.int .i64 a0_2]) (ok := fun _ => True) (okp := fun _ => True) ?hr ?hp (fun _ hk => hk) trivial (zX _ _) (z5 _) (by simp) ?_; (case hd => rfl); (case hg => rfl); (case hr => first | (go_simp; done) | (go_simp; rfl)); (case hp => exact (Reps.one (show Kd.M (Kd.int .i64) _ _ _ a0_2 [.int .i64 a0_2] from rfl) (Reps.none _ _))); intro v208 w32 ho33 hb hg_ hnew_; clear hg_ hnew_; (first | rw [← Ny207.out] at ho33 | (simp only [Int.reduceToNat] at ho33; rw [← Ny207.out] at ho33)); have HO209 := zA (Kd.R_lower ho33 (below_size (by repeat (first | (with_reducible first | exact HB.out | apply zB | apply zN | apply below_drew1 | refine zE ?_ GE201.out) | exact HB.out)))); replace BK201 := zA (zQ (g := gb201) (o := .cells #[.string a0_0, .slice A0_1 l0_1.length c0_1, .int .i64 a0_2, .slice A0_3 l0_3.length c0_3, .slice A0_4 l0_4.length c0_4] 48 (0, 0)) (by (with_reducible repeat (first | refine zG ?_ _ | refine zH ?_)); exact BK201.out) hb); replace HB := zA (below_step (by repeat (first | (with_reducible first | exact HB.out | apply zB | apply zN | apply below_drew1 | refine zE ?_ GE201.out) | exact HB.out)) hb); clear hb ho33; obtain ⟨Ao34, co34, eo34⟩ := Kd.R_slice HO209.out; subst eo34) | (go_at_call 106; (with_reducible refine (unit_bytes.calls k2 _ _ y207 t210 _ ?side1 ?side2 A30.out).mono ?_); (case side1 => repeat (first | exact (Kd.R_reads' HO209.out).2.2)); (case side2 => exact (Kd.R_reads' HO209.out).2.1); rintro e w' ⟨rfl, ⟨nd, rfl⟩⟩))
         go_ret
         exact ⟨by first | rfl | (simp [errW_none, errW_some] <;> rfl) | (simp [*, errW_none, errW_some] <;> rfl), by repeat (first | (with_reducible first | exact HB.out | apply zB | apply zN | apply below_drew1 | refine zE ?_ GE201.out) | exact HB.out)⟩
        ·replace c29 := Bool.eq_false_iff.mpr c29
         subst c29
         have H1 : (some false) = some r := by rw [if_neg (show ¬ (false = true) by decide)] at H; exact H
         clear H
         have H := H1
         clear H1
         obtain rfl := zJ H
         have hcz35_0 : wr.cell? ⟨gb201, 0, none⟩ = some (.string a0_0) := (zC BK201.out 0).trans rfl
         have hcz35_1 : wr.cell? ⟨gb201, 1, none⟩ = some (.slice A0_1 l0_1.length c0_1) := (zC BK201.out 1).trans rfl
         have hcz35_2 : wr.cell? ⟨gb201, 2, none⟩ = some (.int .i64 a0_2) := (zC BK201.out 2).trans rfl
         have hcz35_3 : wr.cell? ⟨gb201, 3, none⟩ = some (.slice A0_3 l0_3.length c0_3) := (zC BK201.out 3).trans rfl
         have hcz35_4 : wr.cell? ⟨gb201, 4, none⟩ = some (.slice A0_4 l0_4.length c0_4) := (zC BK201.out 4).trans rfl
         have hfz35_0 := zF BK201.out 0
         have hfz35_1 := zF BK201.out 1
         have hfz35_2 := zF BK201.out 2
         have hfz35_3 := zF BK201.out 3
         have hfz35_4 := zF BK201.out 4
         go_wp2_with (first | ((with_reducible refine gate_callee (f := 106) rfl ?_); refine goesL_ (some 40) rfl rfl Tryd.func106 (by kernel_rfl) rfl #[.slice A0_1 l0_1.length c0_1] rfl (by (try simp only [zm, zc, zn]); first | done | rfl | (simp only [zd, zt]; rfl)) ?_; (with_reducible refine (unit_bytes.calls k2 _ _ l0_1 true _ ?side1 ?side2 A26.out).mono ?_); (case side1 => repeat (first | exact (zD HR0_1.out HB.out))); (case side2 => exact HC0_1.out); rintro e w' ⟨rfl, ⟨nd, rfl⟩⟩; refine ⟨_, rfl, ?_⟩) | (go_at_call 106; (with_reducible refine (unit_bytes.calls k2 _ _ l0_3 false _ ?side1 ?side2 A28.out).mono ?_); (case side1 => repeat (first | exact (zD HR0_3.out (by repeat (first | (with_reducible first | exact HB.out | apply zB | apply zN | apply below_drew1 | refine zE ?_ GE201.out) | exact HB.out))))); (case side2 => exact HC0_3.out); rintro e w' ⟨rfl, ⟨nd, rfl⟩⟩))
         go_ret
         exact ⟨by first | rfl | (simp [errW_none, errW_some] <;> rfl) | (simp [*, errW_none, errW_some] <;> rfl), by repeat (first | (with_reducible first | exact HB.out | apply zB | apply zN | apply below_drew1 | refine zE ?_ GE201.out) | exact HB.out)⟩
       ·replace c27 := Bool.eq_false_iff.mpr c27
        subst c27
        have H1 : (some false) = some r := by rw [if_neg (show ¬ (false = true) by decide)] at H; exact H
        clear H
        have H := H1
        clear H1
        obtain rfl := zJ H
        have hcz36_0 : wr.cell? ⟨gb201, 0, none⟩ = some (.string a0_0) := (zC BK201.out 0).trans rfl
        have hcz36_1 : wr.cell? ⟨gb201, 1, none⟩ = some (.slice A0_1 l0_1.length c0_1) := (zC BK201.out 1).trans rfl
        have hcz36_2 : wr.cell? ⟨gb201, 2, none⟩ = some (.int .i64 a0_2) := (zC BK201.out 2).trans rfl
        have hcz36_3 : wr.cell? ⟨gb201, 3, none⟩ = some (.slice A0_3 l0_3.length c0_3) := (zC BK201.out 3).trans rfl
        have hcz36_4 : wr.cell? ⟨gb201, 4, none⟩ = some (.slice A0_4 l0_4.length c0_4) := (zC BK201.out 4).trans rfl
        have hfz36_0 := zF BK201.out 0
        have hfz36_1 := zF BK201.out 1
        have hfz36_2 := zF BK201.out 2
        have hfz36_3 := zF BK201.out 3
        have hfz36_4 := zF BK201.out 4
        go_wp2_with (first | ((with_reducible refine gate_callee (f := 106) rfl ?_); refine goesL_ (some 40) rfl rfl Tryd.func106 (by kernel_rfl) rfl #[.slice A0_1 l0_1.length c0_1] rfl (by (try simp only [zm, zc, zn]); first | done | rfl | (simp only [zd, zt]; rfl)) ?_; (with_reducible refine (unit_bytes.calls k2 _ _ l0_1 false _ ?side1 ?side2 A26.out).mono ?_); (case side1 => repeat (first | exact (zD HR0_1.out HB.out))); (case side2 => exact HC0_1.out); rintro e w' ⟨rfl, ⟨nd, rfl⟩⟩; refine ⟨_, rfl, ?_⟩))
        go_ret
        exact ⟨by first | rfl | (simp [errW_none, errW_some] <;> rfl) | (simp [*, errW_none, errW_some] <;> rfl), by repeat (first | (with_reducible first | exact HB.out | apply zB | apply zN | apply below_drew1 | refine zE ?_ GE201.out) | exact HB.out)⟩

/-! ### unit_list: function 83 -/
def unit_list.l0 : Nat → List Int → List Int → Int → Int → Option (List Int)
 | 0, _, _, _, _ => none
 | k + 1, x0, x14, x15, x16 => if x16 < x15 then (if 0 ≤ x16 then (if x16 < (x14.length : Int) then (if x0.length < 140737488355328 then (unit_list.l0 k (x0 ++ [(rd x14 x16) % 256]) x14 x15 (wrap64 (x16 + 1))) else (none)) else (none)) else (none)) else (some x0)
def unit_list.f (k : Nat) (l0 : List Int) (a1 : Int) (l2 : List Int) : Option (List Int) := (octet_Put.f l0 a1 (l2.length : Int)).bind fun t211 => (unit_list.l0 k t211 l2 (l2.length : Int) 0)
theorem unit_list.mono_l : ∀ k, (∀ y0 y1 y2 y3, LeO (unit_list.l0 k y0 y1 y2 y3) (unit_list.l0 (k + 1) y0 y1 y2 y3))
 | 0 => fun _ _ _ _ r h => by simp [unit_list.l0] at h
 | k + 1 => by
  have ih0 := unit_list.mono_l k
  ·intro y0 y1 y2 y3
   unfold unit_list.l0
   repeat' first
   | (with_reducible exact ih0 _ _ _ _)
   | (with_reducible exact LeO.refl _)
   | (with_reducible exact LeO.none _)
   | (with_reducible refine LeO.ite ?_ ?_)
   | (with_reducible refine LeO.bind ?_ (fun _ => ?_))
   | exact ih0 _ _ _ _
   | exact LeO.none _
   | refine LeO.ite ?_ ?_
   | refine LeO.bind ?_ (fun _ => ?_)
theorem unit_list.mono : ∀ a0 a1 a2 k, LeO (unit_list.f k a0 a1 a2) (unit_list.f (k + 1) a0 a1 a2) := by
 intro a0 a1 a2 k
 have ih0 := unit_list.mono_l k
 unfold unit_list.f
 repeat' first
   | (with_reducible exact ih0 _ _ _ _)
   | (with_reducible exact LeO.refl _)
   | (with_reducible exact LeO.none _)
   | (with_reducible refine LeO.ite ?_ ?_)
   | (with_reducible refine LeO.bind ?_ (fun _ => ?_))
   | exact ih0 _ _ _ _
   | exact LeO.none _
   | refine LeO.ite ?_ ?_
   | refine LeO.bind ?_ (fun _ => ?_)
set_option maxHeartbeats 8000000 in
set_option maxRecDepth 100000 in
theorem unit_list.calls (k : Nat) (A0 : Option Addr) (c0 : Nat) (l0 : List Int) (a1 : Int) (A2 : Option Addr) (c2 : Nat) (l2 : List Int) (r : List Int) (w : World) (hr0 : Kd.C (Kd.int .u8) w A0 l0.length l0) (hc0 : l0.length ≤ c0) (hr2 : Kd.C (Kd.int .i64) w A2 l2.length l2) (hc2 : l2.length ≤ c2) (h : unit_list.f k l0 a1 l2 = some r) :
  Calls Tryd.prog 83 #[.slice A0 l0.length c0, .int .i64 a1, .slice A2 l2.length c2] w fun e w' => ∃ v0_ : Value, e = .returned (v0_) ∧ Kd.R (Kd.int .u8) 5 w' w.heap.size (fun _ => True) v0_ r ∧ Below w.heap.size w w' := by
 have HR0 := zA hr0
 have HC0 := zA hc0
 clear hr0 hc0
 have HR2 := zA hr2
 have HC2 := zA hc2
 clear hr2 hc2
 have HB := zA (zX w.heap.size w)
 have H : ((octet_Put.f l0 a1 (l2.length : Int)).bind fun t211 => (unit_list.l0 k t211 l2 (l2.length : Int) 0)) = some r := h
 clear h
 replace H := Option.bind_eq_some_iff.mp H
 obtain ⟨t211, A40, H⟩ := H
 replace H : (unit_list.l0 k t211 l2 (l2.length : Int) 0) = some r := H
 have A4 := zA A40
 clear A40
 have H' := zA H
 clear H
 go_enter Tryd.func83, Tryd.ntmps83
 go_wp2_with (first | ((with_reducible refine gate_callee (f := 22) rfl ?_); refine goesL_ (some 13) rfl rfl Tryd.func22 (by kernel_rfl) rfl #[.slice A0 l0.length c0, .int .i64 a1, .int .i64 (l2.length : Int)] rfl (by (try simp only [zm, zc, zn]); first | done | rfl | (simp only [zd, zt]; rfl)) ?_; (with_reducible refine (octet_Put.calls _ _ l0 a1 (l2.length : Int) t211 _ ?side1 ?side2 A4.out).mono ?_); (case side1 => repeat (first | exact HR0.out)); (case side2 => exact HC0.out); rintro e w5 ⟨v212, rfl, ho0, hb⟩; refine ⟨_, rfl, ?_⟩; have HO213 := zA (Kd.R_lower ho0 (below_size (by repeat (first | (with_reducible first | exact HB.out | apply zB | apply zN | apply below_drew1) | exact HB.out)))); replace HB := zA (below_step (by repeat (first | (with_reducible first | exact HB.out | apply zB | apply zN | apply below_drew1) | exact HB.out)) hb); (try clear hb); (try clear hb2); (try clear hk); (try clear hi); (try clear ho0)))
 go_loopg [0, 16] k (fun kq v0 v16 w' => ∃ (x0_1 : List Int) (x16_1 : Int), v16 = .int .i64 x16_1 ∧ Aside0 (unit_list.l0 kq x0_1 l2 (l2.length : Int) x16_1 = some r) ∧ Aside0 (kq ≤ k) ∧ Aside0 (Kd.R (Kd.int .u8) 5 w' w.heap.size (fun _ => True) v0 x0_1) ∧ Aside0 (Below w.heap.size w w'))
 case atStart => exact ⟨(t211), (0), (by first | rfl | (simp; done) | (simp [*]; done)), H', ⟨z5 _⟩, ⟨by (with_reducible repeat (first | apply zR | apply zS | apply zT)); exact HO213.out⟩, ⟨by repeat (first | (with_reducible first | exact HB.out | apply zB | apply zN | apply below_drew1) | exact HB.out)⟩⟩
 case round =>
  clear H'
  try clear c2
  try clear p2
  obtain ⟨x0_1, x16_1, rfl, HA, HK1, HO_0, HB⟩ := hrel
  cases gk with
  | zero => exact absurd HA.out (by simp [unit_list.l0])
  | succ k1 =>
   have H := HA.out
   clear HA
   simp only [unit_list.l0] at H
   by_cases c6 : x16_1 < (l2.length : Int)
   ·rw [if_pos c6] at H
    have c6b0 : decide (x16_1 < (l2.length : Int)) = true := decide_eq_true c6
    clear c6
    by_cases c7 : 0 ≤ x16_1
    ·rw [if_pos c7] at H
     have c7b0 : decide (0 ≤ x16_1) = true := decide_eq_true c7
     clear c7
     by_cases c8 : x16_1 < (l2.length : Int)
     ·rw [if_pos c8] at H
      have c8b0 : decide (x16_1 < (l2.length : Int)) = true := decide_eq_true c8
      clear c8
      by_cases c9 : x0_1.length < 140737488355328
      ·rw [if_pos c9] at H
       have LMc9 := zA c9
       clear c9
       obtain ⟨y215, hy215⟩ : ∃ y_ : List Int, y_ = (x0_1 ++ [(rd l2 x16_1) % 256]) := ⟨_, rfl⟩
       replace H : (unit_list.l0 k1 y215 l2 (l2.length : Int) (wrap64 (x16_1 + 1))) = some r := by first | (rw [hy215]; with_reducible exact H) | (have H2_ := (zP _ _).symm.trans H; rw [hy215]; with_reducible exact H2_) | (have H2_ := (zP _ _).symm.trans H; with_reducible exact H2_) | with_reducible exact H | (rw [hy215]; exact H) | exact H
       have Ny215 := zA hy215
       clear hy215
       have H' := zA H
       clear H
       have p214 : 0 ≤ (x16_1 : Int) := zO (by first | (with_reducible assumption) | assumption)
       have q214 : x16_1 < (l2.length : Int) := zO (by first | (with_reducible assumption) | assumption)
       obtain ⟨ad214, e214, hx214_0⟩ := Kd.at_int HR2.out x16_1 p214 q214
       cases e214
       replace hx214_0 := (HB.out.cell (zL w _ hx214_0)).trans hx214_0
       replace p214 := eq_true p214
       replace q214 := eq_true q214
       go_wp2_with (first | ((with_reducible refine gate_builtin (b := .append) (xs := #[.tmp 20, .tmp 23]) rfl ?_); at_builtin; refine Kd.R_append (Kd.int .u8) (w0 := w) w.heap.size rfl (.tmp 20) (.tmp 23) 28 5 (.int .u8 0) 1 rfl Tryd.underlying28 info5 rfl (by decide) (by omega) u0 x0_1 ((rd l2 x16_1) % 256) [.int .u8 ((rd l2 x16_1) % 256)] (fun _ => True) (fun _ => False) rfl rfl ?aP (fun _ hk => hk.elim) ?aF ?aO ?aB ?aS ?aL ?_; (case aP => exact rfl); (case aB => exact (by repeat (first | (with_reducible first | exact HB.out | apply zB | apply zN | apply below_drew1) | exact HB.out))); (case aF => exact (fun _ _ => trivial)); (case aO => exact (by (with_reducible repeat (first | apply zR | apply zS | apply zT)); exact HO_0.out)); (case aS => exact (below_size (by repeat (first | (with_reducible first | exact HB.out | apply zB | apply zN | apply below_drew1) | exact HB.out)))); (case aL => have := LMc9.out; omega); intro v216 w10 ho hb hg hat; rw [← Ny215.out] at ho; replace HB := zA (hb); have HO217 := zA (ho); clear HO_0; clear ho hb hg hat))
       go_roundg k1
       case measure => have := HK1.out; omega
       case rel => exact ⟨(y215), (wrap64 (x16_1 + 1)), (by first | rfl | (simp; done) | (simp [*]; done)), H', ⟨by have := HK1.out; omega⟩, ⟨by (with_reducible repeat (first | apply zR | apply zS | apply zT)); exact HO217.out⟩, ⟨by repeat (first | (with_reducible first | exact HB.out | apply zB | apply zN | apply below_drew1) | exact HB.out)⟩⟩
      ·rw [if_neg c9] at H
       exact absurd H (by simp)
     ·rw [if_neg c8] at H
      exact absurd H (by simp)
    ·rw [if_neg c7] at H
     exact absurd H (by simp)
   ·rw [if_neg c6] at H
    have c6b0 : decide (x16_1 < (l2.length : Int)) = false := decide_eq_false c6
    clear c6
    obtain rfl := zJ H
    go_wp2
    go_ret
    exact ⟨_, by first | rfl | (simp [errW_none, errW_some] <;> rfl) | (simp [*, errW_none, errW_some] <;> rfl), by (with_reducible repeat (first | apply zR | apply zS | apply zT)); exact HO_0.out, by repeat (first | (with_reducible first | exact HB.out | apply zB | apply zN | apply below_drew1) | exact HB.out)⟩

/-! ### code_Encode: function 84 -/
def code_Encode.l0 : Nat → List Int → List (S109) → Int → Int → Option (List Int × Bool)
 | 0, _, _, _, _ => none
 | k + 1, x4, x7, x8, x9 => if x9 < x8 then (if 0 ≤ x9 then (if x9 < (x7.length : Int) then ((op_Right.f ((rd_T109 x7 x9).f0) ((rd_T109 x7 x9).f1) ((rd_T109 x7 x9).f2)).bind fun t220 => (if t220 = true then ((some (([((rd_T109 x7 x9).f0) % 256, ((rd_T109 x7 x9).f1) % 256, (((rd_T109 x7 x9).f1) / 256) % 256, ((rd_T109 x7 x9).f2) % 256, (((rd_T109 x7 x9).f2) / 256) % 256] : List Int) : List Int)).bind fun y221 => (if x4.length + y221.length < 140737488355328 then (code_Encode.l0 k (x4 ++ y221) x7 x8 (wrap64 (x9 + 1))) else (none))) else (some (([] : List Int), false)))) else (none)) else (none)) else (some (x4, true))
def code_Encode.f (k : Nat) (l0 : List (S109)) : Option (List Int × Bool) := code_Encode.l0 k ([] : List Int) l0 (l0.length : Int) 0
theorem code_Encode.mono_l : ∀ k, (∀ y0 y1 y2 y3, LeO (code_Encode.l0 k y0 y1 y2 y3) (code_Encode.l0 (k + 1) y0 y1 y2 y3))
 | 0 => fun _ _ _ _ r h => by simp [code_Encode.l0] at h
 | k + 1 => by
  have ih0 := code_Encode.mono_l k
  ·intro y0 y1 y2 y3
   unfold code_Encode.l0
   repeat' first
   | (with_reducible exact ih0 _ _ _ _)
   | (with_reducible exact LeO.refl _)
   | (with_reducible exact LeO.none _)
   | (with_reducible refine LeO.ite ?_ ?_)
   | (with_reducible refine LeO.bind ?_ (fun _ => ?_))
   | exact ih0 _ _ _ _
   | exact LeO.none _
   | refine LeO.ite ?_ ?_
   | refine LeO.bind ?_ (fun _ => ?_)
theorem code_Encode.mono : ∀ a0 k, LeO (code_Encode.f k a0) (code_Encode.f (k + 1) a0) := by
 intro a0 k
 have ih0 := code_Encode.mono_l k
 unfold code_Encode.f
 repeat' first
   | (with_reducible exact ih0 _ _ _ _)
   | (with_reducible exact LeO.refl _)
   | (with_reducible exact LeO.none _)
   | (with_reducible refine LeO.ite ?_ ?_)
   | (with_reducible refine LeO.bind ?_ (fun _ => ?_))
   | exact ih0 _ _ _ _
   | exact LeO.none _
   | refine LeO.ite ?_ ?_
   | refine LeO.bind ?_ (fun _ => ?_)
set_option maxHeartbeats 8000000 in
set_option maxRecDepth 100000 in
theorem code_Encode.calls (k : Nat) (A0 : Option Addr) (c0 : Nat) (l0 : List (S109)) (r1 : List Int) (r2 : Bool) (w : World) (hr0 : Kd.C k109 w A0 l0.length l0) (hc0 : l0.length ≤ c0) (h : code_Encode.f k l0 = some (r1, r2)) (hL_ : LaidOps w) :
  Calls Tryd.prog 84 #[.slice A0 l0.length c0] w fun e w' => ∃ v0_ : Value, e = .returned (.tuple #[v0_, .bool r2]) ∧ Kd.R (Kd.int .u8) 5 w' w.heap.size (fun _ => True) v0_ r1 ∧ Below w.heap.size w w' := by
 have HL_ := zA hL_
 clear hL_
 have hu109 := Tryd.underlying109
 have HR0 := zA hr0
 have HC0 := zA hc0
 clear hr0 hc0
 have HB := zA (zX w.heap.size w)
 have H : (code_Encode.l0 k ([] : List Int) l0 (l0.length : Int) 0) = some (r1, r2) := h
 clear h
 have H' := zA H
 clear H
 go_enter Tryd.func84, Tryd.ntmps84
 go_wp2
 go_loopg [4, 9] k (fun kq v4 v9 w' => ∃ (x4_1 : List Int) (x9_1 : Int), v9 = .int .i64 x9_1 ∧ Aside0 (code_Encode.l0 kq x4_1 l0 (l0.length : Int) x9_1 = some (r1, r2)) ∧ Aside0 (kq ≤ k) ∧ Aside0 (Kd.R (Kd.int .u8) 5 w' w.heap.size (fun _ => True) v4 x4_1) ∧ Aside0 (Below w.heap.size w w'))
 case atStart => exact ⟨(([] : List Int)), (0), (by first | rfl | (simp; done) | (simp [*]; done)), H', ⟨z5 _⟩, ⟨by first | exact Kd.R_nil _ _ _ _ _ | exact Kd.N_nil _ _ _ _ _ | exact Kd.V_nil _ _ _ _ _ | exact Kd.Q_nil _ _ _ _ _ | exact Kd.S_nil _ _ _ _ _⟩, ⟨by repeat (first | (with_reducible first | exact HB.out | apply zB | apply zN | apply below_drew1) | exact HB.out)⟩⟩
 case round =>
  clear H'
  obtain ⟨x4_1, x9_1, rfl, HA, HK1, HO_4, HB⟩ := hrel
  cases gk with
  | zero => exact absurd HA.out (by simp [code_Encode.l0])
  | succ k1 =>
   have H := HA.out
   clear HA
   simp only [code_Encode.l0] at H
   by_cases c2 : x9_1 < (l0.length : Int)
   ·rw [if_pos c2] at H
    have c2b0 : decide (x9_1 < (l0.length : Int)) = true := decide_eq_true c2
    clear c2
    by_cases c3 : 0 ≤ x9_1
    ·rw [if_pos c3] at H
     have c3b0 : decide (0 ≤ x9_1) = true := decide_eq_true c3
     clear c3
     by_cases c4 : x9_1 < (l0.length : Int)
     ·rw [if_pos c4] at H
      have c4b0 : decide (x9_1 < (l0.length : Int)) = true := decide_eq_true c4
      clear c4
      replace H := Option.bind_eq_some_iff.mp H
      obtain ⟨t220, A50, H⟩ := H
      replace H : (if t220 = true then ((some (([((rd_T109 l0 x9_1).f0) % 256, ((rd_T109 l0 x9_1).f1) % 256, (((rd_T109 l0 x9_1).f1) / 256) % 256, ((rd_T109 l0 x9_1).f2) % 256, (((rd_T109 l0 x9_1).f2) / 256) % 256] : List Int) : List Int)).bind fun y221 => (if x4_1.length + y221.length < 140737488355328 then (code_Encode.l0 k1 (x4_1 ++ y221) l0 (l0.length : Int) (wrap64 (x9_1 + 1))) else (none))) else (some (([] : List Int), false))) = some (r1, r2) := H
      have A5 := zA A50
      clear A50
      by_cases c6 : t220 = true
      ·subst c6
       have H1 : ((some (([((rd_T109 l0 x9_1).f0) % 256, ((rd_T109 l0 x9_1).f1) % 256, (((rd_T109 l0 x9_1).f1) / 256) % 256, ((rd_T109 l0 x9_1).f2) % 256, (((rd_T109 l0 x9_1).f2) / 256) % 256] : List Int) : List Int)).bind fun y221 => (if x4_1.length + y221.length < 140737488355328 then (code_Encode.l0 k1 (x4_1 ++ y221) l0 (l0.length : Int) (wrap64 (x9_1 + 1))) else (none))) = some (r1, r2) := by rw [if_pos rfl] at H; exact H
       clear H
       have H := H1
       clear H1
       obtain ⟨y221, hy221⟩ : ∃ y_ : List Int, y_ = (([((rd_T109 l0 x9_1).f0) % 256, ((rd_T109 l0 x9_1).f1) % 256, (((rd_T109 l0 x9_1).f1) / 256) % 256, ((rd_T109 l0 x9_1).f2) % 256, (((rd_T109 l0 x9_1).f2) / 256) % 256] : List Int)) := ⟨_, rfl⟩
       replace H : (if x4_1.length + y221.length < 140737488355328 then (code_Encode.l0 k1 (x4_1 ++ y221) l0 (l0.length : Int) (wrap64 (x9_1 + 1))) else (none)) = some (r1, r2) := by first | (rw [hy221]; with_reducible exact H) | (have H2_ := (zP _ _).symm.trans H; rw [hy221]; with_reducible exact H2_) | (have H2_ := (zP _ _).symm.trans H; with_reducible exact H2_) | with_reducible exact H | (rw [hy221]; exact H) | exact H
       have Ny221 := zA hy221
       clear hy221
       by_cases c7 : x4_1.length + y221.length < 140737488355328
       ·rw [if_pos c7] at H
        have LMc7 := zA c7
        clear c7
        obtain ⟨y224, hy224⟩ : ∃ y_ : List Int, y_ = (x4_1 ++ y221) := ⟨_, rfl⟩
        replace H : (code_Encode.l0 k1 y224 l0 (l0.length : Int) (wrap64 (x9_1 + 1))) = some (r1, r2) := by first | (rw [hy224]; with_reducible exact H) | (have H2_ := (zP _ _).symm.trans H; rw [hy224]; with_reducible exact H2_) | (have H2_ := (zP _ _).symm.trans H; with_reducible exact H2_) | with_reducible exact H | (rw [hy224]; exact H) | exact H
        have Ny224 := zA hy224
        clear hy224
        have H' := zA H
        clear H
        have p218 : 0 ≤ (x9_1 : Int) := zO (by first | (with_reducible assumption) | assumption)
        have q218 : x9_1 < (l0.length : Int) := zO (by first | (with_reducible assumption) | assumption)
        obtain ⟨ad218, e218, hx218_0, hx218_1, hx218_2⟩ := at_T109 HR0.out x9_1 p218 q218
        cases e218
        replace hx218_0 := (HB.out.cell (zL w _ hx218_0)).trans hx218_0
        replace hx218_1 := (HB.out.cell (zL w _ hx218_1)).trans hx218_1
        replace hx218_2 := (HB.out.cell (zL w _ hx218_2)).trans hx218_2
        replace p218 := eq_true p218
        replace q218 := eq_true q218
        go_wp2_with (first | ((with_reducible refine gate_dst (N := 6) rfl ?_); refine box_event ?hg (N := 6) ?hd (cs := #[.int .i64 0, .int .i64 0, .int .i64 0]) (t := 109) ?hr ?_; (case hd => rfl); (case hg => rfl); (case hr => first | (go_simp; done) | (go_simp; rfl)); intro gb219 hg w8 hbox hb; replace HO_4 := zA (Kd.R_below (by (with_reducible repeat (first | apply zR | apply zS | apply zT)); exact HO_4.out) hb); have BK219 := zA (hbox); have GW219 := zA ((by rw [hg]; exact (below_size (by repeat (first | (with_reducible first | exact HB.out | apply zB | apply zN | apply below_drew1) | exact HB.out))) : w.heap.size ≤ gb219)); have GE219 := GW219; replace HB := zA (below_step (by repeat (first | (with_reducible first | exact HB.out | apply zB | apply zN | apply below_drew1) | exact HB.out)) hb); clear hb hbox hg; have hcz9_0 : w8.cell? ⟨gb219, 0, none⟩ = some (.int .i64 0) := (zC BK219.out 0).trans rfl; have hcz9_1 : w8.cell? ⟨gb219, 1, none⟩ = some (.int .i64 0) := (zC BK219.out 1).trans rfl; have hcz9_2 : w8.cell? ⟨gb219, 2, none⟩ = some (.int .i64 0) := (zC BK219.out 2).trans rfl; have hfz9_0 := zF BK219.out 0; have hfz9_1 := zF BK219.out 1; have hfz9_2 := zF BK219.out 2) | ((with_reducible refine gate_callee (f := 105) rfl ?_); refine goesL_ (some 14) rfl rfl Tryd.func105 (by kernel_rfl) rfl #[.agg #[.int .i64 ((rd_T109 l0 x9_1).f0), .int .i64 ((rd_T109 l0 x9_1).f1), .int .i64 ((rd_T109 l0 x9_1).f2)]] rfl (by (try simp only [zm, zc, zn]); first | done | rfl | (simp only [zd, zt]; rfl)) ?_; (with_reducible refine (op_Right.calls ((rd_T109 l0 x9_1).f0) ((rd_T109 l0 x9_1).f1) ((rd_T109 l0 x9_1).f2) true _ A5.out (LaidOps.below HL_.out (by repeat (first | (with_reducible first | exact HB.out | apply zB | apply zN | apply below_drew1 | refine zE ?_ GE219.out) | exact HB.out)))).mono ?_); rintro e w10 ⟨rfl, hb⟩; refine ⟨_, rfl, ?_⟩; replace HO_4 := zA (Kd.R_below (by (with_reducible repeat (first | apply zR | apply zS | apply zT)); exact (Kd.R_mono (Kd.R_far (p := ⟨gb219, 2, none⟩) (Kd.R_far (p := ⟨gb219, 1, none⟩) (Kd.R_far (p := ⟨gb219, 0, none⟩) (Kd.R_types HO_4.out BK219.out (by decide)) (fun _ hk => hk.2) (.int .i64 ((rd_T109 l0 x9_1).f0))) (fun _ hk => hk.2) (.int .i64 ((rd_T109 l0 x9_1).f1))) (fun _ hk => hk.2) (.int .i64 ((rd_T109 l0 x9_1).f2))) (fun _ h_ => h_.1))) hb); replace BK219 := zA (zQ (g := gb219) (o := .cells #[.int .i64 ((rd_T109 l0 x9_1).f0), .int .i64 ((rd_T109 l0 x9_1).f1), .int .i64 ((rd_T109 l0 x9_1).f2)] 109 (0, 0)) (by (with_reducible repeat (first | refine zG ?_ _ | refine zH ?_)); refine blk_put (cs := #[.int .i64 ((rd_T109 l0 x9_1).f0), .int .i64 ((rd_T109 l0 x9_1).f1), .int .i64 0]) ?_ 2 _ rfl; (with_reducible repeat (first | refine zG ?_ _ | refine zH ?_)); refine blk_put (cs := #[.int .i64 ((rd_T109 l0 x9_1).f0), .int .i64 0, .int .i64 0]) ?_ 1 _ rfl; (with_reducible repeat (first | refine zG ?_ _ | refine zH ?_)); refine blk_put (cs := #[.int .i64 0, .int .i64 0, .int .i64 0]) ?_ 0 _ rfl; (with_reducible repeat (first | refine zG ?_ _ | refine zH ?_)); exact BK219.out) hb); replace HB := zA (below_step (by repeat (first | (with_reducible first | exact HB.out | apply zB | apply zN | apply below_drew1 | refine zE ?_ GE219.out) | exact HB.out)) hb); (try clear hb); (try clear hb2); (try clear hk); (try clear hi); have hcz11_0 : w10.cell? ⟨gb219, 0, none⟩ = some (.int .i64 ((rd_T109 l0 x9_1).f0)) := (zC BK219.out 0).trans rfl; have hcz11_1 : w10.cell? ⟨gb219, 1, none⟩ = some (.int .i64 ((rd_T109 l0 x9_1).f1)) := (zC BK219.out 1).trans rfl; have hcz11_2 : w10.cell? ⟨gb219, 2, none⟩ = some (.int .i64 ((rd_T109 l0 x9_1).f2)) := (zC BK219.out 2).trans rfl; have hfz11_0 := zF BK219.out 0; have hfz11_1 := zF BK219.out 1; have hfz11_2 := zF BK219.out 2) | ((with_reducible refine gate_dst (N := 34) rfl ?_); refine Kd.R_lit (Kd.int .u8) _ 5 ?hg (N := 34) ?hd (xs := ([((rd_T109 l0 x9_1).f0) % 256, ((rd_T109 l0 x9_1).f1) % 256, (((rd_T109 l0 x9_1).f1) / 256) % 256, ((rd_T109 l0 x9_1).f2) % 256, (((rd_T109 l0 x9_1).f2) / 256) % 256] : List Int)) (inner := [.int .u8 (((rd_T109 l0 x9_1).f0) % 256), .int .u8 (((rd_T109 l0 x9_1).f1) % 256), .int .u8 ((((rd_T109 l0 x9_1).f1) / 256) % 256), .int .u8 (((rd_T109 l0 x9_1).f2) % 256), .int .u8 ((((rd_T109 l0 x9_1).f2) / 256) % 256)]) (ok := fun _ => True) (okp := fun _ => True) ?hr ?hp (fun _ hk => hk) trivial (zX _ _) (z5 _) (by simp) ?_; (case hd => rfl); (case hg => rfl); (case hr => first | (go_simp; done) | (go_simp; rfl)); (case hp => exact (Reps.one (show Kd.M (Kd.int .u8) _ _ _ (((rd_T109 l0 x9_1).f0) % 256) [.int .u8 (((rd_T109 l0 x9_1).f0) % 256)] from rfl) (Reps.one (show Kd.M (Kd.int .u8) _ _ _ (((rd_T109 l0 x9_1).f1) % 256) [.int .u8 (((rd_T109 l0 x9_1).f1) % 256)] from rfl) (Reps.one (show Kd.M (Kd.int .u8) _ _ _ ((((rd_T109 l0 x9_1).f1) / 256) % 256) [.int .u8 ((((rd_T109 l0 x9_1).f1) / 256) % 256)] from rfl) (Reps.one (show Kd.M (Kd.int .u8) _ _ _ (((rd_T109 l0 x9_1).f2) % 256) [.int .u8 (((rd_T109 l0 x9_1).f2) % 256)] from rfl) (Reps.one (show Kd.M (Kd.int .u8) _ _ _ ((((rd_T109 l0 x9_1).f2) / 256) % 256) [.int .u8 ((((rd_T109 l0 x9_1).f2) / 256) % 256)] from rfl) (Reps.none _ _))))))); intro v222 w12 ho13 hb hg_ hnew_; clear hg_ hnew_; (first | rw [← Ny221.out] at ho13 | (simp only [Int.reduceToNat] at ho13; rw [← Ny221.out] at ho13)); have HO223 := zA (Kd.R_lower (Kd.R_new' ho13 (Kd.R_lt (by (with_reducible repeat (first | apply zR | apply zS | apply zT)); exact HO_4.out))) (below_size (by repeat (first | (with_reducible first | exact HB.out | apply zB | apply zN | apply below_drew1 | refine zE ?_ GE219.out) | exact HB.out)))); replace HO_4 := zA (Kd.R_elder' (by (with_reducible repeat (first | apply zR | apply zS | apply zT)); exact HO_4.out) (Kd.R_base ho13) hb); replace BK219 := zA (zQ (g := gb219) (o := .cells #[.int .i64 ((rd_T109 l0 x9_1).f0), .int .i64 ((rd_T109 l0 x9_1).f1), .int .i64 ((rd_T109 l0 x9_1).f2)] 109 (0, 0)) (by (with_reducible repeat (first | refine zG ?_ _ | refine zH ?_)); exact BK219.out) hb); replace HB := zA (below_step (by repeat (first | (with_reducible first | exact HB.out | apply zB | apply zN | apply below_drew1 | refine zE ?_ GE219.out) | exact HB.out)) hb); clear hb ho13; obtain ⟨Ao15, co15, eo15⟩ := Kd.R_slice HO223.out; subst eo15) | ((with_reducible refine gate_builtin (b := .append) (xs := #[.tmp 16, .tmp 34]) rfl ?_); at_builtin; refine Kd.R_append_rows (Kd.int .u8) (w0 := w) w.heap.size rfl (.tmp 16) (.tmp 34) 28 5 (.int .u8 0) 1 rfl Tryd.underlying28 info5 rfl (by decide) (by omega) u4 x4_1 y221 _ _ _ (fun k_ => some k_ ≠ (.slice Ao15 y221.length co15 : Value).ownBlock) (fun _ => False) rfl rfl ?aO ?aR (fun _ _ h => h) (fun _ h => h.elim) ?aF ?aB ?aS ?aL ?_; (case aR => repeat (first | exact (Kd.R_reads' HO223.out).2.2)); (case aB => exact (by repeat (first | (with_reducible first | exact HB.out | apply zB | apply zN | apply below_drew1 | refine zE ?_ GE219.out) | exact HB.out))); (case aF => exact (fun k_ hk => Kd.fresh' (Kd.R_lt (by (with_reducible repeat (first | apply zR | apply zS | apply zT)); exact HO223.out)) k_ hk)); (case aO => exact (by (with_reducible repeat (first | apply zR | apply zS | apply zT)); exact Kd.R_mono HO_4.out (fun _ hk => hk.2))); (case aS => exact (below_size (by repeat (first | (with_reducible first | exact HB.out | apply zB | apply zN | apply below_drew1 | refine zE ?_ GE219.out) | exact HB.out)))); (case aL => have := LMc7.out; omega); intro v225 w14 ho hb hg hat; rw [← Ny224.out] at ho; replace BK219 := zA (blk_grown (g := gb219) (o := .cells #[.int .i64 ((rd_T109 l0 x9_1).f0), .int .i64 ((rd_T109 l0 x9_1).f1), .int .i64 ((rd_T109 l0 x9_1).f2)] 109 (0, 0)) (by (with_reducible repeat (first | refine zG ?_ _ | refine zH ?_)); exact BK219.out) hg (Kd.R_ne HO_4.out BK219.out (by decide))); replace HO223 := zA (Kd.R_after (ok := (fun _ => True)) (by (with_reducible repeat (first | apply zR | apply zS | apply zT)); exact HO223.out) hg hat); replace HB := zA (hb); have HO226 := zA (ho); clear HO_4; clear ho hb hg hat))
        go_roundg k1
        case measure => have := HK1.out; omega
        case rel => exact ⟨(y224), (wrap64 (x9_1 + 1)), (by first | rfl | (simp; done) | (simp [*]; done)), H', ⟨by have := HK1.out; omega⟩, ⟨by (with_reducible repeat (first | apply zR | apply zS | apply zT)); exact Kd.R_mono HO226.out (fun _ hk => trivial)⟩, ⟨by repeat (first | (with_reducible first | exact HB.out | apply zB | apply zN | apply below_drew1 | refine zE ?_ GE219.out) | exact HB.out)⟩⟩
       ·rw [if_neg c7] at H
        exact absurd H (by simp)
      ·replace c6 := Bool.eq_false_iff.mpr c6
       subst c6
       have H1 : (some (([] : List Int), false)) = some (r1, r2) := by rw [if_neg (show ¬ (false = true) by decide)] at H; exact H
       clear H
       have H := H1
       clear H1
       simp only [Option.some.injEq, Prod.mk.injEq] at H
       obtain ⟨rfl, rfl⟩ := H
       have p218 : 0 ≤ (x9_1 : Int) := zO (by first | (with_reducible assumption) | assumption)
       have q218 : x9_1 < (l0.length : Int) := zO (by first | (with_reducible assumption) | assumption)
       obtain ⟨ad218, e218, hx218_0, hx218_1, hx218_2⟩ := at_T109 HR0.out x9_1 p218 q218
       cases e218
       replace hx218_0 := (HB.out.cell (zL w _ hx218_0)).trans hx218_0
       replace hx218_1 := (HB.out.cell (zL w _ hx218_1)).trans hx218_1
       replace hx218_2 := (HB.out.cell (zL w _ hx218_2)).trans hx218_2
       replace p218 := eq_true p218
       replace q218 := eq_true q218
       go_wp2_with (first | ((with_reducible refine gate_dst (N := 6) rfl ?_); refine box_event ?hg (N := 6) ?hd (cs := #[.int .i64 0, .int .i64 0, .int .i64 0]) (t := 109) ?hr ?_; (case hd => rfl); (case hg => rfl); (case hr => first | (go_simp; done) | (go_simp; rfl)); intro gb219 hg w16 hbox hb; replace HO_4 := zA (Kd.R_below (by (with_reducible repeat (first | apply zR | apply zS | apply zT)); exact HO_4.out) hb); have BK219 := zA (hbox); have GW219 := zA ((by rw [hg]; exact (below_size (by repeat (first | (with_reducible first | exact HB.out | apply zB | apply zN | apply below_drew1) | exact HB.out))) : w.heap.size ≤ gb219)); have GE219 := GW219; replace HB := zA (below_step (by repeat (first | (with_reducible first | exact HB.out | apply zB | apply zN | apply below_drew1) | exact HB.out)) hb); clear hb hbox hg; have hcz17_0 : w16.cell? ⟨gb219, 0, none⟩ = some (.int .i64 0) := (zC BK219.out 0).trans rfl; have hcz17_1 : w16.cell? ⟨gb219, 1, none⟩ = some (.int .i64 0) := (zC BK219.out 1).trans rfl; have hcz17_2 : w16.cell? ⟨gb219, 2, none⟩ = some (.int .i64 0) := (zC BK219.out 2).trans rfl; have hfz17_0 := zF BK219.out 0; have hfz17_1 := zF BK219.out 1; have hfz17_2 := zF BK219.out 2) | ((with_reducible refine gate_callee (f := 105) rfl ?_); refine goesL_ (some 14) rfl rfl Tryd.func105 (by kernel_rfl) rfl #[.agg #[.int .i64 ((rd_T109 l0 x9_1).f0), .int .i64 ((rd_T109 l0 x9_1).f1), .int .i64 ((rd_T109 l0 x9_1).f2)]] rfl (by (try simp only [zm, zc, zn]); first | done | rfl | (simp only [zd, zt]; rfl)) ?_; (with_reducible refine (op_Right.calls ((rd_T109 l0 x9_1).f0) ((rd_T109 l0 x9_1).f1) ((rd_T109 l0 x9_1).f2) false _ A5.out (LaidOps.below HL_.out (by repeat (first | (with_reducible first | exact HB.out | apply zB | apply zN | apply below_drew1 | refine zE ?_ GE219.out) | exact HB.out)))).mono ?_); rintro e w18 ⟨rfl, hb⟩; refine ⟨_, rfl, ?_⟩; replace HO_4 := zA (Kd.R_below (by (with_reducible repeat (first | apply zR | apply zS | apply zT)); exact (Kd.R_mono (Kd.R_far (p := ⟨gb219, 2, none⟩) (Kd.R_far (p := ⟨gb219, 1, none⟩) (Kd.R_far (p := ⟨gb219, 0, none⟩) (Kd.R_types HO_4.out BK219.out (by decide)) (fun _ hk => hk.2) (.int .i64 ((rd_T109 l0 x9_1).f0))) (fun _ hk => hk.2) (.int .i64 ((rd_T109 l0 x9_1).f1))) (fun _ hk => hk.2) (.int .i64 ((rd_T109 l0 x9_1).f2))) (fun _ h_ => h_.1))) hb); replace BK219 := zA (zQ (g := gb219) (o := .cells #[.int .i64 ((rd_T109 l0 x9_1).f0), .int .i64 ((rd_T109 l0 x9_1).f1), .int .i64 ((rd_T109 l0 x9_1).f2)] 109 (0, 0)) (by (with_reducible repeat (first | refine zG ?_ _ | refine zH ?_)); refine blk_put (cs := #[.int .i64 ((rd_T109 l0 x9_1).f0), .int .i64 ((rd_T109 l0 x9_1).f1), .int .i64 0]) ?_ 2 _ rfl; (with_reducible repeat (first | refine zG ?_ _ | refine zH ?_)); refine blk_put (cs := #[.int .i64 ((rd_T109 l0 x9_1).f0), .int .i64 0, .int .i64 0]) ?_ 1 _ rfl; (with_reducible repeat (first | refine zG ?_ _ | refine zH ?_)); refine blk_put (cs := #[.int .i64 0, .int .i64 0, .int .i64 0]) ?_ 0 _ rfl; (with_reducible repeat (first | refine zG ?_ _ | refine zH ?_)); exact BK219.out) hb); replace HB := zA (below_step (by repeat (first | (with_reducible first | exact HB.out | apply zB | apply zN | apply below_drew1 | refine zE ?_ GE219.out) | exact HB.out)) hb); (try clear hb); (try clear hb2); (try clear hk); (try clear hi)))
       go_ret2
       exact ⟨_, by first | rfl | (simp [errW_none, errW_some] <;> rfl) | (simp [*, errW_none, errW_some] <;> rfl), by first | exact Kd.R_nil _ _ _ _ _ | exact Kd.N_nil _ _ _ _ _ | exact Kd.V_nil _ _ _ _ _ | exact Kd.Q_nil _ _ _ _ _ | exact Kd.S_nil _ _ _ _ _, by repeat (first | (with_reducible first | exact HB.out | apply zB | apply zN | apply below_drew1 | refine zE ?_ GE219.out) | exact HB.out)⟩
     ·rw [if_neg c4] at H
      exact absurd H (by simp)
    ·rw [if_neg c3] at H
     exact absurd H (by simp)
   ·rw [if_neg c2] at H
    have c2b0 : decide (x9_1 < (l0.length : Int)) = false := decide_eq_false c2
    clear c2
    simp only [Option.some.injEq, Prod.mk.injEq] at H
    obtain ⟨rfl, rfl⟩ := H
    go_wp2
    go_ret2
    exact ⟨_, by first | rfl | (simp [errW_none, errW_some] <;> rfl) | (simp [*, errW_none, errW_some] <;> rfl), by (with_reducible repeat (first | apply zR | apply zS | apply zT)); exact HO_4.out, by repeat (first | (with_reducible first | exact HB.out | apply zB | apply zN | apply below_drew1) | exact HB.out)⟩

/-! ### unit_Put: function 56 -/
def unit_Put.f (k : Nat) (a0_0 : ByteArray) (l0_1 : List Int) (a0_2 : Int) (l0_3 : List Int) (l0_4 : List (S109)) : Option (List Int × Bool) := (unit_Fits.f k a0_0 l0_1 a0_2 l0_3 l0_4).bind fun t228 => (if t228 = true then ((octet_Text.f ([] : List Int) a0_0).bind fun t229 => ((unit_list.f k t229 1 l0_1).bind fun t232 => ((octet_Put.f t232 1 a0_2).bind fun t235 => ((unit_list.f k t235 2 l0_3).bind fun t238 => ((octet_Put.f t238 2 (l0_4.length : Int)).bind fun t241 => ((code_Encode.f k l0_4).bind fun bt244 => (if t241.length + bt244.1.length < 140737488355328 then (some ((t241 ++ bt244.1), true)) else (none)))))))) else (some (([] : List Int), false)))
theorem unit_Put.mono : ∀ a0 a1 a2 a3 a4 k, LeO (unit_Put.f k a0 a1 a2 a3 a4) (unit_Put.f (k + 1) a0 a1 a2 a3 a4) := by
 intro a0 a1 a2 a3 a4 k
 unfold unit_Put.f
 repeat' first
   | (with_reducible exact code_Encode.mono _ _)
   | (with_reducible exact unit_Fits.mono _ _ _ _ _ _)
   | (with_reducible exact unit_list.mono _ _ _ _)
   | (with_reducible exact LeO.refl _)
   | (with_reducible exact LeO.none _)
   | (with_reducible refine LeO.ite ?_ ?_)
   | (with_reducible refine LeO.bind ?_ (fun _ => ?_))
   | exact code_Encode.mono _ _
   | exact unit_Fits.mono _ _ _ _ _ _
   | exact unit_list.mono _ _ _ _
   | exact LeO.none _
   | refine LeO.ite ?_ ?_
   | refine LeO.bind ?_ (fun _ => ?_)
set_option maxHeartbeats 8000000 in
set_option maxRecDepth 100000 in
theorem unit_Put.calls (k : Nat) (a0_0 : ByteArray) (A0_1 : Option Addr) (c0_1 : Nat) (l0_1 : List Int) (a0_2 : Int) (A0_3 : Option Addr) (c0_3 : Nat) (l0_3 : List Int) (A0_4 : Option Addr) (c0_4 : Nat) (l0_4 : List (S109)) (r1 : List Int) (r2 : Bool) (w : World) (hr0_1 : Kd.C (Kd.int .i64) w A0_1 l0_1.length l0_1) (hc0_1 : l0_1.length ≤ c0_1) (hr0_3 : Kd.C (Kd.int .i64) w A0_3 l0_3.length l0_3) (hc0_3 : l0_3.length ≤ c0_3) (hr0_4 : Kd.C k109 w A0_4 l0_4.length l0_4) (hc0_4 : l0_4.length ≤ c0_4) (h : unit_Put.f k a0_0 l0_1 a0_2 l0_3 l0_4 = some (r1, r2)) (hL_ : LaidOps w) :
  Calls Tryd.prog 56 #[.agg #[.string a0_0, .slice A0_1 l0_1.length c0_1, .int .i64 a0_2, .slice A0_3 l0_3.length c0_3, .slice A0_4 l0_4.length c0_4]] w fun e w' => ∃ v0_ : Value, e = .returned (.tuple #[v0_, .bool r2]) ∧ Kd.R (Kd.int .u8) 5 w' w.heap.size (fun _ => True) v0_ r1 ∧ Below w.heap.size w w' := by
 have HL_ := zA hL_
 clear hL_
 have hu48 := Tryd.underlying48
 have HR0_1 := zA hr0_1
 have HC0_1 := zA hc0_1
 clear hr0_1 hc0_1
 have HR0_3 := zA hr0_3
 have HC0_3 := zA hc0_3
 clear hr0_3 hc0_3
 have HR0_4 := zA hr0_4
 have HC0_4 := zA hc0_4
 clear hr0_4 hc0_4
 have HB := zA (zX w.heap.size w)
 have H : ((unit_Fits.f k a0_0 l0_1 a0_2 l0_3 l0_4).bind fun t228 => (if t228 = true then ((octet_Text.f ([] : List Int) a0_0).bind fun t229 => ((unit_list.f k t229 1 l0_1).bind fun t232 => ((octet_Put.f t232 1 a0_2).bind fun t235 => ((unit_list.f k t235 2 l0_3).bind fun t238 => ((octet_Put.f t238 2 (l0_4.length : Int)).bind fun t241 => ((code_Encode.f k l0_4).bind fun bt244 => (if t241.length + bt244.1.length < 140737488355328 then (some ((t241 ++ bt244.1), true)) else (none)))))))) else (some (([] : List Int), false)))) = some (r1, r2) := h
 clear h
 replace H := Option.bind_eq_some_iff.mp H
 obtain ⟨t228, A20, H⟩ := H
 replace H : (if t228 = true then ((octet_Text.f ([] : List Int) a0_0).bind fun t229 => ((unit_list.f k t229 1 l0_1).bind fun t232 => ((octet_Put.f t232 1 a0_2).bind fun t235 => ((unit_list.f k t235 2 l0_3).bind fun t238 => ((octet_Put.f t238 2 (l0_4.length : Int)).bind fun t241 => ((code_Encode.f k l0_4).bind fun bt244 => (if t241.length + bt244.1.length < 140737488355328 then (some ((t241 ++ bt244.1), true)) else (none)))))))) else (some (([] : List Int), false))) = some (r1, r2) := H
 have A2 := zA A20
 clear A20
 by_cases c3 : t228 = true
 ·subst c3
  have H1 : ((octet_Text.f ([] : List Int) a0_0).bind fun t229 => ((unit_list.f k t229 1 l0_1).bind fun t232 => ((octet_Put.f t232 1 a0_2).bind fun t235 => ((unit_list.f k t235 2 l0_3).bind fun t238 => ((octet_Put.f t238 2 (l0_4.length : Int)).bind fun t241 => ((code_Encode.f k l0_4).bind fun bt244 => (if t241.length + bt244.1.length < 140737488355328 then (some ((t241 ++ bt244.1), true)) else (none)))))))) = some (r1, r2) := by rw [if_pos rfl] at H; exact H
  clear H
  have H := H1
  clear H1
  replace H := Option.bind_eq_some_iff.mp H
  obtain ⟨t229, A40, H⟩ := H
  replace H : ((unit_list.f k t229 1 l0_1).bind fun t232 => ((octet_Put.f t232 1 a0_2).bind fun t235 => ((unit_list.f k t235 2 l0_3).bind fun t238 => ((octet_Put.f t238 2 (l0_4.length : Int)).bind fun t241 => ((code_Encode.f k l0_4).bind fun bt244 => (if t241.length + bt244.1.length < 140737488355328 then (some ((t241 ++ bt244.1), true)) else (none))))))) = some (r1, r2) := H
  have A4 := zA A40
  clear A40
  replace H := Option.bind_eq_some_iff.mp H
  obtain ⟨t232, A50, H⟩ := H
  replace H : ((octet_Put.f t232 1 a0_2).bind fun t235 => ((unit_list.f k t235 2 l0_3).bind fun t238 => ((octet_Put.f t238 2 (l0_4.length : Int)).bind fun t241 => ((code_Encode.f k l0_4).bind fun bt244 => (if t241.length + bt244.1.length < 140737488355328 then (some ((t241 ++ bt244.1), true)) else (none)))))) = some (r1, r2) := H
  have A5 := zA A50
  clear A50
  replace H := Option.bind_eq_some_iff.mp H
  obtain ⟨t235, A60, H⟩ := H
  replace H : ((unit_list.f k t235 2 l0_3).bind fun t238 => ((octet_Put.f t238 2 (l0_4.length : Int)).bind fun t241 => ((code_Encode.f k l0_4).bind fun bt244 => (if t241.length + bt244.1.length < 140737488355328 then (some ((t241 ++ bt244.1), true)) else (none))))) = some (r1, r2) := H
  have A6 := zA A60
  clear A60
  replace H := Option.bind_eq_some_iff.mp H
  obtain ⟨t238, A70, H⟩ := H
  replace H : ((octet_Put.f t238 2 (l0_4.length : Int)).bind fun t241 => ((code_Encode.f k l0_4).bind fun bt244 => (if t241.length + bt244.1.length < 140737488355328 then (some ((t241 ++ bt244.1), true)) else (none)))) = some (r1, r2) := H
  have A7 := zA A70
  clear A70
  replace H := Option.bind_eq_some_iff.mp H
  obtain ⟨t241, A80, H⟩ := H
  replace H : ((code_Encode.f k l0_4).bind fun bt244 => (if t241.length + bt244.1.length < 140737488355328 then (some ((t241 ++ bt244.1), true)) else (none))) = some (r1, r2) := H
  have A8 := zA A80
  clear A80
  replace H := Option.bind_eq_some_iff.mp H
  obtain ⟨⟨t244, t245⟩, A90, H⟩ := H
  replace H : (if t241.length + t244.length < 140737488355328 then (some ((t241 ++ t244), true)) else (none)) = some (r1, r2) := H
  have A9 := zA A90
  clear A90
  by_cases c10 : t241.length + t244.length < 140737488355328
  ·rw [if_pos c10] at H
   have LMc10 := zA c10
   clear c10
   obtain ⟨y248, hy248⟩ : ∃ y_ : List Int, y_ = (t241 ++ t244) := ⟨_, rfl⟩
   replace H : (some (y248, true)) = some (r1, r2) := by first | (rw [hy248]; with_reducible exact H) | (have H2_ := (zP _ _).symm.trans H; rw [hy248]; with_reducible exact H2_) | (have H2_ := (zP _ _).symm.trans H; with_reducible exact H2_) | with_reducible exact H | (rw [hy248]; exact H) | exact H
   have Ny248 := zA hy248
   clear hy248
   simp only [Option.some.injEq, Prod.mk.injEq] at H
   obtain ⟨rfl, rfl⟩ := H
   go_enter Tryd.func56, Tryd.ntmps56
   go_wp2_with (first | ((with_reducible refine gate_dst (N := 1) rfl ?_); refine box_event ?hg (N := 1) ?hd (cs := #[.string a0_0, .slice A0_1 l0_1.length c0_1, .int .i64 a0_2, .slice A0_3 l0_3.length c0_3, .slice A0_4 l0_4.length c0_4]) (t := 48) ?hr ?_; (case hd => rfl); (case hg => rfl); (case hr => first | (go_simp; done) | (go_simp; rfl)); intro gb227 hg w11 hbox hb; have BK227 := zA (hbox); have GW227 := zA ((by rw [hg]; exact (below_size (by repeat (first | (with_reducible first | exact HB.out | apply zB | apply zN | apply below_drew1) | exact HB.out))) : w.heap.size ≤ gb227)); have GE227 := GW227; replace HB := zA (below_step (by repeat (first | (with_reducible first | exact HB.out | apply zB | apply zN | apply below_drew1) | exact HB.out)) hb); clear hb hbox hg; have hcz12_0 : w11.cell? ⟨gb227, 0, none⟩ = some (.string a0_0) := (zC BK227.out 0).trans rfl; have hcz12_1 : w11.cell? ⟨gb227, 1, none⟩ = some (.slice A0_1 l0_1.length c0_1) := (zC BK227.out 1).trans rfl; have hcz12_2 : w11.cell? ⟨gb227, 2, none⟩ = some (.int .i64 a0_2) := (zC BK227.out 2).trans rfl; have hcz12_3 : w11.cell? ⟨gb227, 3, none⟩ = some (.slice A0_3 l0_3.length c0_3) := (zC BK227.out 3).trans rfl; have hcz12_4 : w11.cell? ⟨gb227, 4, none⟩ = some (.slice A0_4 l0_4.length c0_4) := (zC BK227.out 4).trans rfl; have hfz12_0 := zF BK227.out 0; have hfz12_1 := zF BK227.out 1; have hfz12_2 := zF BK227.out 2; have hfz12_3 := zF BK227.out 3; have hfz12_4 := zF BK227.out 4) | ((with_reducible refine gate_callee (f := 82) rfl ?_); refine goesL_ (some 8) rfl rfl Tryd.func82 (by kernel_rfl) rfl #[.agg #[.string a0_0, .slice A0_1 l0_1.length c0_1, .int .i64 a0_2, .slice A0_3 l0_3.length c0_3, .slice A0_4 l0_4.length c0_4]] rfl (by (try simp only [zm, zc, zn]); first | done | rfl | (simp only [zd, zt]; rfl)) ?_; (with_reducible refine (unit_Fits.calls k a0_0 _ _ l0_1 a0_2 _ _ l0_3 _ _ l0_4 true _ ?side1 ?side2 ?side3 ?side4 ?side5 ?side6 A2.out (LaidOps.below HL_.out (by repeat (first | (with_reducible first | exact HB.out | apply zB | apply zN | apply below_drew1 | refine zE ?_ GE227.out) | exact HB.out)))).mono ?_); (case side1 => repeat (first | exact (zD HR0_1.out HB.out))); (case side2 => exact HC0_1.out); (case side3 => repeat (first | exact (zD HR0_3.out HB.out))); (case side4 => exact HC0_3.out); (case side5 => repeat (first | exact (zD HR0_4.out HB.out))); (case side6 => exact HC0_4.out); rintro e w13 ⟨rfl, hb⟩; refine ⟨_, rfl, ?_⟩; replace BK227 := zA (zQ (g := gb227) (o := .cells #[.string a0_0, .slice A0_1 l0_1.length c0_1, .int .i64 a0_2, .slice A0_3 l0_3.length c0_3, .slice A0_4 l0_4.length c0_4] 48 (0, 0)) (by (with_reducible repeat (first | refine zG ?_ _ | refine zH ?_)); exact BK227.out) hb); replace HB := zA (below_step (by repeat (first | (with_reducible first | exact HB.out | apply zB | apply zN | apply below_drew1 | refine zE ?_ GE227.out) | exact HB.out)) hb); (try clear hb); (try clear hb2); (try clear hk); (try clear hi); have hcz14_0 : w13.cell? ⟨gb227, 0, none⟩ = some (.string a0_0) := (zC BK227.out 0).trans rfl; have hcz14_1 : w13.cell? ⟨gb227, 1, none⟩ = some (.slice A0_1 l0_1.length c0_1) := (zC BK227.out 1).trans rfl; have hcz14_2 : w13.cell? ⟨gb227, 2, none⟩ = some (.int .i64 a0_2) := (zC BK227.out 2).trans rfl; have hcz14_3 : w13.cell? ⟨gb227, 3, none⟩ = some (.slice A0_3 l0_3.length c0_3) := (zC BK227.out 3).trans rfl; have hcz14_4 : w13.cell? ⟨gb227, 4, none⟩ = some (.slice A0_4 l0_4.length c0_4) := (zC BK227.out 4).trans rfl; have hfz14_0 := zF BK227.out 0; have hfz14_1 := zF BK227.out 1; have hfz14_2 := zF BK227.out 2; have hfz14_3 := zF BK227.out 3; have hfz14_4 := zF BK227.out 4) | ((with_reducible refine gate_callee (f := 52) rfl ?_); refine goesL_ (some 12) rfl rfl Tryd.func52 (by kernel_rfl) rfl #[.slice none 0 0, .string a0_0] rfl (by (try simp only [zm, zc, zn]); first | done | rfl | (simp only [zd, zt]; rfl)) ?_; (refine (octet_Text.calls _ _ ([] : List Int) a0_0 t229 _ ?side1 ?side2 A4.out).mono ?_); (case side1 => exact Kd.C_nil _ _); (case side2 => exact z5 _); rintro e w15 ⟨v230, rfl, ho0, hb⟩; refine ⟨_, rfl, ?_⟩; have HO231 := zA (Kd.R_lower ho0 (below_size (by repeat (first | (with_reducible first | exact HB.out | apply zB | apply zN | apply below_drew1 | refine zE ?_ GE227.out) | exact HB.out)))); replace BK227 := zA (zQ (g := gb227) (o := .cells #[.string a0_0, .slice A0_1 l0_1.length c0_1, .int .i64 a0_2, .slice A0_3 l0_3.length c0_3, .slice A0_4 l0_4.length c0_4] 48 (0, 0)) (by (with_reducible repeat (first | refine zG ?_ _ | refine zH ?_)); exact BK227.out) hb); replace HB := zA (below_step (by repeat (first | (with_reducible first | exact HB.out | apply zB | apply zN | apply below_drew1 | refine zE ?_ GE227.out) | exact HB.out)) hb); (try clear hb); (try clear hb2); (try clear hk); (try clear hi); (try clear ho0); have hcz16_0 : w15.cell? ⟨gb227, 0, none⟩ = some (.string a0_0) := (zC BK227.out 0).trans rfl; have hcz16_1 : w15.cell? ⟨gb227, 1, none⟩ = some (.slice A0_1 l0_1.length c0_1) := (zC BK227.out 1).trans rfl; have hcz16_2 : w15.cell? ⟨gb227, 2, none⟩ = some (.int .i64 a0_2) := (zC BK227.out 2).trans rfl; have hcz16_3 : w15.cell? ⟨gb227, 3, none⟩ = some (.slice A0_3 l0_3.length c0_3) := (zC BK227.out 3).trans rfl; have hcz16_4 : w15.cell? ⟨gb227, 4, none⟩ = some (.slice A0_4 l0_4.length c0_4) := (zC BK227.out 4).trans rfl; have hfz16_0 := zF BK227.out 0; have hfz16_1 := zF BK227.out 1; have hfz16_2 := zF BK227.out 2; have hfz16_3 := zF BK227.out 3; have hfz16_4 := zF BK227.out 4; obtain ⟨Ao17, co17, eo17⟩ := Kd.R_slice HO231.out; subst eo17) | ((with_reducible refine gate_callee (f := 83) rfl ?_); refine goesL_ (some 16) rfl rfl Tryd.func83 (by kernel_rfl) rfl #[.slice Ao17 t229.length co17, .int .i64 1, .slice A0_1 l0_1.length c0_1] rfl (by (try simp only [zm, zc, zn]); first | done | rfl | (simp only [zd, zt]; rfl)) ?_; (with_reducible refine (unit_list.calls k _ _ t229 1 _ _ l0_1 t232 _ ?side1 ?side2 ?side3 ?side4 A5.out).mono ?_); (case side1 => repeat (first | exact (Kd.R_reads' HO231.out).2.2)); (case side2 => exact (Kd.R_reads' HO231.out).2.1); (case side3 => repeat (first | exact (zD HR0_1.out HB.out))); (case side4 => exact HC0_1.out); rintro e w18 ⟨v233, rfl, ho0, hb⟩; refine ⟨_, rfl, ?_⟩; have HO234 := zA (Kd.R_lower (Kd.R_new' ho0 (Kd.R_lt (by (with_reducible repeat (first | apply zR | apply zS | apply zT)); exact HO231.out))) (below_size (by repeat (first | (with_reducible first | exact HB.out | apply zB | apply zN | apply below_drew1 | refine zE ?_ GE227.out) | exact HB.out)))); replace HO231 := zA (Kd.R_elder' (by (with_reducible repeat (first | apply zR | apply zS | apply zT)); exact HO231.out) (Kd.R_base ho0) hb); replace BK227 := zA (zQ (g := gb227) (o := .cells #[.string a0_0, .slice A0_1 l0_1.length c0_1, .int .i64 a0_2, .slice A0_3 l0_3.length c0_3, .slice A0_4 l0_4.length c0_4] 48 (0, 0)) (by (with_reducible repeat (first | refine zG ?_ _ | refine zH ?_)); exact BK227.out) hb); replace HB := zA (below_step (by repeat (first | (with_reducible first | exact HB.out | apply zB | apply zN | apply below_drew1 | refine zE ?_ GE227.out) | exact HB.out)) hb); (try clear hb); (try clear hb2); (try clear hk); (try clear hi); (try clear ho0); have hcz19_0 : w18.cell? ⟨gb227, 0, none⟩ = some (.string a0_0) := (zC BK227.out 0).trans rfl; have hcz19_1 : w18.cell? ⟨gb227, 1, none⟩ = some (.slice A0_1 l0_1.length c0_1) := (zC BK227.out 1).trans rfl; have hcz19_2 : w18.cell? ⟨gb227, 2, none⟩ = some (.int .i64 a0_2) := (zC BK227.out 2).trans rfl; have hcz19_3 : w18.cell? ⟨gb227, 3, none⟩ = some (.slice A0_3 l0_3.length c0_3) := (zC BK227.out 3).trans rfl; have hcz19_4 : w18.cell? ⟨gb227, 4, none⟩ = some (.slice A0_4 l0_4.length c0_4) := (zC BK227.out 4).trans rfl; have hfz19_0 := zF BK227.out 0; have hfz19_1 := zF BK227.out 1; have hfz19_2 := zF BK227.out 2; have hfz19_3 := zF BK227.out 3; have hfz19_4 := zF BK227.out 4; obtain ⟨Ao20, co20, eo20⟩ := Kd.R_slice HO234.out; subst eo20) | ((with_reducible refine gate_callee (f := 22) rfl ?_); refine goesL_ (some 20) rfl rfl Tryd.func22 (by kernel_rfl) rfl #[.slice Ao20 t232.length co20, .int .i64 1, .int .i64 a0_2] rfl (by (try simp only [zm, zc, zn]); first | done | rfl | (simp only [zd, zt]; rfl)) ?_; (with_reducible refine (octet_Put.calls _ _ t232 1 a0_2 t235 _ ?side1 ?side2 A6.out).mono ?_); (case side1 => repeat (first | exact (Kd.R_reads' HO234.out).2.2)); (case side2 => exact (Kd.R_reads' HO234.out).2.1); rintro e w21 ⟨v236, rfl, ho0, hb⟩; refine ⟨_, rfl, ?_⟩; have HO237 := zA (Kd.R_lower (Kd.R_new' (Kd.R_new' ho0 (Kd.R_lt (by (with_reducible repeat (first | apply zR | apply zS | apply zT)); exact HO231.out))) (Kd.R_lt (by (with_reducible repeat (first | apply zR | apply zS | apply zT)); exact HO234.out))) (below_size (by repeat (first | (with_reducible first | exact HB.out | apply zB | apply zN | apply below_drew1 | refine zE ?_ GE227.out) | exact HB.out)))); replace HO231 := zA (Kd.R_elder' (by (with_reducible repeat (first | apply zR | apply zS | apply zT)); exact HO231.out) (Kd.R_base ho0) hb); replace HO234 := zA (Kd.R_elder' (by (with_reducible repeat (first | apply zR | apply zS | apply zT)); exact HO234.out) (Kd.R_base ho0) hb); replace BK227 := zA (zQ (g := gb227) (o := .cells #[.string a0_0, .slice A0_1 l0_1.length c0_1, .int .i64 a0_2, .slice A0_3 l0_3.length c0_3, .slice A0_4 l0_4.length c0_4] 48 (0, 0)) (by (with_reducible repeat (first | refine zG ?_ _ | refine zH ?_)); exact BK227.out) hb); replace HB := zA (below_step (by repeat (first | (with_reducible first | exact HB.out | apply zB | apply zN | apply below_drew1 | refine zE ?_ GE227.out) | exact HB.out)) hb); (try clear hb); (try clear hb2); (try clear hk); (try clear hi); (try clear ho0); have hcz22_0 : w21.cell? ⟨gb227, 0, none⟩ = some (.string a0_0) := (zC BK227.out 0).trans rfl; have hcz22_1 : w21.cell? ⟨gb227, 1, none⟩ = some (.slice A0_1 l0_1.length c0_1) := (zC BK227.out 1).trans rfl; have hcz22_2 : w21.cell? ⟨gb227, 2, none⟩ = some (.int .i64 a0_2) := (zC BK227.out 2).trans rfl; have hcz22_3 : w21.cell? ⟨gb227, 3, none⟩ = some (.slice A0_3 l0_3.length c0_3) := (zC BK227.out 3).trans rfl; have hcz22_4 : w21.cell? ⟨gb227, 4, none⟩ = some (.slice A0_4 l0_4.length c0_4) := (zC BK227.out 4).trans rfl; have hfz22_0 := zF BK227.out 0; have hfz22_1 := zF BK227.out 1; have hfz22_2 := zF BK227.out 2; have hfz22_3 := zF BK227.out 3; have hfz22_4 := zF BK227.out 4; obtain ⟨Ao23, co23, eo23⟩ := Kd.R_slice HO237.out; subst eo23) | ((with_reducible refine gate_callee (f := 83) rfl ?_); refine goesL_ (some 24) rfl rfl Tryd.func83 (by kernel_rfl) rfl #[.slice Ao23 t235.length co23, .int .i64 2, .slice A0_3 l0_3.length c0_3] rfl (by (try simp only [zm, zc, zn]); first | done | rfl | (simp only [zd, zt]; rfl)) ?_; (with_reducible refine (unit_list.calls k _ _ t235 2 _ _ l0_3 t238 _ ?side1 ?side2 ?side3 ?side4 A7.out).mono ?_); (case side1 => repeat (first | exact (Kd.R_reads' HO237.out).2.2)); (case side2 => exact (Kd.R_reads' HO237.out).2.1); (case side3 => repeat (first | exact (zD HR0_3.out HB.out))); (case side4 => exact HC0_3.out); rintro e w24 ⟨v239, rfl, ho0, hb⟩; refine ⟨_, rfl, ?_⟩; have HO240 := zA (Kd.R_lower (Kd.R_new' (Kd.R_new' (Kd.R_new' ho0 (Kd.R_lt (by (with_reducible repeat (first | apply zR | apply zS | apply zT)); exact HO231.out))) (Kd.R_lt (by (with_reducible repeat (first | apply zR | apply zS | apply zT)); exact HO234.out))) (Kd.R_lt (by (with_reducible repeat (first | apply zR | apply zS | apply zT)); exact HO237.out))) (below_size (by repeat (first | (with_reducible first | exact HB.out | apply zB | apply zN | apply below_drew1 | refine zE ?_ GE227.out) | exact HB.out)))); replace HO231 := zA (Kd.R_elder' (by (with_reducible repeat (first | apply zR | apply zS | apply zT)); exact HO231.out) (Kd.R_base ho0) hb); replace HO234 := zA (Kd.R_elder' (by (with_reducible repeat (first | apply zR | apply zS | apply zT)); exact HO234.out) (Kd.R_base ho0) hb); replace HO237 := zA (Kd.R_elder' (by (with_reducible repeat (first | apply zR | apply zS | apply zT)); exact HO237.out) (Kd.R_base ho0) hb); replace BK227 := zA (zQ (g := gb227) (o := .cells #[.string a0_0, .slice A0_1 l0_1.length c0_1, .int .i64 a0_2, .slice A0_3 l0_3.length c0_3, .slice A0_4 l0_4.length c0_4] 48 (0, 0)) (by (with_reducible repeat (first | refine zG ?_ _ | refine zH ?_)); exact BK227.out) hb); replace HB := zA (below_step (by repeat (first | (with_reducible first | exact HB.out | apply zB | apply zN | apply below_drew1 | refine zE ?_ GE227.out) | exact HB.out)) hb); (try clear hb); (try clear hb2); (try clear hk); (try clear hi); (try clear ho0); have hcz25_0 : w24.cell? ⟨gb227, 0, none⟩ = some (.string a0_0) := (zC BK227.out 0).trans rfl; have hcz25_1 : w24.cell? ⟨gb227, 1, none⟩ = some (.slice A0_1 l0_1.length c0_1) := (zC BK227.out 1).trans rfl; have hcz25_2 : w24.cell? ⟨gb227, 2, none⟩ = some (.int .i64 a0_2) := (zC BK227.out 2).trans rfl; have hcz25_3 : w24.cell? ⟨gb227, 3, none⟩ = some (.slice A0_3 l0_3.length c0_3) := (zC BK227.out 3).trans rfl; have hcz25_4 : w24.cell? ⟨gb227, 4, none⟩ = some (.slice A0_4 l0_4.length c0_4) := (zC BK227.out 4).trans rfl; have hfz25_0 := zF BK227.out 0; have hfz25_1 := zF BK227.out 1; have hfz25_2 := zF BK227.out 2; have hfz25_3 := zF BK227.out 3; have hfz25_4 := zF BK227.out 4; obtain ⟨Ao26, co26, eo26⟩ := Kd.R_slice HO240.out; subst eo26) | ((with_reducible refine gate_callee (f := 22) rfl ?_); refine goesL_ (some 29) rfl rfl Tryd.func22 (by kernel_rfl) rfl #[.slice Ao26 t238.length co26, .int .i64 2, .int .i64 (l0_4.length : Int)] rfl (by (try simp only [zm, zc, zn]); first | done | rfl | (simp only [zd, zt]; rfl)) ?_; (with_reducible refine (octet_Put.calls _ _ t238 2 (l0_4.length : Int) t241 _ ?side1 ?side2 A8.out).mono ?_); (case side1 => repeat (first | exact (Kd.R_reads' HO240.out).2.2)); (case side2 => exact (Kd.R_reads' HO240.out).2.1); rintro e w27 ⟨v242, rfl, ho0, hb⟩; refine ⟨_, rfl, ?_⟩; have HO243 := zA (Kd.R_lower (Kd.R_new' (Kd.R_new' (Kd.R_new' (Kd.R_new' ho0 (Kd.R_lt (by (with_reducible repeat (first | apply zR | apply zS | apply zT)); exact HO231.out))) (Kd.R_lt (by (with_reducible repeat (first | apply zR | apply zS | apply zT)); exact HO234.out))) (Kd.R_lt (by (with_reducible repeat (first | apply zR | apply zS | apply zT)); exact HO237.out))) (Kd.R_lt (by (with_reducible repeat (first | apply zR | apply zS | apply zT)); exact HO240.out))) (below_size (by repeat (first | (with_reducible first | exact HB.out | apply zB | apply zN | apply below_drew1 | refine zE ?_ GE227.out) | exact HB.out)))); replace HO231 := zA (Kd.R_elder' (by (with_reducible repeat (first | apply zR | apply zS | apply zT)); exact HO231.out) (Kd.R_base ho0) hb); replace HO234 := zA (Kd.R_elder' (by (with_reducible repeat (first | apply zR | apply zS | apply zT)); exact HO234.out) (Kd.R_base ho0) hb); replace HO237 := zA (Kd.R_elder' (by (with_reducible repeat (first | apply zR | apply zS | apply zT)); exact HO237.out) (Kd.R_base ho0) hb); replace HO240 := zA (Kd.R_elder' (by (with_reducible repeat (first | apply zR | apply zS | apply zT)); exact HO240.out) (Kd.R_base ho0) hb); replace BK227 := zA (zQ (g := gb227) (o := .cells #[.string a0_0, .slice A0_1 l0_1.length c0_1, .int .i64 a0_2, .slice A0_3 l0_3.length c0_3, .slice A0_4 l0_4.length c0_4] 48 (0, 0)) (by (with_reducible repeat (first | refine zG ?_ _ | refine zH ?_)); exact BK227.out) hb); replace HB := zA (below_step (by repeat (first | (with_reducible first | exact HB.out | apply zB | apply zN | apply below_drew1 | refine zE ?_ GE227.out) | exact HB.out)) hb); (try clear hb); (try clear hb2); (try clear hk); (try clear hi); (try clear ho0); have hcz28_0 : w27.cell? ⟨gb227, 0, none⟩ = some (.string a0_0) := (zC BK227.out 0).trans rfl; have hcz28_1 : w27.cell? ⟨gb227, 1, none⟩ = some (.slice A0_1 l0_1.length c0_1) := (zC BK227.out 1).trans rfl; have hcz28_2 : w27.cell? ⟨gb227, 2, none⟩ = some (.int .i64 a0_2) := (zC BK227.out 2).trans rfl; have hcz28_3 : w27.cell? ⟨gb227, 3, none⟩ = some (.slice A0_3 l0_3.length c0_3) := (zC BK227.out 3).trans rfl; have hcz28_4 : w27.cell? ⟨gb227, 4, none⟩ = some (.slice A0_4 l0_4.length c0_4) := (zC BK227.out 4).trans rfl; have hfz28_0 := zF BK227.out 0; have hfz28_1 := zF BK227.out 1; have hfz28_2 := zF BK227.out 2; have hfz28_3 := zF BK227.out 3; have hfz28_4 := zF BK227.out 4) | ((with_reducible refine gate_callee (f := 84) rfl ?_); refine goesL_ (some 33) rfl rfl Tryd.func84 (by kernel_rfl) rfl #[.slice A0_4 l0_4.length c0_4] rfl (by (try simp only [zm, zc, zn]); first | done | rfl | (simp only [zd, zt]; rfl)) ?_; (with_reducible refine (code_Encode.calls k _ _ l0_4 t244 t245 _ ?side1 ?side2 A9.out (LaidOps.below HL_.out (by repeat (first | (with_reducible first | exact HB.out | apply zB | apply zN | apply below_drew1 | refine zE ?_ GE227.out) | exact HB.out)))).mono ?_); (case side1 => repeat (first | exact (zD HR0_4.out HB.out))); (case side2 => exact HC0_4.out); rintro e w29 ⟨v246, rfl, ho0, hb⟩; refine ⟨_, rfl, ?_⟩; have HO247 := zA (Kd.R_lower (Kd.R_new' (Kd.R_new' (Kd.R_new' (Kd.R_new' (Kd.R_new' ho0 (Kd.R_lt (by (with_reducible repeat (first | apply zR | apply zS | apply zT)); exact HO231.out))) (Kd.R_lt (by (with_reducible repeat (first | apply zR | apply zS | apply zT)); exact HO234.out))) (Kd.R_lt (by (with_reducible repeat (first | apply zR | apply zS | apply zT)); exact HO237.out))) (Kd.R_lt (by (with_reducible repeat (first | apply zR | apply zS | apply zT)); exact HO240.out))) (Kd.R_lt (by (with_reducible repeat (first | apply zR | apply zS | apply zT)); exact HO243.out))) (below_size (by repeat (first | (with_reducible first | exact HB.out | apply zB | apply zN | apply below_drew1 | refine zE ?_ GE227.out) | exact HB.out)))); replace HO231 := zA (Kd.R_elder' (by (with_reducible repeat (first | apply zR | apply zS | apply zT)); exact HO231.out) (Kd.R_base ho0) hb); replace HO234 := zA (Kd.R_elder' (by (with_reducible repeat (first | apply zR | apply zS | apply zT)); exact HO234.out) (Kd.R_base ho0) hb); replace HO237 := zA (Kd.R_elder' (by (with_reducible repeat (first | apply zR | apply zS | apply zT)); exact HO237.out) (Kd.R_base ho0) hb); replace HO240 := zA (Kd.R_elder' (by (with_reducible repeat (first | apply zR | apply zS | apply zT)); exact HO240.out) (Kd.R_base ho0) hb); replace HO243 := zA (Kd.R_elder' (by (with_reducible repeat (first | apply zR | apply zS | apply zT)); exact HO243.out) (Kd.R_base ho0) hb); replace BK227 := zA (zQ (g := gb227) (o := .cells #[.string a0_0, .slice A0_1 l0_1.length c0_1, .int .i64 a0_2, .slice A0_3 l0_3.length c0_3, .slice A0_4 l0_4.length c0_4] 48 (0, 0)) (by (with_reducible repeat (first | refine zG ?_ _ | refine zH ?_)); exact BK227.out) hb); replace HB := zA (below_step (by repeat (first | (with_reducible first | exact HB.out | apply zB | apply zN | apply below_drew1 | refine zE ?_ GE227.out) | exact HB.out)) hb); (try clear hb); (try clear hb2); (try clear hk); (try clear hi); (try clear ho0); obtain ⟨Ao31, co31, eo31⟩ := Kd.R_slice HO247.out; subst eo31) | ((with_reducible refine gate_builtin (b := .append) (xs := #[.tmp 36, .tmp 37]) rfl ?_); at_builtin; refine Kd.R_append_rows (Kd.int .u8) (w0 := w) w.heap.size rfl (.tmp 36) (.tmp 37) 28 5 (.int .u8 0) 1 rfl Tryd.underlying28 info5 rfl (by decide) (by omega) v242 t241 t244 _ _ _ (fun k_ => some k_ ≠ (.slice Ao17 t229.length co17 : Value).ownBlock ∧ some k_ ≠ (.slice Ao20 t232.length co20 : Value).ownBlock ∧ some k_ ≠ (.slice Ao23 t235.length co23 : Value).ownBlock ∧ some k_ ≠ (.slice Ao26 t238.length co26 : Value).ownBlock ∧ some k_ ≠ (.slice Ao31 t244.length co31 : Value).ownBlock) (fun _ => False) rfl rfl ?aO ?aR (fun _ _ h => h) (fun _ h => h.elim) ?aF ?aB ?aS ?aL ?_; (case aR => repeat (first | exact (Kd.R_reads' HO247.out).2.2)); (case aB => exact (by repeat (first | (with_reducible first | exact HB.out | apply zB | apply zN | apply below_drew1 | refine zE ?_ GE227.out) | exact HB.out))); (case aF => exact (fun k_ hk => ⟨Kd.fresh' (Kd.R_lt (by (with_reducible repeat (first | apply zR | apply zS | apply zT)); exact HO231.out)) k_ hk, Kd.fresh' (Kd.R_lt (by (with_reducible repeat (first | apply zR | apply zS | apply zT)); exact HO234.out)) k_ hk, Kd.fresh' (Kd.R_lt (by (with_reducible repeat (first | apply zR | apply zS | apply zT)); exact HO237.out)) k_ hk, Kd.fresh' (Kd.R_lt (by (with_reducible repeat (first | apply zR | apply zS | apply zT)); exact HO240.out)) k_ hk, Kd.fresh' (Kd.R_lt (by (with_reducible repeat (first | apply zR | apply zS | apply zT)); exact HO247.out)) k_ hk⟩)); (case aO => exact (by (with_reducible repeat (first | apply zR | apply zS | apply zT)); exact Kd.R_mono HO243.out (fun _ hk => ⟨hk.1.1.1.1.2, ⟨hk.1.1.1.2, ⟨hk.1.1.2, ⟨hk.1.2, hk.2⟩⟩⟩⟩))); (case aS => exact (below_size (by repeat (first | (with_reducible first | exact HB.out | apply zB | apply zN | apply below_drew1 | refine zE ?_ GE227.out) | exact HB.out)))); (case aL => have := LMc10.out; omega); intro v249 w30 ho hb hg hat; rw [← Ny248.out] at ho; replace BK227 := zA (blk_grown (g := gb227) (o := .cells #[.string a0_0, .slice A0_1 l0_1.length c0_1, .int .i64 a0_2, .slice A0_3 l0_3.length c0_3, .slice A0_4 l0_4.length c0_4] 48 (0, 0)) (by (with_reducible repeat (first | refine zG ?_ _ | refine zH ?_)); exact BK227.out) hg (Kd.R_ne HO243.out BK227.out (by decide))); replace HO231 := zA (Kd.R_after (ok := (fun k_ => some k_ ≠ (.slice Ao20 t232.length co20 : Value).ownBlock ∧ some k_ ≠ (.slice Ao23 t235.length co23 : Value).ownBlock ∧ some k_ ≠ (.slice Ao26 t238.length co26 : Value).ownBlock ∧ some k_ ≠ (.slice Ao31 t244.length co31 : Value).ownBlock)) (by (with_reducible repeat (first | apply zR | apply zS | apply zT)); exact Kd.R_mono HO231.out (fun _ hk => ⟨⟨hk.1.1.1.1.2, ⟨hk.1.1.1.2, ⟨hk.1.1.2, hk.2⟩⟩⟩, hk.1.2⟩)) hg hat); replace HO234 := zA (Kd.R_after (ok := (fun k_ => some k_ ≠ (.slice Ao17 t229.length co17 : Value).ownBlock ∧ some k_ ≠ (.slice Ao23 t235.length co23 : Value).ownBlock ∧ some k_ ≠ (.slice Ao26 t238.length co26 : Value).ownBlock ∧ some k_ ≠ (.slice Ao31 t244.length co31 : Value).ownBlock)) (by (with_reducible repeat (first | apply zR | apply zS | apply zT)); exact Kd.R_mono HO234.out (fun _ hk => ⟨⟨hk.1.1.1.1.2, ⟨hk.1.1.1.2, ⟨hk.1.1.2, hk.2⟩⟩⟩, hk.1.2⟩)) hg hat); replace HO237 := zA (Kd.R_after (ok := (fun k_ => some k_ ≠ (.slice Ao17 t229.length co17 : Value).ownBlock ∧ some k_ ≠ (.slice Ao20 t232.length co20 : Value).ownBlock ∧ some k_ ≠ (.slice Ao26 t238.length co26 : Value).ownBlock ∧ some k_ ≠ (.slice Ao31 t244.length co31 : Value).ownBlock)) (by (with_reducible repeat (first | apply zR | apply zS | apply zT)); exact Kd.R_mono HO237.out (fun _ hk => ⟨⟨hk.1.1.1.1.2, ⟨hk.1.1.1.2, ⟨hk.1.1.2, hk.2⟩⟩⟩, hk.1.2⟩)) hg hat); replace HO240 := zA (Kd.R_after (ok := (fun k_ => some k_ ≠ (.slice Ao17 t229.length co17 : Value).ownBlock ∧ some k_ ≠ (.slice Ao20 t232.length co20 : Value).ownBlock ∧ some k_ ≠ (.slice Ao23 t235.length co23 : Value).ownBlock ∧ some k_ ≠ (.slice Ao31 t244.length co31 : Value).ownBlock)) (by (with_reducible repeat (first | apply zR | apply zS | apply zT)); exact Kd.R_mono HO240.out (fun _ hk => ⟨⟨hk.1.1.1.1.2, ⟨hk.1.1.1.2, ⟨hk.1.1.2, hk.2⟩⟩⟩, hk.1.2⟩)) hg hat); replace HO247 := zA (Kd.R_after (ok := (fun k_ => some k_ ≠ (.slice Ao17 t229.length co17 : Value).ownBlock ∧ some k_ ≠ (.slice Ao20 t232.length co20 : Value).ownBlock ∧ some k_ ≠ (.slice Ao23 t235.length co23 : Value).ownBlock ∧ some k_ ≠ (.slice Ao26 t238.length co26 : Value).ownBlock)) (by (with_reducible repeat (first | apply zR | apply zS | apply zT)); exact Kd.R_mono HO247.out (fun _ hk => ⟨⟨hk.1.1.1.1.2, ⟨hk.1.1.1.2, ⟨hk.1.1.2, hk.1.2⟩⟩⟩, hk.2⟩)) hg hat); replace HB := zA (hb); have HO250 := zA (ho); clear HO243; clear ho hb hg hat))
   go_ret2
   exact ⟨_, by first | rfl | (simp [errW_none, errW_some] <;> rfl) | (simp [*, errW_none, errW_some] <;> rfl), by (with_reducible repeat (first | apply zR | apply zS | apply zT)); exact Kd.R_mono HO250.out (fun _ hk => trivial), by repeat (first | (with_reducible first | exact HB.out | apply zB | apply zN | apply below_drew1 | refine zE ?_ GE227.out) | exact HB.out)⟩
  ·rw [if_neg c10] at H
   exact absurd H (by simp)
 ·replace c3 := Bool.eq_false_iff.mpr c3
  subst c3
  have H1 : (some (([] : List Int), false)) = some (r1, r2) := by rw [if_neg (show ¬ (false = true) by decide)] at H; exact H
  clear H
  have H := H1
  clear H1
  simp only [Option.some.injEq, Prod.mk.injEq] at H
  obtain ⟨rfl, rfl⟩ := H
  go_enter Tryd.func56, Tryd.ntmps56
  go_wp2_with (first | ((with_reducible refine gate_dst (N := 1) rfl ?_); refine box_event ?hg (N := 1) ?hd (cs := #[.string a0_0, .slice A0_1 l0_1.length c0_1, .int .i64 a0_2, .slice A0_3 l0_3.length c0_3, .slice A0_4 l0_4.length c0_4]) (t := 48) ?hr ?_; (case hd => rfl); (case hg => rfl); (case hr => first | (go_simp; done) | (go_simp; rfl)); intro gb227 hg w32 hbox hb; have BK227 := zA (hbox); have GW227 := zA ((by rw [hg]; exact (below_size (by repeat (first | (with_reducible first | exact HB.out | apply zB | apply zN | apply below_drew1) | exact HB.out))) : w.heap.size ≤ gb227)); have GE227 := GW227; replace HB := zA (below_step (by repeat (first | (with_reducible first | exact HB.out | apply zB | apply zN | apply below_drew1) | exact HB.out)) hb); clear hb hbox hg; have hcz33_0 : w32.cell? ⟨gb227, 0, none⟩ = some (.string a0_0) := (zC BK227.out 0).trans rfl; have hcz33_1 : w32.cell? ⟨gb227, 1, none⟩ = some (.slice A0_1 l0_1.length c0_1) := (zC BK227.out 1).trans rfl; have hcz33_2 : w32.cell? ⟨gb227, 2, none⟩ = some (.int .i64 a0_2) := (zC BK227.out 2).trans rfl; have hcz33_3 : w32.cell? ⟨gb227, 3, none⟩ = some (.slice A0_3 l0_3.length c0_3) := (zC BK227.out 3).trans rfl; have hcz33_4 : w32.cell? ⟨gb227, 4, none⟩ = some (.slice A0_4 l0_4.length c0_4) := (zC BK227.out 4).trans rfl; have hfz33_0 := zF BK227.out 0; have hfz33_1 := zF BK227.out 1; have hfz33_2 := zF BK227.out 2; have hfz33_3 := zF BK227.out 3; have hfz33_4 := zF BK227.out 4) | ((with_reducible refine gate_callee (f := 82) rfl ?_); refine goesL_ (some 8) rfl rfl Tryd.func82 (by kernel_rfl) rfl #[.agg #[.string a0_0, .slice A0_1 l0_1.length c0_1, .int .i64 a0_2, .slice A0_3 l0_3.length c0_3, .slice A0_4 l0_4.length c0_4]] rfl (by (try simp only [zm, zc, zn]); first | done | rfl | (simp only [zd, zt]; rfl)) ?_; (with_reducible refine (unit_Fits.calls k a0_0 _ _ l0_1 a0_2 _ _ l0_3 _ _ l0_4 false _ ?side1 ?side2 ?side3 ?side4 ?side5 ?side6 A2.out (LaidOps.below HL_.out (by repeat (first | (with_reducible first | exact HB.out | apply zB | apply zN | apply below_drew1 | refine zE ?_ GE227.out) | exact HB.out)))).mono ?_); (case side1 => repeat (first | exact (zD HR0_1.out HB.out))); (case side2 => exact HC0_1.out); (case side3 => repeat (first | exact (zD HR0_3.out HB.out))); (case side4 => exact HC0_3.out); (case side5 => repeat (first | exact (zD HR0_4.out HB.out))); (case side6 => exact HC0_4.out); rintro e w34 ⟨rfl, hb⟩; refine ⟨_, rfl, ?_⟩; replace BK227 := zA (zQ (g := gb227) (o := .cells #[.string a0_0, .slice A0_1 l0_1.length c0_1, .int .i64 a0_2, .slice A0_3 l0_3.length c0_3, .slice A0_4 l0_4.length c0_4] 48 (0, 0)) (by (with_reducible repeat (first | refine zG ?_ _ | refine zH ?_)); exact BK227.out) hb); replace HB := zA (below_step (by repeat (first | (with_reducible first | exact HB.out | apply zB | apply zN | apply below_drew1 | refine zE ?_ GE227.out) | exact HB.out)) hb); (try clear hb); (try clear hb2); (try clear hk); (try clear hi)))
  go_ret2
  exact ⟨_, by first | rfl | (simp [errW_none, errW_some] <;> rfl) | (simp [*, errW_none, errW_some] <;> rfl), by first | exact Kd.R_nil _ _ _ _ _ | exact Kd.N_nil _ _ _ _ _ | exact Kd.V_nil _ _ _ _ _ | exact Kd.Q_nil _ _ _ _ _ | exact Kd.S_nil _ _ _ _ _, by repeat (first | (with_reducible first | exact HB.out | apply zB | apply zN | apply below_drew1 | refine zE ?_ GE227.out) | exact HB.out)⟩

end Go.Proofs.YtdbfgfgbjheibaaDoor.PBx
