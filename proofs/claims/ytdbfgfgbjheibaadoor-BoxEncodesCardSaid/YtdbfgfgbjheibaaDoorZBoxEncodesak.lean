/- Printed by a program of this session (wip/pg.py, over the print of the kit): functions, their Lean twins, and the proofs that the calls come to them; each under the conditions that it names. -/
import Derived.Test.YtdbfgfgbjheibaaDoorZBoxEncodesq
import Derived.Test.YtdbfgfgbjheibaaDoorZBoxEncodesab
import Derived.Test.YtdbfgfgbjheibaaDoorZBoxEncodesaj
/- Printed by a program of this session (wip/pg.py, over the print of the kit): functions, their Lean twins, and the proofs that the calls come to them; each under the conditions that it names. -/
namespace Go.Proofs.YtdbfgfgbjheibaaDoor.PBx
open Go.RowKit Go.Proofs.YtdbfgfgbjheibaaDoorW.PrintWords Go.Proofs.YtdbfgfgbjheibaaDoorW.PrintLast Go.Proofs.YtdbfgfgbjheibaaDoorW.PrintMore
attribute [local go_sem] max2_int min2_int max_two min_two max_three min_three max_four min_four   -- for this text's walks alone
set_option linter.unusedVariables false
set_option linter.unusedSimpArgs false

/-! ### r12_Right: function 98 -/
def r12_Right.f (k : Nat) (a0_0 : Int) (a0_1 : Int) (a0_2 : Int) : Option (Bool) := (r12_Shape.f k a0_0).bind fun bt383 => (if a0_0 ≥ 0 then (if a0_0 ≤ 37 then ((r12_may.f a0_1 bt383.1).bind fun t385 => (if t385 = true then ((r12_may.f a0_2 bt383.2).bind fun t386 => (some t386)) else (some false))) else (some false)) else (some false))
set_option maxHeartbeats 8000000 in
set_option maxRecDepth 100000 in
theorem r12_Right.calls (k : Nat) (a0_0 : Int) (a0_1 : Int) (a0_2 : Int) (r : Bool) (w : World) (h : r12_Right.f k a0_0 a0_1 a0_2 = some r) :
  Calls Tryd.prog 98 #[.agg #[.int .i64 a0_0, .int .i64 a0_1, .int .i64 a0_2]] w fun e w' => e = .returned (.bool r) ∧ Below w.heap.size w w' := by
 have hu109 := Tryd.underlying109
 have HB := zA (zX w.heap.size w)
 have H : ((r12_Shape.f k a0_0).bind fun bt383 => (if a0_0 ≥ 0 then (if a0_0 ≤ 37 then ((r12_may.f a0_1 bt383.1).bind fun t385 => (if t385 = true then ((r12_may.f a0_2 bt383.2).bind fun t386 => (some t386)) else (some false))) else (some false)) else (some false))) = some r := h
 clear h
 replace H := Option.bind_eq_some_iff.mp H
 obtain ⟨⟨t383, t384⟩, A20, H⟩ := H
 replace H : (if a0_0 ≥ 0 then (if a0_0 ≤ 37 then ((r12_may.f a0_1 t383).bind fun t385 => (if t385 = true then ((r12_may.f a0_2 t384).bind fun t386 => (some t386)) else (some false))) else (some false)) else (some false)) = some r := H
 have A2 := zA A20
 clear A20
 by_cases c3 : a0_0 ≥ 0
 ·rw [if_pos c3] at H
  have c3b0 : decide (0 ≤ a0_0) = true := decide_eq_true c3
  clear c3
  by_cases c4 : a0_0 ≤ 37
  ·rw [if_pos c4] at H
   have c4b0 : decide (a0_0 ≤ 37) = true := decide_eq_true c4
   clear c4
   replace H := Option.bind_eq_some_iff.mp H
   obtain ⟨t385, A50, H⟩ := H
   replace H : (if t385 = true then ((r12_may.f a0_2 t384).bind fun t386 => (some t386)) else (some false)) = some r := H
   have A5 := zA A50
   clear A50
   by_cases c6 : t385 = true
   ·subst c6
    have H1 : ((r12_may.f a0_2 t384).bind fun t386 => (some t386)) = some r := by rw [if_pos rfl] at H; exact H
    clear H
    have H := H1
    clear H1
    replace H := Option.bind_eq_some_iff.mp H
    obtain ⟨t386, A70, H⟩ := H
    replace H : (some t386) = some r := H
    have A7 := zA A70
    clear A70
    obtain rfl := zJ H
    go_enter Tryd.func98, Tryd.ntmps98
    go_wp2_with (first | ((with_reducible refine gate_dst (N := 1) rfl ?_); refine box_event ?hg (N := 1) ?hd (cs := #[.int .i64 a0_0, .int .i64 a0_1, .int .i64 a0_2]) (t := 109) ?hr ?_; (case hd => rfl); (case hg => rfl); (case hr => first | (go_simp; done) | (go_simp; rfl)); intro gb382 hg w8 hbox hb; have BK382 := zA (hbox); have GW382 := zA ((by rw [hg]; exact (below_size (by repeat (first | (with_reducible first | exact HB.out | apply zB | apply zN | apply below_drew1) | exact HB.out))) : w.heap.size ≤ gb382)); have GE382 := GW382; replace HB := zA (below_step (by repeat (first | (with_reducible first | exact HB.out | apply zB | apply zN | apply below_drew1) | exact HB.out)) hb); clear hb hbox hg; have hcz9_0 : w8.cell? ⟨gb382, 0, none⟩ = some (.int .i64 a0_0) := (zC BK382.out 0).trans rfl; have hcz9_1 : w8.cell? ⟨gb382, 1, none⟩ = some (.int .i64 a0_1) := (zC BK382.out 1).trans rfl; have hcz9_2 : w8.cell? ⟨gb382, 2, none⟩ = some (.int .i64 a0_2) := (zC BK382.out 2).trans rfl; have hfz9_0 := zF BK382.out 0; have hfz9_1 := zF BK382.out 1; have hfz9_2 := zF BK382.out 2) | ((with_reducible refine gate_callee (f := 111) rfl ?_); refine goesL_ (some 8) rfl rfl Tryd.func111 (by kernel_rfl) rfl #[.int .i64 a0_0] rfl (by (try simp only [zm, zc, zn]); first | done | rfl | (simp only [zd, zt]; rfl)) ?_; (with_reducible refine (r12_Shape.calls k a0_0 t383 t384 _ A2.out).mono ?_); rintro e w10 ⟨rfl, hb⟩; refine ⟨_, rfl, ?_⟩; replace BK382 := zA (zQ (g := gb382) (o := .cells #[.int .i64 a0_0, .int .i64 a0_1, .int .i64 a0_2] 109 (0, 0)) (by (with_reducible repeat (first | refine zG ?_ _ | refine zH ?_)); exact BK382.out) hb); replace HB := zA (below_step (by repeat (first | (with_reducible first | exact HB.out | apply zB | apply zN | apply below_drew1 | refine zE ?_ GE382.out) | exact HB.out)) hb); (try clear hb); (try clear hb2); (try clear hk); (try clear hi); have hcz11_0 : w10.cell? ⟨gb382, 0, none⟩ = some (.int .i64 a0_0) := (zC BK382.out 0).trans rfl; have hcz11_1 : w10.cell? ⟨gb382, 1, none⟩ = some (.int .i64 a0_1) := (zC BK382.out 1).trans rfl; have hcz11_2 : w10.cell? ⟨gb382, 2, none⟩ = some (.int .i64 a0_2) := (zC BK382.out 2).trans rfl; have hfz11_0 := zF BK382.out 0; have hfz11_1 := zF BK382.out 1; have hfz11_2 := zF BK382.out 2) | (go_at_call 112; (with_reducible refine (r12_may.calls a0_1 t383 true _ A5.out).mono ?_); rintro e w' ⟨rfl, ⟨nd, rfl⟩⟩) | (go_at_call 112; (with_reducible refine (r12_may.calls a0_2 t384 t386 _ A7.out).mono ?_); rintro e w' ⟨rfl, ⟨nd, rfl⟩⟩))
    go_ret
    exact ⟨by first | rfl | (simp [errW_none, errW_some] <;> rfl) | (simp [*, errW_none, errW_some] <;> rfl), by repeat (first | (with_reducible first | exact HB.out | apply zB | apply zN | apply below_drew1 | refine zE ?_ GE382.out) | exact HB.out)⟩
   ·replace c6 := Bool.eq_false_iff.mpr c6
    subst c6
    have H1 : (some false) = some r := by rw [if_neg (show ¬ (false = true) by decide)] at H; exact H
    clear H
    have H := H1
    clear H1
    obtain rfl := zJ H
    go_enter Tryd.func98, Tryd.ntmps98
    go_wp2_with (first | ((with_reducible refine gate_dst (N := 1) rfl ?_); refine box_event ?hg (N := 1) ?hd (cs := #[.int .i64 a0_0, .int .i64 a0_1, .int .i64 a0_2]) (t := 109) ?hr ?_; (case hd => rfl); (case hg => rfl); (case hr => first | (go_simp; done) | (go_simp; rfl)); intro gb382 hg w12 hbox hb; have BK382 := zA (hbox); have GW382 := zA ((by rw [hg]; exact (below_size (by repeat (first | (with_reducible first | exact HB.out | apply zB | apply zN | apply below_drew1) | exact HB.out))) : w.heap.size ≤ gb382)); have GE382 := GW382; replace HB := zA (below_step (by repeat (first | (with_reducible first | exact HB.out | apply zB | apply zN | apply below_drew1) | exact HB.out)) hb); clear hb hbox hg; have hcz13_0 : w12.cell? ⟨gb382, 0, none⟩ = some (.int .i64 a0_0) := (zC BK382.out 0).trans rfl; have hcz13_1 : w12.cell? ⟨gb382, 1, none⟩ = some (.int .i64 a0_1) := (zC BK382.out 1).trans rfl; have hcz13_2 : w12.cell? ⟨gb382, 2, none⟩ = some (.int .i64 a0_2) := (zC BK382.out 2).trans rfl; have hfz13_0 := zF BK382.out 0; have hfz13_1 := zF BK382.out 1; have hfz13_2 := zF BK382.out 2) | ((with_reducible refine gate_callee (f := 111) rfl ?_); refine goesL_ (some 8) rfl rfl Tryd.func111 (by kernel_rfl) rfl #[.int .i64 a0_0] rfl (by (try simp only [zm, zc, zn]); first | done | rfl | (simp only [zd, zt]; rfl)) ?_; (with_reducible refine (r12_Shape.calls k a0_0 t383 t384 _ A2.out).mono ?_); rintro e w14 ⟨rfl, hb⟩; refine ⟨_, rfl, ?_⟩; replace BK382 := zA (zQ (g := gb382) (o := .cells #[.int .i64 a0_0, .int .i64 a0_1, .int .i64 a0_2] 109 (0, 0)) (by (with_reducible repeat (first | refine zG ?_ _ | refine zH ?_)); exact BK382.out) hb); replace HB := zA (below_step (by repeat (first | (with_reducible first | exact HB.out | apply zB | apply zN | apply below_drew1 | refine zE ?_ GE382.out) | exact HB.out)) hb); (try clear hb); (try clear hb2); (try clear hk); (try clear hi); have hcz15_0 : w14.cell? ⟨gb382, 0, none⟩ = some (.int .i64 a0_0) := (zC BK382.out 0).trans rfl; have hcz15_1 : w14.cell? ⟨gb382, 1, none⟩ = some (.int .i64 a0_1) := (zC BK382.out 1).trans rfl; have hcz15_2 : w14.cell? ⟨gb382, 2, none⟩ = some (.int .i64 a0_2) := (zC BK382.out 2).trans rfl; have hfz15_0 := zF BK382.out 0; have hfz15_1 := zF BK382.out 1; have hfz15_2 := zF BK382.out 2) | (go_at_call 112; (with_reducible refine (r12_may.calls a0_1 t383 false _ A5.out).mono ?_); rintro e w' ⟨rfl, ⟨nd, rfl⟩⟩))
    go_ret
    exact ⟨by first | rfl | (simp [errW_none, errW_some] <;> rfl) | (simp [*, errW_none, errW_some] <;> rfl), by repeat (first | (with_reducible first | exact HB.out | apply zB | apply zN | apply below_drew1 | refine zE ?_ GE382.out) | exact HB.out)⟩
  ·rw [if_neg c4] at H
   have c4b0 : decide (a0_0 ≤ 37) = false := decide_eq_false c4
   clear c4
   obtain rfl := zJ H
   go_enter Tryd.func98, Tryd.ntmps98
   go_wp2_with (first | ((with_reducible refine gate_dst (N := 1) rfl ?_); refine box_event ?hg (N := 1) ?hd (cs := #[.int .i64 a0_0, .int .i64 a0_1, .int .i64 a0_2]) (t := 109) ?hr ?_; (case hd => rfl); (case hg => rfl); (case hr => first | (go_simp; done) | (go_simp; rfl)); intro gb382 hg w16 hbox hb; have BK382 := zA (hbox); have GW382 := zA ((by rw [hg]; exact (below_size (by repeat (first | (with_reducible first | exact HB.out | apply zB | apply zN | apply below_drew1) | exact HB.out))) : w.heap.size ≤ gb382)); have GE382 := GW382; replace HB := zA (below_step (by repeat (first | (with_reducible first | exact HB.out | apply zB | apply zN | apply below_drew1) | exact HB.out)) hb); clear hb hbox hg; have hcz17_0 : w16.cell? ⟨gb382, 0, none⟩ = some (.int .i64 a0_0) := (zC BK382.out 0).trans rfl; have hcz17_1 : w16.cell? ⟨gb382, 1, none⟩ = some (.int .i64 a0_1) := (zC BK382.out 1).trans rfl; have hcz17_2 : w16.cell? ⟨gb382, 2, none⟩ = some (.int .i64 a0_2) := (zC BK382.out 2).trans rfl; have hfz17_0 := zF BK382.out 0; have hfz17_1 := zF BK382.out 1; have hfz17_2 := zF BK382.out 2) | ((with_reducible refine gate_callee (f := 111) rfl ?_); refine goesL_ (some 8) rfl rfl Tryd.func111 (by kernel_rfl) rfl #[.int .i64 a0_0] rfl (by (try simp only [zm, zc, zn]); first | done | rfl | (simp only [zd, zt]; rfl)) ?_; (with_reducible refine (r12_Shape.calls k a0_0 t383 t384 _ A2.out).mono ?_); rintro e w18 ⟨rfl, hb⟩; refine ⟨_, rfl, ?_⟩; replace BK382 := zA (zQ (g := gb382) (o := .cells #[.int .i64 a0_0, .int .i64 a0_1, .int .i64 a0_2] 109 (0, 0)) (by (with_reducible repeat (first | refine zG ?_ _ | refine zH ?_)); exact BK382.out) hb); replace HB := zA (below_step (by repeat (first | (with_reducible first | exact HB.out | apply zB | apply zN | apply below_drew1 | refine zE ?_ GE382.out) | exact HB.out)) hb); (try clear hb); (try clear hb2); (try clear hk); (try clear hi); have hcz19_0 : w18.cell? ⟨gb382, 0, none⟩ = some (.int .i64 a0_0) := (zC BK382.out 0).trans rfl; have hcz19_1 : w18.cell? ⟨gb382, 1, none⟩ = some (.int .i64 a0_1) := (zC BK382.out 1).trans rfl; have hcz19_2 : w18.cell? ⟨gb382, 2, none⟩ = some (.int .i64 a0_2) := (zC BK382.out 2).trans rfl; have hfz19_0 := zF BK382.out 0; have hfz19_1 := zF BK382.out 1; have hfz19_2 := zF BK382.out 2))
   go_ret
   exact ⟨by first | rfl | (simp [errW_none, errW_some] <;> rfl) | (simp [*, errW_none, errW_some] <;> rfl), by repeat (first | (with_reducible first | exact HB.out | apply zB | apply zN | apply below_drew1 | refine zE ?_ GE382.out) | exact HB.out)⟩
 ·rw [if_neg c3] at H
  have c3b0 : decide (0 ≤ a0_0) = false := decide_eq_false c3
  clear c3
  obtain rfl := zJ H
  go_enter Tryd.func98, Tryd.ntmps98
  go_wp2_with (first | ((with_reducible refine gate_dst (N := 1) rfl ?_); refine box_event ?hg (N := 1) ?hd (cs := #[.int .i64 a0_0, .int .i64 a0_1, .int .i64 a0_2]) (t := 109) ?hr ?_; (case hd => rfl); (case hg => rfl); (case hr => first | (go_simp; done) | (go_simp; rfl)); intro gb382 hg w20 hbox hb; have BK382 := zA (hbox); have GW382 := zA ((by rw [hg]; exact (below_size (by repeat (first | (with_reducible first | exact HB.out | apply zB | apply zN | apply below_drew1) | exact HB.out))) : w.heap.size ≤ gb382)); have GE382 := GW382; replace HB := zA (below_step (by repeat (first | (with_reducible first | exact HB.out | apply zB | apply zN | apply below_drew1) | exact HB.out)) hb); clear hb hbox hg; have hcz21_0 : w20.cell? ⟨gb382, 0, none⟩ = some (.int .i64 a0_0) := (zC BK382.out 0).trans rfl; have hcz21_1 : w20.cell? ⟨gb382, 1, none⟩ = some (.int .i64 a0_1) := (zC BK382.out 1).trans rfl; have hcz21_2 : w20.cell? ⟨gb382, 2, none⟩ = some (.int .i64 a0_2) := (zC BK382.out 2).trans rfl; have hfz21_0 := zF BK382.out 0; have hfz21_1 := zF BK382.out 1; have hfz21_2 := zF BK382.out 2) | ((with_reducible refine gate_callee (f := 111) rfl ?_); refine goesL_ (some 8) rfl rfl Tryd.func111 (by kernel_rfl) rfl #[.int .i64 a0_0] rfl (by (try simp only [zm, zc, zn]); first | done | rfl | (simp only [zd, zt]; rfl)) ?_; (with_reducible refine (r12_Shape.calls k a0_0 t383 t384 _ A2.out).mono ?_); rintro e w22 ⟨rfl, hb⟩; refine ⟨_, rfl, ?_⟩; replace BK382 := zA (zQ (g := gb382) (o := .cells #[.int .i64 a0_0, .int .i64 a0_1, .int .i64 a0_2] 109 (0, 0)) (by (with_reducible repeat (first | refine zG ?_ _ | refine zH ?_)); exact BK382.out) hb); replace HB := zA (below_step (by repeat (first | (with_reducible first | exact HB.out | apply zB | apply zN | apply below_drew1 | refine zE ?_ GE382.out) | exact HB.out)) hb); (try clear hb); (try clear hb2); (try clear hk); (try clear hi); have hcz23_0 : w22.cell? ⟨gb382, 0, none⟩ = some (.int .i64 a0_0) := (zC BK382.out 0).trans rfl; have hcz23_1 : w22.cell? ⟨gb382, 1, none⟩ = some (.int .i64 a0_1) := (zC BK382.out 1).trans rfl; have hcz23_2 : w22.cell? ⟨gb382, 2, none⟩ = some (.int .i64 a0_2) := (zC BK382.out 2).trans rfl; have hfz23_0 := zF BK382.out 0; have hfz23_1 := zF BK382.out 1; have hfz23_2 := zF BK382.out 2))
  go_ret
  exact ⟨by first | rfl | (simp [errW_none, errW_some] <;> rfl) | (simp [*, errW_none, errW_some] <;> rfl), by repeat (first | (with_reducible first | exact HB.out | apply zB | apply zN | apply below_drew1 | refine zE ?_ GE382.out) | exact HB.out)⟩

/-! ### r15_bytes: function 99 -/
def r15_bytes.l0 : Nat → List Int → Int → Option (Bool)
 | 0, _, _ => none
 | k + 1, x0, x3 => if x3 < (x0.length : Int) then (if 0 ≤ x3 then (if (rd x0 x3) < 0 then (some false) else (if (rd x0 x3) > 255 then (some false) else (r15_bytes.l0 k x0 (wrap64 (x3 + 1))))) else (none)) else (some true)
def r15_bytes.f (k : Nat) (l0 : List Int) : Option (Bool) := r15_bytes.l0 k l0 0
set_option maxHeartbeats 8000000 in
set_option maxRecDepth 100000 in
theorem r15_bytes.calls (k : Nat) (A0 : Option Addr) (c0 : Nat) (l0 : List Int) (r : Bool) (w : World) (hr0 : Kd.C (Kd.int .i64) w A0 l0.length l0) (hc0 : l0.length ≤ c0) (h : r15_bytes.f k l0 = some r) :
  Calls Tryd.prog 99 #[.slice A0 l0.length c0] w fun e w' => e = .returned (.bool r) ∧ Drawn0 w w' := by
 have HR0 := zA hr0
 have HC0 := zA hc0
 clear hr0 hc0
 have H : (r15_bytes.l0 k l0 0) = some r := h
 clear h
 have H' := zA H
 clear H
 go_enter Tryd.func99, Tryd.ntmps99
 go_wp2
 go_loopg [3] k (fun kq v3 w' => ∃ (x3_1 : Int), v3 = .int .i64 x3_1 ∧ Aside0 (r15_bytes.l0 kq l0 x3_1 = some r) ∧ Aside0 (kq ≤ k) ∧ Drawn0 w w')
 case atStart => exact ⟨(0), (by first | rfl | (simp; done) | (simp [*]; done)), H', ⟨z5 _⟩, by repeat (first | exact z4 _ | apply z3)⟩
 case round =>
  clear H'
  obtain ⟨x3_1, rfl, HA, HK1, ⟨m1, rfl⟩⟩ := hrel
  cases gk with
  | zero => exact absurd HA.out (by simp [r15_bytes.l0])
  | succ k1 =>
   have H := HA.out
   clear HA
   simp only [r15_bytes.l0] at H
   by_cases c2 : x3_1 < (l0.length : Int)
   ·rw [if_pos c2] at H
    have c2b0 : decide (x3_1 < (l0.length : Int)) = true := decide_eq_true c2
    clear c2
    by_cases c3 : 0 ≤ x3_1
    ·rw [if_pos c3] at H
     have c3b0 : decide (0 ≤ x3_1) = true := decide_eq_true c3
     clear c3
     by_cases c4 : (rd l0 x3_1) < 0
     ·rw [if_pos c4] at H
      have c4b0 : decide ((rd l0 x3_1) < 0) = true := decide_eq_true c4
      clear c4
      obtain rfl := zJ H
      have p387 : 0 ≤ (x3_1 : Int) := zO (by first | (with_reducible assumption) | assumption)
      have q387 : x3_1 < (l0.length : Int) := zO (by first | (with_reducible assumption) | assumption)
      obtain ⟨ad387, e387, hx387_0⟩ := Kd.at_int HR0.out x3_1 p387 q387
      cases e387
      replace p387 := eq_true p387
      replace q387 := eq_true q387
      go_wp2
      go_ret
      exact ⟨by first | rfl | (simp; done) | (simp [*]; done), by repeat (first | exact z4 _ | apply z3)⟩
     ·rw [if_neg c4] at H
      have c4b0 : decide ((rd l0 x3_1) < 0) = false := decide_eq_false c4
      clear c4
      by_cases c5 : (rd l0 x3_1) > 255
      ·rw [if_pos c5] at H
       have c5b0 : decide (255 < (rd l0 x3_1)) = true := decide_eq_true c5
       clear c5
       obtain rfl := zJ H
       have p387 : 0 ≤ (x3_1 : Int) := zO (by first | (with_reducible assumption) | assumption)
       have q387 : x3_1 < (l0.length : Int) := zO (by first | (with_reducible assumption) | assumption)
       obtain ⟨ad387, e387, hx387_0⟩ := Kd.at_int HR0.out x3_1 p387 q387
       cases e387
       replace p387 := eq_true p387
       replace q387 := eq_true q387
       have p388 : 0 ≤ (x3_1 : Int) := zO (by first | (with_reducible assumption) | assumption)
       have q388 : x3_1 < (l0.length : Int) := zO (by first | (with_reducible assumption) | assumption)
       obtain ⟨ad388, e388, hx388_0⟩ := Kd.at_int HR0.out x3_1 p388 q388
       obtain rfl : ad387 = ad388 := (by injection e388)
       replace p388 := eq_true p388
       replace q388 := eq_true q388
       go_wp2
       go_ret
       exact ⟨by first | rfl | (simp; done) | (simp [*]; done), by repeat (first | exact z4 _ | apply z3)⟩
      ·rw [if_neg c5] at H
       have c5b0 : decide (255 < (rd l0 x3_1)) = false := decide_eq_false c5
       clear c5
       have H' := zA H
       clear H
       have p387 : 0 ≤ (x3_1 : Int) := zO (by first | (with_reducible assumption) | assumption)
       have q387 : x3_1 < (l0.length : Int) := zO (by first | (with_reducible assumption) | assumption)
       obtain ⟨ad387, e387, hx387_0⟩ := Kd.at_int HR0.out x3_1 p387 q387
       cases e387
       replace p387 := eq_true p387
       replace q387 := eq_true q387
       have p388 : 0 ≤ (x3_1 : Int) := zO (by first | (with_reducible assumption) | assumption)
       have q388 : x3_1 < (l0.length : Int) := zO (by first | (with_reducible assumption) | assumption)
       obtain ⟨ad388, e388, hx388_0⟩ := Kd.at_int HR0.out x3_1 p388 q388
       obtain rfl : ad387 = ad388 := (by injection e388)
       replace p388 := eq_true p388
       replace q388 := eq_true q388
       go_wp2
       go_roundg k1
       case measure => have := HK1.out; omega
       case rel => exact ⟨(wrap64 (x3_1 + 1)), (by first | rfl | (simp; done) | (simp [*]; done)), H', ⟨by have := HK1.out; omega⟩, by repeat (first | exact z4 _ | apply z3)⟩
    ·rw [if_neg c3] at H
     exact absurd H (by simp)
   ·rw [if_neg c2] at H
    have c2b0 : decide (x3_1 < (l0.length : Int)) = false := decide_eq_false c2
    clear c2
    obtain rfl := zJ H
    go_wp2
    go_ret
    exact ⟨by first | rfl | (simp; done) | (simp [*]; done), by repeat (first | exact z4 _ | apply z3)⟩

/-! ### r15_Fits: function 71 -/
def r15_Fits.l0 : Nat → Int → ByteArray → List Int → Int → List Int → List (S109) → Option (Bool)
 | 0, _, _, _, _, _, _ => none
 | k + 1, x3, x390000, x390001, x390002, x390003, x390004 => if x3 < (x390004.length : Int) then (if 0 ≤ x3 then ((r12_Right.f k ((rd_T109 x390004 x3).f0) ((rd_T109 x390004 x3).f1) ((rd_T109 x390004 x3).f2)).bind fun t391 => (if t391 = true then (r15_Fits.l0 k (wrap64 (x3 + 1)) x390000 x390001 x390002 x390003 x390004) else (some false))) else (none)) else (if (x390000.size : Int) < 256 then (if (x390001.length : Int) ≤ 8 then (if (x390003.length : Int) ≤ 1024 then (if (x390004.length : Int) ≤ 16384 then ((r15_bytes.f k x390001).bind fun t392 => (if t392 = true then ((r15_bytes.f k x390003).bind fun t393 => (if t393 = true then (if x390002 ≥ 0 then (some (decide (x390002 < 256))) else (some false)) else (some false))) else (some false))) else (some false)) else (some false)) else (some false)) else (some false))
def r15_Fits.f (k : Nat) (a0_0 : ByteArray) (l0_1 : List Int) (a0_2 : Int) (l0_3 : List Int) (l0_4 : List (S109)) : Option (Bool) := r15_Fits.l0 k 0 a0_0 l0_1 a0_2 l0_3 l0_4
set_option maxHeartbeats 8000000 in
set_option maxRecDepth 100000 in
theorem r15_Fits.calls (k : Nat) (a0_0 : ByteArray) (A0_1 : Option Addr) (c0_1 : Nat) (l0_1 : List Int) (a0_2 : Int) (A0_3 : Option Addr) (c0_3 : Nat) (l0_3 : List Int) (A0_4 : Option Addr) (c0_4 : Nat) (l0_4 : List (S109)) (r : Bool) (w : World) (hr0_1 : Kd.C (Kd.int .i64) w A0_1 l0_1.length l0_1) (hc0_1 : l0_1.length ≤ c0_1) (hr0_3 : Kd.C (Kd.int .i64) w A0_3 l0_3.length l0_3) (hc0_3 : l0_3.length ≤ c0_3) (hr0_4 : Kd.C k109 w A0_4 l0_4.length l0_4) (hc0_4 : l0_4.length ≤ c0_4) (h : r15_Fits.f k a0_0 l0_1 a0_2 l0_3 l0_4 = some r) :
  Calls Tryd.prog 71 #[.agg #[.string a0_0, .slice A0_1 l0_1.length c0_1, .int .i64 a0_2, .slice A0_3 l0_3.length c0_3, .slice A0_4 l0_4.length c0_4]] w fun e w' => e = .returned (.bool r) ∧ Below w.heap.size w w' := by
 have hu48 := Tryd.underlying48
 have hu109 := Tryd.underlying109
 have HR0_1 := zA hr0_1
 have HC0_1 := zA hc0_1
 clear hr0_1 hc0_1
 have HR0_3 := zA hr0_3
 have HC0_3 := zA hc0_3
 clear hr0_3 hc0_3
 have HR0_4 := zA hr0_4
 have HC0_4 := zA hc0_4
 clear hr0_4 hc0_4
 have HB := zA (zX w.heap.size w)
 have H : (r15_Fits.l0 k 0 a0_0 l0_1 a0_2 l0_3 l0_4) = some r := h
 clear h
 have H' := zA H
 clear H
 go_enter Tryd.func71, Tryd.ntmps71
 go_wp2_with (first | ((with_reducible refine gate_dst (N := 1) rfl ?_); (try (refine gate_guard (by rfl) ?_; dsimp only)); refine box_event ?hg (N := 1) ?hd (cs := #[.string a0_0, .slice A0_1 l0_1.length c0_1, .int .i64 a0_2, .slice A0_3 l0_3.length c0_3, .slice A0_4 l0_4.length c0_4]) (t := 48) ?hr ?_; (case hd => rfl); (case hg => rfl); (case hr => first | (go_simp; done) | (go_simp; rfl)); intro gb389 hg w2 hbox hb; have BK389 := zA (hbox); have GW389 := zA ((by rw [hg]; exact (below_size (by repeat (first | (with_reducible first | exact HB.out | apply zB | apply zN | apply below_drew1) | exact HB.out))) : w.heap.size ≤ gb389)); have GE389 := GW389; replace HB := zA (below_step (by repeat (first | (with_reducible first | exact HB.out | apply zB | apply zN | apply below_drew1) | exact HB.out)) hb); clear hb hbox hg))
 go_loopg [3] k (fun kq v3 w' => ∃ (x3_1 : Int), v3 = .int .i64 x3_1 ∧ Aside0 (r15_Fits.l0 kq x3_1 a0_0 l0_1 a0_2 l0_3 l0_4 = some r) ∧ Aside0 (kq ≤ k) ∧ Aside0 (w'.heap[gb389]? = some (.cells #[.string a0_0, (.slice A0_1 l0_1.length c0_1), .int .i64 a0_2, (.slice A0_3 l0_3.length c0_3), (.slice A0_4 l0_4.length c0_4)] 48 (0, 0))) ∧ Aside0 (Below w.heap.size w w'))
 case atStart => exact ⟨(0), (by first | rfl | (simp; done) | (simp [*]; done)), H', ⟨z5 _⟩, ⟨by (with_reducible repeat (first | refine zG ?_ _ | refine zH ?_)); exact BK389.out⟩, ⟨by repeat (first | (with_reducible first | exact HB.out | apply zB | apply zN | apply below_drew1 | refine zE ?_ GE389.out) | exact HB.out)⟩⟩
 case round =>
  clear H'
  try clear p2
  obtain ⟨x3_1, rfl, HA, HK1, BK389, HB⟩ := hrel
  cases gk with
  | zero => exact absurd HA.out (by simp [r15_Fits.l0])
  | succ k1 =>
   have H := HA.out
   clear HA
   simp only [r15_Fits.l0] at H
   by_cases c3 : x3_1 < (l0_4.length : Int)
   ·rw [if_pos c3] at H
    have c3b0 : decide (x3_1 < (l0_4.length : Int)) = true := decide_eq_true c3
    clear c3
    by_cases c4 : 0 ≤ x3_1
    ·rw [if_pos c4] at H
     have c4b0 : decide (0 ≤ x3_1) = true := decide_eq_true c4
     clear c4
     replace H := Option.bind_eq_some_iff.mp H
     obtain ⟨t391, A50, H⟩ := H
     replace H : (if t391 = true then (r15_Fits.l0 k1 (wrap64 (x3_1 + 1)) a0_0 l0_1 a0_2 l0_3 l0_4) else (some false)) = some r := H
     have A5 := zA A50
     clear A50
     by_cases c6 : t391 = true
     ·subst c6
      have H1 : (r15_Fits.l0 k1 (wrap64 (x3_1 + 1)) a0_0 l0_1 a0_2 l0_3 l0_4) = some r := by rw [if_pos rfl] at H; exact H
      clear H
      have H := H1
      clear H1
      have H' := zA H
      clear H
      have hcz7_0 : wr.cell? ⟨gb389, 0, none⟩ = some (.string a0_0) := (zC BK389.out 0).trans rfl
      have hcz7_1 : wr.cell? ⟨gb389, 1, none⟩ = some (.slice A0_1 l0_1.length c0_1) := (zC BK389.out 1).trans rfl
      have hcz7_2 : wr.cell? ⟨gb389, 2, none⟩ = some (.int .i64 a0_2) := (zC BK389.out 2).trans rfl
      have hcz7_3 : wr.cell? ⟨gb389, 3, none⟩ = some (.slice A0_3 l0_3.length c0_3) := (zC BK389.out 3).trans rfl
      have hcz7_4 : wr.cell? ⟨gb389, 4, none⟩ = some (.slice A0_4 l0_4.length c0_4) := (zC BK389.out 4).trans rfl
      have hfz7_0 := zF BK389.out 0
      have hfz7_1 := zF BK389.out 1
      have hfz7_2 := zF BK389.out 2
      have hfz7_3 := zF BK389.out 3
      have hfz7_4 := zF BK389.out 4
      have p390 : 0 ≤ (x3_1 : Int) := zO (by first | (with_reducible assumption) | assumption)
      have q390 : x3_1 < (l0_4.length : Int) := zO (by first | (with_reducible assumption) | assumption)
      obtain ⟨ad390, e390, hx390_0, hx390_1, hx390_2⟩ := at_T109 HR0_4.out x3_1 p390 q390
      cases e390
      replace hx390_0 := (HB.out.cell (zL w _ hx390_0)).trans hx390_0
      replace hx390_1 := (HB.out.cell (zL w _ hx390_1)).trans hx390_1
      replace hx390_2 := (HB.out.cell (zL w _ hx390_2)).trans hx390_2
      replace p390 := eq_true p390
      replace q390 := eq_true q390
      go_wp2_with (first | ((with_reducible refine gate_callee (f := 98) rfl ?_); refine goesL_ (some 16) rfl rfl Tryd.func98 (by kernel_rfl) rfl #[.agg #[.int .i64 ((rd_T109 l0_4 x3_1).f0), .int .i64 ((rd_T109 l0_4 x3_1).f1), .int .i64 ((rd_T109 l0_4 x3_1).f2)]] rfl (by (try simp only [zm, zc, zn]); first | done | rfl | (simp only [zd, zt]; rfl)) ?_; (with_reducible refine (r12_Right.calls k1 ((rd_T109 l0_4 x3_1).f0) ((rd_T109 l0_4 x3_1).f1) ((rd_T109 l0_4 x3_1).f2) true _ A5.out).mono ?_); rintro e w8 ⟨rfl, hb⟩; refine ⟨_, rfl, ?_⟩; replace BK389 := zA (zQ (g := gb389) (o := .cells #[.string a0_0, .slice A0_1 l0_1.length c0_1, .int .i64 a0_2, .slice A0_3 l0_3.length c0_3, .slice (some ad390) l0_4.length c0_4] 48 (0, 0)) (by (with_reducible repeat (first | refine zG ?_ _ | refine zH ?_)); exact BK389.out) hb); replace HB := zA (below_step (by repeat (first | (with_reducible first | exact HB.out | apply zB | apply zN | apply below_drew1 | refine zE ?_ GE389.out) | exact HB.out)) hb); (try clear hb); (try clear hb2); (try clear hk); (try clear hi)))
      go_roundg k1
      case measure => have := HK1.out; omega
      case rel => exact ⟨(wrap64 (x3_1 + 1)), (by first | rfl | (simp; done) | (simp [*]; done)), H', ⟨by have := HK1.out; omega⟩, ⟨by (with_reducible repeat (first | refine zG ?_ _ | refine zH ?_)); exact BK389.out⟩, ⟨by repeat (first | (with_reducible first | exact HB.out | apply zB | apply zN | apply below_drew1 | refine zE ?_ GE389.out) | exact HB.out)⟩⟩
     ·replace c6 := Bool.eq_false_iff.mpr c6
      subst c6
      have H1 : (some false) = some r := by rw [if_neg (show ¬ (false = true) by decide)] at H; exact H
      clear H
      have H := H1
      clear H1
      obtain rfl := zJ H
      have hcz9_0 : wr.cell? ⟨gb389, 0, none⟩ = some (.string a0_0) := (zC BK389.out 0).trans rfl
      have hcz9_1 : wr.cell? ⟨gb389, 1, none⟩ = some (.slice A0_1 l0_1.length c0_1) := (zC BK389.out 1).trans rfl
      have hcz9_2 : wr.cell? ⟨gb389, 2, none⟩ = some (.int .i64 a0_2) := (zC BK389.out 2).trans rfl
      have hcz9_3 : wr.cell? ⟨gb389, 3, none⟩ = some (.slice A0_3 l0_3.length c0_3) := (zC BK389.out 3).trans rfl
      have hcz9_4 : wr.cell? ⟨gb389, 4, none⟩ = some (.slice A0_4 l0_4.length c0_4) := (zC BK389.out 4).trans rfl
      have hfz9_0 := zF BK389.out 0
      have hfz9_1 := zF BK389.out 1
      have hfz9_2 := zF BK389.out 2
      have hfz9_3 := zF BK389.out 3
      have hfz9_4 := zF BK389.out 4
      have p390 : 0 ≤ (x3_1 : Int) := zO (by first | (with_reducible assumption) | assumption)
      have q390 : x3_1 < (l0_4.length : Int) := zO (by first | (with_reducible assumption) | assumption)
      obtain ⟨ad390, e390, hx390_0, hx390_1, hx390_2⟩ := at_T109 HR0_4.out x3_1 p390 q390
      cases e390
      replace hx390_0 := (HB.out.cell (zL w _ hx390_0)).trans hx390_0
      replace hx390_1 := (HB.out.cell (zL w _ hx390_1)).trans hx390_1
      replace hx390_2 := (HB.out.cell (zL w _ hx390_2)).trans hx390_2
      replace p390 := eq_true p390
      replace q390 := eq_true q390
      go_wp2_with (first | ((with_reducible refine gate_callee (f := 98) rfl ?_); refine goesL_ (some 16) rfl rfl Tryd.func98 (by kernel_rfl) rfl #[.agg #[.int .i64 ((rd_T109 l0_4 x3_1).f0), .int .i64 ((rd_T109 l0_4 x3_1).f1), .int .i64 ((rd_T109 l0_4 x3_1).f2)]] rfl (by (try simp only [zm, zc, zn]); first | done | rfl | (simp only [zd, zt]; rfl)) ?_; (with_reducible refine (r12_Right.calls k1 ((rd_T109 l0_4 x3_1).f0) ((rd_T109 l0_4 x3_1).f1) ((rd_T109 l0_4 x3_1).f2) false _ A5.out).mono ?_); rintro e w10 ⟨rfl, hb⟩; refine ⟨_, rfl, ?_⟩; replace BK389 := zA (zQ (g := gb389) (o := .cells #[.string a0_0, .slice A0_1 l0_1.length c0_1, .int .i64 a0_2, .slice A0_3 l0_3.length c0_3, .slice (some ad390) l0_4.length c0_4] 48 (0, 0)) (by (with_reducible repeat (first | refine zG ?_ _ | refine zH ?_)); exact BK389.out) hb); replace HB := zA (below_step (by repeat (first | (with_reducible first | exact HB.out | apply zB | apply zN | apply below_drew1 | refine zE ?_ GE389.out) | exact HB.out)) hb); (try clear hb); (try clear hb2); (try clear hk); (try clear hi)))
      go_ret
      exact ⟨by first | rfl | (simp [errW_none, errW_some] <;> rfl) | (simp [*, errW_none, errW_some] <;> rfl), by repeat (first | (with_reducible first | exact HB.out | apply zB | apply zN | apply below_drew1 | refine zE ?_ GE389.out) | exact HB.out)⟩
    ·rw [if_neg c4] at H
     exact absurd H (by simp)
   ·rw [if_neg c3] at H
    have c3b0 : decide (x3_1 < (l0_4.length : Int)) = false := decide_eq_false c3
    clear c3
    by_cases c11 : (a0_0.size : Int) < 256
    ·rw [if_pos c11] at H
     have c11b0 : decide ((a0_0.size : Int) < 256) = true := decide_eq_true c11
     have c11b1 : decide (a0_0.size < 256) = true := decide_eq_true (by omega)
     clear c11
     by_cases c12 : (l0_1.length : Int) ≤ 8
     ·rw [if_pos c12] at H
      have c12b0 : decide ((l0_1.length : Int) ≤ 8) = true := decide_eq_true c12
      have c12b1 : decide (l0_1.length ≤ 8) = true := decide_eq_true (by omega)
      clear c12
      by_cases c13 : (l0_3.length : Int) ≤ 1024
      ·rw [if_pos c13] at H
       have c13b0 : decide ((l0_3.length : Int) ≤ 1024) = true := decide_eq_true c13
       have c13b1 : decide (l0_3.length ≤ 1024) = true := decide_eq_true (by omega)
       clear c13
       by_cases c14 : (l0_4.length : Int) ≤ 16384
       ·rw [if_pos c14] at H
        have c14b0 : decide ((l0_4.length : Int) ≤ 16384) = true := decide_eq_true c14
        have c14b1 : decide (l0_4.length ≤ 16384) = true := decide_eq_true (by omega)
        clear c14
        replace H := Option.bind_eq_some_iff.mp H
        obtain ⟨t392, A150, H⟩ := H
        replace H : (if t392 = true then ((r15_bytes.f k1 l0_3).bind fun t393 => (if t393 = true then (if a0_2 ≥ 0 then (some (decide (a0_2 < 256))) else (some false)) else (some false))) else (some false)) = some r := H
        have A15 := zA A150
        clear A150
        by_cases c16 : t392 = true
        ·subst c16
         have H1 : ((r15_bytes.f k1 l0_3).bind fun t393 => (if t393 = true then (if a0_2 ≥ 0 then (some (decide (a0_2 < 256))) else (some false)) else (some false))) = some r := by rw [if_pos rfl] at H; exact H
         clear H
         have H := H1
         clear H1
         replace H := Option.bind_eq_some_iff.mp H
         obtain ⟨t393, A170, H⟩ := H
         replace H : (if t393 = true then (if a0_2 ≥ 0 then (some (decide (a0_2 < 256))) else (some false)) else (some false)) = some r := H
         have A17 := zA A170
         clear A170
         by_cases c18 : t393 = true
         ·subst c18
          have H1 : (if a0_2 ≥ 0 then (some (decide (a0_2 < 256))) else (some false)) = some r := by rw [if_pos rfl] at H; exact H
          clear H
          have H := H1
          clear H1
          by_cases c19 : a0_2 ≥ 0
          ·rw [if_pos c19] at H
           have c19b0 : decide (0 ≤ a0_2) = true := decide_eq_true c19
           clear c19
           obtain rfl := zJ H
           have hcz20_0 : wr.cell? ⟨gb389, 0, none⟩ = some (.string a0_0) := (zC BK389.out 0).trans rfl
           have hcz20_1 : wr.cell? ⟨gb389, 1, none⟩ = some (.slice A0_1 l0_1.length c0_1) := (zC BK389.out 1).trans rfl
           have hcz20_2 : wr.cell? ⟨gb389, 2, none⟩ = some (.int .i64 a0_2) := (zC BK389.out 2).trans rfl
           have hcz20_3 : wr.cell? ⟨gb389, 3, none⟩ = some (.slice A0_3 l0_3.length c0_3) := (zC BK389.out 3).trans rfl
           have hcz20_4 : wr.cell? ⟨gb389, 4, none⟩ = some (.slice A0_4 l0_4.length c0_4) := (zC BK389.out 4).trans rfl
           have hfz20_0 := zF BK389.out 0
           have hfz20_1 := zF BK389.out 1
           have hfz20_2 := zF BK389.out 2
           have hfz20_3 := zF BK389.out 3
           have hfz20_4 := zF BK389.out 4
           go_wp2_with (first | (go_at_call 99; (with_reducible refine (r15_bytes.calls k1 _ _ l0_1 true _ ?side1 ?side2 A15.out).mono ?_); (case side1 => repeat (first | exact (zD HR0_1.out HB.out))); (case side2 => exact HC0_1.out); rintro e w' ⟨rfl, ⟨nd, rfl⟩⟩) | (go_at_call 99; (with_reducible refine (r15_bytes.calls k1 _ _ l0_3 true _ ?side1 ?side2 A17.out).mono ?_); (case side1 => repeat (first | exact (zD HR0_3.out (by repeat (first | (with_reducible first | exact HB.out | apply zB | apply zN | apply below_drew1 | refine zE ?_ GE389.out) | exact HB.out))))); (case side2 => exact HC0_3.out); rintro e w' ⟨rfl, ⟨nd, rfl⟩⟩))
           go_ret
           exact ⟨by first | rfl | (simp [errW_none, errW_some] <;> rfl) | (simp [*, errW_none, errW_some] <;> rfl), by repeat (first | (with_reducible first | exact HB.out | apply zB | apply zN | apply below_drew1 | refine zE ?_ GE389.out) | exact HB.out)⟩
          ·rw [if_neg c19] at H
           have c19b0 : decide (0 ≤ a0_2) = false := decide_eq_false c19
           clear c19
           obtain rfl := zJ H
           have hcz21_0 : wr.cell? ⟨gb389, 0, none⟩ = some (.string a0_0) := (zC BK389.out 0).trans rfl
           have hcz21_1 : wr.cell? ⟨gb389, 1, none⟩ = some (.slice A0_1 l0_1.length c0_1) := (zC BK389.out 1).trans rfl
           have hcz21_2 : wr.cell? ⟨gb389, 2, none⟩ = some (.int .i64 a0_2) := (zC BK389.out 2).trans rfl
           have hcz21_3 : wr.cell? ⟨gb389, 3, none⟩ = some (.slice A0_3 l0_3.length c0_3) := (zC BK389.out 3).trans rfl
           have hcz21_4 : wr.cell? ⟨gb389, 4, none⟩ = some (.slice A0_4 l0_4.length c0_4) := (zC BK389.out 4).trans rfl
           have hfz21_0 := zF BK389.out 0
           have hfz21_1 := zF BK389.out 1
           have hfz21_2 := zF BK389.out 2
           have hfz21_3 := zF BK389.out 3
           have hfz21_4 := zF BK389.out 4
           go_wp2_with (first | (go_at_call 99; (with_reducible refine (r15_bytes.calls k1 _ _ l0_1 true _ ?side1 ?side2 A15.out).mono ?_); (case side1 => repeat (first | exact (zD HR0_1.out HB.out))); (case side2 => exact HC0_1.out); rintro e w' ⟨rfl, ⟨nd, rfl⟩⟩) | (go_at_call 99; (with_reducible refine (r15_bytes.calls k1 _ _ l0_3 true _ ?side1 ?side2 A17.out).mono ?_); (case side1 => repeat (first | exact (zD HR0_3.out (by repeat (first | (with_reducible first | exact HB.out | apply zB | apply zN | apply below_drew1 | refine zE ?_ GE389.out) | exact HB.out))))); (case side2 => exact HC0_3.out); rintro e w' ⟨rfl, ⟨nd, rfl⟩⟩))
           go_ret
           exact ⟨by first | rfl | (simp [errW_none, errW_some] <;> rfl) | (simp [*, errW_none, errW_some] <;> rfl), by repeat (first | (with_reducible first | exact HB.out | apply zB | apply zN | apply below_drew1 | refine zE ?_ GE389.out) | exact HB.out)⟩
         ·replace c18 := Bool.eq_false_iff.mpr c18
          subst c18
          have H1 : (some false) = some r := by rw [if_neg (show ¬ (false = true) by decide)] at H; exact H
          clear H
          have H := H1
          clear H1
          obtain rfl := zJ H
          have hcz22_0 : wr.cell? ⟨gb389, 0, none⟩ = some (.string a0_0) := (zC BK389.out 0).trans rfl
          have hcz22_1 : wr.cell? ⟨gb389, 1, none⟩ = some (.slice A0_1 l0_1.length c0_1) := (zC BK389.out 1).trans rfl
          have hcz22_2 : wr.cell? ⟨gb389, 2, none⟩ = some (.int .i64 a0_2) := (zC BK389.out 2).trans rfl
          have hcz22_3 : wr.cell? ⟨gb389, 3, none⟩ = some (.slice A0_3 l0_3.length c0_3) := (zC BK389.out 3).trans rfl
          have hcz22_4 : wr.cell? ⟨gb389, 4, none⟩ = some (.slice A0_4 l0_4.length c0_4) := (zC BK389.out 4).trans rfl
          have hfz22_0 := zF BK389.out 0
          have hfz22_1 := zF BK389.out 1
          have hfz22_2 := zF BK389.out 2
          have hfz22_3 := zF BK389.out 3
          have hfz22_4 := zF BK389.out 4
          go_wp2_with (first | (go_at_call 99; (with_reducible refine (r15_bytes.calls k1 _ _ l0_1 true _ ?side1 ?side2 A15.out).mono ?_); (case side1 => repeat (first | exact (zD HR0_1.out HB.out))); (case side2 => exact HC0_1.out); rintro e w' ⟨rfl, ⟨nd, rfl⟩⟩) | (go_at_call 99; (with_reducible refine (r15_bytes.calls k1 _ _ l0_3 false _ ?side1 ?side2 A17.out).mono ?_); (case side1 => repeat (first | exact (zD HR0_3.out (by repeat (first | (with_reducible first | exact HB.out | apply zB | apply zN | apply below_drew1 | refine zE ?_ GE389.out) | exact HB.out))))); (case side2 => exact HC0_3.out); rintro e w' ⟨rfl, ⟨nd, rfl⟩⟩))
          go_ret
          exact ⟨by first | rfl | (simp [errW_none, errW_some] <;> rfl) | (simp [*, errW_none, errW_some] <;> rfl), by repeat (first | (with_reducible first | exact HB.out | apply zB | apply zN | apply below_drew1 | refine zE ?_ GE389.out) | exact HB.out)⟩
        ·replace c16 := Bool.eq_false_iff.mpr c16
         subst c16
         have H1 : (some false) = some r := by rw [if_neg (show ¬ (false = true) by decide)] at H; exact H
         clear H
         have H := H1
         clear H1
         obtain rfl := zJ H
         have hcz23_0 : wr.cell? ⟨gb389, 0, none⟩ = some (.string a0_0) := (zC BK389.out 0).trans rfl
         have hcz23_1 : wr.cell? ⟨gb389, 1, none⟩ = some (.slice A0_1 l0_1.length c0_1) := (zC BK389.out 1).trans rfl
         have hcz23_2 : wr.cell? ⟨gb389, 2, none⟩ = some (.int .i64 a0_2) := (zC BK389.out 2).trans rfl
         have hcz23_3 : wr.cell? ⟨gb389, 3, none⟩ = some (.slice A0_3 l0_3.length c0_3) := (zC BK389.out 3).trans rfl
         have hcz23_4 : wr.cell? ⟨gb389, 4, none⟩ = some (.slice A0_4 l0_4.length c0_4) := (zC BK389.out 4).trans rfl
         have hfz23_0 := zF BK389.out 0
         have hfz23_1 := zF BK389.out 1
         have hfz23_2 := zF BK389.out 2
         have hfz23_3 := zF BK389.out 3
         have hfz23_4 := zF BK389.out 4
         go_wp2_with (first | (go_at_call 99; (with_reducible refine (r15_bytes.calls k1 _ _ l0_1 false _ ?side1 ?side2 A15.out).mono ?_); (case side1 => repeat (first | exact (zD HR0_1.out HB.out))); (case side2 => exact HC0_1.out); rintro e w' ⟨rfl, ⟨nd, rfl⟩⟩))
         go_ret
         exact ⟨by first | rfl | (simp [errW_none, errW_some] <;> rfl) | (simp [*, errW_none, errW_some] <;> rfl), by repeat (first | (with_reducible first | exact HB.out | apply zB | apply zN | apply below_drew1 | refine zE ?_ GE389.out) | exact HB.out)⟩
       ·rw [if_neg c14] at H
        have c14b0 : decide ((l0_4.length : Int) ≤ 16384) = false := decide_eq_false c14
        have c14b1 : decide (l0_4.length ≤ 16384) = false := decide_eq_false (by omega)
        clear c14
        obtain rfl := zJ H
        have hcz24_0 : wr.cell? ⟨gb389, 0, none⟩ = some (.string a0_0) := (zC BK389.out 0).trans rfl
        have hcz24_1 : wr.cell? ⟨gb389, 1, none⟩ = some (.slice A0_1 l0_1.length c0_1) := (zC BK389.out 1).trans rfl
        have hcz24_2 : wr.cell? ⟨gb389, 2, none⟩ = some (.int .i64 a0_2) := (zC BK389.out 2).trans rfl
        have hcz24_3 : wr.cell? ⟨gb389, 3, none⟩ = some (.slice A0_3 l0_3.length c0_3) := (zC BK389.out 3).trans rfl
        have hcz24_4 : wr.cell? ⟨gb389, 4, none⟩ = some (.slice A0_4 l0_4.length c0_4) := (zC BK389.out 4).trans rfl
        have hfz24_0 := zF BK389.out 0
        have hfz24_1 := zF BK389.out 1
        have hfz24_2 := zF BK389.out 2
        have hfz24_3 := zF BK389.out 3
        have hfz24_4 := zF BK389.out 4
        go_wp2
        go_ret
        exact ⟨by first | rfl | (simp [errW_none, errW_some] <;> rfl) | (simp [*, errW_none, errW_some] <;> rfl), by repeat (first | (with_reducible first | exact HB.out | apply zB | apply zN | apply below_drew1 | refine zE ?_ GE389.out) | exact HB.out)⟩
      ·rw [if_neg c13] at H
       have c13b0 : decide ((l0_3.length : Int) ≤ 1024) = false := decide_eq_false c13
       have c13b1 : decide (l0_3.length ≤ 1024) = false := decide_eq_false (by omega)
       clear c13
       obtain rfl := zJ H
       have hcz25_0 : wr.cell? ⟨gb389, 0, none⟩ = some (.string a0_0) := (zC BK389.out 0).trans rfl
       have hcz25_1 : wr.cell? ⟨gb389, 1, none⟩ = some (.slice A0_1 l0_1.length c0_1) := (zC BK389.out 1).trans rfl
       have hcz25_2 : wr.cell? ⟨gb389, 2, none⟩ = some (.int .i64 a0_2) := (zC BK389.out 2).trans rfl
       have hcz25_3 : wr.cell? ⟨gb389, 3, none⟩ = some (.slice A0_3 l0_3.length c0_3) := (zC BK389.out 3).trans rfl
       have hcz25_4 : wr.cell? ⟨gb389, 4, none⟩ = some (.slice A0_4 l0_4.length c0_4) := (zC BK389.out 4).trans rfl
       have hfz25_0 := zF BK389.out 0
       have hfz25_1 := zF BK389.out 1
       have hfz25_2 := zF BK389.out 2
       have hfz25_3 := zF BK389.out 3
       have hfz25_4 := zF BK389.out 4
       go_wp2
       go_ret
       exact ⟨by first | rfl | (simp [errW_none, errW_some] <;> rfl) | (simp [*, errW_none, errW_some] <;> rfl), by repeat (first | (with_reducible first | exact HB.out | apply zB | apply zN | apply below_drew1 | refine zE ?_ GE389.out) | exact HB.out)⟩
     ·rw [if_neg c12] at H
      have c12b0 : decide ((l0_1.length : Int) ≤ 8) = false := decide_eq_false c12
      have c12b1 : decide (l0_1.length ≤ 8) = false := decide_eq_false (by omega)
      clear c12
      obtain rfl := zJ H
      have hcz26_0 : wr.cell? ⟨gb389, 0, none⟩ = some (.string a0_0) := (zC BK389.out 0).trans rfl
      have hcz26_1 : wr.cell? ⟨gb389, 1, none⟩ = some (.slice A0_1 l0_1.length c0_1) := (zC BK389.out 1).trans rfl
      have hcz26_2 : wr.cell? ⟨gb389, 2, none⟩ = some (.int .i64 a0_2) := (zC BK389.out 2).trans rfl
      have hcz26_3 : wr.cell? ⟨gb389, 3, none⟩ = some (.slice A0_3 l0_3.length c0_3) := (zC BK389.out 3).trans rfl
      have hcz26_4 : wr.cell? ⟨gb389, 4, none⟩ = some (.slice A0_4 l0_4.length c0_4) := (zC BK389.out 4).trans rfl
      have hfz26_0 := zF BK389.out 0
      have hfz26_1 := zF BK389.out 1
      have hfz26_2 := zF BK389.out 2
      have hfz26_3 := zF BK389.out 3
      have hfz26_4 := zF BK389.out 4
      go_wp2
      go_ret
      exact ⟨by first | rfl | (simp [errW_none, errW_some] <;> rfl) | (simp [*, errW_none, errW_some] <;> rfl), by repeat (first | (with_reducible first | exact HB.out | apply zB | apply zN | apply below_drew1 | refine zE ?_ GE389.out) | exact HB.out)⟩
    ·rw [if_neg c11] at H
     have c11b0 : decide ((a0_0.size : Int) < 256) = false := decide_eq_false c11
     have c11b1 : decide (a0_0.size < 256) = false := decide_eq_false (by omega)
     clear c11
     obtain rfl := zJ H
     have hcz27_0 : wr.cell? ⟨gb389, 0, none⟩ = some (.string a0_0) := (zC BK389.out 0).trans rfl
     have hcz27_1 : wr.cell? ⟨gb389, 1, none⟩ = some (.slice A0_1 l0_1.length c0_1) := (zC BK389.out 1).trans rfl
     have hcz27_2 : wr.cell? ⟨gb389, 2, none⟩ = some (.int .i64 a0_2) := (zC BK389.out 2).trans rfl
     have hcz27_3 : wr.cell? ⟨gb389, 3, none⟩ = some (.slice A0_3 l0_3.length c0_3) := (zC BK389.out 3).trans rfl
     have hcz27_4 : wr.cell? ⟨gb389, 4, none⟩ = some (.slice A0_4 l0_4.length c0_4) := (zC BK389.out 4).trans rfl
     have hfz27_0 := zF BK389.out 0
     have hfz27_1 := zF BK389.out 1
     have hfz27_2 := zF BK389.out 2
     have hfz27_3 := zF BK389.out 3
     have hfz27_4 := zF BK389.out 4
     go_wp2
     go_ret
     exact ⟨by first | rfl | (simp [errW_none, errW_some] <;> rfl) | (simp [*, errW_none, errW_some] <;> rfl), by repeat (first | (with_reducible first | exact HB.out | apply zB | apply zN | apply below_drew1 | refine zE ?_ GE389.out) | exact HB.out)⟩

end Go.Proofs.YtdbfgfgbjheibaaDoor.PBx
