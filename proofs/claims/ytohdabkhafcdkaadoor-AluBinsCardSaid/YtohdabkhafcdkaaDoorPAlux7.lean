/- Printed by a program of this session (wip/pg.py, over the print of the kit): functions, their Lean twins, and the proofs that the calls come to them; each under the conditions that it names. -/
import Derived.Test.YtohdabkhafcdkaaDoorPAlux0
import Derived.Test.YtohdabkhafcdkaaDoorPAlux3
import Derived.Test.YtohdabkhafcdkaaDoorPAlux4
import Derived.Test.YtohdabkhafcdkaaDoorPAlux5
import Derived.Test.YtohdabkhafcdkaaDoorPAlux6
namespace Go.Proofs.YtohdabkhafcdkaaDoor.PAlu
open Go.Proofs.YtohdabkhafcdkaaDoor.Given
open Go.RowKit Go.Proofs.YtohdabkhafcdkaaDoorW.PrintWords Go.Proofs.YtohdabkhafcdkaaDoorW.PrintLast Go.Proofs.YtohdabkhafcdkaaDoorW.PrintMore
attribute [local go_sem] max2_int min2_int max_two min_two max_three min_three max_four min_four   -- for this text's walks alone
set_option linter.unusedVariables false
set_option linter.unusedSimpArgs false

/-! ### ladderbackref07_Bin: function 25 -/
mutual
def ladderbackref07_Bin.j0 : Nat → Int → Int → Int → Int → Int → Bool → Option (Int × Int × Bool)
  | 0, _, _, _, _, _, _ => none
  | k + 1, x0, x1, x2, x3, x11, x18 => if x18 = true then (ladderbackref07_Bin.j1 k x0 x1 x2 x3 2) else (ladderbackref07_Bin.j1 k x0 x1 x2 x3 x11)
def ladderbackref07_Bin.j1 : Nat → Int → Int → Int → Int → Int → Option (Int × Int × Bool)
  | 0, _, _, _, _, _ => none
  | k + 1, x0, x1, x2, x3, x11 => (ladderbackref07_Binary.f x0).bind fun t175 => (if t175 = true then ((ladderbackref07_Goes.f k x0 x1).bind fun t176 => (if t176 = true then ((ladderbackref01_In.f x1 x2).bind fun t177 => (if t177 = true then ((ladderbackref01_In.f x11 x3).bind fun t178 => (ladderbackref07_Bin.j2 k x0 x1 x2 x3 (!t178))) else (ladderbackref07_Bin.j2 k x0 x1 x2 x3 true))) else (ladderbackref07_Bin.j2 k x0 x1 x2 x3 true))) else (ladderbackref07_Bin.j2 k x0 x1 x2 x3 true))
def ladderbackref07_Bin.j2 : Nat → Int → Int → Int → Int → Bool → Option (Int × Int × Bool)
  | 0, _, _, _, _, _ => none
  | k + 1, x0, x1, x2, x3, x39 => if x39 = true then (some (0, 0, false)) else (if x0 = 8 then ((ladderbackref01_Wrap.f x1 (wrap64 (x2 + x3))).bind fun t179 => (some (t179, 0, true))) else (if x0 = 9 then ((ladderbackref01_Wrap.f x1 (wrap64 (x2 - x3))).bind fun t180 => (some (t180, 0, true))) else (if x0 = 10 then ((ladderbackref01_Wrap.f x1 (wrap64 (x2 * x3))).bind fun t181 => (some (t181, 0, true))) else (if x0 = 11 then (ladderbackref07_Bin.j3 k x0 x1 x2 x3 true) else (ladderbackref07_Bin.j3 k x0 x1 x2 x3 (x0 == 12))))))
def ladderbackref07_Bin.j3 : Nat → Int → Int → Int → Int → Bool → Option (Int × Int × Bool)
  | 0, _, _, _, _, _ => none
  | k + 1, x0, x1, x2, x3, x66 => if x66 = true then (if x3 = 0 then (some (0, 2, true)) else (if x0 = 11 then ((ladderbackref01_Wrap.f x1 (wrap64 (Int.tdiv x2 x3))).bind fun t182 => (some (t182, 0, true))) else (some (wrap64 (x2 - (wrap64 ((wrap64 (Int.tdiv x2 x3)) * x3))), 0, true)))) else (if x0 ≤ 16 then ((ladderbackref07_bits.f k x0 x2 x3).bind fun t183 => (some (t183, 0, true))) else (if x0 ≤ 19 then ((ladderbackref07_shift.f k x0 x1 x2 x3).bind fun t184 => (some (t184, 0, true))) else ((ladderbackref07_so.f x0 x2 x3).bind fun t185 => (if t185 = true then (some (1, 0, true)) else (some (0, 0, true))))))
end
def ladderbackref07_Bin.f (k : Nat) (a0 : Int) (a1 : Int) (a2 : Int) (a3 : Int) : Option (Int × Int × Bool) := if a0 = 18 then (ladderbackref07_Bin.j0 k a0 a1 a2 a3 a1 true) else (ladderbackref07_Bin.j0 k a0 a1 a2 a3 a1 (a0 == 19))
theorem ladderbackref07_Bin.mono_l : ∀ k, (∀ y0 y1 y2 y3 y4 y5, LeO (ladderbackref07_Bin.j0 k y0 y1 y2 y3 y4 y5) (ladderbackref07_Bin.j0 (k + 1) y0 y1 y2 y3 y4 y5)) ∧ (∀ y0 y1 y2 y3 y4, LeO (ladderbackref07_Bin.j1 k y0 y1 y2 y3 y4) (ladderbackref07_Bin.j1 (k + 1) y0 y1 y2 y3 y4)) ∧ (∀ y0 y1 y2 y3 y4, LeO (ladderbackref07_Bin.j2 k y0 y1 y2 y3 y4) (ladderbackref07_Bin.j2 (k + 1) y0 y1 y2 y3 y4)) ∧ (∀ y0 y1 y2 y3 y4, LeO (ladderbackref07_Bin.j3 k y0 y1 y2 y3 y4) (ladderbackref07_Bin.j3 (k + 1) y0 y1 y2 y3 y4))
  | 0 => ⟨fun _ _ _ _ _ _ r h => by simp [ladderbackref07_Bin.j0] at h, fun _ _ _ _ _ r h => by simp [ladderbackref07_Bin.j1] at h, fun _ _ _ _ _ r h => by simp [ladderbackref07_Bin.j2] at h, fun _ _ _ _ _ r h => by simp [ladderbackref07_Bin.j3] at h⟩
  | k + 1 => by
    obtain ⟨ih0, ih1, ih2, ih3⟩ := ladderbackref07_Bin.mono_l k
    refine ⟨?_, ?_, ?_, ?_⟩
    · intro y0 y1 y2 y3 y4 y5
      unfold ladderbackref07_Bin.j0
      repeat' first
      | (with_reducible exact ih0 _ _ _ _ _ _)
      | (with_reducible exact ih1 _ _ _ _ _)
      | (with_reducible exact ih2 _ _ _ _ _)
      | (with_reducible exact ih3 _ _ _ _ _)
      | (with_reducible exact ladderbackref07_Goes.mono _ _ _)
      | (with_reducible exact ladderbackref07_bits.mono _ _ _ _)
      | (with_reducible exact ladderbackref07_shift.mono _ _ _ _ _)
      | (with_reducible exact LeO.refl _)
      | (with_reducible exact LeO.none _)
      | (with_reducible refine LeO.ite ?_ ?_)
      | (with_reducible refine LeO.bind ?_ (fun _ => ?_))
      | exact ih0 _ _ _ _ _ _
      | exact ih1 _ _ _ _ _
      | exact ih2 _ _ _ _ _
      | exact ih3 _ _ _ _ _
      | exact ladderbackref07_Goes.mono _ _ _
      | exact ladderbackref07_bits.mono _ _ _ _
      | exact ladderbackref07_shift.mono _ _ _ _ _
      | exact LeO.none _
      | refine LeO.ite ?_ ?_
      | refine LeO.bind ?_ (fun _ => ?_)
    · intro y0 y1 y2 y3 y4
      unfold ladderbackref07_Bin.j1
      repeat' first
      | (with_reducible exact ih0 _ _ _ _ _ _)
      | (with_reducible exact ih1 _ _ _ _ _)
      | (with_reducible exact ih2 _ _ _ _ _)
      | (with_reducible exact ih3 _ _ _ _ _)
      | (with_reducible exact ladderbackref07_Goes.mono _ _ _)
      | (with_reducible exact ladderbackref07_bits.mono _ _ _ _)
      | (with_reducible exact ladderbackref07_shift.mono _ _ _ _ _)
      | (with_reducible exact LeO.refl _)
      | (with_reducible exact LeO.none _)
      | (with_reducible refine LeO.ite ?_ ?_)
      | (with_reducible refine LeO.bind ?_ (fun _ => ?_))
      | exact ih0 _ _ _ _ _ _
      | exact ih1 _ _ _ _ _
      | exact ih2 _ _ _ _ _
      | exact ih3 _ _ _ _ _
      | exact ladderbackref07_Goes.mono _ _ _
      | exact ladderbackref07_bits.mono _ _ _ _
      | exact ladderbackref07_shift.mono _ _ _ _ _
      | exact LeO.none _
      | refine LeO.ite ?_ ?_
      | refine LeO.bind ?_ (fun _ => ?_)
    · intro y0 y1 y2 y3 y4
      unfold ladderbackref07_Bin.j2
      repeat' first
      | (with_reducible exact ih0 _ _ _ _ _ _)
      | (with_reducible exact ih1 _ _ _ _ _)
      | (with_reducible exact ih2 _ _ _ _ _)
      | (with_reducible exact ih3 _ _ _ _ _)
      | (with_reducible exact ladderbackref07_Goes.mono _ _ _)
      | (with_reducible exact ladderbackref07_bits.mono _ _ _ _)
      | (with_reducible exact ladderbackref07_shift.mono _ _ _ _ _)
      | (with_reducible exact LeO.refl _)
      | (with_reducible exact LeO.none _)
      | (with_reducible refine LeO.ite ?_ ?_)
      | (with_reducible refine LeO.bind ?_ (fun _ => ?_))
      | exact ih0 _ _ _ _ _ _
      | exact ih1 _ _ _ _ _
      | exact ih2 _ _ _ _ _
      | exact ih3 _ _ _ _ _
      | exact ladderbackref07_Goes.mono _ _ _
      | exact ladderbackref07_bits.mono _ _ _ _
      | exact ladderbackref07_shift.mono _ _ _ _ _
      | exact LeO.none _
      | refine LeO.ite ?_ ?_
      | refine LeO.bind ?_ (fun _ => ?_)
    · intro y0 y1 y2 y3 y4
      unfold ladderbackref07_Bin.j3
      repeat' first
      | (with_reducible exact ih0 _ _ _ _ _ _)
      | (with_reducible exact ih1 _ _ _ _ _)
      | (with_reducible exact ih2 _ _ _ _ _)
      | (with_reducible exact ih3 _ _ _ _ _)
      | (with_reducible exact ladderbackref07_Goes.mono _ _ _)
      | (with_reducible exact ladderbackref07_bits.mono _ _ _ _)
      | (with_reducible exact ladderbackref07_shift.mono _ _ _ _ _)
      | (with_reducible exact LeO.refl _)
      | (with_reducible exact LeO.none _)
      | (with_reducible refine LeO.ite ?_ ?_)
      | (with_reducible refine LeO.bind ?_ (fun _ => ?_))
      | exact ih0 _ _ _ _ _ _
      | exact ih1 _ _ _ _ _
      | exact ih2 _ _ _ _ _
      | exact ih3 _ _ _ _ _
      | exact ladderbackref07_Goes.mono _ _ _
      | exact ladderbackref07_bits.mono _ _ _ _
      | exact ladderbackref07_shift.mono _ _ _ _ _
      | exact LeO.none _
      | refine LeO.ite ?_ ?_
      | refine LeO.bind ?_ (fun _ => ?_)
theorem ladderbackref07_Bin.mono : ∀ a0 a1 a2 a3 k, LeO (ladderbackref07_Bin.f k a0 a1 a2 a3) (ladderbackref07_Bin.f (k + 1) a0 a1 a2 a3) := by
  intro a0 a1 a2 a3 k
  obtain ⟨ih0, ih1, ih2, ih3⟩ := ladderbackref07_Bin.mono_l k
  unfold ladderbackref07_Bin.f
  repeat' first
      | (with_reducible exact ih0 _ _ _ _ _ _)
      | (with_reducible exact ih1 _ _ _ _ _)
      | (with_reducible exact ih2 _ _ _ _ _)
      | (with_reducible exact ih3 _ _ _ _ _)
      | (with_reducible exact ladderbackref07_Goes.mono _ _ _)
      | (with_reducible exact ladderbackref07_bits.mono _ _ _ _)
      | (with_reducible exact ladderbackref07_shift.mono _ _ _ _ _)
      | (with_reducible exact LeO.refl _)
      | (with_reducible exact LeO.none _)
      | (with_reducible refine LeO.ite ?_ ?_)
      | (with_reducible refine LeO.bind ?_ (fun _ => ?_))
      | exact ih0 _ _ _ _ _ _
      | exact ih1 _ _ _ _ _
      | exact ih2 _ _ _ _ _
      | exact ih3 _ _ _ _ _
      | exact ladderbackref07_Goes.mono _ _ _
      | exact ladderbackref07_bits.mono _ _ _ _
      | exact ladderbackref07_shift.mono _ _ _ _ _
      | exact LeO.none _
      | refine LeO.ite ?_ ?_
      | refine LeO.bind ?_ (fun _ => ?_)
set_option maxHeartbeats 8000000 in
set_option maxRecDepth 100000 in
theorem ladderbackref07_Bin.calls (k : Nat) (a0 : Int) (a1 : Int) (a2 : Int) (a3 : Int) (r1 : Int) (r2 : Int) (r3 : Bool) (w : World) (h : ladderbackref07_Bin.f k a0 a1 a2 a3 = some (r1, r2, r3)) :
    Calls Tryd.prog 25 #[.int .i64 a0, .int .i64 a1, .int .i64 a2, .int .i64 a3] w fun e w' => e = .returned (.tuple #[.int .i64 r1, .int .i64 r2, .bool r3]) ∧ Drawn0 w w' := by
  have H : (if a0 = 18 then (ladderbackref07_Bin.j0 k a0 a1 a2 a3 a1 true) else (ladderbackref07_Bin.j0 k a0 a1 a2 a3 a1 (a0 == 19))) = some (r1, r2, r3) := h
  clear h
  have HC5 := Aside0.mk H
  clear H
  go_enter Tryd.func25, Tryd.ntmps25
  go_upto_region 2 with (fail)
  go_cut [18] (fun v18 wc => ∃ (kq : Nat) (x18_4 : Bool), v18 = .bool x18_4 ∧ Aside0 (ladderbackref07_Bin.j0 kq a0 a1 a2 a3 a1 x18_4 = some (r1, r2, r3)) ∧ Aside0 (kq ≤ k) ∧ Drawn0 w wc)
  case first =>
    have H := HC5.out
    clear HC5
    by_cases c6 : a0 = 18
    · rw [if_pos c6] at H
      have c6b0 : (a0 == 18) = true := beq_iff_eq.mpr c6
      have c6b1 : (a0 != 18) = false := bne_eq_false_iff_eq.mpr c6
      clear c6
      (first | rw [c6b0] | (simp only [i64_w, i32_w]; rw [c6b0]) | skip)
      have H' := Aside0.mk H
      clear H
      go_wp2
      go_meet
      case rel => exact ⟨_, (true), (by first | rfl | (simp; done) | (simp [*]; done)), H', ⟨by first | omega | exact Nat.le_refl _⟩, by repeat (first | exact Drawn0.refl _ | apply Drawn0.step)⟩
    · rw [if_neg c6] at H
      have c6b0 : (a0 == 18) = false := beq_eq_false_iff_ne.mpr c6
      have c6b1 : (a0 != 18) = true := bne_iff_ne.mpr c6
      (first | rw [c6b0] | (simp only [i64_w, i32_w]; rw [c6b0]) | skip)
      have H' := Aside0.mk H
      clear H
      go_wp2
      go_meet
      case rel => exact ⟨_, ((a0 == 19)), (by first | rfl | (simp; done) | (simp [*]; done)), H', ⟨by first | omega | exact Nat.le_refl _⟩, by repeat (first | exact Drawn0.refl _ | apply Drawn0.step)⟩
  case rest =>
    clear HC5
    try clear c2
    try clear p2
    try clear c6
    try clear c6b0
    try clear c6b1
    obtain ⟨kq, x18_4, rfl, HA, HJ4, ⟨mc4, rfl⟩⟩ := hcut
    cases kq with
    | zero => exact absurd HA.out (by simp [ladderbackref07_Bin.j0])
    | succ kj4 =>
      have H := HA.out
      clear HA
      simp only [ladderbackref07_Bin.j0] at H
      have HC7 := Aside0.mk H
      clear H
      go_upto_if 18 with (fail)
      go_cut [11] (fun v11 wc => ∃ (kq : Nat) (x11_6 : Int), v11 = .int .i64 x11_6 ∧ Aside0 (ladderbackref07_Bin.j1 kq a0 a1 a2 a3 x11_6 = some (r1, r2, r3)) ∧ Aside0 (kq ≤ kj4) ∧ Drawn0 w wc)
      case first =>
        have H := HC7.out
        clear HC7
        by_cases c8 : x18_4 = true
        · subst c8
          have H1 : (ladderbackref07_Bin.j1 kj4 a0 a1 a2 a3 2) = some (r1, r2, r3) := by rw [if_pos rfl] at H; exact H
          clear H
          have H := H1
          clear H1
          have H' := Aside0.mk H
          clear H
          go_wp2
          go_meet
          case rel => exact ⟨_, (2), (by first | rfl | (simp; done) | (simp [*]; done)), H', ⟨by have := HJ4.out; first | omega | exact Nat.le_refl _⟩, by repeat (first | exact Drawn0.refl _ | apply Drawn0.step)⟩
        · replace c8 := Bool.eq_false_iff.mpr c8
          subst c8
          have H1 : (ladderbackref07_Bin.j1 kj4 a0 a1 a2 a3 a1) = some (r1, r2, r3) := by rw [if_neg (show ¬ (false = true) by decide)] at H; exact H
          clear H
          have H := H1
          clear H1
          have H' := Aside0.mk H
          clear H
          go_wp2
          go_meet
          case rel => exact ⟨_, (a1), (by first | rfl | (simp; done) | (simp [*]; done)), H', ⟨by have := HJ4.out; first | omega | exact Nat.le_refl _⟩, by repeat (first | exact Drawn0.refl _ | apply Drawn0.step)⟩
      case rest =>
        clear HC7
        try clear c2
        try clear p2
        try clear c4
        try clear c6
        try clear c6b0
        try clear c6b1
        try clear c8
        try clear p2
        obtain ⟨kq, x11_6, rfl, HA, HJ6, ⟨mc6, rfl⟩⟩ := hcut
        cases kq with
        | zero => exact absurd HA.out (by simp [ladderbackref07_Bin.j1])
        | succ kj6 =>
          have H := HA.out
          clear HA
          simp only [ladderbackref07_Bin.j1] at H
          have HC9 := Aside0.mk H
          clear H
          go_upto_region 4 with (fail)
          go_cut [39] (fun v39 wc => ∃ (kq : Nat) (x39_8 : Bool), v39 = .bool x39_8 ∧ Aside0 (ladderbackref07_Bin.j2 kq a0 a1 a2 a3 x39_8 = some (r1, r2, r3)) ∧ Aside0 (kq ≤ kj6) ∧ Drawn0 w wc)
          case first =>
            have H := HC9.out
            clear HC9
            replace H := Option.bind_eq_some_iff.mp H
            obtain ⟨t175, A100, H⟩ := H
            replace H : (if t175 = true then ((ladderbackref07_Goes.f kj6 a0 a1).bind fun t176 => (if t176 = true then ((ladderbackref01_In.f a1 a2).bind fun t177 => (if t177 = true then ((ladderbackref01_In.f x11_6 a3).bind fun t178 => (ladderbackref07_Bin.j2 kj6 a0 a1 a2 a3 (!t178))) else (ladderbackref07_Bin.j2 kj6 a0 a1 a2 a3 true))) else (ladderbackref07_Bin.j2 kj6 a0 a1 a2 a3 true))) else (ladderbackref07_Bin.j2 kj6 a0 a1 a2 a3 true)) = some (r1, r2, r3) := H
            have A10 := Aside0.mk A100
            clear A100
            by_cases c11 : t175 = true
            · subst c11
              have H1 : ((ladderbackref07_Goes.f kj6 a0 a1).bind fun t176 => (if t176 = true then ((ladderbackref01_In.f a1 a2).bind fun t177 => (if t177 = true then ((ladderbackref01_In.f x11_6 a3).bind fun t178 => (ladderbackref07_Bin.j2 kj6 a0 a1 a2 a3 (!t178))) else (ladderbackref07_Bin.j2 kj6 a0 a1 a2 a3 true))) else (ladderbackref07_Bin.j2 kj6 a0 a1 a2 a3 true))) = some (r1, r2, r3) := by rw [if_pos rfl] at H; exact H
              clear H
              have H := H1
              clear H1
              replace H := Option.bind_eq_some_iff.mp H
              obtain ⟨t176, A120, H⟩ := H
              replace H : (if t176 = true then ((ladderbackref01_In.f a1 a2).bind fun t177 => (if t177 = true then ((ladderbackref01_In.f x11_6 a3).bind fun t178 => (ladderbackref07_Bin.j2 kj6 a0 a1 a2 a3 (!t178))) else (ladderbackref07_Bin.j2 kj6 a0 a1 a2 a3 true))) else (ladderbackref07_Bin.j2 kj6 a0 a1 a2 a3 true)) = some (r1, r2, r3) := H
              have A12 := Aside0.mk A120
              clear A120
              by_cases c13 : t176 = true
              · subst c13
                have H1 : ((ladderbackref01_In.f a1 a2).bind fun t177 => (if t177 = true then ((ladderbackref01_In.f x11_6 a3).bind fun t178 => (ladderbackref07_Bin.j2 kj6 a0 a1 a2 a3 (!t178))) else (ladderbackref07_Bin.j2 kj6 a0 a1 a2 a3 true))) = some (r1, r2, r3) := by rw [if_pos rfl] at H; exact H
                clear H
                have H := H1
                clear H1
                replace H := Option.bind_eq_some_iff.mp H
                obtain ⟨t177, A140, H⟩ := H
                replace H : (if t177 = true then ((ladderbackref01_In.f x11_6 a3).bind fun t178 => (ladderbackref07_Bin.j2 kj6 a0 a1 a2 a3 (!t178))) else (ladderbackref07_Bin.j2 kj6 a0 a1 a2 a3 true)) = some (r1, r2, r3) := H
                have A14 := Aside0.mk A140
                clear A140
                by_cases c15 : t177 = true
                · subst c15
                  have H1 : ((ladderbackref01_In.f x11_6 a3).bind fun t178 => (ladderbackref07_Bin.j2 kj6 a0 a1 a2 a3 (!t178))) = some (r1, r2, r3) := by rw [if_pos rfl] at H; exact H
                  clear H
                  have H := H1
                  clear H1
                  replace H := Option.bind_eq_some_iff.mp H
                  obtain ⟨t178, A160, H⟩ := H
                  replace H : (ladderbackref07_Bin.j2 kj6 a0 a1 a2 a3 (!t178)) = some (r1, r2, r3) := H
                  have A16 := Aside0.mk A160
                  clear A160
                  have H' := Aside0.mk H
                  clear H
                  go_wp2_with (first | ((with_reducible refine gate_callee (f := 29) rfl ?_); refine goesL_ (some 20) rfl rfl Tryd.func29 (by kernel_rfl) rfl #[.int .i64 a0] rfl (by (try simp only [List.map_toArray, List.map_cons, List.map_nil]); first | done | rfl | (simp only [List.length_drop, List.length_take]; rfl)) ?_; (with_reducible refine (ladderbackref07_Binary.calls a0 true _ A10.out).mono ?_); rintro e w' ⟨rfl, ⟨nd, rfl⟩⟩; refine ⟨_, rfl, ?_⟩) | (go_at_call 27; (with_reducible refine (ladderbackref07_Goes.calls kj6 a0 a1 true _ A12.out).mono ?_); rintro e w' ⟨rfl, ⟨nd, rfl⟩⟩) | (go_at_call 12; (with_reducible refine (ladderbackref01_In.calls a1 a2 true _ A14.out).mono ?_); rintro e w' ⟨rfl, ⟨nd, rfl⟩⟩) | (go_at_call 12; (with_reducible refine (ladderbackref01_In.calls x11_6 a3 t178 _ A16.out).mono ?_); rintro e w' ⟨rfl, ⟨nd, rfl⟩⟩))
                  go_meet
                  case rel => exact ⟨_, (!t178), (by first | rfl | (simp; done) | (simp [*]; done)), H', ⟨by have := HJ4.out; have := HJ6.out; first | omega | exact Nat.le_refl _⟩, by repeat (first | exact Drawn0.refl _ | apply Drawn0.step)⟩
                · replace c15 := Bool.eq_false_iff.mpr c15
                  subst c15
                  have H1 : (ladderbackref07_Bin.j2 kj6 a0 a1 a2 a3 true) = some (r1, r2, r3) := by rw [if_neg (show ¬ (false = true) by decide)] at H; exact H
                  clear H
                  have H := H1
                  clear H1
                  have H' := Aside0.mk H
                  clear H
                  go_wp2_with (first | ((with_reducible refine gate_callee (f := 29) rfl ?_); refine goesL_ (some 20) rfl rfl Tryd.func29 (by kernel_rfl) rfl #[.int .i64 a0] rfl (by (try simp only [List.map_toArray, List.map_cons, List.map_nil]); first | done | rfl | (simp only [List.length_drop, List.length_take]; rfl)) ?_; (with_reducible refine (ladderbackref07_Binary.calls a0 true _ A10.out).mono ?_); rintro e w' ⟨rfl, ⟨nd, rfl⟩⟩; refine ⟨_, rfl, ?_⟩) | (go_at_call 27; (with_reducible refine (ladderbackref07_Goes.calls kj6 a0 a1 true _ A12.out).mono ?_); rintro e w' ⟨rfl, ⟨nd, rfl⟩⟩) | (go_at_call 12; (with_reducible refine (ladderbackref01_In.calls a1 a2 false _ A14.out).mono ?_); rintro e w' ⟨rfl, ⟨nd, rfl⟩⟩))
                  go_meet
                  case rel => exact ⟨_, (true), (by first | rfl | (simp; done) | (simp [*]; done)), H', ⟨by have := HJ4.out; have := HJ6.out; first | omega | exact Nat.le_refl _⟩, by repeat (first | exact Drawn0.refl _ | apply Drawn0.step)⟩
              · replace c13 := Bool.eq_false_iff.mpr c13
                subst c13
                have H1 : (ladderbackref07_Bin.j2 kj6 a0 a1 a2 a3 true) = some (r1, r2, r3) := by rw [if_neg (show ¬ (false = true) by decide)] at H; exact H
                clear H
                have H := H1
                clear H1
                have H' := Aside0.mk H
                clear H
                go_wp2_with (first | ((with_reducible refine gate_callee (f := 29) rfl ?_); refine goesL_ (some 20) rfl rfl Tryd.func29 (by kernel_rfl) rfl #[.int .i64 a0] rfl (by (try simp only [List.map_toArray, List.map_cons, List.map_nil]); first | done | rfl | (simp only [List.length_drop, List.length_take]; rfl)) ?_; (with_reducible refine (ladderbackref07_Binary.calls a0 true _ A10.out).mono ?_); rintro e w' ⟨rfl, ⟨nd, rfl⟩⟩; refine ⟨_, rfl, ?_⟩) | (go_at_call 27; (with_reducible refine (ladderbackref07_Goes.calls kj6 a0 a1 false _ A12.out).mono ?_); rintro e w' ⟨rfl, ⟨nd, rfl⟩⟩))
                go_meet
                case rel => exact ⟨_, (true), (by first | rfl | (simp; done) | (simp [*]; done)), H', ⟨by have := HJ4.out; have := HJ6.out; first | omega | exact Nat.le_refl _⟩, by repeat (first | exact Drawn0.refl _ | apply Drawn0.step)⟩
            · replace c11 := Bool.eq_false_iff.mpr c11
              subst c11
              have H1 : (ladderbackref07_Bin.j2 kj6 a0 a1 a2 a3 true) = some (r1, r2, r3) := by rw [if_neg (show ¬ (false = true) by decide)] at H; exact H
              clear H
              have H := H1
              clear H1
              have H' := Aside0.mk H
              clear H
              go_wp2_with (first | ((with_reducible refine gate_callee (f := 29) rfl ?_); refine goesL_ (some 20) rfl rfl Tryd.func29 (by kernel_rfl) rfl #[.int .i64 a0] rfl (by (try simp only [List.map_toArray, List.map_cons, List.map_nil]); first | done | rfl | (simp only [List.length_drop, List.length_take]; rfl)) ?_; (with_reducible refine (ladderbackref07_Binary.calls a0 false _ A10.out).mono ?_); rintro e w' ⟨rfl, ⟨nd, rfl⟩⟩; refine ⟨_, rfl, ?_⟩))
              go_meet
              case rel => exact ⟨_, (true), (by first | rfl | (simp; done) | (simp [*]; done)), H', ⟨by have := HJ4.out; have := HJ6.out; first | omega | exact Nat.le_refl _⟩, by repeat (first | exact Drawn0.refl _ | apply Drawn0.step)⟩
          case rest =>
            clear HC9
            try clear c1
            try clear c2
            try clear p2
            try clear c4
            try clear c6
            try clear c6b0
            try clear c6b1
            try clear c8
            try clear c11
            try clear c13
            try clear c15
            try clear p2
            obtain ⟨kq, x39_8, rfl, HA, HJ8, ⟨mc8, rfl⟩⟩ := hcut
            cases kq with
            | zero => exact absurd HA.out (by simp [ladderbackref07_Bin.j2])
            | succ kj8 =>
              have H := HA.out
              clear HA
              simp only [ladderbackref07_Bin.j2] at H
              by_cases c17 : x39_8 = true
              · subst c17
                have H1 : (some (0, 0, false)) = some (r1, r2, r3) := by rw [if_pos rfl] at H; exact H
                clear H
                have H := H1
                clear H1
                simp only [Option.some.injEq, Prod.mk.injEq] at H
                obtain ⟨rfl, rfl, rfl⟩ := H
                go_wp2
                go_ret3
                exact ⟨by first | rfl | (simp; done) | (simp [*]; done), by repeat (first | exact Drawn0.refl _ | apply Drawn0.step)⟩
              · replace c17 := Bool.eq_false_iff.mpr c17
                subst c17
                have H1 : (if a0 = 8 then ((ladderbackref01_Wrap.f a1 (wrap64 (a2 + a3))).bind fun t179 => (some (t179, 0, true))) else (if a0 = 9 then ((ladderbackref01_Wrap.f a1 (wrap64 (a2 - a3))).bind fun t180 => (some (t180, 0, true))) else (if a0 = 10 then ((ladderbackref01_Wrap.f a1 (wrap64 (a2 * a3))).bind fun t181 => (some (t181, 0, true))) else (if a0 = 11 then (ladderbackref07_Bin.j3 kj8 a0 a1 a2 a3 true) else (ladderbackref07_Bin.j3 kj8 a0 a1 a2 a3 (a0 == 12)))))) = some (r1, r2, r3) := by rw [if_neg (show ¬ (false = true) by decide)] at H; exact H
                clear H
                have H := H1
                clear H1
                by_cases c18 : a0 = 8
                · rw [if_pos c18] at H
                  have c18b0 : (a0 == 8) = true := beq_iff_eq.mpr c18
                  have c18b1 : (a0 != 8) = false := bne_eq_false_iff_eq.mpr c18
                  clear c18
                  replace H := Option.bind_eq_some_iff.mp H
                  obtain ⟨t179, A190, H⟩ := H
                  replace H : (some (t179, 0, true)) = some (r1, r2, r3) := H
                  have A19 := Aside0.mk A190
                  clear A190
                  simp only [Option.some.injEq, Prod.mk.injEq] at H
                  obtain ⟨rfl, rfl, rfl⟩ := H
                  go_wp2_with (first | ((with_reducible refine gate_callee (f := 10) rfl ?_); refine goesL_ (some 46) rfl rfl Tryd.func10 (by kernel_rfl) rfl #[.int .i64 a1, .int .i64 (wrap64 (a2 + a3))] rfl (by (try simp only [List.map_toArray, List.map_cons, List.map_nil]); first | done | rfl | (simp only [List.length_drop, List.length_take]; rfl)) ?_; (with_reducible refine (ladderbackref01_Wrap.calls a1 (wrap64 (a2 + a3)) t179 _ A19.out).mono ?_); rintro e w' ⟨rfl, ⟨nd, rfl⟩⟩; refine ⟨_, rfl, ?_⟩))
                  go_ret3
                  exact ⟨by first | rfl | (simp; done) | (simp [*]; done), by repeat (first | exact Drawn0.refl _ | apply Drawn0.step)⟩
                · rw [if_neg c18] at H
                  have c18b0 : (a0 == 8) = false := beq_eq_false_iff_ne.mpr c18
                  have c18b1 : (a0 != 8) = true := bne_iff_ne.mpr c18
                  by_cases c20 : a0 = 9
                  · rw [if_pos c20] at H
                    have c20b0 : (a0 == 9) = true := beq_iff_eq.mpr c20
                    have c20b1 : (a0 != 9) = false := bne_eq_false_iff_eq.mpr c20
                    clear c20
                    replace H := Option.bind_eq_some_iff.mp H
                    obtain ⟨t180, A210, H⟩ := H
                    replace H : (some (t180, 0, true)) = some (r1, r2, r3) := H
                    have A21 := Aside0.mk A210
                    clear A210
                    simp only [Option.some.injEq, Prod.mk.injEq] at H
                    obtain ⟨rfl, rfl, rfl⟩ := H
                    go_wp2_with (first | ((with_reducible refine gate_callee (f := 10) rfl ?_); refine goesL_ (some 53) rfl rfl Tryd.func10 (by kernel_rfl) rfl #[.int .i64 a1, .int .i64 (wrap64 (a2 - a3))] rfl (by (try simp only [List.map_toArray, List.map_cons, List.map_nil]); first | done | rfl | (simp only [List.length_drop, List.length_take]; rfl)) ?_; (with_reducible refine (ladderbackref01_Wrap.calls a1 (wrap64 (a2 - a3)) t180 _ A21.out).mono ?_); rintro e w' ⟨rfl, ⟨nd, rfl⟩⟩; refine ⟨_, rfl, ?_⟩))
                    go_ret3
                    exact ⟨by first | rfl | (simp; done) | (simp [*]; done), by repeat (first | exact Drawn0.refl _ | apply Drawn0.step)⟩
                  · rw [if_neg c20] at H
                    have c20b0 : (a0 == 9) = false := beq_eq_false_iff_ne.mpr c20
                    have c20b1 : (a0 != 9) = true := bne_iff_ne.mpr c20
                    by_cases c22 : a0 = 10
                    · rw [if_pos c22] at H
                      have c22b0 : (a0 == 10) = true := beq_iff_eq.mpr c22
                      have c22b1 : (a0 != 10) = false := bne_eq_false_iff_eq.mpr c22
                      clear c22
                      replace H := Option.bind_eq_some_iff.mp H
                      obtain ⟨t181, A230, H⟩ := H
                      replace H : (some (t181, 0, true)) = some (r1, r2, r3) := H
                      have A23 := Aside0.mk A230
                      clear A230
                      simp only [Option.some.injEq, Prod.mk.injEq] at H
                      obtain ⟨rfl, rfl, rfl⟩ := H
                      go_wp2_with (first | ((with_reducible refine gate_callee (f := 10) rfl ?_); refine goesL_ (some 60) rfl rfl Tryd.func10 (by kernel_rfl) rfl #[.int .i64 a1, .int .i64 (wrap64 (a2 * a3))] rfl (by (try simp only [List.map_toArray, List.map_cons, List.map_nil]); first | done | rfl | (simp only [List.length_drop, List.length_take]; rfl)) ?_; (with_reducible refine (ladderbackref01_Wrap.calls a1 (wrap64 (a2 * a3)) t181 _ A23.out).mono ?_); rintro e w' ⟨rfl, ⟨nd, rfl⟩⟩; refine ⟨_, rfl, ?_⟩))
                      go_ret3
                      exact ⟨by first | rfl | (simp; done) | (simp [*]; done), by repeat (first | exact Drawn0.refl _ | apply Drawn0.step)⟩
                    · rw [if_neg c22] at H
                      have c22b0 : (a0 == 10) = false := beq_eq_false_iff_ne.mpr c22
                      have c22b1 : (a0 != 10) = true := bne_iff_ne.mpr c22
                      have HC24 := Aside0.mk H
                      clear H
                      go_upto_region 12 with (fail)
                      go_cut [66] (fun v66 wc => ∃ (kq : Nat) (x66_23 : Bool), v66 = .bool x66_23 ∧ Aside0 (ladderbackref07_Bin.j3 kq a0 a1 a2 a3 x66_23 = some (r1, r2, r3)) ∧ Aside0 (kq ≤ kj8) ∧ Drawn0 w wc)
                      case first =>
                        have H := HC24.out
                        clear HC24
                        by_cases c25 : a0 = 11
                        · rw [if_pos c25] at H
                          have c25b0 : (a0 == 11) = true := beq_iff_eq.mpr c25
                          have c25b1 : (a0 != 11) = false := bne_eq_false_iff_eq.mpr c25
                          clear c25
                          (first | rw [c25b0] | (simp only [i64_w, i32_w]; rw [c25b0]) | skip)
                          have H' := Aside0.mk H
                          clear H
                          go_wp2
                          go_meet
                          case rel => exact ⟨_, (true), (by first | rfl | (simp; done) | (simp [*]; done)), H', ⟨by have := HJ4.out; have := HJ6.out; have := HJ8.out; first | omega | exact Nat.le_refl _⟩, by repeat (first | exact Drawn0.refl _ | apply Drawn0.step)⟩
                        · rw [if_neg c25] at H
                          have c25b0 : (a0 == 11) = false := beq_eq_false_iff_ne.mpr c25
                          have c25b1 : (a0 != 11) = true := bne_iff_ne.mpr c25
                          (first | rw [c25b0] | (simp only [i64_w, i32_w]; rw [c25b0]) | skip)
                          have H' := Aside0.mk H
                          clear H
                          go_wp2
                          go_meet
                          case rel => exact ⟨_, ((a0 == 12)), (by first | rfl | (simp; done) | (simp [*]; done)), H', ⟨by have := HJ4.out; have := HJ6.out; have := HJ8.out; first | omega | exact Nat.le_refl _⟩, by repeat (first | exact Drawn0.refl _ | apply Drawn0.step)⟩
                      case rest =>
                        clear HC24
                        try clear c1
                        try clear c2
                        try clear p2
                        try clear c4
                        try clear c6
                        try clear c6b0
                        try clear c6b1
                        try clear p6
                        try clear c8
                        try clear c10
                        try clear c11
                        try clear c13
                        try clear c15
                        try clear c17
                        try clear c18
                        try clear c18b0
                        try clear c18b1
                        try clear c20
                        try clear c20b0
                        try clear c20b1
                        try clear c22
                        try clear c22b0
                        try clear c22b1
                        try clear c25
                        try clear c25b0
                        try clear c25b1
                        try clear p2
                        obtain ⟨kq, x66_23, rfl, HA, HJ23, ⟨mc23, rfl⟩⟩ := hcut
                        cases kq with
                        | zero => exact absurd HA.out (by simp [ladderbackref07_Bin.j3])
                        | succ kj23 =>
                          have H := HA.out
                          clear HA
                          simp only [ladderbackref07_Bin.j3] at H
                          by_cases c26 : x66_23 = true
                          · subst c26
                            have H1 : (if a3 = 0 then (some (0, 2, true)) else (if a0 = 11 then ((ladderbackref01_Wrap.f a1 (wrap64 (Int.tdiv a2 a3))).bind fun t182 => (some (t182, 0, true))) else (some (wrap64 (a2 - (wrap64 ((wrap64 (Int.tdiv a2 a3)) * a3))), 0, true)))) = some (r1, r2, r3) := by rw [if_pos rfl] at H; exact H
                            clear H
                            have H := H1
                            clear H1
                            by_cases c27 : a3 = 0
                            · rw [if_pos c27] at H
                              have c27b0 : (a3 == 0) = true := beq_iff_eq.mpr c27
                              have c27b1 : (a3 != 0) = false := bne_eq_false_iff_eq.mpr c27
                              clear c27
                              simp only [Option.some.injEq, Prod.mk.injEq] at H
                              obtain ⟨rfl, rfl, rfl⟩ := H
                              go_wp2
                              go_ret3
                              exact ⟨by first | rfl | (simp; done) | (simp [*]; done), by repeat (first | exact Drawn0.refl _ | apply Drawn0.step)⟩
                            · rw [if_neg c27] at H
                              have c27b0 : (a3 == 0) = false := beq_eq_false_iff_ne.mpr c27
                              have c27b1 : (a3 != 0) = true := bne_iff_ne.mpr c27
                              by_cases c28 : a0 = 11
                              · rw [if_pos c28] at H
                                have c28b0 : (a0 == 11) = true := beq_iff_eq.mpr c28
                                have c28b1 : (a0 != 11) = false := bne_eq_false_iff_eq.mpr c28
                                clear c28
                                replace H := Option.bind_eq_some_iff.mp H
                                obtain ⟨t182, A290, H⟩ := H
                                replace H : (some (t182, 0, true)) = some (r1, r2, r3) := H
                                have A29 := Aside0.mk A290
                                clear A290
                                simp only [Option.some.injEq, Prod.mk.injEq] at H
                                obtain ⟨rfl, rfl, rfl⟩ := H
                                go_wp2_with (first | ((with_reducible refine gate_callee (f := 10) rfl ?_); refine goesL_ (some 75) rfl rfl Tryd.func10 (by kernel_rfl) rfl #[.int .i64 a1, .int .i64 (wrap64 (Int.tdiv a2 a3))] rfl (by (try simp only [List.map_toArray, List.map_cons, List.map_nil]); first | done | rfl | (simp only [List.length_drop, List.length_take]; rfl)) ?_; (with_reducible refine (ladderbackref01_Wrap.calls a1 (wrap64 (Int.tdiv a2 a3)) t182 _ A29.out).mono ?_); rintro e w' ⟨rfl, ⟨nd, rfl⟩⟩; refine ⟨_, rfl, ?_⟩))
                                go_ret3
                                exact ⟨by first | rfl | (simp; done) | (simp [*]; done), by repeat (first | exact Drawn0.refl _ | apply Drawn0.step)⟩
                              · rw [if_neg c28] at H
                                have c28b0 : (a0 == 11) = false := beq_eq_false_iff_ne.mpr c28
                                have c28b1 : (a0 != 11) = true := bne_iff_ne.mpr c28
                                simp only [Option.some.injEq, Prod.mk.injEq] at H
                                obtain ⟨rfl, rfl, rfl⟩ := H
                                go_wp2
                                go_ret3
                                exact ⟨by first | rfl | (simp; done) | (simp [*]; done), by repeat (first | exact Drawn0.refl _ | apply Drawn0.step)⟩
                          · replace c26 := Bool.eq_false_iff.mpr c26
                            subst c26
                            have H1 : (if a0 ≤ 16 then ((ladderbackref07_bits.f kj23 a0 a2 a3).bind fun t183 => (some (t183, 0, true))) else (if a0 ≤ 19 then ((ladderbackref07_shift.f kj23 a0 a1 a2 a3).bind fun t184 => (some (t184, 0, true))) else ((ladderbackref07_so.f a0 a2 a3).bind fun t185 => (if t185 = true then (some (1, 0, true)) else (some (0, 0, true)))))) = some (r1, r2, r3) := by rw [if_neg (show ¬ (false = true) by decide)] at H; exact H
                            clear H
                            have H := H1
                            clear H1
                            by_cases c30 : a0 ≤ 16
                            · rw [if_pos c30] at H
                              have c30b0 : decide (a0 ≤ 16) = true := decide_eq_true c30
                              clear c30
                              replace H := Option.bind_eq_some_iff.mp H
                              obtain ⟨t183, A310, H⟩ := H
                              replace H : (some (t183, 0, true)) = some (r1, r2, r3) := H
                              have A31 := Aside0.mk A310
                              clear A310
                              simp only [Option.some.injEq, Prod.mk.injEq] at H
                              obtain ⟨rfl, rfl, rfl⟩ := H
                              go_wp2_with (first | ((with_reducible refine gate_callee (f := 44) rfl ?_); refine goesL_ (some 88) rfl rfl Tryd.func44 (by kernel_rfl) rfl #[.int .i64 a0, .int .i64 a2, .int .i64 a3] rfl (by (try simp only [List.map_toArray, List.map_cons, List.map_nil]); first | done | rfl | (simp only [List.length_drop, List.length_take]; rfl)) ?_; (with_reducible refine (ladderbackref07_bits.calls kj23 a0 a2 a3 t183 _ A31.out).mono ?_); rintro e w' ⟨rfl, ⟨nd, rfl⟩⟩; refine ⟨_, rfl, ?_⟩))
                              go_ret3
                              exact ⟨by first | rfl | (simp; done) | (simp [*]; done), by repeat (first | exact Drawn0.refl _ | apply Drawn0.step)⟩
                            · rw [if_neg c30] at H
                              have c30b0 : decide (a0 ≤ 16) = false := decide_eq_false c30
                              clear c30
                              by_cases c32 : a0 ≤ 19
                              · rw [if_pos c32] at H
                                have c32b0 : decide (a0 ≤ 19) = true := decide_eq_true c32
                                clear c32
                                replace H := Option.bind_eq_some_iff.mp H
                                obtain ⟨t184, A330, H⟩ := H
                                replace H : (some (t184, 0, true)) = some (r1, r2, r3) := H
                                have A33 := Aside0.mk A330
                                clear A330
                                simp only [Option.some.injEq, Prod.mk.injEq] at H
                                obtain ⟨rfl, rfl, rfl⟩ := H
                                go_wp2_with (first | ((with_reducible refine gate_callee (f := 45) rfl ?_); refine goesL_ (some 95) rfl rfl Tryd.func45 (by kernel_rfl) rfl #[.int .i64 a0, .int .i64 a1, .int .i64 a2, .int .i64 a3] rfl (by (try simp only [List.map_toArray, List.map_cons, List.map_nil]); first | done | rfl | (simp only [List.length_drop, List.length_take]; rfl)) ?_; (with_reducible refine (ladderbackref07_shift.calls kj23 a0 a1 a2 a3 t184 _ A33.out).mono ?_); rintro e w' ⟨rfl, ⟨nd, rfl⟩⟩; refine ⟨_, rfl, ?_⟩))
                                go_ret3
                                exact ⟨by first | rfl | (simp; done) | (simp [*]; done), by repeat (first | exact Drawn0.refl _ | apply Drawn0.step)⟩
                              · rw [if_neg c32] at H
                                have c32b0 : decide (a0 ≤ 19) = false := decide_eq_false c32
                                clear c32
                                replace H := Option.bind_eq_some_iff.mp H
                                obtain ⟨t185, A340, H⟩ := H
                                replace H : (if t185 = true then (some (1, 0, true)) else (some (0, 0, true))) = some (r1, r2, r3) := H
                                have A34 := Aside0.mk A340
                                clear A340
                                by_cases c35 : t185 = true
                                · subst c35
                                  have H1 : (some (1, 0, true)) = some (r1, r2, r3) := by rw [if_pos rfl] at H; exact H
                                  clear H
                                  have H := H1
                                  clear H1
                                  simp only [Option.some.injEq, Prod.mk.injEq] at H
                                  obtain ⟨rfl, rfl, rfl⟩ := H
                                  go_wp2_with (first | ((with_reducible refine gate_callee (f := 46) rfl ?_); refine goesL_ (some 99) rfl rfl Tryd.func46 (by kernel_rfl) rfl #[.int .i64 a0, .int .i64 a2, .int .i64 a3] rfl (by (try simp only [List.map_toArray, List.map_cons, List.map_nil]); first | done | rfl | (simp only [List.length_drop, List.length_take]; rfl)) ?_; (with_reducible refine (ladderbackref07_so.calls a0 a2 a3 true _ A34.out).mono ?_); rintro e w' ⟨rfl, ⟨nd, rfl⟩⟩; refine ⟨_, rfl, ?_⟩))
                                  go_ret3
                                  exact ⟨by first | rfl | (simp; done) | (simp [*]; done), by repeat (first | exact Drawn0.refl _ | apply Drawn0.step)⟩
                                · replace c35 := Bool.eq_false_iff.mpr c35
                                  subst c35
                                  have H1 : (some (0, 0, true)) = some (r1, r2, r3) := by rw [if_neg (show ¬ (false = true) by decide)] at H; exact H
                                  clear H
                                  have H := H1
                                  clear H1
                                  simp only [Option.some.injEq, Prod.mk.injEq] at H
                                  obtain ⟨rfl, rfl, rfl⟩ := H
                                  go_wp2_with (first | ((with_reducible refine gate_callee (f := 46) rfl ?_); refine goesL_ (some 99) rfl rfl Tryd.func46 (by kernel_rfl) rfl #[.int .i64 a0, .int .i64 a2, .int .i64 a3] rfl (by (try simp only [List.map_toArray, List.map_cons, List.map_nil]); first | done | rfl | (simp only [List.length_drop, List.length_take]; rfl)) ?_; (with_reducible refine (ladderbackref07_so.calls a0 a2 a3 false _ A34.out).mono ?_); rintro e w' ⟨rfl, ⟨nd, rfl⟩⟩; refine ⟨_, rfl, ?_⟩))
                                  go_ret3
                                  exact ⟨by first | rfl | (simp; done) | (simp [*]; done), by repeat (first | exact Drawn0.refl _ | apply Drawn0.step)⟩

/-! ### ladderbackref07_Result: function 31 -/
def ladderbackref07_Result.f (k : Nat) (a0 : Int) (a1 : Int) : Option (Int) := (ladderbackref07_Goes.f k a0 a1).bind fun t186 => (if t186 = true then (if a0 ≥ 20 then (some 1) else (some a1)) else (some 0))
theorem ladderbackref07_Result.mono : ∀ a0 a1 k, LeO (ladderbackref07_Result.f k a0 a1) (ladderbackref07_Result.f (k + 1) a0 a1) := by
  intro a0 a1 k
  unfold ladderbackref07_Result.f
  repeat' first
      | (with_reducible exact ladderbackref07_Goes.mono _ _ _)
      | (with_reducible exact LeO.refl _)
      | (with_reducible exact LeO.none _)
      | (with_reducible refine LeO.ite ?_ ?_)
      | (with_reducible refine LeO.bind ?_ (fun _ => ?_))
      | exact ladderbackref07_Goes.mono _ _ _
      | exact LeO.none _
      | refine LeO.ite ?_ ?_
      | refine LeO.bind ?_ (fun _ => ?_)
set_option maxHeartbeats 8000000 in
set_option maxRecDepth 100000 in
theorem ladderbackref07_Result.calls (k : Nat) (a0 : Int) (a1 : Int) (r : Int) (w : World) (h : ladderbackref07_Result.f k a0 a1 = some r) :
    Calls Tryd.prog 31 #[.int .i64 a0, .int .i64 a1] w fun e w' => e = .returned (.int .i64 r) ∧ Drawn0 w w' := by
  have H : ((ladderbackref07_Goes.f k a0 a1).bind fun t186 => (if t186 = true then (if a0 ≥ 20 then (some 1) else (some a1)) else (some 0))) = some r := h
  clear h
  replace H := Option.bind_eq_some_iff.mp H
  obtain ⟨t186, A30, H⟩ := H
  replace H : (if t186 = true then (if a0 ≥ 20 then (some 1) else (some a1)) else (some 0)) = some r := H
  have A3 := Aside0.mk A30
  clear A30
  by_cases c4 : t186 = true
  · subst c4
    have H1 : (if a0 ≥ 20 then (some 1) else (some a1)) = some r := by rw [if_pos rfl] at H; exact H
    clear H
    have H := H1
    clear H1
    by_cases c5 : a0 ≥ 20
    · rw [if_pos c5] at H
      have c5b0 : decide (20 ≤ a0) = true := decide_eq_true c5
      clear c5
      obtain rfl := Option.some.inj H
      go_enter Tryd.func31, Tryd.ntmps31
      go_wp2_with (first | ((with_reducible refine gate_callee (f := 27) rfl ?_); refine goesL_ (some 7) rfl rfl Tryd.func27 (by kernel_rfl) rfl #[.int .i64 a0, .int .i64 a1] rfl (by (try simp only [List.map_toArray, List.map_cons, List.map_nil]); first | done | rfl | (simp only [List.length_drop, List.length_take]; rfl)) ?_; (with_reducible refine (ladderbackref07_Goes.calls k a0 a1 true _ A3.out).mono ?_); rintro e w' ⟨rfl, ⟨nd, rfl⟩⟩; refine ⟨_, rfl, ?_⟩))
      go_ret
      exact ⟨by first | rfl | (simp; done) | (simp [*]; done), by repeat (first | exact Drawn0.refl _ | apply Drawn0.step)⟩
    · rw [if_neg c5] at H
      have c5b0 : decide (20 ≤ a0) = false := decide_eq_false c5
      clear c5
      obtain rfl := Option.some.inj H
      go_enter Tryd.func31, Tryd.ntmps31
      go_wp2_with (first | ((with_reducible refine gate_callee (f := 27) rfl ?_); refine goesL_ (some 7) rfl rfl Tryd.func27 (by kernel_rfl) rfl #[.int .i64 a0, .int .i64 a1] rfl (by (try simp only [List.map_toArray, List.map_cons, List.map_nil]); first | done | rfl | (simp only [List.length_drop, List.length_take]; rfl)) ?_; (with_reducible refine (ladderbackref07_Goes.calls k a0 a1 true _ A3.out).mono ?_); rintro e w' ⟨rfl, ⟨nd, rfl⟩⟩; refine ⟨_, rfl, ?_⟩))
      go_ret
      exact ⟨by first | rfl | (simp; done) | (simp [*]; done), by repeat (first | exact Drawn0.refl _ | apply Drawn0.step)⟩
  · replace c4 := Bool.eq_false_iff.mpr c4
    subst c4
    have H1 : (some 0) = some r := by rw [if_neg (show ¬ (false = true) by decide)] at H; exact H
    clear H
    have H := H1
    clear H1
    obtain rfl := Option.some.inj H
    go_enter Tryd.func31, Tryd.ntmps31
    go_wp2_with (first | ((with_reducible refine gate_callee (f := 27) rfl ?_); refine goesL_ (some 7) rfl rfl Tryd.func27 (by kernel_rfl) rfl #[.int .i64 a0, .int .i64 a1] rfl (by (try simp only [List.map_toArray, List.map_cons, List.map_nil]); first | done | rfl | (simp only [List.length_drop, List.length_take]; rfl)) ?_; (with_reducible refine (ladderbackref07_Goes.calls k a0 a1 false _ A3.out).mono ?_); rintro e w' ⟨rfl, ⟨nd, rfl⟩⟩; refine ⟨_, rfl, ?_⟩))
    go_ret
    exact ⟨by first | rfl | (simp; done) | (simp [*]; done), by repeat (first | exact Drawn0.refl _ | apply Drawn0.step)⟩

-- NOT PRINTED: function 6 (ladderbacklaw07_AluBins)

/-! ### ladderbackref07_Un: function 34 -/
def ladderbackref07_Un.j0 : Nat → Int → Int → Int → Bool → Option (Int × Bool)
  | 0, _, _, _, _ => none
  | k + 1, x0, x1, x2, x25 => if x25 = true then (some (0, false)) else (if x0 = 13 then ((ladderbackref01_Wrap.f x1 (wrap64 (-x2))).bind fun t191 => (some (t191, true))) else ((ladderbackref01_High.f x1).bind fun t192 => (some (wrap64 (t192 - x2), true))))
def ladderbackref07_Un.f (k : Nat) (a0 : Int) (a1 : Int) (a2 : Int) : Option (Int × Bool) := if a0 = 13 then ((ladderbackref07_Goes.f k a0 a1).bind fun t187 => (if t187 = true then ((ladderbackref01_In.f a1 a2).bind fun t188 => (ladderbackref07_Un.j0 k a0 a1 a2 (!t188))) else (ladderbackref07_Un.j0 k a0 a1 a2 true))) else (if a0 = 17 then ((ladderbackref07_Goes.f k a0 a1).bind fun t189 => (if t189 = true then ((ladderbackref01_In.f a1 a2).bind fun t190 => (ladderbackref07_Un.j0 k a0 a1 a2 (!t190))) else (ladderbackref07_Un.j0 k a0 a1 a2 true))) else (ladderbackref07_Un.j0 k a0 a1 a2 true))
theorem ladderbackref07_Un.mono_l : ∀ k, (∀ y0 y1 y2 y3, LeO (ladderbackref07_Un.j0 k y0 y1 y2 y3) (ladderbackref07_Un.j0 (k + 1) y0 y1 y2 y3))
  | 0 => fun _ _ _ _ r h => by simp [ladderbackref07_Un.j0] at h
  | k + 1 => by
    have ih0 := ladderbackref07_Un.mono_l k
    · intro y0 y1 y2 y3
      unfold ladderbackref07_Un.j0
      repeat' first
      | (with_reducible exact ih0 _ _ _ _)
      | (with_reducible exact ladderbackref07_Goes.mono _ _ _)
      | (with_reducible exact LeO.refl _)
      | (with_reducible exact LeO.none _)
      | (with_reducible refine LeO.ite ?_ ?_)
      | (with_reducible refine LeO.bind ?_ (fun _ => ?_))
      | exact ih0 _ _ _ _
      | exact ladderbackref07_Goes.mono _ _ _
      | exact LeO.none _
      | refine LeO.ite ?_ ?_
      | refine LeO.bind ?_ (fun _ => ?_)
theorem ladderbackref07_Un.mono : ∀ a0 a1 a2 k, LeO (ladderbackref07_Un.f k a0 a1 a2) (ladderbackref07_Un.f (k + 1) a0 a1 a2) := by
  intro a0 a1 a2 k
  have ih0 := ladderbackref07_Un.mono_l k
  unfold ladderbackref07_Un.f
  repeat' first
      | (with_reducible exact ih0 _ _ _ _)
      | (with_reducible exact ladderbackref07_Goes.mono _ _ _)
      | (with_reducible exact LeO.refl _)
      | (with_reducible exact LeO.none _)
      | (with_reducible refine LeO.ite ?_ ?_)
      | (with_reducible refine LeO.bind ?_ (fun _ => ?_))
      | exact ih0 _ _ _ _
      | exact ladderbackref07_Goes.mono _ _ _
      | exact LeO.none _
      | refine LeO.ite ?_ ?_
      | refine LeO.bind ?_ (fun _ => ?_)
set_option maxHeartbeats 8000000 in
set_option maxRecDepth 100000 in
theorem ladderbackref07_Un.calls (k : Nat) (a0 : Int) (a1 : Int) (a2 : Int) (r1 : Int) (r2 : Bool) (w : World) (h : ladderbackref07_Un.f k a0 a1 a2 = some (r1, r2)) :
    Calls Tryd.prog 34 #[.int .i64 a0, .int .i64 a1, .int .i64 a2] w fun e w' => e = .returned (.tuple #[.int .i64 r1, .bool r2]) ∧ Drawn0 w w' := by
  have H : (if a0 = 13 then ((ladderbackref07_Goes.f k a0 a1).bind fun t187 => (if t187 = true then ((ladderbackref01_In.f a1 a2).bind fun t188 => (ladderbackref07_Un.j0 k a0 a1 a2 (!t188))) else (ladderbackref07_Un.j0 k a0 a1 a2 true))) else (if a0 = 17 then ((ladderbackref07_Goes.f k a0 a1).bind fun t189 => (if t189 = true then ((ladderbackref01_In.f a1 a2).bind fun t190 => (ladderbackref07_Un.j0 k a0 a1 a2 (!t190))) else (ladderbackref07_Un.j0 k a0 a1 a2 true))) else (ladderbackref07_Un.j0 k a0 a1 a2 true))) = some (r1, r2) := h
  clear h
  have HC4 := Aside0.mk H
  clear H
  go_enter Tryd.func34, Tryd.ntmps34
  go_upto_region 1 with (fail)
  go_cut [25] (fun v25 wc => ∃ (kq : Nat) (x25_3 : Bool), v25 = .bool x25_3 ∧ Aside0 (ladderbackref07_Un.j0 kq a0 a1 a2 x25_3 = some (r1, r2)) ∧ Aside0 (kq ≤ k) ∧ Drawn0 w wc)
  case first =>
    have H := HC4.out
    clear HC4
    by_cases c5 : a0 = 13
    · rw [if_pos c5] at H
      have c5b0 : (a0 == 13) = true := beq_iff_eq.mpr c5
      have c5b1 : (a0 != 13) = false := bne_eq_false_iff_eq.mpr c5
      clear c5
      (first | rw [c5b0] | (simp only [i64_w, i32_w]; rw [c5b0]) | skip)
      replace H := Option.bind_eq_some_iff.mp H
      obtain ⟨t187, A60, H⟩ := H
      replace H : (if t187 = true then ((ladderbackref01_In.f a1 a2).bind fun t188 => (ladderbackref07_Un.j0 k a0 a1 a2 (!t188))) else (ladderbackref07_Un.j0 k a0 a1 a2 true)) = some (r1, r2) := H
      have A6 := Aside0.mk A60
      clear A60
      by_cases c7 : t187 = true
      · subst c7
        have H1 : ((ladderbackref01_In.f a1 a2).bind fun t188 => (ladderbackref07_Un.j0 k a0 a1 a2 (!t188))) = some (r1, r2) := by rw [if_pos rfl] at H; exact H
        clear H
        have H := H1
        clear H1
        replace H := Option.bind_eq_some_iff.mp H
        obtain ⟨t188, A80, H⟩ := H
        replace H : (ladderbackref07_Un.j0 k a0 a1 a2 (!t188)) = some (r1, r2) := H
        have A8 := Aside0.mk A80
        clear A80
        have H' := Aside0.mk H
        clear H
        go_wp2_with (first | (go_at_call 27; (with_reducible refine (ladderbackref07_Goes.calls k a0 a1 true _ A6.out).mono ?_); rintro e w' ⟨rfl, ⟨nd, rfl⟩⟩) | (go_at_call 12; (with_reducible refine (ladderbackref01_In.calls a1 a2 t188 _ A8.out).mono ?_); rintro e w' ⟨rfl, ⟨nd, rfl⟩⟩))
        go_meet
        case rel => exact ⟨_, (!t188), (by first | rfl | (simp; done) | (simp [*]; done)), H', ⟨by first | omega | exact Nat.le_refl _⟩, by repeat (first | exact Drawn0.refl _ | apply Drawn0.step)⟩
      · replace c7 := Bool.eq_false_iff.mpr c7
        subst c7
        have H1 : (ladderbackref07_Un.j0 k a0 a1 a2 true) = some (r1, r2) := by rw [if_neg (show ¬ (false = true) by decide)] at H; exact H
        clear H
        have H := H1
        clear H1
        have H' := Aside0.mk H
        clear H
        go_wp2_with (first | (go_at_call 27; (with_reducible refine (ladderbackref07_Goes.calls k a0 a1 false _ A6.out).mono ?_); rintro e w' ⟨rfl, ⟨nd, rfl⟩⟩))
        go_meet
        case rel => exact ⟨_, (true), (by first | rfl | (simp; done) | (simp [*]; done)), H', ⟨by first | omega | exact Nat.le_refl _⟩, by repeat (first | exact Drawn0.refl _ | apply Drawn0.step)⟩
    · rw [if_neg c5] at H
      have c5b0 : (a0 == 13) = false := beq_eq_false_iff_ne.mpr c5
      have c5b1 : (a0 != 13) = true := bne_iff_ne.mpr c5
      (first | rw [c5b0] | (simp only [i64_w, i32_w]; rw [c5b0]) | skip)
      by_cases c9 : a0 = 17
      · rw [if_pos c9] at H
        have c9b0 : (a0 == 17) = true := beq_iff_eq.mpr c9
        have c9b1 : (a0 != 17) = false := bne_eq_false_iff_eq.mpr c9
        clear c9
        replace H := Option.bind_eq_some_iff.mp H
        obtain ⟨t189, A100, H⟩ := H
        replace H : (if t189 = true then ((ladderbackref01_In.f a1 a2).bind fun t190 => (ladderbackref07_Un.j0 k a0 a1 a2 (!t190))) else (ladderbackref07_Un.j0 k a0 a1 a2 true)) = some (r1, r2) := H
        have A10 := Aside0.mk A100
        clear A100
        by_cases c11 : t189 = true
        · subst c11
          have H1 : ((ladderbackref01_In.f a1 a2).bind fun t190 => (ladderbackref07_Un.j0 k a0 a1 a2 (!t190))) = some (r1, r2) := by rw [if_pos rfl] at H; exact H
          clear H
          have H := H1
          clear H1
          replace H := Option.bind_eq_some_iff.mp H
          obtain ⟨t190, A120, H⟩ := H
          replace H : (ladderbackref07_Un.j0 k a0 a1 a2 (!t190)) = some (r1, r2) := H
          have A12 := Aside0.mk A120
          clear A120
          have H' := Aside0.mk H
          clear H
          go_wp2_with (first | (go_at_call 27; (with_reducible refine (ladderbackref07_Goes.calls k a0 a1 true _ A10.out).mono ?_); rintro e w' ⟨rfl, ⟨nd, rfl⟩⟩) | (go_at_call 12; (with_reducible refine (ladderbackref01_In.calls a1 a2 t190 _ A12.out).mono ?_); rintro e w' ⟨rfl, ⟨nd, rfl⟩⟩))
          go_meet
          case rel => exact ⟨_, (!t190), (by first | rfl | (simp; done) | (simp [*]; done)), H', ⟨by first | omega | exact Nat.le_refl _⟩, by repeat (first | exact Drawn0.refl _ | apply Drawn0.step)⟩
        · replace c11 := Bool.eq_false_iff.mpr c11
          subst c11
          have H1 : (ladderbackref07_Un.j0 k a0 a1 a2 true) = some (r1, r2) := by rw [if_neg (show ¬ (false = true) by decide)] at H; exact H
          clear H
          have H := H1
          clear H1
          have H' := Aside0.mk H
          clear H
          go_wp2_with (first | (go_at_call 27; (with_reducible refine (ladderbackref07_Goes.calls k a0 a1 false _ A10.out).mono ?_); rintro e w' ⟨rfl, ⟨nd, rfl⟩⟩))
          go_meet
          case rel => exact ⟨_, (true), (by first | rfl | (simp; done) | (simp [*]; done)), H', ⟨by first | omega | exact Nat.le_refl _⟩, by repeat (first | exact Drawn0.refl _ | apply Drawn0.step)⟩
      · rw [if_neg c9] at H
        have c9b0 : (a0 == 17) = false := beq_eq_false_iff_ne.mpr c9
        have c9b1 : (a0 != 17) = true := bne_iff_ne.mpr c9
        have H' := Aside0.mk H
        clear H
        go_wp2
        go_meet
        case rel => exact ⟨_, (true), (by first | rfl | (simp; done) | (simp [*]; done)), H', ⟨by first | omega | exact Nat.le_refl _⟩, by repeat (first | exact Drawn0.refl _ | apply Drawn0.step)⟩
  case rest =>
    clear HC4
    try clear c1
    try clear p2
    try clear c3
    try clear c5
    try clear c5b0
    try clear c5b1
    try clear c7
    try clear c9
    try clear c9b0
    try clear c9b1
    try clear c11
    obtain ⟨kq, x25_3, rfl, HA, HJ3, ⟨mc3, rfl⟩⟩ := hcut
    cases kq with
    | zero => exact absurd HA.out (by simp [ladderbackref07_Un.j0])
    | succ kj3 =>
      have H := HA.out
      clear HA
      simp only [ladderbackref07_Un.j0] at H
      by_cases c13 : x25_3 = true
      · subst c13
        have H1 : (some (0, false)) = some (r1, r2) := by rw [if_pos rfl] at H; exact H
        clear H
        have H := H1
        clear H1
        simp only [Option.some.injEq, Prod.mk.injEq] at H
        obtain ⟨rfl, rfl⟩ := H
        go_wp2
        go_ret2
        exact ⟨by first | rfl | (simp; done) | (simp [*]; done), by repeat (first | exact Drawn0.refl _ | apply Drawn0.step)⟩
      · replace c13 := Bool.eq_false_iff.mpr c13
        subst c13
        have H1 : (if a0 = 13 then ((ladderbackref01_Wrap.f a1 (wrap64 (-a2))).bind fun t191 => (some (t191, true))) else ((ladderbackref01_High.f a1).bind fun t192 => (some (wrap64 (t192 - a2), true)))) = some (r1, r2) := by rw [if_neg (show ¬ (false = true) by decide)] at H; exact H
        clear H
        have H := H1
        clear H1
        by_cases c14 : a0 = 13
        · rw [if_pos c14] at H
          have c14b0 : (a0 == 13) = true := beq_iff_eq.mpr c14
          have c14b1 : (a0 != 13) = false := bne_eq_false_iff_eq.mpr c14
          clear c14
          replace H := Option.bind_eq_some_iff.mp H
          obtain ⟨t191, A150, H⟩ := H
          replace H : (some (t191, true)) = some (r1, r2) := H
          have A15 := Aside0.mk A150
          clear A150
          simp only [Option.some.injEq, Prod.mk.injEq] at H
          obtain ⟨rfl, rfl⟩ := H
          go_wp2_with (first | ((with_reducible refine gate_callee (f := 10) rfl ?_); refine goesL_ (some 31) rfl rfl Tryd.func10 (by kernel_rfl) rfl #[.int .i64 a1, .int .i64 (wrap64 (-a2))] rfl (by (try simp only [List.map_toArray, List.map_cons, List.map_nil]); first | done | rfl | (simp only [List.length_drop, List.length_take]; rfl)) ?_; (with_reducible refine (ladderbackref01_Wrap.calls a1 (wrap64 (-a2)) t191 _ A15.out).mono ?_); rintro e w' ⟨rfl, ⟨nd, rfl⟩⟩; refine ⟨_, rfl, ?_⟩))
          go_ret2
          exact ⟨by first | rfl | (simp; done) | (simp [*]; done), by repeat (first | exact Drawn0.refl _ | apply Drawn0.step)⟩
        · rw [if_neg c14] at H
          have c14b0 : (a0 == 13) = false := beq_eq_false_iff_ne.mpr c14
          have c14b1 : (a0 != 13) = true := bne_iff_ne.mpr c14
          replace H := Option.bind_eq_some_iff.mp H
          obtain ⟨t192, A160, H⟩ := H
          replace H : (some (wrap64 (t192 - a2), true)) = some (r1, r2) := H
          have A16 := Aside0.mk A160
          clear A160
          simp only [Option.some.injEq, Prod.mk.injEq] at H
          obtain ⟨rfl, rfl⟩ := H
          go_wp2_with (first | ((with_reducible refine gate_callee (f := 37) rfl ?_); refine goesL_ (some 33) rfl rfl Tryd.func37 (by kernel_rfl) rfl #[.int .i64 a1] rfl (by (try simp only [List.map_toArray, List.map_cons, List.map_nil]); first | done | rfl | (simp only [List.length_drop, List.length_take]; rfl)) ?_; (with_reducible refine (ladderbackref01_High.calls a1 t192 _ A16.out).mono ?_); rintro e w' ⟨rfl, ⟨nd, rfl⟩⟩; refine ⟨_, rfl, ?_⟩))
          go_ret2
          exact ⟨by first | rfl | (simp; done) | (simp [*]; done), by repeat (first | exact Drawn0.refl _ | apply Drawn0.step)⟩

end Go.Proofs.YtohdabkhafcdkaaDoor.PAlu
