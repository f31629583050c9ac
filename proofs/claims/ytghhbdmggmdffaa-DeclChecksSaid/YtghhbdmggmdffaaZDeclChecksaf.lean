/- Printed by a program of this session (wip/pg.py, over the print of the kit): functions, their Lean twins, and the proofs that the calls come to them; each under the conditions that it names. -/
import Derived.Test.YtghhbdmggmdffaaZDeclChecksab
import Derived.Test.YtghhbdmggmdffaaZDeclChecksac
section
/- Printed by a program of this session (wip/pg.py, over the print of the kit): functions, their Lean twins, and the proofs that the calls come to them; each under the conditions that it names. -/
namespace Go.Proofs.Ytghhbdmggmdffaa.PDe
open Go.RowKit Go.Proofs.YtghhbdmggmdffaaW.PrintWords Go.Proofs.YtghhbdmggmdffaaW.PrintLast Go.Proofs.YtghhbdmggmdffaaW.PrintMore
attribute [local go_sem] max2_int min2_int max_two min_two max_three min_three max_four min_four   -- for this text's walks alone
set_option linter.unusedVariables false
set_option linter.unusedSimpArgs false

/-! ### ladderbackref01_Right: function 30 -/
def ladderbackref01_Right.f (a0 : Int) : Option (Bool) := if a0 > 0 then (some (decide (a0 < 7))) else (some false)
set_option maxHeartbeats 8000000 in
set_option maxRecDepth 100000 in
theorem ladderbackref01_Right.calls (a0 : Int) (r : Bool) (w : World) (h : ladderbackref01_Right.f a0 = some r) :
    Calls Try.prog 30 #[.int .i64 a0] w fun e w' => e = .returned (.bool r) ∧ Drawn0 w w' := by
  have H : (if a0 > 0 then (some (decide (a0 < 7))) else (some false)) = some r := h
  clear h
  by_cases c2 : a0 > 0
  · rw [if_pos c2] at H
    have c2b0 : decide (0 < a0) = true := decide_eq_true c2
    clear c2
    obtain rfl := Option.some.inj H
    go_enter Try.func30, Try.ntmps30
    go_wp2
    go_ret
    exact ⟨by first | rfl | (simp; done) | (simp [*]; done), by repeat (first | exact Drawn0.refl _ | apply Drawn0.step)⟩
  · rw [if_neg c2] at H
    have c2b0 : decide (0 < a0) = false := decide_eq_false c2
    clear c2
    obtain rfl := Option.some.inj H
    go_enter Try.func30, Try.ntmps30
    go_wp2
    go_ret
    exact ⟨by first | rfl | (simp; done) | (simp [*]; done), by repeat (first | exact Drawn0.refl _ | apply Drawn0.step)⟩

/-! ### ladderbackref01_Low: function 44 -/
def ladderbackref01_Low.f (a0 : Int) : Option (Int) := if a0 = 2 then (some (-32768)) else (if a0 = 3 then (some (-2147483648)) else (some 0))
set_option maxHeartbeats 8000000 in
set_option maxRecDepth 100000 in
theorem ladderbackref01_Low.calls (a0 : Int) (r : Int) (w : World) (h : ladderbackref01_Low.f a0 = some r) :
    Calls Try.prog 44 #[.int .i64 a0] w fun e w' => e = .returned (.int .i64 r) ∧ Drawn0 w w' := by
  have H : (if a0 = 2 then (some (-32768)) else (if a0 = 3 then (some (-2147483648)) else (some 0))) = some r := h
  clear h
  by_cases c2 : a0 = 2
  · rw [if_pos c2] at H
    have c2b0 : (a0 == 2) = true := beq_iff_eq.mpr c2
    have c2b1 : (a0 != 2) = false := bne_eq_false_iff_eq.mpr c2
    clear c2
    obtain rfl := Option.some.inj H
    go_enter Try.func44, Try.ntmps44
    go_wp2
    go_ret
    exact ⟨by first | rfl | (simp; done) | (simp [*]; done), by repeat (first | exact Drawn0.refl _ | apply Drawn0.step)⟩
  · rw [if_neg c2] at H
    have c2b0 : (a0 == 2) = false := beq_eq_false_iff_ne.mpr c2
    have c2b1 : (a0 != 2) = true := bne_iff_ne.mpr c2
    by_cases c3 : a0 = 3
    · rw [if_pos c3] at H
      have c3b0 : (a0 == 3) = true := beq_iff_eq.mpr c3
      have c3b1 : (a0 != 3) = false := bne_eq_false_iff_eq.mpr c3
      clear c3
      obtain rfl := Option.some.inj H
      go_enter Try.func44, Try.ntmps44
      go_wp2
      go_ret
      exact ⟨by first | rfl | (simp; done) | (simp [*]; done), by repeat (first | exact Drawn0.refl _ | apply Drawn0.step)⟩
    · rw [if_neg c3] at H
      have c3b0 : (a0 == 3) = false := beq_eq_false_iff_ne.mpr c3
      have c3b1 : (a0 != 3) = true := bne_iff_ne.mpr c3
      obtain rfl := Option.some.inj H
      go_enter Try.func44, Try.ntmps44
      go_wp2
      go_ret
      exact ⟨by first | rfl | (simp; done) | (simp [*]; done), by repeat (first | exact Drawn0.refl _ | apply Drawn0.step)⟩

/-! ### ladderbackref01_High: function 45 -/
def ladderbackref01_High.f (a0 : Int) : Option (Int) := if a0 = 1 then (some 1) else (if a0 = 2 then (some 32767) else (if a0 = 3 then (some 2147483647) else (if a0 = 4 then (some 65535) else (some 4294967295))))
set_option maxHeartbeats 8000000 in
set_option maxRecDepth 100000 in
theorem ladderbackref01_High.calls (a0 : Int) (r : Int) (w : World) (h : ladderbackref01_High.f a0 = some r) :
    Calls Try.prog 45 #[.int .i64 a0] w fun e w' => e = .returned (.int .i64 r) ∧ Drawn0 w w' := by
  have H : (if a0 = 1 then (some 1) else (if a0 = 2 then (some 32767) else (if a0 = 3 then (some 2147483647) else (if a0 = 4 then (some 65535) else (some 4294967295))))) = some r := h
  clear h
  by_cases c2 : a0 = 1
  · rw [if_pos c2] at H
    have c2b0 : (a0 == 1) = true := beq_iff_eq.mpr c2
    have c2b1 : (a0 != 1) = false := bne_eq_false_iff_eq.mpr c2
    clear c2
    obtain rfl := Option.some.inj H
    go_enter Try.func45, Try.ntmps45
    go_wp2
    go_ret
    exact ⟨by first | rfl | (simp; done) | (simp [*]; done), by repeat (first | exact Drawn0.refl _ | apply Drawn0.step)⟩
  · rw [if_neg c2] at H
    have c2b0 : (a0 == 1) = false := beq_eq_false_iff_ne.mpr c2
    have c2b1 : (a0 != 1) = true := bne_iff_ne.mpr c2
    by_cases c3 : a0 = 2
    · rw [if_pos c3] at H
      have c3b0 : (a0 == 2) = true := beq_iff_eq.mpr c3
      have c3b1 : (a0 != 2) = false := bne_eq_false_iff_eq.mpr c3
      clear c3
      obtain rfl := Option.some.inj H
      go_enter Try.func45, Try.ntmps45
      go_wp2
      go_ret
      exact ⟨by first | rfl | (simp; done) | (simp [*]; done), by repeat (first | exact Drawn0.refl _ | apply Drawn0.step)⟩
    · rw [if_neg c3] at H
      have c3b0 : (a0 == 2) = false := beq_eq_false_iff_ne.mpr c3
      have c3b1 : (a0 != 2) = true := bne_iff_ne.mpr c3
      by_cases c4 : a0 = 3
      · rw [if_pos c4] at H
        have c4b0 : (a0 == 3) = true := beq_iff_eq.mpr c4
        have c4b1 : (a0 != 3) = false := bne_eq_false_iff_eq.mpr c4
        clear c4
        obtain rfl := Option.some.inj H
        go_enter Try.func45, Try.ntmps45
        go_wp2
        go_ret
        exact ⟨by first | rfl | (simp; done) | (simp [*]; done), by repeat (first | exact Drawn0.refl _ | apply Drawn0.step)⟩
      · rw [if_neg c4] at H
        have c4b0 : (a0 == 3) = false := beq_eq_false_iff_ne.mpr c4
        have c4b1 : (a0 != 3) = true := bne_iff_ne.mpr c4
        by_cases c5 : a0 = 4
        · rw [if_pos c5] at H
          have c5b0 : (a0 == 4) = true := beq_iff_eq.mpr c5
          have c5b1 : (a0 != 4) = false := bne_eq_false_iff_eq.mpr c5
          clear c5
          obtain rfl := Option.some.inj H
          go_enter Try.func45, Try.ntmps45
          go_wp2
          go_ret
          exact ⟨by first | rfl | (simp; done) | (simp [*]; done), by repeat (first | exact Drawn0.refl _ | apply Drawn0.step)⟩
        · rw [if_neg c5] at H
          have c5b0 : (a0 == 4) = false := beq_eq_false_iff_ne.mpr c5
          have c5b1 : (a0 != 4) = true := bne_iff_ne.mpr c5
          obtain rfl := Option.some.inj H
          go_enter Try.func45, Try.ntmps45
          go_wp2
          go_ret
          exact ⟨by first | rfl | (simp; done) | (simp [*]; done), by repeat (first | exact Drawn0.refl _ | apply Drawn0.step)⟩

/-! ### ladderbackref01_In: function 31 -/
def ladderbackref01_In.f (a0 : Int) (a1 : Int) : Option (Bool) := if a0 = 6 then (some true) else ((ladderbackref01_Right.f a0).bind fun t194 => (if t194 = true then ((ladderbackref01_Low.f a0).bind fun t195 => (if a1 ≥ t195 then ((ladderbackref01_High.f a0).bind fun t196 => (some (decide (a1 ≤ t196)))) else (some false))) else (some false)))
set_option maxHeartbeats 8000000 in
set_option maxRecDepth 100000 in
theorem ladderbackref01_In.calls (a0 : Int) (a1 : Int) (r : Bool) (w : World) (h : ladderbackref01_In.f a0 a1 = some r) :
    Calls Try.prog 31 #[.int .i64 a0, .int .i64 a1] w fun e w' => e = .returned (.bool r) ∧ Drawn0 w w' := by
  have H : (if a0 = 6 then (some true) else ((ladderbackref01_Right.f a0).bind fun t194 => (if t194 = true then ((ladderbackref01_Low.f a0).bind fun t195 => (if a1 ≥ t195 then ((ladderbackref01_High.f a0).bind fun t196 => (some (decide (a1 ≤ t196)))) else (some false))) else (some false)))) = some r := h
  clear h
  by_cases c3 : a0 = 6
  · rw [if_pos c3] at H
    have c3b0 : (a0 == 6) = true := beq_iff_eq.mpr c3
    have c3b1 : (a0 != 6) = false := bne_eq_false_iff_eq.mpr c3
    clear c3
    obtain rfl := Option.some.inj H
    go_enter Try.func31, Try.ntmps31
    go_wp2
    go_ret
    exact ⟨by first | rfl | (simp; done) | (simp [*]; done), by repeat (first | exact Drawn0.refl _ | apply Drawn0.step)⟩
  · rw [if_neg c3] at H
    have c3b0 : (a0 == 6) = false := beq_eq_false_iff_ne.mpr c3
    have c3b1 : (a0 != 6) = true := bne_iff_ne.mpr c3
    replace H := Option.bind_eq_some_iff.mp H
    obtain ⟨t194, A40, H⟩ := H
    replace H : (if t194 = true then ((ladderbackref01_Low.f a0).bind fun t195 => (if a1 ≥ t195 then ((ladderbackref01_High.f a0).bind fun t196 => (some (decide (a1 ≤ t196)))) else (some false))) else (some false)) = some r := H
    have A4 := Aside0.mk A40
    clear A40
    by_cases c5 : t194 = true
    · subst c5
      have H1 : ((ladderbackref01_Low.f a0).bind fun t195 => (if a1 ≥ t195 then ((ladderbackref01_High.f a0).bind fun t196 => (some (decide (a1 ≤ t196)))) else (some false))) = some r := by rw [if_pos rfl] at H; exact H
      clear H
      have H := H1
      clear H1
      replace H := Option.bind_eq_some_iff.mp H
      obtain ⟨t195, A60, H⟩ := H
      replace H : (if a1 ≥ t195 then ((ladderbackref01_High.f a0).bind fun t196 => (some (decide (a1 ≤ t196)))) else (some false)) = some r := H
      have A6 := Aside0.mk A60
      clear A60
      by_cases c7 : a1 ≥ t195
      · rw [if_pos c7] at H
        have c7b0 : decide (t195 ≤ a1) = true := decide_eq_true c7
        clear c7
        replace H := Option.bind_eq_some_iff.mp H
        obtain ⟨t196, A80, H⟩ := H
        replace H : (some (decide (a1 ≤ t196))) = some r := H
        have A8 := Aside0.mk A80
        clear A80
        obtain rfl := Option.some.inj H
        go_enter Try.func31, Try.ntmps31
        go_wp2_with (first | ((with_reducible refine gate_callee (f := 30) rfl ?_); refine goesL_ (some 8) rfl rfl Try.func30 (by kernel_rfl) rfl #[.int .i64 a0] rfl (by (try simp only [List.map_toArray, List.map_cons, List.map_nil]); first | done | rfl | (simp only [List.length_drop, List.length_take]; rfl)) ?_; (with_reducible refine (ladderbackref01_Right.calls a0 true _ A4.out).mono ?_); rintro e w' ⟨rfl, ⟨nd, rfl⟩⟩; refine ⟨_, rfl, ?_⟩) | (go_at_call 44; (with_reducible refine (ladderbackref01_Low.calls a0 t195 _ A6.out).mono ?_); rintro e w' ⟨rfl, ⟨nd, rfl⟩⟩) | (go_at_call 45; (with_reducible refine (ladderbackref01_High.calls a0 t196 _ A8.out).mono ?_); rintro e w' ⟨rfl, ⟨nd, rfl⟩⟩))
        go_ret
        exact ⟨by first | rfl | (simp; done) | (simp [*]; done), by repeat (first | exact Drawn0.refl _ | apply Drawn0.step)⟩
      · rw [if_neg c7] at H
        have c7b0 : decide (t195 ≤ a1) = false := decide_eq_false c7
        clear c7
        obtain rfl := Option.some.inj H
        go_enter Try.func31, Try.ntmps31
        go_wp2_with (first | ((with_reducible refine gate_callee (f := 30) rfl ?_); refine goesL_ (some 8) rfl rfl Try.func30 (by kernel_rfl) rfl #[.int .i64 a0] rfl (by (try simp only [List.map_toArray, List.map_cons, List.map_nil]); first | done | rfl | (simp only [List.length_drop, List.length_take]; rfl)) ?_; (with_reducible refine (ladderbackref01_Right.calls a0 true _ A4.out).mono ?_); rintro e w' ⟨rfl, ⟨nd, rfl⟩⟩; refine ⟨_, rfl, ?_⟩) | (go_at_call 44; (with_reducible refine (ladderbackref01_Low.calls a0 t195 _ A6.out).mono ?_); rintro e w' ⟨rfl, ⟨nd, rfl⟩⟩))
        go_ret
        exact ⟨by first | rfl | (simp; done) | (simp [*]; done), by repeat (first | exact Drawn0.refl _ | apply Drawn0.step)⟩
    · replace c5 := Bool.eq_false_iff.mpr c5
      subst c5
      have H1 : (some false) = some r := by rw [if_neg (show ¬ (false = true) by decide)] at H; exact H
      clear H
      have H := H1
      clear H1
      obtain rfl := Option.some.inj H
      go_enter Try.func31, Try.ntmps31
      go_wp2_with (first | ((with_reducible refine gate_callee (f := 30) rfl ?_); refine goesL_ (some 8) rfl rfl Try.func30 (by kernel_rfl) rfl #[.int .i64 a0] rfl (by (try simp only [List.map_toArray, List.map_cons, List.map_nil]); first | done | rfl | (simp only [List.length_drop, List.length_take]; rfl)) ?_; (with_reducible refine (ladderbackref01_Right.calls a0 false _ A4.out).mono ?_); rintro e w' ⟨rfl, ⟨nd, rfl⟩⟩; refine ⟨_, rfl, ?_⟩))
      go_ret
      exact ⟨by first | rfl | (simp; done) | (simp [*]; done), by repeat (first | exact Drawn0.refl _ | apply Drawn0.step)⟩

end Go.Proofs.Ytghhbdmggmdffaa.PDe
end

section
/- Whether a number is a value of a type, as the program and the document tell it. -/
namespace Go.Proofs.Ytghhbdmggmdffaa.RPure
open Go.RowKit Go.Proofs.Ytghhbdmggmdffaa.PDe Go.Proofs.YtghhbdmggmdffaaW.PrintWords Go.Proofs.YtghhbdmggmdffaaW.PrintLast Go.Proofs.YtghhbdmggmdffaaW.PrintMore
set_option linter.unusedVariables false
set_option linter.unusedSimpArgs false
/-- Is n a value of type t? -/
def inF (t n : Int) : Bool :=
  if t = 1 then decide (0 ≤ n ∧ n ≤ 1) else if t = 2 then decide (-32768 ≤ n ∧ n ≤ 32767) else if t = 3 then decide (-2147483648 ≤ n ∧ n ≤ 2147483647) else
  if t = 4 then decide (0 ≤ n ∧ n ≤ 65535) else if t = 5 then decide (0 ≤ n ∧ n ≤ 4294967295) else decide (t = 6)
theorem kin_is (t n : Int) : kind_In.f t n = some (inF t n) := by
  unfold kind_In.f kind_Right.f inF
  by_cases h : 1 ≤ t ∧ t ≤ 6
  · rw [if_pos h.1, decide_eq_true h.2, Option.bind_some, if_pos rfl]
    unfold kind_Wrap.f
    rcases (by omega : t = 1 ∨ t = 2 ∨ t = 3 ∨ t = 4 ∨ t = 5 ∨ t = 6) with rfl | rfl | rfl | rfl | rfl | rfl
    · rw [if_pos rfl, if_pos rfl]
      by_cases hn : n = 0
      · subst hn; rfl
      · rw [if_neg hn, Option.bind_some]
        congr 1
        rw [Bool.eq_iff_iff, beq_iff_eq, decide_eq_true_eq]
        omega
    all_goals simp only [reduceCtorEq, if_true, if_false, Option.bind_some, Option.some.injEq, show ((2 : Int) = 1) = False by decide, show ((3 : Int) = 1) = False by decide, show ((3 : Int) = 2) = False by decide, show ((4 : Int) = 1) = False by decide, show ((4 : Int) = 2) = False by decide, show ((4 : Int) = 3) = False by decide, show ((5 : Int) = 1) = False by decide, show ((5 : Int) = 2) = False by decide, show ((5 : Int) = 3) = False by decide, show ((5 : Int) = 4) = False by decide, show ((6 : Int) = 1) = False by decide, show ((6 : Int) = 2) = False by decide, show ((6 : Int) = 3) = False by decide, show ((6 : Int) = 4) = False by decide, show ((6 : Int) = 5) = False by decide]
    all_goals rw [Bool.eq_iff_iff, beq_iff_eq, decide_eq_true_eq]
    · have e : IntKind.i16.wrap n = (if 32768 ≤ n % 65536 then n % 65536 - 65536 else n % 65536) := by simp [IntKind.wrap, IntKind.signed, IntKind.bits]
      rw [e]; unfold wrap64; split <;> omega
    · unfold wrap32 wrap64; omega
    · have e : IntKind.u16.wrap n = n % 65536 := by simp [IntKind.wrap, IntKind.signed, IntKind.bits]
      rw [e]; unfold wrap64; omega
    · omega
    · simp
  · by_cases h1 : t ≥ 1
    · rw [if_pos h1, decide_eq_false (by omega), Option.bind_some, if_neg (by decide), if_neg (by omega), if_neg (by omega), if_neg (by omega), if_neg (by omega), if_neg (by omega), decide_eq_false (by omega)]
    · rw [if_neg h1, Option.bind_some, if_neg (by decide), if_neg (by omega), if_neg (by omega), if_neg (by omega), if_neg (by omega), if_neg (by omega), decide_eq_false (by omega)]
theorem rright_is (t : Int) : ladderbackref01_Right.f t = some (decide (1 ≤ t ∧ t ≤ 6)) := by
  unfold ladderbackref01_Right.f
  by_cases h : t > 0
  · rw [if_pos h]; congr 1; rw [Bool.eq_iff_iff]; simp; omega
  · rw [if_neg h]; congr 1; rw [Bool.eq_iff_iff]; simp; omega
theorem rin_is (t n : Int) : ladderbackref01_In.f t n = some (inF t n) := by
  unfold ladderbackref01_In.f inF
  rw [rright_is, Option.bind_some]
  by_cases h6 : t = 6
  · subst h6; rfl
  · rw [if_neg h6]
    by_cases h : 1 ≤ t ∧ t ≤ 6
    · rw [if_pos (decide_eq_true h)]
      unfold ladderbackref01_Low.f ladderbackref01_High.f
      rcases (by omega : t = 1 ∨ t = 2 ∨ t = 3 ∨ t = 4 ∨ t = 5) with rfl | rfl | rfl | rfl | rfl
      all_goals simp only [reduceCtorEq, if_true, if_false, Option.bind_some, show ((2 : Int) = 1) = False by decide, show ((1 : Int) = 2) = False by decide, show ((1 : Int) = 3) = False by decide, show ((3 : Int) = 1) = False by decide, show ((3 : Int) = 2) = False by decide, show ((4 : Int) = 1) = False by decide, show ((4 : Int) = 2) = False by decide, show ((4 : Int) = 3) = False by decide, show ((5 : Int) = 1) = False by decide, show ((5 : Int) = 2) = False by decide, show ((5 : Int) = 3) = False by decide, show ((5 : Int) = 4) = False by decide]
      all_goals
        split
        · congr 1; rw [Bool.eq_iff_iff]; simp; omega
        · congr 1; rw [Bool.eq_iff_iff]; simp; omega
    · rw [if_neg (by simpa using h), if_neg (by omega), if_neg (by omega), if_neg (by omega), if_neg (by omega), if_neg (by omega), decide_eq_false h6]
end Go.Proofs.Ytghhbdmggmdffaa.RPure
end

section
/- ref17.Tables, walked by hand: whether any variables and blocks are right. -/
namespace Go.Proofs.Ytghhbdmggmdffaa.Given
open Go Go.RowKit Go.Proofs.Ytghhbdmggmdffaa.PDe Go.Proofs.Ytghhbdmggmdffaa.RPure Go.Proofs.YtghhbdmggmdffaaW.PrintWords Go.Proofs.YtghhbdmggmdffaaW.PrintLast Go.Proofs.YtghhbdmggmdffaaW.PrintMore
set_option linter.unusedVariables false
set_option linter.unusedSimpArgs false
def goodV (x : S45) : Bool := decide (1 ≤ x.f1 ∧ x.f1 ≤ 6) && inF x.f1 x.f4 && decide (1 ≤ x.f2 ∧ x.f2 ≤ 16 ∧ 0 ≤ x.f3 ∧ x.f3 ≤ 2)
def goodB (x : S47) : Bool := decide (1 ≤ x.f1 ∧ x.f1 ≤ 8)
def tabF (v : List S45) (b : List S47) : Int := if 64 < v.length ∨ 32 < b.length then 5 else if v.all goodV = true then (if b.all goodB = true then 0 else 10) else 10
theorem all_not {α : Type} {p : α → Bool} {l : List α} {j : Nat} (h : j < l.length) (hp : p l[j] = false) : l.all p = false := by
  rw [Bool.eq_false_iff]; intro e
  rw [List.all_eq_true] at e
  rw [e _ (List.getElem_mem h)] at hp; cases hp
theorem all_upto {α : Type} {p : α → Bool} {l : List α} {n : Nat} (hn : l.length = n) (h : ∀ k (hk : k < l.length), k < n → p l[k] = true) : l.all p = true := by
  rw [List.all_eq_true]; intro x hx
  obtain ⟨j, hj, rfl⟩ := List.getElem_of_mem hx
  exact h j hj (by omega)
theorem rd_v (v : List S45) (i : Nat) (h : i < v.length) : rd_T45 v (i : Int) = v[i] := by unfold rd_T45; rw [Int.toNat_natCast, List.getD_eq_getElem?_getD, List.getElem?_eq_getElem h]; rfl
theorem rd_b (v : List S47) (i : Nat) (h : i < v.length) : rd_T47 v (i : Int) = v[i] := by unfold rd_T47; rw [Int.toNat_natCast, List.getD_eq_getElem?_getD, List.getElem?_eq_getElem h]; rfl
theorem D_below {w wr : World} (h : Drawn0 w wr) : Below w.heap.size w wr := by obtain ⟨m, rfl⟩ := h; exact pw_below_drewN (Below.refl _ _) m
theorem D_step {w wr : World} (h : Drawn0 w wr) (n : Nat) : Drawn0 w (wr.drewN n) := by obtain ⟨m, rfl⟩ := h; exact ⟨_, World.drewN_drewN _ _ _⟩
set_option maxHeartbeats 8000000 in
set_option maxRecDepth 100000 in
theorem tables_w (A0 A1 : Option Addr) (c0 c1 : Nat) (v : List S45) (b : List S47) (w : World) (g0 : Kd.C k45 w A0 v.length v) (g1 : Kd.C k47 w A1 b.length b) :
    Calls Try.prog 9 #[.slice A0 v.length c0, .slice A1 b.length c1] w fun e w' => e = .returned (.int .i64 (tabF v b)) ∧ Drawn0 w w' := by
  by_cases s1 : 64 < v.length
  · rw [show tabF v b = 5 from if_pos (.inl s1)]
    have d1 : decide ((v.length : Int) > 64) = true := decide_eq_true (by omega)
    go_enter Try.func9, Try.ntmps9
    go_wp2_with fail
    go_ret
    exact ⟨rfl, Drawn0.refl _⟩
  by_cases s2 : 32 < b.length
  · rw [show tabF v b = 5 from if_pos (.inr s2)]
    have d1 : decide ((v.length : Int) > 64) = false := decide_eq_false (by omega)
    have d2 : decide ((b.length : Int) > 32) = true := decide_eq_true (by omega)
    go_enter Try.func9, Try.ntmps9
    go_wp2_with fail
    go_ret
    exact ⟨rfl, Drawn0.refl _⟩
  obtain ⟨N, hN⟩ : ∃ N, v.length = N := ⟨_, rfl⟩
  obtain ⟨M, hM⟩ : ∃ M, b.length = M := ⟨_, rfl⟩
  have hT : tabF v b = if v.all goodV = true then (if b.all goodB = true then 0 else 10) else 10 := if_neg (by omega)
  rw [hN] at g0 s1 ⊢
  rw [hM] at g1 s2 ⊢
  have d1 : decide ((N : Int) > 64) = false := decide_eq_false (by omega)
  have d2 : decide ((M : Int) > 32) = false := decide_eq_false (by omega)
  have HN := Aside0.mk hN
  have HM := Aside0.mk hM
  have HT := Aside0.mk hT
  have G0 := Aside0.mk g0
  have G1 := Aside0.mk g1
  clear g0 g1 hN hM hT
  generalize tabF v b = R at HT ⊢
  go_enter Try.func9, Try.ntmps9
  go_wp2_with fail
  clear d1 d2
  go_loopw [5] (fun x wr => ∃ j : Nat, j ≤ N ∧ x = .int .i64 j ∧ Aside0 (∀ k (hk : k < v.length), k < j → goodV v[k] = true) ∧ Aside0 (Drawn0 w wr)) (fun x _ => N - (intOf x).toNat)
  case atStart => exact ⟨0, Nat.zero_le _, rfl, ⟨fun k hk h => by omega⟩, ⟨Drawn0.refl _⟩⟩
  case round =>
    obtain ⟨j, hj, rfl, HE, HD⟩ := hrel
    by_cases hlt : j < N
    · have hlv : j < v.length := by have := HN.out; omega
      obtain ⟨ad, rfl, k0, k1, k2, k3, k4⟩ := at_T45 (Kd.C_below G0.out (D_below HD.out)) (j : Int) (by omega) (by omega)
      rw [Int.toNat_natCast] at k0 k1 k2 k3 k4
      rw [rd_v v j hlv] at k0 k1 k2 k3 k4
      have HG := Aside0.mk (show goodV v[j] = goodV v[j] from rfl)
      obtain ⟨x, hx⟩ : ∃ x, x = v[j] := ⟨_, rfl⟩
      rw [← hx] at k0 k1 k2 k3 k4
      have HX := Aside0.mk hx
      clear hx
      have RI := fun W => ladderbackref01_Right.calls x.f1 _ W (rright_is x.f1)
      have IN := fun W => ladderbackref01_In.calls x.f1 x.f4 _ W (rin_is x.f1 x.f4)
      by_cases c1 : 1 ≤ x.f1 ∧ x.f1 ≤ 6
      rotate_left
      · skip
        rw [decide_eq_false c1] at RI
        have hb : goodV x = false := by
          rw [Bool.eq_false_iff]; intro e; unfold goodV at e; simp only [Bool.and_eq_true, decide_eq_true_eq] at e; first | exact c1 e.1.1 | exact c2 e.1.2 | omega
        have hr : R = 10 := by rw [HT.out, all_not hlv (by rw [← HX.out]; exact hb)]; rfl
        clear hb c1
        have RI := Aside0.mk RI
        have IN := Aside0.mk IN
        go_wp2_with fail; repeat (go_quiet (first | (go_at_call 30; (with_reducible refine (RI.out _).mono ?_); rintro e w' ⟨rfl, ⟨nd, rfl⟩⟩; (try first | exact ⟨rfl, _, World.drewN_drewN _ _ _⟩ | exact ⟨rfl, _, Eq.trans (World.drewN_drewN _ _ _) (congrArg (World.drewN _) (Nat.add_assoc _ _ _))⟩)) | (go_at_call 31; (with_reducible refine (IN.out _).mono ?_); rintro e w' ⟨rfl, ⟨nd, rfl⟩⟩; (try first | exact ⟨rfl, _, World.drewN_drewN _ _ _⟩ | exact ⟨rfl, _, Eq.trans (World.drewN_drewN _ _ _) (congrArg (World.drewN _) (Nat.add_assoc _ _ _))⟩))); try go_wp2)
        go_ret
        rw [hr]
        exact ⟨rfl, (by first | exact HD.out | exact D_step HD.out _)⟩
      have c1s := c1
      rw [decide_eq_true c1] at RI
      clear c1
      by_cases c2 : inF x.f1 x.f4 = true
      rotate_left
      · skip
        rw [(Bool.eq_false_iff).2 c2] at IN
        have hb : goodV x = false := by
          rw [Bool.eq_false_iff]; intro e; unfold goodV at e; simp only [Bool.and_eq_true, decide_eq_true_eq] at e; first | exact c1 e.1.1 | exact c2 e.1.2 | omega
        have hr : R = 10 := by rw [HT.out, all_not hlv (by rw [← HX.out]; exact hb)]; rfl
        clear hb c2
        have RI := Aside0.mk RI
        have IN := Aside0.mk IN
        go_wp2_with fail; repeat (go_quiet (first | (go_at_call 30; (with_reducible refine (RI.out _).mono ?_); rintro e w' ⟨rfl, ⟨nd, rfl⟩⟩; (try first | exact ⟨rfl, _, World.drewN_drewN _ _ _⟩ | exact ⟨rfl, _, Eq.trans (World.drewN_drewN _ _ _) (congrArg (World.drewN _) (Nat.add_assoc _ _ _))⟩)) | (go_at_call 31; (with_reducible refine (IN.out _).mono ?_); rintro e w' ⟨rfl, ⟨nd, rfl⟩⟩; (try first | exact ⟨rfl, _, World.drewN_drewN _ _ _⟩ | exact ⟨rfl, _, Eq.trans (World.drewN_drewN _ _ _) (congrArg (World.drewN _) (Nat.add_assoc _ _ _))⟩))); try go_wp2)
        go_ret
        rw [hr]
        exact ⟨rfl, (by first | exact HD.out | exact D_step HD.out _)⟩
      rw [c2] at IN
      by_cases c3 : 1 ≤ x.f2
      rotate_left
      · skip
        have dc3 : decide (x.f2 < 1) = true := decide_eq_true (by omega)
        have hb : goodV x = false := by
          rw [Bool.eq_false_iff]; intro e; unfold goodV at e; simp only [Bool.and_eq_true, decide_eq_true_eq] at e; first | exact c1 e.1.1 | exact c2 e.1.2 | omega
        have hr : R = 10 := by rw [HT.out, all_not hlv (by rw [← HX.out]; exact hb)]; rfl
        clear hb c3
        have RI := Aside0.mk RI
        have IN := Aside0.mk IN
        go_wp2_with fail; repeat (go_quiet (first | (go_at_call 30; (with_reducible refine (RI.out _).mono ?_); rintro e w' ⟨rfl, ⟨nd, rfl⟩⟩; (try first | exact ⟨rfl, _, World.drewN_drewN _ _ _⟩ | exact ⟨rfl, _, Eq.trans (World.drewN_drewN _ _ _) (congrArg (World.drewN _) (Nat.add_assoc _ _ _))⟩)) | (go_at_call 31; (with_reducible refine (IN.out _).mono ?_); rintro e w' ⟨rfl, ⟨nd, rfl⟩⟩; (try first | exact ⟨rfl, _, World.drewN_drewN _ _ _⟩ | exact ⟨rfl, _, Eq.trans (World.drewN_drewN _ _ _) (congrArg (World.drewN _) (Nat.add_assoc _ _ _))⟩))); try go_wp2)
        go_ret
        rw [hr]
        exact ⟨rfl, (by first | exact HD.out | exact D_step HD.out _)⟩
      have dc3 : decide (x.f2 < 1) = false := decide_eq_false (by omega)
      by_cases c4 : x.f2 ≤ 16
      rotate_left
      · skip
        have dc4 : decide (x.f2 > 16) = true := decide_eq_true (by omega)
        have hb : goodV x = false := by
          rw [Bool.eq_false_iff]; intro e; unfold goodV at e; simp only [Bool.and_eq_true, decide_eq_true_eq] at e; first | exact c1 e.1.1 | exact c2 e.1.2 | omega
        have hr : R = 10 := by rw [HT.out, all_not hlv (by rw [← HX.out]; exact hb)]; rfl
        clear hb c4
        have RI := Aside0.mk RI
        have IN := Aside0.mk IN
        go_wp2_with fail; repeat (go_quiet (first | (go_at_call 30; (with_reducible refine (RI.out _).mono ?_); rintro e w' ⟨rfl, ⟨nd, rfl⟩⟩; (try first | exact ⟨rfl, _, World.drewN_drewN _ _ _⟩ | exact ⟨rfl, _, Eq.trans (World.drewN_drewN _ _ _) (congrArg (World.drewN _) (Nat.add_assoc _ _ _))⟩)) | (go_at_call 31; (with_reducible refine (IN.out _).mono ?_); rintro e w' ⟨rfl, ⟨nd, rfl⟩⟩; (try first | exact ⟨rfl, _, World.drewN_drewN _ _ _⟩ | exact ⟨rfl, _, Eq.trans (World.drewN_drewN _ _ _) (congrArg (World.drewN _) (Nat.add_assoc _ _ _))⟩))); try go_wp2)
        go_ret
        rw [hr]
        exact ⟨rfl, (by first | exact HD.out | exact D_step HD.out _)⟩
      have dc4 : decide (x.f2 > 16) = false := decide_eq_false (by omega)
      by_cases c5 : 0 ≤ x.f3
      rotate_left
      · skip
        have dc5 : decide (x.f3 < 0) = true := decide_eq_true (by omega)
        have hb : goodV x = false := by
          rw [Bool.eq_false_iff]; intro e; unfold goodV at e; simp only [Bool.and_eq_true, decide_eq_true_eq] at e; first | exact c1 e.1.1 | exact c2 e.1.2 | omega
        have hr : R = 10 := by rw [HT.out, all_not hlv (by rw [← HX.out]; exact hb)]; rfl
        clear hb c5
        have RI := Aside0.mk RI
        have IN := Aside0.mk IN
        go_wp2_with fail; repeat (go_quiet (first | (go_at_call 30; (with_reducible refine (RI.out _).mono ?_); rintro e w' ⟨rfl, ⟨nd, rfl⟩⟩; (try first | exact ⟨rfl, _, World.drewN_drewN _ _ _⟩ | exact ⟨rfl, _, Eq.trans (World.drewN_drewN _ _ _) (congrArg (World.drewN _) (Nat.add_assoc _ _ _))⟩)) | (go_at_call 31; (with_reducible refine (IN.out _).mono ?_); rintro e w' ⟨rfl, ⟨nd, rfl⟩⟩; (try first | exact ⟨rfl, _, World.drewN_drewN _ _ _⟩ | exact ⟨rfl, _, Eq.trans (World.drewN_drewN _ _ _) (congrArg (World.drewN _) (Nat.add_assoc _ _ _))⟩))); try go_wp2)
        go_ret
        rw [hr]
        exact ⟨rfl, (by first | exact HD.out | exact D_step HD.out _)⟩
      have dc5 : decide (x.f3 < 0) = false := decide_eq_false (by omega)
      by_cases c6 : x.f3 ≤ 2
      rotate_left
      · skip
        have dc6 : decide (x.f3 > 2) = true := decide_eq_true (by omega)
        have hb : goodV x = false := by
          rw [Bool.eq_false_iff]; intro e; unfold goodV at e; simp only [Bool.and_eq_true, decide_eq_true_eq] at e; first | exact c1 e.1.1 | exact c2 e.1.2 | omega
        have hr : R = 10 := by rw [HT.out, all_not hlv (by rw [← HX.out]; exact hb)]; rfl
        clear hb c6
        have RI := Aside0.mk RI
        have IN := Aside0.mk IN
        go_wp2_with fail; repeat (go_quiet (first | (go_at_call 30; (with_reducible refine (RI.out _).mono ?_); rintro e w' ⟨rfl, ⟨nd, rfl⟩⟩; (try first | exact ⟨rfl, _, World.drewN_drewN _ _ _⟩ | exact ⟨rfl, _, Eq.trans (World.drewN_drewN _ _ _) (congrArg (World.drewN _) (Nat.add_assoc _ _ _))⟩)) | (go_at_call 31; (with_reducible refine (IN.out _).mono ?_); rintro e w' ⟨rfl, ⟨nd, rfl⟩⟩; (try first | exact ⟨rfl, _, World.drewN_drewN _ _ _⟩ | exact ⟨rfl, _, Eq.trans (World.drewN_drewN _ _ _) (congrArg (World.drewN _) (Nat.add_assoc _ _ _))⟩))); try go_wp2)
        go_ret
        rw [hr]
        exact ⟨rfl, (by first | exact HD.out | exact D_step HD.out _)⟩
      have dc6 : decide (x.f3 > 2) = false := decide_eq_false (by omega)
      have hg : goodV x = true := by unfold goodV; rw [decide_eq_true c1s, c2, decide_eq_true ⟨c3, c4, c5, c6⟩]; rfl
      clear c1s c2 c3 c4 c5 c6
      have RI := Aside0.mk RI
      have IN := Aside0.mk IN
      have HGX := Aside0.mk hg
      clear hg
      go_wp2_with fail; repeat (go_quiet (first | (go_at_call 30; (with_reducible refine (RI.out _).mono ?_); rintro e w' ⟨rfl, ⟨nd, rfl⟩⟩; (try first | exact ⟨rfl, _, World.drewN_drewN _ _ _⟩ | exact ⟨rfl, _, Eq.trans (World.drewN_drewN _ _ _) (congrArg (World.drewN _) (Nat.add_assoc _ _ _))⟩)) | (go_at_call 31; (with_reducible refine (IN.out _).mono ?_); rintro e w' ⟨rfl, ⟨nd, rfl⟩⟩; (try first | exact ⟨rfl, _, World.drewN_drewN _ _ _⟩ | exact ⟨rfl, _, Eq.trans (World.drewN_drewN _ _ _) (congrArg (World.drewN _) (Nat.add_assoc _ _ _))⟩))); try go_wp2)
      refine ⟨⟨j + 1, by omega, rfl, ⟨fun k hk h => ?_⟩, ⟨(by first | exact HD.out | exact D_step HD.out _)⟩⟩, by simp [intOf]; omega⟩
      rcases (by omega : k < j ∨ k = j) with h2 | rfl
      · exact HE.out k hk h2
      · rw [← HX.out]; exact HGX.out
    · have hgv : v.all goodV = true := all_upto HN.out (fun k hk h => HE.out k hk (by omega))
      have hT : R = if b.all goodB = true then 0 else 10 := by rw [HT.out, if_pos hgv]
      have HT := Aside0.mk hT
      clear hgv hT
      go_wp2_with fail
      go_loopw [6] (fun x wr => ∃ j : Nat, j ≤ M ∧ x = .int .i64 j ∧ Aside0 (∀ k (hk : k < b.length), k < j → goodB b[k] = true) ∧ Aside0 (Drawn0 w wr)) (fun x _ => M - (intOf x).toNat)
      case atStart => exact ⟨0, Nat.zero_le _, rfl, ⟨fun k hk h => by omega⟩, HD⟩
      case round =>
        clear HE HD
        obtain ⟨j, hj, rfl, HE, HD⟩ := hrel
        by_cases hlt : j < M
        · have hlv : j < b.length := by have := HM.out; omega
          obtain ⟨ad, rfl, k0, k1⟩ := at_T47 (Kd.C_below G1.out (D_below HD.out)) (j : Int) (by omega) (by omega)
          rw [Int.toNat_natCast] at k0 k1
          rw [rd_b b j hlv] at k0 k1
          obtain ⟨x, hx⟩ : ∃ x, x = b[j] := ⟨_, rfl⟩
          rw [← hx] at k0 k1
          have HX := Aside0.mk hx
          clear hx
          by_cases c1 : x.f1 < 1
          · have d1 : decide (x.f1 < 1) = true := decide_eq_true c1
            have hb : goodB x = false := decide_eq_false (by omega)
            have hr : R = 10 := by rw [HT.out, all_not hlv (by rw [← HX.out]; exact hb)]; rfl
            clear hb c1
            go_wp2_with fail
            go_ret
            rw [hr]
            exact ⟨rfl, (by first | exact HD.out | exact D_step HD.out _)⟩
          by_cases c2 : x.f1 > 8
          · have d1 : decide (x.f1 < 1) = false := decide_eq_false c1
            have d2 : decide (x.f1 > 8) = true := decide_eq_true c2
            have hb : goodB x = false := decide_eq_false (by omega)
            have hr : R = 10 := by rw [HT.out, all_not hlv (by rw [← HX.out]; exact hb)]; rfl
            clear hb c1 c2
            go_wp2_with fail
            go_ret
            rw [hr]
            exact ⟨rfl, (by first | exact HD.out | exact D_step HD.out _)⟩
          have d1 : decide (x.f1 < 1) = false := decide_eq_false c1
          have d2 : decide (x.f1 > 8) = false := decide_eq_false c2
          have HGX := Aside0.mk (show goodB x = true from decide_eq_true (by omega))
          clear c1 c2
          go_wp2_with fail
          refine ⟨⟨j + 1, by omega, rfl, ⟨fun k hk h => ?_⟩, ⟨(by first | exact HD.out | exact D_step HD.out _)⟩⟩, by simp [intOf]; omega⟩
          rcases (by omega : k < j ∨ k = j) with h2 | rfl
          · exact HE.out k hk h2
          · rw [← HX.out]; exact HGX.out
        · have hr : R = 0 := by rw [HT.out, if_pos (all_upto HM.out (fun k hk h => HE.out k hk (by omega)))]
          go_wp2_with fail
          go_ret
          rw [hr]
          exact ⟨rfl, (by first | exact HD.out | exact D_step HD.out _)⟩
def ladderbackref17_Tables.f (v : List S45) (b : List S47) : Option Int := some (tabF v b)
theorem ladderbackref17_Tables.calls (A0 : Option Addr) (c0 : Nat) (l0 : List S45) (A1 : Option Addr) (c1 : Nat) (l1 : List S47) (r : Int) (w : World) (hr0 : Kd.C k45 w A0 l0.length l0) (hc0 : l0.length ≤ c0) (hr1 : Kd.C k47 w A1 l1.length l1) (hc1 : l1.length ≤ c1) (h : ladderbackref17_Tables.f l0 l1 = some r) :
    Calls Try.prog 9 #[.slice A0 l0.length c0, .slice A1 l1.length c1] w fun e w' => e = .returned (.int .i64 r) ∧ Drawn0 w w' := by
  obtain rfl := Option.some.inj h
  exact tables_w A0 A1 c0 c1 l0 l1 w hr0 hr1
end Go.Proofs.Ytghhbdmggmdffaa.Given
end

section
/- Printed by a program of this session (wip/pg.py, over the print of the kit): functions, their Lean twins, and the proofs that the calls come to them; each under the conditions that it names. -/
namespace Go.Proofs.Ytghhbdmggmdffaa.PDe
open Go.RowKit Go.Proofs.YtghhbdmggmdffaaW.PrintWords Go.Proofs.YtghhbdmggmdffaaW.PrintLast Go.Proofs.YtghhbdmggmdffaaW.PrintMore
attribute [local go_sem] max2_int min2_int max_two min_two max_three min_three max_four min_four   -- for this text's walks alone
set_option linter.unusedVariables false
set_option linter.unusedSimpArgs false

/-! ### ladderbackref17_Head: function 15 -/
mutual
def ladderbackref17_Head.j0 : Nat → List Int → Int → List Int → Bool → Int → Option (Int)
  | 0, _, _, _, _, _ => none
  | k + 1, x0, x1, x2, x3, x9 => if (x0.length : Int) > 8 then (ladderbackref17_Head.j1 k x0 x1 x2 x3 true) else (ladderbackref17_Head.j1 k x0 x1 x2 x3 (decide (x9 > 1024)))
def ladderbackref17_Head.j1 : Nat → List Int → Int → List Int → Bool → Bool → Option (Int)
  | 0, _, _, _, _, _ => none
  | k + 1, x0, x1, x2, x3, x27 => if x27 = true then (some 5) else (ladderbackref17_Head.l0 k x0 x1 x2 x3 0)
def ladderbackref17_Head.l0 : Nat → List Int → Int → List Int → Bool → Int → Option (Int)
  | 0, _, _, _, _, _ => none
  | k + 1, x0, x1, x2, x3, x10 => if x10 < (x0.length : Int) then (if 0 ≤ x10 then ((ladderbackref01_Right.f (rd x0 x10)).bind fun t198 => (if t198 = true then (ladderbackref17_Head.l0 k x0 x1 x2 x3 (wrap64 (x10 + 1))) else (some 10))) else (none)) else (ladderbackref17_Head.l1 k x0 x1 x2 x3 0)
def ladderbackref17_Head.l1 : Nat → List Int → Int → List Int → Bool → Int → Option (Int)
  | 0, _, _, _, _, _ => none
  | k + 1, x0, x1, x2, x3, x11 => if x11 < (x2.length : Int) then (if 0 ≤ x11 then ((ladderbackref01_Right.f (rd x2 x11)).bind fun t200 => (if t200 = true then (ladderbackref17_Head.l1 k x0 x1 x2 x3 (wrap64 (x11 + 1))) else (some 10))) else (none)) else (if x1 = 0 then (if x3 = true then (if (x0.length : Int) > 0 then (some 10) else (some 0)) else (some 0)) else ((ladderbackref01_Right.f x1).bind fun t201 => (if t201 = true then (if x3 = true then (if (x0.length : Int) > 0 then (some 10) else (some 10)) else (some 0)) else (some 10))))
end
def ladderbackref17_Head.f (k : Nat) (l0 : List Int) (a1 : Int) (l2 : List Int) (a3 : Bool) : Option (Int) := if a1 = 0 then (ladderbackref17_Head.j0 k l0 a1 l2 a3 (wrap64 ((l0.length : Int) + (l2.length : Int)))) else (ladderbackref17_Head.j0 k l0 a1 l2 a3 (wrap64 ((wrap64 ((l0.length : Int) + (l2.length : Int))) + 1)))
set_option maxHeartbeats 8000000 in
set_option maxRecDepth 100000 in
theorem ladderbackref17_Head.calls (k : Nat) (A0 : Option Addr) (c0 : Nat) (l0 : List Int) (a1 : Int) (A2 : Option Addr) (c2 : Nat) (l2 : List Int) (a3 : Bool) (r : Int) (w : World) (hr0 : Kd.C (Kd.int .i64) w A0 l0.length l0) (hc0 : l0.length ≤ c0) (hr2 : Kd.C (Kd.int .i64) w A2 l2.length l2) (hc2 : l2.length ≤ c2) (h : ladderbackref17_Head.f k l0 a1 l2 a3 = some r) :
    Calls Try.prog 15 #[.slice A0 l0.length c0, .int .i64 a1, .slice A2 l2.length c2, .bool a3] w fun e w' => e = .returned (.int .i64 r) ∧ Drawn0 w w' := by
  have HR0 := Aside0.mk hr0
  have HC0 := Aside0.mk hc0
  clear hr0 hc0
  have HR2 := Aside0.mk hr2
  have HC2 := Aside0.mk hc2
  clear hr2 hc2
  have H : (if a1 = 0 then (ladderbackref17_Head.j0 k l0 a1 l2 a3 (wrap64 ((l0.length : Int) + (l2.length : Int)))) else (ladderbackref17_Head.j0 k l0 a1 l2 a3 (wrap64 ((wrap64 ((l0.length : Int) + (l2.length : Int))) + 1)))) = some r := h
  clear h
  have HC5 := Aside0.mk H
  clear H
  go_enter Try.func15, Try.ntmps15
  go_upto_if 18 with (fail)
  go_cut [9] (fun v9 wc => ∃ (kq : Nat) (x9_4 : Int), v9 = .int .i64 x9_4 ∧ Aside0 (ladderbackref17_Head.j0 kq l0 a1 l2 a3 x9_4 = some r) ∧ Aside0 (kq ≤ k) ∧ Drawn0 w wc)
  case first =>
    have H := HC5.out
    clear HC5
    by_cases c6 : a1 = 0
    · rw [if_pos c6] at H
      have c6b0 : (a1 == 0) = true := beq_iff_eq.mpr c6
      have c6b1 : (a1 != 0) = false := bne_eq_false_iff_eq.mpr c6
      clear c6
      (first | rw [c6b0] | (simp only [i64_w, i32_w]; rw [c6b0]) | skip)
      have H' := Aside0.mk H
      clear H
      go_wp2
      go_meet
      case rel => exact ⟨_, (wrap64 ((l0.length : Int) + (l2.length : Int))), (by first | rfl | (simp; done) | (simp [*]; done)), H', ⟨by first | omega | exact Nat.le_refl _⟩, by repeat (first | exact Drawn0.refl _ | apply Drawn0.step)⟩
    · rw [if_neg c6] at H
      have c6b0 : (a1 == 0) = false := beq_eq_false_iff_ne.mpr c6
      have c6b1 : (a1 != 0) = true := bne_iff_ne.mpr c6
      (first | rw [c6b0] | (simp only [i64_w, i32_w]; rw [c6b0]) | skip)
      have H' := Aside0.mk H
      clear H
      go_wp2
      go_meet
      case rel => exact ⟨_, (wrap64 ((wrap64 ((l0.length : Int) + (l2.length : Int))) + 1)), (by first | rfl | (simp; done) | (simp [*]; done)), H', ⟨by first | omega | exact Nat.le_refl _⟩, by repeat (first | exact Drawn0.refl _ | apply Drawn0.step)⟩
  case rest =>
    clear HC5
    try clear c1
    try clear c2
    try clear p2
    try clear c6
    try clear c6b0
    try clear c6b1
    try clear p6
    obtain ⟨kq, x9_4, rfl, HA, HJ4, ⟨mc4, rfl⟩⟩ := hcut
    cases kq with
    | zero => exact absurd HA.out (by simp [ladderbackref17_Head.j0])
    | succ kj4 =>
      have H := HA.out
      clear HA
      simp only [ladderbackref17_Head.j0] at H
      have HC7 := Aside0.mk H
      clear H
      go_upto_region 4 with (fail)
      go_cut [27] (fun v27 wc => ∃ (kq : Nat) (x27_6 : Bool), v27 = .bool x27_6 ∧ Aside0 (ladderbackref17_Head.j1 kq l0 a1 l2 a3 x27_6 = some r) ∧ Aside0 (kq ≤ kj4) ∧ Drawn0 w wc)
      case first =>
        have H := HC7.out
        clear HC7
        by_cases c8 : (l0.length : Int) > 8
        · rw [if_pos c8] at H
          have c8b0 : decide (8 < (l0.length : Int)) = true := decide_eq_true c8
          have c8b1 : decide (8 < l0.length) = true := decide_eq_true (by omega)
          clear c8
          (first | rw [c8b0] | (simp only [i64_w, i32_w]; rw [c8b0]) | skip)
          have H' := Aside0.mk H
          clear H
          go_wp2
          go_meet
          case rel => exact ⟨_, (true), (by first | rfl | (simp; done) | (simp [*]; done)), H', ⟨by have := HJ4.out; first | omega | exact Nat.le_refl _⟩, by repeat (first | exact Drawn0.refl _ | apply Drawn0.step)⟩
        · rw [if_neg c8] at H
          have c8b0 : decide (8 < (l0.length : Int)) = false := decide_eq_false c8
          have c8b1 : decide (8 < l0.length) = false := decide_eq_false (by omega)
          clear c8
          (first | rw [c8b0] | (simp only [i64_w, i32_w]; rw [c8b0]) | skip)
          have H' := Aside0.mk H
          clear H
          go_wp2
          go_meet
          case rel => exact ⟨_, (decide (x9_4 > 1024)), (by first | rfl | (simp; done) | (simp [*]; done)), H', ⟨by have := HJ4.out; first | omega | exact Nat.le_refl _⟩, by repeat (first | exact Drawn0.refl _ | apply Drawn0.step)⟩
      case rest =>
        clear HC7
        try clear c1
        try clear c2
        try clear p2
        try clear c4
        try clear c6
        try clear c6b0
        try clear c6b1
        try clear p6
        try clear c8
        try clear c8b0
        try clear c8b1
        try clear p2
        try clear p6
        obtain ⟨kq, x27_6, rfl, HA, HJ6, ⟨mc6, rfl⟩⟩ := hcut
        cases kq with
        | zero => exact absurd HA.out (by simp [ladderbackref17_Head.j1])
        | succ kj6 =>
          have H := HA.out
          clear HA
          simp only [ladderbackref17_Head.j1] at H
          by_cases c9 : x27_6 = true
          · subst c9
            have H1 : (some 5) = some r := by rw [if_pos rfl] at H; exact H
            clear H
            have H := H1
            clear H1
            obtain rfl := Option.some.inj H
            go_wp2
            go_ret
            exact ⟨by first | rfl | (simp; done) | (simp [*]; done), by repeat (first | exact Drawn0.refl _ | apply Drawn0.step)⟩
          · replace c9 := Bool.eq_false_iff.mpr c9
            subst c9
            have H1 : (ladderbackref17_Head.l0 kj6 l0 a1 l2 a3 0) = some r := by rw [if_neg (show ¬ (false = true) by decide)] at H; exact H
            clear H
            have H := H1
            clear H1
            have H' := Aside0.mk H
            clear H
            go_wp2
            go_loopg [10] kj6 (fun kq v10 w' => ∃ (x10_3 : Int), v10 = .int .i64 x10_3 ∧ Aside0 (ladderbackref17_Head.l0 kq l0 a1 l2 a3 x10_3 = some r) ∧ Aside0 (kq ≤ kj6) ∧ Drawn0 w w')
            case atStart => exact ⟨(0), (by first | rfl | (simp; done) | (simp [*]; done)), H', ⟨Nat.le_refl _⟩, by repeat (first | exact Drawn0.refl _ | apply Drawn0.step)⟩
            case round =>
              clear H'
              try clear c1
              try clear c2
              try clear p2
              try clear c4
              try clear c6
              try clear c6b0
              try clear c6b1
              try clear p6
              try clear c8
              try clear c8b0
              try clear c8b1
              try clear c9
              try clear p2
              try clear p6
              obtain ⟨x10_3, rfl, HA, HK3, ⟨m3, rfl⟩⟩ := hrel
              cases gk with
              | zero => exact absurd HA.out (by simp [ladderbackref17_Head.l0])
              | succ k3 =>
                have H := HA.out
                clear HA
                simp only [ladderbackref17_Head.l0] at H
                by_cases c10 : x10_3 < (l0.length : Int)
                · rw [if_pos c10] at H
                  have c10b0 : decide (x10_3 < (l0.length : Int)) = true := decide_eq_true c10
                  clear c10
                  by_cases c11 : 0 ≤ x10_3
                  · rw [if_pos c11] at H
                    have c11b0 : decide (0 ≤ x10_3) = true := decide_eq_true c11
                    clear c11
                    replace H := Option.bind_eq_some_iff.mp H
                    obtain ⟨t198, A120, H⟩ := H
                    replace H : (if t198 = true then (ladderbackref17_Head.l0 k3 l0 a1 l2 a3 (wrap64 (x10_3 + 1))) else (some 10)) = some r := H
                    have A12 := Aside0.mk A120
                    clear A120
                    by_cases c13 : t198 = true
                    · subst c13
                      have H1 : (ladderbackref17_Head.l0 k3 l0 a1 l2 a3 (wrap64 (x10_3 + 1))) = some r := by rw [if_pos rfl] at H; exact H
                      clear H
                      have H := H1
                      clear H1
                      have H' := Aside0.mk H
                      clear H
                      have p197 : 0 ≤ (x10_3 : Int) := of_decide_eq_true (by first | (with_reducible assumption) | assumption)
                      have q197 : x10_3 < (l0.length : Int) := of_decide_eq_true (by first | (with_reducible assumption) | assumption)
                      obtain ⟨ad197, e197, hx197_0⟩ := Kd.at_int HR0.out x10_3 p197 q197
                      cases e197
                      replace p197 := eq_true p197
                      replace q197 := eq_true q197
                      go_wp2_with (first | ((with_reducible refine gate_callee (f := 30) rfl ?_); refine goesL_ (some 38) rfl rfl Try.func30 (by kernel_rfl) rfl #[.int .i64 (rd l0 x10_3)] rfl (by (try simp only [List.map_toArray, List.map_cons, List.map_nil]); first | done | rfl | (simp only [List.length_drop, List.length_take]; rfl)) ?_; (with_reducible refine (ladderbackref01_Right.calls (rd l0 x10_3) true _ A12.out).mono ?_); rintro e w' ⟨rfl, ⟨nd, rfl⟩⟩; refine ⟨_, rfl, ?_⟩))
                      go_roundg k3
                      case measure => have := HJ4.out; have := HJ6.out; have := HK3.out; omega
                      case rel => exact ⟨(wrap64 (x10_3 + 1)), (by first | rfl | (simp; done) | (simp [*]; done)), H', ⟨by have := HJ4.out; have := HJ6.out; have := HK3.out; omega⟩, by repeat (first | exact Drawn0.refl _ | apply Drawn0.step)⟩
                    · replace c13 := Bool.eq_false_iff.mpr c13
                      subst c13
                      have H1 : (some 10) = some r := by rw [if_neg (show ¬ (false = true) by decide)] at H; exact H
                      clear H
                      have H := H1
                      clear H1
                      obtain rfl := Option.some.inj H
                      have p197 : 0 ≤ (x10_3 : Int) := of_decide_eq_true (by first | (with_reducible assumption) | assumption)
                      have q197 : x10_3 < (l0.length : Int) := of_decide_eq_true (by first | (with_reducible assumption) | assumption)
                      obtain ⟨ad197, e197, hx197_0⟩ := Kd.at_int HR0.out x10_3 p197 q197
                      cases e197
                      replace p197 := eq_true p197
                      replace q197 := eq_true q197
                      go_wp2_with (first | ((with_reducible refine gate_callee (f := 30) rfl ?_); refine goesL_ (some 38) rfl rfl Try.func30 (by kernel_rfl) rfl #[.int .i64 (rd l0 x10_3)] rfl (by (try simp only [List.map_toArray, List.map_cons, List.map_nil]); first | done | rfl | (simp only [List.length_drop, List.length_take]; rfl)) ?_; (with_reducible refine (ladderbackref01_Right.calls (rd l0 x10_3) false _ A12.out).mono ?_); rintro e w' ⟨rfl, ⟨nd, rfl⟩⟩; refine ⟨_, rfl, ?_⟩))
                      go_ret
                      exact ⟨by first | rfl | (simp; done) | (simp [*]; done), by repeat (first | exact Drawn0.refl _ | apply Drawn0.step)⟩
                  · rw [if_neg c11] at H
                    exact absurd H (by simp)
                · rw [if_neg c10] at H
                  have c10b0 : decide (x10_3 < (l0.length : Int)) = false := decide_eq_false c10
                  clear c10
                  have H' := Aside0.mk H
                  clear H
                  go_wp2
                  go_loopg [11] k3 (fun kq v11 w' => ∃ (x11_4 : Int), v11 = .int .i64 x11_4 ∧ Aside0 (ladderbackref17_Head.l1 kq l0 a1 l2 a3 x11_4 = some r) ∧ Aside0 (kq ≤ k3) ∧ Drawn0 w w')
                  case atStart => exact ⟨(0), (by first | rfl | (simp; done) | (simp [*]; done)), H', ⟨Nat.le_refl _⟩, by repeat (first | exact Drawn0.refl _ | apply Drawn0.step)⟩
                  case round =>
                    clear H'
                    try clear c1
                    try clear p1
                    try clear q1
                    try clear hx1
                    try clear c2
                    try clear p2
                    try clear c3
                    try clear c4
                    try clear c6
                    try clear c6b0
                    try clear c6b1
                    try clear p6
                    try clear c8
                    try clear c8b0
                    try clear c8b1
                    try clear c9
                    try clear c10
                    try clear c10b0
                    try clear c11
                    try clear c11b0
                    try clear c13
                    try clear hx197_0
                    try clear p197
                    try clear p2
                    try clear p6
                    try clear q197
                    obtain ⟨x11_4, rfl, HA, HK4, ⟨m4, rfl⟩⟩ := hrel
                    cases gk with
                    | zero => exact absurd HA.out (by simp [ladderbackref17_Head.l1])
                    | succ k4 =>
                      have H := HA.out
                      clear HA
                      simp only [ladderbackref17_Head.l1] at H
                      by_cases c14 : x11_4 < (l2.length : Int)
                      · rw [if_pos c14] at H
                        have c14b0 : decide (x11_4 < (l2.length : Int)) = true := decide_eq_true c14
                        clear c14
                        by_cases c15 : 0 ≤ x11_4
                        · rw [if_pos c15] at H
                          have c15b0 : decide (0 ≤ x11_4) = true := decide_eq_true c15
                          clear c15
                          replace H := Option.bind_eq_some_iff.mp H
                          obtain ⟨t200, A160, H⟩ := H
                          replace H : (if t200 = true then (ladderbackref17_Head.l1 k4 l0 a1 l2 a3 (wrap64 (x11_4 + 1))) else (some 10)) = some r := H
                          have A16 := Aside0.mk A160
                          clear A160
                          by_cases c17 : t200 = true
                          · subst c17
                            have H1 : (ladderbackref17_Head.l1 k4 l0 a1 l2 a3 (wrap64 (x11_4 + 1))) = some r := by rw [if_pos rfl] at H; exact H
                            clear H
                            have H := H1
                            clear H1
                            have H' := Aside0.mk H
                            clear H
                            have p199 : 0 ≤ (x11_4 : Int) := of_decide_eq_true (by first | (with_reducible assumption) | assumption)
                            have q199 : x11_4 < (l2.length : Int) := of_decide_eq_true (by first | (with_reducible assumption) | assumption)
                            obtain ⟨ad199, e199, hx199_0⟩ := Kd.at_int HR2.out x11_4 p199 q199
                            cases e199
                            replace p199 := eq_true p199
                            replace q199 := eq_true q199
                            go_wp2_with (first | ((with_reducible refine gate_callee (f := 30) rfl ?_); refine goesL_ (some 50) rfl rfl Try.func30 (by kernel_rfl) rfl #[.int .i64 (rd l2 x11_4)] rfl (by (try simp only [List.map_toArray, List.map_cons, List.map_nil]); first | done | rfl | (simp only [List.length_drop, List.length_take]; rfl)) ?_; (with_reducible refine (ladderbackref01_Right.calls (rd l2 x11_4) true _ A16.out).mono ?_); rintro e w' ⟨rfl, ⟨nd, rfl⟩⟩; refine ⟨_, rfl, ?_⟩))
                            go_roundg k4
                            case measure => have := HJ4.out; have := HJ6.out; have := HK3.out; have := HK4.out; omega
                            case rel => exact ⟨(wrap64 (x11_4 + 1)), (by first | rfl | (simp; done) | (simp [*]; done)), H', ⟨by have := HJ4.out; have := HJ6.out; have := HK3.out; have := HK4.out; omega⟩, by repeat (first | exact Drawn0.refl _ | apply Drawn0.step)⟩
                          · replace c17 := Bool.eq_false_iff.mpr c17
                            subst c17
                            have H1 : (some 10) = some r := by rw [if_neg (show ¬ (false = true) by decide)] at H; exact H
                            clear H
                            have H := H1
                            clear H1
                            obtain rfl := Option.some.inj H
                            have p199 : 0 ≤ (x11_4 : Int) := of_decide_eq_true (by first | (with_reducible assumption) | assumption)
                            have q199 : x11_4 < (l2.length : Int) := of_decide_eq_true (by first | (with_reducible assumption) | assumption)
                            obtain ⟨ad199, e199, hx199_0⟩ := Kd.at_int HR2.out x11_4 p199 q199
                            cases e199
                            replace p199 := eq_true p199
                            replace q199 := eq_true q199
                            go_wp2_with (first | ((with_reducible refine gate_callee (f := 30) rfl ?_); refine goesL_ (some 50) rfl rfl Try.func30 (by kernel_rfl) rfl #[.int .i64 (rd l2 x11_4)] rfl (by (try simp only [List.map_toArray, List.map_cons, List.map_nil]); first | done | rfl | (simp only [List.length_drop, List.length_take]; rfl)) ?_; (with_reducible refine (ladderbackref01_Right.calls (rd l2 x11_4) false _ A16.out).mono ?_); rintro e w' ⟨rfl, ⟨nd, rfl⟩⟩; refine ⟨_, rfl, ?_⟩))
                            go_ret
                            exact ⟨by first | rfl | (simp; done) | (simp [*]; done), by repeat (first | exact Drawn0.refl _ | apply Drawn0.step)⟩
                        · rw [if_neg c15] at H
                          exact absurd H (by simp)
                      · rw [if_neg c14] at H
                        have c14b0 : decide (x11_4 < (l2.length : Int)) = false := decide_eq_false c14
                        clear c14
                        by_cases c18 : a1 = 0
                        · rw [if_pos c18] at H
                          have c18b0 : (a1 == 0) = true := beq_iff_eq.mpr c18
                          have c18b1 : (a1 != 0) = false := bne_eq_false_iff_eq.mpr c18
                          clear c18
                          by_cases c19 : a3 = true
                          · subst c19
                            have H1 : (if (l0.length : Int) > 0 then (some 10) else (some 0)) = some r := by rw [if_pos rfl] at H; exact H
                            clear H
                            have H := H1
                            clear H1
                            by_cases c20 : (l0.length : Int) > 0
                            · rw [if_pos c20] at H
                              have c20b0 : decide (0 < (l0.length : Int)) = true := decide_eq_true c20
                              have c20b1 : decide (0 < l0.length) = true := decide_eq_true (by omega)
                              clear c20
                              obtain rfl := Option.some.inj H
                              go_wp2
                              go_ret
                              exact ⟨by first | rfl | (simp; done) | (simp [*]; done), by repeat (first | exact Drawn0.refl _ | apply Drawn0.step)⟩
                            · rw [if_neg c20] at H
                              have c20b0 : decide (0 < (l0.length : Int)) = false := decide_eq_false c20
                              have c20b1 : decide (0 < l0.length) = false := decide_eq_false (by omega)
                              clear c20
                              obtain rfl := Option.some.inj H
                              go_wp2
                              go_ret
                              exact ⟨by first | rfl | (simp; done) | (simp [*]; done), by repeat (first | exact Drawn0.refl _ | apply Drawn0.step)⟩
                          · replace c19 := Bool.eq_false_iff.mpr c19
                            subst c19
                            have H1 : (some 0) = some r := by rw [if_neg (show ¬ (false = true) by decide)] at H; exact H
                            clear H
                            have H := H1
                            clear H1
                            obtain rfl := Option.some.inj H
                            go_wp2
                            go_ret
                            exact ⟨by first | rfl | (simp; done) | (simp [*]; done), by repeat (first | exact Drawn0.refl _ | apply Drawn0.step)⟩
                        · rw [if_neg c18] at H
                          have c18b0 : (a1 == 0) = false := beq_eq_false_iff_ne.mpr c18
                          have c18b1 : (a1 != 0) = true := bne_iff_ne.mpr c18
                          replace H := Option.bind_eq_some_iff.mp H
                          obtain ⟨t201, A210, H⟩ := H
                          replace H : (if t201 = true then (if a3 = true then (if (l0.length : Int) > 0 then (some 10) else (some 10)) else (some 0)) else (some 10)) = some r := H
                          have A21 := Aside0.mk A210
                          clear A210
                          by_cases c22 : t201 = true
                          · subst c22
                            have H1 : (if a3 = true then (if (l0.length : Int) > 0 then (some 10) else (some 10)) else (some 0)) = some r := by rw [if_pos rfl] at H; exact H
                            clear H
                            have H := H1
                            clear H1
                            by_cases c23 : a3 = true
                            · subst c23
                              have H1 : (if (l0.length : Int) > 0 then (some 10) else (some 10)) = some r := by rw [if_pos rfl] at H; exact H
                              clear H
                              have H := H1
                              clear H1
                              by_cases c24 : (l0.length : Int) > 0
                              · rw [if_pos c24] at H
                                have c24b0 : decide (0 < (l0.length : Int)) = true := decide_eq_true c24
                                have c24b1 : decide (0 < l0.length) = true := decide_eq_true (by omega)
                                clear c24
                                obtain rfl := Option.some.inj H
                                go_wp2_with (first | (go_at_call 30; (with_reducible refine (ladderbackref01_Right.calls a1 true _ A21.out).mono ?_); rintro e w' ⟨rfl, ⟨nd, rfl⟩⟩))
                                go_ret
                                exact ⟨by first | rfl | (simp; done) | (simp [*]; done), by repeat (first | exact Drawn0.refl _ | apply Drawn0.step)⟩
                              · rw [if_neg c24] at H
                                have c24b0 : decide (0 < (l0.length : Int)) = false := decide_eq_false c24
                                have c24b1 : decide (0 < l0.length) = false := decide_eq_false (by omega)
                                clear c24
                                obtain rfl := Option.some.inj H
                                go_wp2_with (first | (go_at_call 30; (with_reducible refine (ladderbackref01_Right.calls a1 true _ A21.out).mono ?_); rintro e w' ⟨rfl, ⟨nd, rfl⟩⟩))
                                go_ret
                                exact ⟨by first | rfl | (simp; done) | (simp [*]; done), by repeat (first | exact Drawn0.refl _ | apply Drawn0.step)⟩
                            · replace c23 := Bool.eq_false_iff.mpr c23
                              subst c23
                              have H1 : (some 0) = some r := by rw [if_neg (show ¬ (false = true) by decide)] at H; exact H
                              clear H
                              have H := H1
                              clear H1
                              obtain rfl := Option.some.inj H
                              go_wp2_with (first | (go_at_call 30; (with_reducible refine (ladderbackref01_Right.calls a1 true _ A21.out).mono ?_); rintro e w' ⟨rfl, ⟨nd, rfl⟩⟩))
                              go_ret
                              exact ⟨by first | rfl | (simp; done) | (simp [*]; done), by repeat (first | exact Drawn0.refl _ | apply Drawn0.step)⟩
                          · replace c22 := Bool.eq_false_iff.mpr c22
                            subst c22
                            have H1 : (some 10) = some r := by rw [if_neg (show ¬ (false = true) by decide)] at H; exact H
                            clear H
                            have H := H1
                            clear H1
                            obtain rfl := Option.some.inj H
                            go_wp2_with (first | (go_at_call 30; (with_reducible refine (ladderbackref01_Right.calls a1 false _ A21.out).mono ?_); rintro e w' ⟨rfl, ⟨nd, rfl⟩⟩))
                            go_ret
                            exact ⟨by first | rfl | (simp; done) | (simp [*]; done), by repeat (first | exact Drawn0.refl _ | apply Drawn0.step)⟩

end Go.Proofs.Ytghhbdmggmdffaa.PDe
end
