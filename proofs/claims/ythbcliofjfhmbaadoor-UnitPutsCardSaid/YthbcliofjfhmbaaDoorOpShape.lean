/- The operations' table, and what an operation has at its places: for any number; the table lies as the program lays it. -/
import Derived.Test.YthbcliofjfhmbaaDoorWMore
import Derived.Test.YthbcliofjfhmbaaDoorProg
import Derived.Laws.CopyOwn
import Derived.Deep.QuietTactic
import Derived.BigQuiet
namespace Go.Proofs.YthbcliofjfhmbaaDoor.Given
open Go Go.RowKit Go.Proofs.YthbcliofjfhmbaaDoorW.PrintWords Go.Proofs.YthbcliofjfhmbaaDoorW.PrintLast Go.Proofs.YthbcliofjfhmbaaDoorW.PrintMore
set_option linter.unusedVariables false
set_option linter.unusedSimpArgs false
def opsV : List Value := [.string ⟨#[110, 111, 112]⟩, .int .i64 10, .int .i64 10, .string ⟨#[99, 111, 110, 115, 116]⟩, .int .i64 1, .int .i64 0, .string ⟨#[108, 111, 97, 100]⟩, .int .i64 2, .int .i64 0, .string ⟨#[115, 116, 111, 114, 101]⟩, .int .i64 2, .int .i64 0, .string ⟨#[103, 101, 116]⟩, .int .i64 3, .int .i64 0, .string ⟨#[112, 117, 116]⟩, .int .i64 3, .int .i64 0, .string ⟨#[105, 116, 101, 109]⟩, .int .i64 2, .int .i64 0, .string ⟨#[107, 101, 101, 112]⟩, .int .i64 2, .int .i64 0, .string ⟨#[97, 100, 100]⟩, .int .i64 4, .int .i64 0, .string ⟨#[115, 117, 98]⟩, .int .i64 4, .int .i64 0, .string ⟨#[109, 117, 108]⟩, .int .i64 4, .int .i64 0, .string ⟨#[100, 105, 118]⟩, .int .i64 4, .int .i64 0, .string ⟨#[109, 111, 100]⟩, .int .i64 4, .int .i64 0, .string ⟨#[110, 101, 103]⟩, .int .i64 4, .int .i64 0, .string ⟨#[97, 110, 100]⟩, .int .i64 4, .int .i64 0, .string ⟨#[111, 114]⟩, .int .i64 4, .int .i64 0, .string ⟨#[120, 111, 114]⟩, .int .i64 4, .int .i64 0, .string ⟨#[110, 111, 116]⟩, .int .i64 4, .int .i64 0, .string ⟨#[115, 104, 108]⟩, .int .i64 4, .int .i64 0, .string ⟨#[115, 104, 114]⟩, .int .i64 4, .int .i64 0, .string ⟨#[101, 113]⟩, .int .i64 4, .int .i64 0, .string ⟨#[110, 101]⟩, .int .i64 4, .int .i64 0, .string ⟨#[108, 116]⟩, .int .i64 4, .int .i64 0, .string ⟨#[108, 101]⟩, .int .i64 4, .int .i64 0, .string ⟨#[103, 116]⟩, .int .i64 4, .int .i64 0, .string ⟨#[103, 101]⟩, .int .i64 4, .int .i64 0, .string ⟨#[99, 111, 110, 118]⟩, .int .i64 4, .int .i64 4, .string ⟨#[100, 117, 112]⟩, .int .i64 0, .int .i64 0, .string ⟨#[112, 111, 112]⟩, .int .i64 0, .int .i64 0, .string ⟨#[115, 119, 97, 112]⟩, .int .i64 0, .int .i64 0, .string ⟨#[106, 117, 109, 112]⟩, .int .i64 5, .int .i64 10, .string ⟨#[102, 97, 108, 115, 101]⟩, .int .i64 5, .int .i64 10, .string ⟨#[115, 119, 105, 116, 99, 104]⟩, .int .i64 6, .int .i64 10, .string ⟨#[99, 97, 108, 108]⟩, .int .i64 7, .int .i64 0, .string ⟨#[114, 101, 116]⟩, .int .i64 0, .int .i64 0, .string ⟨#[115, 101, 116]⟩, .int .i64 8, .int .i64 9, .string ⟨#[114, 117, 110]⟩, .int .i64 8, .int .i64 0, .string ⟨#[111, 117, 116]⟩, .int .i64 8, .int .i64 9]
/-- The table lies as the program lays it. -/
def LaidOps (w : World) : Prop := ∀ i v, opsV[i]? = some v → w.cell? ⟨0, i, none⟩ = some v
theorem LaidOps.below {w w2 : World} (h : LaidOps w) (hb : Below w.heap.size w w2) : LaidOps w2 := fun i v hv => pw_cell_below hb (h i v hv)
def opA : List Int := [10, 1, 2, 2, 3, 3, 2, 2, 4, 4, 4, 4, 4, 4, 4, 4, 4, 4, 4, 4, 4, 4, 4, 4, 4, 4, 4, 0, 0, 0, 5, 5, 6, 7, 0, 8, 8, 8]
def opB : List Int := [10, 0, 0, 0, 0, 0, 0, 0, 0, 0, 0, 0, 0, 0, 0, 0, 0, 0, 0, 0, 0, 0, 0, 0, 0, 0, 4, 0, 0, 0, 10, 10, 10, 0, 0, 9, 0, 9]
def opW : List ByteArray := [⟨#[110, 111, 112]⟩, ⟨#[99, 111, 110, 115, 116]⟩, ⟨#[108, 111, 97, 100]⟩, ⟨#[115, 116, 111, 114, 101]⟩, ⟨#[103, 101, 116]⟩, ⟨#[112, 117, 116]⟩, ⟨#[105, 116, 101, 109]⟩, ⟨#[107, 101, 101, 112]⟩, ⟨#[97, 100, 100]⟩, ⟨#[115, 117, 98]⟩, ⟨#[109, 117, 108]⟩, ⟨#[100, 105, 118]⟩, ⟨#[109, 111, 100]⟩, ⟨#[110, 101, 103]⟩, ⟨#[97, 110, 100]⟩, ⟨#[111, 114]⟩, ⟨#[120, 111, 114]⟩, ⟨#[110, 111, 116]⟩, ⟨#[115, 104, 108]⟩, ⟨#[115, 104, 114]⟩, ⟨#[101, 113]⟩, ⟨#[110, 101]⟩, ⟨#[108, 116]⟩, ⟨#[108, 101]⟩, ⟨#[103, 116]⟩, ⟨#[103, 101]⟩, ⟨#[99, 111, 110, 118]⟩, ⟨#[100, 117, 112]⟩, ⟨#[112, 111, 112]⟩, ⟨#[115, 119, 97, 112]⟩, ⟨#[106, 117, 109, 112]⟩, ⟨#[102, 97, 108, 115, 101]⟩, ⟨#[115, 119, 105, 116, 99, 104]⟩, ⟨#[99, 97, 108, 108]⟩, ⟨#[114, 101, 116]⟩, ⟨#[115, 101, 116]⟩, ⟨#[114, 117, 110]⟩, ⟨#[111, 117, 116]⟩]
theorem ops_cells (n : Nat) (h : n < 38) : opsV[n * 3]? = some (.string (opW.getD n ⟨#[]⟩)) ∧ opsV[n * 3 + 1]? = some (.int .i64 (opA.getD n 0)) ∧ opsV[n * 3 + 2]? = some (.int .i64 (opB.getD n 0)) := by
  rcases (by omega : n = 0 ∨ n = 1 ∨ n = 2 ∨ n = 3 ∨ n = 4 ∨ n = 5 ∨ n = 6 ∨ n = 7 ∨ n = 8 ∨ n = 9 ∨ n = 10 ∨ n = 11 ∨ n = 12 ∨ n = 13 ∨ n = 14 ∨ n = 15 ∨ n = 16 ∨ n = 17 ∨ n = 18 ∨ n = 19 ∨ n = 20 ∨ n = 21 ∨ n = 22 ∨ n = 23 ∨ n = 24 ∨ n = 25 ∨ n = 26 ∨ n = 27 ∨ n = 28 ∨ n = 29 ∨ n = 30 ∨ n = 31 ∨ n = 32 ∨ n = 33 ∨ n = 34 ∨ n = 35 ∨ n = 36 ∨ n = 37) with rfl | rfl | rfl | rfl | rfl | rfl | rfl | rfl | rfl | rfl | rfl | rfl | rfl | rfl | rfl | rfl | rfl | rfl | rfl | rfl | rfl | rfl | rfl | rfl | rfl | rfl | rfl | rfl | rfl | rfl | rfl | rfl | rfl | rfl | rfl | rfl | rfl | rfl <;> exact ⟨rfl, rfl, rfl⟩
def isOp (op : Int) : Bool := decide (0 ≤ op) && decide (op < 38)
def shapeA (op : Int) : Int := if isOp op then opA.getD op.toNat 0 else 0
def shapeB (op : Int) : Int := if isOp op then opB.getD op.toNat 0 else 0
theorem is_calls (op : Int) (w : World) : Calls Tryd.prog 62 #[.int .i64 op] w fun e w' => e = .returned (.bool (isOp op)) ∧ w' = w := by
  unfold isOp
  by_cases h1 : 0 ≤ op
  · by_cases h2 : op < 38
    · go_enter Tryd.func62, Tryd.ntmps62
      go_wp2
      go_ret
      exact ⟨by simp [h1, h2], rfl⟩
    · go_enter Tryd.func62, Tryd.ntmps62
      go_wp2
      go_ret
      exact ⟨by simp [h1, h2], rfl⟩
  · go_enter Tryd.func62, Tryd.ntmps62
    go_wp2
    go_ret
    exact ⟨by simp [h1]; omega, rfl⟩
theorem shape_calls (op : Int) (w : World) (hL : LaidOps w) : Calls Tryd.prog 61 #[.int .i64 op] w fun e w' => e = .returned (.tuple #[.int .i64 (shapeA op), .int .i64 (shapeB op)]) ∧ Drawn0 w w' := by
  have hI := Aside0.mk (is_calls op)
  unfold shapeA shapeB
  by_cases h : isOp op = true
  · rw [if_pos h, if_pos h]
    rw [h] at hI
    unfold isOp at h
    simp only [Bool.and_eq_true, decide_eq_true_eq] at h
    obtain ⟨n, rfl⟩ := Int.eq_ofNat_of_zero_le h.1
    have hn : n < 38 := by omega
    obtain ⟨k0, k1, k2⟩ := ops_cells n hn
    have c1 := hL _ _ k1
    have c2 := hL _ _ k2
    rw [Int.toNat_natCast]
    have z0 : (0 : Int) ≤ (n : Int) := by omega
    have z1 : (n : Int) < 38 := by omega
    generalize opA.getD n 0 = a at *
    generalize opB.getD n 0 = b at *
    clear hL k0 k1 k2 h
    go_enter Tryd.func61, Tryd.ntmps61
    go_wp2_with fail
    refine (hI.out _).mono ?_
    rintro e w1 ⟨rfl, rfl⟩
    go_wp2_with fail
    go_quiet (fail)
    go_wp2_with fail
    go_ret2
    exact ⟨rfl, ⟨_, rfl⟩⟩
  · rw [if_neg h, if_neg h]
    rw [show isOp op = false by simpa using h] at hI
    go_enter Tryd.func61, Tryd.ntmps61
    go_wp2_with fail
    refine (hI.out _).mono ?_
    rintro e w1 ⟨rfl, rfl⟩
    go_wp2_with fail
    go_ret2
    exact ⟨rfl, Drawn0.refl _⟩
def op_Shape.f (a0 : Int) : Option (Int × Int) := some (shapeA a0, shapeB a0)
theorem op_Shape.calls (a0 : Int) (r1 r2 : Int) (w : World) (h : op_Shape.f a0 = some (r1, r2)) (hL : LaidOps w) :
    Calls Tryd.prog 61 #[.int .i64 a0] w fun e w' => e = .returned (.tuple #[.int .i64 r1, .int .i64 r2]) ∧ Below w.heap.size w w' := by
  have h := Option.some.inj h
  rw [Prod.mk.injEq] at h
  obtain ⟨rfl, rfl⟩ := h
  refine (shape_calls a0 w hL).mono ?_
  rintro e w1 ⟨he, m, rfl⟩
  exact ⟨he, pw_below_drewN (Below.refl _ _) m⟩
end Go.Proofs.YthbcliofjfhmbaaDoor.Given
