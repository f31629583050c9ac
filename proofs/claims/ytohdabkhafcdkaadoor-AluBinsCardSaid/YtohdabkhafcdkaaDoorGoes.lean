/- Which operations go with which types, out of the program's table; the table lies as the program lays it. -/
import Derived.Test.YtohdabkhafcdkaaDoorKind
namespace Go.Proofs.YtohdabkhafcdkaaDoor.Given
open Go Go.RowKit Go.Proofs.YtohdabkhafcdkaaDoorW.PrintWords Go.Proofs.YtohdabkhafcdkaaDoorW.PrintLast Go.Proofs.YtohdabkhafcdkaaDoorW.PrintMore
set_option linter.unusedVariables false
set_option linter.unusedSimpArgs false
def goesV : List Int := [76, 76, 12, 12, 12, 76, 50, 50, 50, 50, 48, 48, 126, 126, 124, 124, 124, 124]
/-- Both tables lie as the program lays them. -/
def LaidAlu (w : World) : Prop := LaidRows w ∧ ∀ i v, (nums .i64 goesV)[i]? = some v → w.cell? ⟨1, i, none⟩ = some v
theorem LaidAlu.rows {w : World} (h : LaidAlu w) : LaidRows w := h.1
theorem LaidAlu.below {w w2 : World} (h : LaidAlu w) (hb : Below w.heap.size w w2) : LaidAlu w2 := ⟨h.1.below hb, fun i v hv => pw_cell_below hb (h.2 i v hv)⟩
def goesOf (op t : Int) : Bool := decide (8 ≤ op ∧ op ≤ 25 ∧ 1 ≤ t ∧ t ≤ 6) && (Go.bits .and .i64 (goesV.getD (op - 8).toNat 0 / 2 ^ t.toNat) 1 == 1)
set_option maxHeartbeats 1000000 in
theorem alu_Goes_calls (op t : Int) (w : World) (ho : -9223372036854775808 ≤ op ∧ op ≤ 9223372036854775807) (hL : LaidAlu w) : Calls Tryd.prog 26 #[.int .i64 op, .int .i64 t] w fun e w' => e = .returned (.bool (goesOf op t)) ∧ w' = w := by
  by_cases h1 : op < 8
  · have hg : goesOf op t = false := by unfold goesOf; rw [decide_eq_false (by omega)]; rfl
    rw [hg]
    go_enter Tryd.func26, Tryd.ntmps26
    go_wp2
    go_ret
    exact ⟨rfl, rfl⟩
  by_cases h2 : 26 ≤ op
  · have hg : goesOf op t = false := by unfold goesOf; rw [decide_eq_false (by omega)]; rfl
    rw [hg]
    go_enter Tryd.func26, Tryd.ntmps26
    go_wp2
    go_ret
    exact ⟨rfl, rfl⟩
  have hR := Aside0.mk (Right_calls t)
  by_cases h3 : 1 ≤ t ∧ t ≤ 6
  · rw [decide_eq_true h3] at hR
    obtain ⟨m, hm⟩ : ∃ m : Nat, op - 8 = m := ⟨(op - 8).toNat, by omega⟩
    have hm18 : m < 18 := by omega
    obtain ⟨G, hG⟩ : ∃ G, goesV.getD m 0 = G := ⟨_, rfl⟩
    have hc := hL.2 m (.int .i64 G) (by
      have hl : m < goesV.length := hm18
      rw [← hG, nums, List.getElem?_map, List.getD_eq_getElem?_getD, List.getElem?_eq_getElem hl]
      rfl)
    have hg : goesOf op t = (Go.bits .and .i64 (G / 2 ^ t.toNat) 1 == 1) := by
      unfold goesOf
      rw [decide_eq_true (by omega), hm, Int.toNat_natCast, hG]
      rfl
    rw [hg]
    clear hg hL hG
    have hop : op = m + 8 := by omega
    subst hop
    go_enter Tryd.func26, Tryd.ntmps26
    go_wp2_with fail
    refine (hR.out _).mono ?_
    rintro e w1 ⟨rfl, rfl⟩
    go_wp2_with fail
    go_ret
    exact ⟨rfl, rfl⟩
  · rw [decide_eq_false h3] at hR
    have hg : goesOf op t = false := by unfold goesOf; rw [decide_eq_false (by omega)]; rfl
    rw [hg]
    go_enter Tryd.func26, Tryd.ntmps26
    go_wp2_with fail
    refine (hR.out _).mono ?_
    rintro e w1 ⟨rfl, rfl⟩
    go_wp2_with fail
    go_ret
    exact ⟨rfl, rfl⟩
def alu_Goes.f (a0 a1 : Int) : Option Bool := if -9223372036854775808 ≤ a0 ∧ a0 ≤ 9223372036854775807 then some (goesOf a0 a1) else none
theorem alu_Goes.calls (a0 a1 : Int) (r : Bool) (w : World) (h : alu_Goes.f a0 a1 = some r) (hL : LaidAlu w) :
    Calls Tryd.prog 26 #[.int .i64 a0, .int .i64 a1] w fun e w' => e = .returned (.bool r) ∧ Below w.heap.size w w' := by
  unfold alu_Goes.f at h
  split at h
  · rename_i ho
    obtain rfl := Option.some.inj h
    refine (alu_Goes_calls a0 a1 w ho hL).mono ?_
    rintro e w1 ⟨he, rfl⟩
    exact ⟨he, Below.refl _ _⟩
  · cases h
end Go.Proofs.YtohdabkhafcdkaaDoor.Given
