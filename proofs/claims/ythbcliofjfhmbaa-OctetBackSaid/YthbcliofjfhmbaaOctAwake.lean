/- The example of OctetPuts is answered: its call returns true; no conditions. -/
import Derived.Test.YthbcliofjfhmbaaGivOct
namespace Go.Proofs.Ythbcliofjfhmbaa
open Go.RowKit Go.Proofs.YthbcliofjfhmbaaW.PrintWords Go.Proofs.YthbcliofjfhmbaaW.PrintLast Go.Proofs.YthbcliofjfhmbaaW.PrintMore Go.Proofs.Ythbcliofjfhmbaa.Given
theorem awake03 (w : World) : Calls Try.prog 9 #[] w fun e w' => e = .returned (.bool true) ∧ Below w.heap.size w w' := by
  have kc := fun (w : World) (C : Array Value) (n c : Nat) => Lib.run_convert_bytes_const (P := Try.prog) w 22 5 C n c Try.underlying22 Try.underlying5
  have HP : Aside0 (octet_Put.f [97] 2 258 = some [97, 2, 1]) := ⟨by rfl⟩
  go_enter Try.func9, Try.ntmps9
  go_wp2_with fail
  refine (octet_Put.calls _ 1 [97] 2 258 _ _ (C_const w 5 [97] _ (by decide)) (by decide) HP.out).mono ?_
  rintro e w1 ⟨v1, rfl, ho, hb⟩
  have hcv := own_string (P := Try.prog) Try.underlying22 Try.underlying5 Try.underlying9 (Kd.own_of_R ho)
  go_wp2
  go_ret
  refine ⟨?_, ((Below.refl _ _).alloc (Nat.le_refl _) _).trans (hb.mono (by simp))⟩
  rw [show ((strOfNums [97, 2, 1]).toList == [97, 2, 1]) = true from by rw [ByteArray.toList_eq]; rfl]
  rfl
end Go.Proofs.Ythbcliofjfhmbaa
