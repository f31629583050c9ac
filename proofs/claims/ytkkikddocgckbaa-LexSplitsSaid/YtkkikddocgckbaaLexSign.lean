/- How long the sign is that a text begins with, as the program tells it; any text that is not empty. -/
import Derived.Test.YtkkikddocgckbaaWMore
import Derived.Test.YtkkikddocgckbaaProg
import Derived.Test.YtkkikddocgckbaaPLetx1
import Derived.Lib.Strings
import Derived.Lib.Slices
import Derived.Lib.Walk
import Derived.Lib.Bytealg
namespace Go.Proofs.Ytkkikddocgckbaa.Given
open Go Go.RowKit Go.Proofs.YtkkikddocgckbaaW.PrintWords Go.Proofs.YtkkikddocgckbaaW.PrintLast Go.Proofs.YtkkikddocgckbaaW.PrintMore Go.Proofs.Ytkkikddocgckbaa.PLet
set_option linter.unusedVariables false
set_option linter.unusedSimpArgs false
set_option maxHeartbeats 1000000 in
set_option maxRecDepth 100000 in
theorem lite_IndexByte (s : ByteArray) (c : Int) (w : World) :
    Calls Try.prog 98 #[.string s, .int .u8 c] w fun e w' => e = .returned (.int .i64 (Lib.indexByte s.data.toList c.toNat.toUInt8)) ∧ w' = w := by
  go_enter Try.func98, Try.ntmps98
  go_wp2
  rw [run_callFunc_extern Try.func101 (by kernel_rfl) (by kernel_rfl) (by kernel_rfl) (e := Extern.BytealgIndexByte.indexByte) (by kernel_rfl), Lib.run_indexByteString]
  simp only [Result.andThen]
  rw [Oper.upon_value]
  go_wp2
  go_ret
  exact ⟨rfl, rfl⟩
theorem strings_IndexByte (s : ByteArray) (c : Int) (w : World) :
    Calls Try.prog 84 #[.string s, .int .u8 c] w fun e w' => e = .returned (.int .i64 (Lib.indexByte s.data.toList c.toNat.toUInt8)) ∧ w' = w := by
  go_enter Try.func84, Try.ntmps84
  go_wp2_with fail
  refine (lite_IndexByte _ _ _).mono ?_
  rintro e w' ⟨rfl, rfl⟩
  go_wp2
  go_ret
  exact ⟨rfl, rfl⟩
def isPair (s : ByteArray) : Bool := lex_pair.f s == some true
theorem pair_some (s : ByteArray) : lex_pair.f s = some (isPair s) := by
  have : ∃ r, lex_pair.f s = some r := by
    unfold lex_pair.f
    repeat' split
    all_goals exact ⟨_, rfl⟩
  obtain ⟨r, hr⟩ := this
  unfold isPair
  rw [hr]
  cases r <;> rfl
def signs : ByteArray := ⟨#[40, 41, 91, 93, 123, 125, 44, 59, 58, 46, 43, 45, 42, 47, 61, 60, 62]⟩
def isSign (c : Int) : Bool := decide (0 ≤ Lib.indexByte signs.data.toList c.toNat.toUInt8)
def signF (s : ByteArray) : Int := if decide (s.size > 1) && isPair (s.extract 0 2) then 2 else if isSign (bt s 0) then 1 else 0
set_option maxHeartbeats 1000000 in
theorem sign_calls (s : ByteArray) (w : World) (h0 : 0 < s.size) (hs : s.size ≤ 9223372036854775806) : Calls Try.prog 54 #[.string s] w fun e w' => e = .returned (.int .i64 (signF s)) ∧ Drawn0 w w' := by
  have HP := Aside0.mk (fun w => lex_pair.calls (s.extract 0 2) (isPair (s.extract 0 2)) w (pair_some _))
  have HS := Aside0.mk (fun w => strings_IndexByte signs (bt s 0) w)
  have e1 : ((s[(0 : Nat)]'h0).toNat : Int) = bt s 0 := by unfold bt; rw [dif_pos (show (0 : Int).toNat < s.size from h0)]; rfl
  unfold signF isSign
  generalize bt s 0 = c at *
  generalize Lib.indexByte signs.data.toList c.toNat.toUInt8 = I at *
  by_cases h1 : s.size > 1
  · cases hp : isPair (s.extract 0 2)
    · rw [hp] at HP
      by_cases hI : 0 ≤ I
      · go_enter Try.func54, Try.ntmps54
        go_wp2_with fail
        refine (HP.out _).mono ?_
        rintro e w2 ⟨rfl, m, rfl⟩
        go_wp2_with fail
        refine (HS.out _).mono ?_
        rintro e w3 ⟨rfl, rfl⟩
        go_wp2_with fail
        all_goals (go_ret; exact ⟨by simp [h1, hI], m, rfl⟩)
      · go_enter Try.func54, Try.ntmps54
        go_wp2_with fail
        refine (HP.out _).mono ?_
        rintro e w2 ⟨rfl, m, rfl⟩
        go_wp2_with fail
        refine (HS.out _).mono ?_
        rintro e w3 ⟨rfl, rfl⟩
        go_wp2_with fail
        all_goals (go_ret; exact ⟨by simp [h1, hI], m, rfl⟩)
    · rw [hp] at HP
      go_enter Try.func54, Try.ntmps54
      go_wp2_with fail
      refine (HP.out _).mono ?_
      rintro e w2 ⟨rfl, m, rfl⟩
      go_wp2_with fail
      all_goals (go_ret; exact ⟨by simp [h1], m, rfl⟩)
  · by_cases hI : 0 ≤ I
    · go_enter Try.func54, Try.ntmps54
      go_wp2_with fail
      refine (HS.out _).mono ?_
      rintro e w3 ⟨rfl, rfl⟩
      go_wp2_with fail
      all_goals (go_ret; exact ⟨by simp [h1, hI], Drawn0.refl _⟩)
    · go_enter Try.func54, Try.ntmps54
      go_wp2_with fail
      refine (HS.out _).mono ?_
      rintro e w3 ⟨rfl, rfl⟩
      go_wp2_with fail
      all_goals (go_ret; exact ⟨by simp [h1, hI], Drawn0.refl _⟩)
def lex_sign.f (a0 : ByteArray) : Option Int := if 0 < a0.size ∧ a0.size ≤ 9223372036854775806 then some (signF a0) else none
theorem lex_sign.calls (a0 : ByteArray) (r : Int) (w : World) (h : lex_sign.f a0 = some r) :
    Calls Try.prog 54 #[.string a0] w fun e w' => e = .returned (.int .i64 r) ∧ Drawn0 w w' := by
  unfold lex_sign.f at h
  split at h
  · rename_i hs
    obtain rfl := Option.some.inj h
    exact sign_calls a0 w hs.1 hs.2
  · cases h
end Go.Proofs.Ytkkikddocgckbaa.Given
