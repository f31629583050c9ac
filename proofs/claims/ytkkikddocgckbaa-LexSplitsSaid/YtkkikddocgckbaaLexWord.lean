/- How long the word is that a text begins with, as the program tells it; any text. -/
import Derived.Test.YtkkikddocgckbaaWMore
import Derived.Test.YtkkikddocgckbaaProg
import Derived.Test.YtkkikddocgckbaaPLetx1
namespace Go.Proofs.Ytkkikddocgckbaa.Given
open Go Go.RowKit Go.Proofs.YtkkikddocgckbaaW.PrintWords Go.Proofs.YtkkikddocgckbaaW.PrintLast Go.Proofs.YtkkikddocgckbaaW.PrintMore Go.Proofs.Ytkkikddocgckbaa.PLet
set_option linter.unusedVariables false
set_option linter.unusedSimpArgs false
def isLetter (c : Int) : Bool := lex_letter.f c == some true
theorem letter_some (c : Int) : lex_letter.f c = some (isLetter c) := by
  have : ∃ r, lex_letter.f c = some r := by
    unfold lex_letter.f
    repeat' split
    all_goals exact ⟨_, rfl⟩
  obtain ⟨r, hr⟩ := this
  unfold isLetter
  rw [hr]
  cases r <;> rfl
def goesF (s : ByteArray) (i : Int) : Bool := isLetter (bt s i) || (bt s i == 45 && decide (i > 0) && bt s (i - 1) == 35)
set_option maxHeartbeats 1000000 in
theorem goes_calls (b : Nat) (s : ByteArray) (i : Int) (w : World) (hb : w.cell? ⟨b, 0, none⟩ = some (.string s)) (hi : 0 ≤ i ∧ i < s.size) (hs : s.size ≤ 9223372036854775807) :
    Calls Try.prog 81 #[.int .i64 i, .pointer (some ⟨b, 0, none⟩)] w fun e w' => e = .returned (.bool (goesF s i)) ∧ Drawn0 w w' := by
  have HLt := Aside0.mk (fun w => lex_letter.calls (bt s i) (isLetter (bt s i)) w (letter_some _))
  have hlt : i.toNat < s.size := by omega
  have e1 : ((s[i.toNat]'hlt).toNat : Int) = bt s i := by unfold bt; rw [dif_pos hlt]
  have hn : (i - 1).toNat = i.toNat - 1 := by omega
  have hlt2 : i.toNat - 1 < s.size := by omega
  have e2 : ((s[i.toNat - 1]'hlt2).toNat : Int) = bt s (i - 1) := by unfold bt; simp only [hn]; rw [dif_pos hlt2]
  clear hn
  unfold goesF
  generalize bt s i = c at *
  generalize bt s (i - 1) = c2 at *
  cases hL : isLetter c
  · rw [hL] at HLt
    clear hL
    cases h45 : (c == 45)
    · go_enter Try.func81, Try.ntmps81
      go_wp2_with fail
      refine (HLt.out _).mono ?_
      rintro e w2 ⟨rfl, m, rfl⟩
      go_wp2_with fail
      go_ret
      exact ⟨rfl, m, rfl⟩
    · by_cases hp : i > 0
      · have hw : wrap64 (i - 1) = i - 1 := by unfold wrap64; omega
        cases h35 : (c2 == 35)
        · go_enter Try.func81, Try.ntmps81
          go_wp2_with fail
          refine (HLt.out _).mono ?_
          rintro e w2 ⟨rfl, m, rfl⟩
          go_wp2_with fail
          go_ret
          exact ⟨by simp [hp], m, rfl⟩
        · go_enter Try.func81, Try.ntmps81
          go_wp2_with fail
          refine (HLt.out _).mono ?_
          rintro e w2 ⟨rfl, m, rfl⟩
          go_wp2_with fail
          go_ret
          exact ⟨by simp [hp], m, rfl⟩
      · go_enter Try.func81, Try.ntmps81
        go_wp2_with fail
        refine (HLt.out _).mono ?_
        rintro e w2 ⟨rfl, m, rfl⟩
        go_wp2_with fail
        go_ret
        exact ⟨by simp; intro h; omega, m, rfl⟩
  · rw [hL] at HLt
    clear hL
    go_enter Try.func81, Try.ntmps81
    go_wp2_with fail
    refine (HLt.out _).mono ?_
    rintro e w2 ⟨rfl, m, rfl⟩
    go_wp2_with fail
    go_ret
    exact ⟨rfl, m, rfl⟩
/-- How long the word is, from n on. -/
def wl (s : ByteArray) : Nat → Nat → Nat
  | 0, n => n
  | d + 1, n => if n < s.size ∧ goesF s n = true then wl s d (n + 1) else n
theorem wl_lim (s : ByteArray) : ∀ d n, n ≤ s.size → n ≤ wl s d n ∧ wl s d n ≤ s.size
  | 0, n, h => ⟨Nat.le_refl _, h⟩
  | d + 1, n, h => by
    unfold wl
    split
    · rename_i c
      have := wl_lim s d (n + 1) (by omega)
      omega
    · exact ⟨Nat.le_refl _, h⟩
set_option maxHeartbeats 1000000 in
theorem word_calls (s : ByteArray) (w : World) (hs : s.size ≤ 9223372036854775806) : Calls Try.prog 53 #[.string s] w fun e w' => e = .returned (.int .i64 (wl s s.size 0)) ∧ Below w.heap.size w w' := by
  have hb0 := Aside0.mk ((Below.refl w.heap.size w).alloc (Nat.le_refl _) (.cells #[.string s] 9))
  have hc0 : Aside0 ((w.alloc (.cells #[.string s] 9)).cell? ⟨w.heap.size, 0, none⟩ = some (.string s)) := ⟨by
    have h := heap_alloc_new w (.cells #[.string s] 9)
    rw [cell_of_row _ _ 0 _ _ _ h]
    rfl⟩
  obtain ⟨N, hN⟩ : ∃ N, N = wl s s.size 0 := ⟨_, rfl⟩
  rw [← hN]
  have HN := Aside0.mk hN
  clear hN
  go_enter Try.func53, Try.ntmps53
  go_wp2_with fail
  generalize w.alloc (.cells #[.string s] 9) = w1 at *
  go_loopw [4] (fun i wr => ∃ j : Nat, j ≤ s.size ∧ i = .int .i64 j ∧ Aside0 (N = wl s (s.size - j) j) ∧ Drawn0 w1 wr) (fun i _ => s.size - (intOf i).toNat)
  case atStart => exact ⟨0, Nat.zero_le _, rfl, ⟨by rw [HN.out]; rfl⟩, Drawn0.refl _⟩
  case round =>
    clear HN
    obtain ⟨j, hj, rfl, HN, m, rfl⟩ := hrel
    have hc := hc0.out
    by_cases hlt : j < s.size
    · have hG := Aside0.mk (goes_calls w.heap.size s j (w1.drewN m) hc (by omega) (by omega))
      have hh := HN.out
      rw [show s.size - j = (s.size - (j + 1)) + 1 by omega] at hh
      unfold wl at hh
      go_wp2_with fail
      refine hG.out.mono ?_
      rintro e w2 ⟨rfl, m2, rfl⟩
      cases hg : goesF s j
      · rw [if_neg (by rw [hg]; simp)] at hh
        go_wp2_with fail
        go_ret
        rw [hh]
        exact ⟨rfl, pw_below_drewN hb0.out (m + m2)⟩
      · rw [if_pos ⟨hlt, hg⟩] at hh
        clear HN
        go_wp2_with fail
        exact ⟨⟨j + 1, by omega, rfl, ⟨hh⟩, m + m2, rfl⟩, by simp [intOf]; omega⟩
    · go_wp2_with fail
      go_ret
      have hh := HN.out
      rw [show s.size - j = 0 by omega] at hh
      rw [hh]
      exact ⟨rfl, pw_below_drewN hb0.out m⟩
def lex_word.f (a0 : ByteArray) : Option Int := if a0.size ≤ 9223372036854775806 then some (wl a0 a0.size 0) else none
theorem lex_word.calls (a0 : ByteArray) (r : Int) (w : World) (h : lex_word.f a0 = some r) :
    Calls Try.prog 53 #[.string a0] w fun e w' => e = .returned (.int .i64 r) ∧ Below w.heap.size w w' := by
  unfold lex_word.f at h
  split at h
  · rename_i hs
    obtain rfl := Option.some.inj h
    exact word_calls a0 w hs
  · cases h
end Go.Proofs.Ytkkikddocgckbaa.Given
