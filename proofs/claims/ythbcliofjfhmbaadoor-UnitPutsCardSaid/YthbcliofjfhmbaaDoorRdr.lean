/- The reader of octets, as the program reads: the next bytes of a reader; any reader that is not past its end. -/
import Derived.Test.YthbcliofjfhmbaaDoorRdrSt
import Derived.Deep.QuietTactic
import Derived.BigQuiet
import Derived.IntWalk
namespace Go.Proofs.YthbcliofjfhmbaaDoor.Given
set_option linter.unusedVariables false
set_option linter.unusedSimpArgs false
open Go.RowKit Go.Proofs.YthbcliofjfhmbaaDoorW.PrintWords Go.Proofs.YthbcliofjfhmbaaDoorW.PrintLast Go.Proofs.YthbcliofjfhmbaaDoorW.PrintMore
set_option maxHeartbeats 1000000 in
theorem next_ok (g : Nat) (w0 w : World) (b : List Int) (at_ : Int) (n : Int) (hI : IsS88 w0 w g b at_ false) (hB : Below w0.heap.size w0 w) (h0 : 0 ≤ n) (h1 : n ≤ b.length - at_) :
    Calls Tryd.prog 70 #[.pointer (some ⟨g, 0, none⟩), .int .i64 n] w fun e w' =>
      (∃ A c, e = .returned (.tuple #[.slice (some A) n.toNat c, .bool true]) ∧ Kd.C (Kd.int .u8) w0 (some A) n.toNat ((b.drop at_.toNat).take n.toNat) ∧ n.toNat ≤ c ∧ IsS88 w0 w' g b (at_ + n) false) ∧ Below w0.heap.size w0 w' ∧ KeepBut w w' g none := by
  obtain ⟨_, hb, hg, a, c, rfl, hr, hc, ha0, ha1⟩ := hI
  have c0 : w.cell? ⟨g, 0, none⟩ = some (.slice (some a) b.length c) := (blk_cell hb 0).trans rfl
  have c1 : w.cell? ⟨g, 1, none⟩ = some (.int .i64 at_) := (blk_cell hb 1).trans rfl
  have c2 : w.cell? ⟨g, 2, none⟩ = some (.bool false) := (blk_cell hb 2).trans rfl
  have hbl : b.length ≤ 9223372036854775807 := hr.2.1
  have hK := KeepBut.refl w g none
  have f1 := blk_frozen hb 1
  have f2 := blk_frozen hb 2
  have d0 : decide (n < 0) = false := decide_eq_false (by omega)
  have hw : IntKind.i64.wrap ((b.length : Int) - at_) = (b.length : Int) - at_ := IntWalk.i64_in _ (by omega)
  have d1 : decide ((b.length : Int) - at_ < n) = false := decide_eq_false (by omega)
  go_enter Tryd.func70, Tryd.ntmps70
  go_wp2_with fail
  go_quiet (fail)
  go_wp2_with fail
  obtain ⟨W1, hW1⟩ : ∃ W1, W1 = (w.drewN nq).setCell ⟨g, 1, none⟩ (.int .i64 (at_ + n)) := ⟨_, rfl⟩
  have hb1 : W1.heap[g]? = some (.cells #[.slice (some a) b.length c, .int .i64 (at_ + n), .bool false] 88 (0, 0)) := by rw [hW1]; exact blk_put (w := w.drewN nq) hb 1 _ rfl
  have hB1 : Below w0.heap.size w0 W1 := by rw [hW1]; exact below_set (pw_below_drewN hB nq) hg
  have hK1 : KeepBut w W1 g none := by rw [hW1]; exact KeepBut.set_ (keep_drewN hK nq) 1 _
  rw [← hW1]
  have hl := Kd.C_mid (k := Kd.int .u8) (lo := at_.toNat) (hi := (at_ + n).toNat) (c := c) hr (by omega) (by omega) hc
  have he : (b.take (at_ + n).toNat).drop at_.toNat = (b.drop at_.toNat).take n.toNat := by rw [List.drop_take]; congr 1; omega
  have hle : ((b.drop at_.toNat).take n.toNat).length = n.toNat := by simp; omega
  rw [he, hle] at hl
  have hnn : (at_ + n).toNat - at_.toNat = n.toNat := by omega
  have hl := Aside0.mk hl
  have hnn := Aside0.mk hnn
  clear hW1 c0 c1 c2 f1 f2 hb hK d0 d1 hw he hle
  have c0 : W1.cell? ⟨g, 0, none⟩ = some (.slice (some a) b.length c) := (blk_cell hb1 0).trans rfl
  have c1 : W1.cell? ⟨g, 1, none⟩ = some (.int .i64 (at_ + n)) := (blk_cell hb1 1).trans rfl
  have hs : IntKind.i64.wrap (at_ + n - n) = at_ := by rw [show at_ + n - n = at_ by omega]; exact IntWalk.i64_in _ (by omega)
  have s1 : at_ ≤ at_ + n := by omega
  have s2 : at_ + n ≤ (c : Int) := by omega
  go_quiet (fail)
  go_wp2_with fail
  · go_ret2
    rename_i h
    have hl := hl.out
    rw [if_pos h] at hl
    refine ⟨⟨a, 0, ?_, hl, by omega, _, hb1, hg, a, c, rfl, hr, hc, by omega, by omega⟩, pw_below_drewN hB1 _, keep_drewN hK1 _⟩
    rw [← hnn.out]
    rfl
  · go_ret2
    rename_i h
    have hl := hl.out
    rw [if_neg h, show at_.toNat * (Kd.int .u8).sz = at_.toNat from Nat.mul_one _] at hl
    refine ⟨⟨a.add at_.toNat, c - at_.toNat, ?_, hl, by omega, _, hb1, hg, a, c, rfl, hr, hc, by omega, by omega⟩, pw_below_drewN hB1 _, keep_drewN hK1 _⟩
    rw [← hnn.out]
    rfl
set_option maxHeartbeats 1000000 in
theorem next_bad (g : Nat) (w0 w : World) (b : List Int) (at_ : Int) (bad : Bool) (n : Int) (hI : IsS88 w0 w g b at_ bad) (hB : Below w0.heap.size w0 w) (h : ¬ (bad = false ∧ 0 ≤ n ∧ n ≤ b.length - at_)) :
    Calls Tryd.prog 70 #[.pointer (some ⟨g, 0, none⟩), .int .i64 n] w fun e w' =>
      (e = .returned (.tuple #[.slice none 0 0, .bool false]) ∧ IsS88 w0 w' g b at_ true) ∧ Below w0.heap.size w0 w' ∧ KeepBut w w' g none := by
  obtain ⟨_, hb, hg, a, c, rfl, hr, hc, ha0, ha1⟩ := hI
  have c0 : w.cell? ⟨g, 0, none⟩ = some (.slice (some a) b.length c) := (blk_cell hb 0).trans rfl
  have c1 : w.cell? ⟨g, 1, none⟩ = some (.int .i64 at_) := (blk_cell hb 1).trans rfl
  have c2 : w.cell? ⟨g, 2, none⟩ = some (.bool bad) := (blk_cell hb 2).trans rfl
  have hbl : b.length ≤ 9223372036854775807 := hr.2.1
  have hK := KeepBut.refl w g none
  have f1 := blk_frozen hb 1
  have f2 := blk_frozen hb 2
  cases bad
  · by_cases h0 : n < 0
    · have d0 : decide (n < 0) = true := decide_eq_true h0
      go_enter Tryd.func70, Tryd.ntmps70
      go_wp2_with fail
      go_quiet (fail)
      go_wp2_with fail
      go_ret2
      exact ⟨⟨rfl, _, blk_put (w := w.drewN nq) hb 2 _ rfl, hg, a, c, rfl, hr, hc, ha0, ha1⟩, below_set (pw_below_drewN hB nq) hg, KeepBut.set_ (keep_drewN hK nq) 2 _⟩
    · have d0 : decide (n < 0) = false := decide_eq_false h0
      have hw : IntKind.i64.wrap ((b.length : Int) - at_) = (b.length : Int) - at_ := IntWalk.i64_in _ (by omega)
      have d1 : decide ((b.length : Int) - at_ < n) = true := decide_eq_true (by by_cases h1 : n ≤ b.length - at_; exact absurd ⟨rfl, by omega, h1⟩ h; omega)
      go_enter Tryd.func70, Tryd.ntmps70
      go_wp2_with fail
      go_quiet (fail)
      go_wp2_with fail
      go_ret2
      exact ⟨⟨rfl, _, blk_put (w := w.drewN nq) hb 2 _ rfl, hg, a, c, rfl, hr, hc, ha0, ha1⟩, below_set (pw_below_drewN hB nq) hg, KeepBut.set_ (keep_drewN hK nq) 2 _⟩
  · go_enter Tryd.func70, Tryd.ntmps70
    go_wp2_with fail
    go_ret2
    exact ⟨⟨rfl, _, hb, hg, a, c, rfl, hr, hc, ha0, ha1⟩, hB, hK⟩
end Go.Proofs.YthbcliofjfhmbaaDoor.Given
