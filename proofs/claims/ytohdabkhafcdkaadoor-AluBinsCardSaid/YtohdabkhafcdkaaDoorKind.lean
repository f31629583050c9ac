/- The types' table, and what is told out of it: a type's row, name, bits and sign, for any number; the table lies as the program lays it. -/
import Derived.Test.YtohdabkhafcdkaaDoorWMore
import Derived.Test.YtohdabkhafcdkaaDoorProg
import Derived.Laws.CopyOwn
namespace Go.Proofs.YtohdabkhafcdkaaDoor.Given
open Go Go.RowKit Go.Proofs.YtohdabkhafcdkaaDoorW.PrintWords Go.Proofs.YtohdabkhafcdkaaDoorW.PrintLast Go.Proofs.YtohdabkhafcdkaaDoorW.PrintMore
set_option linter.unusedVariables false
set_option linter.unusedSimpArgs false
def rowsV : List Value := [.string ⟨#[]⟩, .int .i64 0, .bool false, .string ⟨#[66, 79, 79, 76]⟩, .int .i64 1, .bool false, .string ⟨#[73, 78, 84]⟩, .int .i64 16, .bool true, .string ⟨#[68, 73, 78, 84]⟩, .int .i64 32, .bool true, .string ⟨#[87, 79, 82, 68]⟩, .int .i64 16, .bool false, .string ⟨#[68, 87, 79, 82, 68]⟩, .int .i64 32, .bool false, .string ⟨#[84, 73, 77, 69]⟩, .int .i64 64, .bool true]
/-- The table lies as the program lays it. -/
def LaidRows (w : World) : Prop := ∀ i v, rowsV[i]? = some v → w.cell? ⟨0, i, none⟩ = some v
theorem LaidRows.below {w w2 : World} (h : LaidRows w) (hb : Below w.heap.size w w2) : LaidRows w2 := fun i v hv => pw_cell_below hb (h i v hv)
def nameOf (t : Int) : ByteArray := if t = 1 then ⟨#[66, 79, 79, 76]⟩ else if t = 2 then ⟨#[73, 78, 84]⟩ else if t = 3 then ⟨#[68, 73, 78, 84]⟩ else if t = 4 then ⟨#[87, 79, 82, 68]⟩ else if t = 5 then ⟨#[68, 87, 79, 82, 68]⟩ else if t = 6 then ⟨#[84, 73, 77, 69]⟩ else ⟨#[]⟩
def bitsOf (t : Int) : Int := if t = 1 then 1 else if t = 2 then 16 else if t = 3 then 32 else if t = 4 then 16 else if t = 5 then 32 else if t = 6 then 64 else 0
def signedOf (t : Int) : Bool := t == 2 || t == 3 || t == 6
theorem Right_calls (t : Int) (w : World) : Calls Tryd.prog 14 #[.int .i64 t] w fun e w' => e = .returned (.bool (decide (1 ≤ t ∧ t ≤ 6))) ∧ w' = w := by
  by_cases h1 : 1 ≤ t
  · by_cases h2 : t ≤ 6
    · go_enter Tryd.func14, Tryd.ntmps14
      go_wp2
      go_ret
      exact ⟨by simp [h1, h2], rfl⟩
    · go_enter Tryd.func14, Tryd.ntmps14
      go_wp2
      go_ret
      exact ⟨by simp [h1, h2], rfl⟩
  · go_enter Tryd.func14, Tryd.ntmps14
    go_wp2
    go_ret
    exact ⟨by simp [h1]; omega, rfl⟩
def rowOf (t : Int) : Array Value := #[.string (nameOf t), .int .i64 (bitsOf t), .bool (signedOf t)]
theorem of_calls (t : Int) (w : World) (hL : LaidRows w) : Calls Tryd.prog 39 #[.int .i64 t] w fun e w' => e = .returned (.agg (rowOf t)) ∧ Below w.heap.size w w' := by
  by_cases h : 1 ≤ t ∧ t ≤ 6
  · have hR := Aside0.mk (Right_calls t)
    rw [decide_eq_true h] at hR
    have hHL := Aside0.mk hL
    have hgo : ∀ n : Nat, 1 ≤ n → n ≤ 6 → t = n → (∀ w : World, LaidRows w → w.cell? ⟨0, n * 3, none⟩ = some (.string (nameOf t)) ∧ w.cell? ⟨0, n * 3 + 1, none⟩ = some (.int .i64 (bitsOf t)) ∧ w.cell? ⟨0, n * 3 + 2, none⟩ = some (.bool (signedOf t))) := by
      rintro n h1 h2 rfl w hL
      rcases (by omega : n = 1 ∨ n = 2 ∨ n = 3 ∨ n = 4 ∨ n = 5 ∨ n = 6) with rfl | rfl | rfl | rfl | rfl | rfl <;> exact ⟨hL _ _ rfl, hL _ _ rfl, hL _ _ rfl⟩
    obtain ⟨n, hn1, hn2, hn⟩ : ∃ n : Nat, 1 ≤ n ∧ n ≤ 6 ∧ t = n := ⟨t.toNat, by omega, by omega, by omega⟩
    have hc := Aside0.mk (hgo n hn1 hn2 hn)
    unfold rowOf
    generalize nameOf t = N at *
    generalize bitsOf t = B at *
    generalize signedOf t = S at *
    clear hgo hL
    subst hn
    go_enter Tryd.func39, Tryd.ntmps39
    go_wp2_with fail
    refine (hR.out _).mono ?_
    rintro e w1 ⟨rfl, rfl⟩
    obtain ⟨c0, c1, c2⟩ := hc.out _ (hHL.out.below ((Below.refl _ _).alloc (Nat.le_refl _) (.cells #[.string ⟨#[]⟩, .int .i64 0, .bool false] 42)))
    go_wp2_with fail
    exact bodyPost_ret (results_cell_row rfl _ _ w.heap.size 42 _ (0, 0) _ rfl (heap_alloc_new w _) Tryd.underlying42 rfl (by kernel_rfl)) rfl ⟨rfl, (Below.refl _ _).alloc (Nat.le_refl _) _⟩
  · have hd : decide (1 ≤ t ∧ t ≤ 6) = false := decide_eq_false h
    have hr : rowOf t = #[.string ⟨#[]⟩, .int .i64 0, .bool false] := by
      unfold rowOf nameOf bitsOf signedOf
      rw [if_neg (by omega), if_neg (by omega), if_neg (by omega), if_neg (by omega), if_neg (by omega), if_neg (by omega), if_neg (by omega), if_neg (by omega), if_neg (by omega), if_neg (by omega), if_neg (by omega), if_neg (by omega)]
      simp
      omega
    have hR := Aside0.mk (Right_calls t)
    rw [hd] at hR
    go_enter Tryd.func39, Tryd.ntmps39
    go_wp2_with fail
    refine (hR.out _).mono ?_
    rintro e w1 ⟨rfl, rfl⟩
    go_wp2_with fail
    exact bodyPost_ret (results_cell_row rfl _ _ w.heap.size 42 _ (0, 0) _ rfl (heap_alloc_new w _) Tryd.underlying42 rfl (by kernel_rfl)) rfl ⟨by rw [hr], (Below.refl _ _).alloc (Nat.le_refl _) _⟩
theorem kind_Name_calls (t : Int) (w : World) (hL : LaidRows w) : Calls Tryd.prog 16 #[.int .i64 t] w fun e w' => e = .returned (.string (nameOf t)) ∧ Below w.heap.size w w' := by
  have hO := Aside0.mk (of_calls t w hL)
  unfold rowOf at hO
  generalize nameOf t = N at *
  generalize bitsOf t = B at *
  generalize signedOf t = S at *
  clear hL
  have hfd : ∀ w : World, (Instr.field 42 (.agg #[.string N, .int .i64 B, .bool S]) 0).run Tryd.prog w = .ok (.string N) w := fun _ => by kernel_rfl
  go_enter Tryd.func16, Tryd.ntmps16
  go_wp2_with fail
  refine hO.out.mono ?_
  rintro e w1 ⟨rfl, hb⟩
  go_wp2_with fail
  go_ret
  exact ⟨rfl, hb⟩
theorem kind_Bits_calls (t : Int) (w : World) (hL : LaidRows w) : Calls Tryd.prog 20 #[.int .i64 t] w fun e w' => e = .returned (.int .i64 (bitsOf t)) ∧ Below w.heap.size w w' := by
  have hO := Aside0.mk (of_calls t w hL)
  unfold rowOf at hO
  generalize nameOf t = N at *
  generalize bitsOf t = B at *
  generalize signedOf t = S at *
  clear hL
  have hfd : ∀ w : World, (Instr.field 42 (.agg #[.string N, .int .i64 B, .bool S]) 1).run Tryd.prog w = .ok (.int .i64 B) w := fun _ => by kernel_rfl
  go_enter Tryd.func20, Tryd.ntmps20
  go_wp2_with fail
  refine hO.out.mono ?_
  rintro e w1 ⟨rfl, hb⟩
  go_wp2_with fail
  go_ret
  exact ⟨rfl, hb⟩
theorem kind_Signed_calls (t : Int) (w : World) (hL : LaidRows w) : Calls Tryd.prog 22 #[.int .i64 t] w fun e w' => e = .returned (.bool (signedOf t)) ∧ Below w.heap.size w w' := by
  have hO := Aside0.mk (of_calls t w hL)
  unfold rowOf at hO
  generalize nameOf t = N at *
  generalize bitsOf t = B at *
  generalize signedOf t = S at *
  clear hL
  have hfd : ∀ w : World, (Instr.field 42 (.agg #[.string N, .int .i64 B, .bool S]) 2).run Tryd.prog w = .ok (.bool S) w := fun _ => by kernel_rfl
  go_enter Tryd.func22, Tryd.ntmps22
  go_wp2_with fail
  refine hO.out.mono ?_
  rintro e w1 ⟨rfl, hb⟩
  go_wp2_with fail
  go_ret
  exact ⟨rfl, hb⟩
theorem toList_ne {a b : ByteArray} (h : a ≠ b) : (a.toList == b.toList) = false := by
  cases he : (a.toList == b.toList) with
  | false => rfl
  | true =>
    have := eq_of_beq he
    rw [ByteArray.toList_eq, ByteArray.toList_eq] at this
    exact absurd (ByteArray.ext (Array.toList_inj.1 this)) h
def findOf (s : ByteArray) : Nat → Int
  | 0 => 0
  | d + 1 => if nameOf (6 - (d : Int)) = s then 6 - (d : Int) else findOf s d
set_option maxHeartbeats 1000000 in
theorem kind_Find_calls (s : ByteArray) (w : World) (hL : LaidRows w) : Calls Tryd.prog 18 #[.string s] w fun e w' => e = .returned (.int .i64 (findOf s 6)) ∧ Drawn0 w w' := by
  have hHL := Aside0.mk hL
  clear hL
  have hgo : Aside0 (∀ n : Nat, 1 ≤ n → n ≤ 6 → (∀ w : World, LaidRows w → w.cell? ⟨0, n * 3, none⟩ = some (.string (nameOf n)))) := by
    refine ⟨?_⟩
    rintro n h1 h2 w hL
    rcases (by omega : n = 1 ∨ n = 2 ∨ n = 3 ∨ n = 4 ∨ n = 5 ∨ n = 6) with rfl | rfl | rfl | rfl | rfl | rfl <;> exact hL _ _ rfl
  obtain ⟨R, hR⟩ : ∃ R, R = findOf s 6 := ⟨_, rfl⟩
  rw [← hR]
  have HR := Aside0.mk hR
  clear hR
  go_enter Tryd.func18, Tryd.ntmps18
  go_wp2
  go_loopw [3] (fun i wr => ∃ j : Nat, 1 ≤ j ∧ j ≤ 7 ∧ i = .int .i64 j ∧ Aside0 (R = findOf s (7 - j)) ∧ wr = w) (fun i _ => 7 - (intOf i).toNat)
  case atStart => exact ⟨1, by omega, by omega, rfl, HR, rfl⟩
  case round =>
    clear HR
    obtain ⟨j, hj1, hj7, rfl, HR, rfl⟩ := hrel
    by_cases hlt : j < 7
    · have hc := hgo.out j hj1 (by omega) wr hHL.out
      by_cases he : nameOf j = s
      · go_wp2
        go_ret
        refine ⟨?_, Drawn0.refl _⟩
        have hh := HR.out
        rw [show 7 - j = (6 - j) + 1 by omega] at hh
        unfold findOf at hh
        rw [show (6 : Int) - ((6 - j : Nat) : Int) = (j : Int) by omega, if_pos he] at hh
        rw [hh]
        rfl
      · have hq := toList_ne he
        go_wp2
        refine ⟨⟨j + 1, by omega, by omega, rfl, ⟨?_⟩, trivial⟩, by simp [intOf]; omega⟩
        have hh := HR.out
        rw [show 7 - j = (6 - j) + 1 by omega] at hh
        unfold findOf at hh
        rw [show (6 : Int) - ((6 - j : Nat) : Int) = (j : Int) by omega, if_neg he] at hh
        rw [hh, show 7 - (j + 1) = 6 - j by omega]
    · go_wp2
      go_ret
      refine ⟨?_, Drawn0.refl _⟩
      have hh := HR.out
      rw [show 7 - j = 0 by omega] at hh
      rw [hh]
      rfl
/-! As the printed texts call them. -/
def kind_Name.f (a0 : Int) : Option ByteArray := some (nameOf a0)
theorem kind_Name.calls (a0 : Int) (r : ByteArray) (w : World) (h : kind_Name.f a0 = some r) (hL : LaidRows w) :
    Calls Tryd.prog 16 #[.int .i64 a0] w fun e w' => e = .returned (.string r) ∧ Below w.heap.size w w' := by
  obtain rfl := Option.some.inj h
  exact kind_Name_calls a0 w hL
def kind_Bits.f (a0 : Int) : Option Int := some (bitsOf a0)
theorem kind_Bits.calls (a0 : Int) (r : Int) (w : World) (h : kind_Bits.f a0 = some r) (hL : LaidRows w) :
    Calls Tryd.prog 20 #[.int .i64 a0] w fun e w' => e = .returned (.int .i64 r) ∧ Below w.heap.size w w' := by
  obtain rfl := Option.some.inj h
  exact kind_Bits_calls a0 w hL
def kind_Signed.f (a0 : Int) : Option Bool := some (signedOf a0)
theorem kind_Signed.calls (a0 : Int) (r : Bool) (w : World) (h : kind_Signed.f a0 = some r) (hL : LaidRows w) :
    Calls Tryd.prog 22 #[.int .i64 a0] w fun e w' => e = .returned (.bool r) ∧ Below w.heap.size w w' := by
  obtain rfl := Option.some.inj h
  exact kind_Signed_calls a0 w hL
def kind_Find.f (a0 : ByteArray) : Option Int := some (findOf a0 6)
theorem kind_Find.calls (a0 : ByteArray) (r : Int) (w : World) (h : kind_Find.f a0 = some r) (hL : LaidRows w) :
    Calls Tryd.prog 18 #[.string a0] w fun e w' => e = .returned (.int .i64 r) ∧ Below w.heap.size w w' := by
  obtain rfl := Option.some.inj h
  refine (kind_Find_calls a0 w hL).mono ?_
  rintro e w1 ⟨he, m, rfl⟩
  exact ⟨he, pw_below_drewN (Below.refl _ _) m⟩
end Go.Proofs.YtohdabkhafcdkaaDoor.Given
