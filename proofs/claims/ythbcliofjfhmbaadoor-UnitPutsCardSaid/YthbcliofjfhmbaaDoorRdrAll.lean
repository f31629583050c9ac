/- The reader of octets, as the program reads: a text, what is left, where it is, whether it's bad, and a new one; any reader that is not past its end. -/
import Derived.Test.YthbcliofjfhmbaaDoorRdrNum
namespace Go.Proofs.YthbcliofjfhmbaaDoor.Given
set_option linter.unusedVariables false
set_option linter.unusedSimpArgs false
open Go.RowKit Go.Proofs.YthbcliofjfhmbaaDoorW.PrintWords Go.Proofs.YthbcliofjfhmbaaDoorW.PrintLast Go.Proofs.YthbcliofjfhmbaaDoorW.PrintMore
attribute [local go_sem] max2_int min2_int
set_option maxHeartbeats 1000000 in
theorem bad_calls (g : Nat) (w0 w : World) (b : List Int) (at_ : Int) (bad : Bool) (hI : IsS88 w0 w g b at_ bad) :
    Calls Tryd.prog 49 #[.pointer (some ⟨g, 0, none⟩)] w fun e w' => e = .returned (.bool bad) ∧ Drawn0 w w' := by
  obtain ⟨_, hb, hg, a, c, rfl, hr, hc, ha0, ha1⟩ := hI
  have c2 : w.cell? ⟨g, 2, none⟩ = some (.bool bad) := (blk_cell hb 2).trans rfl
  go_enter Tryd.func49, Tryd.ntmps49
  go_wp2_with fail
  go_ret
  exact ⟨rfl, Drawn0.refl _⟩
set_option maxHeartbeats 1000000 in
theorem left_calls (g : Nat) (w0 w : World) (b : List Int) (at_ : Int) (bad : Bool) (hI : IsS88 w0 w g b at_ bad) :
    Calls Tryd.prog 53 #[.pointer (some ⟨g, 0, none⟩)] w fun e w' => e = .returned (.int .i64 (if bad then 0 else b.length - at_)) ∧ Drawn0 w w' := by
  have hbad := Aside0.mk (bad_calls g w0 w b at_ bad hI)
  obtain ⟨_, hb, hg, a, c, rfl, hr, hc, ha0, ha1⟩ := hI
  have c0 : w.cell? ⟨g, 0, none⟩ = some (.slice (some a) b.length c) := (blk_cell hb 0).trans rfl
  have c1 : w.cell? ⟨g, 1, none⟩ = some (.int .i64 at_) := (blk_cell hb 1).trans rfl
  have hbl : b.length ≤ 9223372036854775807 := hr.2.1
  have hw : IntKind.i64.wrap ((b.length : Int) - at_) = (b.length : Int) - at_ := IntWalk.i64_in _ (by omega)
  cases bad
  · go_enter Tryd.func53, Tryd.ntmps53
    go_wp2_with fail
    refine hbad.out.mono ?_
    rintro e w1 ⟨rfl, n, rfl⟩
    go_wp2_with fail
    go_quiet (fail)
    go_wp2_with fail
    go_ret
    exact ⟨rfl, n + nq, rfl⟩
  · go_enter Tryd.func53, Tryd.ntmps53
    go_wp2_with fail
    refine hbad.out.mono ?_
    rintro e w1 ⟨rfl, n, rfl⟩
    go_wp2_with fail
    go_ret
    exact ⟨rfl, n, rfl⟩
/-- What a reader tells of the next n bytes. -/
def okR (b : List Int) (at_ : Int) (bad : Bool) (n : Int) : Prop := bad = false ∧ 0 ≤ n ∧ n ≤ b.length - at_
instance (b : List Int) (at_ : Int) (bad : Bool) (n : Int) : Decidable (okR b at_ bad n) := by unfold okR; infer_instance
def cutR (b : List Int) (at_ n : Int) : List Int := (b.drop at_.toNat).take n.toNat
def numR (b : List Int) (at_ : Int) (bad : Bool) (many : Int) : Int × Int × Bool := if okR b at_ bad (mx 0 (mn many 8)) then (wrap64 (leN (cutR b at_ (mx 0 (mn many 8)))), at_ + mx 0 (mn many 8), false) else (0, at_, true)
def takeR (b : List Int) (at_ : Int) (bad : Bool) (n : Int) : List Int × Int × Bool := if okR b at_ bad n then (cutR b at_ n, at_ + n, false) else ([], at_, true)
def okB (b : List Int) : Bool := b.all (fun x => decide (0 ≤ x) && decide (x < 256)) && decide (b.length ≤ 1000000000)
theorem okB_all {b : List Int} (h : okB b = true) : (∀ x ∈ b, 0 ≤ x ∧ x < 256) ∧ b.length ≤ 1000000000 := by
  unfold okB at h
  simp only [Bool.and_eq_true, List.all_eq_true, decide_eq_true_eq] at h
  exact h
theorem mx8 (many : Int) : 0 ≤ mx 0 (mn many 8) := by unfold mx; split <;> omega
theorem num_calls (g : Nat) (w0 w : World) (b : List Int) (at_ : Int) (bad : Bool) (many : Int) (hI : IsS88 w0 w g b at_ bad) (hB : Below w0.heap.size w0 w) (hb : okB b = true) :
    Calls Tryd.prog 51 #[.pointer (some ⟨g, 0, none⟩), .int .i64 many] w fun e w' =>
      e = .returned (.int .i64 (numR b at_ bad many).1) ∧ IsS88 w0 w' g b (numR b at_ bad many).2.1 (numR b at_ bad many).2.2 ∧ Below w0.heap.size w0 w' ∧ KeepBut w w' g none := by
  unfold numR
  by_cases h : okR b at_ bad (mx 0 (mn many 8))
  · rw [if_pos h]
    obtain ⟨rfl, h0, h1⟩ := h
    exact (num_ok g w0 w b at_ many _ rfl _ rfl hI hB h1 (okB_all hb).1).mono fun e w' ⟨⟨h1, h2⟩, h3, h4⟩ => ⟨h1, h2, h3, h4⟩
  · rw [if_neg h]
    exact (num_bad g w0 w b at_ bad many _ rfl hI hB h).mono fun e w' ⟨⟨h1, h2⟩, h3, h4⟩ => ⟨h1, h2, h3, h4⟩
theorem take_calls (g : Nat) (w0 w : World) (b : List Int) (at_ : Int) (bad : Bool) (n : Int) (hI : IsS88 w0 w g b at_ bad) (hB : Below w0.heap.size w0 w) (hb : okB b = true) :
    Calls Tryd.prog 52 #[.pointer (some ⟨g, 0, none⟩), .int .i64 n] w fun e w' =>
      ∃ v0_ : Value, e = .returned v0_ ∧ Kd.R (Kd.int .u8) 5 w' w.heap.size (fun _ => True) v0_ (takeR b at_ bad n).1 ∧ IsS88 w0 w' g b (takeR b at_ bad n).2.1 (takeR b at_ bad n).2.2 ∧ Below w0.heap.size w0 w' ∧ KeepBut w w' g none := by
  unfold takeR
  by_cases h : okR b at_ bad n
  · rw [if_pos h]
    obtain ⟨rfl, h0, h1⟩ := h
    have ha : 0 ≤ at_ := by obtain ⟨_, _, _, _, _, _, _, _, ha, _⟩ := hI; exact ha
    exact (take_ok g w0 w b at_ n _ rfl hI hB h0 h1 (okB_all hb).2 ha).mono fun e w' ⟨⟨v, h1, h2, h3⟩, h4, h5⟩ => ⟨v, h1, h2, h3, h4, h5⟩
  · rw [if_neg h]
    exact (take_bad g w0 w b at_ bad n hI hB h).mono fun e w' ⟨⟨h1, h2⟩, h3, h4⟩ => ⟨_, h1, Kd.R_nil _ _ _ _ _, h2, h3, h4⟩
/-- A text: as many bytes as the next byte says. -/
def textR (b : List Int) (at_ : Int) (bad : Bool) : ByteArray × Int × Bool :=
  let t := numR b at_ bad 1
  let u := takeR b t.2.1 t.2.2 t.1
  (strOfNums u.1, u.2.1, u.2.2)
set_option maxHeartbeats 1000000 in
theorem text_calls (g : Nat) (w0 w : World) (b : List Int) (at_ : Int) (bad : Bool) (hI : IsS88 w0 w g b at_ bad) (hB : Below w0.heap.size w0 w) (hb : okB b = true) :
    Calls Tryd.prog 48 #[.pointer (some ⟨g, 0, none⟩)] w fun e w' =>
      e = .returned (.string (textR b at_ bad).1) ∧ IsS88 w0 w' g b (textR b at_ bad).2.1 (textR b at_ bad).2.2 ∧ Below w0.heap.size w0 w' ∧ KeepBut w w' g none := by
  unfold textR
  dsimp only
  generalize ht : numR b at_ bad 1 = t
  generalize hu : takeR b t.2.1 t.2.2 t.1 = u
  have HT := Aside0.mk ht
  have HU := Aside0.mk hu
  have HB := Aside0.mk hb
  clear ht hu hb
  go_enter Tryd.func48, Tryd.ntmps48
  go_wp2_with fail
  refine (num_calls g w0 _ b at_ bad 1 hI hB HB.out).mono ?_
  rw [HT.out]
  rintro e w1 ⟨rfl, hI1, hB1, hK1⟩
  go_wp2_with fail
  refine (take_calls g w0 _ b t.2.1 t.2.2 t.1 hI1 hB1 HB.out).mono ?_
  rw [HU.out]
  rintro e w2 ⟨v, rfl, ho, hI2, hB2, hK2⟩
  have hcv := own_string (P := Tryd.prog) Tryd.underlying22 Tryd.underlying5 Tryd.underlying9 (Kd.own_of_R ho)
  go_wp2_with fail
  go_ret
  exact ⟨rfl, hI2, hB2, hK1.trans hK2 (.inl rfl)⟩
set_option maxHeartbeats 1000000 in
theorem new_calls (A0 : Option Addr) (c0 : Nat) (L : List Int) (w : World) (hr0 : Kd.C (Kd.int .u8) w A0 L.length L) (hc0 : L.length ≤ c0) (hl : L.length ≤ 1000000000) :
    Calls Tryd.prog 47 #[.slice A0 L.length c0] w fun e w' => ∃ (w1 : World) (g : Nat), e = .returned (.pointer (some ⟨g, 0, none⟩)) ∧ IsS88 w1 w' g L 0 false ∧ Below w.heap.size w w1 ∧ Below w1.heap.size w1 w' := by
  obtain ⟨Z, hZ⟩ : ∃ Z : List Value, Z.toArray = madeCells #[.int .u8 0] L.length := ⟨_, Array.toArray_toList⟩
  have hZs : Z.length = L.length := by have := congrArg Array.size hZ; simpa [size_madeCells] using this
  have hmk := make_lc (P := Tryd.prog) 22 5 .u8 1 Tryd.underlying22 infoU8 L.length L.length (L.length : Int) (by omega) (by omega) (by omega) (by omega)
  rw [← hZ] at hmk
  have HZ := Aside0.mk hZs
  have HL := Aside0.mk (show L.length ≤ 9223372036854775807 by omega)
  have HC := Aside0.mk hr0
  clear hZ hZs hr0 hl
  go_enter Tryd.func47, Tryd.ntmps47
  go_wp2_with ((with_reducible refine wpList_copy_splice rfl (.tmp 7) (.tmp 8) 22 22 rfl 5 Tryd.underlying22 sizeU8 (some ⟨w.heap.size, 0, none⟩) A0 L.length L.length L.length c0 rfl rfl w.heap.size 0 Z 5 ?hg (nums .u8 L) ?hn ?hpos ?hfit (nums_one _ _) w.heap.size w ((Below.refl _ _).alloc (Nat.le_refl _) _) (Nat.le_refl _) ?_); rotate_left 4; intro w2 HG HB2; have HO := Aside0.mk (own_copied (base := w.heap.size) HZ.out rfl (Nat.le_refl _) HL.out (Nat.le_refl _) HG.out); clear HG)
  case hg => exact heap_alloc_new w _
  case hpos =>
    intro hp
    have hx := C_cells (Kd.C_below HC.out ((Below.refl _ _).alloc (Nat.le_refl _) (.cells Z.toArray 5))) (by rwa [nums_length] at hp)
    first | exact ⟨rfl, hx⟩ | exact hx
  case hn => (simp [nums_length])
  case hfit => (have h1 := HZ.out; have h2 := nums_length .u8 L; omega)
  go_ret
  have hR : Kd.R (Kd.int .u8) 5 w2 w.heap.size (fun _ => True) (.slice (some ⟨w.heap.size, 0, none⟩) L.length L.length) L := Kd.R_of_own HO.out (fun _ _ => trivial)
  have hCC := (Kd.R_reads' hR).2.2
  exact ⟨w2, w2.heap.size, rfl, ⟨_, heap_alloc_new _ _, Nat.le_refl _, ⟨w.heap.size, 0, none⟩, L.length, rfl, hCC, Nat.le_refl _, Int.le_refl _, Int.natCast_nonneg _⟩, HB2, (Below.refl _ _).alloc (Nat.le_refl _) _⟩
end Go.Proofs.YthbcliofjfhmbaaDoor.Given
