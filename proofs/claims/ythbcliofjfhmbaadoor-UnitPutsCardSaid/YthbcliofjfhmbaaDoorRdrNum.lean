/- The reader of octets, as the program reads: a number, bytes, a text; any reader that is not past its end. -/
import Derived.Test.YthbcliofjfhmbaaDoorRdr
namespace Go.Proofs.YthbcliofjfhmbaaDoor.Given
set_option linter.unusedVariables false
set_option linter.unusedSimpArgs false
open Go.RowKit Go.Proofs.YthbcliofjfhmbaaDoorW.PrintWords Go.Proofs.YthbcliofjfhmbaaDoorW.PrintLast Go.Proofs.YthbcliofjfhmbaaDoorW.PrintMore
attribute [local go_sem] max2_int min2_int
/-- The number whose bytes are l, the least first. -/
def leN : List Int → Int
  | [] => 0
  | x :: xs => x + 256 * leN xs
theorem leN_app (xs : List Int) (x : Int) : leN (xs ++ [x]) = leN xs + x * 2 ^ (8 * xs.length) := by
  induction xs with
  | nil => simp [leN]
  | cons y ys ih =>
    simp only [List.cons_append, leN, ih, List.length_cons]
    rw [show 8 * (ys.length + 1) = 8 * ys.length + 8 by omega, Int.pow_add, Int.mul_add, Int.add_assoc]
    congr 2
    rw [show (2 : Int) ^ 8 = 256 from rfl, Int.mul_comm 256, Int.mul_assoc]
theorem leN_lim (xs : List Int) (h : ∀ x ∈ xs, 0 ≤ x ∧ x < 256) : 0 ≤ leN xs ∧ leN xs < 2 ^ (8 * xs.length) := by
  induction xs with
  | nil => simp [leN]
  | cons y ys ih =>
    have h1 := h y (by simp)
    have h2 := ih (fun x hx => h x (by simp [hx]))
    simp only [leN, List.length_cons]
    rw [show 8 * (ys.length + 1) = 8 * ys.length + 8 by omega, Int.pow_add, show (2 : Int) ^ 8 = 256 from rfl]
    generalize (2 : Int) ^ (8 * ys.length) = p at *
    omega
theorem ofInt64 (n : Nat) (h : n < 2 ^ 64) : (BitVec.ofInt 64 (n : Int)).toNat = n := by
  rw [BitVec.toNat_ofInt]
  omega
theorem or_add (n x k : Nat) (hn : n < 2 ^ k) (h : x * 2 ^ k + n < 2 ^ 64) : Go.bits .or .u64 (n : Int) ((x * 2 ^ k : Nat) : Int) = ((n + x * 2 ^ k : Nat) : Int) := by
  have e : n ||| x * 2 ^ k = n + x * 2 ^ k := by
    rw [Nat.or_comm, Nat.mul_comm, ← Nat.two_pow_add_eq_or_of_lt hn, Nat.add_comm]
  show IntKind.u64.wrap ((BitVec.ofInt 64 (n : Int) ||| BitVec.ofInt 64 ((x * 2 ^ k : Nat) : Int)).toNat : Int) = _
  rw [BitVec.toNat_or, ofInt64 n (by omega), ofInt64 _ (by omega), e]
  show ((n + x * 2 ^ k : Nat) : Int) % 18446744073709551616 = _
  omega
theorem or_step (v x : Int) (j : Nat) (hj : j < 8) (hv : 0 ≤ v ∧ v < 2 ^ (8 * j)) (hx : 0 ≤ x ∧ x < 256) : Go.bits .or .u64 v (IntKind.u64.wrap (x * 2 ^ (8 * j))) = v + x * 2 ^ (8 * j) := by
  obtain ⟨n, rfl⟩ := Int.eq_ofNat_of_zero_le hv.1
  obtain ⟨y, rfl⟩ := Int.eq_ofNat_of_zero_le hx.1
  have hn : n < 2 ^ (8 * j) := by have := hv.2; exact_mod_cast this
  have hy : y < 256 := by omega
  have hp : y * 2 ^ (8 * j) + n < 2 ^ 64 := by
    have h2 : 2 ^ (8 * j) * 2 ^ (64 - 8 * j) = 2 ^ 64 := by rw [← Nat.pow_add]; congr 1; omega
    have h3 : 256 ≤ 2 ^ (64 - 8 * j) := by
      have : 2 ^ 8 ≤ 2 ^ (64 - 8 * j) := Nat.pow_le_pow_right (by omega) (by omega)
      simpa using this
    have h4 : 2 ^ (8 * j) * 256 ≤ 2 ^ 64 := by rw [← h2]; exact Nat.mul_le_mul_left _ h3
    have h5 : (y + 1) * 2 ^ (8 * j) ≤ 2 ^ (8 * j) * 256 := by rw [Nat.mul_comm]; exact Nat.mul_le_mul_left _ (by omega)
    rw [Nat.add_mul] at h5
    omega
  have e2 : (y : Int) * 2 ^ (8 * j) = ((y * 2 ^ (8 * j) : Nat) : Int) := by push_cast; rfl
  have e3 : IntKind.u64.wrap ((y * 2 ^ (8 * j) : Nat) : Int) = ((y * 2 ^ (8 * j) : Nat) : Int) := by
    show ((y * 2 ^ (8 * j) : Nat) : Int) % 18446744073709551616 = _
    omega
  show Go.bits .or .u64 (n : Int) (IntKind.u64.wrap ((y : Int) * 2 ^ (8 * j))) = (n : Int) + (y : Int) * 2 ^ (8 * j)
  rw [e2, e3, or_add n y _ hn hp]
  push_cast
  rfl
set_option maxHeartbeats 1000000 in
theorem num_ok (g : Nat) (w0 w : World) (b : List Int) (at_ : Int) (many m : Int) (hm : mx 0 (mn many 8) = m) (L : List Int) (hL : L = (b.drop at_.toNat).take m.toNat) (hI : IsS88 w0 w g b at_ false) (hB : Below w0.heap.size w0 w) (h1 : m ≤ b.length - at_) (hb : ∀ x ∈ b, 0 ≤ x ∧ x < 256) :
    Calls Tryd.prog 51 #[.pointer (some ⟨g, 0, none⟩), .int .i64 many] w fun e w' =>
      (e = .returned (.int .i64 (wrap64 (leN L))) ∧ IsS88 w0 w' g b (at_ + m) false) ∧ Below w0.heap.size w0 w' ∧ KeepBut w w' g none := by
  obtain ⟨M, hM⟩ : ∃ M : Int, (if (8 : Int) < many then 8 else many) = M := ⟨_, rfl⟩
  have hN : (if (0 : Int) < M then M else 0) = m := by rw [← hM, ← hm]; unfold mx mn; (repeat' split) <;> omega
  have hm0 : 0 ≤ m := by rw [← hN]; split <;> omega
  have hm8 : m ≤ 8 := by rw [← hN, ← hM]; (repeat' split) <;> omega
  go_enter Tryd.func51, Tryd.ntmps51
  go_wp2_with fail
  refine (next_ok g w0 _ b at_ m hI hB hm0 h1).mono ?_
  rintro e w1 ⟨⟨A, c, rfl, hC, hc, hI1⟩, hB1, hK1⟩
  go_wp2_with fail
  rw [← hL] at hC
  have hlen : L.length = m.toNat := by have := hC.1; omega
  have hcells : ∀ j : Nat, ∀ h : j < L.length, w1.cell? (A.add j) = some (.int .u8 L[j]) := by
    intro j h
    obtain ⟨ad, e, hc⟩ := C_cells (Kd.C_below hC hB1) (by omega)
    cases e
    exact hc j _ (by simp [nums, h])
  have hrange : ∀ x ∈ L, 0 ≤ x ∧ x < 256 := by
    intro x hx
    rw [hL] at hx
    exact hb x (List.mem_of_mem_drop (List.mem_of_mem_take hx))
  have HL := Aside0.mk hrange
  have HN := Aside0.mk hlen
  clear hM hN hm h1 hL hb hrange hlen
  go_loopw [7, 22] (fun x i wr => ∃ j : Nat, j ≤ m.toNat ∧ i = .int .i64 j ∧ x = .int .u64 (leN (L.take j)) ∧ wr = w1) (fun _ i _ => m.toNat - (intOf i).toNat)
  case atStart => exact ⟨0, Nat.zero_le _, rfl, rfl, rfl⟩
  case round =>
    obtain ⟨j, hj, rfl, rfl, rfl⟩ := hrel
    by_cases hlt : j < m.toNat
    · have hlj : j < L.length := by have := HN.out; omega
      have hlen := HN.out
      have hce := hcells j hlj
      have hx := HL.out _ (List.getElem_mem hlj)
      have ht : leN (L.take j) + L[j] * 2 ^ (8 * j) = leN (L.take (j + 1)) := by
        rw [List.take_succ_eq_append_getElem (by omega), leN_app, List.length_take, Nat.min_eq_left (by omega)]
      have hv := leN_lim (L.take j) (fun x h => HL.out x (List.mem_of_mem_take h))
      rw [List.length_take, Nat.min_eq_left (by omega)] at hv
      have ho := Aside0.mk (or_step (leN (L.take j)) L[j] j (by omega) hv hx)
      have ht := Aside0.mk ht
      clear hv
      clear hlen
      go_wp2_with fail
      refine ⟨⟨j + 1, by omega, rfl, ?_, trivial⟩, by simp [intOf]; omega⟩
      rw [ho.out, ht.out]
    · go_wp2_with fail
      go_ret
      have : j = L.length := by have := HN.out; omega
      subst this
      rw [List.take_length] at *
      exact ⟨⟨rfl, hI1⟩, hB1, hK1⟩
set_option maxHeartbeats 1000000 in
theorem num_bad (g : Nat) (w0 w : World) (b : List Int) (at_ : Int) (bad : Bool) (many m : Int) (hm : mx 0 (mn many 8) = m) (hI : IsS88 w0 w g b at_ bad) (hB : Below w0.heap.size w0 w) (h : ¬ (bad = false ∧ 0 ≤ m ∧ m ≤ b.length - at_)) :
    Calls Tryd.prog 51 #[.pointer (some ⟨g, 0, none⟩), .int .i64 many] w fun e w' =>
      (e = .returned (.int .i64 0) ∧ IsS88 w0 w' g b at_ true) ∧ Below w0.heap.size w0 w' ∧ KeepBut w w' g none := by
  obtain ⟨M, hM⟩ : ∃ M : Int, (if (8 : Int) < many then 8 else many) = M := ⟨_, rfl⟩
  have hN : (if (0 : Int) < M then M else 0) = m := by rw [← hM, ← hm]; unfold mx mn; (repeat' split) <;> omega
  go_enter Tryd.func51, Tryd.ntmps51
  go_wp2_with fail
  refine (next_bad g w0 _ b at_ bad m hI hB h).mono ?_
  rintro e w1 ⟨⟨rfl, hI1⟩, hB1, hK1⟩
  go_wp2_with fail
  go_ret
  exact ⟨⟨rfl, hI1⟩, hB1, hK1⟩
set_option maxHeartbeats 1000000 in
theorem take_bad (g : Nat) (w0 w : World) (b : List Int) (at_ : Int) (bad : Bool) (n : Int) (hI : IsS88 w0 w g b at_ bad) (hB : Below w0.heap.size w0 w) (h : ¬ (bad = false ∧ 0 ≤ n ∧ n ≤ b.length - at_)) :
    Calls Tryd.prog 52 #[.pointer (some ⟨g, 0, none⟩), .int .i64 n] w fun e w' =>
      (e = .returned (.slice none 0 0) ∧ IsS88 w0 w' g b at_ true) ∧ Below w0.heap.size w0 w' ∧ KeepBut w w' g none := by
  go_enter Tryd.func52, Tryd.ntmps52
  go_wp2_with fail
  refine (next_bad g w0 _ b at_ bad n hI hB h).mono ?_
  rintro e w1 ⟨⟨rfl, hI1⟩, hB1, hK1⟩
  go_wp2_with fail
  go_ret
  exact ⟨⟨rfl, hI1⟩, hB1, hK1⟩
set_option maxHeartbeats 1000000 in
theorem take_ok (g : Nat) (w0 w : World) (b : List Int) (at_ : Int) (n : Int) (L : List Int) (hL : L = (b.drop at_.toNat).take n.toNat) (hI : IsS88 w0 w g b at_ false) (hB : Below w0.heap.size w0 w) (h0 : 0 ≤ n) (h1 : n ≤ b.length - at_) (hbl : b.length ≤ 1000000000) (ha : 0 ≤ at_) :
    Calls Tryd.prog 52 #[.pointer (some ⟨g, 0, none⟩), .int .i64 n] w fun e w' =>
      (∃ v0_ : Value, e = .returned v0_ ∧ Kd.R (Kd.int .u8) 5 w' w.heap.size (fun _ => True) v0_ L ∧ IsS88 w0 w' g b (at_ + n) false) ∧ Below w0.heap.size w0 w' ∧ KeepBut w w' g none := by
  have hlen : L.length = n.toNat := by rw [hL]; simp; omega
  go_enter Tryd.func52, Tryd.ntmps52
  go_wp2_with fail
  refine (next_ok g w0 _ b at_ n hI hB h0 h1).mono ?_
  rintro e w1 ⟨⟨A, c, rfl, hC, hc, hI1⟩, hB1, hK1⟩
  rw [← hL, ← hlen] at hC
  rw [← hlen] at hc ⊢
  obtain ⟨Z, hZ⟩ : ∃ Z : List Value, Z.toArray = madeCells #[.int .u8 0] L.length := ⟨_, Array.toArray_toList⟩
  have hZs : Z.length = L.length := by have := congrArg Array.size hZ; simpa [size_madeCells] using this
  have hmk := make_lc (P := Tryd.prog) 22 5 .u8 1 Tryd.underlying22 infoU8 L.length L.length (L.length : Int) (by omega) (by omega) (by omega) (by omega)
  rw [← hZ] at hmk
  have HZ := Aside0.mk hZs
  have HL := Aside0.mk (show L.length ≤ 9223372036854775807 by omega)
  have HC := Aside0.mk hC
  clear hL hZ hZs hlen h1 hC
  go_wp2_with ((with_reducible refine wpList_copy_splice rfl (.tmp 19) (.tmp 20) 22 22 rfl 5 Tryd.underlying22 sizeU8 (some ⟨w1.heap.size, 0, none⟩) (some A) L.length L.length L.length c rfl rfl w1.heap.size 0 Z 5 ?hg (nums .u8 L) ?hn ?hpos ?hfit (nums_one _ _) w1.heap.size w1 ((Below.refl _ _).alloc (Nat.le_refl _) _) (Nat.le_refl _) ?_); rotate_left 4; intro w2 HG HB2; have HO := Aside0.mk (own_copied (base := w.heap.size) HZ.out rfl (Nat.le_refl _) HL.out hK1.1 HG.out); clear HG)
  case hg => exact heap_alloc_new w1 _
  case hpos =>
    intro hp
    obtain ⟨ad, e, hx⟩ := C_cells (Kd.C_below HC.out (hB1.alloc hB1.size (.cells Z.toArray 5))) (by rwa [nums_length] at hp)
    cases e
    exact hx
  case hn => (simp [nums_length])
  case hfit => (have h1 := HZ.out; have h2 := nums_length .u8 L; omega)
  go_ret
  exact ⟨⟨_, rfl, Kd.R_of_own HO.out (fun _ _ => trivial), hI1.below HB2⟩, below_then hB1 hB1.size HB2, hK1.trans (KeepBut.of_below HB2 g none) (.inl rfl)⟩
end Go.Proofs.YthbcliofjfhmbaaDoor.Given
