/- What the reference of octet puts: the same as the program, for bytes of at most 1000000 in length. -/
import Derived.Test.YthbcliofjfhmbaaDoorGivOct
import Derived.Test.YthbcliofjfhmbaaDoorPUnix6
namespace Go.Proofs.YthbcliofjfhmbaaDoor.UPure
open Go.RowKit Go.Proofs.YthbcliofjfhmbaaDoorW.PrintWords Go.Proofs.YthbcliofjfhmbaaDoorW.PrintLast Go.Proofs.YthbcliofjfhmbaaDoorW.PrintMore Go.Proofs.YthbcliofjfhmbaaDoor.Given Go.Proofs.YthbcliofjfhmbaaDoor.PUni
theorem held_is (a : Int) : ladderbackref03_held.f a = some (mx 0 (mn a 8)) := by
  have e : mx 0 (mn a 8) = if a < 0 then 0 else if a > 8 then 8 else a := by
    unfold mx mn
    split <;> split <;> (try split) <;> (try split) <;> omega
  rw [e]
  unfold ladderbackref03_held.f
  split
  · rfl
  · split <;> rfl
theorem byte_step (v Q : Int) (hQ : 0 < Q) : (v % (256 * Q)) / 256 = (v / 256) % Q ∧ (v % (256 * Q)) % 256 = v % 256 := by
  have h0 : v = 256 * (Q * (v / (256 * Q))) + v % (256 * Q) := by
    have := Int.mul_ediv_add_emod v (256 * Q)
    rw [Int.mul_assoc] at this
    exact this.symm
  have h1 := Int.emod_nonneg v (show 256 * Q ≠ 0 by omega)
  have h2 := Int.emod_lt_of_pos v (show 0 < 256 * Q by omega)
  generalize hq : v / (256 * Q) = q at h0
  generalize hr : v % (256 * Q) = r at h0 h1 h2 ⊢
  have h3 : v / 256 = Q * q + r / 256 := by
    generalize Q * q = z at h0 ⊢
    omega
  refine ⟨?_, ?_⟩
  · rw [h3, Int.add_comm, Int.add_mul_emod_self_left]
    exact (Int.emod_eq_of_lt (by omega) (by omega)).symm
  · generalize Q * q = z at h0
    omega
theorem pow256 (m : Nat) (hm : m ≤ 8) : (256 ^ m : Int) ≤ 18446744073709551616 := by
  rcases (by omega : m = 0 ∨ m = 1 ∨ m = 2 ∨ m = 3 ∨ m = 4 ∨ m = 5 ∨ m = 6 ∨ m = 7 ∨ m = 8) with rfl | rfl | rfl | rfl | rfl | rfl | rfl | rfl | rfl <;> decide
theorem ref_put_loop (l0 : List Int) (a1 a2 : Int) (n : Nat) (hn : mx 0 (mn a1 8) = n) (hn8 : n ≤ 8) (hl : l0.length ≤ 1000000000) : ∀ (d j k : Nat), j + d = n → d < k →
    ladderbackref03_Put.l0 k a1 (l0 ++ le j a2) (sh j a2 % (256 ^ (8 - j) : Int)) j = some (l0 ++ le n a2) := by
  intro d
  induction d with
  | zero =>
    intro j k hj hk
    obtain ⟨k, rfl⟩ : ∃ m, k = m + 1 := ⟨k - 1, by omega⟩
    obtain rfl : j = n := by omega
    simp only [ladderbackref03_Put.l0]
    rw [held_is, hn]
    simp only [Option.bind_some]
    rw [if_neg (by omega)]
  | succ d ih =>
    intro j k hj hk
    obtain ⟨k, rfl⟩ : ∃ m, k = m + 1 := ⟨k - 1, by omega⟩
    simp only [ladderbackref03_Put.l0]
    rw [held_is, hn]
    simp only [Option.bind_some]
    rw [if_pos (by omega), if_pos (by rw [List.length_append, le_length]; omega)]
    have hQ : (256 ^ (8 - j) : Int) = 256 * 256 ^ (8 - (j + 1)) := by
      rw [show 8 - j = (8 - (j + 1)) + 1 from by omega, Int.pow_succ, Int.mul_comm]
    have hp : (0 : Int) < 256 ^ (8 - (j + 1)) := Int.pow_pos (by decide)
    have hs := byte_step (sh j a2) _ hp
    rw [← hQ] at hs
    have h1 := Int.emod_nonneg (sh j a2) (show (256 ^ (8 - j) : Int) ≠ 0 by rw [hQ]; omega)
    have h2 : sh j a2 % (256 ^ (8 - j) : Int) < 18446744073709551616 := by
      refine Int.lt_of_lt_of_le (Int.emod_lt_of_pos _ (by rw [hQ]; omega)) ?_
      exact pow256 _ (by omega)
    have e1 : (sh j a2 % (256 ^ (8 - j) : Int)).tmod 256 % 256 = sh j a2 % 256 := by
      rw [Int.tmod_eq_emod_of_nonneg h1, Int.emod_emod_of_dvd _ (by decide), hs.2]
    have e2 : IntKind.u64.wrap ((sh j a2 % (256 ^ (8 - j) : Int)).tdiv 256) = sh (j + 1) a2 % (256 ^ (8 - (j + 1)) : Int) := by
      rw [Int.tdiv_eq_ediv_of_nonneg h1, IntKind.wrap_u64]
      refine Eq.trans (Int.emod_eq_of_lt (by omega) (by omega)) hs.1
    have e3 : wrap64 ((j : Int) + 1) = ((j + 1 : Nat) : Int) := by unfold wrap64; omega
    rw [e1, e2, e3]
    have := ih (j + 1) k (by omega) (by omega)
    rw [← this]
    simp [le, List.append_assoc]
theorem ref_put (l0 : List Int) (a1 a2 : Int) (hl : l0.length ≤ 1000000000) : ∃ k, ladderbackref03_Put.f k l0 a1 a2 = some (l0 ++ le (mx 0 (mn a1 8)).toNat a2) := by
  have hn := mx_nat a1
  have hn8 : (mx 0 (mn a1 8)).toNat ≤ 8 := by unfold mx mn; split <;> split <;> omega
  refine ⟨9, ?_⟩
  have := ref_put_loop l0 a1 a2 _ hn hn8 hl (mx 0 (mn a1 8)).toNat 0 9 (by omega) (by omega)
  unfold ladderbackref03_Put.f
  simp only [Option.bind_some, List.nil_append, List.length_nil]
  rw [if_pos (by omega)]
  have e : IntKind.u64.wrap a2 = sh 0 a2 % (256 ^ (8 - 0) : Int) := by rw [IntKind.wrap_u64]; rfl
  rw [e]
  simpa [le] using this
theorem bytesOf_take (s : ByteArray) (j : Nat) : bytesOf (s.extract 0 j) = (bytesOf s).take j := by
  unfold bytesOf
  rw [ByteArray.data_extract, Array.toList_extract, List.map_take]
  simp
theorem bytesOf_length (s : ByteArray) : (bytesOf s).length = s.size := by simp [bytesOf]
theorem bytesOf_get (s : ByteArray) (j : Nat) (h : j < s.size) : (bytesOf s)[j]? = some (bt s j) := by
  unfold bytesOf bt
  rw [List.getElem?_map]
  simp [h, ByteArray.getElem_eq_getElem_data]
theorem bytesOf_step (s : ByteArray) (j : Nat) (h : j < s.size) : bytesOf (s.extract 0 (j + 1)) = bytesOf (s.extract 0 j) ++ [bt s j] := by
  rw [bytesOf_take, bytesOf_take, List.take_add_one, bytesOf_get s j h]
  rfl
theorem ref_text_loop (s : ByteArray) (l : List Int) (hl : l.length ≤ 1000000000) (hs : s.size ≤ 1000) : ∀ (d j k : Nat), j + d = s.size → d < k →
    ladderbackref03_Text.l0 k s (l ++ bytesOf (s.extract 0 j)) j = some (l ++ bytesOf s) := by
  intro d
  induction d with
  | zero =>
    intro j k hj hk
    obtain ⟨k, rfl⟩ : ∃ m, k = m + 1 := ⟨k - 1, by omega⟩
    obtain rfl : j = s.size := by omega
    simp only [ladderbackref03_Text.l0]
    rw [if_neg (by omega), ByteArray.extract_zero_size]
  | succ d ih =>
    intro j k hj hk
    obtain ⟨k, rfl⟩ : ∃ m, k = m + 1 := ⟨k - 1, by omega⟩
    simp only [ladderbackref03_Text.l0]
    rw [if_pos (by omega), if_pos (by omega), if_pos (by rw [List.length_append]; simp [bytesOf]; omega)]
    have e3 : wrap64 ((j : Int) + 1) = ((j + 1 : Nat) : Int) := by unfold wrap64; omega
    rw [e3, ← ih (j + 1) k (by omega) (by omega)]
    rw [bytesOf_step s j (by omega), List.append_assoc]
theorem ref_text (l0 : List Int) (s : ByteArray) (hl : l0.length ≤ 1000000) : ∃ k, ladderbackref03_Text.f k l0 s = some (l0 ++ le 1 ((min s.size 255 : Nat) : Int) ++ bytesOf (textOf s)) := by
  have key : ∀ t : ByteArray, t.size ≤ 255 → ∃ k, ladderbackref03_Text.j0 k l0 t = some (l0 ++ le 1 ((t.size : Nat) : Int) ++ bytesOf t) := by
    intro t ht
    refine ⟨t.size + 2, ?_⟩
    simp only [ladderbackref03_Text.j0, Option.bind_some, List.nil_append, List.length_nil]
    rw [if_pos (by omega), if_pos (by omega)]
    have := ref_text_loop t (l0 ++ le 1 (t.size : Int)) (by rw [List.length_append, le_length]; omega) (by omega) t.size 0 (t.size + 1) (by omega) (by omega)
    have e0 : bytesOf (t.extract 0 0) = [] := by rw [bytesOf_take]; rfl
    rw [e0, List.append_nil] at this
    simpa [le, sh] using this
  unfold ladderbackref03_Text.f textOf
  by_cases h : (s.size : Int) > 255
  · have hz : (s.extract 0 255).size = 255 := by rw [ByteArray.size_extract]; omega
    obtain ⟨k, hk⟩ := key (s.extract 0 255) (by omega)
    refine ⟨k, ?_⟩
    rw [if_pos h, if_pos (by omega), if_pos (by omega), hk, show min s.size 255 = 255 by omega, hz]
  · obtain ⟨k, hk⟩ := key s (by omega)
    refine ⟨k, ?_⟩
    rw [if_neg h, hk, show min s.size 255 = s.size by omega, ByteArray.extract_zero_size]
end Go.Proofs.YthbcliofjfhmbaaDoor.UPure
